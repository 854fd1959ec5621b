/- Own and printed texts, laid together. -/
import Derived.Test.YtfpkgdenohcglaaChYB
import Derived.Deep.QuietTactic
import Derived.BigQuiet
import Derived.StillTactics
import Derived.Deep.RegionLaw
import Derived.Deep.RegionHeld3
import Derived.Deep.MidRow
import Derived.WideShapes
import Derived.Test.YtfpkgdenohcglaaChYA
import Derived.Great.BuildSlice
import Derived.Lib.SliceRun
import Derived.Laws.CopyRow
import Derived.WalkSpells
-- printed for this claim by a program (pall.sh)
-- mended by fixpz.py
namespace Go.Proofs.Ytfpkgdenohcglaa.PZ
open Go.RowKit Go.Proofs.YtfpkgdenohcglaaW.PrintWords Go.Proofs.YtfpkgdenohcglaaW.PrintLast Go.Proofs.YtfpkgdenohcglaaW.PrintMore
attribute [local go_sem] max2_int min2_int max_two min_two max_three min_three max_four min_four   -- for this text's walks alone
set_option linter.unusedVariables false
set_option linter.unusedSimpArgs false

/-! ### hanaperref01_Num: function 77 -/
def hanaperref01_Num.l0 : Nat → Int → List Int → Option (List Int)
 | 0, _, _ => none
 | k + 1, x0, x3 => if x0 > 0 then ((some (([(Int.tmod x0 256) % 256] : List Int) : List Int)).bind fun y101 => (if y101.length + x3.length < 140737488355328 then (hanaperref01_Num.l0 k (IntKind.u64.wrap (Int.tdiv x0 256)) (y101 ++ x3)) else (none))) else ((some (([((x3.length : Int)) % 256] : List Int) : List Int)).bind fun y107 => (if y107.length + x3.length < 140737488355328 then (some (y107 ++ x3)) else (none)))
def hanaperref01_Num.f (k : Nat) (a0 : Int) : Option (List Int) := hanaperref01_Num.l0 k a0 ([] : List Int)
set_option maxHeartbeats 8000000 in
set_option maxRecDepth 100000 in
theorem hanaperref01_Num.calls (k : Nat) (a0 : Int) (r : List Int) (w : World) (h : hanaperref01_Num.f k a0 = some r) :
  Calls Try.prog 77 #[.int .u64 a0] w fun e w' => ∃ v0_ : Value, e = .returned (v0_) ∧ Kd.R (Kd.int .u8) 5 w' w.heap.size (fun _ => True) v0_ r ∧ Below w.heap.size w w' := by
 have HB := Aside0.mk (Below.refl w.heap.size w)
 have H : (hanaperref01_Num.l0 k a0 ([] : List Int)) = some r := h
 clear h
 have H' := Aside0.mk H
 clear H
 go_enter Try.func77, Try.ntmps77
 go_wp2
 go_loopg [0, 3] k (fun kq v0 v3 w' => ∃ (x0_1 : Int) (x3_1 : List Int), v0 = .int .u64 x0_1 ∧ Aside0 (hanaperref01_Num.l0 kq x0_1 x3_1 = some r) ∧ Aside0 (kq ≤ k) ∧ Aside0 (Kd.R (Kd.int .u8) 5 w' w.heap.size (fun _ => True) v3 x3_1) ∧ Aside0 (Below w.heap.size w w'))
 case atStart => exact ⟨(a0), (([] : List Int)), (by first | rfl | (simp; done) | (simp [*]; done)), H', ⟨Nat.le_refl _⟩, ⟨by first | exact Kd.R_nil _ _ _ _ _ | exact Kd.N_nil _ _ _ _ _ | exact Kd.V_nil _ _ _ _ _ | exact Kd.Q_nil _ _ _ _ _ | exact Kd.S_nil _ _ _ _ _⟩, ⟨by repeat (first | (with_reducible first | exact HB.out | apply below_alloc | apply pw_below_drewN | apply below_drew1) | exact HB.out)⟩⟩
 case round =>
  clear H'
  obtain ⟨x0_1, x3_1, rfl, HA, HK1, HO_3, HB⟩ := hrel
  cases gk with
  | zero => exact absurd HA.out (by simp [hanaperref01_Num.l0])
  | succ k1 =>
   have H := HA.out
   clear HA
   simp only [hanaperref01_Num.l0] at H
   by_cases c2 : x0_1 > 0
   ·rw [if_pos c2] at H
    have c2b0 : decide (0 < x0_1) = true := decide_eq_true c2
    clear c2
    obtain ⟨y101, hy101⟩ : ∃ y_ : List Int, y_ = (([(Int.tmod x0_1 256) % 256] : List Int)) := ⟨_, rfl⟩
    replace H : (if y101.length + x3_1.length < 140737488355328 then (hanaperref01_Num.l0 k1 (IntKind.u64.wrap (Int.tdiv x0_1 256)) (y101 ++ x3_1)) else (none)) = some r := by first | (rw [hy101]; with_reducible exact H) | (have H2_ := (Option.bind_some _ _).symm.trans H; rw [hy101]; with_reducible exact H2_) | (have H2_ := (Option.bind_some _ _).symm.trans H; with_reducible exact H2_) | with_reducible exact H | (rw [hy101]; exact H) | exact H
    have Ny101 := Aside0.mk hy101
    clear hy101
    by_cases c3 : y101.length + x3_1.length < 140737488355328
    ·rw [if_pos c3] at H
     have LMc3 := Aside0.mk c3
     clear c3
     obtain ⟨y104, hy104⟩ : ∃ y_ : List Int, y_ = (y101 ++ x3_1) := ⟨_, rfl⟩
     replace H : (hanaperref01_Num.l0 k1 (IntKind.u64.wrap (Int.tdiv x0_1 256)) y104) = some r := by first | (rw [hy104]; with_reducible exact H) | (have H2_ := (Option.bind_some _ _).symm.trans H; rw [hy104]; with_reducible exact H2_) | (have H2_ := (Option.bind_some _ _).symm.trans H; with_reducible exact H2_) | with_reducible exact H | (rw [hy104]; exact H) | exact H
     have Ny104 := Aside0.mk hy104
     clear hy104
     have H' := Aside0.mk H
     clear H
     go_wp2_with (first | ((with_reducible refine gate_dst (N := 9) rfl ?_); refine Kd.R_lit (Kd.int .u8) _ 5 ?hg (N := 9) ?hd (xs := ([(Int.tmod x0_1 256) % 256] : List Int)) (inner := [.int .u8 ((Int.tmod x0_1 256) % 256)]) (ok := fun _ => True) (okp := fun _ => True) ?hr ?hp (fun _ hk => hk) trivial (Below.refl _ _) (Nat.le_refl _) (by simp) ?_; (case hd => rfl); (case hg => rfl); (case hr => first | (go_simp; done) | (go_simp; rfl)); (case hp => exact (Reps.one (show Kd.M (Kd.int .u8) _ _ _ ((Int.tmod x0_1 256) % 256) [.int .u8 ((Int.tmod x0_1 256) % 256)] from rfl) (Reps.none _ _))); intro v102 w4 ho5 hb hg_ hnew_; clear hg_ hnew_; (first | rw [← Ny101.out] at ho5 | (simp only [Int.reduceToNat] at ho5; rw [← Ny101.out] at ho5)); have n0_ := Aside0.mk (Kd.R_elder' (by (with_reducible repeat (first | apply Kd.R_alloc | apply Kd.R_drewN | apply Kd.R_drew)); exact HO_3.out) (Kd.R_base ho5) hb); have n1_ := Aside0.mk (Kd.R_lower (Kd.R_new' ho5 (Kd.R_lt (by (with_reducible repeat (first | apply Kd.R_alloc | apply Kd.R_drewN | apply Kd.R_drew)); exact HO_3.out))) (below_size (by repeat (first | (with_reducible first | exact HB.out | apply below_alloc | apply pw_below_drewN | apply below_drew1) | exact HB.out)))); have n2_ := Aside0.mk (below_step (by repeat (first | (with_reducible first | exact HB.out | apply below_alloc | apply pw_below_drewN | apply below_drew1) | exact HB.out)) hb); clear HO_3; clear HB; have HO_3 := n0_; have HO103 := n1_; have HB := n2_; clear n0_ n1_ n2_; clear hb ho5; obtain ⟨Ao7, co7, eo7⟩ := Kd.R_slice HO_3.out; subst eo7) | ((with_reducible refine gate_builtin (b := .append) (xs := #[.tmp 9, .tmp 10]) rfl ?_); at_builtin; refine Kd.R_append_rows (Kd.int .u8) (w0 := w) w.heap.size rfl (.tmp 9) (.tmp 10) 25 5 (.int .u8 0) 1 rfl Try.underlying25 info5 rfl (by decide) (by omega) v102 y101 x3_1 _ _ _ (fun k_ => some k_ ≠ (.slice Ao7 x3_1.length co7 : Value).ownBlock) (fun _ => False) rfl rfl ?aO ?aR (fun _ _ h => h) (fun _ h => h.elim) ?aF ?aB ?aS ?aL ?_; (case aR => repeat (first | exact (Kd.R_reads' HO_3.out).2.2 | (with_reducible refine Kd.C_alloc ?_ _) | (with_reducible refine Kd.C_drewN ?_ _) | (with_reducible refine Kd.C_drew ?_))); (case aB => exact (by repeat (first | (with_reducible first | exact HB.out | apply below_alloc | apply pw_below_drewN | apply below_drew1) | exact HB.out))); (case aF => exact (fun k_ hk => Kd.fresh' (Kd.R_lt (by (with_reducible repeat (first | apply Kd.R_alloc | apply Kd.R_drewN | apply Kd.R_drew)); exact HO_3.out)) k_ hk)); (case aO => exact (by (with_reducible repeat (first | apply Kd.R_alloc | apply Kd.R_drewN | apply Kd.R_drew)); exact Kd.R_mono HO103.out (fun _ hk => hk.2))); (case aS => exact (below_size (by repeat (first | (with_reducible first | exact HB.out | apply below_alloc | apply pw_below_drewN | apply below_drew1) | exact HB.out)))); (case aL => have := LMc3.out; omega); intro v105 w6 ho hb hg hat; rw [← Ny104.out] at ho; have n0_ := Aside0.mk (Kd.R_after (ok := (fun _ => True)) (by (with_reducible repeat (first | apply Kd.R_alloc | apply Kd.R_drewN | apply Kd.R_drew)); exact HO_3.out) hg hat); have n1_ := Aside0.mk (hb); have n2_ := Aside0.mk (ho); clear HO_3; clear HB; clear HO103; have HO_3 := n0_; have HB := n1_; have HO106 := n2_; clear n0_ n1_ n2_; clear ho hb hg hat))
     go_roundg k1
     case measure => have := HK1.out; omega
     case rel => exact ⟨(IntKind.u64.wrap (Int.tdiv x0_1 256)), (y104), (by first | rfl | (simp; done) | (simp [*]; done)), H', ⟨by have := HK1.out; omega⟩, ⟨by (with_reducible repeat (first | apply Kd.R_alloc | apply Kd.R_drewN | apply Kd.R_drew)); exact Kd.R_mono HO106.out (fun _ hk => trivial)⟩, ⟨by repeat (first | (with_reducible first | exact HB.out | apply below_alloc | apply pw_below_drewN | apply below_drew1) | exact HB.out)⟩⟩
    ·rw [if_neg c3] at H
     exact absurd H (by simp)
   ·rw [if_neg c2] at H
    have c2b0 : decide (0 < x0_1) = false := decide_eq_false c2
    clear c2
    obtain ⟨y107, hy107⟩ : ∃ y_ : List Int, y_ = (([((x3_1.length : Int)) % 256] : List Int)) := ⟨_, rfl⟩
    replace H : (if y107.length + x3_1.length < 140737488355328 then (some (y107 ++ x3_1)) else (none)) = some r := by first | (rw [hy107]; with_reducible exact H) | (have H2_ := (Option.bind_some _ _).symm.trans H; rw [hy107]; with_reducible exact H2_) | (have H2_ := (Option.bind_some _ _).symm.trans H; with_reducible exact H2_) | with_reducible exact H | (rw [hy107]; exact H) | exact H
    have Ny107 := Aside0.mk hy107
    clear hy107
    by_cases c8 : y107.length + x3_1.length < 140737488355328
    ·rw [if_pos c8] at H
     have LMc8 := Aside0.mk c8
     clear c8
     obtain ⟨y110, hy110⟩ : ∃ y_ : List Int, y_ = (y107 ++ x3_1) := ⟨_, rfl⟩
     replace H : (some y110) = some r := by first | (rw [hy110]; with_reducible exact H) | (have H2_ := (Option.bind_some _ _).symm.trans H; rw [hy110]; with_reducible exact H2_) | (have H2_ := (Option.bind_some _ _).symm.trans H; with_reducible exact H2_) | with_reducible exact H | (rw [hy110]; exact H) | exact H
     have Ny110 := Aside0.mk hy110
     clear hy110
     obtain rfl := Option.some.inj H
     obtain ⟨Ao9, co9, eo9⟩ := Kd.R_slice HO_3.out
     subst eo9
     go_wp2_with (first | ((with_reducible refine gate_dst (N := 17) rfl ?_); refine Kd.R_lit (Kd.int .u8) _ 5 ?hg (N := 17) ?hd (xs := ([((x3_1.length : Int)) % 256] : List Int)) (inner := [.int .u8 (((x3_1.length : Int)) % 256)]) (ok := fun _ => True) (okp := fun _ => True) ?hr ?hp (fun _ hk => hk) trivial (Below.refl _ _) (Nat.le_refl _) (by simp) ?_; (case hd => rfl); (case hg => rfl); (case hr => first | (go_simp; done) | (go_simp; rfl)); (case hp => exact (Reps.one (show Kd.M (Kd.int .u8) _ _ _ (((x3_1.length : Int)) % 256) [.int .u8 (((x3_1.length : Int)) % 256)] from rfl) (Reps.none _ _))); intro v108 w10 ho11 hb hg_ hnew_; clear hg_ hnew_; (first | rw [← Ny107.out] at ho11 | (simp only [Int.reduceToNat] at ho11; rw [← Ny107.out] at ho11)); have n0_ := Aside0.mk (Kd.R_elder' (by (with_reducible repeat (first | apply Kd.R_alloc | apply Kd.R_drewN | apply Kd.R_drew)); exact HO_3.out) (Kd.R_base ho11) hb); have n1_ := Aside0.mk (Kd.R_lower (Kd.R_new' ho11 (Kd.R_lt (by (with_reducible repeat (first | apply Kd.R_alloc | apply Kd.R_drewN | apply Kd.R_drew)); exact HO_3.out))) (below_size (by repeat (first | (with_reducible first | exact HB.out | apply below_alloc | apply pw_below_drewN | apply below_drew1) | exact HB.out)))); have n2_ := Aside0.mk (below_step (by repeat (first | (with_reducible first | exact HB.out | apply below_alloc | apply pw_below_drewN | apply below_drew1) | exact HB.out)) hb); clear HO_3; clear HB; have HO_3 := n0_; have HO109 := n1_; have HB := n2_; clear n0_ n1_ n2_; clear hb ho11) | ((with_reducible refine gate_builtin (b := .append) (xs := #[.tmp 17, .tmp 18]) rfl ?_); at_builtin; refine Kd.R_append_rows (Kd.int .u8) (w0 := w) w.heap.size rfl (.tmp 17) (.tmp 18) 25 5 (.int .u8 0) 1 rfl Try.underlying25 info5 rfl (by decide) (by omega) v108 y107 x3_1 _ _ _ (fun k_ => some k_ ≠ (.slice Ao9 x3_1.length co9 : Value).ownBlock) (fun _ => False) rfl rfl ?aO ?aR (fun _ _ h => h) (fun _ h => h.elim) ?aF ?aB ?aS ?aL ?_; (case aR => repeat (first | exact (Kd.R_reads' HO_3.out).2.2 | (with_reducible refine Kd.C_alloc ?_ _) | (with_reducible refine Kd.C_drewN ?_ _) | (with_reducible refine Kd.C_drew ?_))); (case aB => exact (by repeat (first | (with_reducible first | exact HB.out | apply below_alloc | apply pw_below_drewN | apply below_drew1) | exact HB.out))); (case aF => exact (fun k_ hk => Kd.fresh' (Kd.R_lt (by (with_reducible repeat (first | apply Kd.R_alloc | apply Kd.R_drewN | apply Kd.R_drew)); exact HO_3.out)) k_ hk)); (case aO => exact (by (with_reducible repeat (first | apply Kd.R_alloc | apply Kd.R_drewN | apply Kd.R_drew)); exact Kd.R_mono HO109.out (fun _ hk => hk.2))); (case aS => exact (below_size (by repeat (first | (with_reducible first | exact HB.out | apply below_alloc | apply pw_below_drewN | apply below_drew1) | exact HB.out)))); (case aL => have := LMc8.out; omega); intro v111 w12 ho hb hg hat; rw [← Ny110.out] at ho; have n0_ := Aside0.mk (Kd.R_after (ok := (fun _ => True)) (by (with_reducible repeat (first | apply Kd.R_alloc | apply Kd.R_drewN | apply Kd.R_drew)); exact HO_3.out) hg hat); have n1_ := Aside0.mk (hb); have n2_ := Aside0.mk (ho); clear HO_3; clear HB; clear HO109; have HO_3 := n0_; have HB := n1_; have HO112 := n2_; clear n0_ n1_ n2_; clear ho hb hg hat))
     go_ret
     exact ⟨_, by first | rfl | (simp [errW_none, errW_some] <;> rfl) | (simp [*, errW_none, errW_some] <;> rfl), by (with_reducible repeat (first | apply Kd.R_alloc | apply Kd.R_drewN | apply Kd.R_drew)); exact Kd.R_mono HO112.out (fun _ hk => trivial), by repeat (first | (with_reducible first | exact HB.out | apply below_alloc | apply pw_below_drewN | apply below_drew1) | exact HB.out)⟩
    ·rw [if_neg c8] at H
     exact absurd H (by simp)

end Go.Proofs.Ytfpkgdenohcglaa.PZ
-- printed for this claim by a program (pall.sh)
-- mended by fixpz.py
namespace Go.Proofs.Ytfpkgdenohcglaa.PZ
open Go.RowKit Go.Proofs.YtfpkgdenohcglaaW.PrintWords Go.Proofs.YtfpkgdenohcglaaW.PrintLast Go.Proofs.YtfpkgdenohcglaaW.PrintMore
attribute [local go_sem] max2_int min2_int max_two min_two max_three min_three max_four min_four   -- for this text's walks alone
set_option linter.unusedVariables false
set_option linter.unusedSimpArgs false

/-! ### hanaperref01_Text: function 78 -/
def hanaperref01_Text.f (k : Nat) (l0 : List Int) : Option (List Int) := (hanaperref01_Num.f k (IntKind.u64.wrap ((l0.length : Int)))).bind fun t101 => (if t101.length + l0.length < 140737488355328 then (some (t101 ++ l0)) else (none))
set_option maxHeartbeats 8000000 in
set_option maxRecDepth 100000 in
theorem hanaperref01_Text.calls (k : Nat) (A0 : Option Addr) (c0 : Nat) (l0 : List Int) (r : List Int) (w : World) (hr0 : Kd.C (Kd.int .u8) w A0 l0.length l0) (hc0 : l0.length ≤ c0) (h : hanaperref01_Text.f k l0 = some r) :
  Calls Try.prog 78 #[.slice A0 l0.length c0] w fun e w' => ∃ v0_ : Value, e = .returned (v0_) ∧ Kd.R (Kd.int .u8) 5 w' w.heap.size (fun _ => True) v0_ r ∧ Below w.heap.size w w' := by
 have HR0 := Aside0.mk hr0
 have HC0 := Aside0.mk hc0
 clear hr0 hc0
 have HB := Aside0.mk (Below.refl w.heap.size w)
 have H : ((hanaperref01_Num.f k (IntKind.u64.wrap ((l0.length : Int)))).bind fun t101 => (if t101.length + l0.length < 140737488355328 then (some (t101 ++ l0)) else (none))) = some r := h
 clear h
 replace H := Option.bind_eq_some_iff.mp H
 obtain ⟨t101, A20, H⟩ := H
 replace H : (if t101.length + l0.length < 140737488355328 then (some (t101 ++ l0)) else (none)) = some r := H
 have A2 := Aside0.mk A20
 clear A20
 by_cases c3 : t101.length + l0.length < 140737488355328
 ·rw [if_pos c3] at H
  have LMc3 := Aside0.mk c3
  clear c3
  obtain ⟨y104, hy104⟩ : ∃ y_ : List Int, y_ = (t101 ++ l0) := ⟨_, rfl⟩
  replace H : (some y104) = some r := by first | (rw [hy104]; with_reducible exact H) | (have H2_ := (Option.bind_some _ _).symm.trans H; rw [hy104]; with_reducible exact H2_) | (have H2_ := (Option.bind_some _ _).symm.trans H; with_reducible exact H2_) | with_reducible exact H | (rw [hy104]; exact H) | exact H
  have Ny104 := Aside0.mk hy104
  clear hy104
  obtain rfl := Option.some.inj H
  go_enter Try.func78, Try.ntmps78
  go_wp2_with (first | ((with_reducible refine gate_callee (f := 77) rfl ?_); refine goesL_ (some 6) rfl rfl Try.func77 (by kernel_rfl) rfl #[.int .u64 (IntKind.u64.wrap ((l0.length : Int)))] rfl (by (try simp only [List.map_toArray, List.map_cons, List.map_nil]); first | done | rfl | (simp only [List.length_drop, List.length_take]; rfl)) ?_; (with_reducible refine (hanaperref01_Num.calls k (IntKind.u64.wrap ((l0.length : Int))) t101 _ A2.out).mono ?_); rintro e w4 ⟨v102, rfl, ho0, hb⟩; refine ⟨_, rfl, ?_⟩; have n0_ := Aside0.mk (Kd.R_lower ho0 (below_size (by repeat (first | (with_reducible first | exact HB.out | apply below_alloc | apply pw_below_drewN | apply below_drew1) | exact HB.out)))); have n1_ := Aside0.mk (below_step (by repeat (first | (with_reducible first | exact HB.out | apply below_alloc | apply pw_below_drewN | apply below_drew1) | exact HB.out)) hb); clear HB; have HO103 := n0_; have HB := n1_; clear n0_ n1_; (try clear hb); (try clear hb2); (try clear hk); (try clear hi); (try clear ho0)) | ((with_reducible refine gate_builtin (b := .append) (xs := #[.tmp 6, .tmp 7]) rfl ?_); at_builtin; refine Kd.R_append_rows (Kd.int .u8) (w0 := w) w.heap.size rfl (.tmp 6) (.tmp 7) 25 5 (.int .u8 0) 1 rfl Try.underlying25 info5 rfl (by decide) (by omega) v102 t101 l0 _ _ _ (fun _ => True) (fun _ => False) rfl rfl ?aO ?aR (fun _ _ h => h) (fun _ h => h.elim) ?aF ?aB ?aS ?aL ?_; (case aR => repeat (first | exact (Kd.C_below HR0.out HB.out) | (with_reducible refine Kd.C_alloc ?_ _) | (with_reducible refine Kd.C_drewN ?_ _) | (with_reducible refine Kd.C_drew ?_))); (case aB => exact (by repeat (first | (with_reducible first | exact HB.out | apply below_alloc | apply pw_below_drewN | apply below_drew1) | exact HB.out))); (case aF => exact (fun _ _ => trivial)); (case aO => exact (by (with_reducible repeat (first | apply Kd.R_alloc | apply Kd.R_drewN | apply Kd.R_drew)); exact HO103.out)); (case aS => exact (below_size (by repeat (first | (with_reducible first | exact HB.out | apply below_alloc | apply pw_below_drewN | apply below_drew1) | exact HB.out)))); (case aL => have := LMc3.out; omega); intro v105 w5 ho hb hg hat; rw [← Ny104.out] at ho; have n0_ := Aside0.mk (hb); have n1_ := Aside0.mk (ho); clear HB; clear HO103; have HB := n0_; have HO106 := n1_; clear n0_ n1_; clear ho hb hg hat))
  go_ret
  exact ⟨_, by first | rfl | (simp [errW_none, errW_some] <;> rfl) | (simp [*, errW_none, errW_some] <;> rfl), by (with_reducible repeat (first | apply Kd.R_alloc | apply Kd.R_drewN | apply Kd.R_drew)); exact HO106.out, by repeat (first | (with_reducible first | exact HB.out | apply below_alloc | apply pw_below_drewN | apply below_drew1) | exact HB.out)⟩
 ·rw [if_neg c3] at H
  exact absurd H (by simp)

end Go.Proofs.Ytfpkgdenohcglaa.PZ
-- printed for this claim by a program (pall.sh)
-- mended by fixpz.py
namespace Go.Proofs.Ytfpkgdenohcglaa.PZ
open Go.RowKit Go.Proofs.YtfpkgdenohcglaaW.PrintWords Go.Proofs.YtfpkgdenohcglaaW.PrintLast Go.Proofs.YtfpkgdenohcglaaW.PrintMore
attribute [local go_sem] max2_int min2_int max_two min_two max_three min_three max_four min_four   -- for this text's walks alone
set_option linter.unusedVariables false
set_option linter.unusedSimpArgs false

/-! ### hanaperref01_Int: function 85 -/
def hanaperref01_Int.f (k : Nat) (a0 : Int) : Option (List Int) := (hanaperref01_Num.f k (IntKind.u64.wrap (a0))).bind fun t101 => (some t101)
set_option maxHeartbeats 8000000 in
set_option maxRecDepth 100000 in
theorem hanaperref01_Int.calls (k : Nat) (a0 : Int) (r : List Int) (w : World) (h : hanaperref01_Int.f k a0 = some r) :
  Calls Try.prog 85 #[.int .i64 a0] w fun e w' => ∃ v0_ : Value, e = .returned (v0_) ∧ Kd.R (Kd.int .u8) 5 w' w.heap.size (fun _ => True) v0_ r ∧ Below w.heap.size w w' := by
 have HB := Aside0.mk (Below.refl w.heap.size w)
 have H : ((hanaperref01_Num.f k (IntKind.u64.wrap (a0))).bind fun t101 => (some t101)) = some r := h
 clear h
 replace H := Option.bind_eq_some_iff.mp H
 obtain ⟨t101, A20, H⟩ := H
 replace H : (some t101) = some r := H
 have A2 := Aside0.mk A20
 clear A20
 obtain rfl := Option.some.inj H
 go_enter Try.func85, Try.ntmps85
 go_wp2_with (first | ((with_reducible refine gate_callee (f := 77) rfl ?_); refine goesL_ (some 5) rfl rfl Try.func77 (by kernel_rfl) rfl #[.int .u64 (IntKind.u64.wrap (a0))] rfl (by (try simp only [List.map_toArray, List.map_cons, List.map_nil]); first | done | rfl | (simp only [List.length_drop, List.length_take]; rfl)) ?_; (with_reducible refine (hanaperref01_Num.calls k (IntKind.u64.wrap (a0)) t101 _ A2.out).mono ?_); rintro e w3 ⟨v102, rfl, ho0, hb⟩; refine ⟨_, rfl, ?_⟩; have n0_ := Aside0.mk (Kd.R_lower ho0 (below_size (by repeat (first | (with_reducible first | exact HB.out | apply below_alloc | apply pw_below_drewN | apply below_drew1) | exact HB.out)))); have n1_ := Aside0.mk (below_step (by repeat (first | (with_reducible first | exact HB.out | apply below_alloc | apply pw_below_drewN | apply below_drew1) | exact HB.out)) hb); clear HB; have HO103 := n0_; have HB := n1_; clear n0_ n1_; (try clear hb); (try clear hb2); (try clear hk); (try clear hi); (try clear ho0)))
 go_ret
 exact ⟨_, by first | rfl | (simp [errW_none, errW_some] <;> rfl) | (simp [*, errW_none, errW_some] <;> rfl), by (with_reducible repeat (first | apply Kd.R_alloc | apply Kd.R_drewN | apply Kd.R_drew)); exact HO103.out, by repeat (first | (with_reducible first | exact HB.out | apply below_alloc | apply pw_below_drewN | apply below_drew1) | exact HB.out)⟩

end Go.Proofs.Ytfpkgdenohcglaa.PZ
-- printed for this claim by a program (pall.sh)
-- mended by fixpz.py
namespace Go.Proofs.Ytfpkgdenohcglaa.PZ
open Go.RowKit Go.Proofs.YtfpkgdenohcglaaW.PrintWords Go.Proofs.YtfpkgdenohcglaaW.PrintLast Go.Proofs.YtfpkgdenohcglaaW.PrintMore
attribute [local go_sem] max2_int min2_int max_two min_two max_three min_three max_four min_four   -- for this text's walks alone
set_option linter.unusedVariables false
set_option linter.unusedSimpArgs false

/-! ### hanaperref01_Same: function 23 -/
def hanaperref01_Same.l0 : Nat → List Int → List Int → Int → Option (Bool)
 | 0, _, _, _ => none
 | k + 1, x0, x1, x5 => if x5 < (x0.length : Int) then (if 0 ≤ x5 then (if x5 < (x1.length : Int) then (if (rd x0 x5) = (rd x1 x5) then (hanaperref01_Same.l0 k x0 x1 (wrap64 (x5 + 1))) else (some false)) else (none)) else (none)) else (some true)
def hanaperref01_Same.f (k : Nat) (l0 : List Int) (l1 : List Int) : Option (Bool) := if (l0.length : Int) = (l1.length : Int) then (hanaperref01_Same.l0 k l0 l1 0) else (some false)
set_option maxHeartbeats 8000000 in
set_option maxRecDepth 100000 in
theorem hanaperref01_Same.calls (k : Nat) (A0 : Option Addr) (c0 : Nat) (l0 : List Int) (A1 : Option Addr) (c1 : Nat) (l1 : List Int) (r : Bool) (w : World) (hr0 : Kd.C (Kd.int .u8) w A0 l0.length l0) (hc0 : l0.length ≤ c0) (hr1 : Kd.C (Kd.int .u8) w A1 l1.length l1) (hc1 : l1.length ≤ c1) (h : hanaperref01_Same.f k l0 l1 = some r) :
  Calls Try.prog 23 #[.slice A0 l0.length c0, .slice A1 l1.length c1] w fun e w' => e = .returned (.bool r) ∧ Drawn0 w w' := by
 have HR0 := Aside0.mk hr0
 have HC0 := Aside0.mk hc0
 clear hr0 hc0
 have HR1 := Aside0.mk hr1
 have HC1 := Aside0.mk hc1
 clear hr1 hc1
 have H : (if (l0.length : Int) = (l1.length : Int) then (hanaperref01_Same.l0 k l0 l1 0) else (some false)) = some r := h
 clear h
 by_cases c3 : (l0.length : Int) = (l1.length : Int)
 ·rw [if_pos c3] at H
  have c3b0 : ((l0.length : Int) == (l1.length : Int)) = true := beq_iff_eq.mpr c3
  have c3b1 : ((l0.length : Int) != (l1.length : Int)) = false := bne_eq_false_iff_eq.mpr c3
  have c3b2 : (l0.length == l1.length) = true := by first | simpa using c3 | (simp at c3 ⊢; omega)
  clear c3
  have H' := Aside0.mk H
  clear H
  go_enter Try.func23, Try.ntmps23
  go_wp2
  repeat (go_quiet (fail); try go_wp2)
  go_loopg [5] k (fun kq v5 w' => ∃ (x5_1 : Int), v5 = .int .i64 x5_1 ∧ Aside0 (hanaperref01_Same.l0 kq l0 l1 x5_1 = some r) ∧ Aside0 (kq ≤ k) ∧ Drawn0 w w')
  case atStart => exact ⟨(0), (by first | rfl | (simp; done) | (simp [*]; done)), H', ⟨Nat.le_refl _⟩, by repeat (first | exact Drawn0.refl _ | apply Drawn0.step)⟩
  case round =>
   clear H'
   (try clear c1);(try clear c2);(try clear p2);(try clear c3);(try clear c3b0);(try clear c3b1);(try clear c3b2)
   obtain ⟨x5_1, rfl, HA, HK1, ⟨m1, rfl⟩⟩ := hrel
   cases gk with
   | zero => exact absurd HA.out (by simp [hanaperref01_Same.l0])
   | succ k1 =>
    have H := HA.out
    clear HA
    simp only [hanaperref01_Same.l0] at H
    by_cases c4 : x5_1 < (l0.length : Int)
    ·rw [if_pos c4] at H
     have c4b0 : decide (x5_1 < (l0.length : Int)) = true := decide_eq_true c4
     clear c4
     by_cases c5 : 0 ≤ x5_1
     ·rw [if_pos c5] at H
      have c5b0 : decide (0 ≤ x5_1) = true := decide_eq_true c5
      clear c5
      by_cases c6 : x5_1 < (l1.length : Int)
      ·rw [if_pos c6] at H
       have c6b0 : decide (x5_1 < (l1.length : Int)) = true := decide_eq_true c6
       clear c6
       by_cases c7 : (rd l0 x5_1) = (rd l1 x5_1)
       ·rw [if_pos c7] at H
        have c7b0 : ((rd l0 x5_1) == (rd l1 x5_1)) = true := beq_iff_eq.mpr c7
        have c7b1 : ((rd l0 x5_1) != (rd l1 x5_1)) = false := bne_eq_false_iff_eq.mpr c7
        clear c7
        have H' := Aside0.mk H
        clear H
        have p101 : 0 ≤ (x5_1 : Int) := of_decide_eq_true (by first | (with_reducible assumption) | assumption)
        have q101 : x5_1 < (l0.length : Int) := of_decide_eq_true (by first | (with_reducible assumption) | assumption)
        obtain ⟨ad101, e101, hx101_0⟩ := Kd.at_int HR0.out x5_1 p101 q101
        cases e101
        replace p101 := eq_true p101
        replace q101 := eq_true q101
        have p102 : 0 ≤ (x5_1 : Int) := of_decide_eq_true (by first | (with_reducible assumption) | assumption)
        have q102 : x5_1 < (l1.length : Int) := of_decide_eq_true (by first | (with_reducible assumption) | assumption)
        obtain ⟨ad102, e102, hx102_0⟩ := Kd.at_int HR1.out x5_1 p102 q102
        cases e102
        replace p102 := eq_true p102
        replace q102 := eq_true q102
        go_wp2
        repeat (go_quiet (fail); try go_wp2)
        go_roundg k1
        case measure => have := HK1.out; omega
        case rel => exact ⟨(wrap64 (x5_1 + 1)), (by first | rfl | (simp; done) | (simp [*]; done)), H', ⟨by have := HK1.out; omega⟩, by repeat (first | exact Drawn0.refl _ | apply Drawn0.step)⟩
       ·rw [if_neg c7] at H
        have c7b0 : ((rd l0 x5_1) == (rd l1 x5_1)) = false := beq_eq_false_iff_ne.mpr c7
        have c7b1 : ((rd l0 x5_1) != (rd l1 x5_1)) = true := bne_iff_ne.mpr c7
        obtain rfl := Option.some.inj H
        have p101 : 0 ≤ (x5_1 : Int) := of_decide_eq_true (by first | (with_reducible assumption) | assumption)
        have q101 : x5_1 < (l0.length : Int) := of_decide_eq_true (by first | (with_reducible assumption) | assumption)
        obtain ⟨ad101, e101, hx101_0⟩ := Kd.at_int HR0.out x5_1 p101 q101
        cases e101
        replace p101 := eq_true p101
        replace q101 := eq_true q101
        have p102 : 0 ≤ (x5_1 : Int) := of_decide_eq_true (by first | (with_reducible assumption) | assumption)
        have q102 : x5_1 < (l1.length : Int) := of_decide_eq_true (by first | (with_reducible assumption) | assumption)
        obtain ⟨ad102, e102, hx102_0⟩ := Kd.at_int HR1.out x5_1 p102 q102
        cases e102
        replace p102 := eq_true p102
        replace q102 := eq_true q102
        go_wp2
        repeat (go_quiet (fail); try go_wp2)
        go_ret
        exact ⟨by first | rfl | (simp; done) | (simp [*]; done), by repeat (first | exact Drawn0.refl _ | apply Drawn0.step)⟩
      ·rw [if_neg c6] at H
       exact absurd H (by simp)
     ·rw [if_neg c5] at H
      exact absurd H (by simp)
    ·rw [if_neg c4] at H
     have c4b0 : decide (x5_1 < (l0.length : Int)) = false := decide_eq_false c4
     clear c4
     obtain rfl := Option.some.inj H
     go_wp2
     repeat (go_quiet (fail); try go_wp2)
     go_ret
     exact ⟨by first | rfl | (simp; done) | (simp [*]; done), by repeat (first | exact Drawn0.refl _ | apply Drawn0.step)⟩
 ·rw [if_neg c3] at H
  have c3b0 : ((l0.length : Int) == (l1.length : Int)) = false := beq_eq_false_iff_ne.mpr c3
  have c3b1 : ((l0.length : Int) != (l1.length : Int)) = true := bne_iff_ne.mpr c3
  have c3b2 : (l0.length == l1.length) = false := by first | simpa using c3 | (simp at c3 ⊢; omega)
  obtain rfl := Option.some.inj H
  go_enter Try.func23, Try.ntmps23
  go_wp2
  repeat (go_quiet (fail); try go_wp2)
  go_ret
  exact ⟨by first | rfl | (simp; done) | (simp [*]; done), by repeat (first | exact Drawn0.refl _ | apply Drawn0.step)⟩

end Go.Proofs.Ytfpkgdenohcglaa.PZ
-- printed for this claim by a program (pall.sh)
-- mended by fixpz.py
namespace Go.Proofs.Ytfpkgdenohcglaa.PZ
open Go.RowKit Go.Proofs.YtfpkgdenohcglaaW.PrintWords Go.Proofs.YtfpkgdenohcglaaW.PrintLast Go.Proofs.YtfpkgdenohcglaaW.PrintMore
attribute [local go_sem] max2_int min2_int max_two min_two max_three min_three max_four min_four   -- for this text's walks alone
set_option linter.unusedVariables false
set_option linter.unusedSimpArgs false

end Go.Proofs.Ytfpkgdenohcglaa.PZ
-- printed for this claim by a program (pall.sh)
-- mended by fixpz.py
namespace Go.Proofs.Ytfpkgdenohcglaa.PZ
open Go.RowKit Go.Proofs.YtfpkgdenohcglaaW.PrintWords Go.Proofs.YtfpkgdenohcglaaW.PrintLast Go.Proofs.YtfpkgdenohcglaaW.PrintMore
attribute [local go_sem] max2_int min2_int max_two min_two max_three min_three max_four min_four   -- for this text's walks alone
set_option linter.unusedVariables false
set_option linter.unusedSimpArgs false

end Go.Proofs.Ytfpkgdenohcglaa.PZ
/- What the lowest functions come to: numbers and texts as bytes, lists that are the same. -/
namespace Go.Proofs.Ytfpkgdenohcglaa.Lo
open Go.Proofs.Ytfpkgdenohcglaa.Base Go.Proofs.Ytfpkgdenohcglaa.TlvPlain Go.Proofs.Ytfpkgdenohcglaa.Aid Go.RowKit Go.Proofs.YtfpkgdenohcglaaW.PrintWords Go.Proofs.YtfpkgdenohcglaaW.PrintLast Go.Proofs.YtfpkgdenohcglaaW.PrintMore Go.Proofs.Ytfpkgdenohcglaa.PZ

/-- A number's bytes, the highest first. -/
def be (n : Nat) : List Int := if n = 0 then [] else be (n / 256) ++ [((n % 256 : Nat) : Int)]
termination_by n
decreasing_by omega
def numB (n : Int) : List Int := ((be n.toNat).length : Int) :: be n.toNat
def textB (l : List Int) : List Int := numB l.length ++ l
def intB (n : Int) : List Int := numB (IntKind.u64.wrap n)
theorem be_zero : be 0 = [] := by unfold be; rfl
theorem be_pos {n : Nat} (h : 0 < n) : be n = be (n / 256) ++ [((n % 256 : Nat) : Int)] := by
  rw [be, if_neg (by omega)]
theorem be_len {k : Nat} : ∀ {n : Nat}, n < 256 ^ k → (be n).length ≤ k := by
  induction k with
  | zero => intro n h; have : n = 0 := by omega
            subst this; rw [be_zero]; simp
  | succ k ih =>
    intro n h
    by_cases h0 : n = 0
    · subst h0; rw [be_zero]; simp
    · rw [be_pos (by omega), List.length_append, List.length_singleton]
      have := ih (n := n / 256) (by rw [Nat.pow_succ] at h; omega)
      omega
theorem be_u8 (n : Nat) : U8 (be n) := by
  induction n using Nat.strongRecOn with
  | ind n ih =>
    by_cases h0 : n = 0
    · subst h0; rw [be_zero]; exact U8.nil
    · rw [be_pos (by omega)]
      refine (ih (n / 256) (by omega)).append (U8.cons ?_ U8.nil)
      omega
theorem be_value (n : Nat) : valueB (be n) = n := by
  induction n using Nat.strongRecOn with
  | ind n ih =>
    by_cases h0 : n = 0
    · subst h0; rw [be_zero]; rfl
    · rw [be_pos (by omega), valueB_snoc, ih (n / 256) (by omega)]
      omega
theorem be_head (n : Nat) (h : 0 < n) : ∃ x xs, be n = x :: xs ∧ 0 < x := by
  induction n using Nat.strongRecOn with
  | ind n ih =>
    rw [be_pos h]
    by_cases h0 : n / 256 = 0
    · rw [h0, be_zero]
      exact ⟨_, [], rfl, by omega⟩
    · obtain ⟨x, xs, e, hx⟩ := ih (n / 256) (by omega) (by omega)
      rw [e]
      exact ⟨x, xs ++ [_], rfl, hx⟩
theorem be_len8 {n : Int} (h1 : n ≤ 18446744073709551615) : (be n.toNat).length ≤ 8 := be_len (by
  have : (256 : Nat) ^ 8 = 18446744073709551616 := by decide +kernel
  omega)
theorem numB_len {n : Int} (h1 : n ≤ 18446744073709551615) : (numB n).length ≤ 9 := by
  unfold numB; rw [List.length_cons]; have := be_len8 h1; omega
theorem numB_u8 {n : Int} (h1 : n ≤ 18446744073709551615) : U8 (numB n) := by
  unfold numB
  have := be_len8 h1
  exact U8.cons (by omega) (be_u8 _)
theorem u64_range (n : Int) : 0 ≤ IntKind.u64.wrap n ∧ IntKind.u64.wrap n ≤ 18446744073709551615 := by
  have : IntKind.u64.wrap n = n % 18446744073709551616 := by
    simp [IntKind.wrap, IntKind.signed, IntKind.bits]
  rw [this]; omega

/-! ### Num, as the program has it -/
theorem num_fill (w : Int) : ∀ (i m : Nat) (t : List Int), (be m).length = i → m ≤ 18446744073709551615 → i ≤ 8 →
    Ev (fun k => tlv_Num.l1 k (m : Int) (w :: (List.replicate i 0 ++ t)) (i : Int)) (w :: (be m ++ t)) := by
  intro i
  induction i with
  | zero =>
    intro m t hi hm h8
    refine Ev.step (fun k => by simp only [tlv_Num.l1]; rfl) ?_
    refine neg (by omega) (now ?_)
    have : be m = [] := List.length_eq_zero_iff.1 hi
    rw [this]; rfl
  | succ i ih =>
    intro m t hi hm h8
    have hm0 : 0 < m := by
      rcases Nat.eq_zero_or_pos m with h | h
      · subst h; rw [be_zero] at hi; cases hi
      · exact h
    have hb := be_pos hm0
    refine Ev.step (fun k => by simp only [tlv_Num.l1]; rfl) ?_
    refine pos (by omega) (pos (by omega) (pos (by simp; omega) ?_))
    have e1 : wrap64 (((i + 1 : Nat) : Int) - 1) = (i : Int) := by rw [w64 (by omega) (by omega)]; omega
    have e2 : ((m : Int) % 256) = ((m % 256 : Nat) : Int) := by omega
    have e3 : ((m : Int) / 256) = ((m / 256 : Nat) : Int) := by omega
    have e4 : (w :: (List.replicate (i + 1) 0 ++ t)).set (((i + 1 : Nat) : Int)).toNat ((m : Int) % 256) = w :: (List.replicate i 0 ++ (((m % 256 : Nat) : Int) :: t)) := by
      rw [Int.toNat_natCast, List.set_cons_succ, e2, List.replicate_succ']
      congr 1
      rw [List.append_assoc, List.set_append_right _ _ (by simp)]
      simp
    rw [e1, e3, e4]
    have := ih (m / 256) (((m % 256 : Nat) : Int) :: t) (by rw [hb] at hi; simpa using hi) (by omega) (by omega)
    rw [hb, List.append_assoc]
    exact this
theorem num_count (n : Int) (hn0 : 0 ≤ n) (hn1 : n ≤ 18446744073709551615) : ∀ (m c : Nat), c + (be m).length = (be n.toNat).length → m ≤ 18446744073709551615 →
    Ev (fun k => tlv_Num.l0 k n (c : Int) (m : Int)) (numB n) := by
  intro m
  induction m using Nat.strongRecOn with
  | ind m ih =>
    intro c hc hm
    have h8 := be_len8 hn1
    refine Ev.step (fun k => by simp only [tlv_Num.l0]; rfl) ?_
    by_cases h0 : m = 0
    · subst h0
      rw [be_zero] at hc
      simp only [List.length_nil, Nat.add_zero] at hc
      have e1 : wrap64 (1 + (c : Int)) = ((c + 1 : Nat) : Int) := by rw [w64 (by omega) (by omega)]; omega
      rw [e1, Int.toNat_natCast]
      refine neg (by omega) (pos (by omega) (pos (by omega) ?_))
      refine bindSome rfl (pos (by simp) ?_)
      have e2 : (List.replicate (c + 1) (0 : Int)).set ((0 : Int)).toNat ((c : Int) % 256) = (c : Int) :: (List.replicate c 0 ++ []) := by
        rw [List.replicate_succ, show ((0 : Int)).toNat = 0 from rfl, List.set_cons_zero, List.append_nil, Int.emod_eq_of_lt (by omega) (by omega)]
      rw [e2]
      obtain ⟨q, rfl⟩ := Int.eq_ofNat_of_zero_le hn0
      have := num_fill (c : Int) c q [] (by rw [hc]; rfl) (by omega) (by omega)
      unfold numB
      rw [Int.toNat_natCast] at hc ⊢
      rw [← hc]
      simpa using this
    · refine pos (by omega) ?_
      have hb := be_pos (show 0 < m by omega)
      rw [hb, List.length_append, List.length_singleton] at hc
      have e1 : wrap64 ((c : Int) + 1) = ((c + 1 : Nat) : Int) := by rw [w64 (by omega) (by omega)]; omega
      have e3 : ((m : Int) / 256) = ((m / 256 : Nat) : Int) := by omega
      rw [e1, e3]
      exact ih (m / 256) (by omega) (c + 1) (by omega) (by omega)
theorem num_ev (n : Int) (hn0 : 0 ≤ n) (hn1 : n ≤ 18446744073709551615) : Ev (fun k => tlv_Num.f k n) (numB n) := by
  have := num_count n hn0 hn1 n.toNat 0 (by omega) (by omega)
  rw [show ((n.toNat : Nat) : Int) = n from by omega] at this
  exact this
/-! ### Num, as the document has it -/
theorem rnum_loop : ∀ (m : Nat) (t : List Int), m ≤ 18446744073709551615 → (be m).length + t.length ≤ 8 →
    Ev (fun k => hanaperref01_Num.l0 k (m : Int) t) ((((be m ++ t).length : Nat) : Int) :: (be m ++ t)) := by
  intro m
  induction m using Nat.strongRecOn with
  | ind m ih =>
    intro t hm ht
    refine Ev.step (fun k => by simp only [hanaperref01_Num.l0]; rfl) ?_
    by_cases h0 : m = 0
    · subst h0
      refine neg (by omega) (bindSome rfl (pos (by simp; omega) (now ?_)))
      rw [be_zero] at ht ⊢
      simp only [List.length_nil] at ht
      rw [Int.emod_eq_of_lt (by omega) (by omega)]; rfl
    · refine pos (by omega) (bindSome rfl (pos (by simp; omega) ?_))
      have hb := be_pos (show 0 < m by omega)
      rw [hb, List.length_append, List.length_singleton] at ht
      have e1 : IntKind.u64.wrap (Int.tdiv (m : Int) 256) = ((m / 256 : Nat) : Int) := by
        rw [Int.tdiv_eq_ediv_of_nonneg (by omega), u64 (by omega) (by omega)]; omega
      have e2 : (Int.tmod (m : Int) 256) % 256 = ((m % 256 : Nat) : Int) := by
        rw [Int.tmod_eq_emod_of_nonneg (by omega)]; omega
      rw [e1, e2, hb, List.append_assoc]
      exact ih (m / 256) (by omega) _ (by omega) (by simp; omega)
theorem rnum_ev (n : Int) (hn0 : 0 ≤ n) (hn1 : n ≤ 18446744073709551615) : Ev (fun k => hanaperref01_Num.f k n) (numB n) := by
  have := rnum_loop n.toNat [] (by omega) (by have := be_len8 hn1; simpa using this)
  rw [show ((n.toNat : Nat) : Int) = n from by omega, List.append_nil] at this
  exact this
/-! ### texts and ints -/
theorem len_u64 (l : List Int) (h : l.length < 140737488355000) : IntKind.u64.wrap ((l.length : Nat) : Int) = l.length := u64 (by omega) (by omega)
theorem text_ev (l : List Int) (h : l.length < 140737488355000) : Ev (fun k => tlv_Text.f k l) (textB l) := by
  unfold tlv_Text.f
  rw [len_u64 l h]
  refine evBind (num_ev _ (by omega) (by omega)) (pos ?_ (now rfl))
  have := numB_len (n := (l.length : Int)) (by omega)
  omega
theorem rtext_ev (l : List Int) (h : l.length < 140737488355000) : Ev (fun k => hanaperref01_Text.f k l) (textB l) := by
  unfold hanaperref01_Text.f
  rw [len_u64 l h]
  refine evBind (rnum_ev _ (by omega) (by omega)) (pos ?_ (now rfl))
  have := numB_len (n := (l.length : Int)) (by omega)
  omega
theorem int_ev (n : Int) : Ev (fun k => tlv_Int.f k n) (intB n) := by
  unfold tlv_Int.f
  exact evBind (num_ev _ (u64_range n).1 (u64_range n).2) (now rfl)
theorem rint_ev (n : Int) : Ev (fun k => hanaperref01_Int.f k n) (intB n) := by
  unfold hanaperref01_Int.f
  exact evBind (rnum_ev _ (u64_range n).1 (u64_range n).2) (now rfl)
/-! ### lists that are the same -/
theorem same_from (a b : List Int) (hl : a.length = b.length) (hn : a.length ≤ 4611686018427387904) : ∀ (d i : Nat), i + d = a.length →
    Ev (fun k => hanaperref01_Same.l0 k a b i) (decide (a.drop i = b.drop i)) := by
  intro d
  induction d with
  | zero =>
    intro i hi
    refine Ev.step (fun k => by simp only [hanaperref01_Same.l0]; rfl) ?_
    refine neg (by omega) (now ?_)
    rw [List.drop_of_length_le (by omega), List.drop_of_length_le (by omega)]; simp
  | succ d ih =>
    intro i hi
    refine Ev.step (fun k => by simp only [hanaperref01_Same.l0]; rfl) ?_
    refine pos (by omega) (pos (by omega) (pos (by omega) ?_))
    rw [rd_nat a i (by omega), rd_nat b i (by omega), drop_cons a i (by omega), drop_cons b i (by omega), inc (show i < a.length by omega) hn]
    by_cases e : a[i]'(by omega) = b[i]'(by omega)
    · refine pos e ?_
      have := ih (i + 1) (by omega)
      generalize a.drop (i + 1) = A at this ⊢
      generalize b.drop (i + 1) = B at this ⊢
      simpa [e] using this
    · refine neg e (now ?_)
      generalize a.drop (i + 1) = A
      generalize b.drop (i + 1) = B
      simp [e]
theorem same_ev (a b : List Int) (hn : a.length ≤ 4611686018427387904) : Ev (fun k => hanaperref01_Same.f k a b) (decide (a = b)) := by
  unfold hanaperref01_Same.f
  by_cases e : a.length = b.length
  · refine pos (by omega) ?_
    simpa using same_from a b e hn a.length 0 (by omega)
  · refine neg (by omega) (now ?_)
    have : a ≠ b := fun h => e (by rw [h])
    simp [this]
/-! ### what was put is read -/
theorem numO_numB (n : Int) (hn0 : 0 ≤ n) (hn1 : n ≤ 18446744073709551615) (rest : List Int) : numO (some (numB n ++ rest)) = (n, some rest) := by
  have h8 := be_len8 hn1
  unfold numB numO
  simp only [List.cons_append]
  rw [if_neg (by omega), if_neg (by rw [List.length_append]; omega), if_neg, Int.toNat_natCast]
  · rw [List.take_left', List.drop_left', be_value]
    · rw [Int.toNat_of_nonneg hn0]
    · rfl
    · rfl
  · rintro ⟨h1, h2⟩
    have : 0 < n.toNat := by
      rcases Nat.eq_zero_or_pos n.toNat with h | h
      · rw [h, be_zero] at h1; simp at h1
      · exact h
    obtain ⟨x, xs, e, hx⟩ := be_head n.toNat this
    rw [e] at h2
    simp at h2
    omega
end Go.Proofs.Ytfpkgdenohcglaa.Lo
/- The lowest functions, each with what it answers. -/
namespace Go.Proofs.Ytfpkgdenohcglaa.Lo
open Go.Proofs.Ytfpkgdenohcglaa.Base Go.Proofs.Ytfpkgdenohcglaa.TlvPlain Go.Proofs.Ytfpkgdenohcglaa.Aid Go.RowKit Go.Proofs.YtfpkgdenohcglaaW.PrintWords Go.Proofs.YtfpkgdenohcglaaW.PrintLast Go.Proofs.YtfpkgdenohcglaaW.PrintMore Go.Proofs.Ytfpkgdenohcglaa.PZ

/-- New bytes. -/
def Makes (w : World) (bs : List Int) (e : Ending) (w' : World) : Prop := ∃ v : Value, e = .returned v ∧ Ob w' w.heap.size v bs ∧ Below w.heap.size w w'
theorem same_c (A0 : Option Addr) (c0 : Nat) (a : List Int) (A1 : Option Addr) (c1 : Nat) (b : List Int) (w : World) (h0 : Rb w A0 a) (hc0 : a.length ≤ c0) (h1 : Rb w A1 b) (hc1 : b.length ≤ c1) (hn : a.length ≤ 4611686018427387904) :
    Calls Try.prog 23 #[.slice A0 a.length c0, .slice A1 b.length c1] w fun e w' => e = .returned (.bool (decide (a = b))) ∧ Drawn0 w w' := by
  obtain ⟨k, h⟩ := (same_ev a b hn).rounds
  exact hanaperref01_Same.calls k A0 c0 a A1 c1 b _ w h0 hc0 h1 hc1 h
theorem num_c (n : Int) (w : World) (h0 : 0 ≤ n) (h1 : n ≤ 18446744073709551615) : Calls Try.prog 65 #[.int .u64 n] w (Makes w (numB n)) := by
  obtain ⟨k, h⟩ := (num_ev n h0 h1).rounds
  exact tlv_Num.calls k n _ w h
theorem text_c (A0 : Option Addr) (c0 : Nat) (l : List Int) (w : World) (hr : Rb w A0 l) (hc : l.length ≤ c0) (hl : l.length < 140737488355000) : Calls Try.prog 66 #[.slice A0 l.length c0] w (Makes w (textB l)) := by
  obtain ⟨k, h⟩ := (text_ev l hl).rounds
  exact tlv_Text.calls k A0 c0 l _ w hr hc h
theorem int_c (n : Int) (w : World) : Calls Try.prog 84 #[.int .i64 n] w (Makes w (intB n)) := by
  obtain ⟨k, h⟩ := (int_ev n).rounds
  exact tlv_Int.calls k n _ w h
theorem rint_c (n : Int) (w : World) : Calls Try.prog 85 #[.int .i64 n] w (Makes w (intB n)) := by
  obtain ⟨k, h⟩ := (rint_ev n).rounds
  exact hanaperref01_Int.calls k n _ w h
end Go.Proofs.Ytfpkgdenohcglaa.Lo

-- printed for this claim by a program (pall.sh)
-- mended by fixpz.py
namespace Go.Proofs.Ytfpkgdenohcglaa.PZ
open Go.RowKit Go.Proofs.YtfpkgdenohcglaaW.PrintWords Go.Proofs.YtfpkgdenohcglaaW.PrintLast Go.Proofs.YtfpkgdenohcglaaW.PrintMore
attribute [local go_sem] max2_int min2_int max_two min_two max_three min_three max_four min_four   -- for this text's walks alone
set_option linter.unusedVariables false
set_option linter.unusedSimpArgs false

/-! ### hanaperref07_Text: function 39 -/
def hanaperref07_Text.f (k : Nat) (a0 : Int) (l1 : List Int) : Option (List Int) := (some (([1] : List Int) : List Int)).bind fun y101 => ((hanaperref01_Num.f k a0).bind fun t104 => (if y101.length + t104.length < 140737488355328 then ((some (y101 ++ t104 : List Int)).bind fun y107 => ((hanaperref01_Text.f k l1).bind fun t110 => (if y107.length + t110.length < 140737488355328 then (some (y107 ++ t110)) else (none)))) else (none)))
set_option maxHeartbeats 8000000 in
set_option maxRecDepth 100000 in
theorem hanaperref07_Text.calls (k : Nat) (a0 : Int) (A1 : Option Addr) (c1 : Nat) (l1 : List Int) (r : List Int) (w : World) (hr1 : Kd.C (Kd.int .u8) w A1 l1.length l1) (hc1 : l1.length ≤ c1) (h : hanaperref07_Text.f k a0 l1 = some r) :
  Calls Try.prog 39 #[.int .u64 a0, .slice A1 l1.length c1] w fun e w' => ∃ v0_ : Value, e = .returned (v0_) ∧ Kd.R (Kd.int .u8) 5 w' w.heap.size (fun _ => True) v0_ r ∧ Below w.heap.size w w' := by
 have HR1 := Aside0.mk hr1
 have HC1 := Aside0.mk hc1
 clear hr1 hc1
 have HB := Aside0.mk (Below.refl w.heap.size w)
 have H : ((some (([1] : List Int) : List Int)).bind fun y101 => ((hanaperref01_Num.f k a0).bind fun t104 => (if y101.length + t104.length < 140737488355328 then ((some (y101 ++ t104 : List Int)).bind fun y107 => ((hanaperref01_Text.f k l1).bind fun t110 => (if y107.length + t110.length < 140737488355328 then (some (y107 ++ t110)) else (none)))) else (none)))) = some r := h
 clear h
 obtain ⟨y101, hy101⟩ : ∃ y_ : List Int, y_ = (([1] : List Int)) := ⟨_, rfl⟩
 replace H : ((hanaperref01_Num.f k a0).bind fun t104 => (if y101.length + t104.length < 140737488355328 then ((some (y101 ++ t104 : List Int)).bind fun y107 => ((hanaperref01_Text.f k l1).bind fun t110 => (if y107.length + t110.length < 140737488355328 then (some (y107 ++ t110)) else (none)))) else (none))) = some r := by first | (rw [hy101]; with_reducible exact H) | (have H2_ := (Option.bind_some _ _).symm.trans H; rw [hy101]; with_reducible exact H2_) | (have H2_ := (Option.bind_some _ _).symm.trans H; with_reducible exact H2_) | with_reducible exact H | (rw [hy101]; exact H) | exact H
 have Ny101 := Aside0.mk hy101
 clear hy101
 replace H := Option.bind_eq_some_iff.mp H
 obtain ⟨t104, A30, H⟩ := H
 replace H : (if y101.length + t104.length < 140737488355328 then ((some (y101 ++ t104 : List Int)).bind fun y107 => ((hanaperref01_Text.f k l1).bind fun t110 => (if y107.length + t110.length < 140737488355328 then (some (y107 ++ t110)) else (none)))) else (none)) = some r := H
 have A3 := Aside0.mk A30
 clear A30
 by_cases c4 : y101.length + t104.length < 140737488355328
 ·rw [if_pos c4] at H
  have LMc4 := Aside0.mk c4
  clear c4
  obtain ⟨y107, hy107⟩ : ∃ y_ : List Int, y_ = (y101 ++ t104) := ⟨_, rfl⟩
  replace H : ((hanaperref01_Text.f k l1).bind fun t110 => (if y107.length + t110.length < 140737488355328 then (some (y107 ++ t110)) else (none))) = some r := by first | (rw [hy107]; with_reducible exact H) | (have H2_ := (Option.bind_some _ _).symm.trans H; rw [hy107]; with_reducible exact H2_) | (have H2_ := (Option.bind_some _ _).symm.trans H; with_reducible exact H2_) | with_reducible exact H | (rw [hy107]; exact H) | exact H
  have Ny107 := Aside0.mk hy107
  clear hy107
  replace H := Option.bind_eq_some_iff.mp H
  obtain ⟨t110, A50, H⟩ := H
  replace H : (if y107.length + t110.length < 140737488355328 then (some (y107 ++ t110)) else (none)) = some r := H
  have A5 := Aside0.mk A50
  clear A50
  by_cases c6 : y107.length + t110.length < 140737488355328
  ·rw [if_pos c6] at H
   have LMc6 := Aside0.mk c6
   clear c6
   obtain ⟨y113, hy113⟩ : ∃ y_ : List Int, y_ = (y107 ++ t110) := ⟨_, rfl⟩
   replace H : (some y113) = some r := by first | (rw [hy113]; with_reducible exact H) | (have H2_ := (Option.bind_some _ _).symm.trans H; rw [hy113]; with_reducible exact H2_) | (have H2_ := (Option.bind_some _ _).symm.trans H; with_reducible exact H2_) | with_reducible exact H | (rw [hy113]; exact H) | exact H
   have Ny113 := Aside0.mk hy113
   clear hy113
   obtain rfl := Option.some.inj H
   go_enter Try.func39, Try.ntmps39
   go_wp2_with (first | ((with_reducible refine gate_dst (N := 5) rfl ?_); refine Kd.R_lit (Kd.int .u8) _ 5 ?hg (N := 5) ?hd (xs := ([1] : List Int)) (inner := [.int .u8 1]) (ok := fun _ => True) (okp := fun _ => True) ?hr ?hp (fun _ hk => hk) trivial (Below.refl _ _) (Nat.le_refl _) (by simp) ?_; (case hd => rfl); (case hg => rfl); (case hr => first | (go_simp; done) | (go_simp; rfl)); (case hp => exact (Reps.one (show Kd.M (Kd.int .u8) _ _ _ 1 [.int .u8 1] from rfl) (Reps.none _ _))); intro v102 w7 ho8 hb hg_ hnew_; clear hg_ hnew_; (first | rw [← Ny101.out] at ho8 | (simp only [Int.reduceToNat] at ho8; rw [← Ny101.out] at ho8)); have n0_ := Aside0.mk (Kd.R_lower ho8 (below_size (by repeat (first | (with_reducible first | exact HB.out | apply below_alloc | apply pw_below_drewN | apply below_drew1) | exact HB.out)))); have n1_ := Aside0.mk (below_step (by repeat (first | (with_reducible first | exact HB.out | apply below_alloc | apply pw_below_drewN | apply below_drew1) | exact HB.out)) hb); clear HB; have HO103 := n0_; have HB := n1_; clear n0_ n1_; clear hb ho8) | ((with_reducible refine gate_callee (f := 77) rfl ?_); refine goesL_ (some 7) rfl rfl Try.func77 (by kernel_rfl) rfl #[.int .u64 a0] rfl (by (try simp only [List.map_toArray, List.map_cons, List.map_nil]); first | done | rfl | (simp only [List.length_drop, List.length_take]; rfl)) ?_; (with_reducible refine (hanaperref01_Num.calls k a0 t104 _ A3.out).mono ?_); rintro e w9 ⟨v105, rfl, ho0, hb⟩; refine ⟨_, rfl, ?_⟩; have n0_ := Aside0.mk (Kd.R_elder' (by (with_reducible repeat (first | apply Kd.R_alloc | apply Kd.R_drewN | apply Kd.R_drew)); exact HO103.out) (Kd.R_base ho0) hb); have n1_ := Aside0.mk (Kd.R_lower (Kd.R_new' ho0 (Kd.R_lt (by (with_reducible repeat (first | apply Kd.R_alloc | apply Kd.R_drewN | apply Kd.R_drew)); exact HO103.out))) (below_size (by repeat (first | (with_reducible first | exact HB.out | apply below_alloc | apply pw_below_drewN | apply below_drew1) | exact HB.out)))); have n2_ := Aside0.mk (below_step (by repeat (first | (with_reducible first | exact HB.out | apply below_alloc | apply pw_below_drewN | apply below_drew1) | exact HB.out)) hb); clear HO103; clear HB; have HO103 := n0_; have HO106 := n1_; have HB := n2_; clear n0_ n1_ n2_; (try clear hb); (try clear hb2); (try clear hk); (try clear hi); (try clear ho0); obtain ⟨Ao11, co11, eo11⟩ := Kd.R_slice HO106.out; subst eo11) | ((with_reducible refine gate_builtin (b := .append) (xs := #[.tmp 5, .tmp 7]) rfl ?_); at_builtin; refine Kd.R_append_rows (Kd.int .u8) (w0 := w) w.heap.size rfl (.tmp 5) (.tmp 7) 25 5 (.int .u8 0) 1 rfl Try.underlying25 info5 rfl (by decide) (by omega) v102 y101 t104 _ _ _ (fun k_ => some k_ ≠ (.slice Ao11 t104.length co11 : Value).ownBlock) (fun _ => False) rfl rfl ?aO ?aR (fun _ _ h => h) (fun _ h => h.elim) ?aF ?aB ?aS ?aL ?_; (case aR => repeat (first | exact (Kd.R_reads' HO106.out).2.2 | (with_reducible refine Kd.C_alloc ?_ _) | (with_reducible refine Kd.C_drewN ?_ _) | (with_reducible refine Kd.C_drew ?_))); (case aB => exact (by repeat (first | (with_reducible first | exact HB.out | apply below_alloc | apply pw_below_drewN | apply below_drew1) | exact HB.out))); (case aF => exact (fun k_ hk => Kd.fresh' (Kd.R_lt (by (with_reducible repeat (first | apply Kd.R_alloc | apply Kd.R_drewN | apply Kd.R_drew)); exact HO106.out)) k_ hk)); (case aO => exact (by (with_reducible repeat (first | apply Kd.R_alloc | apply Kd.R_drewN | apply Kd.R_drew)); exact Kd.R_mono HO103.out (fun _ hk => hk.2))); (case aS => exact (below_size (by repeat (first | (with_reducible first | exact HB.out | apply below_alloc | apply pw_below_drewN | apply below_drew1) | exact HB.out)))); (case aL => have := LMc4.out; omega); intro v108 w10 ho hb hg hat; rw [← Ny107.out] at ho; have n0_ := Aside0.mk (Kd.R_after (ok := (fun _ => True)) (by (with_reducible repeat (first | apply Kd.R_alloc | apply Kd.R_drewN | apply Kd.R_drew)); exact HO106.out) hg hat); have n1_ := Aside0.mk (hb); have n2_ := Aside0.mk (ho); clear HO106; clear HB; clear HO103; have HO106 := n0_; have HB := n1_; have HO109 := n2_; clear n0_ n1_ n2_; clear ho hb hg hat) | ((with_reducible refine gate_callee (f := 78) rfl ?_); refine goesL_ (some 10) rfl rfl Try.func78 (by kernel_rfl) rfl #[.slice A1 l1.length c1] rfl (by (try simp only [List.map_toArray, List.map_cons, List.map_nil]); first | done | rfl | (simp only [List.length_drop, List.length_take]; rfl)) ?_; (with_reducible refine (hanaperref01_Text.calls k _ _ l1 t110 _ ?side1 ?side2 A5.out).mono ?_); (case side1 => repeat (first | exact (Kd.C_below HR1.out HB.out) | (with_reducible refine Kd.C_alloc ?_ _) | (with_reducible refine Kd.C_drewN ?_ _) | (with_reducible refine Kd.C_drew ?_))); (case side2 => exact HC1.out); rintro e w12 ⟨v111, rfl, ho0, hb⟩; refine ⟨_, rfl, ?_⟩; have n0_ := Aside0.mk (Kd.R_elder' (by (with_reducible repeat (first | apply Kd.R_alloc | apply Kd.R_drewN | apply Kd.R_drew)); exact HO106.out) (Kd.R_base ho0) hb); have n1_ := Aside0.mk (Kd.R_elder' (by (with_reducible repeat (first | apply Kd.R_alloc | apply Kd.R_drewN | apply Kd.R_drew)); exact HO109.out) (Kd.R_base ho0) hb); have n2_ := Aside0.mk (Kd.R_lower (Kd.R_new' (Kd.R_new' ho0 (Kd.R_lt (by (with_reducible repeat (first | apply Kd.R_alloc | apply Kd.R_drewN | apply Kd.R_drew)); exact HO106.out))) (Kd.R_lt (by (with_reducible repeat (first | apply Kd.R_alloc | apply Kd.R_drewN | apply Kd.R_drew)); exact HO109.out))) (below_size (by repeat (first | (with_reducible first | exact HB.out | apply below_alloc | apply pw_below_drewN | apply below_drew1) | exact HB.out)))); have n3_ := Aside0.mk (below_step (by repeat (first | (with_reducible first | exact HB.out | apply below_alloc | apply pw_below_drewN | apply below_drew1) | exact HB.out)) hb); clear HO106; clear HO109; clear HB; have HO106 := n0_; have HO109 := n1_; have HO112 := n2_; have HB := n3_; clear n0_ n1_ n2_ n3_; (try clear hb); (try clear hb2); (try clear hk); (try clear hi); (try clear ho0); obtain ⟨Ao14, co14, eo14⟩ := Kd.R_slice HO112.out; subst eo14) | ((with_reducible refine gate_builtin (b := .append) (xs := #[.tmp 8, .tmp 10]) rfl ?_); at_builtin; refine Kd.R_append_rows (Kd.int .u8) (w0 := w) w.heap.size rfl (.tmp 8) (.tmp 10) 25 5 (.int .u8 0) 1 rfl Try.underlying25 info5 rfl (by decide) (by omega) v108 y107 t110 _ _ _ (fun k_ => some k_ ≠ (.slice Ao11 t104.length co11 : Value).ownBlock ∧ some k_ ≠ (.slice Ao14 t110.length co14 : Value).ownBlock) (fun _ => False) rfl rfl ?aO ?aR (fun _ _ h => h) (fun _ h => h.elim) ?aF ?aB ?aS ?aL ?_; (case aR => repeat (first | exact (Kd.R_reads' HO112.out).2.2 | (with_reducible refine Kd.C_alloc ?_ _) | (with_reducible refine Kd.C_drewN ?_ _) | (with_reducible refine Kd.C_drew ?_))); (case aB => exact (by repeat (first | (with_reducible first | exact HB.out | apply below_alloc | apply pw_below_drewN | apply below_drew1) | exact HB.out))); (case aF => exact (fun k_ hk => ⟨Kd.fresh' (Kd.R_lt (by (with_reducible repeat (first | apply Kd.R_alloc | apply Kd.R_drewN | apply Kd.R_drew)); exact HO106.out)) k_ hk, Kd.fresh' (Kd.R_lt (by (with_reducible repeat (first | apply Kd.R_alloc | apply Kd.R_drewN | apply Kd.R_drew)); exact HO112.out)) k_ hk⟩)); (case aO => exact (by (with_reducible repeat (first | apply Kd.R_alloc | apply Kd.R_drewN | apply Kd.R_drew)); exact HO109.out)); (case aS => exact (below_size (by repeat (first | (with_reducible first | exact HB.out | apply below_alloc | apply pw_below_drewN | apply below_drew1) | exact HB.out)))); (case aL => have := LMc6.out; omega); intro v114 w13 ho hb hg hat; rw [← Ny113.out] at ho; have n0_ := Aside0.mk (Kd.R_after (ok := (fun k_ => some k_ ≠ (.slice Ao14 t110.length co14 : Value).ownBlock)) (by (with_reducible repeat (first | apply Kd.R_alloc | apply Kd.R_drewN | apply Kd.R_drew)); exact Kd.R_mono HO106.out (fun _ hk => ⟨hk.2, hk.1.2⟩)) hg hat); have n1_ := Aside0.mk (Kd.R_after (ok := (fun k_ => some k_ ≠ (.slice Ao11 t104.length co11 : Value).ownBlock)) (by (with_reducible repeat (first | apply Kd.R_alloc | apply Kd.R_drewN | apply Kd.R_drew)); exact Kd.R_mono HO112.out (fun _ hk => ⟨hk.1.2, hk.2⟩)) hg hat); have n2_ := Aside0.mk (hb); have n3_ := Aside0.mk (ho); clear HO106; clear HO112; clear HB; clear HO109; have HO106 := n0_; have HO112 := n1_; have HB := n2_; have HO115 := n3_; clear n0_ n1_ n2_ n3_; clear ho hb hg hat))
   go_ret
   exact ⟨_, by first | rfl | (simp [errW_none, errW_some] <;> rfl) | (simp [*, errW_none, errW_some] <;> rfl), by (with_reducible repeat (first | apply Kd.R_alloc | apply Kd.R_drewN | apply Kd.R_drew)); exact Kd.R_mono HO115.out (fun _ hk => trivial), by repeat (first | (with_reducible first | exact HB.out | apply below_alloc | apply pw_below_drewN | apply below_drew1) | exact HB.out)⟩
  ·rw [if_neg c6] at H
   exact absurd H (by simp)
 ·rw [if_neg c4] at H
  exact absurd H (by simp)

end Go.Proofs.Ytfpkgdenohcglaa.PZ
/- commit: Of walked, and the document's. -/
namespace Go.Proofs.Ytfpkgdenohcglaa.Com
set_option linter.unusedVariables false
set_option linter.unusedSimpArgs false
open Go.RowKit Go.Proofs.Ytfpkgdenohcglaa.Base Go.Proofs.Ytfpkgdenohcglaa.TlvPlain Go.Proofs.Ytfpkgdenohcglaa.ShaPlain Go.Proofs.Ytfpkgdenohcglaa.Sha Go.Proofs.Ytfpkgdenohcglaa.Lo Go.Proofs.Ytfpkgdenohcglaa.Aid Go.Proofs.YtfpkgdenohcglaaW.PrintWords Go.Proofs.YtfpkgdenohcglaaW.PrintLast Go.Proofs.YtfpkgdenohcglaaW.PrintMore Go.Proofs.Ytfpkgdenohcglaa.PZ
/-- What is summed for a commitment. -/
def comB (salt : Int) (b : List Int) : List Int := 1 :: (numB salt ++ textB b)
theorem textB_u8 {l : List Int} (h : U8 l) (hl : l.length ≤ 1000000) : U8 (textB l) := fun x hx => (List.mem_append.1 hx).elim (numB_u8 (by omega) x) (h x)
theorem textB_len {l : List Int} (hl : l.length ≤ 1000000) : (textB l).length ≤ l.length + 9 := by
  have := numB_len (n := (l.length : Int)) (by omega)
  unfold textB
  rw [List.length_append]
  omega
theorem comB_len {salt : Int} {b : List Int} (h1 : salt ≤ 18446744073709551615) (hl : b.length ≤ 1000000) : (comB salt b).length ≤ b.length + 19 := by
  have h := numB_len h1
  have h2 := textB_len hl
  unfold comB
  rw [List.length_cons, List.length_append]
  omega
theorem comB_u8 {salt : Int} {b : List Int} (h1 : salt ≤ 18446744073709551615) (hu : U8 b) (hl : b.length ≤ 1000000) : U8 (comB salt b) := by
  intro x hx
  rcases List.mem_cons.1 hx with rfl | hx
  · exact ⟨by decide, by decide⟩
  · exact (List.mem_append.1 hx).elim (numB_u8 h1 x) (textB_u8 hu hl x)
theorem rtxt_ev (salt : Int) (h0 : 0 ≤ salt) (h1 : salt ≤ 18446744073709551615) (l : List Int) (h : l.length ≤ 1000000) : Ev (fun k => hanaperref07_Text.f k salt l) (comB salt l) := by
  have e1 := numB_len h1
  have e2 := textB_len h
  unfold hanaperref07_Text.f
  refine bindSome rfl (evBind (rnum_ev salt h0 h1) (pos (by simp; omega) (bindSome rfl (evBind (rtext_ev l (by omega)) (pos (by simp; omega) (now ?_))))))
  simp [comB]
theorem rtxt_c (salt : Int) (h0 : 0 ≤ salt) (h1 : salt ≤ 18446744073709551615) (A : Option Addr) (c : Nat) (l : List Int) (w : World) (hr : Rb w A l) (hc : l.length ≤ c) (hl : l.length ≤ 1000000) :
    Calls Try.prog 39 #[.int .u64 salt, .slice A l.length c] w (Makes w (comB salt l)) := by
  obtain ⟨k, h⟩ := (rtxt_ev salt h0 h1 l hl).rounds
  exact hanaperref07_Text.calls k salt A c l _ w hr hc h
set_option maxHeartbeats 4000000 in
set_option maxRecDepth 100000 in
theorem cof_c (salt : Int) (h0 : 0 ≤ salt) (h1 : salt ≤ 18446744073709551615) (A : Option Addr) (c : Nat) (l : List Int) (w : World) (hr : Rb w A l) (hc : l.length ≤ c) (hu : U8 l) (hl : l.length ≤ 100000) :
    Calls Try.prog 50 #[.int .u64 salt, .slice A l.length c] w fun e w' => e = .returned (sumV (shaB (comB salt l))) ∧ Below w.heap.size w w' := by
  have HS := Aside0.mk (And.intro h0 h1)
  have HR := Aside0.mk hr
  have HC := Aside0.mk hc
  have HU := Aside0.mk hu
  have HL := Aside0.mk hl
  have HZ := Aside0.mk (show (w.alloc (.cells Z32 23)).heap[w.heap.size]? = some (.cells Z32 23 (0, 0)) from blk_new _ _)
  have HB := Aside0.mk (below_alloc (Below.refl w.heap.size w) (.cells Z32 23))
  clear hr hu hl hc h0 h1
  go_enter Try.func50, Try.ntmps50
  go_wp2_with (fail)
  refine (num_c salt _ HS.out.1 HS.out.2).mono ?_
  rintro e w1 ⟨v, rfl, ho, hb⟩
  have HZ1 := Aside0.mk (blk_below HZ.out hb)
  have HB1 := Aside0.mk (below_step HB.out hb)
  clear hb HZ HB
  obtain ⟨An, cn, rfl, hl_, hr_⟩ := Ob.reads ho; have HRn := Aside0.mk hr_; have HLn := Aside0.mk hl_; clear ho hl_ hr_
  go_wp2_with (fail)
  refine (text_c A c l w1 (Kd.C_below HR.out HB1.out) HC.out (by have := HL.out; omega)).mono ?_
  rintro e w2 ⟨v, rfl, ho, hb⟩
  have HZ2 := Aside0.mk (blk_below HZ1.out hb)
  have HB2 := Aside0.mk (below_step HB1.out hb)
  have HRn2 := Aside0.mk (Kd.C_below HRn.out hb)
  clear hb
  obtain ⟨At, ct, rfl, hl_, hr_⟩ := Ob.reads ho; have HRt := Aside0.mk hr_; have HLt := Aside0.mk hl_; clear ho hl_ hr_
  go_wp2_with ((with_reducible refine gate_dst (N := 9) rfl ?_); refine lit_rows (N := 9) (e := 25) ?hg ?hd [numB salt, textB l] [.slice An (numB salt).length cn, .slice At (textB l).length ct] (rows2 HRn2.out HLn.out HRt.out HLt.out) ?hr (by simp) ?_; (case hd => rfl); (case hg => rfl); (case hr => first | (go_simp; done) | (go_simp; rfl)); intro A9 w4 hrr hb; have HRR := Aside0.mk hrr; have HZ4 := Aside0.mk (blk_below HZ2.out hb); have HB4 := Aside0.mk (below_step HB2.out hb); clear hb hrr)
  obtain ⟨D, hD⟩ : ∃ D, (nums .u8 (shaB (comB salt l))).toArray = D := ⟨_, rfl⟩
  have HD := Aside0.mk hD
  have hds : D.size = 32 := by rw [← hD]; simp [nums, shaB_len]
  have HIF := Aside0.mk (show (Try.prog.info? 23).map (·.size) = some D.size by rw [hds]; exact info_32)
  have HSZ := Aside0.mk (show Z32.size = D.size by rw [hds]; simp [Z32, nums])
  have HONE := Aside0.mk (show D.all (·.oneCell') = true by rw [← hD]; exact nums_one _ _)
  clear hD hds
  refine (csum_c 1 (by decide) A9 2 [numB salt, textB l] w4 HRR.out (by simp) (by
    intro p hp x hx
    rcases List.mem_cons.1 hp with rfl | hp
    · exact numB_u8 HS.out.2 x hx
    · rw [List.mem_singleton.1 hp] at hx
      exact textB_u8 HU.out (by have := HL.out; omega) x hx) (by
    have h2 := numB_len HS.out.2
    have h3 := textB_len (l := l) (by have := HL.out; omega)
    have h4 := HL.out
    simp only [List.flatten_cons, List.flatten_nil, List.append_nil, List.length_append]
    omega) (by simp)).mono ?_
  rintro e w6 ⟨rfl, hb6⟩
  rw [show sumV (shaB (1 :: [numB salt, textB l].flatten)) = .agg D by rw [← HD.out, comB]; simp]
  have HZ6 := Aside0.mk (blk_below HZ4.out hb6)
  have HB6 := Aside0.mk (below_step HB4.out hb6)
  clear hb6
  go_wp2_with ((with_reducible refine gate_store (t := 23) (p := 4) (v := .tmp 10) rfl ?_); refine wpList_store_row rfl 23 (.tmp 4) (.tmp 10) rfl w.heap.size D rfl rfl 23 Z32 HZ6.out HIF.out HSZ.out HONE.out ?_)
  have HSR := setRow_heap w6 w.heap.size Z32 D _ _ HZ6.out
  refine bodyPost_ret (v := .agg D) (results_cell_row rfl _ _ w.heap.size 23 D (0, 0) _ rfl HSR Try.underlying23 rfl HIF.out) rfl ⟨by rw [← HD.out], below_setRow HB6.out (Nat.le_refl _) D⟩
end Go.Proofs.Ytfpkgdenohcglaa.Com
/- The document's Hex walked. -/
namespace Go.Proofs.Ytfpkgdenohcglaa.Sha
set_option linter.unusedVariables false
open Go.RowKit Go.Proofs.Ytfpkgdenohcglaa.Base Go.Proofs.Ytfpkgdenohcglaa.ShaPlain Go.Proofs.Ytfpkgdenohcglaa.Aid Go.Proofs.YtfpkgdenohcglaaW.PrintWords Go.Proofs.YtfpkgdenohcglaaW.PrintLast Go.Proofs.YtfpkgdenohcglaaW.PrintMore
end Go.Proofs.Ytfpkgdenohcglaa.Sha
/- ShaSums: the law's walk. -/
namespace Go.Proofs.Ytfpkgdenohcglaa.Sha
set_option linter.unusedVariables false
set_option linter.unusedSimpArgs false
open Go.RowKit Go.Proofs.Ytfpkgdenohcglaa.Base Go.Proofs.Ytfpkgdenohcglaa.ShaPlain Go.Proofs.Ytfpkgdenohcglaa.Aid Go.Proofs.YtfpkgdenohcglaaW.PrintWords Go.Proofs.YtfpkgdenohcglaaW.PrintLast Go.Proofs.YtfpkgdenohcglaaW.PrintMore
theorem range_blk {w : World} {g T : Nat} {cs : List Value} (h : w.heap[g]? = some (.cells cs.toArray T (0, 0))) : w.rangeAt g 0 cs := fun j v hv => by
  rw [Nat.zero_add, blk_cell h j]
  simpa using hv
end Go.Proofs.Ytfpkgdenohcglaa.Sha
/- commit: Check walked; the example of layer 7. -/
namespace Go.Proofs.Ytfpkgdenohcglaa.Com
set_option linter.unusedVariables false
set_option linter.unusedSimpArgs false
open Go.RowKit Go.Proofs.Ytfpkgdenohcglaa.Base Go.Proofs.Ytfpkgdenohcglaa.TlvPlain Go.Proofs.Ytfpkgdenohcglaa.ShaPlain Go.Proofs.Ytfpkgdenohcglaa.Sha Go.Proofs.Ytfpkgdenohcglaa.Lo Go.Proofs.Ytfpkgdenohcglaa.Aid Go.Proofs.YtfpkgdenohcglaaW.PrintWords Go.Proofs.YtfpkgdenohcglaaW.PrintLast Go.Proofs.YtfpkgdenohcglaaW.PrintMore
theorem size_32 {cs : List Value} (h : cs.length = 32) : (Try.prog.info? 23).map (·.size) = some cs.length := by rw [h]; exact info_32
set_option maxHeartbeats 4000000 in
set_option maxRecDepth 100000 in
theorem chk_c (com : List Int) (hcom : com.length = 32) (salt : Int) (h0 : 0 ≤ salt) (h1 : salt ≤ 18446744073709551615) (A : Option Addr) (c : Nat) (l : List Int) (w : World) (hr : Rb w A l) (hc : l.length ≤ c) (hu : U8 l) (hl : l.length ≤ 100000) :
    Calls Try.prog 71 #[.agg (nums .u8 com).toArray, .int .u64 salt, .slice A l.length c] w fun e w' => e = .returned (.bool (decide (shaB (comB salt l) = com))) ∧ Below w.heap.size w w' := by
  have HR := Aside0.mk hr
  have HOF := Aside0.mk (fun W (hW : Rb W A l) => cof_c salt h0 h1 A c l W hW hc hu hl)
  have HEQ := Aside0.mk (run_eq_sum (shaB (comB salt l)) com (shaB_len _) hcom)
  obtain ⟨bb, hbb⟩ : ∃ bb, decide (shaB (comB salt l) = com) = bb := ⟨_, rfl⟩
  obtain ⟨cs, hcs⟩ : ∃ cs, nums .u8 (shaB (comB salt l)) = cs := ⟨_, rfl⟩
  obtain ⟨cc, hcc⟩ : ∃ cc, nums .u8 com = cc := ⟨_, rfl⟩
  have HIC := Aside0.mk (size_32 (cs := cc) (by rw [← hcc]; simp [nums, hcom]))
  simp only [sumV] at HOF HEQ
  rw [hcs] at HOF
  rw [hcs, hcc, hbb] at HEQ
  rw [hcc, hbb]
  clear hr hc hu hl h0 h1 hcom hcs hcc hbb
  go_enter Try.func71, Try.ntmps71
  go_wp2_with (fail)
  have HG := Aside0.mk (show (w.alloc (.cells cc.toArray 23)).heap[w.heap.size]? = some (.cells cc.toArray 23 (0, 0)) from blk_new _ _)
  have HB := Aside0.mk (below_alloc (Below.refl w.heap.size w) (.cells cc.toArray 23))
  obtain ⟨W, hW⟩ : ∃ W, w.alloc (.cells cc.toArray 23) = W := ⟨_, rfl⟩
  obtain ⟨g, hg⟩ : ∃ g, w.heap.size = g := ⟨_, rfl⟩
  rw [hW] at HG HB ⊢
  rw [hg] at HG ⊢
  clear hW hg
  have hguard := guard_32
  have heq := HEQ.out
  have hu24 := Try.underlying23
  refine wp_region_held_drew (S := fun w' => w'.rangeAt g 0 cc) (by kernel_rfl) (range_blk HG.out) (fun hHeld => ?_)
  (refine wpAnyH_take (i := 0) (v := ?_) rfl (by kernel_rfl) (by kernel_rfl) (by kernel_rfl) (fun _ _ _ h => h) (Or.inl ⟨by rfl, ?_⟩) (by assumption) ?_; (case' refine_2 => (intro w hSw; go_simp; try with_reducible rfl)); (try simp only [Act.put, List.getElem_toArray, List.getElem_cons_zero, List.getElem_cons_succ, List.setIfInBounds_toArray, List.set_cons_zero, List.set_cons_succ]))
  (refine wpAnyH_take (i := 1) (v := ?_) rfl (by kernel_rfl) (by kernel_rfl) (by kernel_rfl) (fun _ _ _ h => h) (Or.inl ⟨by rfl, ?_⟩) (by assumption) ?_; (case' refine_2 => (intro w hSw; go_simp; try with_reducible rfl)); (try simp only [Act.put, List.getElem_toArray, List.getElem_cons_zero, List.getElem_cons_succ, List.setIfInBounds_toArray, List.set_cons_zero, List.set_cons_succ]))
  (refine wpAnyH_take (i := 3) rfl (by kernel_rfl) (by kernel_rfl) (by kernel_rfl) (fun _ _ _ h => h) (yieldsIf_load_mid (by rfl) _ _ rfl _ _ rfl _ _ (fun _ h => h) (by assumption) rfl HIC.out) (by assumption) ?_; (try simp only [Act.put, List.getElem_toArray, List.getElem_cons_zero, List.getElem_cons_succ, List.setIfInBounds_toArray, List.set_cons_zero, List.set_cons_succ]))
  (refine wpAnyH_ready (rs := [2]) (by kernel_rfl) (by simp) (AllReadyH.cons rfl (fun K hK => ?_) AllReadyH.nil); go_simp)
  refine (HOF.out _ (Kd.C_below HR.out (below_drew1 HB.out))).mono ?_
  rintro e w3 ⟨rfl, hb⟩
  have HG3 := Aside0.mk (blk_below HG.out (below_drew_of hb))
  have HB3 := Aside0.mk (below_step HB.out (below_drew_of hb))
  clear hb
  (refine Shut.out hK _ _ (range_blk HG3.out) (fun hHeld => ?_); clear hK K; (try simp only [Act.put, List.getElem_toArray, List.getElem_cons_zero, List.getElem_cons_succ, List.setIfInBounds_toArray, List.set_cons_zero, List.set_cons_succ]))
  (refine wpAnyH_take (i := 4) (v := ?_) rfl (by kernel_rfl) (by kernel_rfl) (by kernel_rfl) (fun _ _ _ h => h) (Or.inl ⟨by rfl, ?_⟩) (by assumption) ?_; (case' refine_2 => (intro w hSw; go_simp; try with_reducible rfl)); (try simp only [Act.put, List.getElem_toArray, List.getElem_cons_zero, List.getElem_cons_succ, List.setIfInBounds_toArray, List.set_cons_zero, List.set_cons_succ]))
  (refine wpAnyH_take (i := 5) (v := ?_) rfl (by kernel_rfl) (by kernel_rfl) (by kernel_rfl) (fun _ _ _ h => h) (Or.inl ⟨by rfl, ?_⟩) (by assumption) ?_; (case' refine_2 => (intro w hSw; go_simp; try with_reducible rfl)); (try simp only [Act.put, List.getElem_toArray, List.getElem_cons_zero, List.getElem_cons_succ, List.setIfInBounds_toArray, List.set_cons_zero, List.set_cons_succ]))
  refine wpAnyH_done (by kernel_rfl) ?_ _
  go_wp2_with (fail)
  go_ret
  exact ⟨rfl, HB3.out⟩
end Go.Proofs.Ytfpkgdenohcglaa.Com
/- What an array argument reads as. -/
namespace Go.Proofs.Ytfpkgdenohcglaa.Open
open Go.Proofs.Ytfpkgdenohcglaa.Base Go.RowKit Go.Proofs.YtfpkgdenohcglaaW.PrintWords Go.Proofs.YtfpkgdenohcglaaW.PrintLast Go.Proofs.YtfpkgdenohcglaaW.PrintMore
theorem opensN_array {P : Program} {n N : Nat} {t e : TypeId} {α : Type} {d : Kd α} {ok : α → Prop} (hs : 0 < d.sz) (ht : P.underlying t = some (.array N e)) (hc : P.cellsOf t = N * d.sz) (he : P.cellsOf e = d.sz) (hd : OpensN P n e d ok) : OpensN P (n + 1) t (Kd.arr N d hs) (fun xs => ∀ x ∈ xs, ok x) := by
  intro H enc w base held cs x h
  unfold DataW.trod at h
  rw [ht] at h
  have h' : (if cs.length = P.cellsOf t then ((List.range N).mapM fun i => DataW.trod enc P w base (fun _ => true) held n e ((cs.drop (i * P.cellsOf e)).take (P.cellsOf e))).map fun xs => (DataW.agg (xs.map (·.1)), xs.flatMap (·.2)) else none) = some x := by
    revert h
    split <;> simp_all
  split at h'
  · next hl =>
    obtain ⟨ys, h1, _⟩ := Option.map_eq_some_iff.1 h'
    obtain ⟨xs, hxl, hxs⟩ := choose_list (α := α) (p := fun i v => d.K w v ((cs.drop (i * d.sz)).take d.sz) ∧ ok v) N (fun i hi => by
      have h2 := mapM_some_get h1 i i (by simp [hi])
      have hlen : ys.length = N := by have := mapM_some_length h1; simpa using this
      rw [List.getElem?_eq_getElem (show i < ys.length by omega), he] at h2
      exact hd _ _ _ _ _ _ _ h2)
    refine ⟨xs, ⟨hxl, by rw [hl, hc, hxl], fun j p hj => (hxs j p hj).1⟩, fun y hy => ?_⟩
    obtain ⟨i, hi, rfl⟩ := List.mem_iff_getElem.1 hy
    exact (hxs i _ (List.getElem?_eq_getElem hi)).2
  · cases h'
theorem opens_array {P : Program} {N : Nat} {t e : TypeId} {α : Type} {d : Kd α} {ok : α → Prop} (hs : 0 < d.sz) (ht : P.underlying t = some (.array N e)) (hc : P.cellsOf t = N * d.sz) (he : P.cellsOf e = d.sz) (hd : Opens P e d ok) : Opens P t (Kd.arr N d hs) (fun xs => ∀ x ∈ xs, ok x) := by
  intro n
  cases n with
  | zero => intro H enc w base held cs x h; simp [DataW.trod] at h
  | succ n => exact opensN_array hs ht hc he (hd n)
/-- The cells of an array of numbers. -/
theorem nums_arr {w : World} {k : IntKind} {N : Nat} {hs : 0 < (Kd.int k).sz} {xs : List Int} {cs : List Value} (h : (Kd.arr N (Kd.int k) hs).K w xs cs) : cs = nums k xs := by
  apply List.ext_getElem?
  intro i
  have hl : cs.length = xs.length := by rw [h.2.1]; show _ * 1 = _; omega
  cases hx : xs[i]? with
  | none =>
    rw [List.getElem?_eq_none_iff] at hx
    rw [List.getElem?_eq_none_iff.2 (by omega), nums, List.getElem?_map, List.getElem?_eq_none_iff.2 hx]
    rfl
  | some y =>
    have hi := (List.getElem?_eq_some_iff.1 hx).1
    have h2 := h.2.2 i y hx
    rw [nums, List.getElem?_map, hx]
    have h3 : (cs.drop (i * (Kd.int k).sz)).take (Kd.int k).sz = [.int k y] := h2
    have h4 : ((cs.drop (i * (Kd.int k).sz)).take (Kd.int k).sz)[0]? = cs[i]? := by
      rw [List.getElem?_take, if_pos hs, List.getElem?_drop, show i * (Kd.int k).sz + 0 = i by show i * 1 + 0 = i; omega]
    rw [← h4, h3]
    rfl
end Go.Proofs.Ytfpkgdenohcglaa.Open
/- CommitOf: the law's walk. -/
namespace Go.Proofs.Ytfpkgdenohcglaa.Com
set_option linter.unusedVariables false
set_option linter.unusedSimpArgs false
open Go.RowKit Go.Proofs.Ytfpkgdenohcglaa.Base Go.Proofs.Ytfpkgdenohcglaa.TlvPlain Go.Proofs.Ytfpkgdenohcglaa.ShaPlain Go.Proofs.Ytfpkgdenohcglaa.Sha Go.Proofs.Ytfpkgdenohcglaa.Lo Go.Proofs.Ytfpkgdenohcglaa.Aid Go.Proofs.YtfpkgdenohcglaaW.PrintWords Go.Proofs.YtfpkgdenohcglaaW.PrintLast Go.Proofs.YtfpkgdenohcglaaW.PrintMore
theorem u64_wf {n : Int} (h : (Lit.int .u64 n).wf = true) : 0 ≤ n ∧ n ≤ 18446744073709551615 := by
  simp only [Lit.wf, IntKind.min, IntKind.max, IntKind.signed, IntKind.bits, Bool.and_eq_true] at h
  simp at h
  omega
end Go.Proofs.Ytfpkgdenohcglaa.Com
/- commit: Link walked. -/
namespace Go.Proofs.Ytfpkgdenohcglaa.Com
set_option linter.unusedVariables false
set_option linter.unusedSimpArgs false
open Go.RowKit Go.Proofs.Ytfpkgdenohcglaa.Base Go.Proofs.Ytfpkgdenohcglaa.TlvPlain Go.Proofs.Ytfpkgdenohcglaa.ShaPlain Go.Proofs.Ytfpkgdenohcglaa.Sha Go.Proofs.Ytfpkgdenohcglaa.Lo Go.Proofs.Ytfpkgdenohcglaa.Aid Go.Proofs.YtfpkgdenohcglaaW.PrintWords Go.Proofs.YtfpkgdenohcglaaW.PrintLast Go.Proofs.YtfpkgdenohcglaaW.PrintMore
/-- What is summed for a link. -/
def linkB (seq : Int) (p c : List Int) : List Int := 2 :: (intB seq ++ (p ++ c))
theorem rb_blk {w : World} {g T : Nat} {xs : List Int} (h : w.heap[g]? = some (.cells (nums .u8 xs).toArray T (0, 0))) (hm : xs.length ≤ 9223372036854775807) : Rb w (some ⟨g, 0, none⟩) xs := by
  refine Kd.C_of_reads (d := (0 : Int)) ⟨rfl, hm, fun _ => ⟨_, rfl, fun j hj => ?_⟩⟩
  rw [add_plain, blk_cell h j]
  simp [nums, List.getElem?_eq_getElem hj, rd, List.getD_eq_getElem?_getD]
set_option maxHeartbeats 4000000 in
set_option maxRecDepth 100000 in
theorem link_c (seq : Int) (p q : List Int) (hp : p.length = 32) (hq : q.length = 32) (hpu : U8 p) (hqu : U8 q) (w : World) :
    Calls Try.prog 91 #[.int .i64 seq, .agg (nums .u8 p).toArray, .agg (nums .u8 q).toArray] w fun e w' => e = .returned (sumV (shaB (linkB seq p q))) ∧ Below w.heap.size w w' := by
  obtain ⟨P, hP⟩ : ∃ P, (nums .u8 p).toArray = P := ⟨_, rfl⟩
  obtain ⟨C, hC⟩ : ∃ C, (nums .u8 q).toArray = C := ⟨_, rfl⟩
  have HP := Aside0.mk hP
  have HC := Aside0.mk hC
  have HLP := Aside0.mk (And.intro hp hq)
  have HU := Aside0.mk (And.intro hpu hqu)
  rw [hP, hC]
  clear hP hC hp hq hpu hqu
  go_enter Try.func91, Try.ntmps91
  go_wp2_with (fail)
  have e1 : (w.alloc (.cells P 23)).heap.size = w.heap.size + 1 := by simp
  have e2 : ((w.alloc (.cells P 23)).alloc (.cells C 23)).heap.size = w.heap.size + 1 + 1 := by simp
  have HG := Aside0.mk (show (((w.alloc (.cells P 23)).alloc (.cells C 23)).alloc (.cells Z32 23)).heap[w.heap.size]? = some (.cells P 23 (0, 0)) from blk_alloc (blk_alloc (blk_new _ _) _) _)
  have HH := Aside0.mk (show (((w.alloc (.cells P 23)).alloc (.cells C 23)).alloc (.cells Z32 23)).heap[w.heap.size + 1]? = some (.cells C 23 (0, 0)) from blk_alloc (second_new' _ _ _) _)
  have HZ := Aside0.mk (show (((w.alloc (.cells P 23)).alloc (.cells C 23)).alloc (.cells Z32 23)).heap[w.heap.size + 1 + 1]? = some (.cells Z32 23 (0, 0)) from third_new _ _ _ _)
  have HB := Aside0.mk (show Below w.heap.size w (((w.alloc (.cells P 23)).alloc (.cells C 23)).alloc (.cells Z32 23)) from below_alloc (below_alloc (below_alloc (Below.refl _ _) _) _) _)
  obtain ⟨W, hW⟩ : ∃ W, ((w.alloc (.cells P 23)).alloc (.cells C 23)).alloc (.cells Z32 23) = W := ⟨_, rfl⟩
  rw [hW] at HG HH HZ HB
  rw [show ((w.alloc (.cells P 23)).alloc (.cells C 23)).alloc (.cells #[.int .u8 0, .int .u8 0, .int .u8 0, .int .u8 0, .int .u8 0, .int .u8 0, .int .u8 0, .int .u8 0, .int .u8 0, .int .u8 0, .int .u8 0, .int .u8 0, .int .u8 0, .int .u8 0, .int .u8 0, .int .u8 0, .int .u8 0, .int .u8 0, .int .u8 0, .int .u8 0, .int .u8 0, .int .u8 0, .int .u8 0, .int .u8 0, .int .u8 0, .int .u8 0, .int .u8 0, .int .u8 0, .int .u8 0, .int .u8 0, .int .u8 0, .int .u8 0] 23) = W from hW]
  clear hW e1 e2
  obtain ⟨g0, hg0⟩ : ∃ g, w.heap.size = g := ⟨_, rfl⟩
  have HG0 := Aside0.mk hg0
  rw [hg0] at HG HH HZ ⊢
  clear hg0
  refine wp_region_held_drew (S := fun _ => True) (by kernel_rfl) trivial (fun hHeld => ?_)
  (refine wpAnyH_take (i := 0) (v := ?_) rfl (by kernel_rfl) (by kernel_rfl) (by kernel_rfl) (fun _ _ _ h => h) (Or.inl ⟨by rfl, ?_⟩) (by assumption) ?_; (case' refine_2 => (intro w hSw; go_simp; try with_reducible rfl)); (try simp only [Act.put, List.getElem_toArray, List.getElem_cons_zero, List.getElem_cons_succ, List.setIfInBounds_toArray, List.set_cons_zero, List.set_cons_succ]))
  (refine wpAnyH_take (i := 2) (v := ?_) rfl (by kernel_rfl) (by kernel_rfl) (by kernel_rfl) (fun _ _ _ h => h) (Or.inl ⟨by rfl, ?_⟩) (by assumption) ?_; (case' refine_2 => (intro w hSw; go_simp; try with_reducible rfl)); (try simp only [Act.put, List.getElem_toArray, List.getElem_cons_zero, List.getElem_cons_succ, List.setIfInBounds_toArray, List.set_cons_zero, List.set_cons_succ]))
  (refine wpAnyH_take (i := 3) (v := ?_) rfl (by kernel_rfl) (by kernel_rfl) (by kernel_rfl) (fun _ _ _ h => h) (Or.inl ⟨by rfl, ?_⟩) (by assumption) ?_; (case' refine_2 => (intro w hSw; go_simp; try with_reducible rfl)); (try simp only [Act.put, List.getElem_toArray, List.getElem_cons_zero, List.getElem_cons_succ, List.setIfInBounds_toArray, List.set_cons_zero, List.set_cons_succ]))
  (refine wpAnyH_ready (rs := [1]) (by kernel_rfl) (by simp) (AllReadyH.cons rfl (fun K hK => ?_) AllReadyH.nil); go_simp)
  refine (int_c seq _).mono ?_
  rintro e w3 ⟨v, rfl, ho, hb⟩
  have hb' := below_drew_of hb
  have HG3 := Aside0.mk (blk_below HG.out hb')
  have HH3 := Aside0.mk (blk_below HH.out hb')
  have HZ3 := Aside0.mk (blk_below HZ.out hb')
  have HB3 := Aside0.mk (below_step HB.out hb')
  clear hb hb'
  obtain ⟨An, cn, rfl, hl_, hr_⟩ := Ob.reads ho; have HRn := Aside0.mk hr_; have HLn := Aside0.mk hl_; clear ho hl_ hr_
  (refine Shut.out hK _ _ trivial (fun hHeld => ?_); clear hK K; (try simp only [Act.put, List.getElem_toArray, List.getElem_cons_zero, List.getElem_cons_succ, List.setIfInBounds_toArray, List.set_cons_zero, List.set_cons_succ]))
  (refine wpAnyH_ready (rs := [4]) (by kernel_rfl) (by simp) (AllReadyH.cons rfl (fun K hK => ?_) AllReadyH.nil); go_simp)
  have HRR := Aside0.mk (show Rr (w3.alloc (.cells #[.slice An (intB seq).length cn, .slice (some ⟨g0, 0, none⟩) 32 32, .slice (some ⟨g0 + 1, 0, none⟩) 32 32] 25)) (some ⟨w3.heap.size, 0, none⟩) [intB seq, p, q] from lit_rr (blk_new w3 _) _ (by simp) (fun j l hj => by
    match j, hj with
    | 0, hj => cases hj; exact ⟨An, cn, rfl, HLn.out, Kd.C_alloc HRn.out _⟩
    | 1, hj => cases hj; exact ⟨some ⟨g0, 0, none⟩, 32, by rw [HLP.out.1]; rfl, Nat.le_of_eq HLP.out.1, rb_blk (by have h := blk_alloc HG3.out (.cells #[.slice An (intB seq).length cn, .slice (some ⟨g0, 0, none⟩) 32 32, .slice (some ⟨g0 + 1, 0, none⟩) 32 32] 25); rw [← HP.out] at h; exact h) (by rw [HLP.out.1]; decide)⟩
    | 2, hj => cases hj; exact ⟨some ⟨g0 + 1, 0, none⟩, 32, by rw [HLP.out.2]; rfl, Nat.le_of_eq HLP.out.2, rb_blk (by have h := blk_alloc HH3.out (.cells #[.slice An (intB seq).length cn, .slice (some ⟨g0, 0, none⟩) 32 32, .slice (some ⟨g0 + 1, 0, none⟩) 32 32] 25); rw [← HC.out] at h; exact h) (by rw [HLP.out.2]; decide)⟩))
  have HZ4 := Aside0.mk (blk_alloc HZ3.out (.cells #[.slice An (intB seq).length cn, .slice (some ⟨g0, 0, none⟩) 32 32, .slice (some ⟨g0 + 1, 0, none⟩) 32 32] 25))
  have HB4 := Aside0.mk (below_alloc HB3.out (.cells #[.slice An (intB seq).length cn, .slice (some ⟨g0, 0, none⟩) 32 32, .slice (some ⟨g0 + 1, 0, none⟩) 32 32] 25))
  (refine Shut.out hK _ _ trivial (fun hHeld => ?_); clear hK K; (try simp only [Act.put, List.getElem_toArray, List.getElem_cons_zero, List.getElem_cons_succ, List.setIfInBounds_toArray, List.set_cons_zero, List.set_cons_succ]))
  (refine wpAnyH_ready (rs := [5]) (by kernel_rfl) (by simp) (AllReadyH.cons rfl (fun K hK => ?_) AllReadyH.nil); go_simp)
  refine (csum_c 2 (by decide) (some ⟨w3.heap.size, 0, none⟩) 3 [intB seq, p, q] _ HRR.out (by simp) (by
    intro x hx y hy
    rcases List.mem_cons.1 hx with rfl | hx
    · exact numB_u8 (u64_range seq).2 y hy
    · rcases List.mem_cons.1 hx with rfl | hx
      · exact HU.out.1 y hy
      · rw [List.mem_singleton.1 hx] at hy
        exact HU.out.2 y hy) (by
    have h2 := numB_len (u64_range seq).2
    have h3 := HLP.out
    simp only [List.flatten_cons, List.flatten_nil, List.append_nil, List.length_append, intB]
    omega) (by simp)).mono ?_
  rintro e w6 ⟨rfl, hb6⟩
  obtain ⟨D, hD⟩ : ∃ D, (nums .u8 (shaB (linkB seq p q))).toArray = D := ⟨_, rfl⟩
  have HD := Aside0.mk hD
  have hds : D.size = 32 := by rw [← hD]; simp [nums, shaB_len]
  have HIF := Aside0.mk (show (Try.prog.info? 23).map (·.size) = some D.size by rw [hds]; exact info_32)
  have HSZ := Aside0.mk (show Z32.size = D.size by rw [hds]; simp [Z32, nums])
  have HONE := Aside0.mk (show D.all (·.oneCell') = true by rw [← hD]; exact nums_one _ _)
  rw [show sumV (shaB (2 :: [intB seq, p, q].flatten)) = .agg D by rw [← HD.out, linkB]; simp]
  have HZ6 := Aside0.mk (blk_below HZ4.out hb6)
  have HB6 := Aside0.mk (below_step HB4.out hb6)
  clear hb6 hD hds
  (refine Shut.out hK _ _ trivial (fun hHeld => ?_); clear hK K; (try simp only [Act.put, List.getElem_toArray, List.getElem_cons_zero, List.getElem_cons_succ, List.setIfInBounds_toArray, List.set_cons_zero, List.set_cons_succ]))
  refine wpAnyH_ready (rs := [6]) (by kernel_rfl) (by simp) (AllReadyH.cons rfl (fun K hK => ?_) AllReadyH.nil)
  rw [if_pos (by rfl)]
  refine wp_store_row 23 (.tmp 6) (.tmp 12) rfl (g0 + 1 + 1) D rfl rfl 23 Z32 HZ6.out HIF.out HSZ.out HONE.out ?_
  (refine Shut.out hK _ _ trivial (fun hHeld => ?_); clear hK K; (try simp only [Act.put, List.getElem_toArray, List.getElem_cons_zero, List.getElem_cons_succ, List.setIfInBounds_toArray, List.set_cons_zero, List.set_cons_succ]))
  refine wpAnyH_done (by kernel_rfl) ?_ _
  go_wp2_with (fail)
  have HSR := setRow_heap w6 (g0 + 1 + 1) Z32 D _ _ HZ6.out
  refine bodyPost_ret (v := .agg D) (results_cell_row rfl _ _ (g0 + 1 + 1) 23 D (0, 0) _ rfl HSR Try.underlying23 rfl HIF.out) rfl ⟨by rw [← HD.out], below_setRow HB6.out (by have := HG0.out; omega) D⟩
end Go.Proofs.Ytfpkgdenohcglaa.Com
/- The document's text of a link, and its sum. -/
namespace Go.Proofs.Ytfpkgdenohcglaa.Com
set_option linter.unusedVariables false
set_option linter.unusedSimpArgs false
open Go.RowKit Go.Proofs.Ytfpkgdenohcglaa.Base Go.Proofs.Ytfpkgdenohcglaa.TlvPlain Go.Proofs.Ytfpkgdenohcglaa.ShaPlain Go.Proofs.Ytfpkgdenohcglaa.Sha Go.Proofs.Ytfpkgdenohcglaa.Lo Go.Proofs.Ytfpkgdenohcglaa.Aid Go.Proofs.YtfpkgdenohcglaaW.PrintWords Go.Proofs.YtfpkgdenohcglaaW.PrintLast Go.Proofs.YtfpkgdenohcglaaW.PrintMore
theorem c32 {w : World} {g T : Nat} {xs : List Int} {C : Array Value} (h : w.heap[g]? = some (.cells C T (0, 0))) (hC : (nums .u8 xs).toArray = C) (hl : xs.length = 32) : Kd.C (Kd.int .u8) w (some ⟨g, 0, none⟩) 32 xs := by
  subst hC
  have h2 := rb_blk h (by rw [hl]; decide)
  have h3 : Kd.C (Kd.int .u8) w (some ⟨g, 0, none⟩) xs.length xs := h2
  rwa [hl] at h3
theorem intB_len (n : Int) : (intB n).length ≤ 9 := numB_len (u64_range n).2
set_option maxHeartbeats 4000000 in
set_option maxRecDepth 100000 in
theorem ltext_c (seq : Int) (p q : List Int) (hp : p.length = 32) (hq : q.length = 32) (w : World) :
    Calls Try.prog 58 #[.int .i64 seq, .agg (nums .u8 p).toArray, .agg (nums .u8 q).toArray] w (Makes w (linkB seq p q)) := by
  obtain ⟨P, hP⟩ : ∃ P, (nums .u8 p).toArray = P := ⟨_, rfl⟩
  obtain ⟨C, hC⟩ : ∃ C, (nums .u8 q).toArray = C := ⟨_, rfl⟩
  have HP := Aside0.mk hP
  have HC := Aside0.mk hC
  have HLP := Aside0.mk (And.intro hp hq)
  have HIL := Aside0.mk (intB_len seq)
  rw [hP, hC]
  clear hP hC hp hq
  have HG := Aside0.mk (show ((w.alloc (.cells P 23)).alloc (.cells C 23)).heap[w.heap.size]? = some (.cells P 23 (0, 0)) from blk_alloc (blk_new _ _) _)
  have HH := Aside0.mk (show ((w.alloc (.cells P 23)).alloc (.cells C 23)).heap[w.heap.size + 1]? = some (.cells C 23 (0, 0)) from second_new' _ _ _)
  have HB := Aside0.mk (show Below w.heap.size w ((w.alloc (.cells P 23)).alloc (.cells C 23)) from below_alloc (below_alloc (Below.refl _ _) _) _)
  unfold Makes
  go_enter Try.func58, Try.ntmps58
  go_wp2_with (first
    | ((with_reducible refine gate_dst (N := 8) rfl ?_); (try (refine gate_guard (by rfl) ?_; dsimp only)); refine lit_bytes (N := 8) ?hg ?hd [2] [.int .u8 (2)] rfl ?hr (by simp) ?_; (case hd => rfl); (case hg => rfl); (case hr => first | (go_simp; done) | (go_simp; rfl)); intro v w1 ho hb; have m1_ := Aside0.mk (blk_below HG.out hb); have m2_ := Aside0.mk (blk_below HH.out hb); have m3_ := Aside0.mk (below_step HB.out hb); have HO := Aside0.mk (Kd.R_lower ho HB.out.size); clear HG HH HB; have HG := m1_; have HH := m2_; have HB := m3_; clear m1_ m2_ m3_ hb ho)
    | (go_at_call 85; refine (rint_c seq _).mono ?_; rintro e w3 ⟨v, rfl, ho, hb⟩; have m0_ := Aside0.mk (Kd.R_below HO.out hb); have m1_ := Aside0.mk (blk_below HG.out hb); have m2_ := Aside0.mk (blk_below HH.out hb); have m3_ := Aside0.mk (below_step HB.out hb); clear HG HH HB HO; have HG := m1_; have HH := m2_; have HB := m3_; have HO := m0_; clear m0_ m1_ m2_ m3_ hb; obtain ⟨An, cn, rfl, hl_, hr_⟩ := Ob.reads ho; have HRn := Aside0.mk hr_; have HLn := Aside0.mk hl_; clear ho hl_ hr_)
    | ((with_reducible refine gate_builtin (b := .append) (xs := #[.tmp 8, .tmp 10]) rfl ?_); at_builtin; refine Kd.R_append_rows (Kd.int .u8) (w0 := w) w.heap.size rfl (.tmp 8) (.tmp 10) 25 5 (.int .u8 0) 1 rfl Try.underlying25 info_u8 rfl (by decide) (by omega) _ [2] (intB seq) _ _ _ (fun _ => True) (fun _ => False) rfl rfl HO.out HRn.out (fun _ _ h => h) (fun _ h => h.elim) (fun _ _ => trivial) HB.out HB.out.size (by have := HIL.out; simp; omega) ?_; intro v1 w5 ho hb hg hat; have m1_ := Aside0.mk (blk_grown HG.out hg (Kd.R_ne HO.out HG.out (by decide))); have m2_ := Aside0.mk (blk_grown HH.out hg (Kd.R_ne HO.out HH.out (by decide))); clear HG HH HB HO; have HG := m1_; have HH := m2_; have HB := Aside0.mk hb; have HO := Aside0.mk ho; clear m1_ m2_ hb ho hg hat))
  have HO1 := Aside0.mk (Kd.R_drew HO.out)
  have HB1 := Aside0.mk (below_drew1 HB.out)
  have HG1 := Aside0.mk (show w5.drew.heap[w.heap.size]? = some (.cells P 23 (0, 0)) from HG.out)
  have HH1 := Aside0.mk (show w5.drew.heap[w.heap.size + 1]? = some (.cells C 23 (0, 0)) from HH.out)
  refine wp_region_held_drew (S := fun _ => True) (by kernel_rfl) trivial (fun hHeld => ?_)
  (refine wpAnyH_take (i := 0) (v := ?_) rfl (by kernel_rfl) (by kernel_rfl) (by kernel_rfl) (fun _ _ _ h => h) (Or.inl ⟨by rfl, ?_⟩) (by assumption) ?_; (case' refine_2 => (intro w hSw; go_simp; try with_reducible rfl)); (try simp only [Act.put, List.getElem_toArray, List.getElem_cons_zero, List.getElem_cons_succ, List.setIfInBounds_toArray, List.set_cons_zero, List.set_cons_succ]))
  (refine wpAnyH_take (i := 1) (v := ?_) rfl (by kernel_rfl) (by kernel_rfl) (by kernel_rfl) (fun _ _ _ h => h) (Or.inl ⟨by rfl, ?_⟩) (by assumption) ?_; (case' refine_2 => (intro w hSw; go_simp; try with_reducible rfl)); (try simp only [Act.put, List.getElem_toArray, List.getElem_cons_zero, List.getElem_cons_succ, List.setIfInBounds_toArray, List.set_cons_zero, List.set_cons_succ]))
  (refine wpAnyH_take (i := 3) (v := ?_) rfl (by kernel_rfl) (by kernel_rfl) (by kernel_rfl) (fun _ _ _ h => h) (Or.inl ⟨by rfl, ?_⟩) (by assumption) ?_; (case' refine_2 => (intro w hSw; go_simp; try with_reducible rfl)); (try simp only [Act.put, List.getElem_toArray, List.getElem_cons_zero, List.getElem_cons_succ, List.setIfInBounds_toArray, List.set_cons_zero, List.set_cons_succ]))
  refine wpAnyH_ready (rs := [2]) (by kernel_rfl) (by simp) (AllReadyH.cons rfl (fun K hK => ?_) AllReadyH.nil)
  refine Kd.R_append_rows_step (Kd.int .u8) (w0 := w) w.heap.size rfl (.tmp 12) (.tmp 13) 25 5 (.int .u8 0) 1 rfl Try.underlying25 info_u8 rfl (by decide) (by omega) v1 ([2] ++ intB seq) p _ _ _ (fun _ => True) (fun _ => False) rfl rfl HO1.out (c32 HG1.out HP.out HLP.out.1) (fun _ _ h => h) (fun _ h => h.elim) (fun _ _ => trivial) HB1.out HB1.out.size (by have := HIL.out; simp; omega) ?_
  intro v2 w6 ho hb hg hat
  have HO2 := Aside0.mk ho
  have HB2 := Aside0.mk hb
  have HH2 := Aside0.mk (blk_grown HH1.out hg (Kd.R_ne HO1.out HH1.out (by decide)))
  clear ho hb hg hat
  (refine Shut.out hK _ _ trivial (fun hHeld => ?_); clear hK K; (try simp only [Act.put, List.getElem_toArray, List.getElem_cons_zero, List.getElem_cons_succ, List.setIfInBounds_toArray, List.set_cons_zero, List.set_cons_succ]))
  refine wpAnyH_ready (rs := [4]) (by kernel_rfl) (by simp) (AllReadyH.cons rfl (fun K hK => ?_) AllReadyH.nil)
  refine Kd.R_append_rows_step (Kd.int .u8) (w0 := w) w.heap.size rfl (.tmp 14) (.tmp 15) 25 5 (.int .u8 0) 1 rfl Try.underlying25 info_u8 rfl (by decide) (by omega) v2 ([2] ++ intB seq ++ p) q _ _ _ (fun _ => True) (fun _ => False) rfl rfl HO2.out (c32 HH2.out HC.out HLP.out.2) (fun _ _ h => h) (fun _ h => h.elim) (fun _ _ => trivial) HB2.out HB2.out.size (by have := HIL.out; have := HLP.out; simp; omega) ?_
  intro v3 w7 ho hb hg hat
  rw [show [2] ++ intB seq ++ p ++ q = linkB seq p q by simp [linkB]] at ho
  have HO3 := Aside0.mk ho
  have HB3 := Aside0.mk hb
  clear ho hb hg hat
  (refine Shut.out hK _ _ trivial (fun hHeld => ?_); clear hK K; (try simp only [Act.put, List.getElem_toArray, List.getElem_cons_zero, List.getElem_cons_succ, List.setIfInBounds_toArray, List.set_cons_zero, List.set_cons_succ]))
  (refine wpAnyH_take (i := 5) (v := ?_) rfl (by kernel_rfl) (by kernel_rfl) (by kernel_rfl) (fun _ _ _ h => h) (Or.inl ⟨by rfl, ?_⟩) (by assumption) ?_; (case' refine_2 => (intro w hSw; go_simp; try with_reducible rfl)); (try simp only [Act.put, List.getElem_toArray, List.getElem_cons_zero, List.getElem_cons_succ, List.setIfInBounds_toArray, List.set_cons_zero, List.set_cons_succ]))
  refine wpAnyH_done (by kernel_rfl) ?_ _
  go_wp2_with (fail)
  go_ret
  exact ⟨_, rfl, HO3.out, HB3.out⟩
end Go.Proofs.Ytfpkgdenohcglaa.Com
/- CommitLinks: the document's link, the law's walk. -/
namespace Go.Proofs.Ytfpkgdenohcglaa.Com
set_option linter.unusedVariables false
set_option linter.unusedSimpArgs false
open Go.RowKit Go.Proofs.Ytfpkgdenohcglaa.Base Go.Proofs.Ytfpkgdenohcglaa.TlvPlain Go.Proofs.Ytfpkgdenohcglaa.ShaPlain Go.Proofs.Ytfpkgdenohcglaa.Sha Go.Proofs.Ytfpkgdenohcglaa.Lo Go.Proofs.Ytfpkgdenohcglaa.Aid Go.Proofs.YtfpkgdenohcglaaW.PrintWords Go.Proofs.YtfpkgdenohcglaaW.PrintLast Go.Proofs.YtfpkgdenohcglaaW.PrintMore
theorem linkB_len {seq : Int} {p q : List Int} (hp : p.length = 32) (hq : q.length = 32) : (linkB seq p q).length ≤ 74 := by
  have := intB_len seq
  unfold linkB
  rw [List.length_cons, List.length_append, List.length_append]
  omega
theorem linkB_u8 {seq : Int} {p q : List Int} (hp : U8 p) (hq : U8 q) : U8 (linkB seq p q) := by
  intro x hx
  rcases List.mem_cons.1 hx with rfl | hx
  · exact ⟨by decide, by decide⟩
  · rcases List.mem_append.1 hx with hx | hx
    · exact numB_u8 (u64_range seq).2 x hx
    · exact (List.mem_append.1 hx).elim (hp x) (hq x)
end Go.Proofs.Ytfpkgdenohcglaa.Com
/- Arrays of bytes as values, in blocks, in rows (as in the tree's texts). -/
namespace Go.Proofs.Ytfpkgdenohcglaa.Chn
set_option linter.unusedVariables false
set_option linter.unusedSimpArgs false
open Go.RowKit Go.Proofs.Ytfpkgdenohcglaa.Base Go.Proofs.Ytfpkgdenohcglaa.TlvPlain Go.Proofs.Ytfpkgdenohcglaa.ShaPlain Go.Proofs.Ytfpkgdenohcglaa.Sha Go.Proofs.Ytfpkgdenohcglaa.Com Go.Proofs.Ytfpkgdenohcglaa.Aid Go.Proofs.YtfpkgdenohcglaaW.PrintWords Go.Proofs.YtfpkgdenohcglaaW.PrintLast Go.Proofs.YtfpkgdenohcglaaW.PrintMore
abbrev Sm := List Int
def Z : Sm := List.replicate 32 0
def U8' (x : Sm) : Prop := ∀ y ∈ x, 0 ≤ y ∧ y ≤ 255
theorem Z_len : Z.length = 32 := rfl
theorem Z_u8 : U8' Z := fun y hy => by have := List.eq_of_mem_replicate hy; omega
/-- The cells of a sum. -/
structure SumF (D : Array Value) (d : List Int) : Prop where
  eq : (nums .u8 d).toArray = D
  len : d.length = 32
  info : (Try.prog.info? 23).map (·.size) = some D.size
  zs : Z32.size = D.size
  one : D.all (·.oneCell') = true
theorem SumF.v {D : Array Value} {d : List Int} (h : SumF D d) : sumV d = .agg D := by rw [← h.eq]
/-- A sum's block, read as bytes. -/
theorem SumF.rb {D : Array Value} {d : List Int} (h : SumF D d) {w : World} {g : Nat} (hb : w.heap[g]? = some (.cells D 23 (0, 0))) : Rb w (some ⟨g, 0, none⟩) d :=
  rb_blk (by rw [h.eq]; exact hb) (by rw [h.len]; decide)
abbrev Ret (w : World) (d : List Int) : Ending → World → Prop := fun e w' => e = .returned (sumV d) ∧ Below w.heap.size w w'
abbrev KS : Kd (List Int) := Kd.arr 32 (Kd.int .u8) (by decide)
def Lu (l : List Sm) : Prop := ∀ x ∈ l, x.length = 32 ∧ U8' x
theorem Lu.take {l : List Sm} (h : Lu l) (k : Nat) : Lu (l.take k) := fun x hx => h x (List.mem_of_mem_take hx)
theorem Lu.drop {l : List Sm} (h : Lu l) (k : Nat) : Lu (l.drop k) := fun x hx => h x (List.mem_of_mem_drop hx)
def AtC (w : World) (ad : Addr) (cs : List Value) : Prop := ∀ j v, cs[j]? = some v → w.cell? (ad.add j) = some v
theorem addr_add_add (a : Addr) (i j : Nat) : (a.add i).add j = a.add (i + j) := by
  unfold Addr.add
  by_cases hi : i = 0
  · subst hi; simp
  · by_cases hj : j = 0
    · subst hj; simp
    · rw [if_neg hi, if_neg hj, if_neg (by omega), Nat.add_assoc]
section
variable {P : Program}
theorem run_loadVar_at (w : World) (ad : Addr) (ty : TypeId) (cs : List Value) (d : TypeDesc) (hc : AtC w ad cs)
    (hu : P.underlying ty = some d) (hd : d.isRow = true) (hi : (P.info? ty).map (·.size) = some cs.length) :
    (loadVar ty ad).run P w = .ok (.agg cs.toArray) w := by
  have hl : (loadCells ad cs.length).run P w = .ok cs.toArray w := run_loadCells_list (P := P) w ad cs hc
  cases hq : P.info? ty with
  | none => simp [hq] at hi
  | some i =>
    have hs : i.size = cs.length := by simpa [hq] using hi
    have hagg : (isAgg ty).run P w = .ok true w := by
      unfold isAgg
      rw [Sem.run_bind, run_underlying hu w]
      cases d <;> simp_all
    simp [loadVar, Sem.run_bind, hagg, sizeOf, typeInfo, hq, hs, hl]
theorem wpList_load_at {ops : Array Oper} {rest : List Oper} {op : Oper} {a : Act} {w : World} {Q : Exit → Act → World → Prop} (hgd : op.guard = none) (ty : TypeId) (x : Operand) (ho : op.op = .load ty x)
    (ad : Addr) (hx : a.eval x = .pointer (some ad)) (cs : List Value) (d : TypeDesc) (hc : AtC w ad cs)
    (hu : P.underlying ty = some d) (hd : d.isRow = true) (hi : (P.info? ty).map (·.size) = some cs.length)
    (h : wpList P ops Q rest (a.put op.dst (.agg cs.toArray)) w) : wpList P ops Q (op :: rest) a w :=
  wpList_plain hgd fun _ hK => by
    unfold Oper.wp execOp
    simp only [ho, hx, Instr.loadAt, Instr.sureAddr, Sem.run_bind, Sem.run_pure, Result.andThen_ok, run_loadVar_at w ad ty cs d hc hu hd hi]
    exact hK _ _ h
theorem yieldsIf_load_at {ops : Array Oper} {S : World → Prop} {op : Oper} {a : Act} (hw : Region.wanted op (yielded ops a.tmps) = true) (ty : TypeId) (x : Operand) (ho : op.op = .load ty x)
    (ad : Addr) (hx : a.eval x = .pointer (some ad)) (cs : List Value) (d : TypeDesc) (hS : ∀ w, S w → AtC w ad cs)
    (hu : P.underlying ty = some d) (hd : d.isRow = true) (hi : (P.info? ty).map (·.size) = some cs.length) : YieldsIf P ops S op (.agg cs.toArray) a :=
  .inl ⟨hw, fun w hw' => by
    unfold execOp
    simp only [ho, hx, Instr.loadAt, Instr.sureAddr, Sem.run_bind, Sem.run_pure, Result.andThen_ok, run_loadVar_at w ad ty cs d (hS w hw') hu hd hi]⟩
end
theorem AtC.below {w w' : World} {ad : Addr} {cs : List Value} (h : AtC w ad cs) (hb : Below w.heap.size w w') : AtC w' ad cs := fun j v hj => (hb.cell (World.block_lt_of_cell? _ _ (h j v hj))).trans (h j v hj)
/-- The cells of a sum, as a list. -/
structure SumC (cs : List Value) (d : Sm) : Prop where
  eq : nums .u8 d = cs
  len : d.length = 32
theorem sumC (d : Sm) (h : d.length = 32) : ∃ cs, SumC cs d := ⟨_, rfl, h⟩
theorem SumC.v {cs : List Value} {d : Sm} (h : SumC cs d) : sumV d = .agg cs.toArray := by rw [← h.eq]
theorem SumC.lenC {cs : List Value} {d : Sm} (h : SumC cs d) : cs.length = 32 := by rw [← h.eq]; simp [nums, h.len]
/-- A new block's cells. -/
theorem atC_blk {W : World} {g T : Nat} {cs : List Value} {fr : Nat × Nat} (h : W.heap[g]? = some (.cells cs.toArray T fr)) : AtC W ⟨g, 0, none⟩ cs := fun j v hj => by
  rw [add_plain]
  unfold World.cell?
  dsimp only
  rw [h]
  simpa using hj
theorem AtC.left {W : World} {ad : Addr} {a b : List Value} (h : AtC W ad (a ++ b)) : AtC W ad a := fun j v hj => h j v (by rw [List.getElem?_append_left (List.getElem?_eq_some_iff.1 hj).1]; exact hj)
theorem AtC.right {W : World} {ad : Addr} {a b : List Value} (h : AtC W ad (a ++ b)) : AtC W (ad.add a.length) b := fun j v hj => by
  rw [addr_add_add]
  exact h _ v (by rw [List.getElem?_append_right (by omega), Nat.add_sub_cancel_left]; exact hj)
theorem SumC.blk {cs : List Value} {d : Sm} (h : SumC cs d) : (Try.prog.info? 23).map (·.size) = some cs.length := by rw [h.lenC]; exact info_32
theorem SumC.blkA {cs : List Value} {d : Sm} (h : SumC cs d) : (Try.prog.info? 23).map (·.size) = some cs.toArray.size := by simp [h.lenC, info_32]
theorem SumC.oneA {cs : List Value} {d : Sm} (h : SumC cs d) : cs.toArray.all (·.oneCell') = true := by rw [← h.eq]; exact nums_one _ _
theorem SumC.zsA {cs : List Value} {d : Sm} (h : SumC cs d) : Z32.size = cs.toArray.size := by simp [Z32, nums, h.lenC]
theorem cell_below {W W' : World} {ad : Addr} {v : Value} (hb : Below W.heap.size W W') (h : W.cell? ad = some v) : W'.cell? ad = some v := (hb.cell (World.block_lt_of_cell? _ _ h)).trans h
abbrev RetB (w : World) (b : Bool) : Ending → World → Prop := fun e w' => e = .returned (.bool b) ∧ Below w.heap.size w w'
section
variable {P : Program} {o : Oper} {a : Act} {Q : Exit → Act → World → Prop} {Kc : Act → World → Prop} {α : Type} {W : World}
end
end Go.Proofs.Ytfpkgdenohcglaa.Chn
/- Chains of entries, plainly; an entry's cells. -/
namespace Go.Proofs.Ytfpkgdenohcglaa.Chn
set_option linter.unusedVariables false
set_option linter.unusedSimpArgs false
open Go.RowKit Go.Proofs.Ytfpkgdenohcglaa.Base Go.Proofs.Ytfpkgdenohcglaa.TlvPlain Go.Proofs.Ytfpkgdenohcglaa.ShaPlain Go.Proofs.Ytfpkgdenohcglaa.Sha Go.Proofs.Ytfpkgdenohcglaa.Com Go.Proofs.Ytfpkgdenohcglaa.Aid Go.Proofs.YtfpkgdenohcglaaW.PrintWords Go.Proofs.YtfpkgdenohcglaaW.PrintLast Go.Proofs.YtfpkgdenohcglaaW.PrintMore
attribute [local irreducible] shaB
/-- seq, prev, com, salt, payload, redacted -/
abbrev Ent := Int × List Int × List Int × Int × List Int × Bool
abbrev seqE (x : Ent) : Int := x.1
abbrev prevE (x : Ent) : Sm := x.2.1
abbrev comE (x : Ent) : Sm := x.2.2.1
abbrev saltE (x : Ent) : Int := x.2.2.2.1
abbrev payE (x : Ent) : List Int := x.2.2.2.2.1
abbrev redE (x : Ent) : Bool := x.2.2.2.2.2
@[irreducible] def linkH (s : Int) (p c : Sm) : Sm := shaB (linkB s p c)
@[irreducible] def comH (s : Int) (b : List Int) : Sm := shaB (comB s b)
theorem linkH_eq (s : Int) (p c : Sm) : linkH s p c = shaB (linkB s p c) := by unfold linkH; rfl
theorem comH_eq (s : Int) (b : List Int) : comH s b = shaB (comB s b) := by unfold comH; rfl
theorem linkH_len (s : Int) (p c : Sm) : (linkH s p c).length = 32 := by rw [linkH_eq]; exact shaB_len _
theorem linkH_u8 (s : Int) (p c : Sm) : U8' (linkH s p c) := by rw [linkH_eq]; exact shaB_u8 _
theorem comH_len (s : Int) (b : List Int) : (comH s b).length = 32 := by rw [comH_eq]; exact shaB_len _
theorem comH_u8 (s : Int) (b : List Int) : U8' (comH s b) := by rw [comH_eq]; exact shaB_u8 _
def linkT (x : Ent) : Sm := linkH (seqE x) (prevE x) (comE x)
theorem linkT_len (x : Ent) : (linkT x).length = 32 := linkH_len _ _ _
theorem linkT_u8 (x : Ent) : U8' (linkT x) := linkH_u8 _ _ _
def headT (l : List Ent) : Sm := match l.getLast? with | none => Z | some x => linkT x
theorem headT_len (l : List Ent) : (headT l).length = 32 := by
  unfold headT
  split
  · exact Z_len
  · exact linkT_len _
theorem headT_u8 (l : List Ent) : U8' (headT l) := by
  unfold headT
  split
  · exact Z_u8
  · exact linkT_u8 _
theorem headT_nil : headT [] = Z := rfl
theorem headT_snoc (l : List Ent) (x : Ent) : headT (l ++ [x]) = linkT x := by
  unfold headT
  rw [List.getLast?_append]
  rfl
theorem headT_take (l : List Ent) (i : Nat) (h : i < l.length) : headT (l.take (i + 1)) = linkT l[i] := by rw [take_snoc l i h, headT_snoc]
def addT (l : List Ent) (salt : Int) (pay : List Int) : List Ent := l ++ [((l.length : Int), headT l, comH salt pay, salt, pay, false)]
def rightT (x : Ent) : Bool := if redE x then decide (saltE x = 0) && decide (payE x = []) else decide (comE x = comH (saltE x) (payE x))
/-- Whether entry i is right, the head behind the ones ahead of it being d. -/
def okT (i : Nat) (d : Sm) (x : Ent) : Bool := decide (seqE x = (i : Int)) && (decide (prevE x = d) && rightT x)
/-- The first entry from i on that is not right, d being the head so far; else how many there are. -/
def badT : List Ent → Nat → Sm → Option Nat
  | [], _, _ => none
  | x :: l, i, d => if okT i d x then badT l (i + 1) (linkT x) else some i
def verT (l : List Ent) (head : Sm) (n : Int) : Int × Bool := match badT l 0 Z with
  | some i => ((i : Int), false)
  | none => ((l.length : Int), decide ((l.length : Int) = n) && decide (headT l = head))
def cutE (x : Ent) : Ent := (seqE x, prevE x, comE x, 0, [], true)
def redT (l : List Ent) (i : Int) : List Ent × Int :=
  if 0 ≤ i ∧ i < l.length then match l[i.toNat]? with
    | none => ([], 5)
    | some x => if redE x then ([], 13) else (l.set i.toNat (cutE x), 0)
  else ([], 5)
/-- What may stand in an entry. -/
structure Eu (x : Ent) : Prop where
  pl : (prevE x).length = 32
  pu : U8' (prevE x)
  cl : (comE x).length = 32
  cu : U8' (comE x)
  s0 : 0 ≤ saltE x
  s1 : saltE x ≤ 18446744073709551615
  u : U8 (payE x)
def Lu' (l : List Ent) : Prop := ∀ x ∈ l, Eu x
abbrev DEnt : Kd Ent := Kd.pair (Kd.int .i64) (Kd.pair KS (Kd.pair KS (Kd.pair (Kd.int .u64) (Kd.pair (Kd.slice 5 (Kd.int .u8)) Kd.bool))))
/-- An entry's cells. -/
def cellsE (s : Int) (P C : List Value) (sl : Int) (A : Option Addr) (n c : Nat) (r : Bool) : List Value := Value.int .i64 s :: (P ++ (C ++ [Value.int .u64 sl, .slice A n c, .bool r]))
structure EntC (w : World) (x : Ent) (P C : List Value) (A : Option Addr) (c : Nat) : Prop where
  fp : SumC P (prevE x)
  fc : SumC C (comE x)
  hc : (payE x).length ≤ c
  r : Rb w A (payE x)
abbrev cE (x : Ent) (P C : List Value) (A : Option Addr) (c : Nat) : List Value := cellsE (seqE x) P C (saltE x) A (payE x).length c (redE x)
theorem ent_open {w : World} {x : Ent} {cs : List Value} (hK : DEnt.K w x cs) : ∃ P C A c, EntC w x P C A c ∧ cs = cE x P C A c := by
  obtain ⟨_, _, e0, h0, P, _, e1, h1, C, _, e2, h2, _, _, e3, h3, _, _, e4, ⟨A, c, h4, hc, hr⟩, h5⟩ := hK
  have g1 := Open.nums_arr h1
  have g2 := Open.nums_arr h2
  refine ⟨P, C, A, c, ⟨⟨g1.symm, h1.1⟩, ⟨g2.symm, h2.1⟩, hc, hr⟩, ?_⟩
  subst e0 e1 e2 e3 e4
  rw [show _ = [Value.int .i64 x.1] from h0, show _ = [Value.int .u64 x.2.2.2.1] from h3, h4, show _ = [Value.bool x.2.2.2.2.2] from h5]
  rfl
theorem EntC.len {w : World} {x : Ent} {P C : List Value} {A : Option Addr} {c : Nat} (h : EntC w x P C A c) : (cE x P C A c).length = 68 := by
  show (cellsE _ _ _ _ _ _ _ _).length = 68
  unfold cellsE
  simp [h.fp.lenC, h.fc.lenC]
theorem EntC.one {w : World} {x : Ent} {P C : List Value} {A : Option Addr} {c : Nat} (h : EntC w x P C A c) : (cE x P C A c).toArray.all (·.oneCell') = true := by
  have e1 : ∀ v ∈ P, v.oneCell' = true := by rw [← h.fp.eq]; intro v hv; obtain ⟨y, _, rfl⟩ := List.mem_map.1 hv; rfl
  have e2 : ∀ v ∈ C, v.oneCell' = true := by rw [← h.fc.eq]; intro v hv; obtain ⟨y, _, rfl⟩ := List.mem_map.1 hv; rfl
  simp only [List.all_toArray, List.all_eq_true]
  intro v hv
  have hv : v ∈ cellsE _ _ _ _ _ _ _ _ := hv
  unfold cellsE at hv
  simp only [List.mem_cons, List.mem_append, List.not_mem_nil, or_false] at hv
  rcases hv with rfl | hv | hv | rfl | rfl | rfl
  · rfl
  · exact e1 v hv
  · exact e2 v hv
  · rfl
  · rfl
  · rfl
theorem ent_mk {w : World} {x : Ent} {P C : List Value} {A : Option Addr} {c : Nat} (h : EntC w x P C A c) : DEnt.K w x (cE x P C A c) := by
  have hp : KS.K w (prevE x) P := by rw [← h.fp.eq]; exact KS.K_of_M (Kd.arr_of_cells (base := 0) (ok := fun _ => True) h.fp.len)
  have hq : KS.K w (comE x) C := by rw [← h.fc.eq]; exact KS.K_of_M (Kd.arr_of_cells (base := 0) (ok := fun _ => True) h.fc.len)
  exact ⟨[Value.int .i64 x.1], _, rfl, rfl, P, _, rfl, hp, C, _, rfl, hq, [Value.int .u64 x.2.2.2.1], _, rfl, rfl, [Value.slice A x.2.2.2.2.1.length c], [Value.bool x.2.2.2.2.2], rfl, ⟨A, c, rfl, h.hc, h.r⟩, rfl⟩
theorem EntC.below {w w' : World} {x : Ent} {P C : List Value} {A : Option Addr} {c : Nat} (h : EntC w x P C A c) (hb : Below w.heap.size w w') : EntC w' x P C A c := ⟨h.fp, h.fc, h.hc, Kd.C_below h.r hb⟩
/-- Entries that are read. -/
abbrev Re (w : World) (A : Option Addr) (l : List Ent) : Prop := Kd.C DEnt w A l.length l
theorem re_at {w : World} {A : Option Addr} {l : List Ent} (h : Re w A l) (i : Nat) (hi : i < l.length) : ∃ ad P C B c, A = some ad ∧ AtC w (ad.add (i * 68)) (cE l[i] P C B c) ∧ EntC w l[i] P C B c := by
  obtain ⟨ad, hA, hc⟩ := h.2.2 (by omega)
  obtain ⟨cs, hl, hK, hat⟩ := hc i l[i] (List.getElem?_eq_getElem hi)
  obtain ⟨P, C, B, c, he, rfl⟩ := ent_open hK
  refine ⟨ad, P, C, B, c, hA, fun j v hj => ?_, he⟩
  rw [addr_add_add]
  exact hat j v hj
theorem info_ent : (Try.prog.info? 27).map (·.size) = some 68 := by kernel_rfl
theorem EntC.info {w : World} {x : Ent} {P C : List Value} {A : Option Addr} {c : Nat} (h : EntC w x P C A c) : (Try.prog.info? 27).map (·.size) = some (cE x P C A c).length := by rw [h.len]; exact info_ent
/-- An entry in a block: its fields. -/
structure EntAt (W : World) (g : Nat) (x : Ent) (P C : List Value) (A : Option Addr) (c : Nat) : Prop where
  s : W.cell? ⟨g, 0, none⟩ = some (.int .i64 (seqE x))
  fp : AtC W ⟨g, 1, none⟩ P
  fc : AtC W ⟨g, 33, none⟩ C
  sl : W.cell? ⟨g, 65, none⟩ = some (.int .u64 (saltE x))
  py : W.cell? ⟨g, 66, none⟩ = some (.slice A (payE x).length c)
  r : W.cell? ⟨g, 67, none⟩ = some (.bool (redE x))
theorem EntAt.below {W W' : World} {g : Nat} {x : Ent} {P C : List Value} {A : Option Addr} {c : Nat} (h : EntAt W g x P C A c) (hb : Below W.heap.size W W') : EntAt W' g x P C A c :=
  ⟨cell_below hb h.s, h.fp.below hb, h.fc.below hb, cell_below hb h.sl, cell_below hb h.py, cell_below hb h.r⟩
theorem entAt_blk {W : World} {g T : Nat} {fr : Nat × Nat} {x : Ent} {P C : List Value} {A : Option Addr} {c : Nat} (hP : P.length = 32) (hC : C.length = 32) (h : W.heap[g]? = some (.cells (cE x P C A c).toArray T fr)) : EntAt W g x P C A c := by
  have h0 := atC_blk h
  have h1 : AtC W ⟨g, 1, none⟩ (P ++ (C ++ [Value.int .u64 (saltE x), .slice A (payE x).length c, .bool (redE x)])) := fun j v hj => by
    have h2 := h0 (j + 1) v (by show (cellsE _ _ _ _ _ _ _ _)[j + 1]? = some v; unfold cellsE; rw [List.getElem?_cons_succ]; exact hj)
    rw [add_plain] at h2
    have e : (⟨g, 1, none⟩ : Addr).add j = ⟨g, j + 1, none⟩ := by
      unfold Addr.add
      split
      · next h => subst h; rfl
      · show (⟨g, 1 + j, none⟩ : Addr) = _
        rw [Nat.add_comm]
    rw [e]
    exact h2
  have h2 := h1.right
  rw [hP] at h2
  have h3 := h2.right
  rw [hC] at h3
  exact ⟨h0 0 _ rfl, h1.left, h2.left, h3 0 _ rfl, h3 1 _ rfl, h3 2 _ rfl⟩
end Go.Proofs.Ytfpkgdenohcglaa.Chn
/- chain.link, right, Head; the document's. -/
namespace Go.Proofs.Ytfpkgdenohcglaa.Chn
set_option linter.unusedVariables false
set_option linter.unusedSimpArgs false
open Go.RowKit Go.Proofs.Ytfpkgdenohcglaa.Base Go.Proofs.Ytfpkgdenohcglaa.TlvPlain Go.Proofs.Ytfpkgdenohcglaa.ShaPlain Go.Proofs.Ytfpkgdenohcglaa.Sha Go.Proofs.Ytfpkgdenohcglaa.Com Go.Proofs.Ytfpkgdenohcglaa.Aid Go.Proofs.YtfpkgdenohcglaaW.PrintWords Go.Proofs.YtfpkgdenohcglaaW.PrintLast Go.Proofs.YtfpkgdenohcglaaW.PrintMore
theorem clink_c (x : Ent) (h : Eu x) (w : World) : Calls Try.prog 91 #[.int .i64 (seqE x), sumV (prevE x), sumV (comE x)] w (Ret w (linkT x)) := by
  unfold Ret linkT
  rw [linkH_eq]
  exact link_c (seqE x) (prevE x) (comE x) h.pl h.cl h.pu h.cu w
theorem ccheck_c (x : Ent) (h : Eu x) (hl : (payE x).length ≤ 100000) (A : Option Addr) (c : Nat) (hc : (payE x).length ≤ c) (w : World) (hr : Rb w A (payE x)) :
    Calls Try.prog 71 #[sumV (comE x), .int .u64 (saltE x), .slice A (payE x).length c] w (RetB w (decide (comE x = comH (saltE x) (payE x)))) := by
  unfold RetB
  have h2 := chk_c (comE x) h.cl (saltE x) h.s0 h.s1 A c (payE x) w hr hc h.u hl
  rw [← comH_eq] at h2
  rw [show decide (comE x = comH (saltE x) (payE x)) = decide (comH (saltE x) (payE x) = comE x) from by rw [Bool.eq_iff_iff, decide_eq_true_eq, decide_eq_true_eq]; exact eq_comm]
  exact h2
set_option maxHeartbeats 4000000 in
set_option maxRecDepth 100000 in
theorem link1_c (x : Ent) (h : Eu x) (P C : List Value) (A : Option Addr) (c : Nat) (w : World) (hC : EntC w x P C A c) :
    Calls Try.prog 55 #[.agg (cE x P C A c).toArray] w (Ret w (linkT x)) := by
  obtain ⟨D, hD⟩ := sumC (linkT x) (linkT_len x)
  have HD := Aside0.mk hD
  have HIP := Aside0.mk hC.fp.blk
  have HIC := Aside0.mk hC.fc.blk
  have HT := Aside0.mk (clink_c x h)
  unfold Ret at HT ⊢
  rw [hC.fp.v, hC.fc.v, hD.v] at HT
  rw [hD.v]
  obtain ⟨AA, hAA⟩ : ∃ AA, (cE x P C A c).toArray = AA := ⟨_, rfl⟩
  have HA0 := Aside0.mk (entAt_blk (W := w.alloc (.cells (cE x P C A c).toArray 27)) (T := 27) (fr := (0, 0)) hC.fp.lenC hC.fc.lenC (blk_new w (.cells (cE x P C A c).toArray 27)))
  rw [hAA] at HA0 ⊢
  have HA := Aside0.mk (HA0.out.below (below_alloc (Below.refl _ _) (.cells Z32 23)))
  have HZ := Aside0.mk (show ((w.alloc (.cells AA 27)).alloc (.cells Z32 23)).heap[w.heap.size + 1]? = some (.cells Z32 23 (0, 0)) from second_new' _ _ _)
  have HB := Aside0.mk (show Below w.heap.size w ((w.alloc (.cells AA 27)).alloc (.cells Z32 23)) from below_alloc (below_alloc (Below.refl _ _) _) _)
  clear hC h hD hAA HA0
  go_enter Try.func55, Try.ntmps55
  go_upto_region 1 with (fail)
  obtain ⟨w1, hw1⟩ : ∃ W, (w.alloc (.cells AA 27)).alloc (.cells Z32 23) = W := ⟨_, rfl⟩
  rw [hw1] at HA HZ HB
  rw [show (w.alloc (.cells AA 27)).alloc (.cells #[.int .u8 0, .int .u8 0, .int .u8 0, .int .u8 0, .int .u8 0, .int .u8 0, .int .u8 0, .int .u8 0, .int .u8 0, .int .u8 0, .int .u8 0, .int .u8 0, .int .u8 0, .int .u8 0, .int .u8 0, .int .u8 0, .int .u8 0, .int .u8 0, .int .u8 0, .int .u8 0, .int .u8 0, .int .u8 0, .int .u8 0, .int .u8 0, .int .u8 0, .int .u8 0, .int .u8 0, .int .u8 0, .int .u8 0, .int .u8 0, .int .u8 0, .int .u8 0] 23) = w1 from hw1]
  clear hw1
  have hs := HA.out.s
  go_wp2_with (first
    | ((with_reducible refine gate_dst (N := 6) rfl ?_); refine wpList_load_at rfl 23 (.tmp 5) rfl ⟨w.heap.size, 1, none⟩ rfl P _ HA.out.fp Try.underlying23 rfl HIP.out ?_)
    | ((with_reducible refine gate_dst (N := 8) rfl ?_); refine wpList_load_at rfl 23 (.tmp 7) rfl ⟨w.heap.size, 33, none⟩ rfl C _ HA.out.fc Try.underlying23 rfl HIC.out ?_))
  clear hs
  refine (HT.out _).mono ?_
  rintro e w2 ⟨rfl, hb⟩
  have HZ2 := Aside0.mk (blk_below HZ.out hb)
  have HB2 := Aside0.mk (below_step HB.out hb)
  clear hb
  go_wp2_with ((with_reducible refine gate_store (t := 23) (p := 2) (v := .tmp 9) rfl ?_); refine wpList_store_row rfl 23 (.tmp 2) (.tmp 9) rfl (w.heap.size + 1) D.toArray rfl rfl 23 Z32 HZ2.out HD.out.blkA HD.out.zsA HD.out.oneA ?_)
  have HSR := setRow_heap w2 (w.heap.size + 1) Z32 D.toArray _ _ HZ2.out
  refine bodyPost_ret (v := .agg D.toArray) (results_cell_row rfl _ _ (w.heap.size + 1) 23 D.toArray (0, 0) _ rfl HSR Try.underlying23 rfl HD.out.blkA) rfl ⟨rfl, below_setRow HB2.out (Nat.le_succ _) D.toArray⟩
set_option maxHeartbeats 4000000 in
set_option maxRecDepth 100000 in
theorem right1_c (x : Ent) (h : Eu x) (hl : (payE x).length ≤ 100000) (P C : List Value) (A : Option Addr) (c : Nat) (w : World) (hC : EntC w x P C A c) :
    Calls Try.prog 54 #[.agg (cE x P C A c).toArray] w (RetB w (rightT x)) := by
  have HIC := Aside0.mk hC.fc.blk
  have HT := Aside0.mk (fun W hW => ccheck_c x h hl A c hC.hc W (Kd.C_below hC.r hW))
  unfold RetB at HT ⊢
  rw [hC.fc.v] at HT
  obtain ⟨AA, hAA⟩ : ∃ AA, (cE x P C A c).toArray = AA := ⟨_, rfl⟩
  have HA0 := Aside0.mk (entAt_blk (W := w.alloc (.cells (cE x P C A c).toArray 27)) (T := 27) (fr := (0, 0)) hC.fp.lenC hC.fc.lenC (blk_new w (.cells (cE x P C A c).toArray 27)))
  rw [hAA] at HA0 ⊢
  have HB := Aside0.mk (show Below w.heap.size w (w.alloc (.cells AA 27)) from below_alloc (Below.refl _ _) _)
  unfold rightT
  obtain ⟨cb, hcb⟩ : ∃ b, decide (comE x = comH (saltE x) (payE x)) = b := ⟨_, rfl⟩
  rw [hcb] at HT ⊢
  have hr0 := HA0.out.r
  obtain ⟨sl, hsl⟩ : ∃ sl, saltE x = sl := ⟨_, rfl⟩
  obtain ⟨py, hpy⟩ : ∃ py, payE x = py := ⟨_, rfl⟩
  obtain ⟨rd, hrd⟩ : ∃ rd, redE x = rd := ⟨_, rfl⟩
  have HS := Aside0.mk HA0.out.sl
  have HPY := Aside0.mk HA0.out.py
  have HCC := Aside0.mk HA0.out.fc
  have HRD := Aside0.mk HA0.out.r
  rw [hsl] at HS HT ⊢
  rw [hpy] at HPY HT ⊢
  rw [hrd] at HRD ⊢
  obtain ⟨rs, hrs⟩ : ∃ b, (if rd then decide (sl = 0) && decide (py = []) else cb) = b := ⟨_, rfl⟩
  rw [hrs]
  have HRS := Aside0.mk hrs
  clear hrs
  clear hC h hl hAA HA0 hcb hr0 hsl hpy hrd
  go_enter Try.func54, Try.ntmps54
  go_upto_region 1 with (fail)
  obtain ⟨w1, hw1⟩ : ∃ W, w.alloc (.cells AA 27) = W := ⟨_, rfl⟩
  rw [hw1] at HS HPY HCC HRD HB
  rw [show w.alloc (.cells AA 27) = w1 from hw1]
  clear hw1
  have h1 := HRD.out
  have h2 := HS.out
  have h3 := HPY.out
  cases rd with
  | true =>
    have hrs := HRS.out
    rw [if_pos rfl] at hrs
    by_cases hz : sl = 0
    · subst hz
      have hq : ((py.length : Int) == 0) = decide (py = []) := by
        rw [Bool.eq_iff_iff, beq_iff_eq, decide_eq_true_eq]
        cases py <;> simp <;> omega
      obtain ⟨pb, hpb⟩ : ∃ pb, decide (py = []) = pb := ⟨_, rfl⟩
      rw [hpb] at hq hrs
      subst hrs
      clear hpb
      go_wp2_with (fail)
      go_ret
      exact ⟨by simp, HB.out⟩
    · have hz1 : (sl == 0) = false := by simp [hz]
      rw [decide_eq_false hz, Bool.false_and] at hrs
      subst hrs
      clear hz
      go_wp2_with (fail)
      go_ret
      exact ⟨rfl, HB.out⟩
  | false =>
    have hrs := HRS.out
    rw [if_neg Bool.false_ne_true] at hrs
    subst hrs
    go_wp2_with ((with_reducible refine gate_dst (N := 15) rfl ?_); refine wpList_load_at rfl 23 (.tmp 14) rfl ⟨w.heap.size, 33, none⟩ rfl C _ HCC.out Try.underlying23 rfl HIC.out ?_)
    refine (HT.out _ HB.out).mono ?_
    rintro e w2 ⟨rfl, hb⟩
    have HB2 := Aside0.mk (below_step HB.out hb)
    clear hb h1 h2 h3
    go_wp2_with (fail)
    go_ret
    exact ⟨rfl, HB2.out⟩
end Go.Proofs.Ytfpkgdenohcglaa.Chn
/- Head; the document's right. -/
namespace Go.Proofs.Ytfpkgdenohcglaa.Chn
set_option linter.unusedVariables false
set_option linter.unusedSimpArgs false
open Go.RowKit Go.Proofs.Ytfpkgdenohcglaa.Base Go.Proofs.Ytfpkgdenohcglaa.TlvPlain Go.Proofs.Ytfpkgdenohcglaa.ShaPlain Go.Proofs.Ytfpkgdenohcglaa.Sha Go.Proofs.Ytfpkgdenohcglaa.Com Go.Proofs.Ytfpkgdenohcglaa.Aid Go.Proofs.YtfpkgdenohcglaaW.PrintWords Go.Proofs.YtfpkgdenohcglaaW.PrintLast Go.Proofs.YtfpkgdenohcglaaW.PrintMore
/-- A zero entry's cells. -/
def zE : List Value := cellsE 0 (nums .u8 Z) (nums .u8 Z) 0 none 0 0 false
theorem zE_z : zE.toArray = Try.zeroCells27 := rfl
theorem zE_len : zE.length = 68 := by unfold zE cellsE; simp [nums, Z_len]
theorem headT_last (l : List Ent) (n : Nat) (h : l.length = n + 1) : headT l = linkT (l[n]'(by omega)) := by
  have h1 := take_snoc l n (by omega)
  rw [List.take_of_length_le (by omega)] at h1
  conv => lhs; rw [h1]
  exact headT_snoc _ _
set_option maxHeartbeats 4000000 in
set_option maxRecDepth 100000 in
theorem head_nil (A : Option Addr) (c : Nat) (w : World) : Calls Try.prog 22 #[.slice A 0 c] w (Ret w Z) := by
  have HZ := Aside0.mk (show (w.alloc (.cells Z32 23)).heap[w.heap.size]? = some (.cells Z32 23 (0, 0)) from blk_new _ _)
  have HB := Aside0.mk (below_alloc (Below.refl w.heap.size w) (.cells Z32 23))
  have HIF := Aside0.mk (show (Try.prog.info? 23).map (·.size) = some Z32.size from info_32)
  have HON := Aside0.mk (show Z32.all (·.oneCell') = true from nums_one _ _)
  show Calls _ _ _ _ (fun e w' => e = .returned (.agg Z32) ∧ Below w.heap.size w w')
  go_enter Try.func22, Try.ntmps22
  go_wp2_with ((with_reducible refine gate_store (t := 23) (p := 2) (v := .tmp 6) rfl ?_); refine wpList_store_row rfl 23 (.tmp 2) (.tmp 6) rfl w.heap.size Z32 rfl rfl 23 Z32 HZ.out HIF.out rfl HON.out ?_)
  have HSR := setRow_heap (w.alloc (.cells Z32 23)) w.heap.size Z32 Z32 _ _ HZ.out
  refine bodyPost_ret (v := .agg Z32) (results_cell_row rfl _ _ w.heap.size 23 Z32 (0, 0) _ rfl HSR Try.underlying23 rfl HIF.out) rfl ⟨rfl, below_setRow HB.out (Nat.le_refl _) Z32⟩
set_option maxHeartbeats 4000000 in
set_option maxRecDepth 100000 in
theorem head_cons (l : List Ent) (n : Nat) (hl : l.length = n + 1) (hm : n ≤ 1000000) (hu : Lu' l) (A : Option Addr) (c : Nat) (w : World) (hr : Re w A l) :
    Calls Try.prog 22 #[.slice A (n + 1) c] w (Ret w (headT l)) := by
  obtain ⟨ad, P, C, B, cb, rfl, hat, hC⟩ := re_at hr n (by omega)
  have hE := hu _ (List.getElem_mem (show n < l.length by omega))
  obtain ⟨x, hx⟩ : ∃ x, l[n]'(by omega) = x := ⟨_, rfl⟩
  rw [headT_last l n hl, hx]
  rw [hx] at hat hC hE
  obtain ⟨D, hD⟩ := sumC (linkT x) (linkT_len x)
  have HD := Aside0.mk hD
  have HIE := Aside0.mk hC.info
  have q1 : (n : Int) ≤ 1000000 := by omega
  have q2 : (n : Int) < (n : Int) + 1 := by omega
  have q3 : (((n + 1 : Nat) : Int) == 0) = false := by simp; omega
  have q4 : ((n : Int) + 1 == 0) = false := by simp; omega
  have HZ := Aside0.mk (show (w.alloc (.cells Z32 23)).heap[w.heap.size]? = some (.cells Z32 23 (0, 0)) from blk_new _ _)
  have HB := Aside0.mk (below_alloc (Below.refl w.heap.size w) (.cells Z32 23))
  have HAT := Aside0.mk (hat.below HB.out)
  have HT := Aside0.mk (fun W hW => link1_c x hE P C B cb W (hC.below hW))
  unfold Ret at HT ⊢
  rw [hD.v] at HT ⊢
  obtain ⟨cs, hcs⟩ : ∃ cs, cE x P C B cb = cs := ⟨_, rfl⟩
  rw [hcs] at HT HAT HIE
  clear hat hC hE hx hD hl hm hu hr hcs
  go_enter Try.func22, Try.ntmps22
  go_wp2_with ((with_reducible refine gate_dst (N := 12) rfl ?_); refine wpList_load_at rfl 27 (.tmp 11) rfl (ad.add (n * 68)) rfl cs _ HAT.out Try.underlying27 rfl HIE.out ?_)
  refine (HT.out _ HB.out).mono ?_
  rintro e w2 ⟨rfl, hb⟩
  have HZ2 := Aside0.mk (blk_below HZ.out hb)
  have HB2 := Aside0.mk (below_step HB.out hb)
  clear hb
  go_wp2_with ((with_reducible refine gate_store (t := 23) (p := 2) (v := .tmp 13) rfl ?_); refine wpList_store_row rfl 23 (.tmp 2) (.tmp 13) rfl w.heap.size D.toArray rfl rfl 23 Z32 HZ2.out HD.out.blkA HD.out.zsA HD.out.oneA ?_)
  have HSR := setRow_heap w2 w.heap.size Z32 D.toArray _ _ HZ2.out
  refine bodyPost_ret (v := .agg D.toArray) (results_cell_row rfl _ _ w.heap.size 23 D.toArray (0, 0) _ rfl HSR Try.underlying23 rfl HD.out.blkA) rfl ⟨rfl, below_setRow HB2.out (Nat.le_refl _) D.toArray⟩
theorem head_c (l : List Ent) (n : Nat) (hl : l.length = n) (hm : n ≤ 1000000) (hu : Lu' l) (A : Option Addr) (c : Nat) (w : World) (hr : Re w A l) :
    Calls Try.prog 22 #[.slice A n c] w (Ret w (headT l)) := by
  cases n with
  | zero =>
    rw [List.length_eq_zero_iff.1 hl]
    exact head_nil A c w
  | succ n => exact head_cons l n hl (by omega) hu A c w hr
end Go.Proofs.Ytfpkgdenohcglaa.Chn
/- chain.Verify. -/
namespace Go.Proofs.Ytfpkgdenohcglaa.Chn
set_option linter.unusedVariables false
set_option linter.unusedSimpArgs false
open Go.RowKit Go.Proofs.Ytfpkgdenohcglaa.Base Go.Proofs.Ytfpkgdenohcglaa.TlvPlain Go.Proofs.Ytfpkgdenohcglaa.ShaPlain Go.Proofs.Ytfpkgdenohcglaa.Sha Go.Proofs.Ytfpkgdenohcglaa.Com Go.Proofs.Ytfpkgdenohcglaa.Aid Go.Proofs.YtfpkgdenohcglaaW.PrintWords Go.Proofs.YtfpkgdenohcglaaW.PrintLast Go.Proofs.YtfpkgdenohcglaaW.PrintMore
abbrev RetIB (w : World) (r : Int × Bool) : Ending → World → Prop := fun e w' => e = .returned (.tuple #[.int .i64 r.1, .bool r.2]) ∧ Below w.heap.size w w'
theorem badT_drop (l : List Ent) (k : Nat) (hk : k < l.length) (d : Sm) : badT (l.drop k) k d = if okT k d l[k] then badT (l.drop (k + 1)) (k + 1) (linkT l[k]) else some k := by
  rw [List.drop_eq_getElem_cons hk]
  rfl
theorem verT_bad (l : List Ent) (hd : Sm) (N : Int) (k : Nat) (hk : k < l.length) (hv : badT l 0 Z = badT (l.drop k) k (headT (l.take k))) (ho : okT k (headT (l.take k)) l[k] = false) : verT l hd N = ((k : Int), false) := by
  unfold verT
  rw [hv, badT_drop l k hk, ho]
  rfl
theorem ver_next (l : List Ent) (k : Nat) (hk : k < l.length) (hv : badT l 0 Z = badT (l.drop k) k (headT (l.take k))) (ho : okT k (headT (l.take k)) l[k] = true) : badT l 0 Z = badT (l.drop (k + 1)) (k + 1) (headT (l.take (k + 1))) := by
  rw [hv, badT_drop l k hk, ho, headT_take l k hk]
  rfl
theorem verT_end (l : List Ent) (hd : Sm) (N : Int) (hv : badT l 0 Z = badT (l.drop l.length) l.length (headT (l.take l.length))) : verT l hd N = ((l.length : Int), decide ((l.length : Int) = N) && decide (headT l = hd)) := by
  unfold verT
  rw [hv, List.drop_length]
  rfl
/-- The world in the rounds. -/
structure VerI (w : World) (R : List Value) (l : List Ent) (k : Nat) (W : World) : Prop where
  h : W.heap[w.heap.size]? = some (.cells R.toArray 23 (0, 0))
  d : W.heap[w.heap.size + 1]? = some (.cells (nums .u8 (headT (l.take k))).toArray 23 (0, 0))
  v : badT l 0 Z = badT (l.drop k) k (headT (l.take k))
  b : Below w.heap.size w W
theorem VerI.below {w W W' : World} {R : List Value} {l : List Ent} {k : Nat} (h : VerI w R l k W) (hb : Below W.heap.size W W') : VerI w R l k W' := ⟨blk_below h.h hb, blk_below h.d hb, h.v, below_step h.b hb⟩
set_option maxHeartbeats 4000000 in
set_option maxRecDepth 100000 in
theorem verify_c (l : List Ent) (m : Nat) (hl : l.length = m) (hm : m ≤ 1000000) (hu : Lu' l) (hs : ∀ x ∈ l, (payE x).length ≤ 100000) (hd : Sm) (hdl : hd.length = 32) (N : Int) (A : Option Addr) (c : Nat) (w : World) (hr : Re w A l) :
    Calls Try.prog 17 #[.slice A m c, sumV hd, .int .i64 N] w (RetIB w (verT l hd N)) := by
  unfold RetIB
  obtain ⟨R, hR⟩ := sumC hd hdl
  rw [hR.v]
  have HR := Aside0.mk hR
  have HF := Aside0.mk (And.intro hl (And.intro hm (And.intro hu hs)))
  have HRE := Aside0.mk hr
  have H0 := Aside0.mk (show VerI w R l 0 ((w.alloc (.cells R.toArray 23)).alloc (.cells Z32 23)) from ⟨blk_alloc (blk_new _ _) _, second_new' _ _ _, by rw [List.take_zero, headT_nil, List.drop_zero], below_alloc (below_alloc (Below.refl _ _) _) _⟩)
  have q9 : (m : Int) ≤ 1000000 := by omega
  clear hR hl hm hu hs hdl hr
  go_enter Try.func17, Try.ntmps17
  go_wp2_with (fail)
  go_loopw [9, 10, 13] (fun _ _ i wx => ∃ k : Nat, k ≤ m ∧ i = .int .i64 k ∧ VerI w R l k wx) (fun _ _ i _ => m - (intOf i).toNat)
  case atStart => exact ⟨0, Nat.zero_le _, rfl, H0.out⟩
  case round =>
    clear H0
    obtain ⟨k, hk, rfl, hinv⟩ := hrel
    have HI := Aside0.mk hinv
    clear hinv
    obtain ⟨W, hwy⟩ : ∃ wy, wy = wr := ⟨_, rfl⟩
    subst hwy
    by_cases hlt : k < m
    · have hkl : k < l.length := by rw [HF.out.1]; exact hlt
      obtain ⟨ad, P, C, B, cb, rfl, hat, hC⟩ := re_at HRE.out k hkl
      have hE := HF.out.2.2.1 _ (List.getElem_mem hkl)
      have hpl := HF.out.2.2.2 _ (List.getElem_mem hkl)
      have HVB := Aside0.mk (fun ho => verT_bad l hd N k hkl HI.out.v ho)
      have HVN := Aside0.mk (fun ho => ver_next l k hkl HI.out.v ho)
      have HHT := Aside0.mk (headT_take l k hkl)
      obtain ⟨x, hx⟩ : ∃ x, l[k] = x := ⟨_, rfl⟩
      rw [hx] at hat hC hE hpl HVB HVN HHT
      obtain ⟨L, hL⟩ := sumC (linkT x) (linkT_len x)
      obtain ⟨D, hD⟩ := sumC (headT (l.take k)) (headT_len _)
      have HEQ := Aside0.mk (run_eq_sum (prevE x) (headT (l.take k)) hE.pl (headT_len _))
      rw [hC.fp.v, hD.v] at HEQ
      have HRT := Aside0.mk (fun W (hW : Below w.heap.size w W) => right1_c x hE hpl P C B cb W (hC.below hW))
      have HLT := Aside0.mk (fun W (hW : Below w.heap.size w W) => link1_c x hE P C B cb W (hC.below hW))
      unfold RetB at HRT
      unfold Ret at HLT
      rw [hL.v] at HLT
      have HIE := Aside0.mk hC.info
      have HIA := Aside0.mk (show (Try.prog.info? 27).map (·.size) = some (cE x P C B cb).toArray.size from by rw [List.size_toArray]; exact hC.info)
      have HOA := Aside0.mk hC.one
      have HSA := Aside0.mk (show zE.toArray.size = (cE x P C B cb).toArray.size from by rw [List.size_toArray, List.size_toArray, zE_len, hC.len])
      have HY := Aside0.mk (show (W.alloc (.cells zE.toArray 27)).heap[W.heap.size]? = some (.cells zE.toArray 27 (0, 0)) from blk_new _ _)
      have HSE := Aside0.mk (entAt_blk hC.fp.lenC hC.fc.lenC (setRow_heap (W.alloc (.cells zE.toArray 27)) W.heap.size zE.toArray (cE x P C B cb).toArray _ _ HY.out))
      have HCS := Aside0.mk (atC_blk (setRow_heap (W.alloc (.cells zE.toArray 27)) W.heap.size zE.toArray (cE x P C B cb).toArray _ _ HY.out))
      have HIP := Aside0.mk hC.fp.blk
      have HID := Aside0.mk hD.blk
      have HAT := Aside0.mk (hat.below HI.out.b)
      have HOK := Aside0.mk (show okT k (headT (l.take k)) x = (decide (seqE x = (k : Int)) && (decide (prevE x = headT (l.take k)) && rightT x)) from rfl)
      obtain ⟨cs, hcs⟩ : ∃ cs, cE x P C B cb = cs := ⟨_, rfl⟩
      rw [hcs] at HRT HLT HIE HIA HOA HSA HSE HCS HAT
      have HI1 := Aside0.mk (show VerI w R l k ((W.alloc (.cells zE.toArray 27)).setRow W.heap.size cs.toArray) from HI.out.below (below_setRow (below_alloc (Below.refl _ _) _) (Nat.le_refl _) _))
      obtain ⟨bb, hbb⟩ : ∃ bb, decide (prevE x = headT (l.take k)) = bb := ⟨_, rfl⟩
      obtain ⟨rb, hrb⟩ : ∃ rb, rightT x = rb := ⟨_, rfl⟩
      rw [hbb] at HEQ HOK
      rw [hrb] at HRT HOK
      have HD := Aside0.mk hD
      have HL := Aside0.mk hL
      have HK := Aside0.mk hlt
      have p0 : (0 : Int) ≤ (k : Int) := by omega
      have p1 : (k : Int) < (m : Int) := by omega
      have p2 : (k : Int) ≤ 1000000 := by omega
      clear hE hpl hC hat hx hL hD hcs hbb hrb hlt hk hkl
      go_upto_region 5 with (first
        | ((with_reducible refine gate_dst (N := 17) rfl ?_); refine wpList_load_at rfl 27 (.tmp 16) rfl (ad.add (k * 68)) rfl cs _ HAT.out Try.underlying27 rfl HIE.out ?_)
        | ((with_reducible refine gate_store (t := 27) (p := 10) (v := .tmp 17) rfl ?_); refine wpList_store_row rfl 27 (.tmp 10) (.tmp 17) rfl W.heap.size cs.toArray rfl rfl 27 zE.toArray HY.out HIA.out HSA.out HOA.out ?_))
      obtain ⟨w1, hw1⟩ : ∃ V, (W.alloc (.cells zE.toArray 27)).setRow W.heap.size cs.toArray = V := ⟨_, rfl⟩
      rw [hw1] at HSE HI1 HCS
      rw [show (W.alloc (.cells Try.zeroCells27 27)).setRow W.heap.size cs.toArray = w1 from hw1]
      clear hw1 HY HAT HI
      obtain ⟨g, hg⟩ : ∃ g, W.heap.size = g := ⟨_, rfl⟩
      rw [hg] at HSE HCS ⊢
      clear hg
      have HAP := Aside0.mk HSE.out.fp
      have HBD := Aside0.mk (show w1.heap[w.heap.size + 1]? = some (.cells D.toArray 23 (0, 0)) from by rw [← HD.out.eq]; exact HI1.out.d)
      have hs0 := HSE.out.s
      clear HSE
      obtain ⟨sq, hsq⟩ : ∃ sq, seqE x = sq := ⟨_, rfl⟩
      rw [hsq] at hs0 HOK
      clear hsq
      have hguard := guard_32
      by_cases hsk : sq = (k : Int)
      · subst hsk
        have q0 : ((k : Int) != (k : Int)) = false := by simp
        have heq := HEQ.out
        cases bb with
        | false =>
          go_wp2_with (first
            | ((with_reducible refine gate_dst (N := 24) rfl ?_); (try (refine gate_guard (by rfl) ?_; dsimp only)); refine wpList_load_at rfl 23 (.tmp 23) rfl ⟨g, 1, none⟩ rfl P _ HAP.out Try.underlying23 rfl HIP.out ?_)
            | ((with_reducible refine gate_dst (N := 25) rfl ?_); (try (refine gate_guard (by rfl) ?_; dsimp only)); refine wpList_load_at rfl 23 (.tmp 8) rfl ⟨w.heap.size + 1, 0, none⟩ rfl D _ (atC_blk HBD.out) Try.underlying23 rfl HID.out ?_))
          go_ret2
          exact ⟨by rw [HVB.out (by rw [HOK.out]; simp)]; first | done | rfl, HI1.out.b⟩
        | true =>
          cases rb with
          | false =>
            go_wp2_with (first
              | ((with_reducible refine gate_dst (N := 24) rfl ?_); (try (refine gate_guard (by rfl) ?_; dsimp only)); refine wpList_load_at rfl 23 (.tmp 23) rfl ⟨g, 1, none⟩ rfl P _ HAP.out Try.underlying23 rfl HIP.out ?_)
              | ((with_reducible refine gate_dst (N := 25) rfl ?_); (try (refine gate_guard (by rfl) ?_; dsimp only)); refine wpList_load_at rfl 23 (.tmp 8) rfl ⟨w.heap.size + 1, 0, none⟩ rfl D _ (atC_blk HBD.out) Try.underlying23 rfl HID.out ?_)
              | ((with_reducible refine gate_dst (N := 29) rfl ?_); (try (refine gate_guard (by rfl) ?_; dsimp only)); refine wpList_load_at rfl 27 (.tmp 10) rfl ⟨g, 0, none⟩ rfl cs _ HCS.out Try.underlying27 rfl HIE.out ?_)
              | (go_at_call 54; refine (HRT.out _ HI1.out.b).mono ?_; rintro e w2 ⟨rfl, hb⟩; have HI2 := Aside0.mk (HI1.out.below hb); clear hb))
            go_ret2
            exact ⟨by rw [HVB.out (by rw [HOK.out]; simp)]; first | done | rfl, HI2.out.b⟩
          | true =>
            have HVN2 := Aside0.mk (HVN.out (by rw [HOK.out]; simp))
            go_wp2_with (first
              | ((with_reducible refine gate_dst (N := 24) rfl ?_); (try (refine gate_guard (by rfl) ?_; dsimp only)); refine wpList_load_at rfl 23 (.tmp 23) rfl ⟨g, 1, none⟩ rfl P _ HAP.out Try.underlying23 rfl HIP.out ?_)
              | ((with_reducible refine gate_dst (N := 25) rfl ?_); (try (refine gate_guard (by rfl) ?_; dsimp only)); refine wpList_load_at rfl 23 (.tmp 8) rfl ⟨w.heap.size + 1, 0, none⟩ rfl D _ (atC_blk HBD.out) Try.underlying23 rfl HID.out ?_)
              | ((with_reducible refine gate_dst (N := 29) rfl ?_); (try (refine gate_guard (by rfl) ?_; dsimp only)); refine wpList_load_at rfl 27 (.tmp 10) rfl ⟨g, 0, none⟩ rfl cs _ HCS.out Try.underlying27 rfl HIE.out ?_)
              | (go_at_call 54; refine (HRT.out _ HI1.out.b).mono ?_; rintro e w2 ⟨rfl, hb⟩; have HI2 := Aside0.mk (HI1.out.below hb); have HCS2 := Aside0.mk (HCS.out.below hb); have HBD2 := Aside0.mk (blk_below HBD.out hb); clear hb)
              | ((with_reducible refine gate_dst (N := 34) rfl ?_); refine wpList_load_at rfl 27 (.tmp 10) rfl ⟨g, 0, none⟩ rfl cs _ HCS2.out Try.underlying27 rfl HIE.out ?_)
              | (go_at_call 55; refine (HLT.out _ HI2.out.b).mono ?_; rintro e w3 ⟨rfl, hb⟩; have HI3 := Aside0.mk (HI2.out.below hb); have HBD3 := Aside0.mk (blk_below HBD2.out hb); clear hb)
              | ((with_reducible refine gate_store (t := 23) (p := 8) (v := .tmp 35) rfl ?_); refine wpList_store_row rfl 23 (.tmp 8) (.tmp 35) rfl (w.heap.size + 1) L.toArray rfl rfl 23 D.toArray HBD3.out HL.out.blkA (by rw [List.size_toArray, List.size_toArray, HD.out.lenC, HL.out.lenC]) HL.out.oneA ?_))
            have HF2 := Aside0.mk (show VerI w R l (k + 1) (w3.setRow (w.heap.size + 1) L.toArray) from
              ⟨(setRow_other _ _ _ L.toArray (by omega)).trans HI3.out.h, by rw [HHT.out, HL.out.eq]; exact setRow_heap _ _ D.toArray L.toArray _ _ HBD3.out, HVN2.out, below_setRow HI3.out.b (Nat.le_succ _) _⟩)
            go_roundw
            case rel => exact ⟨k + 1, by have := HK.out; omega, by go_num, HF2.out⟩
            case measure => have := HK.out; simp [intOf]; omega
      · have q0 : (sq != (k : Int)) = true := by simp [hsk]
        have HSK := Aside0.mk hsk
        clear hsk
        go_wp2_with (fail)
        go_ret2
        exact ⟨by rw [HVB.out (by rw [HOK.out, decide_eq_false HSK.out, Bool.false_and])]; first | done | rfl, HI1.out.b⟩
    · have hkm : k = m := by omega
      subst hkm
      have HVE := Aside0.mk (verT_end l hd N (by rw [HF.out.1]; exact HI.out.v))
      rw [HF.out.1] at HVE
      have htk : l.take k = l := List.take_of_length_le (by rw [HF.out.1]; exact Nat.le_refl _)
      obtain ⟨D, hD⟩ := sumC (headT l) (headT_len _)
      have HEQ := Aside0.mk (run_eq_sum (headT l) hd (headT_len _) HR.out.len)
      rw [hD.v, HR.out.v] at HEQ
      have HAD := Aside0.mk (show AtC W ⟨w.heap.size + 1, 0, none⟩ D from atC_blk (by rw [← hD.eq, ← htk]; have h := HI.out.d; rw [htk] at h ⊢; exact h))
      have HAR := Aside0.mk (show AtC W ⟨w.heap.size, 0, none⟩ R from atC_blk HI.out.h)
      have HID := Aside0.mk hD.blk
      have HIR := Aside0.mk HR.out.blk
      have HB := Aside0.mk HI.out.b
      obtain ⟨bb, hbb⟩ : ∃ bb, decide (headT l = hd) = bb := ⟨_, rfl⟩
      rw [hbb] at HEQ HVE
      have hguard := guard_32
      have hu24 := Try.underlying23
      clear htk hD hbb hlt hk HI
      go_upto_region 9 with (fail)
      by_cases hN : (k : Int) = N
      · subst hN
        have q0 : ((k : Int) == (k : Int)) = true := by simp
        have heq := HEQ.out
        refine wp_region_held_drew (S := fun w' => AtC w' ⟨w.heap.size + 1, 0, none⟩ D ∧ AtC w' ⟨w.heap.size, 0, none⟩ R) (by kernel_rfl) (And.intro HAD.out HAR.out) (fun hHeld => ?_)
        (refine wpAnyH_take (i := 0) (v := ?_) rfl (by kernel_rfl) (by kernel_rfl) (by kernel_rfl) (fun _ _ _ h => h) (Or.inl ⟨by rfl, ?_⟩) (by assumption) ?_; (case' refine_2 => (intro w hSw; go_simp; try with_reducible rfl)); (try simp only [Act.put, List.getElem_toArray, List.getElem_cons_zero, List.getElem_cons_succ, List.setIfInBounds_toArray, List.set_cons_zero, List.set_cons_succ]))
        (refine wpAnyH_take (i := 1) (v := ?_) rfl (by kernel_rfl) (by kernel_rfl) (by kernel_rfl) (fun _ _ _ h => h) (Or.inl ⟨by rfl, ?_⟩) (by assumption) ?_; (case' refine_2 => (intro w hSw; go_simp; try with_reducible rfl)); (try simp only [Act.put, List.getElem_toArray, List.getElem_cons_zero, List.getElem_cons_succ, List.setIfInBounds_toArray, List.set_cons_zero, List.set_cons_succ]))
        (refine wpAnyH_take (i := 2) (v := ?_) rfl (by kernel_rfl) (by kernel_rfl) (by kernel_rfl) (fun _ _ _ h => h) (Or.inl ⟨by rfl, ?_⟩) (by assumption) ?_; (case' refine_2 => (intro w hSw; go_simp; try with_reducible rfl)); (try simp only [Act.put, List.getElem_toArray, List.getElem_cons_zero, List.getElem_cons_succ, List.setIfInBounds_toArray, List.set_cons_zero, List.set_cons_succ]))
        (refine wpAnyH_take (i := 3) (v := ?_) rfl (by kernel_rfl) (by kernel_rfl) (by kernel_rfl) (fun _ _ _ h => h) (Or.inl ⟨by rfl, ?_⟩) (by assumption) ?_; (case' refine_2 => (intro w hSw; go_simp; try with_reducible rfl)); (try simp only [Act.put, List.getElem_toArray, List.getElem_cons_zero, List.getElem_cons_succ, List.setIfInBounds_toArray, List.set_cons_zero, List.set_cons_succ]))
        (refine wpAnyH_take (i := 4) (v := ?_) rfl (by kernel_rfl) (by kernel_rfl) (by kernel_rfl) (fun _ _ _ h => h) (Or.inl ⟨by rfl, ?_⟩) (by assumption) ?_; (case' refine_2 => (intro w hSw; go_simp; try with_reducible rfl)); (try simp only [Act.put, List.getElem_toArray, List.getElem_cons_zero, List.getElem_cons_succ, List.setIfInBounds_toArray, List.set_cons_zero, List.set_cons_succ]))
        (refine wpAnyH_take (i := 5) (v := ?_) rfl (by kernel_rfl) (by kernel_rfl) (by kernel_rfl) (fun _ _ _ h => h) (Or.inl ⟨by rfl, ?_⟩) (by assumption) ?_; (case' refine_2 => (intro w hSw; go_simp; try with_reducible rfl)); (try simp only [Act.put, List.getElem_toArray, List.getElem_cons_zero, List.getElem_cons_succ, List.setIfInBounds_toArray, List.set_cons_zero, List.set_cons_succ]))
        (refine wpAnyH_take (i := 6) (v := ?_) rfl (by kernel_rfl) (by kernel_rfl) (by kernel_rfl) (fun _ _ _ h => h) (Or.inl ⟨by rfl, ?_⟩) (by assumption) ?_; (case' refine_2 => (intro w hSw; go_simp; try with_reducible rfl)); (try simp only [Act.put, List.getElem_toArray, List.getElem_cons_zero, List.getElem_cons_succ, List.setIfInBounds_toArray, List.set_cons_zero, List.set_cons_succ]))
        (refine wpAnyH_take (i := 7) rfl (by kernel_rfl) (by kernel_rfl) (by kernel_rfl) (fun _ _ _ h => h) (yieldsIf_load_at (by rfl) _ _ rfl ⟨w.heap.size + 1, 0, none⟩ rfl D _ (fun _ h => h.1) (by assumption) rfl HID.out) (by assumption) ?_; (try simp only [Act.put, List.getElem_toArray, List.getElem_cons_zero, List.getElem_cons_succ, List.setIfInBounds_toArray, List.set_cons_zero, List.set_cons_succ]))
        (refine wpAnyH_take (i := 8) rfl (by kernel_rfl) (by kernel_rfl) (by kernel_rfl) (fun _ _ _ h => h) (yieldsIf_load_at (by rfl) _ _ rfl ⟨w.heap.size, 0, none⟩ rfl R _ (fun _ h => h.2) (by assumption) rfl HIR.out) (by assumption) ?_; (try simp only [Act.put, List.getElem_toArray, List.getElem_cons_zero, List.getElem_cons_succ, List.setIfInBounds_toArray, List.set_cons_zero, List.set_cons_succ]))
        (refine wpAnyH_take (i := 9) (v := ?_) rfl (by kernel_rfl) (by kernel_rfl) (by kernel_rfl) (fun _ _ _ h => h) (Or.inl ⟨by rfl, ?_⟩) (by assumption) ?_; (case' refine_2 => (intro w hSw; go_simp; try with_reducible rfl)); (try simp only [Act.put, List.getElem_toArray, List.getElem_cons_zero, List.getElem_cons_succ, List.setIfInBounds_toArray, List.set_cons_zero, List.set_cons_succ]))
        (refine wpAnyH_take (i := 10) (v := ?_) rfl (by kernel_rfl) (by kernel_rfl) (by kernel_rfl) (fun _ _ _ h => h) (Or.inl ⟨by rfl, ?_⟩) (by assumption) ?_; (case' refine_2 => (intro w hSw; go_simp; try with_reducible rfl)); (try simp only [Act.put, List.getElem_toArray, List.getElem_cons_zero, List.getElem_cons_succ, List.setIfInBounds_toArray, List.set_cons_zero, List.set_cons_succ]))
        (refine wpAnyH_take (i := 11) (v := ?_) rfl (by kernel_rfl) (by kernel_rfl) (by kernel_rfl) (fun _ _ _ h => h) (Or.inl ⟨by rfl, ?_⟩) (by assumption) ?_; (case' refine_2 => (intro w hSw; go_simp; try with_reducible rfl)); (try simp only [Act.put, List.getElem_toArray, List.getElem_cons_zero, List.getElem_cons_succ, List.setIfInBounds_toArray, List.set_cons_zero, List.set_cons_succ]))
        (refine wpAnyH_take (i := 12) (v := ?_) rfl (by kernel_rfl) (by kernel_rfl) (by kernel_rfl) (fun _ _ _ h => h) (Or.inl ⟨by rfl, ?_⟩) (by assumption) ?_; (case' refine_2 => (intro w hSw; go_simp; try with_reducible rfl)); (try simp only [Act.put, List.getElem_toArray, List.getElem_cons_zero, List.getElem_cons_succ, List.setIfInBounds_toArray, List.set_cons_zero, List.set_cons_succ]))
        refine wpAnyH_done (by kernel_rfl) ?_ _
        have HB2 := Aside0.mk (below_drew1 HB.out)
        clear heq
        go_wp2_with (fail)
        go_ret2
        exact ⟨by rw [HVE.out]; simp, HB2.out⟩
      · have q0 : ((k : Int) == N) = false := by simp [hN]
        have HN := Aside0.mk hN
        clear hN
        refine wp_region_held_drew (S := fun w' => True) (by kernel_rfl) trivial (fun hHeld => ?_)
        (refine wpAnyH_take (i := 0) (v := ?_) rfl (by kernel_rfl) (by kernel_rfl) (by kernel_rfl) (fun _ _ _ h => h) (Or.inl ⟨by rfl, ?_⟩) (by assumption) ?_; (case' refine_2 => (intro w hSw; go_simp; try with_reducible rfl)); (try simp only [Act.put, List.getElem_toArray, List.getElem_cons_zero, List.getElem_cons_succ, List.setIfInBounds_toArray, List.set_cons_zero, List.set_cons_succ]))
        (refine wpAnyH_take (i := 1) (v := ?_) rfl (by kernel_rfl) (by kernel_rfl) (by kernel_rfl) (fun _ _ _ h => h) (Or.inl ⟨by rfl, ?_⟩) (by assumption) ?_; (case' refine_2 => (intro w hSw; go_simp; try with_reducible rfl)); (try simp only [Act.put, List.getElem_toArray, List.getElem_cons_zero, List.getElem_cons_succ, List.setIfInBounds_toArray, List.set_cons_zero, List.set_cons_succ]))
        (refine wpAnyH_take (i := 2) (v := ?_) rfl (by kernel_rfl) (by kernel_rfl) (by kernel_rfl) (fun _ _ _ h => h) (Or.inl ⟨by rfl, ?_⟩) (by assumption) ?_; (case' refine_2 => (intro w hSw; go_simp; try with_reducible rfl)); (try simp only [Act.put, List.getElem_toArray, List.getElem_cons_zero, List.getElem_cons_succ, List.setIfInBounds_toArray, List.set_cons_zero, List.set_cons_succ]))
        (refine wpAnyH_take (i := 3) (v := ?_) rfl (by kernel_rfl) (by kernel_rfl) (by kernel_rfl) (fun _ _ _ h => h) (Or.inl ⟨by rfl, ?_⟩) (by assumption) ?_; (case' refine_2 => (intro w hSw; go_simp; try with_reducible rfl)); (try simp only [Act.put, List.getElem_toArray, List.getElem_cons_zero, List.getElem_cons_succ, List.setIfInBounds_toArray, List.set_cons_zero, List.set_cons_succ]))
        (refine wpAnyH_take (i := 4) (v := ?_) rfl (by kernel_rfl) (by kernel_rfl) (by kernel_rfl) (fun _ _ _ h => h) (Or.inl ⟨by rfl, ?_⟩) (by assumption) ?_; (case' refine_2 => (intro w hSw; go_simp; try with_reducible rfl)); (try simp only [Act.put, List.getElem_toArray, List.getElem_cons_zero, List.getElem_cons_succ, List.setIfInBounds_toArray, List.set_cons_zero, List.set_cons_succ]))
        (refine wpAnyH_take (i := 5) (v := ?_) rfl (by kernel_rfl) (by kernel_rfl) (by kernel_rfl) (fun _ _ _ h => h) (Or.inl ⟨by rfl, ?_⟩) (by assumption) ?_; (case' refine_2 => (intro w hSw; go_simp; try with_reducible rfl)); (try simp only [Act.put, List.getElem_toArray, List.getElem_cons_zero, List.getElem_cons_succ, List.setIfInBounds_toArray, List.set_cons_zero, List.set_cons_succ]))
        (refine wpAnyH_take (i := 6) (v := ?_) rfl (by kernel_rfl) (by kernel_rfl) (by kernel_rfl) (fun _ _ _ h => h) (Or.inl ⟨by rfl, ?_⟩) (by assumption) ?_; (case' refine_2 => (intro w hSw; go_simp; try with_reducible rfl)); (try simp only [Act.put, List.getElem_toArray, List.getElem_cons_zero, List.getElem_cons_succ, List.setIfInBounds_toArray, List.set_cons_zero, List.set_cons_succ]))
        (refine wpAnyH_take (i := 7) (v := undef) rfl (by kernel_rfl) (by kernel_rfl) (by kernel_rfl) (fun _ _ _ h => h) (Or.inr ⟨by rfl, rfl⟩) (by assumption) ?_; (try simp only [Act.put, List.getElem_toArray, List.getElem_cons_zero, List.getElem_cons_succ, List.setIfInBounds_toArray, List.set_cons_zero, List.set_cons_succ]))
        (refine wpAnyH_take (i := 8) (v := undef) rfl (by kernel_rfl) (by kernel_rfl) (by kernel_rfl) (fun _ _ _ h => h) (Or.inr ⟨by rfl, rfl⟩) (by assumption) ?_; (try simp only [Act.put, List.getElem_toArray, List.getElem_cons_zero, List.getElem_cons_succ, List.setIfInBounds_toArray, List.set_cons_zero, List.set_cons_succ]))
        (refine wpAnyH_take (i := 9) (v := undef) rfl (by kernel_rfl) (by kernel_rfl) (by kernel_rfl) (fun _ _ _ h => h) (Or.inr ⟨by rfl, rfl⟩) (by assumption) ?_; (try simp only [Act.put, List.getElem_toArray, List.getElem_cons_zero, List.getElem_cons_succ, List.setIfInBounds_toArray, List.set_cons_zero, List.set_cons_succ]))
        (refine wpAnyH_take (i := 10) (v := ?_) rfl (by kernel_rfl) (by kernel_rfl) (by kernel_rfl) (fun _ _ _ h => h) (Or.inl ⟨by rfl, ?_⟩) (by assumption) ?_; (case' refine_2 => (intro w hSw; go_simp; try with_reducible rfl)); (try simp only [Act.put, List.getElem_toArray, List.getElem_cons_zero, List.getElem_cons_succ, List.setIfInBounds_toArray, List.set_cons_zero, List.set_cons_succ]))
        (refine wpAnyH_take (i := 11) (v := ?_) rfl (by kernel_rfl) (by kernel_rfl) (by kernel_rfl) (fun _ _ _ h => h) (Or.inl ⟨by rfl, ?_⟩) (by assumption) ?_; (case' refine_2 => (intro w hSw; go_simp; try with_reducible rfl)); (try simp only [Act.put, List.getElem_toArray, List.getElem_cons_zero, List.getElem_cons_succ, List.setIfInBounds_toArray, List.set_cons_zero, List.set_cons_succ]))
        (refine wpAnyH_take (i := 12) (v := ?_) rfl (by kernel_rfl) (by kernel_rfl) (by kernel_rfl) (fun _ _ _ h => h) (Or.inl ⟨by rfl, ?_⟩) (by assumption) ?_; (case' refine_2 => (intro w hSw; go_simp; try with_reducible rfl)); (try simp only [Act.put, List.getElem_toArray, List.getElem_cons_zero, List.getElem_cons_succ, List.setIfInBounds_toArray, List.set_cons_zero, List.set_cons_succ]))
        refine wpAnyH_done (by kernel_rfl) ?_ _
        have HB2 := Aside0.mk (below_drew1 HB.out)
        go_wp2_with (fail)
        go_ret2
        exact ⟨by rw [HVE.out, decide_eq_false HN.out, Bool.false_and]; first | done | rfl, HB2.out⟩
end Go.Proofs.Ytfpkgdenohcglaa.Chn
/- The document's right and Verify. -/
namespace Go.Proofs.Ytfpkgdenohcglaa.Chn
set_option linter.unusedVariables false
set_option linter.unusedSimpArgs false
open Go.RowKit Go.Proofs.Ytfpkgdenohcglaa.Base Go.Proofs.Ytfpkgdenohcglaa.TlvPlain Go.Proofs.Ytfpkgdenohcglaa.ShaPlain Go.Proofs.Ytfpkgdenohcglaa.Sha Go.Proofs.Ytfpkgdenohcglaa.Com Go.Proofs.Ytfpkgdenohcglaa.Aid Go.Proofs.YtfpkgdenohcglaaW.PrintWords Go.Proofs.YtfpkgdenohcglaaW.PrintLast Go.Proofs.YtfpkgdenohcglaaW.PrintMore
theorem Re.take {w : World} {A : Option Addr} {l : List Ent} (h : Re w A l) {k : Nat} (hk : k ≤ l.length) : Re w A (l.take k) := Kd.C_take h hk
theorem Lu'.take {l : List Ent} (h : Lu' l) (k : Nat) : Lu' (l.take k) := fun x hx => h x (List.mem_of_mem_take hx)
end Go.Proofs.Ytfpkgdenohcglaa.Chn
/- Rows of entries of one's own: their cells alone are owned; what they lead to is only read. -/
namespace Go.Proofs.Ytfpkgdenohcglaa.Chn
set_option linter.unusedVariables false
set_option linter.unusedSimpArgs false
open Go.RowKit Go.Proofs.Ytfpkgdenohcglaa.Base Go.Proofs.Ytfpkgdenohcglaa.TlvPlain Go.Proofs.Ytfpkgdenohcglaa.ShaPlain Go.Proofs.Ytfpkgdenohcglaa.Sha Go.Proofs.Ytfpkgdenohcglaa.Com Go.Proofs.Ytfpkgdenohcglaa.Aid Go.Proofs.YtfpkgdenohcglaaW.PrintWords Go.Proofs.YtfpkgdenohcglaaW.PrintLast Go.Proofs.YtfpkgdenohcglaaW.PrintMore
abbrev KW : Kd (List Value) := Kd.raw 68
abbrev RawOk (x cs : List Value) : Prop := cs = x ∧ cs.length = 68 ∧ ∀ u ∈ cs, u.oneCell' = true
theorem info_ent3 : (Try.prog.info? 27).map (fun i => (i.zero, i.size, i.bytes)) = some (some (.agg Try.zeroCells27), 68, 112) := by kernel_rfl
def Rw (w : World) (base : Nat) (v : Value) (l : List Ent) : Prop :=
  ∃ rows : List (List Value), rows.length = l.length ∧ KW.R 27 w base (fun _ => True) v rows ∧ ∀ (j : Nat) (x : Ent) (c : List Value), l[j]? = some x → rows[j]? = some c → DEnt.K w x c
theorem Rw.below {w w' : World} {base : Nat} {v : Value} {l : List Ent} (h : Rw w base v l) (hb : Below w.heap.size w w') : Rw w' base v l := by
  obtain ⟨rows, hl, hR, hK⟩ := h
  exact ⟨rows, hl, Kd.R_below hR hb, fun j x c hx hc => DEnt.K_below hb (hK j x c hx hc)⟩
theorem Rw.lower {w : World} {base base' : Nat} {v : Value} {l : List Ent} (h : Rw w base v l) (hb : base' ≤ base) : Rw w base' v l := by
  obtain ⟨rows, hl, hR, hK⟩ := h
  exact ⟨rows, hl, Kd.R_lower hR hb, hK⟩
theorem Rw.nil (w : World) (base : Nat) : Rw w base (.slice none 0 0) [] := ⟨[], rfl, Kd.R_nil _ _ _ _ _, fun j x c hx => by simp at hx⟩
theorem re_of_raw {w : World} {A : Option Addr} {l : List Ent} {rows : List (List Value)} (hl : rows.length = l.length) (hC : KW.C w A rows.length rows)
    (hK : ∀ (j : Nat) (x : Ent) (c : List Value), l[j]? = some x → rows[j]? = some c → DEnt.K w x c) : Re w A l := by
  rw [hl] at hC
  refine ⟨rfl, hC.2.1, fun hp => ?_⟩
  obtain ⟨ad, he, hcell⟩ := hC.2.2 hp
  refine ⟨ad, he, fun j p hj => ?_⟩
  have hjl : j < rows.length := by have := (List.getElem?_eq_some_iff.1 hj).1; omega
  obtain ⟨c', hcl, hk, hcc⟩ := hcell j _ (List.getElem?_eq_getElem hjl)
  have hq := hK j p _ hj (List.getElem?_eq_getElem hjl)
  refine ⟨c', hcl, ?_, hcc⟩
  rw [show c' = rows[j] from hk.1]
  exact hq
theorem Rw.reads {w : World} {base : Nat} {v : Value} {l : List Ent} (h : Rw w base v l) : ∃ A c, v = .slice A l.length c ∧ l.length ≤ c ∧ Re w A l := by
  obtain ⟨rows, hl, hR, hK⟩ := h
  obtain ⟨A, c, hv, hc, hC⟩ := Kd.R_reads hR
  exact ⟨A, c, by rw [hv, hl], by omega, re_of_raw hl hC hK⟩
theorem rows_of {w : World} {A : Option Addr} {l : List Ent} (h : Re w A l) :
    ∃ rows : List (List Value), rows.length = l.length ∧ ReadsRow RawOk 68 w A l.length rows ∧ ∀ (j : Nat) (x : Ent) (c : List Value), l[j]? = some x → rows[j]? = some c → DEnt.K w x c :=
  Kd.reads_raw h (fun x c hk => ⟨DEnt.K_len hk, DEnt.K_one hk⟩)
/-- A copy of entries: its cells lead to what came. -/
abbrev RetC (w : World) (l : List Ent) : Ending → World → Prop := fun e w' => ∃ (v : Value) (rows : List (List Value)), e = .returned v ∧ rows.length = l.length ∧ KW.R 27 w' w.heap.size (fun _ => True) v rows ∧ (∀ (j : Nat) (x : Ent) (c : List Value), l[j]? = some x → rows[j]? = some c → DEnt.K w x c) ∧ Below w.heap.size w w'
abbrev RetE (w : World) (l : List Ent) : Ending → World → Prop := fun e w' => ∃ v, e = .returned v ∧ Rw w' w.heap.size v l ∧ Below w.heap.size w w'
set_option maxHeartbeats 4000000 in
set_option maxRecDepth 100000 in
theorem eclone_c (l : List Ent) (m : Nat) (hl : l.length = m) (hm : m ≤ 100000) (A : Option Addr) (c : Nat) (hc : m ≤ c) (w : World) (hr : Re w A l) :
    Calls Try.prog 53 #[.slice A m c] w (RetC w l) := by
  unfold RetC
  have hq := fun (n c : Nat) => Lib.run_eql_slice_nil (P := Try.prog) w 22 27 A n c 0 0 Try.underlying22
  cases A with
  | none =>
    have hm0 : m = 0 := by
      rcases Nat.eq_zero_or_pos m with h | h
      · exact h
      · obtain ⟨ad, P, C, B, cb, h1, _⟩ := re_at hr 0 (by omega)
        cases h1
    subst hm0
    have hf : l = [] := List.length_eq_zero_iff.1 hl
    subst hf
    clear hl hm hc hr
    go_enter Try.func53, Try.ntmps53
    go_wp2_with (fail)
    go_ret
    exact ⟨_, [], rfl, rfl, Kd.R_nil _ _ _ _ _, fun j x c hx => by simp at hx, Below.refl _ _⟩
  | some ad =>
    obtain ⟨rows, hrl, hrr, hrk⟩ := rows_of hr
    have HR := Aside0.mk hrr
    have HL := Aside0.mk hl
    have HM := Aside0.mk hm
    have HRL := Aside0.mk hrl
    have HK := Aside0.mk hrk
    clear hl hm hc hr hrr hrl hrk
    go_enter Try.func53, Try.ntmps53
    have HB := Aside0.mk (Below.refl w.heap.size w)
    go_wp2_with (first
      | ((with_reducible refine gate_dst (N := 5) rfl ?_); refine Kd.R_lit KW _ 27 ?hg (N := 5) ?hd (xs := ([] : List (List Value))) (inner := []) (ok := fun _ => True) (okp := fun _ => True) ?hr ?hp (fun _ hk => hk) trivial (Below.refl _ _) (Nat.le_refl _) (by simp) ?_; (case hd => rfl); (case hg => rfl); (case hr => first | (go_simp; done) | (go_simp; rfl)); (case hp => exact (Reps.none _ _)); intro v255 w3 ho4 hb hg_ hnew_; clear hg_ hnew_; have n0_ := Aside0.mk (Kd.R_lower ho4 (below_size HB.out)); have n1_ := Aside0.mk (below_step HB.out hb); clear HB; have HO := n0_; have HB := n1_; clear n0_ n1_; clear hb ho4)
      | ((with_reducible refine gate_builtin (b := .append) (xs := #[.tmp 5, .tmp 6]) rfl ?_); at_builtin; refine Kd.R_append_rows KW (Rr := RawOk) (w0 := w) w.heap.size rfl (.tmp 5) (.tmp 6) 22 27 (.agg Try.zeroCells27) 112 rfl Try.underlying22 info_ent3 rfl (by decide) (by omega) v255 [] rows _ m c (fun _ => True) (fun _ => False) rfl rfl HO.out (by have h := ReadsRow.imp_ HR.out HB.out (fun _ _ hp => hp); rw [HL.out] at h; exact h) (fun _ _ h => h) (fun _ h => h.elim) (fun _ _ => trivial) HB.out (below_size HB.out) (by have := HM.out; simp; omega) ?_; intro v258 w5 ho hb hg hat; have n0_ := Aside0.mk (hb); have n1_ := Aside0.mk (ho); clear HB; clear HO; have HB := n0_; have HO := n1_; clear n0_ n1_; clear ho hb hg hat))
    go_ret
    exact ⟨_, rows, rfl, HRL.out, HO.out, HK.out, HB.out⟩
section
variable {ops : Array Oper} {rest : List Oper} {o : Oper} {a : Act} {Q : Exit → Act → World → Prop}
/-- make([]Entry, m, m + 1). -/
theorem wpList_make_e {w : World} (hgd : o.guard = none) (x y : Operand) (ho : o.op = .makeSlice 22 x y) (m : Nat) (hm : m ≤ 100000) (hx : a.eval x = .int .i64 m) (hy : a.eval y = .int .i64 ((m : Int) + 1))
    (h : ∀ zs : List Value, zs.length = (m + 1) * 68 → wpList Try.prog ops Q rest (a.put o.dst (.slice (some ⟨w.heap.size, 0, none⟩) m (m + 1))) (w.alloc (.cells zs.toArray 27))) : wpList Try.prog ops Q (o :: rest) a w := by
  obtain ⟨i, hi, hz, hs, hb⟩ := info_parts info_ent3
  have hrun := run_make (P := Try.prog) w 22 27 i (.agg Try.zeroCells27) Try.underlying22 hi hz .i64 .i64 (m : Int) ((m : Int) + 1) (by omega) (by omega) (by rw [hb]; omega) (by omega)
  rw [hs, Int.toNat_natCast, show ((m : Int) + 1).toNat = m + 1 by omega] at hrun
  refine wpList_plain hgd fun K hK => ?_
  have h2 := h (madeCells (Value.agg Try.zeroCells27).cells ((m + 1) * 68)).toList (by rw [Array.length_toList, size_madeCells])
  rw [Array.toArray_toList] at h2
  unfold Oper.wp execOp
  simp only [ho, hx, hy, hrun, Sem.run_bind, Result.andThen_ok]
  exact hK _ _ h2
theorem run_copy_e (w : World) (ty : TypeId) (g m dCap : Nat) (sd : Addr) (sCap : Nat) (cur : Array Value) (t : TypeId) (cs : List Value)
    (hg : w.heap[g]? = some (.cells cur t (0, 0))) (hn : cs.length = m * 68)
    (hsrc : ∀ j v, cs[j]? = some v → w.cell? (sd.add j) = some v) (hfit : cs.length ≤ cur.size) (h1 : ∀ v ∈ cs, v.oneCell' = true) :
    (Builtin.copy_ #[22, 22] ty #[.slice (some ⟨g, 0, none⟩) m dCap, .slice (some sd) m sCap]).run Try.prog w =
      .ok (goInt (m : Int)) (w.setRow g (cs ++ cur.toList.drop cs.length).toArray) := by
  have hl := run_loadCells_list (P := Try.prog) w sd cs hsrc
  have hst := run_storeCells_at Try.prog g 0 t cs 0 cur w hg (by simpa using hfit) h1
  obtain ⟨i, hi, hz, hs, hb⟩ := info_parts info_ent3
  rw [hn] at hl
  simp [Builtin.copy_, run_underlying Try.underlying22, Builtin.lenOf, Builtin.firstCells, sizeOf, typeInfo, hi, hs, hl, hst]
theorem run_copy_e0 (w : World) (ty : TypeId) (d s : Option Addr) (dCap sCap : Nat) :
    (Builtin.copy_ #[22, 22] ty #[.slice d 0 dCap, .slice s 0 sCap]).run Try.prog w = .ok (goInt 0) w := by
  have hl : ∀ (x : Addr), (loadCells x 0).run Try.prog w = .ok #[] w := fun x => by simpa using run_loadCells_list (P := Try.prog) w x [] (by simp)
  obtain ⟨i, hi, hz, hs, hb⟩ := info_parts info_ent3
  cases d <;> cases s <;> simp [Builtin.copy_, run_underlying Try.underlying22, Builtin.lenOf, Builtin.firstCells, sizeOf, typeInfo, hi, storeCells, hl]
/-- copy(out, l): out's cells, behind them what lay there. -/
theorem wpList_copy_e {w w0 : World} (hgd : o.guard = none) (d s : Operand) (ho : o.op = .call { callee := .builtin .copy, args := #[d, s], argTypes := #[22, 22] })
    (g m c : Nat) (A : Option Addr) (hd : a.eval d = .slice (some ⟨g, 0, none⟩) m (m + 1)) (hs : a.eval s = .slice A m c) (hm : m ≤ 100000)
    (cur : List Value) (hg : w.heap[g]? = some (.cells cur.toArray 27 (0, 0))) (hcur : cur.length = (m + 1) * 68) (rows : List (List Value)) (hrl : rows.length = m) (HR : ReadsRow RawOk 68 w A m rows)
    (base : Nat) (hbg : base ≤ g) (HB : Below base w0 w)
    (h : ∀ w', KW.R 27 w' base (fun _ => True) (.slice (some ⟨g, 0, none⟩) m (m + 1)) rows → Below base w0 w' → (∀ k, k ≠ g → w'.heap[k]? = w.heap[k]?) → wpList Try.prog ops Q rest (a.put o.dst (goInt (m : Int))) w') : wpList Try.prog ops Q (o :: rest) a w := by
  refine wpList_plain hgd fun K hK => ?_
  rcases Nat.eq_zero_or_pos m with h0 | hp
  · subst h0
    have hre : rows = [] := List.length_eq_zero_iff.1 hrl
    subst hre
    have hrun := run_copy_e0 w o.type (some ⟨g, 0, none⟩) A (0 + 1) c
    have h2 := h w ⟨fun _ _ => trivial, [], ⟨rfl, Or.inr ⟨g, 0 + 1, cur.toArray, rfl, hbg, hg, by show 0 ≤ 0 + 1; omega, by decide, by show cur.toArray.size = (0 + 1) * 68; simp [hcur], by show cur.toArray.toList.take (0 * 68) = []; simp⟩⟩, Reps.none _ _⟩ HB (fun _ _ => rfl)
    unfold Oper.wp execOp
    simp only [ho, resolve, invoke, builtin, Sem.run_bind, Sem.run_pure, Result.andThen_ok, List.map_toArray, List.map_cons, List.map_nil, hd, hs, hrun]
    exact hK _ _ h2
  · obtain ⟨sd, rfl, _⟩ := HR.2.2 hp
    obtain ⟨inner, hri, hci⟩ := ReadsRow.inner_ HR
    have hil : inner.length = m * 68 := by rw [hri.1, hrl]
    have hone : ∀ v ∈ inner, v.oneCell' = true := by
      intro v hv
      obtain ⟨j, hj, rfl⟩ := List.mem_iff_getElem.1 hv
      have hj2 : j / 68 < rows.length := by rw [hrl]; omega
      have hq := (hri.2 (j / 68) _ (List.getElem?_eq_getElem hj2)).2.2
      refine hq _ (List.mem_iff_getElem?.2 ⟨j % 68, ?_⟩)
      rw [List.getElem?_take, if_pos (Nat.mod_lt _ (by decide)), List.getElem?_drop, show j / 68 * 68 + j % 68 = j by omega]
      exact List.getElem?_eq_getElem hj
    have hrun := run_copy_e w o.type g m (m + 1) sd c cur.toArray 27 inner hg hil hci (by simp [hil, hcur]; omega) hone
    have hset := setRow_heap w g cur.toArray (inner ++ cur.toArray.toList.drop inner.length).toArray _ _ hg
    have h2 := h (w.setRow g (inner ++ cur.toArray.toList.drop inner.length).toArray)
      ⟨fun _ _ => trivial, inner, ⟨by rw [hil, hrl]; rfl, Or.inr ⟨g, m + 1, (inner ++ cur.toArray.toList.drop inner.length).toArray, by rw [hrl], hbg, hset, by omega, by simp [maxLen]; omega, by show (inner ++ cur.toArray.toList.drop inner.length).toArray.size = (m + 1) * 68; simp [hil, hcur]; omega, by show (inner ++ cur.toArray.toList.drop inner.length).toArray.toList.take (rows.length * 68) = inner; rw [hrl, ← hil]; simp⟩⟩, hri⟩
      (below_setRow HB hbg _) (fun k hk => setRow_other _ _ _ _ hk)
    unfold Oper.wp execOp
    simp only [ho, resolve, invoke, builtin, Sem.run_bind, Sem.run_pure, Result.andThen_ok, List.map_toArray, List.map_cons, List.map_nil, hd, hs, hrun]
    exact hK _ _ h2
end
end Go.Proofs.Ytfpkgdenohcglaa.Chn
/- Entries that are built. -/
namespace Go.Proofs.Ytfpkgdenohcglaa.Chn
set_option linter.unusedVariables false
set_option linter.unusedSimpArgs false
open Go.RowKit Go.Proofs.Ytfpkgdenohcglaa.Base Go.Proofs.Ytfpkgdenohcglaa.TlvPlain Go.Proofs.Ytfpkgdenohcglaa.ShaPlain Go.Proofs.Ytfpkgdenohcglaa.Sha Go.Proofs.Ytfpkgdenohcglaa.Com Go.Proofs.Ytfpkgdenohcglaa.Aid Go.Proofs.YtfpkgdenohcglaaW.PrintWords Go.Proofs.YtfpkgdenohcglaaW.PrintLast Go.Proofs.YtfpkgdenohcglaaW.PrintMore
theorem list32 (l : List Value) (h : l.length = 32) : l = (List.range 32).map (fun i => l.getD i undef) := by
  apply List.ext_getElem?
  intro i
  rw [List.getElem?_map]
  by_cases hi : i < 32
  · rw [List.getElem?_range hi, List.getElem?_eq_getElem (by omega)]
    simp [List.getD_eq_getElem?_getD, List.getElem?_eq_getElem (show i < l.length by omega)]
  · rw [List.getElem?_eq_none (by omega), List.getElem?_eq_none (by simp; omega)]
    rfl
theorem built_new (n sl : Int) (f g : Nat → Value) (A : Option Addr) (k c : Nat) :
    Try.prog.built 27 [(0, .int .i64 n), (1, .agg ((List.range 32).map f).toArray), (2, .agg ((List.range 32).map g).toArray), (3, .int .u64 sl), (4, .slice A k c)] =
      some (cellsE n ((List.range 32).map f) ((List.range 32).map g) sl A k c false).toArray := by kernel_rfl
theorem run_new (w : World) (n sl : Int) (P C : List Value) (hP : P.length = 32) (hC : C.length = 32) (A : Option Addr) (k c : Nat) :
    (Instr.build 27 #[(0, .int .i64 n), (1, .agg P.toArray), (2, .agg C.toArray), (3, .int .u64 sl), (4, .slice A k c)]).run Try.prog w = .ok (.agg (cellsE n P C sl A k c false).toArray) w := by
  refine run_build w _ _ _ ?_
  have h := built_new n sl (fun i => P.getD i undef) (fun i => C.getD i undef) A k c
  rw [← list32 P hP, ← list32 C hC] at h
  exact h
section
variable {ops : Array Oper} {rest : List Oper} {o : Oper} {a : Act} {Q : Exit → Act → World → Prop}
theorem wpList_new {w : World} (hgd : o.guard = none) (x0 x1 x2 x3 x4 : Operand) (ho : o.op = .build 27 #[(0, x0), (1, x1), (2, x2), (3, x3), (4, x4)]) (n sl : Int) (P C : List Value) (hP : P.length = 32) (hC : C.length = 32) (A : Option Addr) (k c : Nat)
    (h0 : a.eval x0 = .int .i64 n) (h1 : a.eval x1 = .agg P.toArray) (h2 : a.eval x2 = .agg C.toArray) (h3 : a.eval x3 = .int .u64 sl) (h4 : a.eval x4 = .slice A k c)
    (h : wpList Try.prog ops Q rest (a.put o.dst (.agg (cellsE n P C sl A k c false).toArray)) w) : wpList Try.prog ops Q (o :: rest) a w := by
  refine wpList_plain hgd fun K hK => ?_
  have hp : (#[((0 : Nat), x0), (1, x1), (2, x2), (3, x3), (4, x4)].map fun (i, y) => (i, a.eval y)) = #[(0, .int .i64 n), (1, .agg P.toArray), (2, .agg C.toArray), (3, .int .u64 sl), (4, .slice A k c)] := by simp [h0, h1, h2, h3, h4]
  unfold Oper.wp execOp
  simp only [ho, hp, Sem.run_bind, run_new w n sl P C hP hC A k c, Result.andThen_ok]
  exact hK _ _ h
/-- append(v, x)'s row of one entry. -/
theorem run_ent1 (w : World) (cs : List Value) (hc : cs.length = 68) : (Instr.buildSlice 22 1 #[(0, .agg cs.toArray)]).run Try.prog w = .ok (.slice (some ⟨w.heap.size, 0, none⟩) 1 1) (w.alloc (.cells cs.toArray 27)) := by
  obtain ⟨i, hi, hz, hs, hb⟩ := info_parts info_ent3
  have hf := Great.fill_whole (s := 68) (by decide) [Value.agg cs.toArray] ((Array.range (1 * 68)).map ((Value.agg Try.zeroCells27).cells[· % (Value.agg Try.zeroCells27).cells.size]!)) (fun v hv => by
    rw [List.mem_singleton.1 hv]; simp [Value.cells, hc]) (by simp)
  refine run_buildSlice w 22 27 1 _ _ i (.agg Try.zeroCells27) Try.underlying22 hi hz (by rw [hs]; decide) (by rw [hs]; decide) ?_
  rw [hs]
  refine Eq.trans ?_ (hf.trans ?_)
  · rfl
  · simp [Value.cells]
theorem wpList_ent1 {w : World} (hgd : o.guard = none) (x : Operand) (ho : o.op = .buildSlice 22 1 #[(0, x)]) (cs : List Value) (hx : a.eval x = .agg cs.toArray) (hc : cs.length = 68)
    (h : wpList Try.prog ops Q rest (a.put o.dst (.slice (some ⟨w.heap.size, 0, none⟩) 1 1)) (w.alloc (.cells cs.toArray 27))) : wpList Try.prog ops Q (o :: rest) a w := by
  refine wpList_plain hgd fun K hK => ?_
  have hp : (#[((0 : Nat), x)].map fun (i, y) => (i, a.eval y)) = #[(0, .agg cs.toArray)] := by simp [hx]
  unfold Oper.wp execOp
  simp only [ho, hp, Sem.run_bind, run_ent1 w cs hc, Result.andThen_ok]
  exact hK _ _ h
end
section
variable {o : Oper} {a : Act} {Q : Exit → Act → World → Prop} {K : Act → World → Prop}
end
/-- The new entry. -/
abbrev newE (l : List Ent) (salt : Int) (pay : List Int) : Ent := ((l.length : Int), headT l, comH salt pay, salt, pay, false)
/-- A row with one more entry, the row of cells grown by that entry's cells. -/
theorem Rw.snoc {w0 W w' : World} {base : Nat} {v : Value} {l : List Ent} {rows : List (List Value)} {x : Ent} {cs : List Value} (hl : rows.length = l.length) (hR : KW.R 27 w' base (fun _ => True) v (rows ++ [cs]))
    (h0 : ∀ (j : Nat) (x : Ent) (c : List Value), l[j]? = some x → rows[j]? = some c → DEnt.K w0 x c) (hb0 : Below w0.heap.size w0 w') (hx : DEnt.K W x cs) (hb : Below W.heap.size W w') : Rw w' base v (l ++ [x]) := by
  refine ⟨rows ++ [cs], by simp [hl], hR, fun j y c hy hc => ?_⟩
  rcases Nat.lt_or_ge j l.length with h | h
  · rw [List.getElem?_append_left h] at hy
    rw [List.getElem?_append_left (by omega)] at hc
    exact DEnt.K_below hb0 (h0 j y c hy hc)
  · rw [List.getElem?_append_right h] at hy
    rw [List.getElem?_append_right (by omega), hl] at hc
    rcases hk : j - l.length with _ | k
    · rw [hk] at hy hc
      simp only [List.getElem?_cons_zero, Option.some.injEq] at hy hc
      rw [← hy, ← hc]
      exact DEnt.K_below hb hx
    · rw [hk] at hy
      simp at hy
end Go.Proofs.Ytfpkgdenohcglaa.Chn
/- The walks of package tlv: what each of its functions does to memory. -/
namespace Go.Proofs.Ytfpkgdenohcglaa.Tlv
open Go.Proofs.Ytfpkgdenohcglaa.Base Go.Proofs.Ytfpkgdenohcglaa.TlvPlain Go.RowKit Go.Proofs.YtfpkgdenohcglaaW.PrintWords Go.Proofs.YtfpkgdenohcglaaW.PrintLast Go.Proofs.YtfpkgdenohcglaaW.PrintMore

/-- A reader at block g: made, failed, and the bytes that are left. -/
def Rdr (w0 W : World) (g : Nat) (made failed : Bool) (bs : List Int) : Prop :=
  w0.heap.size ≤ g ∧ ∃ A c, W.heap[g]? = some (.cells #[.bool made, .bool failed, .slice A bs.length c] 115 (0, 0)) ∧ bs.length ≤ c ∧ Rb W A bs ∧ bs.length < 140737488355328 ∧ U8 bs ∧ ∀ ad, A = some ad → ad.block < g
theorem Rdr.lower {w0 w1 W : World} {g : Nat} {m f : Bool} {bs : List Int} (h : Rdr w1 W g m f bs) (hs : w0.heap.size ≤ w1.heap.size) : Rdr w0 W g m f bs := ⟨Nat.le_trans hs h.1, h.2⟩
theorem cells_no_int {m f : Bool} {A : Option Addr} {n c : Nat} (i : Nat) (v : Value) (h : (#[Value.bool m, .bool f, .slice A n c] : Array Value)[i]? = some v) (k : Int) : v ≠ .int .u8 k := by
  match i, h with
  | 0, h => cases h; simp
  | 1, h => cases h; simp
  | 2, h => cases h; simp
theorem Rdr.below {w0 W W1 : World} {g : Nat} {m f : Bool} {bs : List Int} (h : Rdr w0 W g m f bs) (hb : Below W.heap.size W W1) : Rdr w0 W1 g m f bs := by
  obtain ⟨h0, A, c, h1, h2, h3, h4⟩ := h
  exact ⟨h0, A, c, (hb.block g (blk_lt h1)).trans h1, h2, Kd.C_below h3 hb, h4⟩
/-- Where another block alone was written, in which no numbers lie. -/
theorem Rdr.keep {w0 W W1 : World} {g g' : Nat} {m f : Bool} {bs : List Int} (h : Rdr w0 W g m f bs) (hk : KeepBut W W1 g' none) (hne : g ≠ g') {T : Nat} {cs : Array Value} (hb : W.heap[g']? = some (.cells cs T (0, 0))) (hcs : ∀ i : Nat, ∀ v, cs[i]? = some v → ∀ n, v ≠ Value.int .u8 n) : Rdr w0 W1 g m f bs := by
  obtain ⟨h0, A, c, h1, h2, h3, h4⟩ := h
  exact ⟨h0, A, c, hk.blk h1 hne (by simp), h2, reads_keep h3 hk (reads_ne hb hcs h3), h4⟩
theorem Rdr.grown {w0 W W1 : World} {g : Nat} {m f : Bool} {bs : List Int} {row : Option Nat} (h : Rdr w0 W g m f bs) (hg : W.grownBy W1 row) (hr : ∀ b, row = some b → g < b) : Rdr w0 W1 g m f bs := by
  obtain ⟨h0, A, c, h1, h2, h3, h4⟩ := h
  have hne : some g ≠ row := fun e => Nat.lt_irrefl g (hr g e.symm)
  refine ⟨h0, A, c, blk_grown h1 hg hne, h2, ?_, h4⟩
  cases row with
  | none => exact reads_keep h3 (KeepBut.of_grown hg W.heap.size) (fun ad e _ => by have := h4.2.2 ad e; have := blk_lt h1; omega)
  | some q =>
    have hk : KeepBut W W1 q none := ⟨hg.size, fun i hi h1 _ => hg.block i hi (fun e => h1 (Option.some.inj e))⟩
    exact reads_keep h3 hk (fun ad e _ => by have := h4.2.2 ad e; have := hr q rfl; omega)
theorem Rdr.set {w0 W : World} {g : Nat} {m f : Bool} {bs : List Int} (h : Rdr w0 W g m f bs) (f' : Bool) : Rdr w0 (W.setCell ⟨g, 1, none⟩ (.bool f')) g m f' bs := by
  obtain ⟨h0, A, c, h1, h2, h3, h4⟩ := h
  exact ⟨h0, A, c, by simpa using blk_set h1 1 (.bool f'), h2, reads_keep h3 (keep_set _ _ _ _) (reads_ne h1 cells_no_int h3), h4⟩
theorem Rdr.cut {w0 W : World} {g : Nat} {m f : Bool} {bs cs : List Int} (h : Rdr w0 W g m f bs) {A' : Option Addr} {c' : Nat} (hc : cs.length ≤ c') (hr : Rb W A' cs) (hl : cs.length ≤ bs.length) (hu : U8 cs) (hbl : ∀ ad, A' = some ad → ad.block < g) : Rdr w0 (W.setCell ⟨g, 2, none⟩ (.slice A' cs.length c')) g m f cs := by
  obtain ⟨h0, A, c, h1, h2, h3, h4⟩ := h
  exact ⟨h0, A', c', by simpa using blk_set h1 2 (.slice A' cs.length c'), hc, reads_keep hr (keep_set _ _ _ _) (reads_ne h1 cells_no_int hr), Nat.lt_of_le_of_lt hl h4.1, hu, hbl⟩

set_option maxHeartbeats 800000 in
set_option maxRecDepth 100000 in
theorem clone (A0 : Option Addr) (c0 : Nat) (l0 : List Int) (w : World) (hr0 : Kd.C (Kd.int .u8) w A0 l0.length l0) (hc0 : l0.length ≤ c0) (hl : l0.length < 140737488355328) :
    Calls Try.prog 51 #[.slice A0 l0.length c0] w fun e w' => ∃ v : Value, e = .returned v ∧ Kd.R (Kd.int .u8) 5 w' w.heap.size (fun _ => True) v l0 ∧ Below w.heap.size w w' := by
  have hq := fun (n c : Nat) => Lib.run_eql_slice_nil (P := Try.prog) w 25 5 A0 n c 0 0 Try.underlying25
  have HR := Aside0.mk hr0
  have HL := Aside0.mk hl
  have HC := Aside0.mk hc0
  clear hr0 hl hc0
  cases A0 with
  | none =>
    have hz : l0 = [] := by
      have h := HR.out
      cases l0 with
      | nil => rfl
      | cons x xs => obtain ⟨ad, c, e, _⟩ := Kd.C_get h 0 0 (by omega) (by simp); cases e
    subst hz
    clear HR HL HC
    go_enter Try.func51, Try.ntmps51
    go_wp2
    go_ret
    exact ⟨_, rfl, Kd.R_nil _ _ _ _ _, Below.refl _ _⟩
  | some a =>
    have HB := Aside0.mk (Below.refl w.heap.size w)
    go_enter Try.func51, Try.ntmps51
    go_wp2_with (first
      | ((with_reducible refine gate_dst (N := 5) rfl ?_); refine Kd.R_lit (Kd.int .u8) _ 5 ?hg (N := 5) ?hd (xs := ([] : List Int)) (inner := []) (ok := fun _ => True) (okp := fun _ => True) ?hr ?hp (fun _ hk => hk) trivial (Below.refl _ _) (Nat.le_refl _) (by simp) ?_; (case hd => rfl); (case hg => rfl); (case hr => first | (go_simp; done) | (go_simp; rfl)); (case hp => exact (Reps.none _ _)); intro v255 w3 ho4 hb hg_ hnew_; clear hg_ hnew_; have n0_ := Aside0.mk (Kd.R_lower ho4 (below_size HB.out)); have n1_ := Aside0.mk (below_step HB.out hb); clear HB; have HO := n0_; have HB := n1_; clear n0_ n1_; clear hb ho4)
      | ((with_reducible refine gate_builtin (b := .append) (xs := #[.tmp 5, .tmp 6]) rfl ?_); at_builtin; refine Kd.R_append_rows (Kd.int .u8) (w0 := w) w.heap.size rfl (.tmp 5) (.tmp 6) 25 5 (.int .u8 0) 1 rfl Try.underlying25 info_u8 rfl (by decide) (by omega) v255 [] l0 _ _ _ (fun _ => True) (fun _ => False) rfl rfl HO.out (Kd.C_below HR.out HB.out) (fun _ _ h => h) (fun _ h => h.elim) (fun _ _ => trivial) HB.out (below_size HB.out) (by have := HL.out; simp; omega) ?_; intro v258 w5 ho hb hg hat; have n0_ := Aside0.mk (hb); have n1_ := Aside0.mk (ho); clear HB; clear HO; have HB := n0_; have HO := n1_; clear n0_ n1_; clear ho hb hg hat))
    go_ret
    exact ⟨_, rfl, HO.out, HB.out⟩

/-- A reader's state: the bytes that are left, or that it failed. -/
def RdO (w0 W : World) (g : Nat) (st : Option (List Int)) : Prop :=
  match st with
  | some bs => Rdr w0 W g true false bs
  | none => ∃ m f bs, (m && !f) = false ∧ Rdr w0 W g m f bs
theorem RdO.any {w0 W : World} {g : Nat} {st : Option (List Int)} (h : RdO w0 W g st) : ∃ m f bs, (m && !f) = st.isSome ∧ Rdr w0 W g m f bs := by
  cases st with
  | some bs => exact ⟨true, false, bs, rfl, h⟩
  | none => exact h
theorem RdO.below {w0 W W1 : World} {g : Nat} {st : Option (List Int)} (h : RdO w0 W g st) (hb : Below W.heap.size W W1) : RdO w0 W1 g st := by
  cases st with
  | some bs => exact Rdr.below h hb
  | none => obtain ⟨m, f, bs, e, h⟩ := h; exact ⟨m, f, bs, e, h.below hb⟩
theorem RdO.keep {w0 W W1 : World} {g g' : Nat} {st : Option (List Int)} (h : RdO w0 W g st) (hk : KeepBut W W1 g' none) (hne : g ≠ g') {T : Nat} {cs : Array Value} (hb : W.heap[g']? = some (.cells cs T (0, 0))) (hcs : ∀ i : Nat, ∀ v, cs[i]? = some v → ∀ n, v ≠ Value.int .u8 n) : RdO w0 W1 g st := by
  cases st with
  | some bs => exact Rdr.keep h hk hne hb hcs
  | none => obtain ⟨m, f, bs, e, h⟩ := h; exact ⟨m, f, bs, e, h.keep hk hne hb hcs⟩
theorem RdO.grown {w0 W W1 : World} {g : Nat} {st : Option (List Int)} {row : Option Nat} (h : RdO w0 W g st) (hg : W.grownBy W1 row) (hr : ∀ b, row = some b → g < b) : RdO w0 W1 g st := by
  cases st with
  | some bs => exact Rdr.grown h hg hr
  | none => obtain ⟨m, f, bs, e, h⟩ := h; exact ⟨m, f, bs, e, h.grown hg hr⟩
theorem RdO.lower {w0 w1 W : World} {g : Nat} {st : Option (List Int)} (h : RdO w1 W g st) (hs : w0.heap.size ≤ w1.heap.size) : RdO w0 W g st := by
  cases st with
  | some bs => exact Rdr.lower h hs
  | none => obtain ⟨m, f, bs, e, h⟩ := h; exact ⟨m, f, bs, e, h.lower hs⟩
theorem RdO.blk {w0 W : World} {g : Nat} {st : Option (List Int)} (h : RdO w0 W g st) : w0.heap.size ≤ g ∧ g < W.heap.size ∧ ∃ cs, W.heap[g]? = some (.cells cs 115 (0, 0)) ∧ ∀ i : Nat, ∀ v, cs[i]? = some v → ∀ n, v ≠ Value.int .u8 n := by
  obtain ⟨m, f, bs, _, h0, A, c, h1, _⟩ := h.any
  exact ⟨h0, blk_lt h1, _, h1, cells_no_int⟩
theorem RdO.u8 {w0 W : World} {g : Nat} {bs : List Int} (h : RdO w0 W g (some bs)) : U8 bs ∧ bs.length < 140737488355328 := by
  obtain ⟨_, _, _, _, _, _, h1, h2⟩ := (show Rdr w0 W g true false bs from h)
  exact ⟨h2.1, h1⟩
/-- What a call that is handed a reader leaves. -/
def Left (w0 w w' : World) (g : Nat) (st : Option (List Int)) : Prop := RdO w0 w' g st ∧ Below w0.heap.size w0 w' ∧ KeepBut w w' g none
theorem Left.trans {w0 w w1 w2 : World} {g : Nat} {s1 s2 : Option (List Int)} (h : Left w0 w w1 g s1) (k : Left w0 w1 w2 g s2) : Left w0 w w2 g s2 := ⟨k.1, k.2.1, h.2.2.trans k.2.2 (.inl rfl)⟩
theorem Left.refl {w0 w : World} {g : Nat} {st : Option (List Int)} (h : RdO w0 w g st) (hB : Below w0.heap.size w0 w) : Left w0 w w g st := ⟨h, hB, KeepBut.refl _ _ _⟩

end Go.Proofs.Ytfpkgdenohcglaa.Tlv
/- chain.Add. -/
namespace Go.Proofs.Ytfpkgdenohcglaa.Chn
set_option linter.unusedVariables false
set_option linter.unusedSimpArgs false
open Go.RowKit Go.Proofs.Ytfpkgdenohcglaa.Base Go.Proofs.Ytfpkgdenohcglaa.TlvPlain Go.Proofs.Ytfpkgdenohcglaa.ShaPlain Go.Proofs.Ytfpkgdenohcglaa.Sha Go.Proofs.Ytfpkgdenohcglaa.Com Go.Proofs.Ytfpkgdenohcglaa.Aid Go.Proofs.YtfpkgdenohcglaaW.PrintWords Go.Proofs.YtfpkgdenohcglaaW.PrintLast Go.Proofs.YtfpkgdenohcglaaW.PrintMore
set_option maxHeartbeats 4000000 in
set_option maxRecDepth 100000 in
theorem add_c (l : List Ent) (m : Nat) (hl : l.length = m) (hm : m ≤ 100000) (hu : Lu' l) (A : Option Addr) (c : Nat) (hc : m ≤ c) (salt : Int) (h0 : 0 ≤ salt) (h1 : salt ≤ 18446744073709551615) (pay : List Int) (hpu : U8 pay) (hpl : pay.length ≤ 100000)
    (B : Option Addr) (cb : Nat) (hcb : pay.length ≤ cb) (w : World) (hr : Re w A l) (hp : Rb w B pay) :
    Calls Try.prog 13 #[.slice A m c, .int .u64 salt, .slice B pay.length cb] w (RetE w (addT l salt pay)) := by
  unfold RetE
  obtain ⟨D, hD⟩ := sumC (headT l) (headT_len _)
  obtain ⟨E, hE⟩ := sumC (comH salt pay) (comH_len _ _)
  have HH := Aside0.mk (head_c l m hl (by omega) hu A c w hr)
  unfold Ret at HH
  rw [hD.v] at HH
  have HOF := Aside0.mk (fun W (hW : Below w.heap.size w W) => by
    have h2 := cof_c salt h0 h1 B cb pay W (Kd.C_below hp hW) hcb hpu hpl
    rw [← comH_eq, hE.v] at h2
    exact h2)
  have HCL := Aside0.mk (fun W (hW : Below w.heap.size w W) => Tlv.clone B cb pay W (Kd.C_below hp hW) hcb (by omega))
  obtain ⟨rows, hrl, hrr, hrk⟩ := rows_of hr
  have HR := Aside0.mk hrr
  have HRL := Aside0.mk hrl
  have HRK := Aside0.mk hrk
  have HD := Aside0.mk hD
  have HE := Aside0.mk hE
  have HL := Aside0.mk hl
  have HM := Aside0.mk hm
  have q0 : (m : Int) ≤ 100000 := by omega
  clear hl hm hu hc h0 h1 hpu hpl hcb hr hp hD hE hrl hrr hrk
  go_enter Try.func13, Try.ntmps13
  go_upto_region 2 with (first
    | (go_at_call 22; refine HH.out.mono ?_; rintro e w2 ⟨rfl, hb⟩; have HB2 := Aside0.mk hb; clear hb)
    | (go_at_call 50; refine (HOF.out _ HB2.out).mono ?_; rintro e w3 ⟨rfl, hb⟩; have HB3 := Aside0.mk (below_step HB2.out hb); clear hb)
    | (go_at_call 51; refine (HCL.out _ HB3.out).mono ?_; rintro e w4 ⟨v, rfl, ho, hb⟩; have HB4 := Aside0.mk (below_step HB3.out hb); obtain ⟨A4, c4, rfl, hc4, hr4⟩ := Kd.R_reads ho; have HC4 := Aside0.mk hc4; have HR4 := Aside0.mk hr4; clear ho hb hc4 hr4)
    | ((with_reducible refine gate_dst (N := 19) rfl ?_); refine wpList_new rfl (.tmp 10) (.tmp 12) (.tmp 15) (.tmp 16) (.tmp 18) rfl (m : Int) salt D E HD.out.lenC HE.out.lenC A4 pay.length c4 rfl rfl rfl rfl rfl ?_;
       have hC := (show EntC w4 (newE l salt pay) D E A4 c4 from ⟨HD.out, HE.out, HC4.out, HR4.out⟩);
       have HKE := Aside0.mk (ent_mk hC); have HXL := Aside0.mk hC.len; have HXO := Aside0.mk hC.one; have HXI := Aside0.mk hC.info; clear hC;
       rw [show cE (newE l salt pay) D E A4 c4 = cellsE (m : Int) D E salt A4 pay.length c4 false from by rw [← HL.out]] at HKE HXL HXO HXI;
       obtain ⟨X, hX⟩ : ∃ X, cellsE (m : Int) D E salt A4 pay.length c4 false = X := ⟨_, rfl⟩; rw [hX] at HKE HXL HXO HXI ⊢; clear hX;
       have HY := Aside0.mk (show (w4.alloc (.cells zE.toArray 27)).heap[w4.heap.size]? = some (.cells zE.toArray 27 (0, 0)) from blk_new _ _))
    | ((with_reducible refine gate_store (t := 27) (p := 7) (v := .tmp 19) rfl ?_); refine wpList_store_row rfl 27 (.tmp 7) (.tmp 19) rfl w4.heap.size X.toArray rfl rfl 27 zE.toArray HY.out (by rw [List.size_toArray]; exact HXI.out) (by rw [List.size_toArray, List.size_toArray, zE_len, HXL.out]) HXO.out ?_))
  have HX5 := Aside0.mk (setRow_heap (w4.alloc (.cells zE.toArray 27)) w4.heap.size zE.toArray X.toArray _ _ HY.out)
  have HB5 := Aside0.mk (show Below w4.heap.size w4 ((w4.alloc (.cells zE.toArray 27)).setRow w4.heap.size X.toArray) from below_setRow (below_alloc (Below.refl _ _) _) (Nat.le_refl _) _)
  obtain ⟨w5, hw5⟩ : ∃ V, (w4.alloc (.cells zE.toArray 27)).setRow w4.heap.size X.toArray = V := ⟨_, rfl⟩
  rw [hw5] at HX5 HB5
  rw [show (w4.alloc (.cells Try.zeroCells27 27)).setRow w4.heap.size X.toArray = w5 from hw5]
  clear hw5 HY
  have HS5 := Aside0.mk (show w4.heap.size < w5.heap.size from (Array.getElem?_eq_some_iff.1 HX5.out).1)
  go_wp2_with (first
    | (at_make; refine wpList_make_e rfl (.tmp 21) (.tmp 24) rfl m HM.out rfl rfl ?_; intro zs hzs; have HZS := Aside0.mk hzs; clear hzs)
    | ((with_reducible refine gate_builtin (b := .copy) (xs := #[.tmp 26, .tmp 27]) rfl ?_); refine wpList_copy_e (w0 := w4) rfl (.tmp 26) (.tmp 27) rfl w5.heap.size m c A rfl rfl HM.out zs (blk_new _ _) HZS.out rows (by rw [HRL.out, HL.out]) (by have h := ReadsRow.imp_ HR.out (below_step HB4.out (below_alloc HB5.out (.cells zs.toArray 27))) (fun _ _ hp => hp); rw [HL.out] at h; exact h) w4.heap.size (Nat.le_of_lt HS5.out) (below_alloc HB5.out _) ?_;
       intro w6 hR hb hk; have HR6 := Aside0.mk hR; have HB6 := Aside0.mk hb; have HX6 := Aside0.mk (atC_blk ((hk w4.heap.size (Nat.ne_of_lt HS5.out)).trans (blk_alloc HX5.out _))); clear hR hb hk)
    | ((with_reducible refine gate_dst (N := 30) rfl ?_); refine wpList_load_at rfl 27 (.tmp 7) rfl ⟨w4.heap.size, 0, none⟩ rfl X _ HX6.out Try.underlying27 rfl HXI.out ?_)
    | ((with_reducible refine gate_dst (N := 31) rfl ?_); refine wpList_ent1 rfl (.tmp 30) rfl X rfl HXL.out ?_)
    | ((with_reducible refine gate_builtin (b := .append) (xs := #[.tmp 29, .tmp 31]) rfl ?_); at_builtin; refine Kd.R_append KW (w0 := w4) w4.heap.size rfl (.tmp 29) (.tmp 31) 22 27 (.agg Try.zeroCells27) 112 rfl Try.underlying22 info_ent3 rfl (by decide) (by decide) _ rows X X (fun _ => True) (fun _ => False) rfl rfl ⟨rfl, HXL.out, fun u hu => by have h := HXO.out; rw [List.all_toArray, List.all_eq_true] at h; exact h u hu⟩ (fun _ h => h.elim) (fun _ _ => trivial) HR6.out HB6.out HB6.out.size (by rw [HRL.out, HL.out]; have := HM.out; omega) ?_; intro v7 w7 ho hb hg hat; have HO7 := Aside0.mk ho; have HB7 := Aside0.mk hb; clear ho hb hg hat))
  go_ret
  have hfin := Rw.snoc (x := newE l salt pay) (w0 := w) (W := w4) HRL.out HO7.out HRK.out (below_step HB4.out HB7.out) HKE.out HB7.out
  exact ⟨_, rfl, hfin.lower HB4.out.size, below_step HB4.out HB7.out⟩
end Go.Proofs.Ytfpkgdenohcglaa.Chn
/- The document's Add. -/
namespace Go.Proofs.Ytfpkgdenohcglaa.Chn
set_option linter.unusedVariables false
set_option linter.unusedSimpArgs false
open Go.RowKit Go.Proofs.Ytfpkgdenohcglaa.Base Go.Proofs.Ytfpkgdenohcglaa.TlvPlain Go.Proofs.Ytfpkgdenohcglaa.ShaPlain Go.Proofs.Ytfpkgdenohcglaa.Sha Go.Proofs.Ytfpkgdenohcglaa.Com Go.Proofs.Ytfpkgdenohcglaa.Aid Go.Proofs.YtfpkgdenohcglaaW.PrintWords Go.Proofs.YtfpkgdenohcglaaW.PrintLast Go.Proofs.YtfpkgdenohcglaaW.PrintMore
end Go.Proofs.Ytfpkgdenohcglaa.Chn
/- Redact of chain and of the document. -/
namespace Go.Proofs.Ytfpkgdenohcglaa.Chn
set_option linter.unusedVariables false
set_option linter.unusedSimpArgs false
open Go.RowKit Go.Proofs.Ytfpkgdenohcglaa.Base Go.Proofs.Ytfpkgdenohcglaa.TlvPlain Go.Proofs.Ytfpkgdenohcglaa.ShaPlain Go.Proofs.Ytfpkgdenohcglaa.Sha Go.Proofs.Ytfpkgdenohcglaa.Com Go.Proofs.Ytfpkgdenohcglaa.Aid Go.Proofs.YtfpkgdenohcglaaW.PrintWords Go.Proofs.YtfpkgdenohcglaaW.PrintLast Go.Proofs.YtfpkgdenohcglaaW.PrintMore
/-- An entry's fields, wherever it lies. -/
structure EntF (W : World) (ad : Addr) (x : Ent) (P C : List Value) (A : Option Addr) (c : Nat) : Prop where
  s : W.cell? ad = some (.int .i64 (seqE x))
  fp : AtC W (ad.add 1) P
  fc : AtC W (ad.add 33) C
  sl : W.cell? (ad.add 65) = some (.int .u64 (saltE x))
  py : W.cell? (ad.add 66) = some (.slice A (payE x).length c)
  r : W.cell? (ad.add 67) = some (.bool (redE x))
theorem EntF.below {W W' : World} {ad : Addr} {x : Ent} {P C : List Value} {A : Option Addr} {c : Nat} (h : EntF W ad x P C A c) (hb : Below W.heap.size W W') : EntF W' ad x P C A c :=
  ⟨cell_below hb h.s, h.fp.below hb, h.fc.below hb, cell_below hb h.sl, cell_below hb h.py, cell_below hb h.r⟩
theorem entF {W : World} {ad : Addr} {x : Ent} {P C : List Value} {A : Option Addr} {c : Nat} (hP : P.length = 32) (hC : C.length = 32) (h : AtC W ad (cE x P C A c)) : EntF W ad x P C A c := by
  have h0 : W.cell? ad = some (.int .i64 (seqE x)) := by have h := h 0 _ rfl; rwa [show ad.add 0 = ad from rfl] at h
  have h1 := AtC.right (a := [Value.int .i64 (seqE x)]) (b := P ++ (C ++ [Value.int .u64 (saltE x), .slice A (payE x).length c, .bool (redE x)])) h
  have h2 := h1.right
  rw [hP, show (ad.add [Value.int .i64 (seqE x)].length).add 32 = ad.add 33 from addr_add_add _ _ _] at h2
  have h3 := h2.right
  rw [hC, addr_add_add] at h3
  refine ⟨h0, h1.left, h2.left, ?_, ?_, ?_⟩
  · have h4 := h3 0 _ rfl
    rwa [addr_add_add] at h4
  · have h4 := h3 1 _ rfl
    rwa [addr_add_add] at h4
  · have h4 := h3 2 _ rfl
    rwa [addr_add_add] at h4
theorem set_last (s sl : Int) (P C : List Value) (hP : P.length = 32) (hC : C.length = 32) (A : Option Addr) (n c : Nat) (r : Bool) :
    (((cellsE s P C sl A n c r).set 65 (.int .u64 0)).set 66 (.slice none 0 0)).set 67 (.bool true) = cellsE s P C 0 none 0 0 true := by
  have e : ∀ l : List Value, Value.int .i64 s :: (P ++ (C ++ l)) = (Value.int .i64 s :: (P ++ C)) ++ l := fun l => by simp
  have hn : (Value.int .i64 s :: (P ++ C)).length = 65 := by simp [hP, hC]
  unfold cellsE
  rw [e, e, List.set_append_right _ _ (by rw [hn]; decide), List.set_append_right _ _ (by rw [hn]; decide), List.set_append_right _ _ (by rw [hn]; decide), hn]
  rfl
theorem cut_mk {w : World} {x : Ent} {P C : List Value} {A : Option Addr} {c : Nat} (h : EntC w x P C A c) : EntC w (cutE x) P C none 0 := ⟨h.fp, h.fc, Nat.le_refl _, Kd.C_nil _ _⟩
theorem Rw.cut {w0 w' : World} {base : Nat} {v : Value} {l : List Ent} {rows : List (List Value)} {k : Nat} {x : Ent} {cs : List Value} (hl : rows.length = l.length) (hR : KW.R 27 w' base (fun _ => True) v (rows.set k cs))
    (h0 : ∀ (j : Nat) (x : Ent) (c : List Value), l[j]? = some x → rows[j]? = some c → DEnt.K w0 x c) (hb0 : Below w0.heap.size w0 w') (hx : DEnt.K w0 x cs) : Rw w' base v (l.set k x) := by
  refine ⟨rows.set k cs, by simp [hl], hR, fun j y c hy hc => ?_⟩
  rw [List.getElem?_set] at hy hc
  split at hy
  · next he =>
    rw [if_pos he] at hc
    split at hy
    · next hlt =>
      rw [if_pos (by omega)] at hc
      rw [← Option.some.inj hy, ← Option.some.inj hc]
      exact DEnt.K_below hb0 hx
    · cases hy
  · next he =>
    rw [if_neg he] at hc
    exact DEnt.K_below hb0 (h0 j y c hy hc)
section
variable {ops : Array Oper} {rest : List Oper} {o : Oper} {a : Act} {Q : Exit → Act → World → Prop}
/-- One cell of an entry in a row of one's own. -/
theorem wpList_put {W w0 : World} {base : Nat} (hN : o.dst = none) (hgd : o.guard = none) (t : TypeId) (p x : Operand) (ho : o.op = .store t p x) {g n cap o' : Nat} (k j : Nat) (rows : List (List Value)) (u : Value) (c : List Value)
    (haddr : a.eval p = .pointer (some ⟨g, o', none⟩)) (hoff : o' = k * 68 + j) (hx : a.eval x = u) (hu : u.cells.toList = [u]) (ht : (Try.prog.info? t).map (·.size) = some 1) (h1 : u.oneCell' = true)
    (HO : KW.R 27 W base (fun _ => True) (.slice (some ⟨g, 0, none⟩) n cap) rows) (hk : k < n) (hc : rows[k]? = some c) (hj : j < 68) (HB : Below base w0 W)
    (h : ∀ w1, KW.R 27 w1 base (fun _ => True) (.slice (some ⟨g, 0, none⟩) n cap) (rows.set k (c.set j u)) → Below base w0 w1 → wpList Try.prog ops Q rest a w1) : wpList Try.prog ops Q (o :: rest) a W := by
  obtain ⟨c', hcl, hM, hcc, _⟩ := Kd.R_elem HO [] (k : Int) (by omega) (by omega)
  rw [Int.toNat_natCast] at hM hcc
  have he : c' = c := by
    have h2 := hM.1
    rwa [List.getD_eq_getElem?_getD, hc] at h2
  subst he
  have hcl : c'.length = 68 := hcl
  have hset : c'.take j ++ [u] ++ c'.drop (j + 1) = c'.set j u := by
    rw [List.set_eq_take_append_cons_drop, if_pos (by omega)]
    simp
  refine Kd.R_store KW base hN hgd t p x ho 27 (k : Int) j rows (c'.set j u) u [u] c' (fun _ => True) (fun _ => False) haddr (by rw [hoff, Int.toNat_natCast]; rfl) hx hu ht (fun q hq => by rw [List.mem_singleton.1 hq]; exact h1) HO (by omega) (by omega) hcl (by rw [Int.toNat_natCast]; exact hcc) (by show j + 1 ≤ 68; omega)
    ⟨hset, by show (c'.take j ++ [u] ++ c'.drop (j + 1)).length = 68; rw [hset, List.length_set, hcl], fun q hq => by
      rw [show [u].length = 1 from rfl, hset] at hq
      rcases List.mem_or_eq_of_mem_set hq with h3 | h3
      · exact hM.2.2 q h3
      · rw [h3]; exact h1⟩ (fun _ hk => hk.elim) HB ?_
  intro w1 hr hb hg
  rw [Int.toNat_natCast] at hr
  exact h w1 hr hb
end
abbrev RetR (w : World) (r : List Ent × Int) : Ending → World → Prop := fun e w' => ∃ v, e = .returned (.tuple #[v, .int .i64 r.2]) ∧ Rw w' w.heap.size v r.1 ∧ Below w.heap.size w w'
theorem fin_red {w w5 : World} {l : List Ent} {rows : List (List Value)} {k m g cap : Nat} {x : Ent} {cs : List Value} (hl : rows.length = l.length) (hK : ∀ (j : Nat) (x : Ent) (c : List Value), l[j]? = some x → rows[j]? = some c → DEnt.K w x c)
    (hc : DEnt.K w x cs) (hb : Below w.heap.size w w5)
    (hR : KW.R 27 w5 w.heap.size (fun _ => True) (.slice (some ⟨g, 0, none⟩) m cap) (rows.set k (((cs.set 65 (.int .u64 0)).set 66 (.slice none 0 0)).set 67 (.bool true)))) :
    Rw w5 w.heap.size (.slice (some ⟨g, 0, none⟩) m cap) (l.set k (cutE x)) := by
  obtain ⟨P, C, A, c, hC, rfl⟩ := ent_open hc
  rw [set_last _ _ _ _ hC.fp.lenC hC.fc.lenC] at hR
  exact Rw.cut hl hR hK hb (ent_mk (cut_mk hC))
theorem redT_in (l : List Ent) (k : Nat) (h : k < l.length) : redT l (k : Int) = if redE l[k] then ([], 13) else (l.set k (cutE l[k]), 0) := by
  unfold redT
  rw [if_pos (by omega), Int.toNat_natCast, List.getElem?_eq_getElem h]
set_option maxHeartbeats 4000000 in
set_option maxRecDepth 100000 in
theorem redact_in (l : List Ent) (m : Nat) (hl : l.length = m) (hm : m ≤ 100000) (k : Nat) (hk : k < m) (A : Option Addr) (c : Nat) (hc : m ≤ c) (w : World) (hr : Re w A l) :
    Calls Try.prog 15 #[.slice A m c, .int .i64 k] w (RetR w (redT l (k : Int))) := by
  rw [redT_in l k (by omega)]
  obtain ⟨ad, P, C, B, cb, rfl, hat, hC⟩ := re_at hr k (by omega)
  have HEF := Aside0.mk (entF hC.fp.lenC hC.fc.lenC hat)
  obtain ⟨x, hx⟩ : ∃ x, l[k]'(by omega) = x := ⟨_, rfl⟩
  have HXK := Aside0.mk (show l[k]? = some x from by rw [List.getElem?_eq_getElem (by omega), hx])
  rw [hx] at hat hC HEF ⊢
  have HC := Aside0.mk hC
  have HAT := Aside0.mk hat
  have q0 : (0 : Int) ≤ (k : Int) := by omega
  have q1 : (k : Int) < (m : Int) := by omega
  have q2 : decide ((k : Int) < 0) = false := decide_eq_false (by omega)
  have q3 : decide ((m : Int) ≤ (k : Int)) = false := decide_eq_false (by omega)
  have q4 : decide (m ≤ k) = false := decide_eq_false (by omega)
  have q5 : (k : Int) ≤ 100000 := by omega
  have HM := Aside0.mk hm
  have HK := Aside0.mk hk
  have HL := Aside0.mk hl
  have HR := Aside0.mk hr
  unfold RetR
  have HCL := Aside0.mk (eclone_c l m hl hm (some ad) c hc w hr)
  have hred : w.cell? ⟨(ad.add (k * 68)).block, (ad.add (k * 68)).off + 67, none⟩ = some (.bool (redE x)) := HEF.out.r
  obtain ⟨rd, hrd⟩ : ∃ rd, redE x = rd := ⟨_, rfl⟩
  rw [hrd] at hred ⊢
  clear hl hm hk hc hr hat hC hx hrd
  cases rd with
  | true =>
    rw [if_pos rfl]
    go_enter Try.func15, Try.ntmps15
    go_wp2_with (fail)
    go_ret2
    exact ⟨_, rfl, Rw.nil _ _, Below.refl _ _⟩
  | false =>
    rw [if_neg Bool.false_ne_true]
    go_enter Try.func15, Try.ntmps15
    go_wp2_with (fail)
    refine HCL.out.mono ?_
    rintro e w2 ⟨v, rows, rfl, hrl, hR, hK, hb⟩
    obtain ⟨g, cap, hv, hg1, hg2, _⟩ := Kd.R_form hR (by rw [hrl, HL.out]; exact Nat.lt_of_le_of_lt (Nat.zero_le _) HK.out)
    subst hv
    rw [hrl, HL.out] at hR ⊢
    have hkr : k < rows.length := by rw [hrl, HL.out]; exact HK.out
    have HRK := Aside0.mk (List.getElem?_eq_getElem hkr)
    obtain ⟨cs, hcs⟩ : ∃ cs, rows[k] = cs := ⟨_, rfl⟩
    rw [hcs] at HRK
    have HKC := Aside0.mk (hK k x cs HXK.out HRK.out)
    have HR2 := Aside0.mk hR
    have HKK := Aside0.mk hK
    have HRL := Aside0.mk hrl
    have HB2 := Aside0.mk hb
    have HKR := Aside0.mk hkr
    clear hrl hR hK hb hg1 hg2 hkr hcs hred
    go_wp2_with (first
      | ((with_reducible refine gate_store (t := 24) (p := 31) (v := _) rfl ?_); refine wpList_put (w0 := w2) (base := w.heap.size) rfl rfl 24 (.tmp 31) _ rfl k 65 rows (.int .u64 0) cs rfl (by first | rfl | omega) rfl rfl (by kernel_rfl) rfl HR2.out HK.out HRK.out (by decide) ⟨rfl, rfl, rfl, Nat.le_refl _, fun _ _ => rfl⟩ ?_; intro w3 ho hb; have HR3 := Aside0.mk ho; have HB3 := Aside0.mk hb; clear ho hb)
      | ((with_reducible refine gate_store (t := 25) (p := 33) (v := _) rfl ?_); refine wpList_put (w0 := w2) (base := w.heap.size) rfl rfl 25 (.tmp 33) _ rfl k 66 _ (.slice none 0 0) _ rfl (by first | rfl | omega) rfl rfl (by kernel_rfl) rfl HR3.out HK.out (List.getElem?_set_self HKR.out) (by decide) HB3.out ?_; intro w4 ho hb; have HR4 := Aside0.mk ho; have HB4 := Aside0.mk hb; clear ho hb)
      | ((with_reducible refine gate_store (t := 4) (p := 35) (v := _) rfl ?_); refine wpList_put (w0 := w2) (base := w.heap.size) rfl rfl 4 (.tmp 35) _ rfl k 67 _ (.bool true) _ rfl (by first | rfl | omega) rfl rfl (by kernel_rfl) rfl HR4.out HK.out (List.getElem?_set_self (by rw [List.length_set]; exact HKR.out)) (by decide) HB4.out ?_; intro w5 ho hb; have HR5 := Aside0.mk ho; have HB5 := Aside0.mk hb; clear ho hb))
    go_ret2
    have hR5 := HR5.out
    rw [List.set_set, List.set_set] at hR5
    exact ⟨_, rfl, fin_red HRL.out HKK.out HKC.out (HB2.out.trans HB5.out) hR5, HB2.out.trans HB5.out⟩
end Go.Proofs.Ytfpkgdenohcglaa.Chn
/- The document's Same. -/
namespace Go.Proofs.Ytfpkgdenohcglaa.Chn
set_option linter.unusedVariables false
set_option linter.unusedSimpArgs false
open Go.RowKit Go.Proofs.Ytfpkgdenohcglaa.Base Go.Proofs.Ytfpkgdenohcglaa.TlvPlain Go.Proofs.Ytfpkgdenohcglaa.ShaPlain Go.Proofs.Ytfpkgdenohcglaa.Sha Go.Proofs.Ytfpkgdenohcglaa.Com Go.Proofs.Ytfpkgdenohcglaa.Aid Go.Proofs.YtfpkgdenohcglaaW.PrintWords Go.Proofs.YtfpkgdenohcglaaW.PrintLast Go.Proofs.YtfpkgdenohcglaaW.PrintMore
theorem wp_alloc_e {o : Oper} {a : Act} {Q : Exit → Act → World → Prop} {K : Act → World → Prop} {w : World} (ho : o.op = .alloc 27)
    (h : K (a.put o.dst (.pointer (some ⟨w.heap.size, 0, none⟩))) (w.alloc (.cells zE.toArray 27))) : Oper.wp Try.prog o a w K Q := by
  obtain ⟨i, hi, hz, hs, hb⟩ := info_parts info_ent3
  rw [zE_z] at h
  have hrun : (Instr.alloc 27 true (.tuple #[])).run Try.prog w = .ok (.pointer (some ⟨w.heap.size, 0, none⟩)) (w.alloc (.cells Try.zeroCells27 27)) := by
    simp [Instr.alloc, zeroValue, typeInfo, hi, hz, newVar, newRow, Value.cells]
  unfold Oper.wp execOp
  simp only [ho, Sem.run_bind, hrun, Result.andThen_ok]
  exact h
end Go.Proofs.Ytfpkgdenohcglaa.Chn
/- Few; the law's example. -/
namespace Go.Proofs.Ytfpkgdenohcglaa.Chn
set_option linter.unusedVariables false
set_option linter.unusedSimpArgs false
open Go.RowKit Go.Proofs.Ytfpkgdenohcglaa.Base Go.Proofs.Ytfpkgdenohcglaa.TlvPlain Go.Proofs.Ytfpkgdenohcglaa.ShaPlain Go.Proofs.Ytfpkgdenohcglaa.Sha Go.Proofs.Ytfpkgdenohcglaa.Com Go.Proofs.Ytfpkgdenohcglaa.Aid Go.Proofs.YtfpkgdenohcglaaW.PrintWords Go.Proofs.YtfpkgdenohcglaaW.PrintLast Go.Proofs.YtfpkgdenohcglaaW.PrintMore
attribute [local irreducible] shaB
def fewT (l : List Ent) : Bool := (l.take 20).all (fun x => decide ((payE x).length ≤ 300)) && decide (l.length ≤ 12)
theorem fewT_yes {l : List Ent} (h : fewT l = true) : l.length ≤ 12 ∧ ∀ x ∈ l, (payE x).length ≤ 300 := by
  unfold fewT at h
  rw [Bool.and_eq_true, List.all_eq_true, decide_eq_true_eq] at h
  refine ⟨h.2, fun x hx => ?_⟩
  have h2 := h.1 x (by rw [List.take_of_length_le (by omega)]; exact hx)
  exact of_decide_eq_true h2
theorem few_bad (l : List Ent) (k : Nat) (hk : k < l.length) (h20 : k < 20) (h : 300 < (payE l[k]).length) : fewT l = false := by
  unfold fewT
  rw [Bool.and_eq_false_iff]
  left
  rw [List.all_eq_false]
  exact ⟨l[k], List.mem_iff_getElem.2 ⟨k, by simp; omega, by simp⟩, by simp; omega⟩
theorem few_end (l : List Ent) (k : Nat) (hk : k ≤ l.length) (h : k < l.length → 20 ≤ k) (hs : ∀ x ∈ l.take k, (payE x).length ≤ 300) : fewT l = decide (l.length ≤ 12) := by
  unfold fewT
  have h1 : (l.take 20).all (fun x => decide ((payE x).length ≤ 300)) = true := by
    rw [List.all_eq_true]
    intro x hx
    refine decide_eq_true (hs x ?_)
    by_cases hkl : k < l.length
    · have := h hkl
      exact List.mem_of_mem_take (by rw [List.take_take, Nat.min_eq_left this]; exact hx)
    · rw [List.take_of_length_le (by omega)]
      exact List.mem_of_mem_take hx
  rw [h1, Bool.true_and]
set_option maxHeartbeats 4000000 in
set_option maxRecDepth 100000 in
theorem few_c (l : List Ent) (m : Nat) (hl : l.length = m) (hm : m ≤ 9223372036854775807) (A : Option Addr) (c : Nat) (w : World) (hr : Re w A l) :
    Calls Try.prog 11 #[.slice A m c] w (RetB w (fewT l)) := by
  unfold RetB
  have HR := Aside0.mk hr
  have HL := Aside0.mk hl
  have HM := Aside0.mk hm
  clear hl hr hm
  go_enter Try.func11, Try.ntmps11
  have HB := Aside0.mk (Below.refl w.heap.size w)
  go_wp2_with (fail)
  go_loopw [3] (fun i wr => ∃ k : Nat, k ≤ m ∧ k ≤ 20 ∧ i = .int .i64 k ∧ Aside0 (∀ x ∈ l.take k, (payE x).length ≤ 300) ∧ Below w.heap.size w wr) (fun i _ => 20 - (intOf i).toNat)
  case atStart => exact ⟨0, Nat.zero_le _, Nat.zero_le _, rfl, ⟨fun x hx => by simp at hx⟩, HB.out⟩
  case round =>
    clear HB
    obtain ⟨k, hk, hk20, rfl, HS, hb⟩ := hrel
    have HB := Aside0.mk hb
    clear hb
    obtain ⟨W, hwy⟩ : ∃ wy, wy = wr := ⟨_, rfl⟩
    subst hwy
    by_cases hlt : k < m
    · by_cases h20 : k < 20
      · have hkl : k < l.length := by rw [HL.out]; exact hlt
        obtain ⟨ad, P, C, B, cb, rfl, hat, hC⟩ := re_at HR.out k hkl
        have hpy : W.cell? ⟨(ad.add (k * 68)).block, (ad.add (k * 68)).off + 66, none⟩ = some (.slice B (payE l[k]).length cb) := ((entF hC.fp.lenC hC.fc.lenC hat).below HB.out).py
        have HBAD := Aside0.mk (few_bad l k hkl h20)
        have HTK := Aside0.mk (take_snoc l k hkl)
        obtain ⟨x, hx⟩ : ∃ x, l[k] = x := ⟨_, rfl⟩
        rw [hx] at hpy HBAD HTK
        obtain ⟨n, hn⟩ : ∃ n, (payE x).length = n := ⟨_, rfl⟩
        rw [hn] at hpy HBAD
        have HN := Aside0.mk hn
        have HK := Aside0.mk (And.intro hlt h20)
        have p0 : (0 : Int) ≤ (k : Int) := by omega
        have p1 : (k : Int) < (m : Int) := by omega
        have p2 : (k : Int) < 20 := by omega
        have d1 : decide ((k : Int) < (m : Int)) = true := decide_eq_true p1
        have d2 : decide ((k : Int) < 20) = true := decide_eq_true p2
        have d3 : decide (k < m) = true := decide_eq_true hlt
        clear hat hC hx hn hkl hlt h20 hk hk20
        by_cases hp : 300 < n
        · have e1 : decide ((300 : Int) < (n : Int)) = true := decide_eq_true (by omega)
          have e2 : decide (300 < n) = true := decide_eq_true hp
          have HF := Aside0.mk (HBAD.out hp)
          clear hp
          go_wp2_with (fail)
          go_ret
          exact ⟨(congrArg (fun b => Ending.returned (Value.bool b)) HF.out).symm, HB.out⟩
        · have e1 : decide ((300 : Int) < (n : Int)) = false := decide_eq_false (by omega)
          have e2 : decide (300 < n) = false := decide_eq_false hp
          have HS2 := Aside0.mk (show ∀ y ∈ l.take (k + 1), (payE y).length ≤ 300 from by
            rw [HTK.out]
            intro y hy
            rcases List.mem_append.1 hy with h | h
            · exact HS.out y h
            · rw [List.mem_singleton.1 h, HN.out]; omega)
          clear hp
          go_wp2_with (fail)
          go_roundw
          case rel => exact ⟨k + 1, by have := HK.out.1; omega, by have := HK.out.2; omega, by go_num, HS2, HB.out⟩
          case measure => have := HK.out.2; simp [intOf]; omega
      · have hk2 : k = 20 := by omega
        subst hk2
        have HF := Aside0.mk (few_end l 20 (by rw [HL.out]; omega) (fun _ => Nat.le_refl _) HS.out)
        rw [HL.out] at HF
        have p1 : (20 : Int) < (m : Int) := by omega
        have d1 : decide ((20 : Int) < (m : Int)) = true := decide_eq_true p1
        have d3 : decide (20 < m) = true := decide_eq_true hlt
        have e1 : decide ((m : Int) ≤ 12) = false := decide_eq_false (by omega)
        have e2 : decide (m ≤ 12) = false := decide_eq_false (by omega)
        rw [e2] at HF
        clear hlt h20 hk hk20
        go_wp2_with (fail)
        go_ret
        exact ⟨(congrArg (fun b => Ending.returned (Value.bool b)) HF.out).symm, HB.out⟩
    · have hkm : k = m := by omega
      subst hkm
      have HF := Aside0.mk (few_end l k (by rw [HL.out]; omega) (fun h => by rw [HL.out] at h; omega) HS.out)
      rw [HL.out] at HF
      obtain ⟨b, hb⟩ : ∃ b, decide (k ≤ 12) = b := ⟨_, rfl⟩
      have e1 : decide ((k : Int) ≤ 12) = b := by rw [← hb]; by_cases h : k ≤ 12 <;> simp [h] <;> omega
      rw [hb] at HF
      clear hlt hk hk20
      go_wp2_with (fail)
      go_ret
      exact ⟨(congrArg (fun b => Ending.returned (Value.bool b)) HF.out).symm, HB.out⟩
set_option maxHeartbeats 4000000 in
theorem num24_c (n : Int) (w : World) : Calls Try.prog 21 #[.int .i64 n] w fun e w' => e = .returned (.int .i64 n) ∧ w' = w := by
  go_enter Try.func21, Try.ntmps21
  go_wp2_with (fail)
  go_ret
  exact ⟨rfl, rfl⟩
def x0 : Ent := newE [] 5 [97]
def x1 : Ent := newE [x0] 6 [98]
theorem cutE_u {x : Ent} (h : Eu x) : Eu (cutE x) := ⟨h.pl, h.pu, h.cl, h.cu, Int.le_refl _, by show (0 : Int) ≤ _; decide, fun y hy => by cases hy⟩
theorem newE_u (l : List Ent) {salt : Int} {pay : List Int} (h0 : 0 ≤ salt) (h1 : salt ≤ 18446744073709551615) (hp : U8 pay) : Eu (newE l salt pay) := ⟨headT_len _, headT_u8 _, comH_len _ _, comH_u8 _ _, h0, h1, hp⟩
theorem x0_u : Eu x0 := show Eu (newE [] 5 [97]) from newE_u [] (by decide) (by decide) (fun y hy => by rw [List.mem_singleton.1 hy]; decide)
theorem x1_u : Eu x1 := show Eu (newE [x0] 6 [98]) from newE_u [x0] (by decide) (by decide) (fun y hy => by rw [List.mem_singleton.1 hy]; decide)
theorem live_ver : verT [cutE x0, x1] (headT [x0, x1]) 2 = (2, true) := by
  have h0 : okT 0 Z (cutE x0) = true := by
    unfold okT rightT
    rw [if_pos (show redE (cutE x0) = true from rfl), show seqE (cutE x0) = ((0 : Nat) : Int) from rfl, show prevE (cutE x0) = Z from rfl, show saltE (cutE x0) = 0 from rfl, show payE (cutE x0) = [] from rfl]
    simp
  have h1 : okT 1 (linkT (cutE x0)) x1 = true := by
    unfold okT rightT
    rw [if_neg (show ¬ redE x1 = true from by decide), show seqE x1 = ((1 : Nat) : Int) from rfl, show prevE x1 = linkT (cutE x0) from rfl, show comE x1 = comH (saltE x1) (payE x1) from rfl]
    simp
  have hb : badT [cutE x0, x1] 0 Z = none := by
    unfold badT
    rw [if_pos h0]
    unfold badT
    rw [if_pos h1]
    rfl
  unfold verT
  rw [hb]
  have h2 : headT [cutE x0, x1] = headT [x0, x1] := rfl
  rw [h2]
  simp
theorem m_u : Lu' [cutE x0, x1] := fun y hy => by
  rcases List.mem_cons.1 hy with h | h
  · rw [h]; exact cutE_u x0_u
  · rw [List.mem_singleton.1 h]; exact x1_u
theorem l1_u : Lu' [x0] := fun y hy => by rw [List.mem_singleton.1 hy]; exact x0_u
theorem l2_u : Lu' [x0, x1] := fun y hy => by
  rcases List.mem_cons.1 hy with h | h
  · rw [h]; exact x0_u
  · rw [List.mem_singleton.1 h]; exact x1_u
theorem nil_re (w : World) : Re w none [] := Kd.C_nil _ _
theorem add_l1 (w : World) (B : Option Addr) (h : Rb w B [97]) : Calls Try.prog 13 #[.slice none 0 0, .int .u64 5, .slice B 1 1] w (RetE w [x0]) :=
  add_c [] 0 rfl (by decide) (fun x hx => by cases hx) none 0 (by decide) 5 (by decide) (by decide) [97] (fun y hy => by rw [List.mem_singleton.1 hy]; decide) (by decide) B 1 (by decide) w (nil_re w) h
theorem add_l2 (w : World) (A : Option Addr) (c : Nat) (hc : 1 ≤ c) (hr : Re w A [x0]) (B : Option Addr) (h : Rb w B [98]) : Calls Try.prog 13 #[.slice A 1 c, .int .u64 6, .slice B 1 1] w (RetE w [x0, x1]) :=
  add_c [x0] 1 rfl (by decide) l1_u A c hc 6 (by decide) (by decide) [98] (fun y hy => by rw [List.mem_singleton.1 hy]; decide) (by decide) B 1 (by decide) w hr h
theorem red_l (w : World) (A : Option Addr) (c : Nat) (hc : 2 ≤ c) (hr : Re w A [x0, x1]) : Calls Try.prog 15 #[.slice A 2 c, .int .i64 0] w (RetR w ([cutE x0, x1], 0)) :=
  redact_in [x0, x1] 2 rfl (by decide) 0 (by decide) A c hc w hr
theorem head_l (w : World) (A : Option Addr) (c : Nat) (hr : Re w A [x0, x1]) : Calls Try.prog 22 #[.slice A 2 c] w (Ret w (headT [x0, x1])) :=
  head_c [x0, x1] 2 rfl (by decide) l2_u A c w hr
theorem ver_l (w : World) (A : Option Addr) (c : Nat) (hr : Re w A [cutE x0, x1]) : Calls Try.prog 17 #[.slice A 2 c, sumV (headT [x0, x1]), .int .i64 2] w (RetIB w (2, true)) := by
  have h := verify_c [cutE x0, x1] 2 rfl (by decide) m_u (fun y hy => by
    rcases List.mem_cons.1 hy with h | h
    · rw [h]; exact Nat.zero_le _
    · rw [List.mem_singleton.1 h]; show [(98 : Int)].length ≤ 100000; decide) (headT [x0, x1]) (headT_len _) 2 A c w hr
  rw [live_ver] at h
  exact h
set_option maxHeartbeats 8000000 in
set_option maxRecDepth 100000 in
theorem live24_c (w : World) : Calls Try.prog 12 #[] w (RetB w true) := by
  have kc := fun (w : World) (C : Array Value) (n c : Nat) => Lib.run_convert_bytes_const (P := Try.prog) w 25 5 C n c Try.underlying25 Try.underlying5
  obtain ⟨D, hD⟩ := sumC (headT [x0, x1]) (headT_len _)
  have HH := Aside0.mk head_l
  have HV := Aside0.mk ver_l
  unfold Ret at HH
  rw [hD.v] at HH HV
  unfold RetB
  clear hD
  go_enter Try.func12, Try.ntmps12
  go_wp2_with (fail)
  refine (add_l1 _ _ (const_reads _ [97] #[.int .u8 97] (1, 2) rfl (by simp))).mono ?_
  rintro e w1 ⟨v1, rfl, hr1, hb0⟩
  have HB1 := Aside0.mk (below_step (below_alloc (Below.refl w.heap.size w) _) hb0)
  obtain ⟨A1, c1, rfl, hc1, hre1⟩ := hr1.reads
  have HR1 := Aside0.mk (And.intro hc1 hre1)
  clear hr1 hb0 hc1 hre1
  go_wp2_with (fail)
  refine (add_l2 _ A1 c1 HR1.out.1 (Kd.C_below HR1.out.2 (below_alloc (Below.refl _ _) _)) _ (const_reads _ [98] #[.int .u8 98] (1, 2) rfl (by simp))).mono ?_
  rintro e w2 ⟨v2, rfl, hr2, hb0⟩
  have HB2 := Aside0.mk (below_step HB1.out (below_step (below_alloc (Below.refl w1.heap.size w1) _) hb0))
  obtain ⟨A2, c2, rfl, hc2, hre2⟩ := hr2.reads
  have HR2 := Aside0.mk (And.intro hc2 hre2)
  clear hr2 hb0 hc2 hre2
  go_wp2_with (fail)
  refine (red_l _ A2 c2 HR2.out.1 HR2.out.2).mono ?_
  rintro e w3 ⟨v3, rfl, hr3, hb3⟩
  have HB3 := Aside0.mk (below_step HB2.out hb3)
  have HR23 := Aside0.mk (Kd.C_below HR2.out.2 hb3)
  obtain ⟨A3, c3, rfl, hc3, hre3⟩ := hr3.reads
  obtain ⟨ad, P, C, B, cb, rfl, hat, hC⟩ := re_at hre3 0 (by decide)
  have HEF := Aside0.mk (entF hC.fp.lenC hC.fc.lenC hat)
  have HR3 := Aside0.mk hre3
  clear hr3 hb3 hc3 hre3 hat hC
  go_wp2_with (fail)
  refine (HH.out _ A2 c2 HR23.out).mono ?_
  rintro e w4 ⟨rfl, hb4⟩
  have HB4 := Aside0.mk (below_step HB3.out hb4)
  have HR4 := Aside0.mk (Kd.C_below HR3.out hb4)
  have HEF4 := Aside0.mk (HEF.out.below hb4)
  clear hb4
  go_wp2_with (fail)
  refine (HV.out _ (some ad) c3 HR4.out).mono ?_
  rintro e w5 ⟨rfl, hb5⟩
  have HB5 := Aside0.mk (below_step HB4.out hb5)
  have h5 := (HEF4.out.below hb5).r
  have h6 : w5.cell? ⟨ad.block, ad.off + 67, none⟩ = some (.bool true) := h5
  clear hb5 h5
  go_wp2_with (go_at_call 21; refine (num24_c 0 _).mono ?_; rintro e w6 ⟨rfl, rfl⟩)
  go_ret
  exact ⟨rfl, HB5.out⟩
end Go.Proofs.Ytfpkgdenohcglaa.Chn
/- The law ChainAdds walked. -/
namespace Go.Proofs.Ytfpkgdenohcglaa.Chn
set_option linter.unusedVariables false
set_option linter.unusedSimpArgs false
open Go.RowKit Go.Proofs.Ytfpkgdenohcglaa.Base Go.Proofs.Ytfpkgdenohcglaa.TlvPlain Go.Proofs.Ytfpkgdenohcglaa.ShaPlain Go.Proofs.Ytfpkgdenohcglaa.Sha Go.Proofs.Ytfpkgdenohcglaa.Com Go.Proofs.Ytfpkgdenohcglaa.Aid Go.Proofs.YtfpkgdenohcglaaW.PrintWords Go.Proofs.YtfpkgdenohcglaaW.PrintLast Go.Proofs.YtfpkgdenohcglaaW.PrintMore
/-- What has been made so far stays. -/
structure AddsI (w W : World) (g : Nat) (x : Ent) (P C : List Value) (B : Option Addr) (cb : Nat) : Prop where
  b : Below w.heap.size w W
  e : EntAt W g x P C B cb
theorem AddsI.step {w W W' : World} {g : Nat} {x : Ent} {P C : List Value} {B : Option Addr} {cb : Nat} (h : AddsI w W g x P C B cb) (hb : Below W.heap.size W W') : AddsI w W' g x P C B cb := ⟨below_step h.b hb, h.e.below hb⟩
end Go.Proofs.Ytfpkgdenohcglaa.Chn
/- CommitBinds: the plain law: what is summed for two commitments is the same only where salt and payload are; nor is it what is summed for a link. -/
namespace Go.Proofs.Ytfpkgdenohcglaa.Com
open Go.RowKit Go.Proofs.Ytfpkgdenohcglaa.Base Go.Proofs.Ytfpkgdenohcglaa.TlvPlain Go.Proofs.Ytfpkgdenohcglaa.ShaPlain Go.Proofs.Ytfpkgdenohcglaa.Sha Go.Proofs.Ytfpkgdenohcglaa.Lo Go.Proofs.Ytfpkgdenohcglaa.Aid
theorem numB_cut {m n : Int} (hm0 : 0 ≤ m) (hm1 : m ≤ 18446744073709551615) (hn0 : 0 ≤ n) (hn1 : n ≤ 18446744073709551615) {r s : List Int} (h : numB m ++ r = numB n ++ s) : m = n ∧ r = s := by
  have h1 := numO_numB m hm0 hm1 r
  rw [h, numO_numB n hn0 hn1 s] at h1
  injection h1 with h2 h3
  injection h3 with h3
  exact ⟨h2.symm, h3.symm⟩
theorem textB_inj {a b : List Int} (ha : a.length ≤ 1000000) (hb : b.length ≤ 1000000) (h : textB a = textB b) : a = b :=
  (numB_cut (by omega) (by omega) (by omega) (by omega) h).2
theorem comB_inj {s t : Int} (hs0 : 0 ≤ s) (hs1 : s ≤ 18446744073709551615) (ht0 : 0 ≤ t) (ht1 : t ≤ 18446744073709551615) {a b : List Int} (ha : a.length ≤ 1000000) (hb : b.length ≤ 1000000) (h : comB s a = comB t b) : s = t ∧ a = b := by
  injection h with _ h
  obtain ⟨h1, h2⟩ := numB_cut hs0 hs1 ht0 ht1 h
  exact ⟨h1, textB_inj ha hb h2⟩
end Go.Proofs.Ytfpkgdenohcglaa.Com
/- The theorem of the chain, plainly. -/
namespace Go.Proofs.Ytfpkgdenohcglaa.Chn
set_option linter.unusedVariables false
open Go.RowKit Go.Proofs.Ytfpkgdenohcglaa.Base Go.Proofs.Ytfpkgdenohcglaa.TlvPlain Go.Proofs.Ytfpkgdenohcglaa.ShaPlain Go.Proofs.Ytfpkgdenohcglaa.Sha Go.Proofs.Ytfpkgdenohcglaa.Com Go.Proofs.Ytfpkgdenohcglaa.Aid Go.Proofs.YtfpkgdenohcglaaW.PrintWords
attribute [local irreducible] shaB
/-- The texts that are summed for one entry, for all. -/
def textsE (x : Ent) : List (List Int) := linkB (seqE x) (prevE x) (comE x) :: (if redE x then [] else [comB (saltE x) (payE x)])
def textsC (l : List Ent) : List (List Int) := l.flatMap textsE
/-- Two entries are as the theorem has them. -/
def sameE (x y : Ent) : Bool := decide (seqE x = seqE y) && (decide (prevE x = prevE y) && (decide (comE x = comE y) && ((redE x || redE y) || (decide (saltE x = saltE y) && decide (payE x = payE y)))))
theorem bad_none (l : List Ent) (h : badT l 0 Z = none) : ∀ k, k ≤ l.length → badT (l.drop k) k (headT (l.take k)) = none := by
  intro k
  induction k with
  | zero => intro _; rw [List.drop_zero, List.take_zero, headT_nil]; exact h
  | succ k ih =>
    intro hk
    have h1 := ih (by omega)
    rw [badT_drop l k (by omega)] at h1
    split at h1
    · rw [headT_take l k (by omega)]; exact h1
    · cases h1
theorem ok_all (l : List Ent) (h : badT l 0 Z = none) (k : Nat) (hk : k < l.length) : okT k (headT (l.take k)) l[k] = true := by
  have h1 := bad_none l h k (by omega)
  rw [badT_drop l k hk] at h1
  split at h1
  · assumption
  · cases h1
theorem okT_yes {i : Nat} {d : Sm} {x : Ent} (h : okT i d x = true) : seqE x = (i : Int) ∧ prevE x = d ∧ rightT x = true := by
  unfold okT at h
  rw [Bool.and_eq_true, Bool.and_eq_true, decide_eq_true_eq, decide_eq_true_eq] at h
  exact h
theorem linkB_inj {s : Int} {p c p' c' : List Int} (hp : p.length = 32) (hp' : p'.length = 32) (h : linkB s p c = linkB s p' c') : p = p' ∧ c = c' := by
  unfold linkB at h
  injection h with _ h
  have h2 := List.append_cancel_left h
  exact List.append_inj h2 (by rw [hp, hp'])
theorem link_mem {l : List Ent} {x : Ent} (h : x ∈ l) : linkB (seqE x) (prevE x) (comE x) ∈ textsC l := List.mem_flatMap.2 ⟨x, h, List.mem_cons_self⟩
theorem com_mem {l : List Ent} {x : Ent} (h : x ∈ l) (hr : redE x = false) : comB (saltE x) (payE x) ∈ textsC l := List.mem_flatMap.2 ⟨x, h, by unfold textsE; rw [hr]; simp⟩
theorem one_back (a b : List Ent) (hl : a.length = b.length) (ha : badT a 0 Z = none) (hb : badT b 0 Z = none) (hh : headT a = headT b) (hu : Lu' a) (hv : Lu' b)
    (NC : ∀ s ∈ textsC a ++ textsC b, ∀ t ∈ textsC a ++ textsC b, shaB s = shaB t → s = t) :
    ∀ n k, k + n = a.length → headT (a.take k) = headT (b.take k) ∧ ∀ i (h1 : i < a.length) (h2 : i < b.length), k ≤ i → seqE a[i] = seqE b[i] ∧ prevE a[i] = prevE b[i] ∧ comE a[i] = comE b[i] := by
  intro n
  induction n with
  | zero =>
    intro k hk
    rw [List.take_of_length_le (by omega), List.take_of_length_le (by omega)]
    exact ⟨hh, fun i h1 _ h3 => by omega⟩
  | succ n ih =>
    intro k hk
    obtain ⟨h1, h2⟩ := ih (k + 1) (by omega)
    have hka : k < a.length := by omega
    have hkb : k < b.length := by omega
    rw [headT_take a k hka, headT_take b k hkb] at h1
    obtain ⟨sa, pa, _⟩ := okT_yes (ok_all a ha k hka)
    obtain ⟨sb, pb, _⟩ := okT_yes (ok_all b hb k hkb)
    have ea := hu _ (List.getElem_mem hka)
    have eb := hv _ (List.getElem_mem hkb)
    unfold linkT at h1
    rw [linkH_eq, linkH_eq] at h1
    have h3 := NC _ (List.mem_append_left _ (link_mem (List.getElem_mem hka))) _ (List.mem_append_right _ (link_mem (List.getElem_mem hkb))) h1
    rw [sa, sb] at h3
    obtain ⟨h4, h5⟩ := linkB_inj ea.pl eb.pl h3
    refine ⟨by rw [← pa, ← pb]; exact h4, fun i g1 g2 g3 => ?_⟩
    by_cases hi : i = k
    · subst hi
      exact ⟨by rw [sa, sb], h4, h5⟩
    · exact h2 i g1 g2 (by omega)
theorem one_plain (a b : List Ent) (hl : a.length = b.length) (ha : badT a 0 Z = none) (hb : badT b 0 Z = none) (hh : headT a = headT b) (hu : Lu' a) (hv : Lu' b)
    (sa : ∀ x ∈ a, (payE x).length ≤ 1000000) (sb : ∀ x ∈ b, (payE x).length ≤ 1000000)
    (NC : ∀ s ∈ textsC a ++ textsC b, ∀ t ∈ textsC a ++ textsC b, shaB s = shaB t → s = t) (i : Nat) (h1 : i < a.length) (h2 : i < b.length) : sameE a[i] b[i] = true := by
  obtain ⟨_, h⟩ := one_back a b hl ha hb hh hu hv NC a.length 0 (by omega)
  obtain ⟨e1, e2, e3⟩ := h i h1 h2 (Nat.zero_le _)
  have ma := List.getElem_mem h1
  have mb := List.getElem_mem h2
  obtain ⟨_, _, ra⟩ := okT_yes (ok_all a ha i h1)
  obtain ⟨_, _, rb⟩ := okT_yes (ok_all b hb i h2)
  unfold sameE
  rw [decide_eq_true e1, decide_eq_true e2, decide_eq_true e3, Bool.true_and, Bool.true_and, Bool.true_and]
  cases hra : redE a[i] with
  | true => simp
  | false =>
    cases hrb : redE b[i] with
    | true => simp
    | false =>
      unfold rightT at ra rb
      rw [hra, if_neg Bool.false_ne_true, decide_eq_true_eq] at ra
      rw [hrb, if_neg Bool.false_ne_true, decide_eq_true_eq] at rb
      rw [ra, rb, comH_eq, comH_eq] at e3
      have h3 := NC _ (List.mem_append_left _ (com_mem ma hra)) _ (List.mem_append_right _ (com_mem mb hrb)) e3
      have ea := hu _ ma
      have eb := hv _ mb
      obtain ⟨h4, h5⟩ := comB_inj ea.s0 ea.s1 eb.s0 eb.s1 (sa _ ma) (sb _ mb) h3
      rw [decide_eq_true h4, decide_eq_true h5]
      rfl
end Go.Proofs.Ytfpkgdenohcglaa.Chn
/- The document's Texts. -/
namespace Go.Proofs.Ytfpkgdenohcglaa.Chn
set_option linter.unusedVariables false
set_option linter.unusedSimpArgs false
open Go.RowKit Go.Proofs.Ytfpkgdenohcglaa.Base Go.Proofs.Ytfpkgdenohcglaa.TlvPlain Go.Proofs.Ytfpkgdenohcglaa.ShaPlain Go.Proofs.Ytfpkgdenohcglaa.Sha Go.Proofs.Ytfpkgdenohcglaa.Com Go.Proofs.Ytfpkgdenohcglaa.Aid Go.Proofs.YtfpkgdenohcglaaW.PrintWords Go.Proofs.YtfpkgdenohcglaaW.PrintLast Go.Proofs.YtfpkgdenohcglaaW.PrintMore
abbrev DX : Kd (List Int) := Kd.slice 5 (Kd.int .u8)
abbrev Ot (w : World) (base : Nat) (v : Value) (l : List (List Int)) : Prop := Kd.R DX 25 w base (fun _ => True) v l
theorem info_text : (Try.prog.info? 25).map (fun i => (i.zero, i.size, i.bytes)) = some (some (.slice none 0 0), DX.sz, 24) := by kernel_rfl
abbrev RetN (w : World) (t : List (List Int)) : Ending → World → Prop := fun e w' => ∃ v, e = .returned v ∧ Ot w' w.heap.size v t ∧ Below w.heap.size w w'
/-- Texts of one's own, as elements for another row of texts. -/
theorem ot_elems {W : World} {b : Nat} {v u : Value} {xs ys : List (List Int)} (h1 : Ot W b v xs) (h2 : Ot W b u ys) : ∃ A c, u = .slice A ys.length c ∧ ys.length ≤ c ∧ ReadsRow (DX.M W b (fun k => True ∧ some k ≠ v.ownBlock)) 1 W A ys.length ys := by
  obtain ⟨A, c, he, hc, hr⟩ := OwnRow.reads h2.2
  refine ⟨A, c, he, hc, hr.imp_ (Below.refl _ _) (fun p cs hp => DX.M_mono (fun k hk => ⟨trivial, fun he => ?_⟩) (DX.M_bound hp))⟩
  obtain ⟨_, _, _, q, hq, cells, hcell⟩ := hk
  obtain ⟨cells2, hcell2⟩ := Kd.R_typed h1 k he.symm
  rw [hcell] at hcell2
  injection hcell2 with hcell2
  injection hcell2 with _ hq2 _
  simp [Kd.slice, Kd.E, Kd.int, Kd.scalar] at hq
  rw [hq] at hq2
  exact absurd hq2 (by decide)
section
variable {ops : Array Oper} {o : Oper} {a : Act} {Q : Exit → Act → World → Prop} {Kc : Act → World → Prop} {W w0 : World} {rest : List Oper}
theorem ot_append_step (base : Nat) (hw : Region.wanted o (yielded ops a.tmps) = true) (s x : Operand) (ho : o.op = .call { callee := .builtin .append, args := #[s, x], argTypes := #[44, 44] }) (v u : Value) (xs ys : List (List Int)) (hs : a.eval s = v) (hx : a.eval x = u)
    (H1 : Ot W base v xs) (H2 : Ot W base u ys) (HB : Below base w0 W) (hbase : base ≤ W.heap.size) (hl : xs.length + ys.length ≤ 100000)
    (h : ∀ v1 w1, Ot w1 base v1 (xs ++ ys) → Below base w0 w1 → W.grownBy w1 v.ownBlock → Kc (a.put o.dst v1) w1) : if Region.wanted o (yielded ops a.tmps) = true then Oper.wp Try.prog o a W Kc Q else Kc (a.put o.dst undef) W := by
  obtain ⟨A, c, he, hc, hr⟩ := ot_elems H1 H2
  exact Kd.R_append_rows_step DX (w0 := w0) base hw s x 44 25 (.slice none 0 0) 24 ho Try.underlying44 info_text rfl (by decide) (by decide) v xs ys A ys.length c (fun _ => True) (fun k => True ∧ some k ≠ v.ownBlock) hs (hx.trans he) H1 hr (fun _ _ hp => hp) (fun _ h => h) (fun _ _ => trivial) HB hbase (by omega) (fun v1 w1 h1 h2 h3 _ => h v1 w1 h1 h2 h3)
theorem ot_append (base : Nat) (hgd : o.guard = none) (s x : Operand) (ho : o.op = .call { callee := .builtin .append, args := #[s, x], argTypes := #[44, 44] }) (v u : Value) (xs ys : List (List Int)) (hs : a.eval s = v) (hx : a.eval x = u)
    (H1 : Ot W base v xs) (H2 : Ot W base u ys) (HB : Below base w0 W) (hbase : base ≤ W.heap.size) (hl : xs.length + ys.length ≤ 100000)
    (h : ∀ v1 w1, Ot w1 base v1 (xs ++ ys) → Below base w0 w1 → W.grownBy w1 v.ownBlock → wpList Try.prog ops Q rest (a.put o.dst v1) w1) : wpList Try.prog ops Q (o :: rest) a W := by
  obtain ⟨A, c, he, hc, hr⟩ := ot_elems H1 H2
  exact Kd.R_append_rows DX (w0 := w0) base hgd s x 44 25 (.slice none 0 0) 24 ho Try.underlying44 info_text rfl (by decide) (by decide) v xs ys A ys.length c (fun _ => True) (fun k => True ∧ some k ≠ v.ownBlock) hs (hx.trans he) H1 hr (fun _ _ hp => hp) (fun _ h => h) (fun _ _ => trivial) HB hbase (by omega) (fun v1 w1 h1 h2 h3 _ => h v1 w1 h1 h2 h3)
end
theorem textsC_snoc (l : List Ent) (k : Nat) (hk : k < l.length) : textsC (l.take (k + 1)) = textsC (l.take k) ++ textsE l[k] := by
  rw [take_snoc l k hk]
  unfold textsC
  rw [List.flatMap_append]
  simp
theorem textsE_len (x : Ent) : (textsE x).length ≤ 2 := by
  unfold textsE
  split <;> simp
theorem textsC_len : ∀ l : List Ent, (textsC l).length ≤ 2 * l.length
  | [] => by simp [textsC]
  | x :: l => by
    have h1 := textsC_len l
    have h2 := textsE_len x
    rw [show textsC (x :: l) = textsE x ++ textsC l from rfl, List.length_append, List.length_cons]
    omega
set_option maxHeartbeats 8000000 in
set_option maxRecDepth 100000 in
theorem texts_c (l : List Ent) (m : Nat) (hl : l.length = m) (hm : m ≤ 1000) (hu : Lu' l) (hs : ∀ x ∈ l, (payE x).length ≤ 1000000) (A : Option Addr) (c : Nat) (w : World) (hr : Re w A l) :
    Calls Try.prog 25 #[.slice A m c] w (RetN w (textsC l)) := by
  unfold RetN
  have HF := Aside0.mk (And.intro hl (And.intro hm (And.intro hu hs)))
  have HRE := Aside0.mk hr
  have q9 : (m : Int) ≤ 1000 := by omega
  clear hl hm hu hs hr
  go_enter Try.func25, Try.ntmps25
  have HB0 := Aside0.mk (Below.refl w.heap.size w)
  go_wp2_with (fail)
  go_loopw [3, 4] (fun v i wx => ∃ k : Nat, k ≤ m ∧ i = .int .i64 k ∧ Aside0 (Ot wx w.heap.size v (textsC (l.take k))) ∧ Below w.heap.size w wx) (fun _ i _ => m - (intOf i).toNat)
  case atStart => exact ⟨0, Nat.zero_le _, rfl, ⟨Kd.R_nil _ _ _ _ _⟩, HB0.out⟩
  case round =>
    clear HB0
    obtain ⟨k, hk, rfl, HO0, hb⟩ := hrel
    have HB0 := Aside0.mk hb
    clear hb
    obtain ⟨w0, hwy⟩ : ∃ wy, wy = wr := ⟨_, rfl⟩
    subst hwy
    by_cases hlt : k < m
    · have hkl : k < l.length := by rw [HF.out.1]; exact hlt
      obtain ⟨ad, P, C, B, cb, rfl, hat, hC⟩ := re_at HRE.out k hkl
      have hE := HF.out.2.2.1 _ (List.getElem_mem hkl)
      have hpl := HF.out.2.2.2 _ (List.getElem_mem hkl)
      have HTS := Aside0.mk (textsC_snoc l k hkl)
      have HTL := Aside0.mk (show (textsC (l.take k)).length ≤ 2000 from Nat.le_trans (textsC_len _) (by rw [List.length_take]; have := HF.out.2.1; omega))
      obtain ⟨x, hx⟩ : ∃ x, l[k] = x := ⟨_, rfl⟩
      rw [hx] at hat hC hE hpl HTS
      have HEF := Aside0.mk (entF hC.fp.lenC hC.fc.lenC hat)
      have HLT := Aside0.mk (ltext_c (seqE x) (prevE x) (comE x) hE.pl hE.cl)
      have HCT := Aside0.mk (fun V (hV : Below w.heap.size w V) => rtxt_c (saltE x) hE.s0 hE.s1 B cb (payE x) V (Kd.C_below hC.r hV) hC.hc hpl)
      unfold Lo.Makes at HLT HCT
      rw [hC.fp.eq, hC.fc.eq] at HLT
      have HIP := Aside0.mk hC.fp.blk
      have HIC := Aside0.mk hC.fc.blk
      have HALL := Aside0.mk (fun V (hV : Below w.heap.size w V) => show V.cell? (ad.add (k * 68)) = some (.int .i64 (seqE x)) ∧ AtC V ((ad.add (k * 68)).add 1) P ∧ AtC V ((ad.add (k * 68)).add 33) C ∧
          V.cell? ⟨(ad.add (k * 68)).block, (ad.add (k * 68)).off + 65, none⟩ = some (.int .u64 (saltE x)) ∧ V.cell? ⟨(ad.add (k * 68)).block, (ad.add (k * 68)).off + 66, none⟩ = some (.slice B (payE x).length cb) from
        And.intro (HEF.out.below hV).s (And.intro (HEF.out.below hV).fp (And.intro (HEF.out.below hV).fc (And.intro (HEF.out.below hV).sl (HEF.out.below hV).py))))
      have HRED := Aside0.mk (fun V (hV : Below w.heap.size w V) => show V.cell? ⟨(ad.add (k * 68)).block, (ad.add (k * 68)).off + 67, none⟩ = some (.bool (redE x)) from (HEF.out.below hV).r)
      have HTE := Aside0.mk (show textsE x = linkB (seqE x) (prevE x) (comE x) :: (if redE x then [] else [comB (saltE x) (payE x)]) from rfl)
      obtain ⟨lt, hlt2⟩ : ∃ t, linkB (seqE x) (prevE x) (comE x) = t := ⟨_, rfl⟩
      obtain ⟨ct, hct⟩ : ∃ t, comB (saltE x) (payE x) = t := ⟨_, rfl⟩
      obtain ⟨rd, hrd⟩ : ∃ t, redE x = t := ⟨_, rfl⟩
      obtain ⟨sq, hsq⟩ : ∃ t, seqE x = t := ⟨_, rfl⟩
      obtain ⟨sl, hsl⟩ : ∃ t, saltE x = t := ⟨_, rfl⟩
      obtain ⟨pl, hpl2⟩ : ∃ t, (payE x).length = t := ⟨_, rfl⟩
      rw [hlt2] at HLT HTE
      rw [hct] at HCT HTE
      rw [hrd] at HRED HTE
      rw [hsq] at HLT HALL
      rw [hsl] at HCT HALL
      rw [hpl2] at HCT HALL
      obtain ⟨TK, hTK⟩ : ∃ t, textsC (l.take k) = t := ⟨_, rfl⟩
      rw [hTK] at HTS HTL HO0
      have HK := Aside0.mk hlt
      have p0 : (0 : Int) ≤ (k : Int) := by omega
      have p1 : (k : Int) < (m : Int) := by omega
      have p2 : (k : Int) ≤ 1000 := by omega
      have hu24 := Try.underlying23
      clear hE hpl hC hat hx hlt hk hkl hlt2 hct hrd hsq hsl hpl2 hTK
      go_wp2_with (fail)
      refine wp_region_held_drew (S := fun V => V.cell? (ad.add (k * 68)) = some (.int .i64 sq) ∧ AtC V ((ad.add (k * 68)).add 1) P ∧ AtC V ((ad.add (k * 68)).add 33) C ∧
          V.cell? ⟨(ad.add (k * 68)).block, (ad.add (k * 68)).off + 65, none⟩ = some (.int .u64 sl) ∧ V.cell? ⟨(ad.add (k * 68)).block, (ad.add (k * 68)).off + 66, none⟩ = some (.slice B pl cb)) (by kernel_rfl) (HALL.out _ (below_drew1 HB0.out)) (fun hHeld => ?_)
      (refine wpAnyH_take (i := 0) (v := ?_) rfl (by kernel_rfl) (by kernel_rfl) (by kernel_rfl) (fun _ _ _ h => h) (Or.inl ⟨by rfl, ?_⟩) (by assumption) ?_; (case' refine_2 => (intro w hSw; go_simp; try with_reducible rfl)); (try simp only [Act.put, List.getElem_toArray, List.getElem_cons_zero, List.getElem_cons_succ, List.setIfInBounds_toArray, List.set_cons_zero, List.set_cons_succ]))
      (refine wpAnyH_take (i := 1) (v := ?_) rfl (by kernel_rfl) (by kernel_rfl) (by kernel_rfl) (fun _ _ _ h => h) (Or.inl ⟨by rfl, ?_⟩) (by assumption) ?_; (case' refine_2 => (intro w hSw; go_simp; try with_reducible rfl)); (try simp only [Act.put, List.getElem_toArray, List.getElem_cons_zero, List.getElem_cons_succ, List.setIfInBounds_toArray, List.set_cons_zero, List.set_cons_succ]))
      (refine wpAnyH_take (i := 2) (v := ?_) rfl (by kernel_rfl) (by kernel_rfl) (by kernel_rfl) (fun _ _ _ h => h) (Or.inl ⟨by rfl, ?_⟩) (by assumption) ?_; (case' refine_2 => (intro w hSw; go_simp; try with_reducible rfl)); (try simp only [Act.put, List.getElem_toArray, List.getElem_cons_zero, List.getElem_cons_succ, List.setIfInBounds_toArray, List.set_cons_zero, List.set_cons_succ]))
      (refine wpAnyH_take (i := 3) (v := ?_) rfl (by kernel_rfl) (by kernel_rfl) (by kernel_rfl) (fun _ _ _ h => h) (Or.inl ⟨by rfl, ?_⟩) (by assumption) ?_; (case' refine_2 => (intro w hSw; go_simp; try with_reducible rfl)); (try simp only [Act.put, List.getElem_toArray, List.getElem_cons_zero, List.getElem_cons_succ, List.setIfInBounds_toArray, List.set_cons_zero, List.set_cons_succ]))
      (refine wpAnyH_take (i := 4) (v := ?_) rfl (by kernel_rfl) (by kernel_rfl) (by kernel_rfl) (fun _ _ _ h => h) (Or.inl ⟨by rfl, ?_⟩) (by assumption) ?_; (case' refine_2 => (intro w hSw; go_simp; try with_reducible rfl)); (try simp only [Act.put, List.getElem_toArray, List.getElem_cons_zero, List.getElem_cons_succ, List.setIfInBounds_toArray, List.set_cons_zero, List.set_cons_succ]))
      (refine wpAnyH_take (i := 5) (v := ?_) rfl (by kernel_rfl) (by kernel_rfl) (by kernel_rfl) (fun _ _ _ h => h) (Or.inl ⟨by rfl, ?_⟩) (by assumption) ?_; (case' refine_2 => (intro w hSw; go_simp; try with_reducible rfl)); (try simp only [Act.put, List.getElem_toArray, List.getElem_cons_zero, List.getElem_cons_succ, List.setIfInBounds_toArray, List.set_cons_zero, List.set_cons_succ]))
      (refine wpAnyH_take (i := 6) (v := ?_) rfl (by kernel_rfl) (by kernel_rfl) (by kernel_rfl) (fun _ _ _ h => h) (Or.inl ⟨by rfl, ?_⟩) (by assumption) ?_; (case' refine_2 => (intro w hSw; go_simp; try with_reducible rfl)); (try simp only [Act.put, List.getElem_toArray, List.getElem_cons_zero, List.getElem_cons_succ, List.setIfInBounds_toArray, List.set_cons_zero, List.set_cons_succ]))
      (refine wpAnyH_take (i := 7) (v := ?_) rfl (by kernel_rfl) (by kernel_rfl) (by kernel_rfl) (fun _ _ _ h => h) (Or.inl ⟨by rfl, ?_⟩) (by assumption) ?_; (case' refine_2 => (intro w hSw; go_simp; try with_reducible rfl)); (try simp only [Act.put, List.getElem_toArray, List.getElem_cons_zero, List.getElem_cons_succ, List.setIfInBounds_toArray, List.set_cons_zero, List.set_cons_succ]))
      (refine wpAnyH_take (i := 8) (v := ?_) rfl (by kernel_rfl) (by kernel_rfl) (by kernel_rfl) (fun _ _ _ h => h) (Or.inl ⟨by rfl, ?_⟩) (by assumption) ?_; (case' refine_2 => (intro w hSw; go_simp; try with_reducible rfl)); (try simp only [Act.put, List.getElem_toArray, List.getElem_cons_zero, List.getElem_cons_succ, List.setIfInBounds_toArray, List.set_cons_zero, List.set_cons_succ]))
      (refine wpAnyH_take (i := 9) (v := ?_) rfl (by kernel_rfl) (by kernel_rfl) (by kernel_rfl) (fun _ _ _ h => h) (Or.inl ⟨by rfl, ?_⟩) (by assumption) ?_; (case' refine_2 => (intro w hSw; go_simp; try with_reducible rfl)); (try simp only [Act.put, List.getElem_toArray, List.getElem_cons_zero, List.getElem_cons_succ, List.setIfInBounds_toArray, List.set_cons_zero, List.set_cons_succ]))
      (refine wpAnyH_take (i := 10) rfl (by kernel_rfl) (by kernel_rfl) (by kernel_rfl) (fun _ _ _ h => h) (yieldsIf_load_at (by rfl) _ _ rfl ((ad.add (k * 68)).add 1) rfl P _ (fun _ h => h.2.1) (by assumption) rfl HIP.out) (by assumption) ?_; (try simp only [Act.put, List.getElem_toArray, List.getElem_cons_zero, List.getElem_cons_succ, List.setIfInBounds_toArray, List.set_cons_zero, List.set_cons_succ]))
      (refine wpAnyH_take (i := 11) (v := ?_) rfl (by kernel_rfl) (by kernel_rfl) (by kernel_rfl) (fun _ _ _ h => h) (Or.inl ⟨by rfl, ?_⟩) (by assumption) ?_; (case' refine_2 => (intro w hSw; go_simp; try with_reducible rfl)); (try simp only [Act.put, List.getElem_toArray, List.getElem_cons_zero, List.getElem_cons_succ, List.setIfInBounds_toArray, List.set_cons_zero, List.set_cons_succ]))
      (refine wpAnyH_take (i := 12) (v := ?_) rfl (by kernel_rfl) (by kernel_rfl) (by kernel_rfl) (fun _ _ _ h => h) (Or.inl ⟨by rfl, ?_⟩) (by assumption) ?_; (case' refine_2 => (intro w hSw; go_simp; try with_reducible rfl)); (try simp only [Act.put, List.getElem_toArray, List.getElem_cons_zero, List.getElem_cons_succ, List.setIfInBounds_toArray, List.set_cons_zero, List.set_cons_succ]))
      (refine wpAnyH_take (i := 13) (v := ?_) rfl (by kernel_rfl) (by kernel_rfl) (by kernel_rfl) (fun _ _ _ h => h) (Or.inl ⟨by rfl, ?_⟩) (by assumption) ?_; (case' refine_2 => (intro w hSw; go_simp; try with_reducible rfl)); (try simp only [Act.put, List.getElem_toArray, List.getElem_cons_zero, List.getElem_cons_succ, List.setIfInBounds_toArray, List.set_cons_zero, List.set_cons_succ]))
      (refine wpAnyH_take (i := 14) (v := ?_) rfl (by kernel_rfl) (by kernel_rfl) (by kernel_rfl) (fun _ _ _ h => h) (Or.inl ⟨by rfl, ?_⟩) (by assumption) ?_; (case' refine_2 => (intro w hSw; go_simp; try with_reducible rfl)); (try simp only [Act.put, List.getElem_toArray, List.getElem_cons_zero, List.getElem_cons_succ, List.setIfInBounds_toArray, List.set_cons_zero, List.set_cons_succ]))
      (refine wpAnyH_take (i := 15) rfl (by kernel_rfl) (by kernel_rfl) (by kernel_rfl) (fun _ _ _ h => h) (yieldsIf_load_at (by rfl) _ _ rfl ((ad.add (k * 68)).add 33) rfl C _ (fun _ h => h.2.2.1) (by assumption) rfl HIC.out) (by assumption) ?_; (try simp only [Act.put, List.getElem_toArray, List.getElem_cons_zero, List.getElem_cons_succ, List.setIfInBounds_toArray, List.set_cons_zero, List.set_cons_succ]))
      (refine wpAnyH_ready (rs := [16]) (by kernel_rfl) (by simp) (AllReadyH.cons rfl (fun K hK => ?_) AllReadyH.nil); go_simp)
      refine (HLT.out _).mono ?_
      rintro e w1 ⟨vx, rfl, ho, hb⟩
      obtain ⟨Ax, cx, rfl⟩ := Kd.R_slice ho
      have HB1 := Aside0.mk (below_step HB0.out (below_drew_of hb))
      have HO1 := Aside0.mk (Kd.R_below HO0.out (below_drew_of hb))
      have HX1 := Aside0.mk (show Ob w1 w.heap.size _ lt from Kd.R_lower ho (show w.heap.size ≤ w0.drew.heap.size from HB0.out.size))
      clear ho hb
      (refine Shut.out hK _ _ (HALL.out _ HB1.out) (fun hHeld => ?_); clear hK K; (try simp only [Act.put, List.getElem_toArray, List.getElem_cons_zero, List.getElem_cons_succ, List.setIfInBounds_toArray, List.set_cons_zero, List.set_cons_succ]))
      refine wpAnyH_ready (rs := [17]) (by kernel_rfl) (by simp) (AllReadyH.cons rfl (fun K hK => ?_) AllReadyH.nil)
      refine Kd.R_lit_step DX (w0 := w) w.heap.size 25 rfl (N := 28) rfl (xs := [lt]) (inner := [.slice Ax (lt).length cx]) (ok := fun _ => True) (okp := fun _ => True) (by first | (go_simp; done) | (go_simp; rfl)) ⟨rfl, fun j p hj => ?_⟩ (fun _ hk => hk) trivial HB1.out HB1.out.size (by simp) ?_
      · match j, hj with
        | 0, hj => cases hj; exact ⟨_, rfl, HX1.out⟩
      intro v2 w2 ho hb hg hat
      have HV2 := Aside0.mk (show Ot w2 w.heap.size v2 [lt] from ho)
      have HB2 := Aside0.mk hb
      have HO2 := Aside0.mk (show Ot w2 w.heap.size _ (TK) from Kd.R_grown HO1.out hg (fun k _ h => by cases h))
      clear ho hb hg hat
      (refine Shut.out hK _ _ (HALL.out _ HB2.out) (fun hHeld => ?_); clear hK K; (try simp only [Act.put, List.getElem_toArray, List.getElem_cons_zero, List.getElem_cons_succ, List.setIfInBounds_toArray, List.set_cons_zero, List.set_cons_succ]))
      refine wpAnyH_ready (rs := [18]) (by kernel_rfl) (by simp) (AllReadyH.cons rfl (fun K hK => ?_) AllReadyH.nil)
      refine ot_append_step (w0 := w) w.heap.size rfl (.tmp 11) (.tmp 28) rfl _ v2 (TK) [lt] rfl rfl HO2.out HV2.out HB2.out HB2.out.size (by have := HTL.out; simp only [List.length_append, List.length_singleton]; omega) ?_
      intro v3 w3 ho hb hg
      have HO3 := Aside0.mk ho
      have HB3 := Aside0.mk hb
      clear ho hb hg
      (refine Shut.out hK _ _ (HALL.out _ HB3.out) (fun hHeld => ?_); clear hK K; (try simp only [Act.put, List.getElem_toArray, List.getElem_cons_zero, List.getElem_cons_succ, List.setIfInBounds_toArray, List.set_cons_zero, List.set_cons_succ]))
      (refine wpAnyH_take (i := 19) (v := ?_) rfl (by kernel_rfl) (by kernel_rfl) (by kernel_rfl) (fun _ _ _ h => h) (Or.inl ⟨by rfl, ?_⟩) (by assumption) ?_; (case' refine_2 => (intro w hSw; go_simp; try with_reducible rfl)); (try simp only [Act.put, List.getElem_toArray, List.getElem_cons_zero, List.getElem_cons_succ, List.setIfInBounds_toArray, List.set_cons_zero, List.set_cons_succ]))
      refine wpAnyH_done (by kernel_rfl) ?_ _
      have hred := HRED.out _ HB3.out
      cases rd with
      | true =>
        have HT3 := Aside0.mk (show textsC (l.take (k + 1)) = TK ++ [lt] from by rw [HTS.out, HTE.out, if_pos rfl])
        go_wp2_with (fail)
        go_roundw
        case rel => exact ⟨k + 1, by have := HK.out; omega, by go_num, ⟨by rw [HT3.out]; exact HO3.out⟩, HB3.out⟩
        case measure => have := HK.out; simp [intOf]; omega
      | false =>
        have HT3 := Aside0.mk (show textsC (l.take (k + 1)) = TK ++ [lt] ++ [ct] from by rw [HTS.out, HTE.out, if_neg Bool.false_ne_true, List.append_assoc]; rfl)
        go_wp2_with (fail)
        clear hred
        refine wp_region_held_drew (S := fun V => V.cell? (ad.add (k * 68)) = some (.int .i64 sq) ∧ AtC V ((ad.add (k * 68)).add 1) P ∧ AtC V ((ad.add (k * 68)).add 33) C ∧
          V.cell? ⟨(ad.add (k * 68)).block, (ad.add (k * 68)).off + 65, none⟩ = some (.int .u64 sl) ∧ V.cell? ⟨(ad.add (k * 68)).block, (ad.add (k * 68)).off + 66, none⟩ = some (.slice B pl cb)) (by kernel_rfl) (HALL.out _ (below_drew1 HB3.out)) (fun hHeld => ?_)
        (refine wpAnyH_take (i := 0) (v := ?_) rfl (by kernel_rfl) (by kernel_rfl) (by kernel_rfl) (fun _ _ _ h => h) (Or.inl ⟨by rfl, ?_⟩) (by assumption) ?_; (case' refine_2 => (intro w hSw; go_simp; try with_reducible rfl)); (try simp only [Act.put, List.getElem_toArray, List.getElem_cons_zero, List.getElem_cons_succ, List.setIfInBounds_toArray, List.set_cons_zero, List.set_cons_succ]))
        (refine wpAnyH_take (i := 1) (v := ?_) rfl (by kernel_rfl) (by kernel_rfl) (by kernel_rfl) (fun _ _ _ h => h) (Or.inl ⟨by rfl, ?_⟩) (by assumption) ?_; (case' refine_2 => (intro w hSw; go_simp; try with_reducible rfl)); (try simp only [Act.put, List.getElem_toArray, List.getElem_cons_zero, List.getElem_cons_succ, List.setIfInBounds_toArray, List.set_cons_zero, List.set_cons_succ]))
        (refine wpAnyH_take (i := 2) (v := ?_) rfl (by kernel_rfl) (by kernel_rfl) (by kernel_rfl) (fun _ _ _ h => h) (Or.inl ⟨by rfl, ?_⟩) (by assumption) ?_; (case' refine_2 => (intro w hSw; go_simp; try with_reducible rfl)); (try simp only [Act.put, List.getElem_toArray, List.getElem_cons_zero, List.getElem_cons_succ, List.setIfInBounds_toArray, List.set_cons_zero, List.set_cons_succ]))
        (refine wpAnyH_take (i := 3) (v := ?_) rfl (by kernel_rfl) (by kernel_rfl) (by kernel_rfl) (fun _ _ _ h => h) (Or.inl ⟨by rfl, ?_⟩) (by assumption) ?_; (case' refine_2 => (intro w hSw; go_simp; try with_reducible rfl)); (try simp only [Act.put, List.getElem_toArray, List.getElem_cons_zero, List.getElem_cons_succ, List.setIfInBounds_toArray, List.set_cons_zero, List.set_cons_succ]))
        (refine wpAnyH_take (i := 4) (v := ?_) rfl (by kernel_rfl) (by kernel_rfl) (by kernel_rfl) (fun _ _ _ h => h) (Or.inl ⟨by rfl, ?_⟩) (by assumption) ?_; (case' refine_2 => (intro w hSw; go_simp; try with_reducible rfl)); (try simp only [Act.put, List.getElem_toArray, List.getElem_cons_zero, List.getElem_cons_succ, List.setIfInBounds_toArray, List.set_cons_zero, List.set_cons_succ]))
        (refine wpAnyH_take (i := 5) (v := ?_) rfl (by kernel_rfl) (by kernel_rfl) (by kernel_rfl) (fun _ _ _ h => h) (Or.inl ⟨by rfl, ?_⟩) (by assumption) ?_; (case' refine_2 => (intro w hSw; go_simp; try with_reducible rfl)); (try simp only [Act.put, List.getElem_toArray, List.getElem_cons_zero, List.getElem_cons_succ, List.setIfInBounds_toArray, List.set_cons_zero, List.set_cons_succ]))
        (refine wpAnyH_take (i := 6) (v := ?_) rfl (by kernel_rfl) (by kernel_rfl) (by kernel_rfl) (fun _ _ _ h => h) (Or.inl ⟨by rfl, ?_⟩) (by assumption) ?_; (case' refine_2 => (intro w hSw; go_simp; try with_reducible rfl)); (try simp only [Act.put, List.getElem_toArray, List.getElem_cons_zero, List.getElem_cons_succ, List.setIfInBounds_toArray, List.set_cons_zero, List.set_cons_succ]))
        (refine wpAnyH_take (i := 7) (v := ?_) rfl (by kernel_rfl) (by kernel_rfl) (by kernel_rfl) (fun _ _ _ h => h) (Or.inl ⟨by rfl, ?_⟩) (by assumption) ?_; (case' refine_2 => (intro w hSw; go_simp; try with_reducible rfl)); (try simp only [Act.put, List.getElem_toArray, List.getElem_cons_zero, List.getElem_cons_succ, List.setIfInBounds_toArray, List.set_cons_zero, List.set_cons_succ]))
        (refine wpAnyH_take (i := 8) (v := ?_) rfl (by kernel_rfl) (by kernel_rfl) (by kernel_rfl) (fun _ _ _ h => h) (Or.inl ⟨by rfl, ?_⟩) (by assumption) ?_; (case' refine_2 => (intro w hSw; go_simp; try with_reducible rfl)); (try simp only [Act.put, List.getElem_toArray, List.getElem_cons_zero, List.getElem_cons_succ, List.setIfInBounds_toArray, List.set_cons_zero, List.set_cons_succ]))
        (refine wpAnyH_take (i := 9) (v := ?_) rfl (by kernel_rfl) (by kernel_rfl) (by kernel_rfl) (fun _ _ _ h => h) (Or.inl ⟨by rfl, ?_⟩) (by assumption) ?_; (case' refine_2 => (intro w hSw; go_simp; try with_reducible rfl)); (try simp only [Act.put, List.getElem_toArray, List.getElem_cons_zero, List.getElem_cons_succ, List.setIfInBounds_toArray, List.set_cons_zero, List.set_cons_succ]))
        (refine wpAnyH_take (i := 10) (v := ?_) rfl (by kernel_rfl) (by kernel_rfl) (by kernel_rfl) (fun _ _ _ h => h) (Or.inl ⟨by rfl, ?_⟩) (by assumption) ?_; (case' refine_2 => (intro w hSw; go_simp; try with_reducible rfl)); (try simp only [Act.put, List.getElem_toArray, List.getElem_cons_zero, List.getElem_cons_succ, List.setIfInBounds_toArray, List.set_cons_zero, List.set_cons_succ]))
        (refine wpAnyH_ready (rs := [11]) (by kernel_rfl) (by simp) (AllReadyH.cons rfl (fun K hK => ?_) AllReadyH.nil); go_simp)
        refine (HCT.out _ (below_drew1 HB3.out)).mono ?_
        rintro e w4 ⟨vx, rfl, ho, hb⟩
        obtain ⟨Ax, cx, rfl⟩ := Kd.R_slice ho
        have HB4 := Aside0.mk (below_step HB3.out (below_drew_of hb))
        have HO4 := Aside0.mk (Kd.R_below HO3.out (below_drew_of hb))
        have HX4 := Aside0.mk (show Ob w4 w.heap.size _ ct from Kd.R_lower ho (show w.heap.size ≤ w3.drew.heap.size from HB3.out.size))
        clear ho hb
        (refine Shut.out hK _ _ (HALL.out _ HB4.out) (fun hHeld => ?_); clear hK K; (try simp only [Act.put, List.getElem_toArray, List.getElem_cons_zero, List.getElem_cons_succ, List.setIfInBounds_toArray, List.set_cons_zero, List.set_cons_succ]))
        refine wpAnyH_ready (rs := [12]) (by kernel_rfl) (by simp) (AllReadyH.cons rfl (fun K hK => ?_) AllReadyH.nil)
        refine Kd.R_lit_step DX (w0 := w) w.heap.size 25 rfl (N := 48) rfl (xs := [ct]) (inner := [.slice Ax (ct).length cx]) (ok := fun _ => True) (okp := fun _ => True) (by first | (go_simp; done) | (go_simp; rfl)) ⟨rfl, fun j p hj => ?_⟩ (fun _ hk => hk) trivial HB4.out HB4.out.size (by simp) ?_
        · match j, hj with
          | 0, hj => cases hj; exact ⟨_, rfl, HX4.out⟩
        intro v5 w5 ho hb hg hat
        have HV5 := Aside0.mk (show Ot w5 w.heap.size v5 [ct] from ho)
        have HB5 := Aside0.mk hb
        have HO5 := Aside0.mk (show Ot w5 w.heap.size v3 (TK ++ [lt]) from Kd.R_grown HO4.out hg (fun k _ h => by cases h))
        clear ho hb hg hat
        (refine Shut.out hK _ _ (HALL.out _ HB5.out) (fun hHeld => ?_); clear hK K; (try simp only [Act.put, List.getElem_toArray, List.getElem_cons_zero, List.getElem_cons_succ, List.setIfInBounds_toArray, List.set_cons_zero, List.set_cons_succ]))
        refine wpAnyH_ready (rs := [13]) (by kernel_rfl) (by simp) (AllReadyH.cons rfl (fun K hK => ?_) AllReadyH.nil)
        refine ot_append_step (w0 := w) w.heap.size rfl (.tmp 36) (.tmp 48) rfl v3 v5 (TK ++ [lt]) [ct] rfl rfl HO5.out HV5.out HB5.out HB5.out.size (by have := HTL.out; simp only [List.length_append, List.length_singleton]; omega) ?_
        intro v6 w6 ho hb hg
        have HO6 := Aside0.mk ho
        have HB6 := Aside0.mk hb
        clear ho hb hg
        (refine Shut.out hK _ _ (HALL.out _ HB6.out) (fun hHeld => ?_); clear hK K; (try simp only [Act.put, List.getElem_toArray, List.getElem_cons_zero, List.getElem_cons_succ, List.setIfInBounds_toArray, List.set_cons_zero, List.set_cons_succ]))
        (refine wpAnyH_take (i := 14) (v := ?_) rfl (by kernel_rfl) (by kernel_rfl) (by kernel_rfl) (fun _ _ _ h => h) (Or.inl ⟨by rfl, ?_⟩) (by assumption) ?_; (case' refine_2 => (intro w hSw; go_simp; try with_reducible rfl)); (try simp only [Act.put, List.getElem_toArray, List.getElem_cons_zero, List.getElem_cons_succ, List.setIfInBounds_toArray, List.set_cons_zero, List.set_cons_succ]))
        refine wpAnyH_done (by kernel_rfl) ?_ _
        go_wp2_with (fail)
        go_roundw
        case rel => exact ⟨k + 1, by have := HK.out; omega, by go_num, ⟨by rw [HT3.out]; exact HO6.out⟩, HB6.out⟩
        case measure => have := HK.out; simp [intOf]; omega
    · have hkm : k = m := by omega
      subst hkm
      have htk : l.take k = l := List.take_of_length_le (by rw [HF.out.1]; exact Nat.le_refl _)
      rw [htk] at HO0
      clear hlt hk htk
      go_wp2_with (fail)
      go_ret
      exact ⟨_, rfl, HO0.out, HB0.out⟩
end Go.Proofs.Ytfpkgdenohcglaa.Chn
