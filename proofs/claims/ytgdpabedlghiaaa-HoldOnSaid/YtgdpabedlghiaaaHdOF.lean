/- Own and printed texts, laid together. -/
import Derived.Test.YtgdpabedlghiaaaHdOB
import Derived.Test.YtgdpabedlghiaaaHdOE
import Derived.Test.YtgdpabedlghiaaaHdOD
import Derived.Test.YtgdpabedlghiaaaHdOC
-- printed for this claim by a program (pall.sh)
-- mended by fixpz.py
namespace Go.Proofs.Ytgdpabedlghiaaa.PZ
open Go.RowKit Go.Proofs.YtgdpabedlghiaaaW.PrintWords Go.Proofs.YtgdpabedlghiaaaW.PrintLast Go.Proofs.YtgdpabedlghiaaaW.PrintMore
attribute [local go_sem] max2_int min2_int max_two min_two max_three min_three max_four min_four   -- for this text's walks alone
set_option linter.unusedVariables false
set_option linter.unusedSimpArgs false

/-! ### hanaperref22_On: function 47 -/
def hanaperref22_On.l0 : Nat → List (S52) → List ByteArray → Int → ByteArray → ByteArray → ByteArray → ByteArray → Int → Int → Option (List ByteArray)
 | 0, _, _, _, _, _, _, _, _, _ => none
 | k + 1, x0, x5, x6, x102000, x102001, x102002, x102003, x102004, x102005 => if x6 < (x0.length : Int) then (if 0 ≤ x6 then (if (rd_T52 x0 x6).f2 = true then ((hanaperref20_Match.f k ((rd_T52 x0 x6).f1.f0) ((rd_T52 x0 x6).f1.f1) ((rd_T52 x0 x6).f1.f2) ((rd_T52 x0 x6).f1.f3) ((rd_T52 x0 x6).f1.f4) x102000 x102001 x102002 x102003 x102004 x102005).bind fun t104 => (if t104 = true then (if x5.length < 8796093022208 then (hanaperref22_On.l0 k x0 (x5 ++ [(rd_T52 x0 x6).f0]) (wrap64 (x6 + 1)) x102000 x102001 x102002 x102003 x102004 x102005) else (none)) else (hanaperref22_On.l0 k x0 x5 (wrap64 (x6 + 1)) x102000 x102001 x102002 x102003 x102004 x102005))) else (hanaperref22_On.l0 k x0 x5 (wrap64 (x6 + 1)) x102000 x102001 x102002 x102003 x102004 x102005)) else (none)) else (some x5)
def hanaperref22_On.f (k : Nat) (l0 : List (S52)) (a1_0 : ByteArray) (a1_1 : ByteArray) (a1_2 : ByteArray) (a1_3 : ByteArray) (a1_4 : Int) (a1_5 : Int) : Option (List ByteArray) := hanaperref22_On.l0 k l0 ([] : List ByteArray) 0 a1_0 a1_1 a1_2 a1_3 a1_4 a1_5
def hanaperref22_On.T5 : Bool × List (List Nat × List Nat) := (true, [([], []), ([], []), ([0, 1], [0, 1]), ([2], [2]), ([3], [3]), ([4], [4]), ([5], [5]), ([5], [5]), ([6, 7, 5], [5, 6, 7]), ([8, 5], [5, 8]), ([9, 5], [5, 9]), ([5], [5]), ([10, 11, 5, 5], [5, 10, 11]), ([5, 12], [5, 12])])
def hanaperref22_On.B5 : List Nat := [0, 0, 3, 7, 15, 31, 63, 63, 255, 511, 1023, 63, 4095, 8191]
theorem hanaperref22_On.tab5 : rtab .any (opsOf Try.f47 5) = hanaperref22_On.T5 := by kernel_rfl
theorem hanaperref22_On.bits5 : waitsOk hanaperref22_On.T5.2 hanaperref22_On.B5 = true := by kernel_rfl
set_option maxHeartbeats 8000000 in
set_option maxRecDepth 100000 in
theorem hanaperref22_On.calls (k : Nat) (A0 : Option Addr) (c0 : Nat) (l0 : List (S52)) (a1_0 : ByteArray) (a1_1 : ByteArray) (a1_2 : ByteArray) (a1_3 : ByteArray) (a1_4 : Int) (a1_5 : Int) (r : List ByteArray) (w : World) (hr0 : Kd.C k52 w A0 l0.length l0) (hc0 : l0.length ≤ c0) (h : hanaperref22_On.f k l0 a1_0 a1_1 a1_2 a1_3 a1_4 a1_5 = some r) :
  Calls Try.prog 47 #[.slice A0 l0.length c0, .agg #[.string a1_0, .string a1_1, .string a1_2, .string a1_3, .int .i64 a1_4, .int .i64 a1_5]] w fun e w' => ∃ v0_ : Value, e = .returned (v0_) ∧ Kd.R Kd.string 9 w' w.heap.size (fun _ => True) v0_ r ∧ Below w.heap.size w w' := by
 have hu46 := Try.underlying46
 have hu40 := Try.underlying40
 have HR0 := Aside0.mk hr0
 have HC0 := Aside0.mk hc0
 clear hr0 hc0
 have HB := Aside0.mk (Below.refl w.heap.size w)
 have H : (hanaperref22_On.l0 k l0 ([] : List ByteArray) 0 a1_0 a1_1 a1_2 a1_3 a1_4 a1_5) = some r := h
 clear h
 have H' := Aside0.mk H
 clear H
 go_enter Try.func47, Try.ntmps47
 go_wp2_with (first | ((with_reducible refine gate_dst (N := 3) rfl ?_); refine box_event ?hg (N := 3) ?hd (cs := #[.string a1_0, .string a1_1, .string a1_2, .string a1_3, .int .i64 a1_4, .int .i64 a1_5]) (t := 46) ?hr ?_; (case hd => rfl); (case hg => rfl); (case hr => first | (go_simp; done) | (go_simp; rfl)); intro gb101 hg w3 hbox hb; have n0_ := Aside0.mk (below_step (by repeat (first | (with_reducible first | exact HB.out | apply below_alloc | apply pw_below_drewN | apply below_drew1) | exact HB.out)) hb); have n1_ := Aside0.mk (hbox); have n2_ := Aside0.mk ((by rw [hg]; exact (below_size (by repeat (first | (with_reducible first | exact HB.out | apply below_alloc | apply pw_below_drewN | apply below_drew1) | exact HB.out))) : w.heap.size ≤ gb101)); have n3_ := Aside0.mk ((by rw [hg]; exact (below_size (by repeat (first | (with_reducible first | exact HB.out | apply below_alloc | apply pw_below_drewN | apply below_drew1) | exact HB.out))) : w.heap.size ≤ gb101)); clear HB; have HB := n0_; have BK101 := n1_; have GW101 := n2_; have GE101 := n3_; clear n0_ n1_ n2_ n3_; clear hb hbox hg))
 go_loopg [5, 6] k (fun kq v5 v6 w' => ∃ (x5_1 : List ByteArray) (x6_1 : Int), v6 = .int .i64 x6_1 ∧ Aside0 (hanaperref22_On.l0 kq l0 x5_1 x6_1 a1_0 a1_1 a1_2 a1_3 a1_4 a1_5 = some r) ∧ Aside0 (kq ≤ k) ∧ Aside0 (Kd.R Kd.string 9 w' w.heap.size (fun _ => True) v5 x5_1) ∧ Aside0 (w'.heap[gb101]? = some (.cells #[.string a1_0, .string a1_1, .string a1_2, .string a1_3, .int .i64 a1_4, .int .i64 a1_5] 46 (0, 0))) ∧ Aside0 (Below w.heap.size w w'))
 case atStart => exact ⟨(([] : List ByteArray)), (0), (by first | rfl | (simp; done) | (simp [*]; done)), H', ⟨Nat.le_refl _⟩, ⟨by first | exact Kd.R_nil _ _ _ _ _ | exact Kd.N_nil _ _ _ _ _ | exact Kd.V_nil _ _ _ _ _ | exact Kd.Q_nil _ _ _ _ _ | exact Kd.S_nil _ _ _ _ _⟩, ⟨by (with_reducible repeat (first | refine blk_drewN ?_ _ | refine blk_drew ?_ | refine blk_alloc ?_ _)); exact BK101.out⟩, ⟨by repeat (first | (with_reducible first | exact HB.out | apply below_alloc | apply pw_below_drewN | apply below_drew1 | refine below_set ?_ GE101.out) | exact HB.out)⟩⟩
 case round =>
  clear H'
  (try clear p2)
  obtain ⟨x5_1, x6_1, rfl, HA, HK1, HO_5, BK101, HB⟩ := hrel
  cases gk with
  | zero => exact absurd HA.out (by simp [hanaperref22_On.l0])
  | succ k1 =>
   have H := HA.out
   clear HA
   simp only [hanaperref22_On.l0] at H
   by_cases c4 : x6_1 < (l0.length : Int)
   ·rw [if_pos c4] at H
    have c4b0 : decide (x6_1 < (l0.length : Int)) = true := decide_eq_true c4
    clear c4
    by_cases c5 : 0 ≤ x6_1
    ·rw [if_pos c5] at H
     have c5b0 : decide (0 ≤ x6_1) = true := decide_eq_true c5
     clear c5
     obtain ⟨bq6, hbq6⟩ : ∃ b_ : Bool, b_ = ((rd_T52 l0 x6_1).f2) := ⟨_, rfl⟩
     replace H : (if bq6 = true then ((hanaperref20_Match.f k1 ((rd_T52 l0 x6_1).f1.f0) ((rd_T52 l0 x6_1).f1.f1) ((rd_T52 l0 x6_1).f1.f2) ((rd_T52 l0 x6_1).f1.f3) ((rd_T52 l0 x6_1).f1.f4) a1_0 a1_1 a1_2 a1_3 a1_4 a1_5).bind fun t104 => (if t104 = true then (if x5_1.length < 8796093022208 then (hanaperref22_On.l0 k1 l0 (x5_1 ++ [(rd_T52 l0 x6_1).f0]) (wrap64 (x6_1 + 1)) a1_0 a1_1 a1_2 a1_3 a1_4 a1_5) else (none)) else (hanaperref22_On.l0 k1 l0 x5_1 (wrap64 (x6_1 + 1)) a1_0 a1_1 a1_2 a1_3 a1_4 a1_5))) else (hanaperref22_On.l0 k1 l0 x5_1 (wrap64 (x6_1 + 1)) a1_0 a1_1 a1_2 a1_3 a1_4 a1_5)) = some r := by rw [← hbq6] at H; exact H
     have Nbq6 := Aside0.mk hbq6
     clear hbq6
     by_cases c7 : bq6 = true
     ·subst c7
      have H1 : ((hanaperref20_Match.f k1 ((rd_T52 l0 x6_1).f1.f0) ((rd_T52 l0 x6_1).f1.f1) ((rd_T52 l0 x6_1).f1.f2) ((rd_T52 l0 x6_1).f1.f3) ((rd_T52 l0 x6_1).f1.f4) a1_0 a1_1 a1_2 a1_3 a1_4 a1_5).bind fun t104 => (if t104 = true then (if x5_1.length < 8796093022208 then (hanaperref22_On.l0 k1 l0 (x5_1 ++ [(rd_T52 l0 x6_1).f0]) (wrap64 (x6_1 + 1)) a1_0 a1_1 a1_2 a1_3 a1_4 a1_5) else (none)) else (hanaperref22_On.l0 k1 l0 x5_1 (wrap64 (x6_1 + 1)) a1_0 a1_1 a1_2 a1_3 a1_4 a1_5))) = some r := by rw [if_pos rfl] at H; exact H
      clear H
      have H := H1
      clear H1
      replace H := Option.bind_eq_some_iff.mp H
      obtain ⟨t104, A80, H⟩ := H
      replace H : (if t104 = true then (if x5_1.length < 8796093022208 then (hanaperref22_On.l0 k1 l0 (x5_1 ++ [(rd_T52 l0 x6_1).f0]) (wrap64 (x6_1 + 1)) a1_0 a1_1 a1_2 a1_3 a1_4 a1_5) else (none)) else (hanaperref22_On.l0 k1 l0 x5_1 (wrap64 (x6_1 + 1)) a1_0 a1_1 a1_2 a1_3 a1_4 a1_5)) = some r := H
      have A8 := Aside0.mk A80
      clear A80
      by_cases c9 : t104 = true
      ·subst c9
       have H1 : (if x5_1.length < 8796093022208 then (hanaperref22_On.l0 k1 l0 (x5_1 ++ [(rd_T52 l0 x6_1).f0]) (wrap64 (x6_1 + 1)) a1_0 a1_1 a1_2 a1_3 a1_4 a1_5) else (none)) = some r := by rw [if_pos rfl] at H; exact H
       clear H
       have H := H1
       clear H1
       by_cases c10 : x5_1.length < 8796093022208
       ·rw [if_pos c10] at H
        have LMc10 := Aside0.mk c10
        clear c10
        obtain ⟨y106, hy106⟩ : ∃ y_ : List ByteArray, y_ = (x5_1 ++ [(rd_T52 l0 x6_1).f0]) := ⟨_, rfl⟩
        replace H : (hanaperref22_On.l0 k1 l0 y106 (wrap64 (x6_1 + 1)) a1_0 a1_1 a1_2 a1_3 a1_4 a1_5) = some r := by first | (rw [hy106]; with_reducible exact H) | (have H2_ := (Option.bind_some _ _).symm.trans H; rw [hy106]; with_reducible exact H2_) | (have H2_ := (Option.bind_some _ _).symm.trans H; with_reducible exact H2_) | with_reducible exact H | (rw [hy106]; exact H) | exact H
        have Ny106 := Aside0.mk hy106
        clear hy106
        have H' := Aside0.mk H
        clear H
        try go_wp2
        have n0_ := Aside0.mk (Kd.R_drew HO_5.out)
        have n1_ := Aside0.mk (blk_drew BK101.out)
        have n2_ := Aside0.mk (below_drew1 HB.out)
        clear HO_5
        clear BK101
        clear HB
        have HO_5 := n0_
        have BK101 := n1_
        have HB := n2_
        clear n0_ n1_ n2_
        have p102 : 0 ≤ (x6_1 : Int) := of_decide_eq_true (by first | (with_reducible assumption) | assumption)
        have q102 : x6_1 < (l0.length : Int) := of_decide_eq_true (by first | (with_reducible assumption) | assumption)
        obtain ⟨ad102, A102_5, c102_5, e102, hx102_0, hx102_1, hx102_2, hx102_3, hx102_4, hx102_5, hx102_6, hl102_5, hi102_5⟩ := at_T52 HR0.out x6_1 p102 q102
        have hw102_6 := hx102_6
        have hw102_5 := hx102_5
        have hw102_4 := hx102_4
        have hw102_3 := hx102_3
        have hw102_2 := hx102_2
        have hw102_1 := hx102_1
        have hw102_0 := hx102_0
        (try rw [← Nbq6.out] at hx102_6)
        cases e102
        replace hx102_0 := (HB.out.cell (World.block_lt_of_cell? w _ hx102_0)).trans hx102_0
        replace hx102_1 := (HB.out.cell (World.block_lt_of_cell? w _ hx102_1)).trans hx102_1
        replace hx102_2 := (HB.out.cell (World.block_lt_of_cell? w _ hx102_2)).trans hx102_2
        replace hx102_3 := (HB.out.cell (World.block_lt_of_cell? w _ hx102_3)).trans hx102_3
        replace hx102_4 := (HB.out.cell (World.block_lt_of_cell? w _ hx102_4)).trans hx102_4
        replace hx102_5 := (HB.out.cell (World.block_lt_of_cell? w _ hx102_5)).trans hx102_5
        replace hx102_6 := (HB.out.cell (World.block_lt_of_cell? w _ hx102_6)).trans hx102_6
        have HR102_5 := Aside0.mk hi102_5
        have HC102_5 := Aside0.mk hl102_5
        clear hi102_5 hl102_5
        replace p102 := eq_true p102
        replace q102 := eq_true q102
        have p103 : 0 ≤ (x6_1 : Int) := of_decide_eq_true (by first | (with_reducible assumption) | assumption)
        have q103 : x6_1 < (l0.length : Int) := of_decide_eq_true (by first | (with_reducible assumption) | assumption)
        obtain ⟨ad103, A103_5, c103_5, e103, hx103_0, hx103_1, hx103_2, hx103_3, hx103_4, hx103_5, hx103_6, hl103_5, hi103_5⟩ := at_T52 HR0.out x6_1 p103 q103
        have hw103_6 := hx103_6
        have hw103_5 := hx103_5
        have hw103_4 := hx103_4
        have hw103_3 := hx103_3
        have hw103_2 := hx103_2
        have hw103_1 := hx103_1
        have hw103_0 := hx103_0
        (try rw [← Nbq6.out] at hx103_6)
        obtain rfl : ad102 = ad103 := (by injection e103)
        replace hx103_0 := (HB.out.cell (World.block_lt_of_cell? w _ hx103_0)).trans hx103_0
        replace hx103_1 := (HB.out.cell (World.block_lt_of_cell? w _ hx103_1)).trans hx103_1
        replace hx103_2 := (HB.out.cell (World.block_lt_of_cell? w _ hx103_2)).trans hx103_2
        replace hx103_3 := (HB.out.cell (World.block_lt_of_cell? w _ hx103_3)).trans hx103_3
        replace hx103_4 := (HB.out.cell (World.block_lt_of_cell? w _ hx103_4)).trans hx103_4
        replace hx103_5 := (HB.out.cell (World.block_lt_of_cell? w _ hx103_5)).trans hx103_5
        replace hx103_6 := (HB.out.cell (World.block_lt_of_cell? w _ hx103_6)).trans hx103_6
        have HR103_5 := Aside0.mk hi103_5
        have HC103_5 := Aside0.mk hl103_5
        clear hi103_5 hl103_5
        replace p103 := eq_true p103
        replace q103 := eq_true q103
        have ea_ := Option.some.inj (hx102_5.symm.trans hx103_5)
        injection ea_ with ea_ en_ ec_
        subst ea_
        subst ec_
        clear en_
        refine start_ (n := 14) (S := fun w' => w'.cell? ⟨gb101, 0, none⟩ = some (.string a1_0) ∧ w'.cell? ⟨gb101, 1, none⟩ = some (.string a1_1) ∧ w'.cell? ⟨gb101, 2, none⟩ = some (.string a1_2) ∧ w'.cell? ⟨gb101, 3, none⟩ = some (.string a1_3) ∧ w'.cell? ⟨gb101, 4, none⟩ = some (.int .i64 a1_4) ∧ w'.cell? ⟨gb101, 5, none⟩ = some (.int .i64 a1_5) ∧ w'.cell? (ad102.add ((x6_1).toNat * 7)) = some (.string ((rd_T52 l0 x6_1).f0)) ∧ w'.cell? ⟨(ad102.add ((x6_1).toNat * 7)).block, (ad102.add ((x6_1).toNat * 7)).off + 1, none⟩ = some (.int .i64 ((rd_T52 l0 x6_1).f1.f0)) ∧ w'.cell? ⟨(ad102.add ((x6_1).toNat * 7)).block, (ad102.add ((x6_1).toNat * 7)).off + 2, none⟩ = some (.string ((rd_T52 l0 x6_1).f1.f1)) ∧ w'.cell? ⟨(ad102.add ((x6_1).toNat * 7)).block, (ad102.add ((x6_1).toNat * 7)).off + 3, none⟩ = some (.int .i64 ((rd_T52 l0 x6_1).f1.f2)) ∧ w'.cell? ⟨(ad102.add ((x6_1).toNat * 7)).block, (ad102.add ((x6_1).toNat * 7)).off + 4, none⟩ = some (.int .i64 ((rd_T52 l0 x6_1).f1.f3)) ∧ w'.cell? ⟨(ad102.add ((x6_1).toNat * 7)).block, (ad102.add ((x6_1).toNat * 7)).off + 5, none⟩ = some (.slice A102_5 ((rd_T52 l0 x6_1).f1.f4).length c102_5) ∧ w'.cell? ⟨(ad102.add ((x6_1).toNat * 7)).block, (ad102.add ((x6_1).toNat * 7)).off + 6, none⟩ = some (.bool true) ∧ w'.cell? (ad102.add ((x6_1).toNat * 7)) = some (.string ((rd_T52 l0 x6_1).f0)) ∧ w'.cell? ⟨(ad102.add ((x6_1).toNat * 7)).block, (ad102.add ((x6_1).toNat * 7)).off + 1, none⟩ = some (.int .i64 ((rd_T52 l0 x6_1).f1.f0)) ∧ w'.cell? ⟨(ad102.add ((x6_1).toNat * 7)).block, (ad102.add ((x6_1).toNat * 7)).off + 2, none⟩ = some (.string ((rd_T52 l0 x6_1).f1.f1)) ∧ w'.cell? ⟨(ad102.add ((x6_1).toNat * 7)).block, (ad102.add ((x6_1).toNat * 7)).off + 3, none⟩ = some (.int .i64 ((rd_T52 l0 x6_1).f1.f2)) ∧ w'.cell? ⟨(ad102.add ((x6_1).toNat * 7)).block, (ad102.add ((x6_1).toNat * 7)).off + 4, none⟩ = some (.int .i64 ((rd_T52 l0 x6_1).f1.f3)) ∧ w'.cell? ⟨(ad102.add ((x6_1).toNat * 7)).block, (ad102.add ((x6_1).toNat * 7)).off + 5, none⟩ = some (.slice A102_5 ((rd_T52 l0 x6_1).f1.f4).length c102_5) ∧ w'.cell? ⟨(ad102.add ((x6_1).toNat * 7)).block, (ad102.add ((x6_1).toNat * 7)).off + 6, none⟩ = some (.bool (true))) (ds := []) #[false, false, false, false, false, false, false, false, false, false, false, false, false, false] (by kernel_rfl) rfl rfl ⟨(blk_cell BK101.out 0).trans rfl, (blk_cell BK101.out 1).trans rfl, (blk_cell BK101.out 2).trans rfl, (blk_cell BK101.out 3).trans rfl, (blk_cell BK101.out 4).trans rfl, (blk_cell BK101.out 5).trans rfl, ((HB.out.cell (World.block_lt_of_cell? w _ hw102_0)).trans hw102_0), ((HB.out.cell (World.block_lt_of_cell? w _ hw102_1)).trans hw102_1), ((HB.out.cell (World.block_lt_of_cell? w _ hw102_2)).trans hw102_2), ((HB.out.cell (World.block_lt_of_cell? w _ hw102_3)).trans hw102_3), ((HB.out.cell (World.block_lt_of_cell? w _ hw102_4)).trans hw102_4), ((HB.out.cell (World.block_lt_of_cell? w _ hw102_5)).trans hw102_5), (by have h_ := (HB.out.cell (World.block_lt_of_cell? w _ hw102_6)).trans hw102_6; first | exact h_ | (rw [← Nbq6.out] at h_; exact h_)), ((HB.out.cell (World.block_lt_of_cell? w _ hw103_0)).trans hw103_0), ((HB.out.cell (World.block_lt_of_cell? w _ hw103_1)).trans hw103_1), ((HB.out.cell (World.block_lt_of_cell? w _ hw103_2)).trans hw103_2), ((HB.out.cell (World.block_lt_of_cell? w _ hw103_3)).trans hw103_3), ((HB.out.cell (World.block_lt_of_cell? w _ hw103_4)).trans hw103_4), ((HB.out.cell (World.block_lt_of_cell? w _ hw103_5)).trans hw103_5), (by have h_ := (HB.out.cell (World.block_lt_of_cell? w _ hw103_6)).trans hw103_6; first | exact h_ | (rw [← Nbq6.out] at h_; exact h_))⟩ (fun hHeld => ?_); refine with_tabW hanaperref22_On.tab5 hanaperref22_On.bits5 (fun HT_ HW_ => ?_)
        generalize wr.drew = w11 at HO_5 BK101 HB HR102_5 HR103_5 hx102_0 hx102_1 hx102_2 hx102_3 hx102_4 hx102_5 hx102_6 hx103_0 hx103_1 hx103_2 hx103_3 hx103_4 hx103_5 hx103_6 hHeld ⊢
        refine pure_ (i := 0) (N := some 13) (v := ?_) (a' := ?_) #[true, false, false, false, false, false, false, false, false, false, false, false, false, false] rfl rfl (any_of HT_.out (by kernel_rfl)) (fun _ _ _ h => h) (Or.inl ⟨by rfl, ?_⟩) ?_ ?_
        rotate_left
        ·intro w'
         go_simp
         with_reducible rfl
        rotate_left
        ·simp only [Act.put, List.setIfInBounds_toArray, List.set_cons_zero, List.set_cons_succ, i64_w, i32_w]
         rfl
        refine pure_ (i := 1) (N := some 14) (v := ?_) (a' := ?_) #[true, true, false, false, false, false, false, false, false, false, false, false, false, false] rfl rfl (any_of HT_.out (by kernel_rfl)) (fun _ _ _ h => h) (Or.inl ⟨by rfl, ?_⟩) ?_ ?_
        rotate_left
        ·intro w'
         go_simp
         with_reducible rfl
        rotate_left
        ·simp only [Act.put, List.setIfInBounds_toArray, List.set_cons_zero, List.set_cons_succ, i64_w, i32_w]
         rfl
        refine pure_ (i := 2) (N := some 15) (v := ?_) (a' := ?_) #[true, true, true, false, false, false, false, false, false, false, false, false, false, false] rfl rfl (any_of HT_.out (by kernel_rfl)) (fun _ _ _ h => h) (Or.inl ⟨by rfl, ?_⟩) ?_ ?_
        rotate_left
        ·intro w'
         go_simp
         with_reducible rfl
        rotate_left
        ·simp only [Act.put, List.setIfInBounds_toArray, List.set_cons_zero, List.set_cons_succ, i64_w, i32_w]
         rfl
        refine pure_ (i := 3) (N := some 16) (v := ?_) (a' := ?_) #[true, true, true, true, false, false, false, false, false, false, false, false, false, false] rfl rfl (any_of HT_.out (by kernel_rfl)) (fun _ _ _ h => h) (Or.inl ⟨by rfl, ?_⟩) ?_ ?_
        rotate_left
        ·intro w'
         go_simp
         with_reducible rfl
        rotate_left
        ·simp only [Act.put, List.setIfInBounds_toArray, List.set_cons_zero, List.set_cons_succ, i64_w, i32_w]
         rfl
        refine take_ (i := 4) (N := some 17) (v := ?_) (a' := ?_) #[true, true, true, true, true, false, false, false, false, false, false, false, false, false] rfl rfl (take_ofW HT_.out HW_.out (by kernel_rfl)) (fun _ _ _ h => h) (Or.inl ⟨by rfl, ?_⟩) hHeld ?_ ?_
        rotate_left
        ·rintro w' ⟨s0, s1, s2, s3, s4, s5, s6, s7, s8, s9, s10, s11, s12, s13, s14, s15, s16, s17, s18, s19⟩
         go_simp
         with_reducible rfl
        rotate_left
        ·simp only [Act.put, List.setIfInBounds_toArray, List.set_cons_zero, List.set_cons_succ, i64_w, i32_w]
         rfl
        refine pure_ (i := 5) (N := some 18) (v := ?_) (a' := ?_) #[true, true, true, true, true, true, false, false, false, false, false, false, false, false] rfl rfl (any_of HT_.out (by kernel_rfl)) (fun _ _ _ h => h) (Or.inl ⟨by rfl, ?_⟩) ?_ ?_
        rotate_left
        ·intro w'
         go_simp
         with_reducible rfl
        rotate_left
        ·simp only [Act.put, List.setIfInBounds_toArray, List.set_cons_zero, List.set_cons_succ, i64_w, i32_w]
         rfl
        refine pure_ (i := 6) (N := some 19) (v := ?_) (a' := ?_) #[true, true, true, true, true, true, true, false, false, false, false, false, false, false] rfl rfl (any_of HT_.out (by kernel_rfl)) (fun _ _ _ h => h) (Or.inl ⟨by rfl, ?_⟩) ?_ ?_
        rotate_left
        ·intro w'
         go_simp
         with_reducible rfl
        rotate_left
        ·simp only [Act.put, List.setIfInBounds_toArray, List.set_cons_zero, List.set_cons_succ, i64_w, i32_w]
         rfl
        refine pure_ (i := 7) (N := some 20) (v := ?_) (a' := ?_) #[true, true, true, true, true, true, true, true, false, false, false, false, false, false] rfl rfl (any_of HT_.out (by kernel_rfl)) (fun _ _ _ h => h) (Or.inl ⟨by rfl, ?_⟩) ?_ ?_
        rotate_left
        ·intro w'
         go_simp
         with_reducible rfl
        rotate_left
        ·simp only [Act.put, List.setIfInBounds_toArray, List.set_cons_zero, List.set_cons_succ, i64_w, i32_w]
         rfl
        refine pure_ (i := 8) (N := some 21) (v := ?_) (a' := ?_) #[true, true, true, true, true, true, true, true, true, false, false, false, false, false] rfl rfl (any_of HT_.out (by kernel_rfl)) (fun _ _ _ h => h) (Or.inl ⟨by rfl, ?_⟩) ?_ ?_
        rotate_left
        ·intro w'
         go_simp
         with_reducible rfl
        rotate_left
        ·simp only [Act.put, List.setIfInBounds_toArray, List.set_cons_zero, List.set_cons_succ, i64_w, i32_w]
         rfl
        refine pure_ (i := 9) (N := some 22) (v := ?_) (a' := ?_) #[true, true, true, true, true, true, true, true, true, true, false, false, false, false] rfl rfl (any_of HT_.out (by kernel_rfl)) (fun _ _ _ h => h) (Or.inl ⟨by rfl, ?_⟩) ?_ ?_
        rotate_left
        ·intro w'
         go_simp
         with_reducible rfl
        rotate_left
        ·simp only [Act.put, List.setIfInBounds_toArray, List.set_cons_zero, List.set_cons_succ, i64_w, i32_w]
         rfl
        refine take_ (i := 10) (N := some 23) (v := ?_) (a' := ?_) #[true, true, true, true, true, true, true, true, true, true, true, false, false, false] rfl rfl (take_ofW HT_.out HW_.out (by kernel_rfl)) (fun _ _ _ h => h) (Or.inl ⟨by rfl, ?_⟩) hHeld ?_ ?_
        rotate_left
        ·rintro w' ⟨s0, s1, s2, s3, s4, s5, s6, s7, s8, s9, s10, s11, s12, s13, s14, s15, s16, s17, s18, s19⟩
         go_simp
         with_reducible rfl
        rotate_left
        ·simp only [Act.put, List.setIfInBounds_toArray, List.set_cons_zero, List.set_cons_succ, i64_w, i32_w]
         rfl
        refine take_ (i := 11) (N := some 24) (v := ?_) (a' := ?_) #[true, true, true, true, true, true, true, true, true, true, true, true, false, false] rfl rfl (take_ofW HT_.out HW_.out (by kernel_rfl)) (fun _ _ _ h => h) (Or.inl ⟨by rfl, ?_⟩) hHeld ?_ ?_
        rotate_left
        ·rintro w' ⟨s0, s1, s2, s3, s4, s5, s6, s7, s8, s9, s10, s11, s12, s13, s14, s15, s16, s17, s18, s19⟩
         go_simp
         with_reducible rfl
        rotate_left
        ·simp only [Act.put, List.setIfInBounds_toArray, List.set_cons_zero, List.set_cons_succ, i64_w, i32_w]
         rfl
        refine one_ (i := 12) (N := some 25) #[true, true, true, true, true, true, true, true, true, true, true, true, true, false] rfl rfl (one_of HT_.out (by kernel_rfl)) (by decide) (fun K hK => ?_)
        refine goes_ Try.func30 (by kernel_rfl) rfl #[.agg #[.int .i64 ((rd_T52 l0 x6_1).f1.f0), .string ((rd_T52 l0 x6_1).f1.f1), .int .i64 ((rd_T52 l0 x6_1).f1.f2), .int .i64 ((rd_T52 l0 x6_1).f1.f3), .slice A102_5 ((rd_T52 l0 x6_1).f1.f4).length c102_5], .agg #[.string a1_0, .string a1_1, .string a1_2, .string a1_3, .int .i64 a1_4, .int .i64 a1_5]] (by rfl) rfl rfl (by (try simp only [List.map_toArray, List.map_cons, List.map_nil]); first | done | rfl | (simp only [List.length_drop, List.length_take]; rfl)) ?_
        with_reducible refine (hanaperref20_Match.calls k1 ((rd_T52 l0 x6_1).f1.f0) ((rd_T52 l0 x6_1).f1.f1) ((rd_T52 l0 x6_1).f1.f2) ((rd_T52 l0 x6_1).f1.f3) _ _ ((rd_T52 l0 x6_1).f1.f4) a1_0 a1_1 a1_2 a1_3 a1_4 a1_5 true _ ?side1 ?side2 A8.out).mono ?_
        (case side1 => repeat (first | exact (Kd.C_below HR103_5.out HB.out) | (with_reducible refine Kd.C_alloc ?_ _) | (with_reducible refine Kd.C_drewN ?_ _) | (with_reducible refine Kd.C_drew ?_)))
        (case side2 => exact HC103_5.out)
        rintro e w12 ⟨rfl, hb⟩
        refine ⟨_, rfl, ?_⟩
        have n0_ := Aside0.mk (Kd.R_below (by (with_reducible repeat (first | apply Kd.R_alloc | apply Kd.R_drewN | apply Kd.R_drew)); exact HO_5.out) hb)
        have n1_ := Aside0.mk (blk_below (g := gb101) (o := .cells #[.string a1_0, .string a1_1, .string a1_2, .string a1_3, .int .i64 a1_4, .int .i64 a1_5] 46 (0, 0)) (by (with_reducible repeat (first | refine blk_drewN ?_ _ | refine blk_drew ?_ | refine blk_alloc ?_ _)); exact BK101.out) hb)
        have n2_ := Aside0.mk (below_step (by repeat (first | (with_reducible first | exact HB.out | apply below_alloc | apply pw_below_drewN | apply below_drew1 | refine below_set ?_ GE101.out) | exact HB.out)) hb)
        clear HO_5
        clear BK101
        clear HB
        have HO_5 := n0_
        have BK101 := n1_
        have HB := n2_
        clear n0_ n1_ n2_
        (try clear hb)
        (try clear hb2)
        (try clear hk)
        (try clear hi)
        refine hK.out _ _ ⟨(blk_cell BK101.out 0).trans rfl, (blk_cell BK101.out 1).trans rfl, (blk_cell BK101.out 2).trans rfl, (blk_cell BK101.out 3).trans rfl, (blk_cell BK101.out 4).trans rfl, (blk_cell BK101.out 5).trans rfl, ((HB.out.cell (World.block_lt_of_cell? w _ hw102_0)).trans hw102_0), ((HB.out.cell (World.block_lt_of_cell? w _ hw102_1)).trans hw102_1), ((HB.out.cell (World.block_lt_of_cell? w _ hw102_2)).trans hw102_2), ((HB.out.cell (World.block_lt_of_cell? w _ hw102_3)).trans hw102_3), ((HB.out.cell (World.block_lt_of_cell? w _ hw102_4)).trans hw102_4), ((HB.out.cell (World.block_lt_of_cell? w _ hw102_5)).trans hw102_5), (by have h_ := (HB.out.cell (World.block_lt_of_cell? w _ hw102_6)).trans hw102_6; first | exact h_ | (rw [← Nbq6.out] at h_; exact h_)), ((HB.out.cell (World.block_lt_of_cell? w _ hw103_0)).trans hw103_0), ((HB.out.cell (World.block_lt_of_cell? w _ hw103_1)).trans hw103_1), ((HB.out.cell (World.block_lt_of_cell? w _ hw103_2)).trans hw103_2), ((HB.out.cell (World.block_lt_of_cell? w _ hw103_3)).trans hw103_3), ((HB.out.cell (World.block_lt_of_cell? w _ hw103_4)).trans hw103_4), ((HB.out.cell (World.block_lt_of_cell? w _ hw103_5)).trans hw103_5), (by have h_ := (HB.out.cell (World.block_lt_of_cell? w _ hw103_6)).trans hw103_6; first | exact h_ | (rw [← Nbq6.out] at h_; exact h_))⟩ (fun hHeld => ?_)
        clear hK K
        refine norm_ (a' := ?_) ?_ ?_
        rotate_left
        ·show Act.put _ (some 25) _ = _
         simp only [Act.put, List.setIfInBounds_toArray, List.set_cons_zero, List.set_cons_succ, i64_w, i32_w]
         rfl
        refine pure_ (i := 13) (N := some 26) (v := ?_) (a' := ?_) #[true, true, true, true, true, true, true, true, true, true, true, true, true, true] rfl rfl (any_of HT_.out (by kernel_rfl)) (fun _ _ _ h => h) (Or.inl ⟨by rfl, ?_⟩) ?_ ?_
        rotate_left
        ·intro w'
         go_simp
         with_reducible rfl
        rotate_left
        ·simp only [Act.put, List.setIfInBounds_toArray, List.set_cons_zero, List.set_cons_succ, i64_w, i32_w]
         rfl
        refine done_ (done_of HT_.out (by kernel_rfl)) ?_
        have p105 : 0 ≤ (x6_1 : Int) := of_decide_eq_true (by first | (with_reducible assumption) | assumption)
        have q105 : x6_1 < (l0.length : Int) := of_decide_eq_true (by first | (with_reducible assumption) | assumption)
        obtain ⟨ad105, A105_5, c105_5, e105, hx105_0, hx105_1, hx105_2, hx105_3, hx105_4, hx105_5, hx105_6, hl105_5, hi105_5⟩ := at_T52 HR0.out x6_1 p105 q105
        (try rw [← Nbq6.out] at hx105_6)
        obtain rfl : ad102 = ad105 := (by injection e105)
        replace hx105_0 := (HB.out.cell (World.block_lt_of_cell? w _ hx105_0)).trans hx105_0
        replace hx105_1 := (HB.out.cell (World.block_lt_of_cell? w _ hx105_1)).trans hx105_1
        replace hx105_2 := (HB.out.cell (World.block_lt_of_cell? w _ hx105_2)).trans hx105_2
        replace hx105_3 := (HB.out.cell (World.block_lt_of_cell? w _ hx105_3)).trans hx105_3
        replace hx105_4 := (HB.out.cell (World.block_lt_of_cell? w _ hx105_4)).trans hx105_4
        replace hx105_5 := (HB.out.cell (World.block_lt_of_cell? w _ hx105_5)).trans hx105_5
        replace hx105_6 := (HB.out.cell (World.block_lt_of_cell? w _ hx105_6)).trans hx105_6
        have HR105_5 := Aside0.mk hi105_5
        have HC105_5 := Aside0.mk hl105_5
        clear hi105_5 hl105_5
        replace p105 := eq_true p105
        replace q105 := eq_true q105
        try go_wp2_with (first | ((with_reducible refine gate_builtin (b := .append) (xs := #[.tmp 27, .tmp 33]) rfl ?_); at_builtin; refine Kd.R_append Kd.string (w0 := w) w.heap.size rfl (.tmp 27) (.tmp 33) 71 9 (.string ⟨#[]⟩) 16 rfl Try.underlying71 info9 rfl (by decide) (by omega) u5 x5_1 ((rd_T52 l0 x6_1).f0) [.string ((rd_T52 l0 x6_1).f0)] (fun _ => True) (fun _ => False) rfl rfl ?aP (fun _ hk => hk.elim) ?aF ?aO ?aB ?aS ?aL ?_; (case aP => exact rfl); (case aB => exact (by repeat (first | (with_reducible first | exact HB.out | apply below_alloc | apply pw_below_drewN | apply below_drew1 | refine below_set ?_ GE101.out) | exact HB.out))); (case aF => exact (fun _ _ => trivial)); (case aO => exact (by (with_reducible repeat (first | apply Kd.R_alloc | apply Kd.R_drewN | apply Kd.R_drew)); exact HO_5.out)); (case aS => exact (below_size (by repeat (first | (with_reducible first | exact HB.out | apply below_alloc | apply pw_below_drewN | apply below_drew1 | refine below_set ?_ GE101.out) | exact HB.out)))); (case aL => have := LMc10.out; omega); intro v107 w13 ho hb hg hat; rw [← Ny106.out] at ho; have n0_ := Aside0.mk (blk_grown (g := gb101) (o := .cells #[.string a1_0, .string a1_1, .string a1_2, .string a1_3, .int .i64 a1_4, .int .i64 a1_5] 46 (0, 0)) (by (with_reducible repeat (first | refine blk_drewN ?_ _ | refine blk_drew ?_ | refine blk_alloc ?_ _)); exact BK101.out) hg (Kd.R_ne HO_5.out BK101.out (by decide))); have n1_ := Aside0.mk (hb); have n2_ := Aside0.mk (ho); clear BK101; clear HB; clear HO_5; have BK101 := n0_; have HB := n1_; have HO108 := n2_; clear n0_ n1_ n2_; clear ho hb hg hat))
        go_roundg k1
        case measure => have := HK1.out; omega
        case rel => exact ⟨(y106), (wrap64 (x6_1 + 1)), (by first | rfl | (simp; done) | (simp [*]; done)), H', ⟨by have := HK1.out; omega⟩, ⟨by (with_reducible repeat (first | apply Kd.R_alloc | apply Kd.R_drewN | apply Kd.R_drew)); exact HO108.out⟩, ⟨by (with_reducible repeat (first | refine blk_drewN ?_ _ | refine blk_drew ?_ | refine blk_alloc ?_ _)); exact BK101.out⟩, ⟨by repeat (first | (with_reducible first | exact HB.out | apply below_alloc | apply pw_below_drewN | apply below_drew1 | refine below_set ?_ GE101.out) | exact HB.out)⟩⟩
       ·rw [if_neg c10] at H
        exact absurd H (by simp)
      ·replace c9 := Bool.eq_false_iff.mpr c9
       subst c9
       have H1 : (hanaperref22_On.l0 k1 l0 x5_1 (wrap64 (x6_1 + 1)) a1_0 a1_1 a1_2 a1_3 a1_4 a1_5) = some r := by rw [if_neg (show ¬ (false = true) by decide)] at H; exact H
       clear H
       have H := H1
       clear H1
       have H' := Aside0.mk H
       clear H
       try go_wp2
       have n0_ := Aside0.mk (Kd.R_drew HO_5.out)
       have n1_ := Aside0.mk (blk_drew BK101.out)
       have n2_ := Aside0.mk (below_drew1 HB.out)
       clear HO_5
       clear BK101
       clear HB
       have HO_5 := n0_
       have BK101 := n1_
       have HB := n2_
       clear n0_ n1_ n2_
       have p102 : 0 ≤ (x6_1 : Int) := of_decide_eq_true (by first | (with_reducible assumption) | assumption)
       have q102 : x6_1 < (l0.length : Int) := of_decide_eq_true (by first | (with_reducible assumption) | assumption)
       obtain ⟨ad102, A102_5, c102_5, e102, hx102_0, hx102_1, hx102_2, hx102_3, hx102_4, hx102_5, hx102_6, hl102_5, hi102_5⟩ := at_T52 HR0.out x6_1 p102 q102
       have hw102_6 := hx102_6
       have hw102_5 := hx102_5
       have hw102_4 := hx102_4
       have hw102_3 := hx102_3
       have hw102_2 := hx102_2
       have hw102_1 := hx102_1
       have hw102_0 := hx102_0
       (try rw [← Nbq6.out] at hx102_6)
       cases e102
       replace hx102_0 := (HB.out.cell (World.block_lt_of_cell? w _ hx102_0)).trans hx102_0
       replace hx102_1 := (HB.out.cell (World.block_lt_of_cell? w _ hx102_1)).trans hx102_1
       replace hx102_2 := (HB.out.cell (World.block_lt_of_cell? w _ hx102_2)).trans hx102_2
       replace hx102_3 := (HB.out.cell (World.block_lt_of_cell? w _ hx102_3)).trans hx102_3
       replace hx102_4 := (HB.out.cell (World.block_lt_of_cell? w _ hx102_4)).trans hx102_4
       replace hx102_5 := (HB.out.cell (World.block_lt_of_cell? w _ hx102_5)).trans hx102_5
       replace hx102_6 := (HB.out.cell (World.block_lt_of_cell? w _ hx102_6)).trans hx102_6
       have HR102_5 := Aside0.mk hi102_5
       have HC102_5 := Aside0.mk hl102_5
       clear hi102_5 hl102_5
       replace p102 := eq_true p102
       replace q102 := eq_true q102
       have p103 : 0 ≤ (x6_1 : Int) := of_decide_eq_true (by first | (with_reducible assumption) | assumption)
       have q103 : x6_1 < (l0.length : Int) := of_decide_eq_true (by first | (with_reducible assumption) | assumption)
       obtain ⟨ad103, A103_5, c103_5, e103, hx103_0, hx103_1, hx103_2, hx103_3, hx103_4, hx103_5, hx103_6, hl103_5, hi103_5⟩ := at_T52 HR0.out x6_1 p103 q103
       have hw103_6 := hx103_6
       have hw103_5 := hx103_5
       have hw103_4 := hx103_4
       have hw103_3 := hx103_3
       have hw103_2 := hx103_2
       have hw103_1 := hx103_1
       have hw103_0 := hx103_0
       (try rw [← Nbq6.out] at hx103_6)
       obtain rfl : ad102 = ad103 := (by injection e103)
       replace hx103_0 := (HB.out.cell (World.block_lt_of_cell? w _ hx103_0)).trans hx103_0
       replace hx103_1 := (HB.out.cell (World.block_lt_of_cell? w _ hx103_1)).trans hx103_1
       replace hx103_2 := (HB.out.cell (World.block_lt_of_cell? w _ hx103_2)).trans hx103_2
       replace hx103_3 := (HB.out.cell (World.block_lt_of_cell? w _ hx103_3)).trans hx103_3
       replace hx103_4 := (HB.out.cell (World.block_lt_of_cell? w _ hx103_4)).trans hx103_4
       replace hx103_5 := (HB.out.cell (World.block_lt_of_cell? w _ hx103_5)).trans hx103_5
       replace hx103_6 := (HB.out.cell (World.block_lt_of_cell? w _ hx103_6)).trans hx103_6
       have HR103_5 := Aside0.mk hi103_5
       have HC103_5 := Aside0.mk hl103_5
       clear hi103_5 hl103_5
       replace p103 := eq_true p103
       replace q103 := eq_true q103
       have ea_ := Option.some.inj (hx102_5.symm.trans hx103_5)
       injection ea_ with ea_ en_ ec_
       subst ea_
       subst ec_
       clear en_
       refine start_ (n := 14) (S := fun w' => w'.cell? ⟨gb101, 0, none⟩ = some (.string a1_0) ∧ w'.cell? ⟨gb101, 1, none⟩ = some (.string a1_1) ∧ w'.cell? ⟨gb101, 2, none⟩ = some (.string a1_2) ∧ w'.cell? ⟨gb101, 3, none⟩ = some (.string a1_3) ∧ w'.cell? ⟨gb101, 4, none⟩ = some (.int .i64 a1_4) ∧ w'.cell? ⟨gb101, 5, none⟩ = some (.int .i64 a1_5) ∧ w'.cell? (ad102.add ((x6_1).toNat * 7)) = some (.string ((rd_T52 l0 x6_1).f0)) ∧ w'.cell? ⟨(ad102.add ((x6_1).toNat * 7)).block, (ad102.add ((x6_1).toNat * 7)).off + 1, none⟩ = some (.int .i64 ((rd_T52 l0 x6_1).f1.f0)) ∧ w'.cell? ⟨(ad102.add ((x6_1).toNat * 7)).block, (ad102.add ((x6_1).toNat * 7)).off + 2, none⟩ = some (.string ((rd_T52 l0 x6_1).f1.f1)) ∧ w'.cell? ⟨(ad102.add ((x6_1).toNat * 7)).block, (ad102.add ((x6_1).toNat * 7)).off + 3, none⟩ = some (.int .i64 ((rd_T52 l0 x6_1).f1.f2)) ∧ w'.cell? ⟨(ad102.add ((x6_1).toNat * 7)).block, (ad102.add ((x6_1).toNat * 7)).off + 4, none⟩ = some (.int .i64 ((rd_T52 l0 x6_1).f1.f3)) ∧ w'.cell? ⟨(ad102.add ((x6_1).toNat * 7)).block, (ad102.add ((x6_1).toNat * 7)).off + 5, none⟩ = some (.slice A102_5 ((rd_T52 l0 x6_1).f1.f4).length c102_5) ∧ w'.cell? ⟨(ad102.add ((x6_1).toNat * 7)).block, (ad102.add ((x6_1).toNat * 7)).off + 6, none⟩ = some (.bool true) ∧ w'.cell? (ad102.add ((x6_1).toNat * 7)) = some (.string ((rd_T52 l0 x6_1).f0)) ∧ w'.cell? ⟨(ad102.add ((x6_1).toNat * 7)).block, (ad102.add ((x6_1).toNat * 7)).off + 1, none⟩ = some (.int .i64 ((rd_T52 l0 x6_1).f1.f0)) ∧ w'.cell? ⟨(ad102.add ((x6_1).toNat * 7)).block, (ad102.add ((x6_1).toNat * 7)).off + 2, none⟩ = some (.string ((rd_T52 l0 x6_1).f1.f1)) ∧ w'.cell? ⟨(ad102.add ((x6_1).toNat * 7)).block, (ad102.add ((x6_1).toNat * 7)).off + 3, none⟩ = some (.int .i64 ((rd_T52 l0 x6_1).f1.f2)) ∧ w'.cell? ⟨(ad102.add ((x6_1).toNat * 7)).block, (ad102.add ((x6_1).toNat * 7)).off + 4, none⟩ = some (.int .i64 ((rd_T52 l0 x6_1).f1.f3)) ∧ w'.cell? ⟨(ad102.add ((x6_1).toNat * 7)).block, (ad102.add ((x6_1).toNat * 7)).off + 5, none⟩ = some (.slice A102_5 ((rd_T52 l0 x6_1).f1.f4).length c102_5) ∧ w'.cell? ⟨(ad102.add ((x6_1).toNat * 7)).block, (ad102.add ((x6_1).toNat * 7)).off + 6, none⟩ = some (.bool (true))) (ds := []) #[false, false, false, false, false, false, false, false, false, false, false, false, false, false] (by kernel_rfl) rfl rfl ⟨(blk_cell BK101.out 0).trans rfl, (blk_cell BK101.out 1).trans rfl, (blk_cell BK101.out 2).trans rfl, (blk_cell BK101.out 3).trans rfl, (blk_cell BK101.out 4).trans rfl, (blk_cell BK101.out 5).trans rfl, ((HB.out.cell (World.block_lt_of_cell? w _ hw102_0)).trans hw102_0), ((HB.out.cell (World.block_lt_of_cell? w _ hw102_1)).trans hw102_1), ((HB.out.cell (World.block_lt_of_cell? w _ hw102_2)).trans hw102_2), ((HB.out.cell (World.block_lt_of_cell? w _ hw102_3)).trans hw102_3), ((HB.out.cell (World.block_lt_of_cell? w _ hw102_4)).trans hw102_4), ((HB.out.cell (World.block_lt_of_cell? w _ hw102_5)).trans hw102_5), (by have h_ := (HB.out.cell (World.block_lt_of_cell? w _ hw102_6)).trans hw102_6; first | exact h_ | (rw [← Nbq6.out] at h_; exact h_)), ((HB.out.cell (World.block_lt_of_cell? w _ hw103_0)).trans hw103_0), ((HB.out.cell (World.block_lt_of_cell? w _ hw103_1)).trans hw103_1), ((HB.out.cell (World.block_lt_of_cell? w _ hw103_2)).trans hw103_2), ((HB.out.cell (World.block_lt_of_cell? w _ hw103_3)).trans hw103_3), ((HB.out.cell (World.block_lt_of_cell? w _ hw103_4)).trans hw103_4), ((HB.out.cell (World.block_lt_of_cell? w _ hw103_5)).trans hw103_5), (by have h_ := (HB.out.cell (World.block_lt_of_cell? w _ hw103_6)).trans hw103_6; first | exact h_ | (rw [← Nbq6.out] at h_; exact h_))⟩ (fun hHeld => ?_); refine with_tabW hanaperref22_On.tab5 hanaperref22_On.bits5 (fun HT_ HW_ => ?_)
       generalize wr.drew = w14 at HO_5 BK101 HB HR102_5 HR103_5 hx102_0 hx102_1 hx102_2 hx102_3 hx102_4 hx102_5 hx102_6 hx103_0 hx103_1 hx103_2 hx103_3 hx103_4 hx103_5 hx103_6 hHeld ⊢
       refine pure_ (i := 0) (N := some 13) (v := ?_) (a' := ?_) #[true, false, false, false, false, false, false, false, false, false, false, false, false, false] rfl rfl (any_of HT_.out (by kernel_rfl)) (fun _ _ _ h => h) (Or.inl ⟨by rfl, ?_⟩) ?_ ?_
       rotate_left
       ·intro w'
        go_simp
        with_reducible rfl
       rotate_left
       ·simp only [Act.put, List.setIfInBounds_toArray, List.set_cons_zero, List.set_cons_succ, i64_w, i32_w]
        rfl
       refine pure_ (i := 1) (N := some 14) (v := ?_) (a' := ?_) #[true, true, false, false, false, false, false, false, false, false, false, false, false, false] rfl rfl (any_of HT_.out (by kernel_rfl)) (fun _ _ _ h => h) (Or.inl ⟨by rfl, ?_⟩) ?_ ?_
       rotate_left
       ·intro w'
        go_simp
        with_reducible rfl
       rotate_left
       ·simp only [Act.put, List.setIfInBounds_toArray, List.set_cons_zero, List.set_cons_succ, i64_w, i32_w]
        rfl
       refine pure_ (i := 2) (N := some 15) (v := ?_) (a' := ?_) #[true, true, true, false, false, false, false, false, false, false, false, false, false, false] rfl rfl (any_of HT_.out (by kernel_rfl)) (fun _ _ _ h => h) (Or.inl ⟨by rfl, ?_⟩) ?_ ?_
       rotate_left
       ·intro w'
        go_simp
        with_reducible rfl
       rotate_left
       ·simp only [Act.put, List.setIfInBounds_toArray, List.set_cons_zero, List.set_cons_succ, i64_w, i32_w]
        rfl
       refine pure_ (i := 3) (N := some 16) (v := ?_) (a' := ?_) #[true, true, true, true, false, false, false, false, false, false, false, false, false, false] rfl rfl (any_of HT_.out (by kernel_rfl)) (fun _ _ _ h => h) (Or.inl ⟨by rfl, ?_⟩) ?_ ?_
       rotate_left
       ·intro w'
        go_simp
        with_reducible rfl
       rotate_left
       ·simp only [Act.put, List.setIfInBounds_toArray, List.set_cons_zero, List.set_cons_succ, i64_w, i32_w]
        rfl
       refine take_ (i := 4) (N := some 17) (v := ?_) (a' := ?_) #[true, true, true, true, true, false, false, false, false, false, false, false, false, false] rfl rfl (take_ofW HT_.out HW_.out (by kernel_rfl)) (fun _ _ _ h => h) (Or.inl ⟨by rfl, ?_⟩) hHeld ?_ ?_
       rotate_left
       ·rintro w' ⟨s0, s1, s2, s3, s4, s5, s6, s7, s8, s9, s10, s11, s12, s13, s14, s15, s16, s17, s18, s19⟩
        go_simp
        with_reducible rfl
       rotate_left
       ·simp only [Act.put, List.setIfInBounds_toArray, List.set_cons_zero, List.set_cons_succ, i64_w, i32_w]
        rfl
       refine pure_ (i := 5) (N := some 18) (v := ?_) (a' := ?_) #[true, true, true, true, true, true, false, false, false, false, false, false, false, false] rfl rfl (any_of HT_.out (by kernel_rfl)) (fun _ _ _ h => h) (Or.inl ⟨by rfl, ?_⟩) ?_ ?_
       rotate_left
       ·intro w'
        go_simp
        with_reducible rfl
       rotate_left
       ·simp only [Act.put, List.setIfInBounds_toArray, List.set_cons_zero, List.set_cons_succ, i64_w, i32_w]
        rfl
       refine pure_ (i := 6) (N := some 19) (v := ?_) (a' := ?_) #[true, true, true, true, true, true, true, false, false, false, false, false, false, false] rfl rfl (any_of HT_.out (by kernel_rfl)) (fun _ _ _ h => h) (Or.inl ⟨by rfl, ?_⟩) ?_ ?_
       rotate_left
       ·intro w'
        go_simp
        with_reducible rfl
       rotate_left
       ·simp only [Act.put, List.setIfInBounds_toArray, List.set_cons_zero, List.set_cons_succ, i64_w, i32_w]
        rfl
       refine pure_ (i := 7) (N := some 20) (v := ?_) (a' := ?_) #[true, true, true, true, true, true, true, true, false, false, false, false, false, false] rfl rfl (any_of HT_.out (by kernel_rfl)) (fun _ _ _ h => h) (Or.inl ⟨by rfl, ?_⟩) ?_ ?_
       rotate_left
       ·intro w'
        go_simp
        with_reducible rfl
       rotate_left
       ·simp only [Act.put, List.setIfInBounds_toArray, List.set_cons_zero, List.set_cons_succ, i64_w, i32_w]
        rfl
       refine pure_ (i := 8) (N := some 21) (v := ?_) (a' := ?_) #[true, true, true, true, true, true, true, true, true, false, false, false, false, false] rfl rfl (any_of HT_.out (by kernel_rfl)) (fun _ _ _ h => h) (Or.inl ⟨by rfl, ?_⟩) ?_ ?_
       rotate_left
       ·intro w'
        go_simp
        with_reducible rfl
       rotate_left
       ·simp only [Act.put, List.setIfInBounds_toArray, List.set_cons_zero, List.set_cons_succ, i64_w, i32_w]
        rfl
       refine pure_ (i := 9) (N := some 22) (v := ?_) (a' := ?_) #[true, true, true, true, true, true, true, true, true, true, false, false, false, false] rfl rfl (any_of HT_.out (by kernel_rfl)) (fun _ _ _ h => h) (Or.inl ⟨by rfl, ?_⟩) ?_ ?_
       rotate_left
       ·intro w'
        go_simp
        with_reducible rfl
       rotate_left
       ·simp only [Act.put, List.setIfInBounds_toArray, List.set_cons_zero, List.set_cons_succ, i64_w, i32_w]
        rfl
       refine take_ (i := 10) (N := some 23) (v := ?_) (a' := ?_) #[true, true, true, true, true, true, true, true, true, true, true, false, false, false] rfl rfl (take_ofW HT_.out HW_.out (by kernel_rfl)) (fun _ _ _ h => h) (Or.inl ⟨by rfl, ?_⟩) hHeld ?_ ?_
       rotate_left
       ·rintro w' ⟨s0, s1, s2, s3, s4, s5, s6, s7, s8, s9, s10, s11, s12, s13, s14, s15, s16, s17, s18, s19⟩
        go_simp
        with_reducible rfl
       rotate_left
       ·simp only [Act.put, List.setIfInBounds_toArray, List.set_cons_zero, List.set_cons_succ, i64_w, i32_w]
        rfl
       refine take_ (i := 11) (N := some 24) (v := ?_) (a' := ?_) #[true, true, true, true, true, true, true, true, true, true, true, true, false, false] rfl rfl (take_ofW HT_.out HW_.out (by kernel_rfl)) (fun _ _ _ h => h) (Or.inl ⟨by rfl, ?_⟩) hHeld ?_ ?_
       rotate_left
       ·rintro w' ⟨s0, s1, s2, s3, s4, s5, s6, s7, s8, s9, s10, s11, s12, s13, s14, s15, s16, s17, s18, s19⟩
        go_simp
        with_reducible rfl
       rotate_left
       ·simp only [Act.put, List.setIfInBounds_toArray, List.set_cons_zero, List.set_cons_succ, i64_w, i32_w]
        rfl
       refine one_ (i := 12) (N := some 25) #[true, true, true, true, true, true, true, true, true, true, true, true, true, false] rfl rfl (one_of HT_.out (by kernel_rfl)) (by decide) (fun K hK => ?_)
       refine goes_ Try.func30 (by kernel_rfl) rfl #[.agg #[.int .i64 ((rd_T52 l0 x6_1).f1.f0), .string ((rd_T52 l0 x6_1).f1.f1), .int .i64 ((rd_T52 l0 x6_1).f1.f2), .int .i64 ((rd_T52 l0 x6_1).f1.f3), .slice A102_5 ((rd_T52 l0 x6_1).f1.f4).length c102_5], .agg #[.string a1_0, .string a1_1, .string a1_2, .string a1_3, .int .i64 a1_4, .int .i64 a1_5]] (by rfl) rfl rfl (by (try simp only [List.map_toArray, List.map_cons, List.map_nil]); first | done | rfl | (simp only [List.length_drop, List.length_take]; rfl)) ?_
       with_reducible refine (hanaperref20_Match.calls k1 ((rd_T52 l0 x6_1).f1.f0) ((rd_T52 l0 x6_1).f1.f1) ((rd_T52 l0 x6_1).f1.f2) ((rd_T52 l0 x6_1).f1.f3) _ _ ((rd_T52 l0 x6_1).f1.f4) a1_0 a1_1 a1_2 a1_3 a1_4 a1_5 false _ ?side1 ?side2 A8.out).mono ?_
       (case side1 => repeat (first | exact (Kd.C_below HR103_5.out HB.out) | (with_reducible refine Kd.C_alloc ?_ _) | (with_reducible refine Kd.C_drewN ?_ _) | (with_reducible refine Kd.C_drew ?_)))
       (case side2 => exact HC103_5.out)
       rintro e w15 ⟨rfl, hb⟩
       refine ⟨_, rfl, ?_⟩
       have n0_ := Aside0.mk (Kd.R_below (by (with_reducible repeat (first | apply Kd.R_alloc | apply Kd.R_drewN | apply Kd.R_drew)); exact HO_5.out) hb)
       have n1_ := Aside0.mk (blk_below (g := gb101) (o := .cells #[.string a1_0, .string a1_1, .string a1_2, .string a1_3, .int .i64 a1_4, .int .i64 a1_5] 46 (0, 0)) (by (with_reducible repeat (first | refine blk_drewN ?_ _ | refine blk_drew ?_ | refine blk_alloc ?_ _)); exact BK101.out) hb)
       have n2_ := Aside0.mk (below_step (by repeat (first | (with_reducible first | exact HB.out | apply below_alloc | apply pw_below_drewN | apply below_drew1 | refine below_set ?_ GE101.out) | exact HB.out)) hb)
       clear HO_5
       clear BK101
       clear HB
       have HO_5 := n0_
       have BK101 := n1_
       have HB := n2_
       clear n0_ n1_ n2_
       (try clear hb)
       (try clear hb2)
       (try clear hk)
       (try clear hi)
       refine hK.out _ _ ⟨(blk_cell BK101.out 0).trans rfl, (blk_cell BK101.out 1).trans rfl, (blk_cell BK101.out 2).trans rfl, (blk_cell BK101.out 3).trans rfl, (blk_cell BK101.out 4).trans rfl, (blk_cell BK101.out 5).trans rfl, ((HB.out.cell (World.block_lt_of_cell? w _ hw102_0)).trans hw102_0), ((HB.out.cell (World.block_lt_of_cell? w _ hw102_1)).trans hw102_1), ((HB.out.cell (World.block_lt_of_cell? w _ hw102_2)).trans hw102_2), ((HB.out.cell (World.block_lt_of_cell? w _ hw102_3)).trans hw102_3), ((HB.out.cell (World.block_lt_of_cell? w _ hw102_4)).trans hw102_4), ((HB.out.cell (World.block_lt_of_cell? w _ hw102_5)).trans hw102_5), (by have h_ := (HB.out.cell (World.block_lt_of_cell? w _ hw102_6)).trans hw102_6; first | exact h_ | (rw [← Nbq6.out] at h_; exact h_)), ((HB.out.cell (World.block_lt_of_cell? w _ hw103_0)).trans hw103_0), ((HB.out.cell (World.block_lt_of_cell? w _ hw103_1)).trans hw103_1), ((HB.out.cell (World.block_lt_of_cell? w _ hw103_2)).trans hw103_2), ((HB.out.cell (World.block_lt_of_cell? w _ hw103_3)).trans hw103_3), ((HB.out.cell (World.block_lt_of_cell? w _ hw103_4)).trans hw103_4), ((HB.out.cell (World.block_lt_of_cell? w _ hw103_5)).trans hw103_5), (by have h_ := (HB.out.cell (World.block_lt_of_cell? w _ hw103_6)).trans hw103_6; first | exact h_ | (rw [← Nbq6.out] at h_; exact h_))⟩ (fun hHeld => ?_)
       clear hK K
       refine norm_ (a' := ?_) ?_ ?_
       rotate_left
       ·show Act.put _ (some 25) _ = _
        simp only [Act.put, List.setIfInBounds_toArray, List.set_cons_zero, List.set_cons_succ, i64_w, i32_w]
        rfl
       refine pure_ (i := 13) (N := some 26) (v := ?_) (a' := ?_) #[true, true, true, true, true, true, true, true, true, true, true, true, true, true] rfl rfl (any_of HT_.out (by kernel_rfl)) (fun _ _ _ h => h) (Or.inl ⟨by rfl, ?_⟩) ?_ ?_
       rotate_left
       ·intro w'
        go_simp
        with_reducible rfl
       rotate_left
       ·simp only [Act.put, List.setIfInBounds_toArray, List.set_cons_zero, List.set_cons_succ, i64_w, i32_w]
        rfl
       refine done_ (done_of HT_.out (by kernel_rfl)) ?_
       try go_wp2
       go_roundg k1
       case measure => have := HK1.out; omega
       case rel => exact ⟨(x5_1), (wrap64 (x6_1 + 1)), (by first | rfl | (simp; done) | (simp [*]; done)), H', ⟨by have := HK1.out; omega⟩, ⟨by (with_reducible repeat (first | apply Kd.R_alloc | apply Kd.R_drewN | apply Kd.R_drew)); exact HO_5.out⟩, ⟨by (with_reducible repeat (first | refine blk_drewN ?_ _ | refine blk_drew ?_ | refine blk_alloc ?_ _)); exact BK101.out⟩, ⟨by repeat (first | (with_reducible first | exact HB.out | apply below_alloc | apply pw_below_drewN | apply below_drew1 | refine below_set ?_ GE101.out) | exact HB.out)⟩⟩
     ·replace c7 := Bool.eq_false_iff.mpr c7
      subst c7
      have H1 : (hanaperref22_On.l0 k1 l0 x5_1 (wrap64 (x6_1 + 1)) a1_0 a1_1 a1_2 a1_3 a1_4 a1_5) = some r := by rw [if_neg (show ¬ (false = true) by decide)] at H; exact H
      clear H
      have H := H1
      clear H1
      have H' := Aside0.mk H
      clear H
      try go_wp2
      have n0_ := Aside0.mk (Kd.R_drew HO_5.out)
      have n1_ := Aside0.mk (blk_drew BK101.out)
      have n2_ := Aside0.mk (below_drew1 HB.out)
      clear HO_5
      clear BK101
      clear HB
      have HO_5 := n0_
      have BK101 := n1_
      have HB := n2_
      clear n0_ n1_ n2_
      have p102 : 0 ≤ (x6_1 : Int) := of_decide_eq_true (by first | (with_reducible assumption) | assumption)
      have q102 : x6_1 < (l0.length : Int) := of_decide_eq_true (by first | (with_reducible assumption) | assumption)
      obtain ⟨ad102, A102_5, c102_5, e102, hx102_0, hx102_1, hx102_2, hx102_3, hx102_4, hx102_5, hx102_6, hl102_5, hi102_5⟩ := at_T52 HR0.out x6_1 p102 q102
      have hw102_6 := hx102_6
      have hw102_5 := hx102_5
      have hw102_4 := hx102_4
      have hw102_3 := hx102_3
      have hw102_2 := hx102_2
      have hw102_1 := hx102_1
      have hw102_0 := hx102_0
      (try rw [← Nbq6.out] at hx102_6)
      cases e102
      replace hx102_0 := (HB.out.cell (World.block_lt_of_cell? w _ hx102_0)).trans hx102_0
      replace hx102_1 := (HB.out.cell (World.block_lt_of_cell? w _ hx102_1)).trans hx102_1
      replace hx102_2 := (HB.out.cell (World.block_lt_of_cell? w _ hx102_2)).trans hx102_2
      replace hx102_3 := (HB.out.cell (World.block_lt_of_cell? w _ hx102_3)).trans hx102_3
      replace hx102_4 := (HB.out.cell (World.block_lt_of_cell? w _ hx102_4)).trans hx102_4
      replace hx102_5 := (HB.out.cell (World.block_lt_of_cell? w _ hx102_5)).trans hx102_5
      replace hx102_6 := (HB.out.cell (World.block_lt_of_cell? w _ hx102_6)).trans hx102_6
      have HR102_5 := Aside0.mk hi102_5
      have HC102_5 := Aside0.mk hl102_5
      clear hi102_5 hl102_5
      replace p102 := eq_true p102
      replace q102 := eq_true q102
      refine start_ (n := 14) (S := fun w' => w'.cell? (ad102.add ((x6_1).toNat * 7)) = some (.string ((rd_T52 l0 x6_1).f0)) ∧ w'.cell? ⟨(ad102.add ((x6_1).toNat * 7)).block, (ad102.add ((x6_1).toNat * 7)).off + 1, none⟩ = some (.int .i64 ((rd_T52 l0 x6_1).f1.f0)) ∧ w'.cell? ⟨(ad102.add ((x6_1).toNat * 7)).block, (ad102.add ((x6_1).toNat * 7)).off + 2, none⟩ = some (.string ((rd_T52 l0 x6_1).f1.f1)) ∧ w'.cell? ⟨(ad102.add ((x6_1).toNat * 7)).block, (ad102.add ((x6_1).toNat * 7)).off + 3, none⟩ = some (.int .i64 ((rd_T52 l0 x6_1).f1.f2)) ∧ w'.cell? ⟨(ad102.add ((x6_1).toNat * 7)).block, (ad102.add ((x6_1).toNat * 7)).off + 4, none⟩ = some (.int .i64 ((rd_T52 l0 x6_1).f1.f3)) ∧ w'.cell? ⟨(ad102.add ((x6_1).toNat * 7)).block, (ad102.add ((x6_1).toNat * 7)).off + 5, none⟩ = some (.slice A102_5 ((rd_T52 l0 x6_1).f1.f4).length c102_5) ∧ w'.cell? ⟨(ad102.add ((x6_1).toNat * 7)).block, (ad102.add ((x6_1).toNat * 7)).off + 6, none⟩ = some (.bool false)) (ds := []) #[false, false, false, false, false, false, false, false, false, false, false, false, false, false] (by kernel_rfl) rfl rfl ⟨((HB.out.cell (World.block_lt_of_cell? w _ hw102_0)).trans hw102_0), ((HB.out.cell (World.block_lt_of_cell? w _ hw102_1)).trans hw102_1), ((HB.out.cell (World.block_lt_of_cell? w _ hw102_2)).trans hw102_2), ((HB.out.cell (World.block_lt_of_cell? w _ hw102_3)).trans hw102_3), ((HB.out.cell (World.block_lt_of_cell? w _ hw102_4)).trans hw102_4), ((HB.out.cell (World.block_lt_of_cell? w _ hw102_5)).trans hw102_5), (by have h_ := (HB.out.cell (World.block_lt_of_cell? w _ hw102_6)).trans hw102_6; first | exact h_ | (rw [← Nbq6.out] at h_; exact h_))⟩ (fun hHeld => ?_); refine with_tabW hanaperref22_On.tab5 hanaperref22_On.bits5 (fun HT_ HW_ => ?_)
      generalize wr.drew = w16 at HO_5 BK101 HB HR102_5 hx102_0 hx102_1 hx102_2 hx102_3 hx102_4 hx102_5 hx102_6 hHeld ⊢
      refine pure_ (i := 0) (N := some 13) (v := ?_) (a' := ?_) #[true, false, false, false, false, false, false, false, false, false, false, false, false, false] rfl rfl (any_of HT_.out (by kernel_rfl)) (fun _ _ _ h => h) (Or.inl ⟨by rfl, ?_⟩) ?_ ?_
      rotate_left
      ·intro w'
       go_simp
       with_reducible rfl
      rotate_left
      ·simp only [Act.put, List.setIfInBounds_toArray, List.set_cons_zero, List.set_cons_succ, i64_w, i32_w]
       rfl
      refine pure_ (i := 1) (N := some 14) (v := ?_) (a' := ?_) #[true, true, false, false, false, false, false, false, false, false, false, false, false, false] rfl rfl (any_of HT_.out (by kernel_rfl)) (fun _ _ _ h => h) (Or.inl ⟨by rfl, ?_⟩) ?_ ?_
      rotate_left
      ·intro w'
       go_simp
       with_reducible rfl
      rotate_left
      ·simp only [Act.put, List.setIfInBounds_toArray, List.set_cons_zero, List.set_cons_succ, i64_w, i32_w]
       rfl
      refine pure_ (i := 2) (N := some 15) (v := ?_) (a' := ?_) #[true, true, true, false, false, false, false, false, false, false, false, false, false, false] rfl rfl (any_of HT_.out (by kernel_rfl)) (fun _ _ _ h => h) (Or.inl ⟨by rfl, ?_⟩) ?_ ?_
      rotate_left
      ·intro w'
       go_simp
       with_reducible rfl
      rotate_left
      ·simp only [Act.put, List.setIfInBounds_toArray, List.set_cons_zero, List.set_cons_succ, i64_w, i32_w]
       rfl
      refine pure_ (i := 3) (N := some 16) (v := ?_) (a' := ?_) #[true, true, true, true, false, false, false, false, false, false, false, false, false, false] rfl rfl (any_of HT_.out (by kernel_rfl)) (fun _ _ _ h => h) (Or.inl ⟨by rfl, ?_⟩) ?_ ?_
      rotate_left
      ·intro w'
       go_simp
       with_reducible rfl
      rotate_left
      ·simp only [Act.put, List.setIfInBounds_toArray, List.set_cons_zero, List.set_cons_succ, i64_w, i32_w]
       rfl
      refine take_ (i := 4) (N := some 17) (v := ?_) (a' := ?_) #[true, true, true, true, true, false, false, false, false, false, false, false, false, false] rfl rfl (take_ofW HT_.out HW_.out (by kernel_rfl)) (fun _ _ _ h => h) (Or.inl ⟨by rfl, ?_⟩) hHeld ?_ ?_
      rotate_left
      ·rintro w' ⟨s0, s1, s2, s3, s4, s5, s6⟩
       go_simp
       with_reducible rfl
      rotate_left
      ·simp only [Act.put, List.setIfInBounds_toArray, List.set_cons_zero, List.set_cons_succ, i64_w, i32_w]
       rfl
      refine pure_ (i := 5) (N := some 18) (v := ?_) (a' := ?_) #[true, true, true, true, true, true, false, false, false, false, false, false, false, false] rfl rfl (any_of HT_.out (by kernel_rfl)) (fun _ _ _ h => h) (Or.inl ⟨by rfl, ?_⟩) ?_ ?_
      rotate_left
      ·intro w'
       go_simp
       with_reducible rfl
      rotate_left
      ·simp only [Act.put, List.setIfInBounds_toArray, List.set_cons_zero, List.set_cons_succ, i64_w, i32_w]
       rfl
      refine pure_ (i := 6) (N := some 19) (v := undef) (a' := ?_) #[true, true, true, true, true, true, true, false, false, false, false, false, false, false] rfl rfl (any_of HT_.out (by kernel_rfl)) (fun _ _ _ h => h) (Or.inr ⟨by rfl, rfl⟩) ?_ ?_
      rotate_left
      ·simp only [Act.put, List.setIfInBounds_toArray, List.set_cons_zero, List.set_cons_succ, i64_w, i32_w]
       rfl
      refine pure_ (i := 7) (N := some 20) (v := undef) (a' := ?_) #[true, true, true, true, true, true, true, true, false, false, false, false, false, false] rfl rfl (any_of HT_.out (by kernel_rfl)) (fun _ _ _ h => h) (Or.inr ⟨by rfl, rfl⟩) ?_ ?_
      rotate_left
      ·simp only [Act.put, List.setIfInBounds_toArray, List.set_cons_zero, List.set_cons_succ, i64_w, i32_w]
       rfl
      refine pure_ (i := 8) (N := some 21) (v := undef) (a' := ?_) #[true, true, true, true, true, true, true, true, true, false, false, false, false, false] rfl rfl (any_of HT_.out (by kernel_rfl)) (fun _ _ _ h => h) (Or.inr ⟨by rfl, rfl⟩) ?_ ?_
      rotate_left
      ·simp only [Act.put, List.setIfInBounds_toArray, List.set_cons_zero, List.set_cons_succ, i64_w, i32_w]
       rfl
      refine pure_ (i := 9) (N := some 22) (v := undef) (a' := ?_) #[true, true, true, true, true, true, true, true, true, true, false, false, false, false] rfl rfl (any_of HT_.out (by kernel_rfl)) (fun _ _ _ h => h) (Or.inr ⟨by rfl, rfl⟩) ?_ ?_
      rotate_left
      ·simp only [Act.put, List.setIfInBounds_toArray, List.set_cons_zero, List.set_cons_succ, i64_w, i32_w]
       rfl
      refine pure_ (i := 10) (N := some 23) (v := undef) (a' := ?_) #[true, true, true, true, true, true, true, true, true, true, true, false, false, false] rfl rfl (any_of HT_.out (by kernel_rfl)) (fun _ _ _ h => h) (Or.inr ⟨by rfl, rfl⟩) ?_ ?_
      rotate_left
      ·simp only [Act.put, List.setIfInBounds_toArray, List.set_cons_zero, List.set_cons_succ, i64_w, i32_w]
       rfl
      refine pure_ (i := 11) (N := some 24) (v := undef) (a' := ?_) #[true, true, true, true, true, true, true, true, true, true, true, true, false, false] rfl rfl (any_of HT_.out (by kernel_rfl)) (fun _ _ _ h => h) (Or.inr ⟨by rfl, rfl⟩) ?_ ?_
      rotate_left
      ·simp only [Act.put, List.setIfInBounds_toArray, List.set_cons_zero, List.set_cons_succ, i64_w, i32_w]
       rfl
      refine pure_ (i := 12) (N := some 25) (v := undef) (a' := ?_) #[true, true, true, true, true, true, true, true, true, true, true, true, true, false] rfl rfl (any_of HT_.out (by kernel_rfl)) (fun _ _ _ h => h) (Or.inr ⟨by rfl, rfl⟩) ?_ ?_
      rotate_left
      ·simp only [Act.put, List.setIfInBounds_toArray, List.set_cons_zero, List.set_cons_succ, i64_w, i32_w]
       rfl
      refine pure_ (i := 13) (N := some 26) (v := ?_) (a' := ?_) #[true, true, true, true, true, true, true, true, true, true, true, true, true, true] rfl rfl (any_of HT_.out (by kernel_rfl)) (fun _ _ _ h => h) (Or.inl ⟨by rfl, ?_⟩) ?_ ?_
      rotate_left
      ·intro w'
       go_simp
       with_reducible rfl
      rotate_left
      ·simp only [Act.put, List.setIfInBounds_toArray, List.set_cons_zero, List.set_cons_succ, i64_w, i32_w]
       rfl
      refine done_ (done_of HT_.out (by kernel_rfl)) ?_
      try go_wp2
      go_roundg k1
      case measure => have := HK1.out; omega
      case rel => exact ⟨(x5_1), (wrap64 (x6_1 + 1)), (by first | rfl | (simp; done) | (simp [*]; done)), H', ⟨by have := HK1.out; omega⟩, ⟨by (with_reducible repeat (first | apply Kd.R_alloc | apply Kd.R_drewN | apply Kd.R_drew)); exact HO_5.out⟩, ⟨by (with_reducible repeat (first | refine blk_drewN ?_ _ | refine blk_drew ?_ | refine blk_alloc ?_ _)); exact BK101.out⟩, ⟨by repeat (first | (with_reducible first | exact HB.out | apply below_alloc | apply pw_below_drewN | apply below_drew1 | refine below_set ?_ GE101.out) | exact HB.out)⟩⟩
    ·rw [if_neg c5] at H
     exact absurd H (by simp)
   ·rw [if_neg c4] at H
    have c4b0 : decide (x6_1 < (l0.length : Int)) = false := decide_eq_false c4
    clear c4
    obtain rfl := Option.some.inj H
    go_wp2
    go_ret
    exact ⟨_, by first | rfl | (simp [errW_none, errW_some] <;> rfl) | (simp [*, errW_none, errW_some] <;> rfl), by (with_reducible repeat (first | apply Kd.R_alloc | apply Kd.R_drewN | apply Kd.R_drew)); exact HO_5.out, by repeat (first | (with_reducible first | exact HB.out | apply below_alloc | apply pw_below_drewN | apply below_drew1 | refine below_set ?_ GE101.out) | exact HB.out)⟩

end Go.Proofs.Ytgdpabedlghiaaa.PZ
-- printed for this claim by a program (pall.sh)
-- mended by fixpz.py
namespace Go.Proofs.Ytgdpabedlghiaaa.PZ
open Go.RowKit Go.Proofs.YtgdpabedlghiaaaW.PrintWords Go.Proofs.YtgdpabedlghiaaaW.PrintLast Go.Proofs.YtgdpabedlghiaaaW.PrintMore
attribute [local go_sem] max2_int min2_int max_two min_two max_three min_three max_four min_four   -- for this text's walks alone
set_option linter.unusedVariables false
set_option linter.unusedSimpArgs false

/-! ### hanaperref01_SameNames: function 48 -/
def hanaperref01_SameNames.l0 : Nat → List ByteArray → List ByteArray → Int → Option (Bool)
 | 0, _, _, _ => none
 | k + 1, x0, x1, x5 => if x5 < (x0.length : Int) then (if 0 ≤ x5 then (if x5 < (x1.length : Int) then (if (rdOf ByteArray.empty x0 x5).toList = (rdOf ByteArray.empty x1 x5).toList then (hanaperref01_SameNames.l0 k x0 x1 (wrap64 (x5 + 1))) else (some false)) else (none)) else (none)) else (some true)
def hanaperref01_SameNames.f (k : Nat) (l0 : List ByteArray) (l1 : List ByteArray) : Option (Bool) := if (l0.length : Int) = (l1.length : Int) then (hanaperref01_SameNames.l0 k l0 l1 0) else (some false)
set_option maxHeartbeats 8000000 in
set_option maxRecDepth 100000 in
theorem hanaperref01_SameNames.calls (k : Nat) (A0 : Option Addr) (c0 : Nat) (l0 : List ByteArray) (A1 : Option Addr) (c1 : Nat) (l1 : List ByteArray) (r : Bool) (w : World) (hr0 : Kd.C Kd.string w A0 l0.length l0) (hc0 : l0.length ≤ c0) (hr1 : Kd.C Kd.string w A1 l1.length l1) (hc1 : l1.length ≤ c1) (h : hanaperref01_SameNames.f k l0 l1 = some r) :
  Calls Try.prog 48 #[.slice A0 l0.length c0, .slice A1 l1.length c1] w fun e w' => e = .returned (.bool r) ∧ Drawn0 w w' := by
 have HR0 := Aside0.mk hr0
 have HC0 := Aside0.mk hc0
 clear hr0 hc0
 have HR1 := Aside0.mk hr1
 have HC1 := Aside0.mk hc1
 clear hr1 hc1
 have H : (if (l0.length : Int) = (l1.length : Int) then (hanaperref01_SameNames.l0 k l0 l1 0) else (some false)) = some r := h
 clear h
 by_cases c3 : (l0.length : Int) = (l1.length : Int)
 ·rw [if_pos c3] at H
  have c3b0 : ((l0.length : Int) == (l1.length : Int)) = true := beq_iff_eq.mpr c3
  have c3b1 : ((l0.length : Int) != (l1.length : Int)) = false := bne_eq_false_iff_eq.mpr c3
  have c3b2 : (l0.length == l1.length) = true := by first | simpa using c3 | (simp at c3 ⊢; omega)
  clear c3
  have H' := Aside0.mk H
  clear H
  go_enter Try.func48, Try.ntmps48
  go_wp2
  repeat (go_quiet (fail); try go_wp2)
  go_loopg [5] k (fun kq v5 w' => ∃ (x5_1 : Int), v5 = .int .i64 x5_1 ∧ Aside0 (hanaperref01_SameNames.l0 kq l0 l1 x5_1 = some r) ∧ Aside0 (kq ≤ k) ∧ Drawn0 w w')
  case atStart => exact ⟨(0), (by first | rfl | (simp; done) | (simp [*]; done)), H', ⟨Nat.le_refl _⟩, by repeat (first | exact Drawn0.refl _ | apply Drawn0.step)⟩
  case round =>
   clear H'
   (try clear c1);(try clear p2);(try clear c3);(try clear c3b0);(try clear c3b1);(try clear c3b2)
   obtain ⟨x5_1, rfl, HA, HK1, ⟨m1, rfl⟩⟩ := hrel
   cases gk with
   | zero => exact absurd HA.out (by simp [hanaperref01_SameNames.l0])
   | succ k1 =>
    have H := HA.out
    clear HA
    simp only [hanaperref01_SameNames.l0] at H
    by_cases c4 : x5_1 < (l0.length : Int)
    ·rw [if_pos c4] at H
     have c4b0 : decide (x5_1 < (l0.length : Int)) = true := decide_eq_true c4
     clear c4
     by_cases c5 : 0 ≤ x5_1
     ·rw [if_pos c5] at H
      have c5b0 : decide (0 ≤ x5_1) = true := decide_eq_true c5
      clear c5
      by_cases c6 : x5_1 < (l1.length : Int)
      ·rw [if_pos c6] at H
       have c6b0 : decide (x5_1 < (l1.length : Int)) = true := decide_eq_true c6
       clear c6
       by_cases c7 : (rdOf ByteArray.empty l0 x5_1).toList = (rdOf ByteArray.empty l1 x5_1).toList
       ·rw [if_pos c7] at H
        have c7b0 : ((rdOf ByteArray.empty l0 x5_1).toList == (rdOf ByteArray.empty l1 x5_1).toList) = true := beq_iff_eq.mpr c7
        have c7b1 : ((rdOf ByteArray.empty l0 x5_1).toList != (rdOf ByteArray.empty l1 x5_1).toList) = false := bne_eq_false_iff_eq.mpr c7
        clear c7
        have H' := Aside0.mk H
        clear H
        have p101 : 0 ≤ (x5_1 : Int) := of_decide_eq_true (by first | (with_reducible assumption) | assumption)
        have q101 : x5_1 < (l0.length : Int) := of_decide_eq_true (by first | (with_reducible assumption) | assumption)
        obtain ⟨ad101, e101, hx101_0⟩ := Kd.at_string HR0.out x5_1 p101 q101
        cases e101
        replace p101 := eq_true p101
        replace q101 := eq_true q101
        have p102 : 0 ≤ (x5_1 : Int) := of_decide_eq_true (by first | (with_reducible assumption) | assumption)
        have q102 : x5_1 < (l1.length : Int) := of_decide_eq_true (by first | (with_reducible assumption) | assumption)
        obtain ⟨ad102, e102, hx102_0⟩ := Kd.at_string HR1.out x5_1 p102 q102
        cases e102
        replace p102 := eq_true p102
        replace q102 := eq_true q102
        go_wp2
        repeat (go_quiet (fail); try go_wp2)
        go_roundg k1
        case measure => have := HK1.out; omega
        case rel => exact ⟨(wrap64 (x5_1 + 1)), (by first | rfl | (simp; done) | (simp [*]; done)), H', ⟨by have := HK1.out; omega⟩, by repeat (first | exact Drawn0.refl _ | apply Drawn0.step)⟩
       ·rw [if_neg c7] at H
        have c7b0 : ((rdOf ByteArray.empty l0 x5_1).toList == (rdOf ByteArray.empty l1 x5_1).toList) = false := beq_eq_false_iff_ne.mpr c7
        have c7b1 : ((rdOf ByteArray.empty l0 x5_1).toList != (rdOf ByteArray.empty l1 x5_1).toList) = true := bne_iff_ne.mpr c7
        obtain rfl := Option.some.inj H
        have p101 : 0 ≤ (x5_1 : Int) := of_decide_eq_true (by first | (with_reducible assumption) | assumption)
        have q101 : x5_1 < (l0.length : Int) := of_decide_eq_true (by first | (with_reducible assumption) | assumption)
        obtain ⟨ad101, e101, hx101_0⟩ := Kd.at_string HR0.out x5_1 p101 q101
        cases e101
        replace p101 := eq_true p101
        replace q101 := eq_true q101
        have p102 : 0 ≤ (x5_1 : Int) := of_decide_eq_true (by first | (with_reducible assumption) | assumption)
        have q102 : x5_1 < (l1.length : Int) := of_decide_eq_true (by first | (with_reducible assumption) | assumption)
        obtain ⟨ad102, e102, hx102_0⟩ := Kd.at_string HR1.out x5_1 p102 q102
        cases e102
        replace p102 := eq_true p102
        replace q102 := eq_true q102
        go_wp2
        repeat (go_quiet (fail); try go_wp2)
        go_ret
        exact ⟨by first | rfl | (simp; done) | (simp [*]; done), by repeat (first | exact Drawn0.refl _ | apply Drawn0.step)⟩
      ·rw [if_neg c6] at H
       exact absurd H (by simp)
     ·rw [if_neg c5] at H
      exact absurd H (by simp)
    ·rw [if_neg c4] at H
     have c4b0 : decide (x5_1 < (l0.length : Int)) = false := decide_eq_false c4
     clear c4
     obtain rfl := Option.some.inj H
     go_wp2
     repeat (go_quiet (fail); try go_wp2)
     go_ret
     exact ⟨by first | rfl | (simp; done) | (simp [*]; done), by repeat (first | exact Drawn0.refl _ | apply Drawn0.step)⟩
 ·rw [if_neg c3] at H
  have c3b0 : ((l0.length : Int) == (l1.length : Int)) = false := beq_eq_false_iff_ne.mpr c3
  have c3b1 : ((l0.length : Int) != (l1.length : Int)) = true := bne_iff_ne.mpr c3
  have c3b2 : (l0.length == l1.length) = false := by first | simpa using c3 | (simp at c3 ⊢; omega)
  obtain rfl := Option.some.inj H
  go_enter Try.func48, Try.ntmps48
  go_wp2
  repeat (go_quiet (fail); try go_wp2)
  go_ret
  exact ⟨by first | rfl | (simp; done) | (simp [*]; done), by repeat (first | exact Drawn0.refl _ | apply Drawn0.step)⟩

end Go.Proofs.Ytgdpabedlghiaaa.PZ
/- What hold.On, the document's On and SameNames compute. -/
namespace Go.Proofs.Ytgdpabedlghiaaa.Scope
set_option linter.unusedVariables false
set_option linter.unusedSimpArgs false
open Go.RowKit Go.Proofs.YtgdpabedlghiaaaW.PrintWords Go.Proofs.YtgdpabedlghiaaaW.PrintLast Go.Proofs.YtgdpabedlghiaaaW.PrintMore Go.Proofs.Ytgdpabedlghiaaa.PZ Go.Proofs.Ytgdpabedlghiaaa.Aid
def onB (q1 q2 q3 : ByteArray) (t : Int) (l : List S52) : List ByteArray := (l.filter (holdsB q1 q2 q3 t)).map (fun h => h.f0)
theorem onB_len (q1 q2 q3 : ByteArray) (t : Int) (l : List S52) : (onB q1 q2 q3 t l).length ≤ l.length := by
  unfold onB
  rw [List.length_map]
  exact List.length_filter_le _ _
theorem onB_any (q1 q2 q3 : ByteArray) (t : Int) (l : List S52) : decide (((onB q1 q2 q3 t l).length : Int) > 0) = l.any (holdsB q1 q2 q3 t) := by
  unfold onB
  rw [List.length_map]
  induction l with
  | nil => rfl
  | cons h l ih =>
    rw [List.any_cons, List.filter_cons]
    cases hb : holdsB q1 q2 q3 t h with
    | true =>
      rw [if_pos rfl, Bool.true_or]
      exact decide_eq_true (by rw [List.length_cons]; omega)
    | false =>
      rw [if_neg Bool.false_ne_true, Bool.false_or]
      exact ih
theorem rdH_at (l : List S52) (i : Nat) (h : i < l.length) : rd_T52 l (i : Int) = l[i] := by simp [rd_T52, List.getD_eq_getElem?_getD, List.getElem?_eq_getElem h]
theorem hdrop (l : List S52) (i : Nat) (h : i < l.length) : l.drop i = l[i] :: l.drop (i + 1) := List.drop_eq_getElem_cons h
theorem on_ev (q0 q1 q2 q3 : ByteArray) (t u : Int) (l : List S52) (hl : l.length ≤ 1000) : Ev (fun k => hold_On.f k l q0 q1 q2 q3 t u) (onB q1 q2 q3 t l) := by
  have loop : ∀ (n i : Nat) (acc : List ByteArray), i + n = l.length → acc.length ≤ i → Ev (fun k => hold_On.l0 k acc l (l.length : Int) (i : Int) q0 q1 q2 q3 t u) (acc ++ onB q1 q2 q3 t (l.drop i)) := by
    intro n
    induction n with
    | zero =>
      intro i acc hi ha
      rw [List.drop_of_length_le (by omega)]
      exact Ev.step (fun k => by simp only [hold_On.l0]; rfl) (neg (by omega) (now (by simp [onB])))
    | succ n ih =>
      intro i acc hi ha
      have hlt : i < l.length := by omega
      refine Ev.step (fun k => by simp only [hold_On.l0]; rfl) (pos (by omega) (pos (by omega) (pos (by omega) ?_)))
      rw [rdH_at l i hlt]
      refine bindSome (holds_v l[i] q0 q1 q2 q3 t u) ?_
      have ho : onB q1 q2 q3 t (l.drop i) = (if holdsB q1 q2 q3 t l[i] = true then [l[i].f0] else []) ++ onB q1 q2 q3 t (l.drop (i + 1)) := by
        rw [hdrop l i hlt]
        unfold onB
        rw [List.filter_cons]
        cases holdsB q1 q2 q3 t l[i] <;> simp
      rw [ho]
      cases hb : holdsB q1 q2 q3 t l[i] with
      | true =>
        refine pos rfl (pos (by omega) ?_)
        rw [inc hlt (by omega), if_pos rfl, ← List.append_assoc]
        exact ih (i + 1) (acc ++ [l[i].f0]) (by omega) (by rw [List.length_append, List.length_singleton]; omega)
      | false =>
        refine neg Bool.false_ne_true ?_
        rw [inc hlt (by omega), if_neg Bool.false_ne_true, List.nil_append]
        exact ih (i + 1) acc (by omega) (by omega)
  exact loop l.length 0 [] (by omega) (by simp)
theorem ron_ev (q0 q1 q2 q3 : ByteArray) (t u : Int) (l : List S52) (hl : l.length ≤ 1000) (hn : ∀ h ∈ l, nodes h.f1 ≤ 60) : Ev (fun k => hanaperref22_On.f k l q0 q1 q2 q3 t u) (onB q1 q2 q3 t l) := by
  have loop : ∀ (n i : Nat) (acc : List ByteArray), i + n = l.length → acc.length ≤ i → Ev (fun k => hanaperref22_On.l0 k l acc (i : Int) q0 q1 q2 q3 t u) (acc ++ onB q1 q2 q3 t (l.drop i)) := by
    intro n
    induction n with
    | zero =>
      intro i acc hi ha
      rw [List.drop_of_length_le (by omega)]
      exact Ev.step (fun k => by simp only [hanaperref22_On.l0]; rfl) (neg (by omega) (now (by simp [onB])))
    | succ n ih =>
      intro i acc hi ha
      have hlt : i < l.length := by omega
      refine Ev.step (fun k => by simp only [hanaperref22_On.l0]; rfl) (pos (by omega) (pos (by omega) ?_))
      rw [rdH_at l i hlt]
      have ho : onB q1 q2 q3 t (l.drop i) = (if holdsB q1 q2 q3 t l[i] = true then [l[i].f0] else []) ++ onB q1 q2 q3 t (l.drop (i + 1)) := by
        rw [hdrop l i hlt]
        unfold onB
        rw [List.filter_cons]
        cases holdsB q1 q2 q3 t l[i] <;> simp
      rw [ho]
      have hs : holdsB q1 q2 q3 t l[i] = (l[i].f2 && matchB q1 q2 q3 t l[i].f1) := rfl
      have skip : holdsB q1 q2 q3 t l[i] = false → Ev (fun k => hanaperref22_On.l0 k l acc (wrap64 ((i : Int) + 1)) q0 q1 q2 q3 t u) (acc ++ ((if holdsB q1 q2 q3 t l[i] = true then [l[i].f0] else []) ++ onB q1 q2 q3 t (l.drop (i + 1)))) := fun hb => by
        rw [hb, inc hlt (by omega), if_neg Bool.false_ne_true, List.nil_append]
        exact ih (i + 1) acc (by omega) (by omega)
      cases hf : l[i].f2 with
      | false => exact neg Bool.false_ne_true (skip (by rw [hs, hf]; rfl))
      | true =>
        refine pos rfl (evBind (rmatch_ev q0 q1 q2 q3 t u _ l[i].f1 (Nat.lt_succ_self _) (hn _ (List.getElem_mem hlt))) ?_)
        cases hb : matchB q1 q2 q3 t l[i].f1 with
        | true =>
          refine pos rfl (pos (by omega) ?_)
          rw [inc hlt (by omega), show holdsB q1 q2 q3 t l[i] = true from by rw [hs, hf, hb]; rfl, if_pos rfl, ← List.append_assoc]
          exact ih (i + 1) (acc ++ [l[i].f0]) (by omega) (by rw [List.length_append, List.length_singleton]; omega)
        | false => exact neg Bool.false_ne_true (skip (by rw [hs, hf, hb]; rfl))
  exact loop l.length 0 [] (by omega) (by simp)
theorem names_ev (l : List ByteArray) (hl : l.length ≤ 1000) : Ev (fun k => hanaperref01_SameNames.f k l l) true := by
  unfold hanaperref01_SameNames.f
  have loop : ∀ (n i : Nat), i + n = l.length → Ev (fun k => hanaperref01_SameNames.l0 k l l (i : Int)) true := by
    intro n
    induction n with
    | zero => intro i hi; exact Ev.step (fun k => by simp only [hanaperref01_SameNames.l0]; rfl) (neg (by omega) (now rfl))
    | succ n ih =>
      intro i hi
      have hlt : i < l.length := by omega
      refine Ev.step (fun k => by simp only [hanaperref01_SameNames.l0]; rfl) (pos (by omega) (pos (by omega) (pos (by omega) (pos (Eq.refl (rdOf ByteArray.empty l (i : Int)).toList) ?_))))
      rw [inc hlt (by omega)]
      exact ih (i + 1) (by omega)
  exact pos rfl (loop l.length 0 (by omega))
abbrev Ns (w : World) (A : Option Addr) (l : List ByteArray) : Prop := Kd.C Kd.string w A l.length l
theorem on_c (q0 q1 q2 q3 : ByteArray) (t u : Int) (l : List S52) (A : Option Addr) (c : Nat) (w : World) (hr : Kd.C k52 w A l.length l) (hc : l.length ≤ c) (hl : l.length ≤ 1000) :
    Calls Try.prog 49 #[.slice A l.length c, .agg #[.string q0, .string q1, .string q2, .string q3, .int .i64 t, .int .i64 u]] w fun e w' => ∃ D m, e = .returned (.slice D (onB q1 q2 q3 t l).length m) ∧ (onB q1 q2 q3 t l).length ≤ m ∧ Ns w' D (onB q1 q2 q3 t l) ∧ Below w.heap.size w w' := by
  obtain ⟨k, hk⟩ := (on_ev q0 q1 q2 q3 t u l hl).rounds
  refine (hold_On.calls k A c l q0 q1 q2 q3 t u _ w hr hc hk).mono ?_
  rintro e w' ⟨v, rfl, ho, hb⟩
  obtain ⟨D, m, rfl, h1, h2⟩ := Kd.R_reads ho
  exact ⟨D, m, rfl, h1, h2, hb⟩
theorem ron_c (q0 q1 q2 q3 : ByteArray) (t u : Int) (l : List S52) (A : Option Addr) (c : Nat) (w : World) (hr : Kd.C k52 w A l.length l) (hc : l.length ≤ c) (hl : l.length ≤ 1000) (hn : ∀ h ∈ l, nodes h.f1 ≤ 60) :
    Calls Try.prog 47 #[.slice A l.length c, .agg #[.string q0, .string q1, .string q2, .string q3, .int .i64 t, .int .i64 u]] w fun e w' => ∃ D m, e = .returned (.slice D (onB q1 q2 q3 t l).length m) ∧ (onB q1 q2 q3 t l).length ≤ m ∧ Ns w' D (onB q1 q2 q3 t l) ∧ Below w.heap.size w w' := by
  obtain ⟨k, hk⟩ := (ron_ev q0 q1 q2 q3 t u l hl hn).rounds
  refine (hanaperref22_On.calls k A c l q0 q1 q2 q3 t u _ w hr hc hk).mono ?_
  rintro e w' ⟨v, rfl, ho, hb⟩
  obtain ⟨D, m, rfl, h1, h2⟩ := Kd.R_reads ho
  exact ⟨D, m, rfl, h1, h2, hb⟩
theorem names_c (l : List ByteArray) (hl : l.length ≤ 1000) (A B : Option Addr) (c d : Nat) (w : World) (h1 : Ns w A l) (h2 : l.length ≤ c) (h3 : Ns w B l) (h4 : l.length ≤ d) :
    Calls Try.prog 48 #[.slice A l.length c, .slice B l.length d] w fun e w' => e = .returned (.bool true) ∧ Below w.heap.size w w' := by
  obtain ⟨k, hk⟩ := (names_ev l hl).rounds
  refine (hanaperref01_SameNames.calls k A c l B d l _ w h1 h2 h3 h4 hk).mono ?_
  rintro e w' ⟨rfl, hd⟩
  exact ⟨rfl, drawn_below hd⟩
end Go.Proofs.Ytgdpabedlghiaaa.Scope
/- HoldFrees: the law's walk (printed by gen_frees.py). -/
namespace Go.Proofs.Ytgdpabedlghiaaa.Scope
set_option linter.unusedVariables false
set_option linter.unusedSimpArgs false
open Go.RowKit Go.Proofs.YtgdpabedlghiaaaW.PrintWords Go.Proofs.YtgdpabedlghiaaaW.PrintLast Go.Proofs.YtgdpabedlghiaaaW.PrintMore Go.Proofs.Ytgdpabedlghiaaa.PZ Go.Proofs.Ytgdpabedlghiaaa.Aid
end Go.Proofs.Ytgdpabedlghiaaa.Scope
/- The law HoldOn (printed by gen_hon.py). -/
namespace Go.Proofs.Ytgdpabedlghiaaa.Scope
set_option linter.unusedVariables false
set_option linter.unusedSimpArgs false
open Go.RowKit Go.Proofs.YtgdpabedlghiaaaW.PrintWords Go.Proofs.YtgdpabedlghiaaaW.PrintLast Go.Proofs.YtgdpabedlghiaaaW.PrintMore Go.Proofs.Ytgdpabedlghiaaa.PZ Go.Proofs.Ytgdpabedlghiaaa.Aid
set_option maxHeartbeats 16000000 in
set_option maxRecDepth 100000 in
theorem on_walk (w : World) (l : List S52) (A : Option Addr) (c : Nat) (hr : Kd.C k52 w A l.length l) (hc : l.length ≤ c) (id q0 q1 q2 q3 : ByteArray) (t u : Int) :
    Calls Try.prog 11 #[.slice A l.length c, .agg #[.string q0, .string q1, .string q2, .string q3, .int .i64 t, .int .i64 u], .string id] w fun e w' => e = .returned (.bool true) ∧ Below w.heap.size w w' := by
  obtain ⟨b, hsm, hsl⟩ := hsmall_c l
  have HSM := Aside0.mk (fun W hh => hsm A c W hh hc)
  have HL := Aside0.mk hr
  have HC := Aside0.mk hc
  have H0 := Aside0.mk (show Blk (w.alloc (.cells #[.string q0, .string q1, .string q2, .string q3, .int .i64 t, .int .i64 u] 46)) w.heap.size 46 #[.string q0, .string q1, .string q2, .string q3, .int .i64 t, .int .i64 u] from blk_new _ _)
  have HB := Aside0.mk (show Below w.heap.size w (w.alloc (.cells #[.string q0, .string q1, .string q2, .string q3, .int .i64 t, .int .i64 u] 46)) from below_alloc (Below.refl _ _) _)
  have hu52 := Try.underlying52
  have hu50 := Try.underlying50
  have hu40 := Try.underlying40
  have hu46 := Try.underlying46
  have e0 := H0.out.cell 0
  have e1 := H0.out.cell 1
  have e2 := H0.out.cell 2
  have e3 := H0.out.cell 3
  have e4 := H0.out.cell 4
  have e5 := H0.out.cell 5
  simp only [List.getElem?_toArray, List.getElem?_cons_zero, List.getElem?_cons_succ] at e0 e1 e2 e3 e4 e5
  clear hsm hr hc
  cases b with
  | false =>
    clear hsl
    go_enter Try.func11, Try.ntmps11
    go_wp2_with (fail)
    refine (HSM.out _ (Kd.C_below HL.out HB.out)).mono ?_
    rintro e wx ⟨rfl, hb⟩
    have H0n := Aside0.mk (H0.out.below hb)
    have HBn := Aside0.mk (below_step HB.out hb)
    clear H0 HB e0 e1 e2 e3 e4 e5
    have H0 := H0n
    have HB := HBn
    clear H0n HBn
    have e0 := H0.out.cell 0
    have e1 := H0.out.cell 1
    have e2 := H0.out.cell 2
    have e3 := H0.out.cell 3
    have e4 := H0.out.cell 4
    have e5 := H0.out.cell 5
    simp only [List.getElem?_toArray, List.getElem?_cons_zero, List.getElem?_cons_succ] at e0 e1 e2 e3 e4 e5
    clear hb
    go_wp2_with (fail)
    refine (live22_c _).mono ?_
    rintro e wx ⟨rfl, hb⟩
    have H0n := Aside0.mk (H0.out.below hb)
    have HBn := Aside0.mk (below_step HB.out hb)
    clear H0 HB e0 e1 e2 e3 e4 e5
    have H0 := H0n
    have HB := HBn
    clear H0n HBn
    have e0 := H0.out.cell 0
    have e1 := H0.out.cell 1
    have e2 := H0.out.cell 2
    have e3 := H0.out.cell 3
    have e4 := H0.out.cell 4
    have e5 := H0.out.cell 5
    simp only [List.getElem?_toArray, List.getElem?_cons_zero, List.getElem?_cons_succ] at e0 e1 e2 e3 e4 e5
    clear hb
    go_wp2_with (fail)
    go_ret
    exact ⟨rfl, HB.out⟩
  | true =>
  obtain ⟨hl30, hlx⟩ := hsl rfl
  clear hsl
  by_cases c2 : (id.size : Int) > 100
  · have z2 : decide (100 < (id.size : Int)) = true := decide_eq_true c2
    have z3 : (100 < id.size) = True := eq_true (by omega)
    clear hlx hl30
    go_enter Try.func11, Try.ntmps11
    go_wp2_with (fail)
    refine (HSM.out _ (Kd.C_below HL.out HB.out)).mono ?_
    rintro e wx ⟨rfl, hb⟩
    have H0n := Aside0.mk (H0.out.below hb)
    have HBn := Aside0.mk (below_step HB.out hb)
    clear H0 HB e0 e1 e2 e3 e4 e5
    have H0 := H0n
    have HB := HBn
    clear H0n HBn
    have e0 := H0.out.cell 0
    have e1 := H0.out.cell 1
    have e2 := H0.out.cell 2
    have e3 := H0.out.cell 3
    have e4 := H0.out.cell 4
    have e5 := H0.out.cell 5
    simp only [List.getElem?_toArray, List.getElem?_cons_zero, List.getElem?_cons_succ] at e0 e1 e2 e3 e4 e5
    clear hb
    go_wp2_with (fail)
    refine (live22_c _).mono ?_
    rintro e wx ⟨rfl, hb⟩
    have H0n := Aside0.mk (H0.out.below hb)
    have HBn := Aside0.mk (below_step HB.out hb)
    clear H0 HB e0 e1 e2 e3 e4 e5
    have H0 := H0n
    have HB := HBn
    clear H0n HBn
    have e0 := H0.out.cell 0
    have e1 := H0.out.cell 1
    have e2 := H0.out.cell 2
    have e3 := H0.out.cell 3
    have e4 := H0.out.cell 4
    have e5 := H0.out.cell 5
    simp only [List.getElem?_toArray, List.getElem?_cons_zero, List.getElem?_cons_succ] at e0 e1 e2 e3 e4 e5
    clear hb
    go_wp2_with (fail)
    go_ret
    exact ⟨rfl, HB.out⟩
  have z2 : decide (100 < (id.size : Int)) = false := decide_eq_false c2
  have z3 : (100 < id.size) = False := eq_false (by omega)
  have HLN := Aside0.mk hl30
  have HNX := Aside0.mk (fun h hh => (hlx h hh).2.2 : ∀ h ∈ l, nodes h.f1 ≤ 60)
  have HSL := Aside0.mk (fun (j : Nat) (x y : S52) (h1 : l[j]? = some x) (h2 : l[j]? = some y) => (show x.f0.toList = y.f0.toList ∧ x.f1 = y.f1 ∧ x.f2 = y.f2 ∧ nodes x.f1 ≤ 60 from by
    rw [h1] at h2
    obtain rfl := Option.some.inj h2
    exact ⟨rfl, rfl, rfl, (hlx x (List.mem_of_getElem? h1)).2.2⟩))
  clear hl30 hlx c2
  go_enter Try.func11, Try.ntmps11
  go_wp2_with (fail)
  refine (HSM.out _ (Kd.C_below HL.out HB.out)).mono ?_
  rintro e wx ⟨rfl, hb⟩
  have H0n := Aside0.mk (H0.out.below hb)
  have HBn := Aside0.mk (below_step HB.out hb)
  clear H0 HB e0 e1 e2 e3 e4 e5
  have H0 := H0n
  have HB := HBn
  clear H0n HBn
  have e0 := H0.out.cell 0
  have e1 := H0.out.cell 1
  have e2 := H0.out.cell 2
  have e3 := H0.out.cell 3
  have e4 := H0.out.cell 4
  have e5 := H0.out.cell 5
  simp only [List.getElem?_toArray, List.getElem?_cons_zero, List.getElem?_cons_succ] at e0 e1 e2 e3 e4 e5
  clear hb
  obtain ⟨wa, hwa⟩ : ∃ wa, wx = wa := ⟨_, rfl⟩
  rw [hwa] at H0 HB e0 e1 e2 e3 e4 e5 ⊢
  clear hwa
  obtain ⟨vs, hvs, hvc⟩ := raw_of (d := k52) (Kd.C_below HL.out HB.out)
  have HVS := Aside0.mk hvs
  have HVC := Aside0.mk hvc
  have HVL := Aside0.mk hvs.1
  clear hvs hvc
  go_upto_region 4 with (first
    | ((with_reducible refine gate_dst (N := 18) rfl ?_); go_must (refine Kd.R_lit (Kd.raw 7) wa.heap.size 52 ?hg (N := 18) ?hd (w0 := wa) (xs := ([] : List (List Value))) (inner := []) (ok := fun _ => True) (okp := fun _ => True) ?hr ?hp (fun _ hk => hk) ?ht (Below.refl _ _) (Nat.le_refl _) ?hm ?_); (case hp => exact Reps.none _ _); (case ht => trivial); (case hm => simp); (case hd => rfl); (case hg => rfl); (case hr => first | (go_simp; done) | (go_simp; rfl)); intro v18 w2 ho hb _ _; have HO := Aside0.mk ho; have HBW := Aside0.mk hb; clear ho hb)
    | ((with_reducible refine gate_builtin (b := .append) (xs := #[.tmp 18, .tmp 19]) rfl ?_); at_builtin; refine Kd.R_append_rows (Kd.raw 7) (w0 := wa) wa.heap.size rfl (.tmp 18) (.tmp 19) 50 52 (.agg #[(.string ⟨#[]⟩), (.int .i64 0), (.string ⟨#[]⟩), (.int .i64 0), (.int .i64 0), (.slice none 0 0), (.bool false)]) 88 rfl Try.underlying50 info52 rfl (by decide) (by omega) _ ([]) vs _ _ _ (fun _ => True) (fun _ => False) rfl rfl HO.out (by have h_ := Kd.C_below HVC.out HBW.out; rw [HVL.out] at h_; exact h_) (fun _ _ h => h) (fun _ h => h.elim) (fun _ _ => trivial) HBW.out HBW.out.size (by have h1_ := HVL.out; have h2_ := HLN.out; simp; omega) ?_; intro v20 w3 ho hb hg hat; have HO2 := Aside0.mk ho; have HB3 := Aside0.mk hb; clear ho hb hg hat))
  rw [List.nil_append] at HO2
  obtain ⟨DW, mW, rfl, hm, hq⟩ := Kd.R_reads HO2.out
  have HNEW := Aside0.mk (of_raw (d := k52) (HVS.out.below HB3.out) hq)
  have HMW := Aside0.mk (show l.length ≤ mW from by have := HVL.out; omega)
  have hb := HB3.out
  clear hm hq HO2 HO HBW HB3
  rw [HVL.out]
  clear HVC HVS HVL
  have H0n := Aside0.mk (H0.out.below hb)
  have HBn := Aside0.mk (below_step HB.out hb)
  clear H0 HB e0 e1 e2 e3 e4 e5
  have H0 := H0n
  have HB := HBn
  clear H0n HBn
  have e0 := H0.out.cell 0
  have e1 := H0.out.cell 1
  have e2 := H0.out.cell 2
  have e3 := H0.out.cell 3
  have e4 := H0.out.cell 4
  have e5 := H0.out.cell 5
  simp only [List.getElem?_toArray, List.getElem?_cons_zero, List.getElem?_cons_succ] at e0 e1 e2 e3 e4 e5
  clear hb
  have HW := HNEW
  clear HNEW
  go_wp2_with (fail)
  refine (release_c l id A c _ (Kd.C_below HL.out HB.out) (by have := HLN.out; omega) HC.out).mono ?_
  rintro e wx ⟨Dx, mx, rfl, _, _, hb⟩
  have H0n := Aside0.mk (H0.out.below hb)
  have HBn := Aside0.mk (below_step HB.out hb)
  have Hn := Aside0.mk (Kd.C_below HW.out hb)
  clear HW
  have HW := Hn
  clear Hn
  clear H0 HB e0 e1 e2 e3 e4 e5
  have H0 := H0n
  have HB := HBn
  clear H0n HBn
  have e0 := H0.out.cell 0
  have e1 := H0.out.cell 1
  have e2 := H0.out.cell 2
  have e3 := H0.out.cell 3
  have e4 := H0.out.cell 4
  have e5 := H0.out.cell 5
  simp only [List.getElem?_toArray, List.getElem?_cons_zero, List.getElem?_cons_succ] at e0 e1 e2 e3 e4 e5
  clear hb
  go_wp2_with (fail)
  refine (amend_c l id allS A c none 0 _ (Kd.C_below HL.out HB.out) (by have := HLN.out; omega) HC.out (Kd.C_nil _ _) (Nat.le_refl _)).mono ?_
  rintro e wx ⟨Dx, mx, rfl, _, _, hb⟩
  have H0n := Aside0.mk (H0.out.below hb)
  have HBn := Aside0.mk (below_step HB.out hb)
  have Hn := Aside0.mk (Kd.C_below HW.out hb)
  clear HW
  have HW := Hn
  clear Hn
  clear H0 HB e0 e1 e2 e3 e4 e5
  have H0 := H0n
  have HB := HBn
  clear H0n HBn
  have e0 := H0.out.cell 0
  have e1 := H0.out.cell 1
  have e2 := H0.out.cell 2
  have e3 := H0.out.cell 3
  have e4 := H0.out.cell 4
  have e5 := H0.out.cell 5
  simp only [List.getElem?_toArray, List.getElem?_cons_zero, List.getElem?_cons_succ] at e0 e1 e2 e3 e4 e5
  clear hb
  go_wp2_with (fail)
  refine (ron_c q0 q1 q2 q3 t u l DW mW _ HW.out HMW.out (by have := HLN.out; omega) HNX.out).mono ?_
  rintro e wx ⟨DR, mR, rfl, hm, hq, hb⟩
  have HNEW := Aside0.mk hq
  have HMR := Aside0.mk hm
  clear hq hm
  have H0n := Aside0.mk (H0.out.below hb)
  have HBn := Aside0.mk (below_step HB.out hb)
  have Hn := Aside0.mk (Kd.C_below HW.out hb)
  clear HW
  have HW := Hn
  clear Hn
  clear H0 HB e0 e1 e2 e3 e4 e5
  have H0 := H0n
  have HB := HBn
  clear H0n HBn
  have e0 := H0.out.cell 0
  have e1 := H0.out.cell 1
  have e2 := H0.out.cell 2
  have e3 := H0.out.cell 3
  have e4 := H0.out.cell 4
  have e5 := H0.out.cell 5
  simp only [List.getElem?_toArray, List.getElem?_cons_zero, List.getElem?_cons_succ] at e0 e1 e2 e3 e4 e5
  clear hb
  have HR := HNEW
  clear HNEW
  go_wp2_with (fail)
  refine (on_c q0 q1 q2 q3 t u l A c _ (Kd.C_below HL.out HB.out) HC.out (by have := HLN.out; omega)).mono ?_
  rintro e wx ⟨DS, mS, rfl, hm, hq, hb⟩
  have HNEW := Aside0.mk hq
  have HMS := Aside0.mk hm
  clear hq hm
  have H0n := Aside0.mk (H0.out.below hb)
  have HBn := Aside0.mk (below_step HB.out hb)
  have Hn := Aside0.mk (Kd.C_below HW.out hb)
  clear HW
  have HW := Hn
  clear Hn
  have Hn := Aside0.mk (Kd.C_below HR.out hb)
  clear HR
  have HR := Hn
  clear Hn
  clear H0 HB e0 e1 e2 e3 e4 e5
  have H0 := H0n
  have HB := HBn
  clear H0n HBn
  have e0 := H0.out.cell 0
  have e1 := H0.out.cell 1
  have e2 := H0.out.cell 2
  have e3 := H0.out.cell 3
  have e4 := H0.out.cell 4
  have e5 := H0.out.cell 5
  simp only [List.getElem?_toArray, List.getElem?_cons_zero, List.getElem?_cons_succ] at e0 e1 e2 e3 e4 e5
  clear hb
  have HS := HNEW
  clear HNEW
  go_wp2_with (fail)
  refine (names_c (onB q1 q2 q3 t l) (by have := HLN.out; have := onB_len q1 q2 q3 t l; omega) DS DR mS mR _ HS.out HMS.out HR.out HMR.out).mono ?_
  rintro e wx ⟨rfl, hb⟩
  have H0n := Aside0.mk (H0.out.below hb)
  have HBn := Aside0.mk (below_step HB.out hb)
  have Hn := Aside0.mk (Kd.C_below HW.out hb)
  clear HW
  have HW := Hn
  clear Hn
  have Hn := Aside0.mk (Kd.C_below HR.out hb)
  clear HR
  have HR := Hn
  clear Hn
  have Hn := Aside0.mk (Kd.C_below HS.out hb)
  clear HS
  have HS := Hn
  clear Hn
  clear H0 HB e0 e1 e2 e3 e4 e5
  have H0 := H0n
  have HB := HBn
  clear H0n HBn
  have e0 := H0.out.cell 0
  have e1 := H0.out.cell 1
  have e2 := H0.out.cell 2
  have e3 := H0.out.cell 3
  have e4 := H0.out.cell 4
  have e5 := H0.out.cell 5
  simp only [List.getElem?_toArray, List.getElem?_cons_zero, List.getElem?_cons_succ] at e0 e1 e2 e3 e4 e5
  clear hb
  go_wp2_with (fail)
  refine (held_c l q0 q1 q2 q3 t u A c _ (Kd.C_below HL.out HB.out)).mono ?_
  rintro e wx ⟨rfl, hb⟩
  have H0n := Aside0.mk (H0.out.below hb)
  have HBn := Aside0.mk (below_step HB.out hb)
  have Hn := Aside0.mk (Kd.C_below HW.out hb)
  clear HW
  have HW := Hn
  clear Hn
  have Hn := Aside0.mk (Kd.C_below HR.out hb)
  clear HR
  have HR := Hn
  clear Hn
  have Hn := Aside0.mk (Kd.C_below HS.out hb)
  clear HS
  have HS := Hn
  clear Hn
  clear H0 HB e0 e1 e2 e3 e4 e5
  have H0 := H0n
  have HB := HBn
  clear H0n HBn
  have e0 := H0.out.cell 0
  have e1 := H0.out.cell 1
  have e2 := H0.out.cell 2
  have e3 := H0.out.cell 3
  have e4 := H0.out.cell 4
  have e5 := H0.out.cell 5
  simp only [List.getElem?_toArray, List.getElem?_cons_zero, List.getElem?_cons_succ] at e0 e1 e2 e3 e4 e5
  clear hb
  rw [← onB_any]
  go_wp2_with (fail)
  refine (hsame_c l l rfl (by have := HLN.out; omega) HSL.out A c DW mW _ (Kd.C_below HL.out HB.out) HC.out HW.out HMW.out).mono ?_
  rintro e wx ⟨rfl, hb⟩
  have H0n := Aside0.mk (H0.out.below hb)
  have HBn := Aside0.mk (below_step HB.out hb)
  have Hn := Aside0.mk (Kd.C_below HW.out hb)
  clear HW
  have HW := Hn
  clear Hn
  have Hn := Aside0.mk (Kd.C_below HR.out hb)
  clear HR
  have HR := Hn
  clear Hn
  have Hn := Aside0.mk (Kd.C_below HS.out hb)
  clear HS
  have HS := Hn
  clear Hn
  clear H0 HB e0 e1 e2 e3 e4 e5
  have H0 := H0n
  have HB := HBn
  clear H0n HBn
  have e0 := H0.out.cell 0
  have e1 := H0.out.cell 1
  have e2 := H0.out.cell 2
  have e3 := H0.out.cell 3
  have e4 := H0.out.cell 4
  have e5 := H0.out.cell 5
  simp only [List.getElem?_toArray, List.getElem?_cons_zero, List.getElem?_cons_succ] at e0 e1 e2 e3 e4 e5
  clear hb
  go_wp2_with (fail)
  refine (live22_c _).mono ?_
  rintro e wx ⟨rfl, hb⟩
  have H0n := Aside0.mk (H0.out.below hb)
  have HBn := Aside0.mk (below_step HB.out hb)
  have Hn := Aside0.mk (Kd.C_below HW.out hb)
  clear HW
  have HW := Hn
  clear Hn
  have Hn := Aside0.mk (Kd.C_below HR.out hb)
  clear HR
  have HR := Hn
  clear Hn
  have Hn := Aside0.mk (Kd.C_below HS.out hb)
  clear HS
  have HS := Hn
  clear Hn
  clear H0 HB e0 e1 e2 e3 e4 e5
  have H0 := H0n
  have HB := HBn
  clear H0n HBn
  have e0 := H0.out.cell 0
  have e1 := H0.out.cell 1
  have e2 := H0.out.cell 2
  have e3 := H0.out.cell 3
  have e4 := H0.out.cell 4
  have e5 := H0.out.cell 5
  simp only [List.getElem?_toArray, List.getElem?_cons_zero, List.getElem?_cons_succ] at e0 e1 e2 e3 e4 e5
  clear hb
  go_wp2_with (fail)
  go_ret
  exact ⟨rfl, HB.out⟩
abbrev DRecO : Kd (ByteArray × ByteArray × ByteArray × ByteArray × Int × Int) := Kd.pair Kd.string (Kd.pair Kd.string (Kd.pair Kd.string (Kd.pair Kd.string (Kd.pair (Kd.int .i64) (Kd.int .i64)))))
theorem onWalk (w : World) (A : Option Addr) (c : Nat) (l : List S52) (hr : Kd.C k52 w A l.length l) (hc : l.length ≤ c) (_ : True) (r : ByteArray × ByteArray × ByteArray × ByteArray × Int × Int) (cr : Array Value) (hR : DRecO.K w r cr.toList)
    (_ : r.1.size ≤ maxLen ∧ r.2.1.size ≤ maxLen ∧ r.2.2.1.size ≤ maxLen ∧ r.2.2.2.1.size ≤ maxLen ∧ (Lit.int .i64 r.2.2.2.2.1).wf = true ∧ (Lit.int .i64 r.2.2.2.2.2).wf = true) (id : ByteArray) (_ : id.size ≤ maxLen) :
    Calls Try.prog 11 #[.slice A l.length c, .agg cr, .string id] w fun e w' => e = .returned (.bool true) ∧ Below w.heap.size w w' := by
  obtain ⟨q0, q1, q2, q3, t, u⟩ := r
  obtain ⟨_, _, f0, rfl, _, _, f1, rfl, _, _, f2, rfl, _, _, f3, rfl, _, _, f4, rfl, rfl⟩ := hR
  subst f4 f3 f2 f1
  have e2 : cr = #[.string q0, .string q1, .string q2, .string q3, .int .i64 t, .int .i64 u] := Array.toList_inj.1 f0
  subst e2
  exact on_walk w l A c hr hc id q0 q1 q2 q3 t u
end Go.Proofs.Ytgdpabedlghiaaa.Scope
