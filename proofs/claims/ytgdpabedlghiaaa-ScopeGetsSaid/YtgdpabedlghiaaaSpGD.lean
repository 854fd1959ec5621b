/- Own and printed texts, laid together. -/
import Derived.Test.YtgdpabedlghiaaaSpGB
import Derived.Test.YtgdpabedlghiaaaSpGC
-- printed for this claim by a program (pall.sh)
-- mended by fixpz.py
namespace Go.Proofs.Ytgdpabedlghiaaa.PZ
open Go.RowKit Go.Proofs.YtgdpabedlghiaaaW.PrintWords Go.Proofs.YtgdpabedlghiaaaW.PrintLast Go.Proofs.YtgdpabedlghiaaaW.PrintMore
attribute [local go_sem] max2_int min2_int max_two min_two max_three min_three max_four min_four   -- for this text's walks alone
set_option linter.unusedVariables false
set_option linter.unusedSimpArgs false

/-! ### hanaperref20_left: function 110 -/
mutual
def hanaperref20_left.j0 : Nat → Int → Int → Bool → Int → ByteArray → Int → Int → List (S40) → Option (Int)
 | 0, _, _, _, _, _, _, _, _ => none
 | k + 1, x1, x2, x23, x102000, x102001, x102002, x102003, x102004 => if x23 = true then (some (-1)) else ((hanaperref20_named.f x102000).bind fun t102 => (if (t102 != (x102001.toList != ([] : List UInt8))) = true then (hanaperref20_left.j1 k (wrap64 (x1 - 1)) x2 true x102000 x102001 x102002 x102003 x102004) else ((hanaperref20_named.f x102000).bind fun t103 => (if t103 = true then ((hanaperref12_Name.f k x102001).bind fun t104 => (hanaperref20_left.j1 k (wrap64 (x1 - 1)) x2 (!t104) x102000 x102001 x102002 x102003 x102004)) else (hanaperref20_left.j1 k (wrap64 (x1 - 1)) x2 false x102000 x102001 x102002 x102003 x102004)))))
def hanaperref20_left.j1 : Nat → Int → Int → Bool → Int → ByteArray → Int → Int → List (S40) → Option (Int)
 | 0, _, _, _, _, _, _, _, _ => none
 | k + 1, x1, x2, x43, x102000, x102001, x102002, x102003, x102004 => if x43 = true then (some (-1)) else (if x102000 = 5 then (if x102002 < 0 then (some (-1)) else (if x102002 > x102003 then (some (-1)) else (if x102003 > 1099511627776 then (some (-1)) else (hanaperref20_left.j2 k x1 x2 x102000 x102001 x102002 x102003 x102004)))) else (if x102002 = 0 then (if x102003 = 0 then (hanaperref20_left.j2 k x1 x2 x102000 x102001 x102002 x102003 x102004) else (some (-1))) else (some (-1))))
def hanaperref20_left.j2 : Nat → Int → Int → Int → ByteArray → Int → Int → List (S40) → Option (Int)
 | 0, _, _, _, _, _, _, _ => none
 | k + 1, x1, x2, x102000, x102001, x102002, x102003, x102004 => (hanaperref20_many.f x102000).bind fun t105 => (if t105 = true then (if (x102004.length : Int) < 2 then (hanaperref20_left.j3 k x1 x2 true x102000 x102001 x102002 x102003 x102004) else (if x102000 = 8 then (if (x102004.length : Int) = 1 then ((hanaperref20_many.f x102000).bind fun t106 => (if t106 = true then (hanaperref20_left.j3 k x1 x2 (decide ((x102004.length : Int) > x1)) x102000 x102001 x102002 x102003 x102004) else (hanaperref20_left.j3 k x1 x2 (decide ((x102004.length : Int) > x1)) x102000 x102001 x102002 x102003 x102004))) else (hanaperref20_left.j3 k x1 x2 true x102000 x102001 x102002 x102003 x102004)) else ((hanaperref20_many.f x102000).bind fun t107 => (if t107 = true then (hanaperref20_left.j3 k x1 x2 (decide ((x102004.length : Int) > x1)) x102000 x102001 x102002 x102003 x102004) else (if (x102004.length : Int) > 0 then (hanaperref20_left.j3 k x1 x2 true x102000 x102001 x102002 x102003 x102004) else (hanaperref20_left.j3 k x1 x2 (decide ((x102004.length : Int) > x1)) x102000 x102001 x102002 x102003 x102004)))))) else (if x102000 = 8 then (if (x102004.length : Int) = 1 then ((hanaperref20_many.f x102000).bind fun t108 => (if t108 = true then (hanaperref20_left.j3 k x1 x2 (decide ((x102004.length : Int) > x1)) x102000 x102001 x102002 x102003 x102004) else (hanaperref20_left.j3 k x1 x2 (decide ((x102004.length : Int) > x1)) x102000 x102001 x102002 x102003 x102004))) else (hanaperref20_left.j3 k x1 x2 true x102000 x102001 x102002 x102003 x102004)) else ((hanaperref20_many.f x102000).bind fun t109 => (if t109 = true then (hanaperref20_left.j3 k x1 x2 (decide ((x102004.length : Int) > x1)) x102000 x102001 x102002 x102003 x102004) else (if (x102004.length : Int) > 0 then (hanaperref20_left.j3 k x1 x2 true x102000 x102001 x102002 x102003 x102004) else (hanaperref20_left.j3 k x1 x2 (decide ((x102004.length : Int) > x1)) x102000 x102001 x102002 x102003 x102004))))))
def hanaperref20_left.j3 : Nat → Int → Int → Bool → Int → ByteArray → Int → Int → List (S40) → Option (Int)
 | 0, _, _, _, _, _, _, _, _ => none
 | k + 1, x1, x2, x113, x102000, x102001, x102002, x102003, x102004 => if x113 = true then (some (-1)) else (hanaperref20_left.l0 k x1 x2 0 x102000 x102001 x102002 x102003 x102004)
def hanaperref20_left.l0 : Nat → Int → Int → Int → Int → ByteArray → Int → Int → List (S40) → Option (Int)
 | 0, _, _, _, _, _, _, _, _ => none
 | k + 1, x1, x2, x7, x102000, x102001, x102002, x102003, x102004 => if x7 < (x102004.length : Int) then (if x1 ≥ 0 then (if 0 ≤ x7 then ((hanaperref20_left.f k ((rd_T40 x102004 x7).f0) ((rd_T40 x102004 x7).f1) ((rd_T40 x102004 x7).f2) ((rd_T40 x102004 x7).f3) ((rd_T40 x102004 x7).f4) x1 (wrap64 (x2 - 1))).bind fun t111 => (hanaperref20_left.l0 k t111 x2 (wrap64 (x7 + 1)) x102000 x102001 x102002 x102003 x102004)) else (none)) else (some x1)) else (some x1)
def hanaperref20_left.f : Nat → Int → ByteArray → Int → Int → List (S40) → Int → Int → Option (Int)
 | 0, _, _, _, _, _, _, _ => none
 | k + 1, a0_0, a0_1, a0_2, a0_3, l0_4, a1, a2 => if a1 < 1 then (hanaperref20_left.j0 k a1 a2 true a0_0 a0_1 a0_2 a0_3 l0_4) else (if a2 < 1 then (hanaperref20_left.j0 k a1 a2 true a0_0 a0_1 a0_2 a0_3 l0_4) else (if a0_0 < 1 then (hanaperref20_left.j0 k a1 a2 true a0_0 a0_1 a0_2 a0_3 l0_4) else (hanaperref20_left.j0 k a1 a2 (decide (a0_0 > 8)) a0_0 a0_1 a0_2 a0_3 l0_4)))
end
set_option maxHeartbeats 8000000 in
set_option maxRecDepth 100000 in
theorem hanaperref20_left.calls (k : Nat) : ∀ (a0_0 : Int) (a0_1 : ByteArray) (a0_2 : Int) (a0_3 : Int) (A0_4 : Option Addr) (c0_4 : Nat) (l0_4 : List (S40)) (a1 : Int) (a2 : Int) (r : Int) (w : World) (hr0_4 : Kd.C k40 w A0_4 l0_4.length l0_4) (hc0_4 : l0_4.length ≤ c0_4) (h : hanaperref20_left.f k a0_0 a0_1 a0_2 a0_3 l0_4 a1 a2 = some r),
  Calls Try.prog 110 #[.agg #[.int .i64 a0_0, .string a0_1, .int .i64 a0_2, .int .i64 a0_3, .slice A0_4 l0_4.length c0_4], .int .i64 a1, .int .i64 a2] w fun e w' => e = .returned (.int .i64 r) ∧ Below w.heap.size w w' := by
 induction k using Nat.strongRecOn with
 | _ k ih =>
 intro a0_0 a0_1 a0_2 a0_3 A0_4 c0_4 l0_4 a1 a2 r w hr0_4 hc0_4 h
 cases k with
 | zero => exact absurd h (by simp [hanaperref20_left.f])
 | succ k =>
 simp only [hanaperref20_left.f] at h
 have hu40 := Try.underlying40
 have HR0_4 := Aside0.mk hr0_4
 have HC0_4 := Aside0.mk hc0_4
 clear hr0_4 hc0_4
 have HB := Aside0.mk (Below.refl w.heap.size w)
 have H : (if a1 < 1 then (hanaperref20_left.j0 k a1 a2 true a0_0 a0_1 a0_2 a0_3 l0_4) else (if a2 < 1 then (hanaperref20_left.j0 k a1 a2 true a0_0 a0_1 a0_2 a0_3 l0_4) else (if a0_0 < 1 then (hanaperref20_left.j0 k a1 a2 true a0_0 a0_1 a0_2 a0_3 l0_4) else (hanaperref20_left.j0 k a1 a2 (decide (a0_0 > 8)) a0_0 a0_1 a0_2 a0_3 l0_4)))) = some r := h
 clear h
 have HC4 := Aside0.mk H
 clear H
 go_enter Try.func110, Try.ntmps110
 go_upto_region 1 with (first | ((with_reducible refine gate_dst (N := 3) rfl ?_); (try (refine gate_guard (by rfl) ?_; dsimp only)); refine box_event ?hg (N := 3) ?hd (cs := #[.int .i64 a0_0, .string a0_1, .int .i64 a0_2, .int .i64 a0_3, .slice A0_4 l0_4.length c0_4]) (t := 40) ?hr ?_; (case hd => rfl); (case hg => rfl); (case hr => first | (go_simp; done) | (go_simp; rfl)); intro gb101 hg w5 hbox hb; have n0_ := Aside0.mk (below_step (by repeat (first | (with_reducible first | exact HB.out | apply below_alloc | apply pw_below_drewN | apply below_drew1) | exact HB.out)) hb); have n1_ := Aside0.mk (hbox); have n2_ := Aside0.mk ((by rw [hg]; exact (below_size (by repeat (first | (with_reducible first | exact HB.out | apply below_alloc | apply pw_below_drewN | apply below_drew1) | exact HB.out))) : w.heap.size ≤ gb101)); have n3_ := Aside0.mk ((by rw [hg]; exact (below_size (by repeat (first | (with_reducible first | exact HB.out | apply below_alloc | apply pw_below_drewN | apply below_drew1) | exact HB.out))) : w.heap.size ≤ gb101)); clear HB; have HB := n0_; have BK101 := n1_; have GW101 := n2_; have GE101 := n3_; clear n0_ n1_ n2_ n3_; clear hb hbox hg))
 repeat (go_quiet (first | ((with_reducible refine gate_dst (N := 3) rfl ?_); (try (refine gate_guard (by rfl) ?_; dsimp only)); refine box_event ?hg (N := 3) ?hd (cs := #[.int .i64 a0_0, .string a0_1, .int .i64 a0_2, .int .i64 a0_3, .slice A0_4 l0_4.length c0_4]) (t := 40) ?hr ?_; (case hd => rfl); (case hg => rfl); (case hr => first | (go_simp; done) | (go_simp; rfl)); intro gb101 hg w5 hbox hb; have n0_ := Aside0.mk (below_step (by repeat (first | (with_reducible first | exact HB.out | apply below_alloc | apply pw_below_drewN | apply below_drew1) | exact HB.out)) hb); have n1_ := Aside0.mk (hbox); have n2_ := Aside0.mk ((by rw [hg]; exact (below_size (by repeat (first | (with_reducible first | exact HB.out | apply below_alloc | apply pw_below_drewN | apply below_drew1) | exact HB.out))) : w.heap.size ≤ gb101)); have n3_ := Aside0.mk ((by rw [hg]; exact (below_size (by repeat (first | (with_reducible first | exact HB.out | apply below_alloc | apply pw_below_drewN | apply below_drew1) | exact HB.out))) : w.heap.size ≤ gb101)); clear HB; have HB := n0_; have BK101 := n1_; have GW101 := n2_; have GE101 := n3_; clear n0_ n1_ n2_ n3_; clear hb hbox hg)); go_upto_region 1 with (first | ((with_reducible refine gate_dst (N := 3) rfl ?_); (try (refine gate_guard (by rfl) ?_; dsimp only)); refine box_event ?hg (N := 3) ?hd (cs := #[.int .i64 a0_0, .string a0_1, .int .i64 a0_2, .int .i64 a0_3, .slice A0_4 l0_4.length c0_4]) (t := 40) ?hr ?_; (case hd => rfl); (case hg => rfl); (case hr => first | (go_simp; done) | (go_simp; rfl)); intro gb101 hg w5 hbox hb; have n0_ := Aside0.mk (below_step (by repeat (first | (with_reducible first | exact HB.out | apply below_alloc | apply pw_below_drewN | apply below_drew1) | exact HB.out)) hb); have n1_ := Aside0.mk (hbox); have n2_ := Aside0.mk ((by rw [hg]; exact (below_size (by repeat (first | (with_reducible first | exact HB.out | apply below_alloc | apply pw_below_drewN | apply below_drew1) | exact HB.out))) : w.heap.size ≤ gb101)); have n3_ := Aside0.mk ((by rw [hg]; exact (below_size (by repeat (first | (with_reducible first | exact HB.out | apply below_alloc | apply pw_below_drewN | apply below_drew1) | exact HB.out))) : w.heap.size ≤ gb101)); clear HB; have HB := n0_; have BK101 := n1_; have GW101 := n2_; have GE101 := n3_; clear n0_ n1_ n2_ n3_; clear hb hbox hg)))
 (try simp only [Act.put, List.setIfInBounds_toArray, List.set_cons_zero, List.set_cons_succ])
 go_cut [23] (fun v23 wc => ∃ (kq : Nat) (x23_3 : Bool), v23 = .bool x23_3 ∧ Aside0 (hanaperref20_left.j0 kq a1 a2 x23_3 a0_0 a0_1 a0_2 a0_3 l0_4 = some r) ∧ Aside0 (kq ≤ k) ∧ Aside0 (wc.heap[gb101]? = some (.cells #[.int .i64 a0_0, .string a0_1, .int .i64 a0_2, .int .i64 a0_3, (.slice A0_4 l0_4.length c0_4)] 40 (0, 0))) ∧ Aside0 (Below w.heap.size w wc))
 case first =>
  have H := HC4.out
  clear HC4
  by_cases c6 : a1 < 1
  ·rw [if_pos c6] at H
   have c6b0 : decide (a1 < 1) = true := decide_eq_true c6
   clear c6
   (first | rw [c6b0] | (simp only [i64_w, i32_w]; rw [c6b0]) | skip)
   have H' := Aside0.mk H
   clear H
   go_wp2
   repeat (go_quiet (fail); try go_wp2)
   go_meet
   case rel => exact ⟨_, (true), (by first | rfl | (simp; done) | (simp [*]; done) | (simp [*]; exact (show ∀ l_ : List UInt8, l_.isEmpty = !(l_ != []) from fun l_ => by cases l_ <;> rfl) _)), H', ⟨by first | omega | exact Nat.le_refl _⟩, ⟨by (with_reducible repeat (first | refine blk_drewN ?_ _ | refine blk_drew ?_ | refine blk_alloc ?_ _)); exact BK101.out⟩, ⟨by repeat (first | (with_reducible first | exact HB.out | apply below_alloc | apply pw_below_drewN | apply below_drew1 | refine below_set ?_ GE101.out) | exact HB.out)⟩⟩
  ·rw [if_neg c6] at H
   have c6b0 : decide (a1 < 1) = false := decide_eq_false c6
   clear c6
   (first | rw [c6b0] | (simp only [i64_w, i32_w]; rw [c6b0]) | skip)
   by_cases c7 : a2 < 1
   ·rw [if_pos c7] at H
    have c7b0 : decide (a2 < 1) = true := decide_eq_true c7
    clear c7
    have H' := Aside0.mk H
    clear H
    go_wp2
    repeat (go_quiet (fail); try go_wp2)
    go_meet
    case rel => exact ⟨_, (true), (by first | rfl | (simp; done) | (simp [*]; done) | (simp [*]; exact (show ∀ l_ : List UInt8, l_.isEmpty = !(l_ != []) from fun l_ => by cases l_ <;> rfl) _)), H', ⟨by first | omega | exact Nat.le_refl _⟩, ⟨by (with_reducible repeat (first | refine blk_drewN ?_ _ | refine blk_drew ?_ | refine blk_alloc ?_ _)); exact BK101.out⟩, ⟨by repeat (first | (with_reducible first | exact HB.out | apply below_alloc | apply pw_below_drewN | apply below_drew1 | refine below_set ?_ GE101.out) | exact HB.out)⟩⟩
   ·rw [if_neg c7] at H
    have c7b0 : decide (a2 < 1) = false := decide_eq_false c7
    clear c7
    by_cases c8 : a0_0 < 1
    ·rw [if_pos c8] at H
     have c8b0 : decide (a0_0 < 1) = true := decide_eq_true c8
     clear c8
     have H' := Aside0.mk H
     clear H
     have hcz9_0 : w5.cell? ⟨gb101, 0, none⟩ = some (.int .i64 a0_0) := (blk_cell BK101.out 0).trans rfl
     have hcz9_1 : w5.cell? ⟨gb101, 1, none⟩ = some (.string a0_1) := (blk_cell BK101.out 1).trans rfl
     have hcz9_2 : w5.cell? ⟨gb101, 2, none⟩ = some (.int .i64 a0_2) := (blk_cell BK101.out 2).trans rfl
     have hcz9_3 : w5.cell? ⟨gb101, 3, none⟩ = some (.int .i64 a0_3) := (blk_cell BK101.out 3).trans rfl
     have hcz9_4 : w5.cell? ⟨gb101, 4, none⟩ = some (.slice A0_4 l0_4.length c0_4) := (blk_cell BK101.out 4).trans rfl
     have hfz9_0 := blk_frozen BK101.out 0
     have hfz9_1 := blk_frozen BK101.out 1
     have hfz9_2 := blk_frozen BK101.out 2
     have hfz9_3 := blk_frozen BK101.out 3
     have hfz9_4 := blk_frozen BK101.out 4
     go_wp2
     repeat (go_quiet (fail); try go_wp2)
     go_meet
     case rel => exact ⟨_, (true), (by first | rfl | (simp; done) | (simp [*]; done) | (simp [*]; exact (show ∀ l_ : List UInt8, l_.isEmpty = !(l_ != []) from fun l_ => by cases l_ <;> rfl) _)), H', ⟨by first | omega | exact Nat.le_refl _⟩, ⟨by (with_reducible repeat (first | refine blk_drewN ?_ _ | refine blk_drew ?_ | refine blk_alloc ?_ _)); exact BK101.out⟩, ⟨by repeat (first | (with_reducible first | exact HB.out | apply below_alloc | apply pw_below_drewN | apply below_drew1 | refine below_set ?_ GE101.out) | exact HB.out)⟩⟩
    ·rw [if_neg c8] at H
     have c8b0 : decide (a0_0 < 1) = false := decide_eq_false c8
     clear c8
     have H' := Aside0.mk H
     clear H
     have hcz10_0 : w5.cell? ⟨gb101, 0, none⟩ = some (.int .i64 a0_0) := (blk_cell BK101.out 0).trans rfl
     have hcz10_1 : w5.cell? ⟨gb101, 1, none⟩ = some (.string a0_1) := (blk_cell BK101.out 1).trans rfl
     have hcz10_2 : w5.cell? ⟨gb101, 2, none⟩ = some (.int .i64 a0_2) := (blk_cell BK101.out 2).trans rfl
     have hcz10_3 : w5.cell? ⟨gb101, 3, none⟩ = some (.int .i64 a0_3) := (blk_cell BK101.out 3).trans rfl
     have hcz10_4 : w5.cell? ⟨gb101, 4, none⟩ = some (.slice A0_4 l0_4.length c0_4) := (blk_cell BK101.out 4).trans rfl
     have hfz10_0 := blk_frozen BK101.out 0
     have hfz10_1 := blk_frozen BK101.out 1
     have hfz10_2 := blk_frozen BK101.out 2
     have hfz10_3 := blk_frozen BK101.out 3
     have hfz10_4 := blk_frozen BK101.out 4
     go_wp2
     repeat (go_quiet (fail); try go_wp2)
     go_meet
     case rel => exact ⟨_, (decide (a0_0 > 8)), (by first | rfl | (simp; done) | (simp [*]; done) | (simp [*]; exact (show ∀ l_ : List UInt8, l_.isEmpty = !(l_ != []) from fun l_ => by cases l_ <;> rfl) _)), H', ⟨by first | omega | exact Nat.le_refl _⟩, ⟨by (with_reducible repeat (first | refine blk_drewN ?_ _ | refine blk_drew ?_ | refine blk_alloc ?_ _)); exact BK101.out⟩, ⟨by repeat (first | (with_reducible first | exact HB.out | apply below_alloc | apply pw_below_drewN | apply below_drew1 | refine below_set ?_ GE101.out) | exact HB.out)⟩⟩
 case rest =>
  clear HC4
  (try clear c1);(try clear p2);(try clear c6);(try clear c6b0);(try clear c7);(try clear c7b0);(try clear c8);(try clear c8b0);(try clear hcz10_0);(try clear hcz10_1);(try clear hcz10_2);(try clear hcz10_3);(try clear hcz10_4);(try clear hcz9_0);(try clear hcz9_1);(try clear hcz9_2);(try clear hcz9_3);(try clear hcz9_4);(try clear hfz10_0);(try clear hfz10_1);(try clear hfz10_2);(try clear hfz10_3);(try clear hfz10_4);(try clear hfz9_0);(try clear hfz9_1);(try clear hfz9_2);(try clear hfz9_3);(try clear hfz9_4)
  obtain ⟨kq, x23_3, rfl, HA, HJ3, BK101, HB⟩ := hcut
  cases kq with
  | zero => exact absurd HA.out (by simp [hanaperref20_left.j0])
  | succ kj3 =>
   have H := HA.out
   clear HA
   simp only [hanaperref20_left.j0] at H
   by_cases c11 : x23_3 = true
   ·subst c11
    have H1 : (some (-1)) = some r := by rw [if_pos rfl] at H; exact H
    clear H
    have H := H1
    clear H1
    obtain rfl := Option.some.inj H
    go_wp2
    repeat (go_quiet (fail); try go_wp2)
    go_ret
    exact ⟨by first | rfl | (simp [errW_none, errW_some] <;> rfl) | (simp [*, errW_none, errW_some] <;> rfl), by repeat (first | (with_reducible first | exact HB.out | apply below_alloc | apply pw_below_drewN | apply below_drew1 | refine below_set ?_ GE101.out) | exact HB.out)⟩
   ·replace c11 := Bool.eq_false_iff.mpr c11
    subst c11
    have H1 : ((hanaperref20_named.f a0_0).bind fun t102 => (if (t102 != (a0_1.toList != ([] : List UInt8))) = true then (hanaperref20_left.j1 kj3 (wrap64 (a1 - 1)) a2 true a0_0 a0_1 a0_2 a0_3 l0_4) else ((hanaperref20_named.f a0_0).bind fun t103 => (if t103 = true then ((hanaperref12_Name.f kj3 a0_1).bind fun t104 => (hanaperref20_left.j1 kj3 (wrap64 (a1 - 1)) a2 (!t104) a0_0 a0_1 a0_2 a0_3 l0_4)) else (hanaperref20_left.j1 kj3 (wrap64 (a1 - 1)) a2 false a0_0 a0_1 a0_2 a0_3 l0_4))))) = some r := by rw [if_neg (show ¬ (false = true) by decide)] at H; exact H
    clear H
    have H := H1
    clear H1
    have HC12 := Aside0.mk H
    clear H
    go_upto_region 4 with (fail)
    repeat (go_quiet (fail); go_upto_region 4 with (fail))
    go_cut [43] (fun v43 wc => ∃ (kq : Nat) (x43_11 : Bool), v43 = .bool x43_11 ∧ Aside0 (hanaperref20_left.j1 kq (wrap64 (a1 - 1)) a2 x43_11 a0_0 a0_1 a0_2 a0_3 l0_4 = some r) ∧ Aside0 (kq ≤ kj3) ∧ Aside0 (wc.heap[gb101]? = some (.cells #[.int .i64 a0_0, .string a0_1, .int .i64 a0_2, .int .i64 a0_3, (.slice A0_4 l0_4.length c0_4)] 40 (0, 0))) ∧ Aside0 (Below w.heap.size w wc))
    case first =>
     have H := HC12.out
     clear HC12
     replace H := Option.bind_eq_some_iff.mp H
     obtain ⟨t102, A130, H⟩ := H
     replace H : (if (t102 != (a0_1.toList != ([] : List UInt8))) = true then (hanaperref20_left.j1 kj3 (wrap64 (a1 - 1)) a2 true a0_0 a0_1 a0_2 a0_3 l0_4) else ((hanaperref20_named.f a0_0).bind fun t103 => (if t103 = true then ((hanaperref12_Name.f kj3 a0_1).bind fun t104 => (hanaperref20_left.j1 kj3 (wrap64 (a1 - 1)) a2 (!t104) a0_0 a0_1 a0_2 a0_3 l0_4)) else (hanaperref20_left.j1 kj3 (wrap64 (a1 - 1)) a2 false a0_0 a0_1 a0_2 a0_3 l0_4)))) = some r := H
     have A13 := Aside0.mk A130
     clear A130
     by_cases c14 : (t102 != (a0_1.toList != ([] : List UInt8))) = true
     ·rw [if_pos c14] at H
      have c14b0 : (t102 != (a0_1.toList != ([] : List UInt8))) = true := c14
      have c14z0 : (t102 == !a0_1.toList.isEmpty) = false := (show ∀ (t_ : Bool) (l_ : List UInt8), (t_ != (l_ != [])) = true → (t_ == !l_.isEmpty) = false from fun t_ l_ => by cases t_ <;> cases l_ <;> simp) _ _ c14b0
      (try (have c14b1 : decide (t102 = (a0_1.toList != ([] : List UInt8))) = false := by simpa using c14))
      (try (have c14b2 : (t102 == (a0_1.toList != ([] : List UInt8))) = false := by simpa using c14))
      (try (have c14b3 : ¬ (t102 = (a0_1.toList != ([] : List UInt8))) := by simpa using c14))
      clear c14
      (first | rw [c14b0] | (simp only [i64_w, i32_w]; rw [c14b0]) | skip)
      have H' := Aside0.mk H
      clear H
      have hcz15_0 : wc.cell? ⟨gb101, 0, none⟩ = some (.int .i64 a0_0) := (blk_cell BK101.out 0).trans rfl
      have hcz15_1 : wc.cell? ⟨gb101, 1, none⟩ = some (.string a0_1) := (blk_cell BK101.out 1).trans rfl
      have hcz15_2 : wc.cell? ⟨gb101, 2, none⟩ = some (.int .i64 a0_2) := (blk_cell BK101.out 2).trans rfl
      have hcz15_3 : wc.cell? ⟨gb101, 3, none⟩ = some (.int .i64 a0_3) := (blk_cell BK101.out 3).trans rfl
      have hcz15_4 : wc.cell? ⟨gb101, 4, none⟩ = some (.slice A0_4 l0_4.length c0_4) := (blk_cell BK101.out 4).trans rfl
      have hfz15_0 := blk_frozen BK101.out 0
      have hfz15_1 := blk_frozen BK101.out 1
      have hfz15_2 := blk_frozen BK101.out 2
      have hfz15_3 := blk_frozen BK101.out 3
      have hfz15_4 := blk_frozen BK101.out 4
      go_wp2_with (first | (go_at_call 111; (with_reducible refine (hanaperref20_named.calls a0_0 t102 _ A13.out).mono ?_); rintro e w' ⟨rfl, ⟨nd, rfl⟩⟩; (try first | exact ⟨rfl, _, World.drewN_drewN _ _ _⟩ | exact ⟨rfl, _, Eq.trans (World.drewN_drewN _ _ _) (congrArg (World.drewN _) (Nat.add_assoc _ _ _))⟩)))
      repeat (go_quiet (first | (go_at_call 111; (with_reducible refine (hanaperref20_named.calls a0_0 t102 _ A13.out).mono ?_); rintro e w' ⟨rfl, ⟨nd, rfl⟩⟩; (try first | exact ⟨rfl, _, World.drewN_drewN _ _ _⟩ | exact ⟨rfl, _, Eq.trans (World.drewN_drewN _ _ _) (congrArg (World.drewN _) (Nat.add_assoc _ _ _))⟩))); try go_wp2_with (first | (go_at_call 111; (with_reducible refine (hanaperref20_named.calls a0_0 t102 _ A13.out).mono ?_); rintro e w' ⟨rfl, ⟨nd, rfl⟩⟩; (try first | exact ⟨rfl, _, World.drewN_drewN _ _ _⟩ | exact ⟨rfl, _, Eq.trans (World.drewN_drewN _ _ _) (congrArg (World.drewN _) (Nat.add_assoc _ _ _))⟩))))
      go_meet
      case rel => exact ⟨_, (true), (by first | rfl | (simp; done) | (simp [*]; done) | (simp [*]; exact (show ∀ l_ : List UInt8, l_.isEmpty = !(l_ != []) from fun l_ => by cases l_ <;> rfl) _)), H', ⟨by have := HJ3.out; first | omega | exact Nat.le_refl _⟩, ⟨by (with_reducible repeat (first | refine blk_drewN ?_ _ | refine blk_drew ?_ | refine blk_alloc ?_ _)); exact BK101.out⟩, ⟨by repeat (first | (with_reducible first | exact HB.out | apply below_alloc | apply pw_below_drewN | apply below_drew1 | refine below_set ?_ GE101.out) | exact HB.out)⟩⟩
     ·rw [if_neg c14] at H
      have c14b0 : (t102 != (a0_1.toList != ([] : List UInt8))) = false := by simpa using c14
      have c14z0 : (t102 == !a0_1.toList.isEmpty) = true := (show ∀ (t_ : Bool) (l_ : List UInt8), (t_ != (l_ != [])) = false → (t_ == !l_.isEmpty) = true from fun t_ l_ => by cases t_ <;> cases l_ <;> simp) _ _ c14b0
      (try (have c14b1 : decide (t102 = (a0_1.toList != ([] : List UInt8))) = true := by simpa using c14))
      (try (have c14b2 : (t102 == (a0_1.toList != ([] : List UInt8))) = true := by simpa using c14))
      clear c14
      (first | rw [c14b0] | (simp only [i64_w, i32_w]; rw [c14b0]) | skip)
      replace H := Option.bind_eq_some_iff.mp H
      obtain ⟨t103, A160, H⟩ := H
      replace H : (if t103 = true then ((hanaperref12_Name.f kj3 a0_1).bind fun t104 => (hanaperref20_left.j1 kj3 (wrap64 (a1 - 1)) a2 (!t104) a0_0 a0_1 a0_2 a0_3 l0_4)) else (hanaperref20_left.j1 kj3 (wrap64 (a1 - 1)) a2 false a0_0 a0_1 a0_2 a0_3 l0_4)) = some r := H
      have A16 := Aside0.mk A160
      clear A160
      by_cases c17 : t103 = true
      ·subst c17
       have H1 : ((hanaperref12_Name.f kj3 a0_1).bind fun t104 => (hanaperref20_left.j1 kj3 (wrap64 (a1 - 1)) a2 (!t104) a0_0 a0_1 a0_2 a0_3 l0_4)) = some r := by rw [if_pos rfl] at H; exact H
       clear H
       have H := H1
       clear H1
       replace H := Option.bind_eq_some_iff.mp H
       obtain ⟨t104, A180, H⟩ := H
       replace H : (hanaperref20_left.j1 kj3 (wrap64 (a1 - 1)) a2 (!t104) a0_0 a0_1 a0_2 a0_3 l0_4) = some r := H
       have A18 := Aside0.mk A180
       clear A180
       have H' := Aside0.mk H
       clear H
       have hcz19_0 : wc.cell? ⟨gb101, 0, none⟩ = some (.int .i64 a0_0) := (blk_cell BK101.out 0).trans rfl
       have hcz19_1 : wc.cell? ⟨gb101, 1, none⟩ = some (.string a0_1) := (blk_cell BK101.out 1).trans rfl
       have hcz19_2 : wc.cell? ⟨gb101, 2, none⟩ = some (.int .i64 a0_2) := (blk_cell BK101.out 2).trans rfl
       have hcz19_3 : wc.cell? ⟨gb101, 3, none⟩ = some (.int .i64 a0_3) := (blk_cell BK101.out 3).trans rfl
       have hcz19_4 : wc.cell? ⟨gb101, 4, none⟩ = some (.slice A0_4 l0_4.length c0_4) := (blk_cell BK101.out 4).trans rfl
       have hfz19_0 := blk_frozen BK101.out 0
       have hfz19_1 := blk_frozen BK101.out 1
       have hfz19_2 := blk_frozen BK101.out 2
       have hfz19_3 := blk_frozen BK101.out 3
       have hfz19_4 := blk_frozen BK101.out 4
       have ht_ := Option.some.inj (A13.out.symm.trans A16.out)
       (try rw [ht_] at c14z0)
       go_wp2_with (first | (go_at_call 111; (with_reducible refine (hanaperref20_named.calls a0_0 true _ A16.out).mono ?_); rintro e w' ⟨rfl, ⟨nd, rfl⟩⟩; (try first | exact ⟨rfl, _, World.drewN_drewN _ _ _⟩ | exact ⟨rfl, _, Eq.trans (World.drewN_drewN _ _ _) (congrArg (World.drewN _) (Nat.add_assoc _ _ _))⟩)) | (go_at_call 111; (with_reducible refine (hanaperref20_named.calls a0_0 true _ A16.out).mono ?_); rintro e w' ⟨rfl, ⟨nd, rfl⟩⟩; (try first | exact ⟨rfl, _, World.drewN_drewN _ _ _⟩ | exact ⟨rfl, _, Eq.trans (World.drewN_drewN _ _ _) (congrArg (World.drewN _) (Nat.add_assoc _ _ _))⟩)) | (go_at_call 22; (with_reducible refine (hanaperref12_Name.calls kj3 a0_1 t104 _ A18.out).mono ?_); rintro e w' ⟨rfl, ⟨nd, rfl⟩⟩; (try first | exact ⟨rfl, _, World.drewN_drewN _ _ _⟩ | exact ⟨rfl, _, Eq.trans (World.drewN_drewN _ _ _) (congrArg (World.drewN _) (Nat.add_assoc _ _ _))⟩)))
       repeat (go_quiet (first | (go_at_call 111; (with_reducible refine (hanaperref20_named.calls a0_0 true _ A16.out).mono ?_); rintro e w' ⟨rfl, ⟨nd, rfl⟩⟩; (try first | exact ⟨rfl, _, World.drewN_drewN _ _ _⟩ | exact ⟨rfl, _, Eq.trans (World.drewN_drewN _ _ _) (congrArg (World.drewN _) (Nat.add_assoc _ _ _))⟩)) | (go_at_call 111; (with_reducible refine (hanaperref20_named.calls a0_0 true _ A16.out).mono ?_); rintro e w' ⟨rfl, ⟨nd, rfl⟩⟩; (try first | exact ⟨rfl, _, World.drewN_drewN _ _ _⟩ | exact ⟨rfl, _, Eq.trans (World.drewN_drewN _ _ _) (congrArg (World.drewN _) (Nat.add_assoc _ _ _))⟩)) | (go_at_call 22; (with_reducible refine (hanaperref12_Name.calls kj3 a0_1 t104 _ A18.out).mono ?_); rintro e w' ⟨rfl, ⟨nd, rfl⟩⟩; (try first | exact ⟨rfl, _, World.drewN_drewN _ _ _⟩ | exact ⟨rfl, _, Eq.trans (World.drewN_drewN _ _ _) (congrArg (World.drewN _) (Nat.add_assoc _ _ _))⟩))); try go_wp2_with (first | (go_at_call 111; (with_reducible refine (hanaperref20_named.calls a0_0 true _ A16.out).mono ?_); rintro e w' ⟨rfl, ⟨nd, rfl⟩⟩; (try first | exact ⟨rfl, _, World.drewN_drewN _ _ _⟩ | exact ⟨rfl, _, Eq.trans (World.drewN_drewN _ _ _) (congrArg (World.drewN _) (Nat.add_assoc _ _ _))⟩)) | (go_at_call 111; (with_reducible refine (hanaperref20_named.calls a0_0 true _ A16.out).mono ?_); rintro e w' ⟨rfl, ⟨nd, rfl⟩⟩; (try first | exact ⟨rfl, _, World.drewN_drewN _ _ _⟩ | exact ⟨rfl, _, Eq.trans (World.drewN_drewN _ _ _) (congrArg (World.drewN _) (Nat.add_assoc _ _ _))⟩)) | (go_at_call 22; (with_reducible refine (hanaperref12_Name.calls kj3 a0_1 t104 _ A18.out).mono ?_); rintro e w' ⟨rfl, ⟨nd, rfl⟩⟩; (try first | exact ⟨rfl, _, World.drewN_drewN _ _ _⟩ | exact ⟨rfl, _, Eq.trans (World.drewN_drewN _ _ _) (congrArg (World.drewN _) (Nat.add_assoc _ _ _))⟩))))
       go_meet
       case rel => exact ⟨_, (!t104), (by first | rfl | (simp; done) | (simp [*]; done) | (simp [*]; exact (show ∀ l_ : List UInt8, l_.isEmpty = !(l_ != []) from fun l_ => by cases l_ <;> rfl) _)), H', ⟨by have := HJ3.out; first | omega | exact Nat.le_refl _⟩, ⟨by (with_reducible repeat (first | refine blk_drewN ?_ _ | refine blk_drew ?_ | refine blk_alloc ?_ _)); exact BK101.out⟩, ⟨by repeat (first | (with_reducible first | exact HB.out | apply below_alloc | apply pw_below_drewN | apply below_drew1 | refine below_set ?_ GE101.out) | exact HB.out)⟩⟩
      ·replace c17 := Bool.eq_false_iff.mpr c17
       subst c17
       have H1 : (hanaperref20_left.j1 kj3 (wrap64 (a1 - 1)) a2 false a0_0 a0_1 a0_2 a0_3 l0_4) = some r := by rw [if_neg (show ¬ (false = true) by decide)] at H; exact H
       clear H
       have H := H1
       clear H1
       have H' := Aside0.mk H
       clear H
       have hcz20_0 : wc.cell? ⟨gb101, 0, none⟩ = some (.int .i64 a0_0) := (blk_cell BK101.out 0).trans rfl
       have hcz20_1 : wc.cell? ⟨gb101, 1, none⟩ = some (.string a0_1) := (blk_cell BK101.out 1).trans rfl
       have hcz20_2 : wc.cell? ⟨gb101, 2, none⟩ = some (.int .i64 a0_2) := (blk_cell BK101.out 2).trans rfl
       have hcz20_3 : wc.cell? ⟨gb101, 3, none⟩ = some (.int .i64 a0_3) := (blk_cell BK101.out 3).trans rfl
       have hcz20_4 : wc.cell? ⟨gb101, 4, none⟩ = some (.slice A0_4 l0_4.length c0_4) := (blk_cell BK101.out 4).trans rfl
       have hfz20_0 := blk_frozen BK101.out 0
       have hfz20_1 := blk_frozen BK101.out 1
       have hfz20_2 := blk_frozen BK101.out 2
       have hfz20_3 := blk_frozen BK101.out 3
       have hfz20_4 := blk_frozen BK101.out 4
       have ht_ := Option.some.inj (A13.out.symm.trans A16.out)
       (try rw [ht_] at c14z0)
       go_wp2_with (first | (go_at_call 111; (with_reducible refine (hanaperref20_named.calls a0_0 false _ A16.out).mono ?_); rintro e w' ⟨rfl, ⟨nd, rfl⟩⟩; (try first | exact ⟨rfl, _, World.drewN_drewN _ _ _⟩ | exact ⟨rfl, _, Eq.trans (World.drewN_drewN _ _ _) (congrArg (World.drewN _) (Nat.add_assoc _ _ _))⟩)) | (go_at_call 111; (with_reducible refine (hanaperref20_named.calls a0_0 false _ A16.out).mono ?_); rintro e w' ⟨rfl, ⟨nd, rfl⟩⟩; (try first | exact ⟨rfl, _, World.drewN_drewN _ _ _⟩ | exact ⟨rfl, _, Eq.trans (World.drewN_drewN _ _ _) (congrArg (World.drewN _) (Nat.add_assoc _ _ _))⟩)))
       repeat (go_quiet (first | (go_at_call 111; (with_reducible refine (hanaperref20_named.calls a0_0 false _ A16.out).mono ?_); rintro e w' ⟨rfl, ⟨nd, rfl⟩⟩; (try first | exact ⟨rfl, _, World.drewN_drewN _ _ _⟩ | exact ⟨rfl, _, Eq.trans (World.drewN_drewN _ _ _) (congrArg (World.drewN _) (Nat.add_assoc _ _ _))⟩)) | (go_at_call 111; (with_reducible refine (hanaperref20_named.calls a0_0 false _ A16.out).mono ?_); rintro e w' ⟨rfl, ⟨nd, rfl⟩⟩; (try first | exact ⟨rfl, _, World.drewN_drewN _ _ _⟩ | exact ⟨rfl, _, Eq.trans (World.drewN_drewN _ _ _) (congrArg (World.drewN _) (Nat.add_assoc _ _ _))⟩))); try go_wp2_with (first | (go_at_call 111; (with_reducible refine (hanaperref20_named.calls a0_0 false _ A16.out).mono ?_); rintro e w' ⟨rfl, ⟨nd, rfl⟩⟩; (try first | exact ⟨rfl, _, World.drewN_drewN _ _ _⟩ | exact ⟨rfl, _, Eq.trans (World.drewN_drewN _ _ _) (congrArg (World.drewN _) (Nat.add_assoc _ _ _))⟩)) | (go_at_call 111; (with_reducible refine (hanaperref20_named.calls a0_0 false _ A16.out).mono ?_); rintro e w' ⟨rfl, ⟨nd, rfl⟩⟩; (try first | exact ⟨rfl, _, World.drewN_drewN _ _ _⟩ | exact ⟨rfl, _, Eq.trans (World.drewN_drewN _ _ _) (congrArg (World.drewN _) (Nat.add_assoc _ _ _))⟩))))
       go_meet
       case rel => exact ⟨_, (false), (by first | rfl | (simp; done) | (simp [*]; done) | (simp [*]; exact (show ∀ l_ : List UInt8, l_.isEmpty = !(l_ != []) from fun l_ => by cases l_ <;> rfl) _)), H', ⟨by have := HJ3.out; first | omega | exact Nat.le_refl _⟩, ⟨by (with_reducible repeat (first | refine blk_drewN ?_ _ | refine blk_drew ?_ | refine blk_alloc ?_ _)); exact BK101.out⟩, ⟨by repeat (first | (with_reducible first | exact HB.out | apply below_alloc | apply pw_below_drewN | apply below_drew1 | refine below_set ?_ GE101.out) | exact HB.out)⟩⟩
    case rest =>
     clear HC12
     (try clear c1);(try clear p2);(try clear c6);(try clear c6b0);(try clear p6);(try clear c7);(try clear c7b0);(try clear c8);(try clear c8b0);(try clear c11);(try clear c14);(try clear c14b0);(try clear c14b1);(try clear c14b2);(try clear c17);(try clear hcz10_0);(try clear hcz10_1);(try clear hcz10_2);(try clear hcz10_3);(try clear hcz10_4);(try clear hcz15_0);(try clear hcz15_1);(try clear hcz15_2);(try clear hcz15_3);(try clear hcz15_4);(try clear hcz19_0);(try clear hcz19_1);(try clear hcz19_2);(try clear hcz19_3);(try clear hcz19_4);(try clear hcz20_0);(try clear hcz20_1);(try clear hcz20_2);(try clear hcz20_3);(try clear hcz20_4);(try clear hcz9_0);(try clear hcz9_1);(try clear hcz9_2);(try clear hcz9_3);(try clear hcz9_4);(try clear hfz10_0);(try clear hfz10_1);(try clear hfz10_2);(try clear hfz10_3);(try clear hfz10_4);(try clear hfz15_0);(try clear hfz15_1);(try clear hfz15_2);(try clear hfz15_3);(try clear hfz15_4);(try clear hfz19_0);(try clear hfz19_1);(try clear hfz19_2);(try clear hfz19_3);(try clear hfz19_4);(try clear hfz20_0);(try clear hfz20_1);(try clear hfz20_2);(try clear hfz20_3);(try clear hfz20_4);(try clear hfz9_0);(try clear hfz9_1);(try clear hfz9_2);(try clear hfz9_3);(try clear hfz9_4);(try clear p2)
     obtain ⟨kq, x43_11, rfl, HA, HJ11, BK101, HB⟩ := hcut
     cases kq with
     | zero => exact absurd HA.out (by simp [hanaperref20_left.j1])
     | succ kj11 =>
      have H := HA.out
      clear HA
      simp only [hanaperref20_left.j1] at H
      by_cases c21 : x43_11 = true
      ·subst c21
       have H1 : (some (-1)) = some r := by rw [if_pos rfl] at H; exact H
       clear H
       have H := H1
       clear H1
       obtain rfl := Option.some.inj H
       go_wp2
       repeat (go_quiet (fail); try go_wp2)
       go_ret
       exact ⟨by first | rfl | (simp [errW_none, errW_some] <;> rfl) | (simp [*, errW_none, errW_some] <;> rfl), by repeat (first | (with_reducible first | exact HB.out | apply below_alloc | apply pw_below_drewN | apply below_drew1 | refine below_set ?_ GE101.out) | exact HB.out)⟩
      ·replace c21 := Bool.eq_false_iff.mpr c21
       subst c21
       have H1 : (if a0_0 = 5 then (if a0_2 < 0 then (some (-1)) else (if a0_2 > a0_3 then (some (-1)) else (if a0_3 > 1099511627776 then (some (-1)) else (hanaperref20_left.j2 kj11 (wrap64 (a1 - 1)) a2 a0_0 a0_1 a0_2 a0_3 l0_4)))) else (if a0_2 = 0 then (if a0_3 = 0 then (hanaperref20_left.j2 kj11 (wrap64 (a1 - 1)) a2 a0_0 a0_1 a0_2 a0_3 l0_4) else (some (-1))) else (some (-1)))) = some r := by rw [if_neg (show ¬ (false = true) by decide)] at H; exact H
       clear H
       have H := H1
       clear H1
       have HC22 := Aside0.mk H
       clear H
       have hcz23_0 : wc.cell? ⟨gb101, 0, none⟩ = some (.int .i64 a0_0) := (blk_cell BK101.out 0).trans rfl
       have hcz23_1 : wc.cell? ⟨gb101, 1, none⟩ = some (.string a0_1) := (blk_cell BK101.out 1).trans rfl
       have hcz23_2 : wc.cell? ⟨gb101, 2, none⟩ = some (.int .i64 a0_2) := (blk_cell BK101.out 2).trans rfl
       have hcz23_3 : wc.cell? ⟨gb101, 3, none⟩ = some (.int .i64 a0_3) := (blk_cell BK101.out 3).trans rfl
       have hcz23_4 : wc.cell? ⟨gb101, 4, none⟩ = some (.slice A0_4 l0_4.length c0_4) := (blk_cell BK101.out 4).trans rfl
       have hfz23_0 := blk_frozen BK101.out 0
       have hfz23_1 := blk_frozen BK101.out 1
       have hfz23_2 := blk_frozen BK101.out 2
       have hfz23_3 := blk_frozen BK101.out 3
       have hfz23_4 := blk_frozen BK101.out 4
       go_upto_if 46 with (fail)
       repeat (go_quiet (fail); go_upto_if 46 with (fail))
       go_cut [] (fun wc => ∃ (kq : Nat), Aside0 (hanaperref20_left.j2 kq (wrap64 (a1 - 1)) a2 a0_0 a0_1 a0_2 a0_3 l0_4 = some r) ∧ Aside0 (kq ≤ kj11) ∧ Aside0 (wc.heap[gb101]? = some (.cells #[.int .i64 a0_0, .string a0_1, .int .i64 a0_2, .int .i64 a0_3, (.slice A0_4 l0_4.length c0_4)] 40 (0, 0))) ∧ Aside0 (Below w.heap.size w wc))
       case first =>
        have H := HC22.out
        clear HC22
        by_cases c24 : a0_0 = 5
        ·rw [if_pos c24] at H
         have c24b0 : (a0_0 == 5) = true := beq_iff_eq.mpr c24
         have c24b1 : (a0_0 != 5) = false := bne_eq_false_iff_eq.mpr c24
         clear c24
         (first | rw [c24b0] | (simp only [i64_w, i32_w]; rw [c24b0]) | skip)
         by_cases c25 : a0_2 < 0
         ·rw [if_pos c25] at H
          have c25b0 : decide (a0_2 < 0) = true := decide_eq_true c25
          clear c25
          obtain rfl := Option.some.inj H
          have hcz26_0 : wc.cell? ⟨gb101, 0, none⟩ = some (.int .i64 a0_0) := (blk_cell BK101.out 0).trans rfl
          have hcz26_1 : wc.cell? ⟨gb101, 1, none⟩ = some (.string a0_1) := (blk_cell BK101.out 1).trans rfl
          have hcz26_2 : wc.cell? ⟨gb101, 2, none⟩ = some (.int .i64 a0_2) := (blk_cell BK101.out 2).trans rfl
          have hcz26_3 : wc.cell? ⟨gb101, 3, none⟩ = some (.int .i64 a0_3) := (blk_cell BK101.out 3).trans rfl
          have hcz26_4 : wc.cell? ⟨gb101, 4, none⟩ = some (.slice A0_4 l0_4.length c0_4) := (blk_cell BK101.out 4).trans rfl
          have hfz26_0 := blk_frozen BK101.out 0
          have hfz26_1 := blk_frozen BK101.out 1
          have hfz26_2 := blk_frozen BK101.out 2
          have hfz26_3 := blk_frozen BK101.out 3
          have hfz26_4 := blk_frozen BK101.out 4
          go_wp2
          repeat (go_quiet (fail); try go_wp2)
          go_ret
          exact ⟨by first | rfl | (simp [errW_none, errW_some] <;> rfl) | (simp [*, errW_none, errW_some] <;> rfl), by repeat (first | (with_reducible first | exact HB.out | apply below_alloc | apply pw_below_drewN | apply below_drew1 | refine below_set ?_ GE101.out) | exact HB.out)⟩
         ·rw [if_neg c25] at H
          have c25b0 : decide (a0_2 < 0) = false := decide_eq_false c25
          clear c25
          by_cases c27 : a0_2 > a0_3
          ·rw [if_pos c27] at H
           have c27b0 : decide (a0_3 < a0_2) = true := decide_eq_true c27
           clear c27
           obtain rfl := Option.some.inj H
           have hcz28_0 : wc.cell? ⟨gb101, 0, none⟩ = some (.int .i64 a0_0) := (blk_cell BK101.out 0).trans rfl
           have hcz28_1 : wc.cell? ⟨gb101, 1, none⟩ = some (.string a0_1) := (blk_cell BK101.out 1).trans rfl
           have hcz28_2 : wc.cell? ⟨gb101, 2, none⟩ = some (.int .i64 a0_2) := (blk_cell BK101.out 2).trans rfl
           have hcz28_3 : wc.cell? ⟨gb101, 3, none⟩ = some (.int .i64 a0_3) := (blk_cell BK101.out 3).trans rfl
           have hcz28_4 : wc.cell? ⟨gb101, 4, none⟩ = some (.slice A0_4 l0_4.length c0_4) := (blk_cell BK101.out 4).trans rfl
           have hfz28_0 := blk_frozen BK101.out 0
           have hfz28_1 := blk_frozen BK101.out 1
           have hfz28_2 := blk_frozen BK101.out 2
           have hfz28_3 := blk_frozen BK101.out 3
           have hfz28_4 := blk_frozen BK101.out 4
           go_wp2
           repeat (go_quiet (fail); try go_wp2)
           go_ret
           exact ⟨by first | rfl | (simp [errW_none, errW_some] <;> rfl) | (simp [*, errW_none, errW_some] <;> rfl), by repeat (first | (with_reducible first | exact HB.out | apply below_alloc | apply pw_below_drewN | apply below_drew1 | refine below_set ?_ GE101.out) | exact HB.out)⟩
          ·rw [if_neg c27] at H
           have c27b0 : decide (a0_3 < a0_2) = false := decide_eq_false c27
           clear c27
           by_cases c29 : a0_3 > 1099511627776
           ·rw [if_pos c29] at H
            have c29b0 : decide (1099511627776 < a0_3) = true := decide_eq_true c29
            clear c29
            obtain rfl := Option.some.inj H
            have hcz30_0 : wc.cell? ⟨gb101, 0, none⟩ = some (.int .i64 a0_0) := (blk_cell BK101.out 0).trans rfl
            have hcz30_1 : wc.cell? ⟨gb101, 1, none⟩ = some (.string a0_1) := (blk_cell BK101.out 1).trans rfl
            have hcz30_2 : wc.cell? ⟨gb101, 2, none⟩ = some (.int .i64 a0_2) := (blk_cell BK101.out 2).trans rfl
            have hcz30_3 : wc.cell? ⟨gb101, 3, none⟩ = some (.int .i64 a0_3) := (blk_cell BK101.out 3).trans rfl
            have hcz30_4 : wc.cell? ⟨gb101, 4, none⟩ = some (.slice A0_4 l0_4.length c0_4) := (blk_cell BK101.out 4).trans rfl
            have hfz30_0 := blk_frozen BK101.out 0
            have hfz30_1 := blk_frozen BK101.out 1
            have hfz30_2 := blk_frozen BK101.out 2
            have hfz30_3 := blk_frozen BK101.out 3
            have hfz30_4 := blk_frozen BK101.out 4
            go_wp2
            repeat (go_quiet (fail); try go_wp2)
            go_ret
            exact ⟨by first | rfl | (simp [errW_none, errW_some] <;> rfl) | (simp [*, errW_none, errW_some] <;> rfl), by repeat (first | (with_reducible first | exact HB.out | apply below_alloc | apply pw_below_drewN | apply below_drew1 | refine below_set ?_ GE101.out) | exact HB.out)⟩
           ·rw [if_neg c29] at H
            have c29b0 : decide (1099511627776 < a0_3) = false := decide_eq_false c29
            clear c29
            have H' := Aside0.mk H
            clear H
            have hcz31_0 : wc.cell? ⟨gb101, 0, none⟩ = some (.int .i64 a0_0) := (blk_cell BK101.out 0).trans rfl
            have hcz31_1 : wc.cell? ⟨gb101, 1, none⟩ = some (.string a0_1) := (blk_cell BK101.out 1).trans rfl
            have hcz31_2 : wc.cell? ⟨gb101, 2, none⟩ = some (.int .i64 a0_2) := (blk_cell BK101.out 2).trans rfl
            have hcz31_3 : wc.cell? ⟨gb101, 3, none⟩ = some (.int .i64 a0_3) := (blk_cell BK101.out 3).trans rfl
            have hcz31_4 : wc.cell? ⟨gb101, 4, none⟩ = some (.slice A0_4 l0_4.length c0_4) := (blk_cell BK101.out 4).trans rfl
            have hfz31_0 := blk_frozen BK101.out 0
            have hfz31_1 := blk_frozen BK101.out 1
            have hfz31_2 := blk_frozen BK101.out 2
            have hfz31_3 := blk_frozen BK101.out 3
            have hfz31_4 := blk_frozen BK101.out 4
            go_wp2
            repeat (go_quiet (fail); try go_wp2)
            go_meet
            case rel => exact ⟨_, H', ⟨by have := HJ3.out; have := HJ11.out; first | omega | exact Nat.le_refl _⟩, ⟨by (with_reducible repeat (first | refine blk_drewN ?_ _ | refine blk_drew ?_ | refine blk_alloc ?_ _)); exact BK101.out⟩, ⟨by repeat (first | (with_reducible first | exact HB.out | apply below_alloc | apply pw_below_drewN | apply below_drew1 | refine below_set ?_ GE101.out) | exact HB.out)⟩⟩
        ·rw [if_neg c24] at H
         have c24b0 : (a0_0 == 5) = false := beq_eq_false_iff_ne.mpr c24
         have c24b1 : (a0_0 != 5) = true := bne_iff_ne.mpr c24
         (first | rw [c24b0] | (simp only [i64_w, i32_w]; rw [c24b0]) | skip)
         by_cases c32 : a0_2 = 0
         ·rw [if_pos c32] at H
          have c32b0 : (a0_2 == 0) = true := beq_iff_eq.mpr c32
          have c32b1 : (a0_2 != 0) = false := bne_eq_false_iff_eq.mpr c32
          clear c32
          by_cases c33 : a0_3 = 0
          ·rw [if_pos c33] at H
           have c33b0 : (a0_3 == 0) = true := beq_iff_eq.mpr c33
           have c33b1 : (a0_3 != 0) = false := bne_eq_false_iff_eq.mpr c33
           clear c33
           have H' := Aside0.mk H
           clear H
           have hcz34_0 : wc.cell? ⟨gb101, 0, none⟩ = some (.int .i64 a0_0) := (blk_cell BK101.out 0).trans rfl
           have hcz34_1 : wc.cell? ⟨gb101, 1, none⟩ = some (.string a0_1) := (blk_cell BK101.out 1).trans rfl
           have hcz34_2 : wc.cell? ⟨gb101, 2, none⟩ = some (.int .i64 a0_2) := (blk_cell BK101.out 2).trans rfl
           have hcz34_3 : wc.cell? ⟨gb101, 3, none⟩ = some (.int .i64 a0_3) := (blk_cell BK101.out 3).trans rfl
           have hcz34_4 : wc.cell? ⟨gb101, 4, none⟩ = some (.slice A0_4 l0_4.length c0_4) := (blk_cell BK101.out 4).trans rfl
           have hfz34_0 := blk_frozen BK101.out 0
           have hfz34_1 := blk_frozen BK101.out 1
           have hfz34_2 := blk_frozen BK101.out 2
           have hfz34_3 := blk_frozen BK101.out 3
           have hfz34_4 := blk_frozen BK101.out 4
           go_wp2
           repeat (go_quiet (fail); try go_wp2)
           go_meet
           case rel => exact ⟨_, H', ⟨by have := HJ3.out; have := HJ11.out; first | omega | exact Nat.le_refl _⟩, ⟨by (with_reducible repeat (first | refine blk_drewN ?_ _ | refine blk_drew ?_ | refine blk_alloc ?_ _)); exact BK101.out⟩, ⟨by repeat (first | (with_reducible first | exact HB.out | apply below_alloc | apply pw_below_drewN | apply below_drew1 | refine below_set ?_ GE101.out) | exact HB.out)⟩⟩
          ·rw [if_neg c33] at H
           have c33b0 : (a0_3 == 0) = false := beq_eq_false_iff_ne.mpr c33
           have c33b1 : (a0_3 != 0) = true := bne_iff_ne.mpr c33
           obtain rfl := Option.some.inj H
           have hcz35_0 : wc.cell? ⟨gb101, 0, none⟩ = some (.int .i64 a0_0) := (blk_cell BK101.out 0).trans rfl
           have hcz35_1 : wc.cell? ⟨gb101, 1, none⟩ = some (.string a0_1) := (blk_cell BK101.out 1).trans rfl
           have hcz35_2 : wc.cell? ⟨gb101, 2, none⟩ = some (.int .i64 a0_2) := (blk_cell BK101.out 2).trans rfl
           have hcz35_3 : wc.cell? ⟨gb101, 3, none⟩ = some (.int .i64 a0_3) := (blk_cell BK101.out 3).trans rfl
           have hcz35_4 : wc.cell? ⟨gb101, 4, none⟩ = some (.slice A0_4 l0_4.length c0_4) := (blk_cell BK101.out 4).trans rfl
           have hfz35_0 := blk_frozen BK101.out 0
           have hfz35_1 := blk_frozen BK101.out 1
           have hfz35_2 := blk_frozen BK101.out 2
           have hfz35_3 := blk_frozen BK101.out 3
           have hfz35_4 := blk_frozen BK101.out 4
           go_wp2
           repeat (go_quiet (fail); try go_wp2)
           go_ret
           exact ⟨by first | rfl | (simp [errW_none, errW_some] <;> rfl) | (simp [*, errW_none, errW_some] <;> rfl), by repeat (first | (with_reducible first | exact HB.out | apply below_alloc | apply pw_below_drewN | apply below_drew1 | refine below_set ?_ GE101.out) | exact HB.out)⟩
         ·rw [if_neg c32] at H
          have c32b0 : (a0_2 == 0) = false := beq_eq_false_iff_ne.mpr c32
          have c32b1 : (a0_2 != 0) = true := bne_iff_ne.mpr c32
          obtain rfl := Option.some.inj H
          have hcz36_0 : wc.cell? ⟨gb101, 0, none⟩ = some (.int .i64 a0_0) := (blk_cell BK101.out 0).trans rfl
          have hcz36_1 : wc.cell? ⟨gb101, 1, none⟩ = some (.string a0_1) := (blk_cell BK101.out 1).trans rfl
          have hcz36_2 : wc.cell? ⟨gb101, 2, none⟩ = some (.int .i64 a0_2) := (blk_cell BK101.out 2).trans rfl
          have hcz36_3 : wc.cell? ⟨gb101, 3, none⟩ = some (.int .i64 a0_3) := (blk_cell BK101.out 3).trans rfl
          have hcz36_4 : wc.cell? ⟨gb101, 4, none⟩ = some (.slice A0_4 l0_4.length c0_4) := (blk_cell BK101.out 4).trans rfl
          have hfz36_0 := blk_frozen BK101.out 0
          have hfz36_1 := blk_frozen BK101.out 1
          have hfz36_2 := blk_frozen BK101.out 2
          have hfz36_3 := blk_frozen BK101.out 3
          have hfz36_4 := blk_frozen BK101.out 4
          go_wp2
          repeat (go_quiet (fail); try go_wp2)
          go_ret
          exact ⟨by first | rfl | (simp [errW_none, errW_some] <;> rfl) | (simp [*, errW_none, errW_some] <;> rfl), by repeat (first | (with_reducible first | exact HB.out | apply below_alloc | apply pw_below_drewN | apply below_drew1 | refine below_set ?_ GE101.out) | exact HB.out)⟩
       case rest =>
        clear HC22
        (try clear c1);(try clear c2);(try clear p2);(try clear c3);(try clear c6);(try clear c6b0);(try clear p6);(try clear c7);(try clear c7b0);(try clear c8);(try clear c8b0);(try clear c11);(try clear c14);(try clear c14b0);(try clear c14b1);(try clear c14b2);(try clear c17);(try clear c21);(try clear c24);(try clear c24b0);(try clear c24b1);(try clear c25);(try clear c25b0);(try clear c27);(try clear c27b0);(try clear c29);(try clear c29b0);(try clear c32);(try clear c32b0);(try clear c32b1);(try clear c33);(try clear c33b0);(try clear c33b1);(try clear hcz10_0);(try clear hcz10_1);(try clear hcz10_2);(try clear hcz10_3);(try clear hcz10_4);(try clear hcz15_0);(try clear hcz15_1);(try clear hcz15_2);(try clear hcz15_3);(try clear hcz15_4);(try clear hcz19_0);(try clear hcz19_1);(try clear hcz19_2);(try clear hcz19_3);(try clear hcz19_4);(try clear hcz20_0);(try clear hcz20_1);(try clear hcz20_2);(try clear hcz20_3);(try clear hcz20_4);(try clear hcz23_0);(try clear hcz23_1);(try clear hcz23_2);(try clear hcz23_3);(try clear hcz23_4);(try clear hcz26_0);(try clear hcz26_1);(try clear hcz26_2);(try clear hcz26_3);(try clear hcz26_4);(try clear hcz28_0);(try clear hcz28_1);(try clear hcz28_2);(try clear hcz28_3);(try clear hcz28_4);(try clear hcz30_0);(try clear hcz30_1);(try clear hcz30_2);(try clear hcz30_3);(try clear hcz30_4);(try clear hcz31_0);(try clear hcz31_1);(try clear hcz31_2);(try clear hcz31_3);(try clear hcz31_4);(try clear hcz34_0);(try clear hcz34_1);(try clear hcz34_2);(try clear hcz34_3);(try clear hcz34_4);(try clear hcz35_0);(try clear hcz35_1);(try clear hcz35_2);(try clear hcz35_3);(try clear hcz35_4);(try clear hcz36_0);(try clear hcz36_1);(try clear hcz36_2);(try clear hcz36_3);(try clear hcz36_4);(try clear hcz9_0);(try clear hcz9_1);(try clear hcz9_2);(try clear hcz9_3);(try clear hcz9_4);(try clear hfz10_0);(try clear hfz10_1);(try clear hfz10_2);(try clear hfz10_3);(try clear hfz10_4);(try clear hfz15_0);(try clear hfz15_1);(try clear hfz15_2);(try clear hfz15_3);(try clear hfz15_4);(try clear hfz19_0);(try clear hfz19_1);(try clear hfz19_2);(try clear hfz19_3);(try clear hfz19_4);(try clear hfz20_0);(try clear hfz20_1);(try clear hfz20_2);(try clear hfz20_3);(try clear hfz20_4);(try clear hfz23_0);(try clear hfz23_1);(try clear hfz23_2);(try clear hfz23_3);(try clear hfz23_4);(try clear hfz26_0);(try clear hfz26_1);(try clear hfz26_2);(try clear hfz26_3);(try clear hfz26_4);(try clear hfz28_0);(try clear hfz28_1);(try clear hfz28_2);(try clear hfz28_3);(try clear hfz28_4);(try clear hfz30_0);(try clear hfz30_1);(try clear hfz30_2);(try clear hfz30_3);(try clear hfz30_4);(try clear hfz31_0);(try clear hfz31_1);(try clear hfz31_2);(try clear hfz31_3);(try clear hfz31_4);(try clear hfz34_0);(try clear hfz34_1);(try clear hfz34_2);(try clear hfz34_3);(try clear hfz34_4);(try clear hfz35_0);(try clear hfz35_1);(try clear hfz35_2);(try clear hfz35_3);(try clear hfz35_4);(try clear hfz36_0);(try clear hfz36_1);(try clear hfz36_2)
        (try clear hfz36_3);(try clear hfz36_4);(try clear hfz9_0);(try clear hfz9_1);(try clear hfz9_2);(try clear hfz9_3);(try clear hfz9_4);(try clear p2);(try clear p6)
        obtain ⟨kq, HA, HJ21, BK101, HB⟩ := hcut
        cases kq with
        | zero => exact absurd HA.out (by simp [hanaperref20_left.j2])
        | succ kj21 =>
         have H := HA.out
         clear HA
         simp only [hanaperref20_left.j2] at H
         have HC37 := Aside0.mk H
         clear H
         go_upto_region 11 with (fail)
         repeat (go_quiet (fail); go_upto_region 11 with (fail))
         go_cut [113] (fun v113 wc => ∃ (kq : Nat) (x113_36 : Bool), v113 = .bool x113_36 ∧ Aside0 (hanaperref20_left.j3 kq (wrap64 (a1 - 1)) a2 x113_36 a0_0 a0_1 a0_2 a0_3 l0_4 = some r) ∧ Aside0 (kq ≤ kj21) ∧ Aside0 (wc.heap[gb101]? = some (.cells #[.int .i64 a0_0, .string a0_1, .int .i64 a0_2, .int .i64 a0_3, (.slice A0_4 l0_4.length c0_4)] 40 (0, 0))) ∧ Aside0 (Below w.heap.size w wc))
         case first =>
          have H := HC37.out
          clear HC37
          replace H := Option.bind_eq_some_iff.mp H
          obtain ⟨t105, A380, H⟩ := H
          replace H : (if t105 = true then (if (l0_4.length : Int) < 2 then (hanaperref20_left.j3 kj21 (wrap64 (a1 - 1)) a2 true a0_0 a0_1 a0_2 a0_3 l0_4) else (if a0_0 = 8 then (if (l0_4.length : Int) = 1 then ((hanaperref20_many.f a0_0).bind fun t106 => (if t106 = true then (hanaperref20_left.j3 kj21 (wrap64 (a1 - 1)) a2 (decide ((l0_4.length : Int) > (wrap64 (a1 - 1)))) a0_0 a0_1 a0_2 a0_3 l0_4) else (hanaperref20_left.j3 kj21 (wrap64 (a1 - 1)) a2 (decide ((l0_4.length : Int) > (wrap64 (a1 - 1)))) a0_0 a0_1 a0_2 a0_3 l0_4))) else (hanaperref20_left.j3 kj21 (wrap64 (a1 - 1)) a2 true a0_0 a0_1 a0_2 a0_3 l0_4)) else ((hanaperref20_many.f a0_0).bind fun t107 => (if t107 = true then (hanaperref20_left.j3 kj21 (wrap64 (a1 - 1)) a2 (decide ((l0_4.length : Int) > (wrap64 (a1 - 1)))) a0_0 a0_1 a0_2 a0_3 l0_4) else (if (l0_4.length : Int) > 0 then (hanaperref20_left.j3 kj21 (wrap64 (a1 - 1)) a2 true a0_0 a0_1 a0_2 a0_3 l0_4) else (hanaperref20_left.j3 kj21 (wrap64 (a1 - 1)) a2 (decide ((l0_4.length : Int) > (wrap64 (a1 - 1)))) a0_0 a0_1 a0_2 a0_3 l0_4)))))) else (if a0_0 = 8 then (if (l0_4.length : Int) = 1 then ((hanaperref20_many.f a0_0).bind fun t108 => (if t108 = true then (hanaperref20_left.j3 kj21 (wrap64 (a1 - 1)) a2 (decide ((l0_4.length : Int) > (wrap64 (a1 - 1)))) a0_0 a0_1 a0_2 a0_3 l0_4) else (hanaperref20_left.j3 kj21 (wrap64 (a1 - 1)) a2 (decide ((l0_4.length : Int) > (wrap64 (a1 - 1)))) a0_0 a0_1 a0_2 a0_3 l0_4))) else (hanaperref20_left.j3 kj21 (wrap64 (a1 - 1)) a2 true a0_0 a0_1 a0_2 a0_3 l0_4)) else ((hanaperref20_many.f a0_0).bind fun t109 => (if t109 = true then (hanaperref20_left.j3 kj21 (wrap64 (a1 - 1)) a2 (decide ((l0_4.length : Int) > (wrap64 (a1 - 1)))) a0_0 a0_1 a0_2 a0_3 l0_4) else (if (l0_4.length : Int) > 0 then (hanaperref20_left.j3 kj21 (wrap64 (a1 - 1)) a2 true a0_0 a0_1 a0_2 a0_3 l0_4) else (hanaperref20_left.j3 kj21 (wrap64 (a1 - 1)) a2 (decide ((l0_4.length : Int) > (wrap64 (a1 - 1)))) a0_0 a0_1 a0_2 a0_3 l0_4)))))) = some r := H
          have A38 := Aside0.mk A380
          clear A380
          by_cases c39 : t105 = true
          ·subst c39
           have H1 : (if (l0_4.length : Int) < 2 then (hanaperref20_left.j3 kj21 (wrap64 (a1 - 1)) a2 true a0_0 a0_1 a0_2 a0_3 l0_4) else (if a0_0 = 8 then (if (l0_4.length : Int) = 1 then ((hanaperref20_many.f a0_0).bind fun t106 => (if t106 = true then (hanaperref20_left.j3 kj21 (wrap64 (a1 - 1)) a2 (decide ((l0_4.length : Int) > (wrap64 (a1 - 1)))) a0_0 a0_1 a0_2 a0_3 l0_4) else (hanaperref20_left.j3 kj21 (wrap64 (a1 - 1)) a2 (decide ((l0_4.length : Int) > (wrap64 (a1 - 1)))) a0_0 a0_1 a0_2 a0_3 l0_4))) else (hanaperref20_left.j3 kj21 (wrap64 (a1 - 1)) a2 true a0_0 a0_1 a0_2 a0_3 l0_4)) else ((hanaperref20_many.f a0_0).bind fun t107 => (if t107 = true then (hanaperref20_left.j3 kj21 (wrap64 (a1 - 1)) a2 (decide ((l0_4.length : Int) > (wrap64 (a1 - 1)))) a0_0 a0_1 a0_2 a0_3 l0_4) else (if (l0_4.length : Int) > 0 then (hanaperref20_left.j3 kj21 (wrap64 (a1 - 1)) a2 true a0_0 a0_1 a0_2 a0_3 l0_4) else (hanaperref20_left.j3 kj21 (wrap64 (a1 - 1)) a2 (decide ((l0_4.length : Int) > (wrap64 (a1 - 1)))) a0_0 a0_1 a0_2 a0_3 l0_4)))))) = some r := by rw [if_pos rfl] at H; exact H
           clear H
           have H := H1
           clear H1
           by_cases c40 : (l0_4.length : Int) < 2
           ·rw [if_pos c40] at H
            have c40b0 : decide ((l0_4.length : Int) < 2) = true := decide_eq_true c40
            have c40b1 : decide (l0_4.length < 2) = true := decide_eq_true (by omega)
            clear c40
            (first | rw [c40b0] | (simp only [i64_w, i32_w]; rw [c40b0]) | skip)
            have H' := Aside0.mk H
            clear H
            have hcz41_0 : wc.cell? ⟨gb101, 0, none⟩ = some (.int .i64 a0_0) := (blk_cell BK101.out 0).trans rfl
            have hcz41_1 : wc.cell? ⟨gb101, 1, none⟩ = some (.string a0_1) := (blk_cell BK101.out 1).trans rfl
            have hcz41_2 : wc.cell? ⟨gb101, 2, none⟩ = some (.int .i64 a0_2) := (blk_cell BK101.out 2).trans rfl
            have hcz41_3 : wc.cell? ⟨gb101, 3, none⟩ = some (.int .i64 a0_3) := (blk_cell BK101.out 3).trans rfl
            have hcz41_4 : wc.cell? ⟨gb101, 4, none⟩ = some (.slice A0_4 l0_4.length c0_4) := (blk_cell BK101.out 4).trans rfl
            have hfz41_0 := blk_frozen BK101.out 0
            have hfz41_1 := blk_frozen BK101.out 1
            have hfz41_2 := blk_frozen BK101.out 2
            have hfz41_3 := blk_frozen BK101.out 3
            have hfz41_4 := blk_frozen BK101.out 4
            go_wp2_with (first | (go_at_call 74; (with_reducible refine (hanaperref20_many.calls a0_0 true _ A38.out).mono ?_); rintro e w' ⟨rfl, ⟨nd, rfl⟩⟩; (try first | exact ⟨rfl, _, World.drewN_drewN _ _ _⟩ | exact ⟨rfl, _, Eq.trans (World.drewN_drewN _ _ _) (congrArg (World.drewN _) (Nat.add_assoc _ _ _))⟩)))
            repeat (go_quiet (first | (go_at_call 74; (with_reducible refine (hanaperref20_many.calls a0_0 true _ A38.out).mono ?_); rintro e w' ⟨rfl, ⟨nd, rfl⟩⟩; (try first | exact ⟨rfl, _, World.drewN_drewN _ _ _⟩ | exact ⟨rfl, _, Eq.trans (World.drewN_drewN _ _ _) (congrArg (World.drewN _) (Nat.add_assoc _ _ _))⟩))); try go_wp2_with (first | (go_at_call 74; (with_reducible refine (hanaperref20_many.calls a0_0 true _ A38.out).mono ?_); rintro e w' ⟨rfl, ⟨nd, rfl⟩⟩; (try first | exact ⟨rfl, _, World.drewN_drewN _ _ _⟩ | exact ⟨rfl, _, Eq.trans (World.drewN_drewN _ _ _) (congrArg (World.drewN _) (Nat.add_assoc _ _ _))⟩))))
            go_meet
            case rel => exact ⟨_, (true), (by first | rfl | (simp; done) | (simp [*]; done) | (simp [*]; exact (show ∀ l_ : List UInt8, l_.isEmpty = !(l_ != []) from fun l_ => by cases l_ <;> rfl) _)), H', ⟨by have := HJ3.out; have := HJ11.out; have := HJ21.out; first | omega | exact Nat.le_refl _⟩, ⟨by (with_reducible repeat (first | refine blk_drewN ?_ _ | refine blk_drew ?_ | refine blk_alloc ?_ _)); exact BK101.out⟩, ⟨by repeat (first | (with_reducible first | exact HB.out | apply below_alloc | apply pw_below_drewN | apply below_drew1 | refine below_set ?_ GE101.out) | exact HB.out)⟩⟩
           ·rw [if_neg c40] at H
            have c40b0 : decide ((l0_4.length : Int) < 2) = false := decide_eq_false c40
            have c40b1 : decide (l0_4.length < 2) = false := decide_eq_false (by omega)
            clear c40
            (first | rw [c40b0] | (simp only [i64_w, i32_w]; rw [c40b0]) | skip)
            by_cases c42 : a0_0 = 8
            ·rw [if_pos c42] at H
             have c42b0 : (a0_0 == 8) = true := beq_iff_eq.mpr c42
             have c42b1 : (a0_0 != 8) = false := bne_eq_false_iff_eq.mpr c42
             clear c42
             by_cases c43 : (l0_4.length : Int) = 1
             ·rw [if_pos c43] at H
              have c43b0 : ((l0_4.length : Int) == 1) = true := beq_iff_eq.mpr c43
              have c43b1 : ((l0_4.length : Int) != 1) = false := bne_eq_false_iff_eq.mpr c43
              clear c43
              replace H := Option.bind_eq_some_iff.mp H
              obtain ⟨t106, A440, H⟩ := H
              replace H : (if t106 = true then (hanaperref20_left.j3 kj21 (wrap64 (a1 - 1)) a2 (decide ((l0_4.length : Int) > (wrap64 (a1 - 1)))) a0_0 a0_1 a0_2 a0_3 l0_4) else (hanaperref20_left.j3 kj21 (wrap64 (a1 - 1)) a2 (decide ((l0_4.length : Int) > (wrap64 (a1 - 1)))) a0_0 a0_1 a0_2 a0_3 l0_4)) = some r := H
              have A44 := Aside0.mk A440
              clear A440
              by_cases c45 : t106 = true
              ·subst c45
               have H1 : (hanaperref20_left.j3 kj21 (wrap64 (a1 - 1)) a2 (decide ((l0_4.length : Int) > (wrap64 (a1 - 1)))) a0_0 a0_1 a0_2 a0_3 l0_4) = some r := by rw [if_pos rfl] at H; exact H
               clear H
               have H := H1
               clear H1
               have H' := Aside0.mk H
               clear H
               have hcz46_0 : wc.cell? ⟨gb101, 0, none⟩ = some (.int .i64 a0_0) := (blk_cell BK101.out 0).trans rfl
               have hcz46_1 : wc.cell? ⟨gb101, 1, none⟩ = some (.string a0_1) := (blk_cell BK101.out 1).trans rfl
               have hcz46_2 : wc.cell? ⟨gb101, 2, none⟩ = some (.int .i64 a0_2) := (blk_cell BK101.out 2).trans rfl
               have hcz46_3 : wc.cell? ⟨gb101, 3, none⟩ = some (.int .i64 a0_3) := (blk_cell BK101.out 3).trans rfl
               have hcz46_4 : wc.cell? ⟨gb101, 4, none⟩ = some (.slice A0_4 l0_4.length c0_4) := (blk_cell BK101.out 4).trans rfl
               have hfz46_0 := blk_frozen BK101.out 0
               have hfz46_1 := blk_frozen BK101.out 1
               have hfz46_2 := blk_frozen BK101.out 2
               have hfz46_3 := blk_frozen BK101.out 3
               have hfz46_4 := blk_frozen BK101.out 4
               go_wp2_with (first | (go_at_call 74; (with_reducible refine (hanaperref20_many.calls a0_0 true _ A38.out).mono ?_); rintro e w' ⟨rfl, ⟨nd, rfl⟩⟩; (try first | exact ⟨rfl, _, World.drewN_drewN _ _ _⟩ | exact ⟨rfl, _, Eq.trans (World.drewN_drewN _ _ _) (congrArg (World.drewN _) (Nat.add_assoc _ _ _))⟩)) | (go_at_call 74; (with_reducible refine (hanaperref20_many.calls a0_0 true _ A44.out).mono ?_); rintro e w' ⟨rfl, ⟨nd, rfl⟩⟩; (try first | exact ⟨rfl, _, World.drewN_drewN _ _ _⟩ | exact ⟨rfl, _, Eq.trans (World.drewN_drewN _ _ _) (congrArg (World.drewN _) (Nat.add_assoc _ _ _))⟩)))
               repeat (go_quiet (first | (go_at_call 74; (with_reducible refine (hanaperref20_many.calls a0_0 true _ A38.out).mono ?_); rintro e w' ⟨rfl, ⟨nd, rfl⟩⟩; (try first | exact ⟨rfl, _, World.drewN_drewN _ _ _⟩ | exact ⟨rfl, _, Eq.trans (World.drewN_drewN _ _ _) (congrArg (World.drewN _) (Nat.add_assoc _ _ _))⟩)) | (go_at_call 74; (with_reducible refine (hanaperref20_many.calls a0_0 true _ A44.out).mono ?_); rintro e w' ⟨rfl, ⟨nd, rfl⟩⟩; (try first | exact ⟨rfl, _, World.drewN_drewN _ _ _⟩ | exact ⟨rfl, _, Eq.trans (World.drewN_drewN _ _ _) (congrArg (World.drewN _) (Nat.add_assoc _ _ _))⟩))); try go_wp2_with (first | (go_at_call 74; (with_reducible refine (hanaperref20_many.calls a0_0 true _ A38.out).mono ?_); rintro e w' ⟨rfl, ⟨nd, rfl⟩⟩; (try first | exact ⟨rfl, _, World.drewN_drewN _ _ _⟩ | exact ⟨rfl, _, Eq.trans (World.drewN_drewN _ _ _) (congrArg (World.drewN _) (Nat.add_assoc _ _ _))⟩)) | (go_at_call 74; (with_reducible refine (hanaperref20_many.calls a0_0 true _ A44.out).mono ?_); rintro e w' ⟨rfl, ⟨nd, rfl⟩⟩; (try first | exact ⟨rfl, _, World.drewN_drewN _ _ _⟩ | exact ⟨rfl, _, Eq.trans (World.drewN_drewN _ _ _) (congrArg (World.drewN _) (Nat.add_assoc _ _ _))⟩))))
               go_meet
               case rel => exact ⟨_, (decide ((l0_4.length : Int) > (wrap64 (a1 - 1)))), (by first | rfl | (simp; done) | (simp [*]; done) | (simp [*]; exact (show ∀ l_ : List UInt8, l_.isEmpty = !(l_ != []) from fun l_ => by cases l_ <;> rfl) _)), H', ⟨by have := HJ3.out; have := HJ11.out; have := HJ21.out; first | omega | exact Nat.le_refl _⟩, ⟨by (with_reducible repeat (first | refine blk_drewN ?_ _ | refine blk_drew ?_ | refine blk_alloc ?_ _)); exact BK101.out⟩, ⟨by repeat (first | (with_reducible first | exact HB.out | apply below_alloc | apply pw_below_drewN | apply below_drew1 | refine below_set ?_ GE101.out) | exact HB.out)⟩⟩
              ·replace c45 := Bool.eq_false_iff.mpr c45
               subst c45
               have H1 : (hanaperref20_left.j3 kj21 (wrap64 (a1 - 1)) a2 (decide ((l0_4.length : Int) > (wrap64 (a1 - 1)))) a0_0 a0_1 a0_2 a0_3 l0_4) = some r := by rw [if_neg (show ¬ (false = true) by decide)] at H; exact H
               clear H
               have H := H1
               clear H1
               have H' := Aside0.mk H
               clear H
               have hcz47_0 : wc.cell? ⟨gb101, 0, none⟩ = some (.int .i64 a0_0) := (blk_cell BK101.out 0).trans rfl
               have hcz47_1 : wc.cell? ⟨gb101, 1, none⟩ = some (.string a0_1) := (blk_cell BK101.out 1).trans rfl
               have hcz47_2 : wc.cell? ⟨gb101, 2, none⟩ = some (.int .i64 a0_2) := (blk_cell BK101.out 2).trans rfl
               have hcz47_3 : wc.cell? ⟨gb101, 3, none⟩ = some (.int .i64 a0_3) := (blk_cell BK101.out 3).trans rfl
               have hcz47_4 : wc.cell? ⟨gb101, 4, none⟩ = some (.slice A0_4 l0_4.length c0_4) := (blk_cell BK101.out 4).trans rfl
               have hfz47_0 := blk_frozen BK101.out 0
               have hfz47_1 := blk_frozen BK101.out 1
               have hfz47_2 := blk_frozen BK101.out 2
               have hfz47_3 := blk_frozen BK101.out 3
               have hfz47_4 := blk_frozen BK101.out 4
               exact absurd (Option.some.inj (A38.out.symm.trans A44.out)) (by decide)
             ·rw [if_neg c43] at H
              have c43b0 : ((l0_4.length : Int) == 1) = false := beq_eq_false_iff_ne.mpr c43
              have c43b1 : ((l0_4.length : Int) != 1) = true := bne_iff_ne.mpr c43
              have H' := Aside0.mk H
              clear H
              have hcz48_0 : wc.cell? ⟨gb101, 0, none⟩ = some (.int .i64 a0_0) := (blk_cell BK101.out 0).trans rfl
              have hcz48_1 : wc.cell? ⟨gb101, 1, none⟩ = some (.string a0_1) := (blk_cell BK101.out 1).trans rfl
              have hcz48_2 : wc.cell? ⟨gb101, 2, none⟩ = some (.int .i64 a0_2) := (blk_cell BK101.out 2).trans rfl
              have hcz48_3 : wc.cell? ⟨gb101, 3, none⟩ = some (.int .i64 a0_3) := (blk_cell BK101.out 3).trans rfl
              have hcz48_4 : wc.cell? ⟨gb101, 4, none⟩ = some (.slice A0_4 l0_4.length c0_4) := (blk_cell BK101.out 4).trans rfl
              have hfz48_0 := blk_frozen BK101.out 0
              have hfz48_1 := blk_frozen BK101.out 1
              have hfz48_2 := blk_frozen BK101.out 2
              have hfz48_3 := blk_frozen BK101.out 3
              have hfz48_4 := blk_frozen BK101.out 4
              go_wp2_with (first | (go_at_call 74; (with_reducible refine (hanaperref20_many.calls a0_0 true _ A38.out).mono ?_); rintro e w' ⟨rfl, ⟨nd, rfl⟩⟩; (try first | exact ⟨rfl, _, World.drewN_drewN _ _ _⟩ | exact ⟨rfl, _, Eq.trans (World.drewN_drewN _ _ _) (congrArg (World.drewN _) (Nat.add_assoc _ _ _))⟩)))
              repeat (go_quiet (first | (go_at_call 74; (with_reducible refine (hanaperref20_many.calls a0_0 true _ A38.out).mono ?_); rintro e w' ⟨rfl, ⟨nd, rfl⟩⟩; (try first | exact ⟨rfl, _, World.drewN_drewN _ _ _⟩ | exact ⟨rfl, _, Eq.trans (World.drewN_drewN _ _ _) (congrArg (World.drewN _) (Nat.add_assoc _ _ _))⟩))); try go_wp2_with (first | (go_at_call 74; (with_reducible refine (hanaperref20_many.calls a0_0 true _ A38.out).mono ?_); rintro e w' ⟨rfl, ⟨nd, rfl⟩⟩; (try first | exact ⟨rfl, _, World.drewN_drewN _ _ _⟩ | exact ⟨rfl, _, Eq.trans (World.drewN_drewN _ _ _) (congrArg (World.drewN _) (Nat.add_assoc _ _ _))⟩))))
              go_meet
              case rel => exact ⟨_, (true), (by first | rfl | (simp; done) | (simp [*]; done) | (simp [*]; exact (show ∀ l_ : List UInt8, l_.isEmpty = !(l_ != []) from fun l_ => by cases l_ <;> rfl) _)), H', ⟨by have := HJ3.out; have := HJ11.out; have := HJ21.out; first | omega | exact Nat.le_refl _⟩, ⟨by (with_reducible repeat (first | refine blk_drewN ?_ _ | refine blk_drew ?_ | refine blk_alloc ?_ _)); exact BK101.out⟩, ⟨by repeat (first | (with_reducible first | exact HB.out | apply below_alloc | apply pw_below_drewN | apply below_drew1 | refine below_set ?_ GE101.out) | exact HB.out)⟩⟩
            ·rw [if_neg c42] at H
             have c42b0 : (a0_0 == 8) = false := beq_eq_false_iff_ne.mpr c42
             have c42b1 : (a0_0 != 8) = true := bne_iff_ne.mpr c42
             replace H := Option.bind_eq_some_iff.mp H
             obtain ⟨t107, A490, H⟩ := H
             replace H : (if t107 = true then (hanaperref20_left.j3 kj21 (wrap64 (a1 - 1)) a2 (decide ((l0_4.length : Int) > (wrap64 (a1 - 1)))) a0_0 a0_1 a0_2 a0_3 l0_4) else (if (l0_4.length : Int) > 0 then (hanaperref20_left.j3 kj21 (wrap64 (a1 - 1)) a2 true a0_0 a0_1 a0_2 a0_3 l0_4) else (hanaperref20_left.j3 kj21 (wrap64 (a1 - 1)) a2 (decide ((l0_4.length : Int) > (wrap64 (a1 - 1)))) a0_0 a0_1 a0_2 a0_3 l0_4))) = some r := H
             have A49 := Aside0.mk A490
             clear A490
             by_cases c50 : t107 = true
             ·subst c50
              have H1 : (hanaperref20_left.j3 kj21 (wrap64 (a1 - 1)) a2 (decide ((l0_4.length : Int) > (wrap64 (a1 - 1)))) a0_0 a0_1 a0_2 a0_3 l0_4) = some r := by rw [if_pos rfl] at H; exact H
              clear H
              have H := H1
              clear H1
              have H' := Aside0.mk H
              clear H
              have hcz51_0 : wc.cell? ⟨gb101, 0, none⟩ = some (.int .i64 a0_0) := (blk_cell BK101.out 0).trans rfl
              have hcz51_1 : wc.cell? ⟨gb101, 1, none⟩ = some (.string a0_1) := (blk_cell BK101.out 1).trans rfl
              have hcz51_2 : wc.cell? ⟨gb101, 2, none⟩ = some (.int .i64 a0_2) := (blk_cell BK101.out 2).trans rfl
              have hcz51_3 : wc.cell? ⟨gb101, 3, none⟩ = some (.int .i64 a0_3) := (blk_cell BK101.out 3).trans rfl
              have hcz51_4 : wc.cell? ⟨gb101, 4, none⟩ = some (.slice A0_4 l0_4.length c0_4) := (blk_cell BK101.out 4).trans rfl
              have hfz51_0 := blk_frozen BK101.out 0
              have hfz51_1 := blk_frozen BK101.out 1
              have hfz51_2 := blk_frozen BK101.out 2
              have hfz51_3 := blk_frozen BK101.out 3
              have hfz51_4 := blk_frozen BK101.out 4
              go_wp2_with (first | (go_at_call 74; (with_reducible refine (hanaperref20_many.calls a0_0 true _ A38.out).mono ?_); rintro e w' ⟨rfl, ⟨nd, rfl⟩⟩; (try first | exact ⟨rfl, _, World.drewN_drewN _ _ _⟩ | exact ⟨rfl, _, Eq.trans (World.drewN_drewN _ _ _) (congrArg (World.drewN _) (Nat.add_assoc _ _ _))⟩)) | (go_at_call 74; (with_reducible refine (hanaperref20_many.calls a0_0 true _ A49.out).mono ?_); rintro e w' ⟨rfl, ⟨nd, rfl⟩⟩; (try first | exact ⟨rfl, _, World.drewN_drewN _ _ _⟩ | exact ⟨rfl, _, Eq.trans (World.drewN_drewN _ _ _) (congrArg (World.drewN _) (Nat.add_assoc _ _ _))⟩)))
              repeat (go_quiet (first | (go_at_call 74; (with_reducible refine (hanaperref20_many.calls a0_0 true _ A38.out).mono ?_); rintro e w' ⟨rfl, ⟨nd, rfl⟩⟩; (try first | exact ⟨rfl, _, World.drewN_drewN _ _ _⟩ | exact ⟨rfl, _, Eq.trans (World.drewN_drewN _ _ _) (congrArg (World.drewN _) (Nat.add_assoc _ _ _))⟩)) | (go_at_call 74; (with_reducible refine (hanaperref20_many.calls a0_0 true _ A49.out).mono ?_); rintro e w' ⟨rfl, ⟨nd, rfl⟩⟩; (try first | exact ⟨rfl, _, World.drewN_drewN _ _ _⟩ | exact ⟨rfl, _, Eq.trans (World.drewN_drewN _ _ _) (congrArg (World.drewN _) (Nat.add_assoc _ _ _))⟩))); try go_wp2_with (first | (go_at_call 74; (with_reducible refine (hanaperref20_many.calls a0_0 true _ A38.out).mono ?_); rintro e w' ⟨rfl, ⟨nd, rfl⟩⟩; (try first | exact ⟨rfl, _, World.drewN_drewN _ _ _⟩ | exact ⟨rfl, _, Eq.trans (World.drewN_drewN _ _ _) (congrArg (World.drewN _) (Nat.add_assoc _ _ _))⟩)) | (go_at_call 74; (with_reducible refine (hanaperref20_many.calls a0_0 true _ A49.out).mono ?_); rintro e w' ⟨rfl, ⟨nd, rfl⟩⟩; (try first | exact ⟨rfl, _, World.drewN_drewN _ _ _⟩ | exact ⟨rfl, _, Eq.trans (World.drewN_drewN _ _ _) (congrArg (World.drewN _) (Nat.add_assoc _ _ _))⟩))))
              go_meet
              case rel => exact ⟨_, (decide ((l0_4.length : Int) > (wrap64 (a1 - 1)))), (by first | rfl | (simp; done) | (simp [*]; done) | (simp [*]; exact (show ∀ l_ : List UInt8, l_.isEmpty = !(l_ != []) from fun l_ => by cases l_ <;> rfl) _)), H', ⟨by have := HJ3.out; have := HJ11.out; have := HJ21.out; first | omega | exact Nat.le_refl _⟩, ⟨by (with_reducible repeat (first | refine blk_drewN ?_ _ | refine blk_drew ?_ | refine blk_alloc ?_ _)); exact BK101.out⟩, ⟨by repeat (first | (with_reducible first | exact HB.out | apply below_alloc | apply pw_below_drewN | apply below_drew1 | refine below_set ?_ GE101.out) | exact HB.out)⟩⟩
             ·replace c50 := Bool.eq_false_iff.mpr c50
              subst c50
              have H1 : (if (l0_4.length : Int) > 0 then (hanaperref20_left.j3 kj21 (wrap64 (a1 - 1)) a2 true a0_0 a0_1 a0_2 a0_3 l0_4) else (hanaperref20_left.j3 kj21 (wrap64 (a1 - 1)) a2 (decide ((l0_4.length : Int) > (wrap64 (a1 - 1)))) a0_0 a0_1 a0_2 a0_3 l0_4)) = some r := by rw [if_neg (show ¬ (false = true) by decide)] at H; exact H
              clear H
              have H := H1
              clear H1
              by_cases c52 : (l0_4.length : Int) > 0
              ·rw [if_pos c52] at H
               have c52b0 : decide (0 < (l0_4.length : Int)) = true := decide_eq_true c52
               have c52b1 : decide (0 < l0_4.length) = true := decide_eq_true (by omega)
               clear c52
               have H' := Aside0.mk H
               clear H
               have hcz53_0 : wc.cell? ⟨gb101, 0, none⟩ = some (.int .i64 a0_0) := (blk_cell BK101.out 0).trans rfl
               have hcz53_1 : wc.cell? ⟨gb101, 1, none⟩ = some (.string a0_1) := (blk_cell BK101.out 1).trans rfl
               have hcz53_2 : wc.cell? ⟨gb101, 2, none⟩ = some (.int .i64 a0_2) := (blk_cell BK101.out 2).trans rfl
               have hcz53_3 : wc.cell? ⟨gb101, 3, none⟩ = some (.int .i64 a0_3) := (blk_cell BK101.out 3).trans rfl
               have hcz53_4 : wc.cell? ⟨gb101, 4, none⟩ = some (.slice A0_4 l0_4.length c0_4) := (blk_cell BK101.out 4).trans rfl
               have hfz53_0 := blk_frozen BK101.out 0
               have hfz53_1 := blk_frozen BK101.out 1
               have hfz53_2 := blk_frozen BK101.out 2
               have hfz53_3 := blk_frozen BK101.out 3
               have hfz53_4 := blk_frozen BK101.out 4
               exact absurd (Option.some.inj (A38.out.symm.trans A49.out)) (by decide)
              ·rw [if_neg c52] at H
               have c52b0 : decide (0 < (l0_4.length : Int)) = false := decide_eq_false c52
               have c52b1 : decide (0 < l0_4.length) = false := decide_eq_false (by omega)
               clear c52
               have H' := Aside0.mk H
               clear H
               have hcz54_0 : wc.cell? ⟨gb101, 0, none⟩ = some (.int .i64 a0_0) := (blk_cell BK101.out 0).trans rfl
               have hcz54_1 : wc.cell? ⟨gb101, 1, none⟩ = some (.string a0_1) := (blk_cell BK101.out 1).trans rfl
               have hcz54_2 : wc.cell? ⟨gb101, 2, none⟩ = some (.int .i64 a0_2) := (blk_cell BK101.out 2).trans rfl
               have hcz54_3 : wc.cell? ⟨gb101, 3, none⟩ = some (.int .i64 a0_3) := (blk_cell BK101.out 3).trans rfl
               have hcz54_4 : wc.cell? ⟨gb101, 4, none⟩ = some (.slice A0_4 l0_4.length c0_4) := (blk_cell BK101.out 4).trans rfl
               have hfz54_0 := blk_frozen BK101.out 0
               have hfz54_1 := blk_frozen BK101.out 1
               have hfz54_2 := blk_frozen BK101.out 2
               have hfz54_3 := blk_frozen BK101.out 3
               have hfz54_4 := blk_frozen BK101.out 4
               exact absurd (Option.some.inj (A38.out.symm.trans A49.out)) (by decide)
          ·replace c39 := Bool.eq_false_iff.mpr c39
           subst c39
           have H1 : (if a0_0 = 8 then (if (l0_4.length : Int) = 1 then ((hanaperref20_many.f a0_0).bind fun t108 => (if t108 = true then (hanaperref20_left.j3 kj21 (wrap64 (a1 - 1)) a2 (decide ((l0_4.length : Int) > (wrap64 (a1 - 1)))) a0_0 a0_1 a0_2 a0_3 l0_4) else (hanaperref20_left.j3 kj21 (wrap64 (a1 - 1)) a2 (decide ((l0_4.length : Int) > (wrap64 (a1 - 1)))) a0_0 a0_1 a0_2 a0_3 l0_4))) else (hanaperref20_left.j3 kj21 (wrap64 (a1 - 1)) a2 true a0_0 a0_1 a0_2 a0_3 l0_4)) else ((hanaperref20_many.f a0_0).bind fun t109 => (if t109 = true then (hanaperref20_left.j3 kj21 (wrap64 (a1 - 1)) a2 (decide ((l0_4.length : Int) > (wrap64 (a1 - 1)))) a0_0 a0_1 a0_2 a0_3 l0_4) else (if (l0_4.length : Int) > 0 then (hanaperref20_left.j3 kj21 (wrap64 (a1 - 1)) a2 true a0_0 a0_1 a0_2 a0_3 l0_4) else (hanaperref20_left.j3 kj21 (wrap64 (a1 - 1)) a2 (decide ((l0_4.length : Int) > (wrap64 (a1 - 1)))) a0_0 a0_1 a0_2 a0_3 l0_4))))) = some r := by rw [if_neg (show ¬ (false = true) by decide)] at H; exact H
           clear H
           have H := H1
           clear H1
           by_cases c55 : a0_0 = 8
           ·rw [if_pos c55] at H
            have c55b0 : (a0_0 == 8) = true := beq_iff_eq.mpr c55
            have c55b1 : (a0_0 != 8) = false := bne_eq_false_iff_eq.mpr c55
            clear c55
            by_cases c56 : (l0_4.length : Int) = 1
            ·rw [if_pos c56] at H
             have c56b0 : ((l0_4.length : Int) == 1) = true := beq_iff_eq.mpr c56
             have c56b1 : ((l0_4.length : Int) != 1) = false := bne_eq_false_iff_eq.mpr c56
             clear c56
             replace H := Option.bind_eq_some_iff.mp H
             obtain ⟨t108, A570, H⟩ := H
             replace H : (if t108 = true then (hanaperref20_left.j3 kj21 (wrap64 (a1 - 1)) a2 (decide ((l0_4.length : Int) > (wrap64 (a1 - 1)))) a0_0 a0_1 a0_2 a0_3 l0_4) else (hanaperref20_left.j3 kj21 (wrap64 (a1 - 1)) a2 (decide ((l0_4.length : Int) > (wrap64 (a1 - 1)))) a0_0 a0_1 a0_2 a0_3 l0_4)) = some r := H
             have A57 := Aside0.mk A570
             clear A570
             by_cases c58 : t108 = true
             ·subst c58
              have H1 : (hanaperref20_left.j3 kj21 (wrap64 (a1 - 1)) a2 (decide ((l0_4.length : Int) > (wrap64 (a1 - 1)))) a0_0 a0_1 a0_2 a0_3 l0_4) = some r := by rw [if_pos rfl] at H; exact H
              clear H
              have H := H1
              clear H1
              have H' := Aside0.mk H
              clear H
              have hcz59_0 : wc.cell? ⟨gb101, 0, none⟩ = some (.int .i64 a0_0) := (blk_cell BK101.out 0).trans rfl
              have hcz59_1 : wc.cell? ⟨gb101, 1, none⟩ = some (.string a0_1) := (blk_cell BK101.out 1).trans rfl
              have hcz59_2 : wc.cell? ⟨gb101, 2, none⟩ = some (.int .i64 a0_2) := (blk_cell BK101.out 2).trans rfl
              have hcz59_3 : wc.cell? ⟨gb101, 3, none⟩ = some (.int .i64 a0_3) := (blk_cell BK101.out 3).trans rfl
              have hcz59_4 : wc.cell? ⟨gb101, 4, none⟩ = some (.slice A0_4 l0_4.length c0_4) := (blk_cell BK101.out 4).trans rfl
              have hfz59_0 := blk_frozen BK101.out 0
              have hfz59_1 := blk_frozen BK101.out 1
              have hfz59_2 := blk_frozen BK101.out 2
              have hfz59_3 := blk_frozen BK101.out 3
              have hfz59_4 := blk_frozen BK101.out 4
              exact absurd (Option.some.inj (A38.out.symm.trans A57.out)) (by decide)
             ·replace c58 := Bool.eq_false_iff.mpr c58
              subst c58
              have H1 : (hanaperref20_left.j3 kj21 (wrap64 (a1 - 1)) a2 (decide ((l0_4.length : Int) > (wrap64 (a1 - 1)))) a0_0 a0_1 a0_2 a0_3 l0_4) = some r := by rw [if_neg (show ¬ (false = true) by decide)] at H; exact H
              clear H
              have H := H1
              clear H1
              have H' := Aside0.mk H
              clear H
              have hcz60_0 : wc.cell? ⟨gb101, 0, none⟩ = some (.int .i64 a0_0) := (blk_cell BK101.out 0).trans rfl
              have hcz60_1 : wc.cell? ⟨gb101, 1, none⟩ = some (.string a0_1) := (blk_cell BK101.out 1).trans rfl
              have hcz60_2 : wc.cell? ⟨gb101, 2, none⟩ = some (.int .i64 a0_2) := (blk_cell BK101.out 2).trans rfl
              have hcz60_3 : wc.cell? ⟨gb101, 3, none⟩ = some (.int .i64 a0_3) := (blk_cell BK101.out 3).trans rfl
              have hcz60_4 : wc.cell? ⟨gb101, 4, none⟩ = some (.slice A0_4 l0_4.length c0_4) := (blk_cell BK101.out 4).trans rfl
              have hfz60_0 := blk_frozen BK101.out 0
              have hfz60_1 := blk_frozen BK101.out 1
              have hfz60_2 := blk_frozen BK101.out 2
              have hfz60_3 := blk_frozen BK101.out 3
              have hfz60_4 := blk_frozen BK101.out 4
              go_wp2_with (first | (go_at_call 74; (with_reducible refine (hanaperref20_many.calls a0_0 false _ A38.out).mono ?_); rintro e w' ⟨rfl, ⟨nd, rfl⟩⟩; (try first | exact ⟨rfl, _, World.drewN_drewN _ _ _⟩ | exact ⟨rfl, _, Eq.trans (World.drewN_drewN _ _ _) (congrArg (World.drewN _) (Nat.add_assoc _ _ _))⟩)) | (go_at_call 74; (with_reducible refine (hanaperref20_many.calls a0_0 false _ A57.out).mono ?_); rintro e w' ⟨rfl, ⟨nd, rfl⟩⟩; (try first | exact ⟨rfl, _, World.drewN_drewN _ _ _⟩ | exact ⟨rfl, _, Eq.trans (World.drewN_drewN _ _ _) (congrArg (World.drewN _) (Nat.add_assoc _ _ _))⟩)))
              repeat (go_quiet (first | (go_at_call 74; (with_reducible refine (hanaperref20_many.calls a0_0 false _ A38.out).mono ?_); rintro e w' ⟨rfl, ⟨nd, rfl⟩⟩; (try first | exact ⟨rfl, _, World.drewN_drewN _ _ _⟩ | exact ⟨rfl, _, Eq.trans (World.drewN_drewN _ _ _) (congrArg (World.drewN _) (Nat.add_assoc _ _ _))⟩)) | (go_at_call 74; (with_reducible refine (hanaperref20_many.calls a0_0 false _ A57.out).mono ?_); rintro e w' ⟨rfl, ⟨nd, rfl⟩⟩; (try first | exact ⟨rfl, _, World.drewN_drewN _ _ _⟩ | exact ⟨rfl, _, Eq.trans (World.drewN_drewN _ _ _) (congrArg (World.drewN _) (Nat.add_assoc _ _ _))⟩))); try go_wp2_with (first | (go_at_call 74; (with_reducible refine (hanaperref20_many.calls a0_0 false _ A38.out).mono ?_); rintro e w' ⟨rfl, ⟨nd, rfl⟩⟩; (try first | exact ⟨rfl, _, World.drewN_drewN _ _ _⟩ | exact ⟨rfl, _, Eq.trans (World.drewN_drewN _ _ _) (congrArg (World.drewN _) (Nat.add_assoc _ _ _))⟩)) | (go_at_call 74; (with_reducible refine (hanaperref20_many.calls a0_0 false _ A57.out).mono ?_); rintro e w' ⟨rfl, ⟨nd, rfl⟩⟩; (try first | exact ⟨rfl, _, World.drewN_drewN _ _ _⟩ | exact ⟨rfl, _, Eq.trans (World.drewN_drewN _ _ _) (congrArg (World.drewN _) (Nat.add_assoc _ _ _))⟩))))
              go_meet
              case rel => exact ⟨_, (decide ((l0_4.length : Int) > (wrap64 (a1 - 1)))), (by first | rfl | (simp; done) | (simp [*]; done) | (simp [*]; exact (show ∀ l_ : List UInt8, l_.isEmpty = !(l_ != []) from fun l_ => by cases l_ <;> rfl) _)), H', ⟨by have := HJ3.out; have := HJ11.out; have := HJ21.out; first | omega | exact Nat.le_refl _⟩, ⟨by (with_reducible repeat (first | refine blk_drewN ?_ _ | refine blk_drew ?_ | refine blk_alloc ?_ _)); exact BK101.out⟩, ⟨by repeat (first | (with_reducible first | exact HB.out | apply below_alloc | apply pw_below_drewN | apply below_drew1 | refine below_set ?_ GE101.out) | exact HB.out)⟩⟩
            ·rw [if_neg c56] at H
             have c56b0 : ((l0_4.length : Int) == 1) = false := beq_eq_false_iff_ne.mpr c56
             have c56b1 : ((l0_4.length : Int) != 1) = true := bne_iff_ne.mpr c56
             have H' := Aside0.mk H
             clear H
             have hcz61_0 : wc.cell? ⟨gb101, 0, none⟩ = some (.int .i64 a0_0) := (blk_cell BK101.out 0).trans rfl
             have hcz61_1 : wc.cell? ⟨gb101, 1, none⟩ = some (.string a0_1) := (blk_cell BK101.out 1).trans rfl
             have hcz61_2 : wc.cell? ⟨gb101, 2, none⟩ = some (.int .i64 a0_2) := (blk_cell BK101.out 2).trans rfl
             have hcz61_3 : wc.cell? ⟨gb101, 3, none⟩ = some (.int .i64 a0_3) := (blk_cell BK101.out 3).trans rfl
             have hcz61_4 : wc.cell? ⟨gb101, 4, none⟩ = some (.slice A0_4 l0_4.length c0_4) := (blk_cell BK101.out 4).trans rfl
             have hfz61_0 := blk_frozen BK101.out 0
             have hfz61_1 := blk_frozen BK101.out 1
             have hfz61_2 := blk_frozen BK101.out 2
             have hfz61_3 := blk_frozen BK101.out 3
             have hfz61_4 := blk_frozen BK101.out 4
             go_wp2_with (first | (go_at_call 74; (with_reducible refine (hanaperref20_many.calls a0_0 false _ A38.out).mono ?_); rintro e w' ⟨rfl, ⟨nd, rfl⟩⟩; (try first | exact ⟨rfl, _, World.drewN_drewN _ _ _⟩ | exact ⟨rfl, _, Eq.trans (World.drewN_drewN _ _ _) (congrArg (World.drewN _) (Nat.add_assoc _ _ _))⟩)))
             repeat (go_quiet (first | (go_at_call 74; (with_reducible refine (hanaperref20_many.calls a0_0 false _ A38.out).mono ?_); rintro e w' ⟨rfl, ⟨nd, rfl⟩⟩; (try first | exact ⟨rfl, _, World.drewN_drewN _ _ _⟩ | exact ⟨rfl, _, Eq.trans (World.drewN_drewN _ _ _) (congrArg (World.drewN _) (Nat.add_assoc _ _ _))⟩))); try go_wp2_with (first | (go_at_call 74; (with_reducible refine (hanaperref20_many.calls a0_0 false _ A38.out).mono ?_); rintro e w' ⟨rfl, ⟨nd, rfl⟩⟩; (try first | exact ⟨rfl, _, World.drewN_drewN _ _ _⟩ | exact ⟨rfl, _, Eq.trans (World.drewN_drewN _ _ _) (congrArg (World.drewN _) (Nat.add_assoc _ _ _))⟩))))
             go_meet
             case rel => exact ⟨_, (true), (by first | rfl | (simp; done) | (simp [*]; done) | (simp [*]; exact (show ∀ l_ : List UInt8, l_.isEmpty = !(l_ != []) from fun l_ => by cases l_ <;> rfl) _)), H', ⟨by have := HJ3.out; have := HJ11.out; have := HJ21.out; first | omega | exact Nat.le_refl _⟩, ⟨by (with_reducible repeat (first | refine blk_drewN ?_ _ | refine blk_drew ?_ | refine blk_alloc ?_ _)); exact BK101.out⟩, ⟨by repeat (first | (with_reducible first | exact HB.out | apply below_alloc | apply pw_below_drewN | apply below_drew1 | refine below_set ?_ GE101.out) | exact HB.out)⟩⟩
           ·rw [if_neg c55] at H
            have c55b0 : (a0_0 == 8) = false := beq_eq_false_iff_ne.mpr c55
            have c55b1 : (a0_0 != 8) = true := bne_iff_ne.mpr c55
            replace H := Option.bind_eq_some_iff.mp H
            obtain ⟨t109, A620, H⟩ := H
            replace H : (if t109 = true then (hanaperref20_left.j3 kj21 (wrap64 (a1 - 1)) a2 (decide ((l0_4.length : Int) > (wrap64 (a1 - 1)))) a0_0 a0_1 a0_2 a0_3 l0_4) else (if (l0_4.length : Int) > 0 then (hanaperref20_left.j3 kj21 (wrap64 (a1 - 1)) a2 true a0_0 a0_1 a0_2 a0_3 l0_4) else (hanaperref20_left.j3 kj21 (wrap64 (a1 - 1)) a2 (decide ((l0_4.length : Int) > (wrap64 (a1 - 1)))) a0_0 a0_1 a0_2 a0_3 l0_4))) = some r := H
            have A62 := Aside0.mk A620
            clear A620
            by_cases c63 : t109 = true
            ·subst c63
             have H1 : (hanaperref20_left.j3 kj21 (wrap64 (a1 - 1)) a2 (decide ((l0_4.length : Int) > (wrap64 (a1 - 1)))) a0_0 a0_1 a0_2 a0_3 l0_4) = some r := by rw [if_pos rfl] at H; exact H
             clear H
             have H := H1
             clear H1
             have H' := Aside0.mk H
             clear H
             have hcz64_0 : wc.cell? ⟨gb101, 0, none⟩ = some (.int .i64 a0_0) := (blk_cell BK101.out 0).trans rfl
             have hcz64_1 : wc.cell? ⟨gb101, 1, none⟩ = some (.string a0_1) := (blk_cell BK101.out 1).trans rfl
             have hcz64_2 : wc.cell? ⟨gb101, 2, none⟩ = some (.int .i64 a0_2) := (blk_cell BK101.out 2).trans rfl
             have hcz64_3 : wc.cell? ⟨gb101, 3, none⟩ = some (.int .i64 a0_3) := (blk_cell BK101.out 3).trans rfl
             have hcz64_4 : wc.cell? ⟨gb101, 4, none⟩ = some (.slice A0_4 l0_4.length c0_4) := (blk_cell BK101.out 4).trans rfl
             have hfz64_0 := blk_frozen BK101.out 0
             have hfz64_1 := blk_frozen BK101.out 1
             have hfz64_2 := blk_frozen BK101.out 2
             have hfz64_3 := blk_frozen BK101.out 3
             have hfz64_4 := blk_frozen BK101.out 4
             exact absurd (Option.some.inj (A38.out.symm.trans A62.out)) (by decide)
            ·replace c63 := Bool.eq_false_iff.mpr c63
             subst c63
             have H1 : (if (l0_4.length : Int) > 0 then (hanaperref20_left.j3 kj21 (wrap64 (a1 - 1)) a2 true a0_0 a0_1 a0_2 a0_3 l0_4) else (hanaperref20_left.j3 kj21 (wrap64 (a1 - 1)) a2 (decide ((l0_4.length : Int) > (wrap64 (a1 - 1)))) a0_0 a0_1 a0_2 a0_3 l0_4)) = some r := by rw [if_neg (show ¬ (false = true) by decide)] at H; exact H
             clear H
             have H := H1
             clear H1
             by_cases c65 : (l0_4.length : Int) > 0
             ·rw [if_pos c65] at H
              have c65b0 : decide (0 < (l0_4.length : Int)) = true := decide_eq_true c65
              have c65b1 : decide (0 < l0_4.length) = true := decide_eq_true (by omega)
              clear c65
              have H' := Aside0.mk H
              clear H
              have hcz66_0 : wc.cell? ⟨gb101, 0, none⟩ = some (.int .i64 a0_0) := (blk_cell BK101.out 0).trans rfl
              have hcz66_1 : wc.cell? ⟨gb101, 1, none⟩ = some (.string a0_1) := (blk_cell BK101.out 1).trans rfl
              have hcz66_2 : wc.cell? ⟨gb101, 2, none⟩ = some (.int .i64 a0_2) := (blk_cell BK101.out 2).trans rfl
              have hcz66_3 : wc.cell? ⟨gb101, 3, none⟩ = some (.int .i64 a0_3) := (blk_cell BK101.out 3).trans rfl
              have hcz66_4 : wc.cell? ⟨gb101, 4, none⟩ = some (.slice A0_4 l0_4.length c0_4) := (blk_cell BK101.out 4).trans rfl
              have hfz66_0 := blk_frozen BK101.out 0
              have hfz66_1 := blk_frozen BK101.out 1
              have hfz66_2 := blk_frozen BK101.out 2
              have hfz66_3 := blk_frozen BK101.out 3
              have hfz66_4 := blk_frozen BK101.out 4
              go_wp2_with (first | (go_at_call 74; (with_reducible refine (hanaperref20_many.calls a0_0 false _ A38.out).mono ?_); rintro e w' ⟨rfl, ⟨nd, rfl⟩⟩; (try first | exact ⟨rfl, _, World.drewN_drewN _ _ _⟩ | exact ⟨rfl, _, Eq.trans (World.drewN_drewN _ _ _) (congrArg (World.drewN _) (Nat.add_assoc _ _ _))⟩)) | (go_at_call 74; (with_reducible refine (hanaperref20_many.calls a0_0 false _ A62.out).mono ?_); rintro e w' ⟨rfl, ⟨nd, rfl⟩⟩; (try first | exact ⟨rfl, _, World.drewN_drewN _ _ _⟩ | exact ⟨rfl, _, Eq.trans (World.drewN_drewN _ _ _) (congrArg (World.drewN _) (Nat.add_assoc _ _ _))⟩)))
              repeat (go_quiet (first | (go_at_call 74; (with_reducible refine (hanaperref20_many.calls a0_0 false _ A38.out).mono ?_); rintro e w' ⟨rfl, ⟨nd, rfl⟩⟩; (try first | exact ⟨rfl, _, World.drewN_drewN _ _ _⟩ | exact ⟨rfl, _, Eq.trans (World.drewN_drewN _ _ _) (congrArg (World.drewN _) (Nat.add_assoc _ _ _))⟩)) | (go_at_call 74; (with_reducible refine (hanaperref20_many.calls a0_0 false _ A62.out).mono ?_); rintro e w' ⟨rfl, ⟨nd, rfl⟩⟩; (try first | exact ⟨rfl, _, World.drewN_drewN _ _ _⟩ | exact ⟨rfl, _, Eq.trans (World.drewN_drewN _ _ _) (congrArg (World.drewN _) (Nat.add_assoc _ _ _))⟩))); try go_wp2_with (first | (go_at_call 74; (with_reducible refine (hanaperref20_many.calls a0_0 false _ A38.out).mono ?_); rintro e w' ⟨rfl, ⟨nd, rfl⟩⟩; (try first | exact ⟨rfl, _, World.drewN_drewN _ _ _⟩ | exact ⟨rfl, _, Eq.trans (World.drewN_drewN _ _ _) (congrArg (World.drewN _) (Nat.add_assoc _ _ _))⟩)) | (go_at_call 74; (with_reducible refine (hanaperref20_many.calls a0_0 false _ A62.out).mono ?_); rintro e w' ⟨rfl, ⟨nd, rfl⟩⟩; (try first | exact ⟨rfl, _, World.drewN_drewN _ _ _⟩ | exact ⟨rfl, _, Eq.trans (World.drewN_drewN _ _ _) (congrArg (World.drewN _) (Nat.add_assoc _ _ _))⟩))))
              go_meet
              case rel => exact ⟨_, (true), (by first | rfl | (simp; done) | (simp [*]; done) | (simp [*]; exact (show ∀ l_ : List UInt8, l_.isEmpty = !(l_ != []) from fun l_ => by cases l_ <;> rfl) _)), H', ⟨by have := HJ3.out; have := HJ11.out; have := HJ21.out; first | omega | exact Nat.le_refl _⟩, ⟨by (with_reducible repeat (first | refine blk_drewN ?_ _ | refine blk_drew ?_ | refine blk_alloc ?_ _)); exact BK101.out⟩, ⟨by repeat (first | (with_reducible first | exact HB.out | apply below_alloc | apply pw_below_drewN | apply below_drew1 | refine below_set ?_ GE101.out) | exact HB.out)⟩⟩
             ·rw [if_neg c65] at H
              have c65b0 : decide (0 < (l0_4.length : Int)) = false := decide_eq_false c65
              have c65b1 : decide (0 < l0_4.length) = false := decide_eq_false (by omega)
              clear c65
              have H' := Aside0.mk H
              clear H
              have hcz67_0 : wc.cell? ⟨gb101, 0, none⟩ = some (.int .i64 a0_0) := (blk_cell BK101.out 0).trans rfl
              have hcz67_1 : wc.cell? ⟨gb101, 1, none⟩ = some (.string a0_1) := (blk_cell BK101.out 1).trans rfl
              have hcz67_2 : wc.cell? ⟨gb101, 2, none⟩ = some (.int .i64 a0_2) := (blk_cell BK101.out 2).trans rfl
              have hcz67_3 : wc.cell? ⟨gb101, 3, none⟩ = some (.int .i64 a0_3) := (blk_cell BK101.out 3).trans rfl
              have hcz67_4 : wc.cell? ⟨gb101, 4, none⟩ = some (.slice A0_4 l0_4.length c0_4) := (blk_cell BK101.out 4).trans rfl
              have hfz67_0 := blk_frozen BK101.out 0
              have hfz67_1 := blk_frozen BK101.out 1
              have hfz67_2 := blk_frozen BK101.out 2
              have hfz67_3 := blk_frozen BK101.out 3
              have hfz67_4 := blk_frozen BK101.out 4
              go_wp2_with (first | (go_at_call 74; (with_reducible refine (hanaperref20_many.calls a0_0 false _ A38.out).mono ?_); rintro e w' ⟨rfl, ⟨nd, rfl⟩⟩; (try first | exact ⟨rfl, _, World.drewN_drewN _ _ _⟩ | exact ⟨rfl, _, Eq.trans (World.drewN_drewN _ _ _) (congrArg (World.drewN _) (Nat.add_assoc _ _ _))⟩)) | (go_at_call 74; (with_reducible refine (hanaperref20_many.calls a0_0 false _ A62.out).mono ?_); rintro e w' ⟨rfl, ⟨nd, rfl⟩⟩; (try first | exact ⟨rfl, _, World.drewN_drewN _ _ _⟩ | exact ⟨rfl, _, Eq.trans (World.drewN_drewN _ _ _) (congrArg (World.drewN _) (Nat.add_assoc _ _ _))⟩)))
              repeat (go_quiet (first | (go_at_call 74; (with_reducible refine (hanaperref20_many.calls a0_0 false _ A38.out).mono ?_); rintro e w' ⟨rfl, ⟨nd, rfl⟩⟩; (try first | exact ⟨rfl, _, World.drewN_drewN _ _ _⟩ | exact ⟨rfl, _, Eq.trans (World.drewN_drewN _ _ _) (congrArg (World.drewN _) (Nat.add_assoc _ _ _))⟩)) | (go_at_call 74; (with_reducible refine (hanaperref20_many.calls a0_0 false _ A62.out).mono ?_); rintro e w' ⟨rfl, ⟨nd, rfl⟩⟩; (try first | exact ⟨rfl, _, World.drewN_drewN _ _ _⟩ | exact ⟨rfl, _, Eq.trans (World.drewN_drewN _ _ _) (congrArg (World.drewN _) (Nat.add_assoc _ _ _))⟩))); try go_wp2_with (first | (go_at_call 74; (with_reducible refine (hanaperref20_many.calls a0_0 false _ A38.out).mono ?_); rintro e w' ⟨rfl, ⟨nd, rfl⟩⟩; (try first | exact ⟨rfl, _, World.drewN_drewN _ _ _⟩ | exact ⟨rfl, _, Eq.trans (World.drewN_drewN _ _ _) (congrArg (World.drewN _) (Nat.add_assoc _ _ _))⟩)) | (go_at_call 74; (with_reducible refine (hanaperref20_many.calls a0_0 false _ A62.out).mono ?_); rintro e w' ⟨rfl, ⟨nd, rfl⟩⟩; (try first | exact ⟨rfl, _, World.drewN_drewN _ _ _⟩ | exact ⟨rfl, _, Eq.trans (World.drewN_drewN _ _ _) (congrArg (World.drewN _) (Nat.add_assoc _ _ _))⟩))))
              go_meet
              case rel => exact ⟨_, (decide ((l0_4.length : Int) > (wrap64 (a1 - 1)))), (by first | rfl | (simp; done) | (simp [*]; done) | (simp [*]; exact (show ∀ l_ : List UInt8, l_.isEmpty = !(l_ != []) from fun l_ => by cases l_ <;> rfl) _)), H', ⟨by have := HJ3.out; have := HJ11.out; have := HJ21.out; first | omega | exact Nat.le_refl _⟩, ⟨by (with_reducible repeat (first | refine blk_drewN ?_ _ | refine blk_drew ?_ | refine blk_alloc ?_ _)); exact BK101.out⟩, ⟨by repeat (first | (with_reducible first | exact HB.out | apply below_alloc | apply pw_below_drewN | apply below_drew1 | refine below_set ?_ GE101.out) | exact HB.out)⟩⟩
         case rest =>
          clear HC37
          (try clear c1);(try clear c2);(try clear p2);(try clear c3);(try clear c4);(try clear c5);(try clear c6);(try clear c6b0);(try clear p6);(try clear c7);(try clear c7b0);(try clear c8);(try clear c8b0);(try clear c11);(try clear c14);(try clear c14b0);(try clear c14b1);(try clear c14b2);(try clear c17);(try clear c21);(try clear c24);(try clear c24b0);(try clear c24b1);(try clear c25);(try clear c25b0);(try clear c27);(try clear c27b0);(try clear c29);(try clear c29b0);(try clear c32);(try clear c32b0);(try clear c32b1);(try clear c33);(try clear c33b0);(try clear c33b1);(try clear c39);(try clear c40);(try clear c40b0);(try clear c40b1);(try clear c42);(try clear c42b0);(try clear c42b1);(try clear c43);(try clear c43b0);(try clear c43b1);(try clear c45);(try clear c50);(try clear c52);(try clear c52b0);(try clear c52b1);(try clear c55);(try clear c55b0);(try clear c55b1);(try clear c56);(try clear c56b0);(try clear c56b1);(try clear c58);(try clear c63);(try clear p64);(try clear c65);(try clear c65b0);(try clear c65b1);(try clear hcz10_0);(try clear hcz10_1);(try clear hcz10_2);(try clear hcz10_3);(try clear hcz10_4);(try clear hcz15_0);(try clear hcz15_1);(try clear hcz15_2);(try clear hcz15_3);(try clear hcz15_4);(try clear hcz19_0);(try clear hcz19_1);(try clear hcz19_2);(try clear hcz19_3);(try clear hcz19_4);(try clear hcz20_0);(try clear hcz20_1);(try clear hcz20_2);(try clear hcz20_3);(try clear hcz20_4);(try clear hcz23_0);(try clear hcz23_1);(try clear hcz23_2);(try clear hcz23_3);(try clear hcz23_4);(try clear hcz26_0);(try clear hcz26_1);(try clear hcz26_2);(try clear hcz26_3);(try clear hcz26_4);(try clear hcz28_0);(try clear hcz28_1);(try clear hcz28_2);(try clear hcz28_3);(try clear hcz28_4);(try clear hcz30_0);(try clear hcz30_1);(try clear hcz30_2);(try clear hcz30_3);(try clear hcz30_4);(try clear hcz31_0);(try clear hcz31_1);(try clear hcz31_2);(try clear hcz31_3);(try clear hcz31_4);(try clear hcz34_0);(try clear hcz34_1);(try clear hcz34_2);(try clear hcz34_3);(try clear hcz34_4);(try clear hcz35_0);(try clear hcz35_1);(try clear hcz35_2);(try clear hcz35_3);(try clear hcz35_4);(try clear hcz36_0);(try clear hcz36_1);(try clear hcz36_2);(try clear hcz36_3);(try clear hcz36_4);(try clear hcz41_0);(try clear hcz41_1);(try clear hcz41_2);(try clear hcz41_3);(try clear hcz41_4);(try clear hcz46_0);(try clear hcz46_1);(try clear hcz46_2);(try clear hcz46_3);(try clear hcz46_4);(try clear hcz47_0);(try clear hcz47_1);(try clear hcz47_2);(try clear hcz47_3);(try clear hcz47_4);(try clear hcz48_0);(try clear hcz48_1);(try clear hcz48_2);(try clear hcz48_3);(try clear hcz48_4);(try clear hcz51_0);(try clear hcz51_1);(try clear hcz51_2);(try clear hcz51_3);(try clear hcz51_4);(try clear hcz53_0);(try clear hcz53_1);(try clear hcz53_2);(try clear hcz53_3);(try clear hcz53_4);(try clear hcz54_0);(try clear hcz54_1);(try clear hcz54_2);(try clear hcz54_3);(try clear hcz54_4);(try clear hcz59_0);(try clear hcz59_1);(try clear hcz59_2)
          (try clear hcz59_3);(try clear hcz59_4);(try clear hcz60_0);(try clear hcz60_1);(try clear hcz60_2);(try clear hcz60_3);(try clear hcz60_4);(try clear hcz61_0);(try clear hcz61_1);(try clear hcz61_2);(try clear hcz61_3);(try clear hcz61_4);(try clear hcz64_0);(try clear hcz64_1);(try clear hcz64_2);(try clear hcz64_3);(try clear hcz64_4);(try clear hcz66_0);(try clear hcz66_1);(try clear hcz66_2);(try clear hcz66_3);(try clear hcz66_4);(try clear hcz67_0);(try clear hcz67_1);(try clear hcz67_2);(try clear hcz67_3);(try clear hcz67_4);(try clear hcz9_0);(try clear hcz9_1);(try clear hcz9_2);(try clear hcz9_3);(try clear hcz9_4);(try clear hfz10_0);(try clear hfz10_1);(try clear hfz10_2);(try clear hfz10_3);(try clear hfz10_4);(try clear hfz15_0);(try clear hfz15_1);(try clear hfz15_2);(try clear hfz15_3);(try clear hfz15_4);(try clear hfz19_0);(try clear hfz19_1);(try clear hfz19_2);(try clear hfz19_3);(try clear hfz19_4);(try clear hfz20_0);(try clear hfz20_1);(try clear hfz20_2);(try clear hfz20_3);(try clear hfz20_4);(try clear hfz23_0);(try clear hfz23_1);(try clear hfz23_2);(try clear hfz23_3);(try clear hfz23_4);(try clear hfz26_0);(try clear hfz26_1);(try clear hfz26_2);(try clear hfz26_3);(try clear hfz26_4);(try clear hfz28_0);(try clear hfz28_1);(try clear hfz28_2);(try clear hfz28_3);(try clear hfz28_4);(try clear hfz30_0);(try clear hfz30_1);(try clear hfz30_2);(try clear hfz30_3);(try clear hfz30_4);(try clear hfz31_0);(try clear hfz31_1);(try clear hfz31_2);(try clear hfz31_3);(try clear hfz31_4);(try clear hfz34_0);(try clear hfz34_1);(try clear hfz34_2);(try clear hfz34_3);(try clear hfz34_4);(try clear hfz35_0);(try clear hfz35_1);(try clear hfz35_2);(try clear hfz35_3);(try clear hfz35_4);(try clear hfz36_0);(try clear hfz36_1);(try clear hfz36_2);(try clear hfz36_3);(try clear hfz36_4);(try clear hfz41_0);(try clear hfz41_1);(try clear hfz41_2);(try clear hfz41_3);(try clear hfz41_4);(try clear hfz46_0);(try clear hfz46_1);(try clear hfz46_2);(try clear hfz46_3);(try clear hfz46_4);(try clear hfz47_0);(try clear hfz47_1);(try clear hfz47_2);(try clear hfz47_3);(try clear hfz47_4);(try clear hfz48_0);(try clear hfz48_1);(try clear hfz48_2);(try clear hfz48_3);(try clear hfz48_4);(try clear hfz51_0);(try clear hfz51_1);(try clear hfz51_2);(try clear hfz51_3);(try clear hfz51_4);(try clear hfz53_0);(try clear hfz53_1);(try clear hfz53_2);(try clear hfz53_3);(try clear hfz53_4);(try clear hfz54_0);(try clear hfz54_1);(try clear hfz54_2);(try clear hfz54_3);(try clear hfz54_4);(try clear hfz59_0);(try clear hfz59_1);(try clear hfz59_2);(try clear hfz59_3);(try clear hfz59_4);(try clear hfz60_0);(try clear hfz60_1);(try clear hfz60_2);(try clear hfz60_3);(try clear hfz60_4);(try clear hfz61_0);(try clear hfz61_1);(try clear hfz61_2);(try clear hfz61_3);(try clear hfz61_4);(try clear hfz64_0);(try clear hfz64_1);(try clear hfz64_2);(try clear hfz64_3);(try clear hfz64_4);(try clear hfz66_0);(try clear hfz66_1);(try clear hfz66_2)
          (try clear hfz66_3);(try clear hfz66_4);(try clear hfz67_0);(try clear hfz67_1);(try clear hfz67_2);(try clear hfz67_3);(try clear hfz67_4);(try clear hfz9_0);(try clear hfz9_1);(try clear hfz9_2);(try clear hfz9_3);(try clear hfz9_4);(try clear p2);(try clear p6)
          obtain ⟨kq, x113_36, rfl, HA, HJ36, BK101, HB⟩ := hcut
          cases kq with
          | zero => exact absurd HA.out (by simp [hanaperref20_left.j3])
          | succ kj36 =>
           have H := HA.out
           clear HA
           simp only [hanaperref20_left.j3] at H
           by_cases c68 : x113_36 = true
           ·subst c68
            have H1 : (some (-1)) = some r := by rw [if_pos rfl] at H; exact H
            clear H
            have H := H1
            clear H1
            obtain rfl := Option.some.inj H
            go_wp2
            repeat (go_quiet (fail); try go_wp2)
            go_ret
            exact ⟨by first | rfl | (simp [errW_none, errW_some] <;> rfl) | (simp [*, errW_none, errW_some] <;> rfl), by repeat (first | (with_reducible first | exact HB.out | apply below_alloc | apply pw_below_drewN | apply below_drew1 | refine below_set ?_ GE101.out) | exact HB.out)⟩
           ·replace c68 := Bool.eq_false_iff.mpr c68
            subst c68
            have H1 : (hanaperref20_left.l0 kj36 (wrap64 (a1 - 1)) a2 0 a0_0 a0_1 a0_2 a0_3 l0_4) = some r := by rw [if_neg (show ¬ (false = true) by decide)] at H; exact H
            clear H
            have H := H1
            clear H1
            have H' := Aside0.mk H
            clear H
            go_wp2
            repeat (go_quiet (fail); try go_wp2)
            go_loopg [1, 7] kj36 (fun kq v1 v7 w' => ∃ (x1_5 : Int) (x7_5 : Int), v1 = .int .i64 x1_5 ∧ v7 = .int .i64 x7_5 ∧ Aside0 (hanaperref20_left.l0 kq x1_5 a2 x7_5 a0_0 a0_1 a0_2 a0_3 l0_4 = some r) ∧ Aside0 (kq ≤ kj36) ∧ Aside0 (w'.heap[gb101]? = some (.cells #[.int .i64 a0_0, .string a0_1, .int .i64 a0_2, .int .i64 a0_3, (.slice A0_4 l0_4.length c0_4)] 40 (0, 0))) ∧ Aside0 (Below w.heap.size w w'))
            case atStart => exact ⟨((wrap64 (a1 - 1))), (0), (by first | rfl | (simp; done) | (simp [*]; done) | (simp [*]; exact (show ∀ l_ : List UInt8, l_.isEmpty = !(l_ != []) from fun l_ => by cases l_ <;> rfl) _)), (by first | rfl | (simp; done) | (simp [*]; done) | (simp [*]; exact (show ∀ l_ : List UInt8, l_.isEmpty = !(l_ != []) from fun l_ => by cases l_ <;> rfl) _)), H', ⟨Nat.le_refl _⟩, ⟨by (with_reducible repeat (first | refine blk_drewN ?_ _ | refine blk_drew ?_ | refine blk_alloc ?_ _)); exact BK101.out⟩, ⟨by repeat (first | (with_reducible first | exact HB.out | apply below_alloc | apply pw_below_drewN | apply below_drew1 | refine below_set ?_ GE101.out) | exact HB.out)⟩⟩
            case round =>
             clear H'
             (try clear c1);(try clear c2);(try clear p2);(try clear c3);(try clear c4);(try clear c5);(try clear c6);(try clear c6b0);(try clear p6);(try clear c7);(try clear c7b0);(try clear c8);(try clear c8b0);(try clear c11);(try clear c14);(try clear c14b0);(try clear c14b1);(try clear c14b2);(try clear c17);(try clear c21);(try clear c24);(try clear c24b0);(try clear c24b1);(try clear c25);(try clear c25b0);(try clear c27);(try clear c27b0);(try clear c29);(try clear c29b0);(try clear c32);(try clear c32b0);(try clear c32b1);(try clear c33);(try clear c33b0);(try clear c33b1);(try clear c39);(try clear c40);(try clear c40b0);(try clear c40b1);(try clear c42);(try clear c42b0);(try clear c42b1);(try clear c43);(try clear c43b0);(try clear c43b1);(try clear c45);(try clear c50);(try clear c52);(try clear c52b0);(try clear c52b1);(try clear c55);(try clear c55b0);(try clear c55b1);(try clear c56);(try clear c56b0);(try clear c56b1);(try clear c58);(try clear c63);(try clear p64);(try clear c65);(try clear c65b0);(try clear c65b1);(try clear c68);(try clear hcz10_0);(try clear hcz10_1);(try clear hcz10_2);(try clear hcz10_3);(try clear hcz10_4);(try clear hcz15_0);(try clear hcz15_1);(try clear hcz15_2);(try clear hcz15_3);(try clear hcz15_4);(try clear hcz19_0);(try clear hcz19_1);(try clear hcz19_2);(try clear hcz19_3);(try clear hcz19_4);(try clear hcz20_0);(try clear hcz20_1);(try clear hcz20_2);(try clear hcz20_3);(try clear hcz20_4);(try clear hcz23_0);(try clear hcz23_1);(try clear hcz23_2);(try clear hcz23_3);(try clear hcz23_4);(try clear hcz26_0);(try clear hcz26_1);(try clear hcz26_2);(try clear hcz26_3);(try clear hcz26_4);(try clear hcz28_0);(try clear hcz28_1);(try clear hcz28_2);(try clear hcz28_3);(try clear hcz28_4);(try clear hcz30_0);(try clear hcz30_1);(try clear hcz30_2);(try clear hcz30_3);(try clear hcz30_4);(try clear hcz31_0);(try clear hcz31_1);(try clear hcz31_2);(try clear hcz31_3);(try clear hcz31_4);(try clear hcz34_0);(try clear hcz34_1);(try clear hcz34_2);(try clear hcz34_3);(try clear hcz34_4);(try clear hcz35_0);(try clear hcz35_1);(try clear hcz35_2);(try clear hcz35_3);(try clear hcz35_4);(try clear hcz36_0);(try clear hcz36_1);(try clear hcz36_2);(try clear hcz36_3);(try clear hcz36_4);(try clear hcz41_0);(try clear hcz41_1);(try clear hcz41_2);(try clear hcz41_3);(try clear hcz41_4);(try clear hcz46_0);(try clear hcz46_1);(try clear hcz46_2);(try clear hcz46_3);(try clear hcz46_4);(try clear hcz47_0);(try clear hcz47_1);(try clear hcz47_2);(try clear hcz47_3);(try clear hcz47_4);(try clear hcz48_0);(try clear hcz48_1);(try clear hcz48_2);(try clear hcz48_3);(try clear hcz48_4);(try clear hcz51_0);(try clear hcz51_1);(try clear hcz51_2);(try clear hcz51_3);(try clear hcz51_4);(try clear hcz53_0);(try clear hcz53_1);(try clear hcz53_2);(try clear hcz53_3);(try clear hcz53_4);(try clear hcz54_0);(try clear hcz54_1);(try clear hcz54_2);(try clear hcz54_3);(try clear hcz54_4);(try clear hcz59_0);(try clear hcz59_1)
             (try clear hcz59_2);(try clear hcz59_3);(try clear hcz59_4);(try clear hcz60_0);(try clear hcz60_1);(try clear hcz60_2);(try clear hcz60_3);(try clear hcz60_4);(try clear hcz61_0);(try clear hcz61_1);(try clear hcz61_2);(try clear hcz61_3);(try clear hcz61_4);(try clear hcz64_0);(try clear hcz64_1);(try clear hcz64_2);(try clear hcz64_3);(try clear hcz64_4);(try clear hcz66_0);(try clear hcz66_1);(try clear hcz66_2);(try clear hcz66_3);(try clear hcz66_4);(try clear hcz67_0);(try clear hcz67_1);(try clear hcz67_2);(try clear hcz67_3);(try clear hcz67_4);(try clear hcz9_0);(try clear hcz9_1);(try clear hcz9_2);(try clear hcz9_3);(try clear hcz9_4);(try clear hfz10_0);(try clear hfz10_1);(try clear hfz10_2);(try clear hfz10_3);(try clear hfz10_4);(try clear hfz15_0);(try clear hfz15_1);(try clear hfz15_2);(try clear hfz15_3);(try clear hfz15_4);(try clear hfz19_0);(try clear hfz19_1);(try clear hfz19_2);(try clear hfz19_3);(try clear hfz19_4);(try clear hfz20_0);(try clear hfz20_1);(try clear hfz20_2);(try clear hfz20_3);(try clear hfz20_4);(try clear hfz23_0);(try clear hfz23_1);(try clear hfz23_2);(try clear hfz23_3);(try clear hfz23_4);(try clear hfz26_0);(try clear hfz26_1);(try clear hfz26_2);(try clear hfz26_3);(try clear hfz26_4);(try clear hfz28_0);(try clear hfz28_1);(try clear hfz28_2);(try clear hfz28_3);(try clear hfz28_4);(try clear hfz30_0);(try clear hfz30_1);(try clear hfz30_2);(try clear hfz30_3);(try clear hfz30_4);(try clear hfz31_0);(try clear hfz31_1);(try clear hfz31_2);(try clear hfz31_3);(try clear hfz31_4);(try clear hfz34_0);(try clear hfz34_1);(try clear hfz34_2);(try clear hfz34_3);(try clear hfz34_4);(try clear hfz35_0);(try clear hfz35_1);(try clear hfz35_2);(try clear hfz35_3);(try clear hfz35_4);(try clear hfz36_0);(try clear hfz36_1);(try clear hfz36_2);(try clear hfz36_3);(try clear hfz36_4);(try clear hfz41_0);(try clear hfz41_1);(try clear hfz41_2);(try clear hfz41_3);(try clear hfz41_4);(try clear hfz46_0);(try clear hfz46_1);(try clear hfz46_2);(try clear hfz46_3);(try clear hfz46_4);(try clear hfz47_0);(try clear hfz47_1);(try clear hfz47_2);(try clear hfz47_3);(try clear hfz47_4);(try clear hfz48_0);(try clear hfz48_1);(try clear hfz48_2);(try clear hfz48_3);(try clear hfz48_4);(try clear hfz51_0);(try clear hfz51_1);(try clear hfz51_2);(try clear hfz51_3);(try clear hfz51_4);(try clear hfz53_0);(try clear hfz53_1);(try clear hfz53_2);(try clear hfz53_3);(try clear hfz53_4);(try clear hfz54_0);(try clear hfz54_1);(try clear hfz54_2);(try clear hfz54_3);(try clear hfz54_4);(try clear hfz59_0);(try clear hfz59_1);(try clear hfz59_2);(try clear hfz59_3);(try clear hfz59_4);(try clear hfz60_0);(try clear hfz60_1);(try clear hfz60_2);(try clear hfz60_3);(try clear hfz60_4);(try clear hfz61_0);(try clear hfz61_1);(try clear hfz61_2);(try clear hfz61_3);(try clear hfz61_4);(try clear hfz64_0);(try clear hfz64_1);(try clear hfz64_2);(try clear hfz64_3);(try clear hfz64_4);(try clear hfz66_0);(try clear hfz66_1)
             (try clear hfz66_2);(try clear hfz66_3);(try clear hfz66_4);(try clear hfz67_0);(try clear hfz67_1);(try clear hfz67_2);(try clear hfz67_3);(try clear hfz67_4);(try clear hfz9_0);(try clear hfz9_1);(try clear hfz9_2);(try clear hfz9_3);(try clear hfz9_4);(try clear p2);(try clear p6);(try clear p64)
             obtain ⟨x1_5, x7_5, rfl, rfl, HA, HK5, BK101, HB⟩ := hrel
             cases gk with
             | zero => exact absurd HA.out (by simp [hanaperref20_left.l0])
             | succ k5 =>
              have H := HA.out
              clear HA
              simp only [hanaperref20_left.l0] at H
              by_cases c69 : x7_5 < (l0_4.length : Int)
              ·rw [if_pos c69] at H
               have c69b0 : decide (x7_5 < (l0_4.length : Int)) = true := decide_eq_true c69
               clear c69
               by_cases c70 : x1_5 ≥ 0
               ·rw [if_pos c70] at H
                have c70b0 : decide (0 ≤ x1_5) = true := decide_eq_true c70
                clear c70
                by_cases c71 : 0 ≤ x7_5
                ·rw [if_pos c71] at H
                 have c71b0 : decide (0 ≤ x7_5) = true := decide_eq_true c71
                 clear c71
                 replace H := Option.bind_eq_some_iff.mp H
                 obtain ⟨t111, A720, H⟩ := H
                 replace H : (hanaperref20_left.l0 k5 t111 a2 (wrap64 (x7_5 + 1)) a0_0 a0_1 a0_2 a0_3 l0_4) = some r := H
                 have A72 := Aside0.mk A720
                 clear A720
                 have H' := Aside0.mk H
                 clear H
                 have hcz73_0 : wr.cell? ⟨gb101, 0, none⟩ = some (.int .i64 a0_0) := (blk_cell BK101.out 0).trans rfl
                 have hcz73_1 : wr.cell? ⟨gb101, 1, none⟩ = some (.string a0_1) := (blk_cell BK101.out 1).trans rfl
                 have hcz73_2 : wr.cell? ⟨gb101, 2, none⟩ = some (.int .i64 a0_2) := (blk_cell BK101.out 2).trans rfl
                 have hcz73_3 : wr.cell? ⟨gb101, 3, none⟩ = some (.int .i64 a0_3) := (blk_cell BK101.out 3).trans rfl
                 have hcz73_4 : wr.cell? ⟨gb101, 4, none⟩ = some (.slice A0_4 l0_4.length c0_4) := (blk_cell BK101.out 4).trans rfl
                 have hfz73_0 := blk_frozen BK101.out 0
                 have hfz73_1 := blk_frozen BK101.out 1
                 have hfz73_2 := blk_frozen BK101.out 2
                 have hfz73_3 := blk_frozen BK101.out 3
                 have hfz73_4 := blk_frozen BK101.out 4
                 have p110 : 0 ≤ (x7_5 : Int) := of_decide_eq_true (by first | (with_reducible assumption) | assumption)
                 have q110 : x7_5 < (l0_4.length : Int) := of_decide_eq_true (by first | (with_reducible assumption) | assumption)
                 obtain ⟨ad110, A110_4, c110_4, e110, hx110_0, hx110_1, hx110_2, hx110_3, hx110_4, hl110_4, hi110_4⟩ := at_T40 HR0_4.out x7_5 p110 q110
                 cases e110
                 replace hx110_0 := (HB.out.cell (World.block_lt_of_cell? w _ hx110_0)).trans hx110_0
                 replace hx110_1 := (HB.out.cell (World.block_lt_of_cell? w _ hx110_1)).trans hx110_1
                 replace hx110_2 := (HB.out.cell (World.block_lt_of_cell? w _ hx110_2)).trans hx110_2
                 replace hx110_3 := (HB.out.cell (World.block_lt_of_cell? w _ hx110_3)).trans hx110_3
                 replace hx110_4 := (HB.out.cell (World.block_lt_of_cell? w _ hx110_4)).trans hx110_4
                 have HR110_4 := Aside0.mk hi110_4
                 have HC110_4 := Aside0.mk hl110_4
                 clear hi110_4 hl110_4
                 replace p110 := eq_true p110
                 replace q110 := eq_true q110
                 go_wp2_with (first | (go_at_call 110; (with_reducible refine (ih k5 (by have := HJ3.out; have := HJ11.out; have := HJ21.out; have := HJ36.out; have := HK5.out; omega) ((rd_T40 l0_4 x7_5).f0) ((rd_T40 l0_4 x7_5).f1) ((rd_T40 l0_4 x7_5).f2) ((rd_T40 l0_4 x7_5).f3) _ _ ((rd_T40 l0_4 x7_5).f4) x1_5 (wrap64 (a2 - 1)) t111 _ ?side1 ?side2 A72.out).mono ?_); (case side1 => repeat (first | exact (Kd.C_below HR110_4.out HB.out) | (with_reducible refine Kd.C_alloc ?_ _) | (with_reducible refine Kd.C_drewN ?_ _) | (with_reducible refine Kd.C_drew ?_))); (case side2 => exact HC110_4.out); rintro e w74 ⟨rfl, hb⟩; have n0_ := Aside0.mk (blk_below (g := gb101) (o := .cells #[.int .i64 a0_0, .string a0_1, .int .i64 a0_2, .int .i64 a0_3, .slice (some ad110) l0_4.length c0_4] 40 (0, 0)) (by (with_reducible repeat (first | refine blk_drewN ?_ _ | refine blk_drew ?_ | refine blk_alloc ?_ _)); exact BK101.out) hb); have n1_ := Aside0.mk (below_step (by repeat (first | (with_reducible first | exact HB.out | apply below_alloc | apply pw_below_drewN | apply below_drew1 | refine below_set ?_ GE101.out) | exact HB.out)) hb); clear BK101; clear HB; have BK101 := n0_; have HB := n1_; clear n0_ n1_; (try clear hb); (try clear hb2); (try clear hk); (try clear hi)))
                 repeat (go_quiet (first | (go_at_call 110; (with_reducible refine (ih k5 (by have := HJ3.out; have := HJ11.out; have := HJ21.out; have := HJ36.out; have := HK5.out; omega) ((rd_T40 l0_4 x7_5).f0) ((rd_T40 l0_4 x7_5).f1) ((rd_T40 l0_4 x7_5).f2) ((rd_T40 l0_4 x7_5).f3) _ _ ((rd_T40 l0_4 x7_5).f4) x1_5 (wrap64 (a2 - 1)) t111 _ ?side1 ?side2 A72.out).mono ?_); (case side1 => repeat (first | exact (Kd.C_below HR110_4.out HB.out) | (with_reducible refine Kd.C_alloc ?_ _) | (with_reducible refine Kd.C_drewN ?_ _) | (with_reducible refine Kd.C_drew ?_))); (case side2 => exact HC110_4.out); rintro e w74 ⟨rfl, hb⟩; have n0_ := Aside0.mk (blk_below (g := gb101) (o := .cells #[.int .i64 a0_0, .string a0_1, .int .i64 a0_2, .int .i64 a0_3, .slice (some ad110) l0_4.length c0_4] 40 (0, 0)) (by (with_reducible repeat (first | refine blk_drewN ?_ _ | refine blk_drew ?_ | refine blk_alloc ?_ _)); exact BK101.out) hb); have n1_ := Aside0.mk (below_step (by repeat (first | (with_reducible first | exact HB.out | apply below_alloc | apply pw_below_drewN | apply below_drew1 | refine below_set ?_ GE101.out) | exact HB.out)) hb); clear BK101; clear HB; have BK101 := n0_; have HB := n1_; clear n0_ n1_; (try clear hb); (try clear hb2); (try clear hk); (try clear hi))); try go_wp2_with (first | (go_at_call 110; (with_reducible refine (ih k5 (by have := HJ3.out; have := HJ11.out; have := HJ21.out; have := HJ36.out; have := HK5.out; omega) ((rd_T40 l0_4 x7_5).f0) ((rd_T40 l0_4 x7_5).f1) ((rd_T40 l0_4 x7_5).f2) ((rd_T40 l0_4 x7_5).f3) _ _ ((rd_T40 l0_4 x7_5).f4) x1_5 (wrap64 (a2 - 1)) t111 _ ?side1 ?side2 A72.out).mono ?_); (case side1 => repeat (first | exact (Kd.C_below HR110_4.out HB.out) | (with_reducible refine Kd.C_alloc ?_ _) | (with_reducible refine Kd.C_drewN ?_ _) | (with_reducible refine Kd.C_drew ?_))); (case side2 => exact HC110_4.out); rintro e w74 ⟨rfl, hb⟩; have n0_ := Aside0.mk (blk_below (g := gb101) (o := .cells #[.int .i64 a0_0, .string a0_1, .int .i64 a0_2, .int .i64 a0_3, .slice (some ad110) l0_4.length c0_4] 40 (0, 0)) (by (with_reducible repeat (first | refine blk_drewN ?_ _ | refine blk_drew ?_ | refine blk_alloc ?_ _)); exact BK101.out) hb); have n1_ := Aside0.mk (below_step (by repeat (first | (with_reducible first | exact HB.out | apply below_alloc | apply pw_below_drewN | apply below_drew1 | refine below_set ?_ GE101.out) | exact HB.out)) hb); clear BK101; clear HB; have BK101 := n0_; have HB := n1_; clear n0_ n1_; (try clear hb); (try clear hb2); (try clear hk); (try clear hi))))
                 go_roundg k5
                 case measure => have := HJ3.out; have := HJ11.out; have := HJ21.out; have := HJ36.out; have := HK5.out; omega
                 case rel => exact ⟨(t111), (wrap64 (x7_5 + 1)), (by first | rfl | (simp; done) | (simp [*]; done) | (simp [*]; exact (show ∀ l_ : List UInt8, l_.isEmpty = !(l_ != []) from fun l_ => by cases l_ <;> rfl) _)), (by first | rfl | (simp; done) | (simp [*]; done) | (simp [*]; exact (show ∀ l_ : List UInt8, l_.isEmpty = !(l_ != []) from fun l_ => by cases l_ <;> rfl) _)), H', ⟨by have := HJ3.out; have := HJ11.out; have := HJ21.out; have := HJ36.out; have := HK5.out; omega⟩, ⟨by (with_reducible repeat (first | refine blk_drewN ?_ _ | refine blk_drew ?_ | refine blk_alloc ?_ _)); exact BK101.out⟩, ⟨by repeat (first | (with_reducible first | exact HB.out | apply below_alloc | apply pw_below_drewN | apply below_drew1 | refine below_set ?_ GE101.out) | exact HB.out)⟩⟩
                ·rw [if_neg c71] at H
                 exact absurd H (by simp)
               ·rw [if_neg c70] at H
                have c70b0 : decide (0 ≤ x1_5) = false := decide_eq_false c70
                clear c70
                obtain rfl := Option.some.inj H
                have hcz75_0 : wr.cell? ⟨gb101, 0, none⟩ = some (.int .i64 a0_0) := (blk_cell BK101.out 0).trans rfl
                have hcz75_1 : wr.cell? ⟨gb101, 1, none⟩ = some (.string a0_1) := (blk_cell BK101.out 1).trans rfl
                have hcz75_2 : wr.cell? ⟨gb101, 2, none⟩ = some (.int .i64 a0_2) := (blk_cell BK101.out 2).trans rfl
                have hcz75_3 : wr.cell? ⟨gb101, 3, none⟩ = some (.int .i64 a0_3) := (blk_cell BK101.out 3).trans rfl
                have hcz75_4 : wr.cell? ⟨gb101, 4, none⟩ = some (.slice A0_4 l0_4.length c0_4) := (blk_cell BK101.out 4).trans rfl
                have hfz75_0 := blk_frozen BK101.out 0
                have hfz75_1 := blk_frozen BK101.out 1
                have hfz75_2 := blk_frozen BK101.out 2
                have hfz75_3 := blk_frozen BK101.out 3
                have hfz75_4 := blk_frozen BK101.out 4
                go_wp2
                repeat (go_quiet (fail); try go_wp2)
                go_ret
                exact ⟨by first | rfl | (simp [errW_none, errW_some] <;> rfl) | (simp [*, errW_none, errW_some] <;> rfl), by repeat (first | (with_reducible first | exact HB.out | apply below_alloc | apply pw_below_drewN | apply below_drew1 | refine below_set ?_ GE101.out) | exact HB.out)⟩
              ·rw [if_neg c69] at H
               have c69b0 : decide (x7_5 < (l0_4.length : Int)) = false := decide_eq_false c69
               clear c69
               obtain rfl := Option.some.inj H
               have hcz76_0 : wr.cell? ⟨gb101, 0, none⟩ = some (.int .i64 a0_0) := (blk_cell BK101.out 0).trans rfl
               have hcz76_1 : wr.cell? ⟨gb101, 1, none⟩ = some (.string a0_1) := (blk_cell BK101.out 1).trans rfl
               have hcz76_2 : wr.cell? ⟨gb101, 2, none⟩ = some (.int .i64 a0_2) := (blk_cell BK101.out 2).trans rfl
               have hcz76_3 : wr.cell? ⟨gb101, 3, none⟩ = some (.int .i64 a0_3) := (blk_cell BK101.out 3).trans rfl
               have hcz76_4 : wr.cell? ⟨gb101, 4, none⟩ = some (.slice A0_4 l0_4.length c0_4) := (blk_cell BK101.out 4).trans rfl
               have hfz76_0 := blk_frozen BK101.out 0
               have hfz76_1 := blk_frozen BK101.out 1
               have hfz76_2 := blk_frozen BK101.out 2
               have hfz76_3 := blk_frozen BK101.out 3
               have hfz76_4 := blk_frozen BK101.out 4
               go_wp2
               repeat (go_quiet (fail); try go_wp2)
               go_ret
               exact ⟨by first | rfl | (simp [errW_none, errW_some] <;> rfl) | (simp [*, errW_none, errW_some] <;> rfl), by repeat (first | (with_reducible first | exact HB.out | apply below_alloc | apply pw_below_drewN | apply below_drew1 | refine below_set ?_ GE101.out) | exact HB.out)⟩

end Go.Proofs.Ytgdpabedlghiaaa.PZ
-- printed for this claim by a program (pall.sh)
-- mended by fixpz.py
namespace Go.Proofs.Ytgdpabedlghiaaa.PZ
open Go.RowKit Go.Proofs.YtgdpabedlghiaaaW.PrintWords Go.Proofs.YtgdpabedlghiaaaW.PrintLast Go.Proofs.YtgdpabedlghiaaaW.PrintMore
attribute [local go_sem] max2_int min2_int max_two min_two max_three min_three max_four min_four   -- for this text's walks alone
set_option linter.unusedVariables false
set_option linter.unusedSimpArgs false

/-! ### hanaperref20_May: function 68 -/
def hanaperref20_May.f (k : Nat) (a0_0 : Int) (a0_1 : ByteArray) (a0_2 : Int) (a0_3 : Int) (l0_4 : List (S40)) : Option (Bool) := (hanaperref20_left.f k a0_0 a0_1 a0_2 a0_3 l0_4 24 8).bind fun t102 => (some (decide (t102 ≥ 0)))
set_option maxHeartbeats 8000000 in
set_option maxRecDepth 100000 in
theorem hanaperref20_May.calls (k : Nat) (a0_0 : Int) (a0_1 : ByteArray) (a0_2 : Int) (a0_3 : Int) (A0_4 : Option Addr) (c0_4 : Nat) (l0_4 : List (S40)) (r : Bool) (w : World) (hr0_4 : Kd.C k40 w A0_4 l0_4.length l0_4) (hc0_4 : l0_4.length ≤ c0_4) (h : hanaperref20_May.f k a0_0 a0_1 a0_2 a0_3 l0_4 = some r) :
  Calls Try.prog 68 #[.agg #[.int .i64 a0_0, .string a0_1, .int .i64 a0_2, .int .i64 a0_3, .slice A0_4 l0_4.length c0_4]] w fun e w' => e = .returned (.bool r) ∧ Below w.heap.size w w' := by
 have hu40 := Try.underlying40
 have HR0_4 := Aside0.mk hr0_4
 have HC0_4 := Aside0.mk hc0_4
 clear hr0_4 hc0_4
 have HB := Aside0.mk (Below.refl w.heap.size w)
 have H : ((hanaperref20_left.f k a0_0 a0_1 a0_2 a0_3 l0_4 24 8).bind fun t102 => (some (decide (t102 ≥ 0)))) = some r := h
 clear h
 replace H := Option.bind_eq_some_iff.mp H
 obtain ⟨t102, A20, H⟩ := H
 replace H : (some (decide (t102 ≥ 0))) = some r := H
 have A2 := Aside0.mk A20
 clear A20
 obtain rfl := Option.some.inj H
 go_enter Try.func68, Try.ntmps68
 go_wp2_with (first | ((with_reducible refine gate_dst (N := 1) rfl ?_); refine box_event ?hg (N := 1) ?hd (cs := #[.int .i64 a0_0, .string a0_1, .int .i64 a0_2, .int .i64 a0_3, .slice A0_4 l0_4.length c0_4]) (t := 40) ?hr ?_; (case hd => rfl); (case hg => rfl); (case hr => first | (go_simp; done) | (go_simp; rfl)); intro gb101 hg w3 hbox hb; have n0_ := Aside0.mk (below_step (by repeat (first | (with_reducible first | exact HB.out | apply below_alloc | apply pw_below_drewN | apply below_drew1) | exact HB.out)) hb); have n1_ := Aside0.mk (hbox); have n2_ := Aside0.mk ((by rw [hg]; exact (below_size (by repeat (first | (with_reducible first | exact HB.out | apply below_alloc | apply pw_below_drewN | apply below_drew1) | exact HB.out))) : w.heap.size ≤ gb101)); have n3_ := Aside0.mk ((by rw [hg]; exact (below_size (by repeat (first | (with_reducible first | exact HB.out | apply below_alloc | apply pw_below_drewN | apply below_drew1) | exact HB.out))) : w.heap.size ≤ gb101)); clear HB; have HB := n0_; have BK101 := n1_; have GW101 := n2_; have GE101 := n3_; clear n0_ n1_ n2_ n3_; clear hb hbox hg; have hcz4_0 : w3.cell? ⟨gb101, 0, none⟩ = some (.int .i64 a0_0) := (blk_cell BK101.out 0).trans rfl; have hcz4_1 : w3.cell? ⟨gb101, 1, none⟩ = some (.string a0_1) := (blk_cell BK101.out 1).trans rfl; have hcz4_2 : w3.cell? ⟨gb101, 2, none⟩ = some (.int .i64 a0_2) := (blk_cell BK101.out 2).trans rfl; have hcz4_3 : w3.cell? ⟨gb101, 3, none⟩ = some (.int .i64 a0_3) := (blk_cell BK101.out 3).trans rfl; have hcz4_4 : w3.cell? ⟨gb101, 4, none⟩ = some (.slice A0_4 l0_4.length c0_4) := (blk_cell BK101.out 4).trans rfl; have hfz4_0 := blk_frozen BK101.out 0; have hfz4_1 := blk_frozen BK101.out 1; have hfz4_2 := blk_frozen BK101.out 2; have hfz4_3 := blk_frozen BK101.out 3; have hfz4_4 := blk_frozen BK101.out 4) | ((with_reducible refine gate_callee (f := 110) rfl ?_); refine goesL_ (some 4) rfl rfl Try.func110 (by kernel_rfl) rfl #[.agg #[.int .i64 a0_0, .string a0_1, .int .i64 a0_2, .int .i64 a0_3, .slice A0_4 l0_4.length c0_4], .int .i64 24, .int .i64 8] rfl (by (try simp only [List.map_toArray, List.map_cons, List.map_nil]); first | done | rfl | (simp only [List.length_drop, List.length_take]; rfl)) ?_; (with_reducible refine (hanaperref20_left.calls k a0_0 a0_1 a0_2 a0_3 _ _ l0_4 24 8 t102 _ ?side1 ?side2 A2.out).mono ?_); (case side1 => repeat (first | exact (Kd.C_below HR0_4.out HB.out) | (with_reducible refine Kd.C_alloc ?_ _) | (with_reducible refine Kd.C_drewN ?_ _) | (with_reducible refine Kd.C_drew ?_))); (case side2 => exact HC0_4.out); rintro e w5 ⟨rfl, hb⟩; refine ⟨_, rfl, ?_⟩; have n0_ := Aside0.mk (blk_below (g := gb101) (o := .cells #[.int .i64 a0_0, .string a0_1, .int .i64 a0_2, .int .i64 a0_3, .slice A0_4 l0_4.length c0_4] 40 (0, 0)) (by (with_reducible repeat (first | refine blk_drewN ?_ _ | refine blk_drew ?_ | refine blk_alloc ?_ _)); exact BK101.out) hb); have n1_ := Aside0.mk (below_step (by repeat (first | (with_reducible first | exact HB.out | apply below_alloc | apply pw_below_drewN | apply below_drew1 | refine below_set ?_ GE101.out) | exact HB.out)) hb); clear BK101; clear HB; have BK101 := n0_; have HB := n1_; clear n0_ n1_; (try clear hb); (try clear hb2); (try clear hk); (try clear hi)))
 go_ret
 exact ⟨by first | rfl | (simp [errW_none, errW_some] <;> rfl) | (simp [*, errW_none, errW_some] <;> rfl), by repeat (first | (with_reducible first | exact HB.out | apply below_alloc | apply pw_below_drewN | apply below_drew1 | refine below_set ?_ GE101.out) | exact HB.out)⟩

end Go.Proofs.Ytgdpabedlghiaaa.PZ
/- Which scopes may be: the document's count is the program's. -/
namespace Go.Proofs.Ytgdpabedlghiaaa.Scope
set_option linter.unusedVariables false
set_option linter.unusedSimpArgs false
open Go.RowKit Go.Proofs.YtgdpabedlghiaaaW.PrintWords Go.Proofs.Ytgdpabedlghiaaa.PZ Go.Proofs.Ytgdpabedlghiaaa.Aid
theorem may_eq (x : S40) (deep left : Int) : mayS x deep left = if wrap64 (left - 1) < 0 then (false, wrap64 (left - 1)) else if deep = 0 then (false, wrap64 (left - 1)) else if fieldsB x.f0 x.f1 x.f2 x.f3 = false then (false, wrap64 (left - 1))
   else if (x.f4.length : Int) < leastB x.f0 then (false, wrap64 (left - 1)) else if mostB x.f0 < (x.f4.length : Int) then (false, wrap64 (left - 1))
   else (!(mayAny x.f4 (wrap64 (deep - 1)) (wrap64 (left - 1))).1, (mayAny x.f4 (wrap64 (deep - 1)) (wrap64 (left - 1))).2) := by
 obtain ⟨op, nm, fr, to_, kids⟩ := x
 simp only [mayS]
theorem any_rng (d : Int) : ∀ (ks : List S40) (l : Int), (∀ k ∈ ks, ∀ l, -1 ≤ l → l ≤ 24 → (mayS k d l).1 = true → 0 ≤ (mayS k d l).2 ∧ (mayS k d l).2 + nodes k ≤ l) → -1 ≤ l → l ≤ 24 → (mayAny ks d l).1 = false → (mayAny ks d l).2 + nodesL ks ≤ l ∧ (0 ≤ l → 0 ≤ (mayAny ks d l).2)
 | [], l, _, _, _, _ => by simp [mayAny, nodesL]
 | k :: ks, l, ih, h0, h1, h => by
  rw [mayAny] at h ⊢
  by_cases c : (mayS k d l).1 = false
  ·rw [if_pos c] at h
   exact absurd h (by simp)
  ·rw [if_neg c] at h ⊢
   have c' : (mayS k d l).1 = true := by simpa using c
   obtain ⟨a, b⟩ := ih k (List.mem_cons_self) l h0 h1 c'
   have := any_rng d ks _ (fun k hk => ih k (List.mem_cons_of_mem _ hk)) (by omega) (by omega) h
   rw [nodesL]
   exact ⟨by have := this.1; omega, fun _ => this.2 a⟩
theorem may_rng : ∀ (n : Nat) (x : S40), SizeOf.sizeOf x < n → ∀ d l, -1 ≤ l → l ≤ 24 → (mayS x d l).1 = true → 0 ≤ (mayS x d l).2 ∧ (mayS x d l).2 + nodes x ≤ l := by
 intro n
 induction n with
 | zero => intro x h; exact absurd h (by omega)
 | succ n ih =>
  intro x hn d l h0 h1 h
  have hw : wrap64 (l - 1) = l - 1 := w64 (by omega) (by omega)
  rw [may_eq, hw] at h ⊢
  by_cases c1 : l - 1 < 0
  ·rw [if_pos c1] at h; exact absurd h (by simp)
  ·rw [if_neg c1] at h ⊢
   by_cases c2 : d = 0
   ·rw [if_pos c2] at h; exact absurd h (by simp)
   ·rw [if_neg c2] at h ⊢
    by_cases c3 : fieldsB x.f0 x.f1 x.f2 x.f3 = false
    ·rw [if_pos c3] at h; exact absurd h (by simp)
    ·rw [if_neg c3] at h ⊢
     by_cases c4 : (x.f4.length : Int) < leastB x.f0
     ·rw [if_pos c4] at h; exact absurd h (by simp)
     ·rw [if_neg c4] at h ⊢
      by_cases c5 : mostB x.f0 < (x.f4.length : Int)
      ·rw [if_pos c5] at h; exact absurd h (by simp)
      ·rw [if_neg c5] at h ⊢
       have h' : (mayAny x.f4 (wrap64 (d - 1)) (l - 1)).1 = false := by simpa using h
       have := any_rng (wrap64 (d - 1)) x.f4 (l - 1) (fun k hk l q0 q1 q2 => ih k (by have := kid_lt hk; omega) _ l q0 q1 q2) (by omega) (by omega) h'
       exact ⟨this.2 (by omega), by rw [nodes_eq]; have := this.1; show (mayAny x.f4 (wrap64 (d - 1)) (l - 1)).2 + _ ≤ l; omega⟩
/-- What the document's count comes to. -/
def leftV (x : S40) (m deep : Int) : Int := if (mayS x deep m).1 = true then (mayS x deep m).2 else -1
theorem leftV_of {x : S40} {m deep : Int} (hw : wrap64 (m - 1) = m - 1) : leftV x m deep = if m - 1 < 0 ∨ deep = 0 ∨ fieldsB x.f0 x.f1 x.f2 x.f3 = false ∨ (x.f4.length : Int) < leastB x.f0 ∨ mostB x.f0 < (x.f4.length : Int) then -1 else if (mayAny x.f4 (wrap64 (deep - 1)) (m - 1)).1 = true then -1 else (mayAny x.f4 (wrap64 (deep - 1)) (m - 1)).2 := by
 unfold leftV
 rw [may_eq, hw]
 by_cases c1 : m - 1 < 0
 ·rw [if_pos (Or.inl c1), if_pos c1]; rfl
 ·rw [if_neg c1]
  by_cases c2 : deep = 0
  ·rw [if_pos (Or.inr (Or.inl c2)), if_pos c2]; rfl
  ·rw [if_neg c2]
   by_cases c3 : fieldsB x.f0 x.f1 x.f2 x.f3 = false
   ·rw [if_pos (Or.inr (Or.inr (Or.inl c3))), if_pos c3]; rfl
   ·rw [if_neg c3]
    by_cases c4 : (x.f4.length : Int) < leastB x.f0
    ·rw [if_pos (Or.inr (Or.inr (Or.inr (Or.inl c4)))), if_pos c4]; rfl
    ·rw [if_neg c4]
     by_cases c5 : mostB x.f0 < (x.f4.length : Int)
     ·rw [if_pos (Or.inr (Or.inr (Or.inr (Or.inr c5)))), if_pos c5]; rfl
     ·have hn : ¬ (m - 1 < 0 ∨ deep = 0 ∨ fieldsB x.f0 x.f1 x.f2 x.f3 = false ∨ (x.f4.length : Int) < leastB x.f0 ∨ mostB x.f0 < (x.f4.length : Int)) := by rintro (h | h | h | h | h); exact c1 h; exact c2 h; exact c3 h; exact c4 h; exact c5 h
      rw [if_neg c5, if_neg hn]
      cases hq : (mayAny x.f4 (wrap64 (deep - 1)) (m - 1)).1 <;> simp
theorem leftV_rng (x : S40) (m deep : Int) (h0 : -1 ≤ m) (h1 : m ≤ 24) : -1 ≤ leftV x m deep ∧ leftV x m deep ≤ 24 ∧ (0 ≤ leftV x m deep → (mayS x deep m).1 = true) := by
 unfold leftV
 by_cases c : (mayS x deep m).1 = true
 ·rw [if_pos c]
  have := may_rng _ x (Nat.lt_succ_self _) deep m h0 h1 c
  exact ⟨by omega, by omega, fun _ => c⟩
 ·rw [if_neg c]
  exact ⟨by omega, by omega, fun h => absurd h (by decide)⟩
def loopV (ks : List S40) (d m : Int) : Int := if m < 0 then m else if (mayAny ks d m).1 = true then -1 else (mayAny ks d m).2
theorem left_loop (op : Int) (nm : ByteArray) (fr to_ : Int) (kids : List S40) (deep : Int) (hl : kids.length ≤ 60)
  (ih : ∀ k ∈ kids, ∀ m, -1 ≤ m → m ≤ 24 → Ev (fun n => hanaperref20_left.f n k.f0 k.f1 k.f2 k.f3 k.f4 m (wrap64 (deep - 1))) (leftV k m (wrap64 (deep - 1)))) :
  ∀ (j i : Nat) (m : Int), i + j = kids.length → -1 ≤ m → m ≤ 24 → Ev (fun n => hanaperref20_left.l0 n m deep (i : Int) op nm fr to_ kids) (loopV (kids.drop i) (wrap64 (deep - 1)) m) := by
 intro j
 induction j with
 | zero =>
  intro i m hi h0 h1
  refine Ev.step (fun k => by simp only [hanaperref20_left.l0]; rfl) (neg (by omega) (now ?_))
  rw [List.drop_eq_nil_of_le (by omega), loopV]
  by_cases c : m < 0
  ·rw [if_pos c]
  ·rw [if_neg c]; simp [mayAny]
 | succ j ih2 =>
  intro i m hi h0 h1
  by_cases hm : m ≥ 0
  ·have hlt : i < kids.length := by omega
   refine Ev.step (fun k => by simp only [hanaperref20_left.l0]; rfl) (pos (by omega) (pos hm (pos (by omega) ?_)))
   rw [rd_at kids i hlt]
   refine evBind (ih kids[i] (List.getElem_mem hlt) m h0 h1) ?_
   rw [show wrap64 ((i : Int) + 1) = ((i + 1 : Nat) : Int) from inc hlt (by omega)]
   have hr := leftV_rng kids[i] m (wrap64 (deep - 1)) h0 h1
   have h2 := ih2 (i + 1) (leftV kids[i] m (wrap64 (deep - 1))) (by omega) hr.1 hr.2.1
   have he : loopV (kids.drop i) (wrap64 (deep - 1)) m = loopV (kids.drop (i + 1)) (wrap64 (deep - 1)) (leftV kids[i] m (wrap64 (deep - 1))) := by
    rw [List.drop_eq_getElem_cons hlt, loopV, if_neg (by omega), mayAny, loopV]
    by_cases c : (mayS kids[i] (wrap64 (deep - 1)) m).1 = true
    ·have hv : leftV kids[i] m (wrap64 (deep - 1)) = (mayS kids[i] (wrap64 (deep - 1)) m).2 := by unfold leftV; rw [if_pos c]
     have := may_rng _ kids[i] (Nat.lt_succ_self _) (wrap64 (deep - 1)) m h0 h1 c
     have cf : ¬ ((mayS kids[i] (wrap64 (deep - 1)) m).1 = false) := by rw [c]; simp
     rw [hv, if_neg cf, if_neg (by omega : ¬ (mayS kids[i] (wrap64 (deep - 1)) m).2 < 0)]
    ·have hv : leftV kids[i] m (wrap64 (deep - 1)) = -1 := by unfold leftV; rw [if_neg c]
     have cf : (mayS kids[i] (wrap64 (deep - 1)) m).1 = false := by simpa using c
     rw [hv, if_pos cf]
     simp
   rw [he]
   exact h2
  ·refine Ev.step (fun k => by simp only [hanaperref20_left.l0]; rfl) (pos (by omega) (neg hm (now ?_)))
   rw [loopV, if_pos (by omega)]
theorem j2_many (k : Nat) (m d op : Int) (nm : ByteArray) (fr to_ : Int) (kids : List S40) (h : op = 6 ∨ op = 7) : hanaperref20_left.j2 (k + 1) m d op nm fr to_ kids = hanaperref20_left.j3 k m d (decide ((kids.length : Int) < 2) || decide ((kids.length : Int) > m)) op nm fr to_ kids := by
 rcases h with rfl | rfl <;> by_cases c : (kids.length : Int) < 2 <;> simp [hanaperref20_left.j2, hanaperref20_many.f, c]
theorem j2_not (k : Nat) (m d op : Int) (nm : ByteArray) (fr to_ : Int) (kids : List S40) (h : op = 8) : hanaperref20_left.j2 (k + 1) m d op nm fr to_ kids = hanaperref20_left.j3 k m d (!decide ((kids.length : Int) = 1) || decide ((kids.length : Int) > m)) op nm fr to_ kids := by
 subst h
 by_cases c : (kids.length : Int) = 1 <;> simp [hanaperref20_left.j2, hanaperref20_many.f, c]
theorem j2_else (k : Nat) (m d op : Int) (nm : ByteArray) (fr to_ : Int) (kids : List S40) (h6 : op ≠ 6) (h7 : op ≠ 7) (h8 : op ≠ 8) : hanaperref20_left.j2 (k + 1) m d op nm fr to_ kids = hanaperref20_left.j3 k m d (decide ((kids.length : Int) > 0) || decide ((kids.length : Int) > m)) op nm fr to_ kids := by
 by_cases c : 0 < kids.length <;> simp [hanaperref20_left.j2, hanaperref20_many.f, h6, h7, h8, c]
theorem left_j3 (m d op : Int) (nm : ByteArray) (fr to_ : Int) (kids : List S40) (f : Bool) (w : Int) (hw : f = false → Ev (fun n => hanaperref20_left.l0 n m d 0 op nm fr to_ kids) w) (h1 : f = true → w = -1) : Ev (fun n => hanaperref20_left.j3 n m d f op nm fr to_ kids) w := by
 refine Ev.step (fun k => by simp only [hanaperref20_left.j3]; rfl) ?_
 cases f
 ·exact neg (by decide) (hw rfl)
 ·rw [h1 rfl]
  exact pos rfl (now rfl)
/-- Has a scope as many kids as its kind has? -/
def kidsOk (op : Int) (n : Nat) (m : Int) : Bool := decide (leastB op ≤ (n : Int)) && (decide ((n : Int) ≤ mostB op) && decide ((n : Int) ≤ m))
theorem left_j2 (m d op : Int) (nm : ByteArray) (fr to_ : Int) (kids : List S40) (hm : m ≤ 24) (w : Int) (hw : kidsOk op kids.length m = true → Ev (fun n => hanaperref20_left.l0 n m d 0 op nm fr to_ kids) w) (h1 : kidsOk op kids.length m = false → w = -1) : Ev (fun n => hanaperref20_left.j2 n m d op nm fr to_ kids) w := by
 by_cases h67 : op = 6 ∨ op = 7
 ·refine Ev.step (fun k => j2_many k m d op nm fr to_ kids h67) (left_j3 _ _ _ _ _ _ _ _ _ (fun h => hw ?_) (fun h => h1 ?_))
  ·have e1 : leastB op = 2 := by rcases h67 with rfl | rfl <;> decide
   have e2 : mostB op = 24 := by rcases h67 with rfl | rfl <;> decide
   simp only [Bool.or_eq_false_iff, decide_eq_false_iff_not] at h
   simp only [kidsOk, e1, e2, Bool.and_eq_true, decide_eq_true_eq]
   omega
  ·have e1 : leastB op = 2 := by rcases h67 with rfl | rfl <;> decide
   have e2 : mostB op = 24 := by rcases h67 with rfl | rfl <;> decide
   simp only [Bool.or_eq_true, decide_eq_true_eq] at h
   simp only [kidsOk, e1, e2, Bool.and_eq_false_iff, decide_eq_false_iff_not]
   omega
 ·by_cases h8 : op = 8
  ·refine Ev.step (fun k => j2_not k m d op nm fr to_ kids h8) (left_j3 _ _ _ _ _ _ _ _ _ (fun h => hw ?_) (fun h => h1 ?_))
   ·have e1 : leastB op = 1 := by rw [h8]; decide
    have e2 : mostB op = 1 := by rw [h8]; decide
    simp only [Bool.or_eq_false_iff, Bool.not_eq_false', decide_eq_true_eq, decide_eq_false_iff_not] at h
    simp only [kidsOk, e1, e2, Bool.and_eq_true, decide_eq_true_eq]
    omega
   ·have e1 : leastB op = 1 := by rw [h8]; decide
    have e2 : mostB op = 1 := by rw [h8]; decide
    simp only [Bool.or_eq_true, Bool.not_eq_true', decide_eq_false_iff_not, decide_eq_true_eq] at h
    simp only [kidsOk, e1, e2, Bool.and_eq_false_iff, decide_eq_false_iff_not]
    omega
  ·have h6 : op ≠ 6 := fun h => h67 (Or.inl h)
   have h7 : op ≠ 7 := fun h => h67 (Or.inr h)
   have e1 : leastB op = 0 := by simp [leastB, h6, h7, h8]
   have e2 : mostB op = 0 := by simp [mostB, h6, h7, h8]
   refine Ev.step (fun k => j2_else k m d op nm fr to_ kids h6 h7 h8) (left_j3 _ _ _ _ _ _ _ _ _ (fun h => hw ?_) (fun h => h1 ?_))
   ·simp only [Bool.or_eq_false_iff, decide_eq_false_iff_not] at h
    simp only [kidsOk, e1, e2, Bool.and_eq_true, decide_eq_true_eq]
    omega
   ·simp only [Bool.or_eq_true, decide_eq_true_eq] at h
    simp only [kidsOk, e1, e2, Bool.and_eq_false_iff, decide_eq_false_iff_not]
    omega
/-- The times, and no others. -/
def timesOk (op fr to_ : Int) : Bool := if op = 5 then decide (fr ≥ 0) && (decide (fr ≤ to_) && decide (to_ ≤ 1099511627776)) else decide (fr = 0) && decide (to_ = 0)
theorem left_j1 (m d op : Int) (nm : ByteArray) (fr to_ : Int) (kids : List S40) (f : Bool) (w : Int) (hw : f = false → timesOk op fr to_ = true → Ev (fun n => hanaperref20_left.j2 n m d op nm fr to_ kids) w) (h1 : f = true ∨ timesOk op fr to_ = false → w = -1) : Ev (fun n => hanaperref20_left.j1 n m d f op nm fr to_ kids) w := by
 refine Ev.step (fun k => by simp only [hanaperref20_left.j1]; rfl) ?_
 cases f
 ·refine neg (by decide) ?_
  by_cases h5 : op = 5
  ·refine pos h5 ?_
   by_cases c1 : fr < 0
   ·rw [h1 (Or.inr (by simp [timesOk, h5]; omega))]; exact pos c1 (now rfl)
   ·refine neg c1 ?_
    by_cases c2 : fr > to_
    ·rw [h1 (Or.inr (by simp [timesOk, h5]; omega))]; exact pos c2 (now rfl)
    ·refine neg c2 ?_
     by_cases c3 : to_ > 1099511627776
     ·rw [h1 (Or.inr (by simp [timesOk, h5]; omega))]; exact pos c3 (now rfl)
     ·exact neg c3 (hw rfl (by simp [timesOk, h5]; omega))
  ·refine neg h5 ?_
   by_cases c1 : fr = 0
   ·refine pos c1 ?_
    by_cases c2 : to_ = 0
    ·exact pos c2 (hw rfl (by simp [timesOk, h5, c1, c2]))
    ·rw [h1 (Or.inr (by simp [timesOk, h5, c2]))]; exact neg c2 (now rfl)
   ·rw [h1 (Or.inr (by simp [timesOk, h5, c1]))]; exact neg c1 (now rfl)
 ·rw [h1 (Or.inl rfl)]
  exact pos rfl (now rfl)
theorem nameB_empty {nm : ByteArray} (h : nm.toList = []) : Name.nameB nm = false := by
 have h2 : nm.size = 0 := by
  have h3 := data_length nm
  rw [← ByteArray.toList_eq, h] at h3
  exact h3.symm
 simp [Name.nameB, h2]
/-- What the document asks of a name. -/
def badName (op : Int) (nm : ByteArray) : Bool := (namedB op != (nm.toList != [])) || (namedB op && !Name.nameB nm)
theorem fields_doc {op : Int} (h1 : ¬ op < 1) (h8 : ¬ op > 8) (nm : ByteArray) (fr to_ : Int) : fieldsB op nm fr to_ = (!badName op nm && timesOk op fr to_) := by
 unfold fieldsB badName timesOk
 rw [if_neg (by omega : ¬ (op < 1 ∨ op > 8))]
 by_cases he : nm.toList = []
 ·have hn := nameB_empty he
  cases hb : namedB op <;> simp [he, hn]
 ·cases hb : namedB op <;> cases hn : Name.nameB nm <;> simp [he]
theorem left_j0 (m d op : Int) (nm : ByteArray) (hs : nm.size ≤ 100) (fr to_ : Int) (kids : List S40) (w : Int)
  (hw : badName op nm = false → timesOk op fr to_ = true → Ev (fun n => hanaperref20_left.j2 n (wrap64 (m - 1)) d op nm fr to_ kids) w) (h1 : badName op nm = true ∨ timesOk op fr to_ = false → w = -1) : Ev (fun n => hanaperref20_left.j0 n m d false op nm fr to_ kids) w := by
 refine Ev.step (fun k => by simp only [hanaperref20_left.j0]; rfl) (neg (by decide) (bindSome (named_v2 op) ?_))
 by_cases c : (namedB op != (nm.toList != [])) = true
 ·exact pos c (left_j1 _ _ _ _ _ _ _ _ _ (fun h => absurd h (by decide)) (fun _ => h1 (Or.inl (by simp only [badName, c, Bool.true_or]))))
 ·refine neg c (bindSome (named_v2 op) ?_)
  have c' : (namedB op != (nm.toList != [])) = false := by simpa using c
  by_cases hb : namedB op = true
  ·refine pos hb (evBind (Name.name_ev nm (by omega)) (left_j1 _ _ _ _ _ _ _ _ _ (fun h ht => hw ?_ ht) (fun h => h1 ?_)))
   ·unfold badName; rw [c', hb]; exact h
   ·exact h.imp (fun h => by unfold badName; rw [c', hb]; exact h) id
  ·have hb' : namedB op = false := by simpa using hb
   refine neg hb (left_j1 _ _ _ _ _ _ _ _ _ (fun h ht => hw ?_ ht) (fun h => h1 ?_))
   ·unfold badName; rw [c', hb']; rfl
   ·exact h.imp (fun h => absurd h (by decide)) id
theorem left_bad (m d op : Int) (nm : ByteArray) (fr to_ : Int) (kids : List S40) : Ev (fun n => hanaperref20_left.j0 n m d true op nm fr to_ kids) (-1) :=
 Ev.step (fun k => by simp only [hanaperref20_left.j0]; rfl) (pos (show true = true from rfl) (now rfl))
theorem left_ev : ∀ (n : Nat) (x : S40), SizeOf.sizeOf x < n → short x → nodes x ≤ 1000000 → ∀ m deep, -1 ≤ m → m ≤ 24 → 0 ≤ deep → deep ≤ 8 → Ev (fun k => hanaperref20_left.f k x.f0 x.f1 x.f2 x.f3 x.f4 m deep) (leftV x m deep) := by
 intro n
 induction n with
 | zero => intro x h; exact absurd h (by omega)
 | succ n ih =>
  intro x hn hs hN m deep h0 h1 d0 d1
  have hw : wrap64 (m - 1) = m - 1 := w64 (by omega) (by omega)
  have hs2 := (short_eq x).1 hs
  have hN2 : nodesL x.f4 < 1000000 := by rw [nodes_eq] at hN; omega
  have hlen := len_nodes x.f4
  by_cases c1 : m < 1
  ·have hv : leftV x m deep = -1 := by rw [leftV_of hw, if_pos (Or.inl (by omega))]
   rw [hv]
   exact Ev.step (fun k => by simp only [hanaperref20_left.f]; rfl) (pos c1 (left_bad _ _ _ _ _ _ _))
  ·by_cases c2 : deep < 1
   ·have hv : leftV x m deep = -1 := by rw [leftV_of hw, if_pos (Or.inr (Or.inl (by omega)))]
    rw [hv]
    exact Ev.step (fun k => by simp only [hanaperref20_left.f]; rfl) (neg c1 (pos c2 (left_bad _ _ _ _ _ _ _)))
   ·by_cases c3 : x.f0 < 1
    ·have hf : fieldsB x.f0 x.f1 x.f2 x.f3 = false := by unfold fieldsB; rw [if_pos (Or.inl c3)]
     have hv : leftV x m deep = -1 := by rw [leftV_of hw, if_pos (Or.inr (Or.inr (Or.inl hf)))]
     rw [hv]
     exact Ev.step (fun k => by simp only [hanaperref20_left.f]; rfl) (neg c1 (neg c2 (pos c3 (left_bad _ _ _ _ _ _ _))))
    ·by_cases c4 : x.f0 > 8
     ·have hf : fieldsB x.f0 x.f1 x.f2 x.f3 = false := by unfold fieldsB; rw [if_pos (Or.inr c4)]
      have hv : leftV x m deep = -1 := by rw [leftV_of hw, if_pos (Or.inr (Or.inr (Or.inl hf)))]
      rw [hv]
      refine Ev.step (fun k => by simp only [hanaperref20_left.f]; rfl) (neg c1 (neg c2 (neg c3 ?_)))
      rw [decide_eq_true c4]
      exact left_bad _ _ _ _ _ _ _
     ·refine Ev.step (fun k => by simp only [hanaperref20_left.f]; rfl) (neg c1 (neg c2 (neg c3 ?_)))
      rw [decide_eq_false c4]
      have hfd := fields_doc c3 c4 x.f1 x.f2 x.f3
      refine left_j0 m deep x.f0 x.f1 hs2.1 x.f2 x.f3 x.f4 _ (fun hb ht => ?_) (fun hbt => ?_)
      ·have hf : ¬ (fieldsB x.f0 x.f1 x.f2 x.f3 = false) := by rw [hfd, hb, ht]; decide
       rw [hw]
       refine left_j2 (m - 1) deep x.f0 x.f1 x.f2 x.f3 x.f4 (by omega) _ (fun hk => ?_) (fun hk => ?_)
       ·simp only [kidsOk, Bool.and_eq_true, decide_eq_true_eq] at hk
        have hl := left_loop x.f0 x.f1 x.f2 x.f3 x.f4 deep (by omega) (fun k hk m q0 q1 => ih k (by have := kid_lt hk; omega) (shortL_mem hs2.2 hk) (by have := node_le hk; omega) m (wrap64 (deep - 1)) q0 q1 (by rw [w64 (by omega) (by omega)]; omega) (by rw [w64 (by omega) (by omega)]; omega)) x.f4.length 0 (m - 1) (by omega) (by omega) (by omega)
        have he : leftV x m deep = loopV (x.f4.drop 0) (wrap64 (deep - 1)) (m - 1) := by
         have z1 : ¬ (m - 1 < 0) := by omega
         have hn : ¬ (m - 1 < 0 ∨ deep = 0 ∨ fieldsB x.f0 x.f1 x.f2 x.f3 = false ∨ (x.f4.length : Int) < leastB x.f0 ∨ mostB x.f0 < (x.f4.length : Int)) := by rintro (h | h | h | h | h); omega; omega; exact hf h; omega; omega
         rw [leftV_of hw, if_neg hn, List.drop_zero, loopV, if_neg z1]
        rw [he]
        exact hl
       ·rw [leftV_of hw]
        simp only [kidsOk, Bool.and_eq_false_iff, decide_eq_false_iff_not] at hk
        by_cases q1 : (x.f4.length : Int) < leastB x.f0
        ·rw [if_pos (Or.inr (Or.inr (Or.inr (Or.inl q1))))]
        ·by_cases q2 : mostB x.f0 < (x.f4.length : Int)
         ·rw [if_pos (Or.inr (Or.inr (Or.inr (Or.inr q2))))]
         ·have hn : ¬ (m - 1 < 0 ∨ deep = 0 ∨ fieldsB x.f0 x.f1 x.f2 x.f3 = false ∨ (x.f4.length : Int) < leastB x.f0 ∨ mostB x.f0 < (x.f4.length : Int)) := by rintro (h | h | h | h | h); omega; omega; exact hf h; omega; omega
          rw [if_neg hn]
          have q3 : ¬ (x.f4.length : Int) ≤ m - 1 := by omega
          cases hq : (mayAny x.f4 (wrap64 (deep - 1)) (m - 1)).1
          ·have := any_rng (wrap64 (deep - 1)) x.f4 (m - 1) (fun k hk l r0 r1 r2 => may_rng _ k (Nat.lt_succ_self _) _ l r0 r1 r2) (by omega) (by omega) hq
           have h3 := this.2 (by omega)
           omega
          ·rfl
      ·have hf : fieldsB x.f0 x.f1 x.f2 x.f3 = false := by
        rw [hfd]
        rcases hbt with h | h
        ·rw [h]; rfl
        ·rw [h, Bool.and_false]
       rw [leftV_of hw, if_pos (Or.inr (Or.inr (Or.inl hf)))]
/-- The document's May is the program's. -/
theorem May_big (x : S40) (hs : short x) (hN : nodes x ≤ 1000000) : Ev (fun k => hanaperref20_May.f k x.f0 x.f1 x.f2 x.f3 x.f4) (mayB x) := by
 refine evBind (left_ev _ x (Nat.lt_succ_self _) hs hN 24 8 (by decide) (by decide) (by decide) (by decide)) (now ?_)
 have h := leftV_rng x 24 8 (by decide) (by decide)
 unfold mayB
 cases hq : (mayS x 8 24).1
 ·exact decide_eq_false (fun h2 => by rw [h.2.2 h2] at hq; exact absurd hq (by decide))
 ·have := may_rng _ x (Nat.lt_succ_self _) 8 24 (by decide) (by decide) hq
  refine decide_eq_true ?_
  unfold leftV
  rw [if_pos hq]
  exact this.1
end Go.Proofs.Ytgdpabedlghiaaa.Scope
/- The lowest functions, each with what it answers. -/
namespace Go.Proofs.Ytgdpabedlghiaaa.Lo
open Go.Proofs.Ytgdpabedlghiaaa.Base Go.Proofs.Ytgdpabedlghiaaa.TlvPlain Go.Proofs.Ytgdpabedlghiaaa.Aid Go.RowKit Go.Proofs.YtgdpabedlghiaaaW.PrintWords Go.Proofs.YtgdpabedlghiaaaW.PrintLast Go.Proofs.YtgdpabedlghiaaaW.PrintMore Go.Proofs.Ytgdpabedlghiaaa.PZ

/-- New bytes. -/
def Makes (w : World) (bs : List Int) (e : Ending) (w' : World) : Prop := ∃ v : Value, e = .returned v ∧ Ob w' w.heap.size v bs ∧ Below w.heap.size w w'
theorem same_c (A0 : Option Addr) (c0 : Nat) (a : List Int) (A1 : Option Addr) (c1 : Nat) (b : List Int) (w : World) (h0 : Rb w A0 a) (hc0 : a.length ≤ c0) (h1 : Rb w A1 b) (hc1 : b.length ≤ c1) (hn : a.length ≤ 4611686018427387904) :
    Calls Try.prog 18 #[.slice A0 a.length c0, .slice A1 b.length c1] w fun e w' => e = .returned (.bool (decide (a = b))) ∧ Drawn0 w w' := by
  obtain ⟨k, h⟩ := (same_ev a b hn).rounds
  exact hanaperref01_Same.calls k A0 c0 a A1 c1 b _ w h0 hc0 h1 hc1 h
theorem same_n (A0 : Option Addr) (c0 n0 : Nat) (a : List Int) (A1 : Option Addr) (c1 n1 : Nat) (b : List Int) (w : World) (h0 : Rb w A0 a) (e0 : a.length = n0) (hc0 : n0 ≤ c0) (h1 : Rb w A1 b) (e1 : b.length = n1) (hc1 : n1 ≤ c1) (hn : n0 ≤ 4611686018427387904) :
    Calls Try.prog 18 #[.slice A0 n0 c0, .slice A1 n1 c1] w fun e w' => e = .returned (.bool (decide (a = b))) ∧ Drawn0 w w' := by
  subst e0; subst e1
  exact same_c A0 c0 a A1 c1 b w h0 hc0 h1 hc1 hn
theorem text_c (A0 : Option Addr) (c0 : Nat) (l : List Int) (w : World) (hr : Rb w A0 l) (hc : l.length ≤ c0) (hl : l.length < 140737488355000) : Calls Try.prog 56 #[.slice A0 l.length c0] w (Makes w (textB l)) := by
  obtain ⟨k, h⟩ := (text_ev l hl).rounds
  exact tlv_Text.calls k A0 c0 l _ w hr hc h
theorem copy_c (A0 : Option Addr) (c0 : Nat) (l : List Int) (w : World) (hr : Rb w A0 l) (hc : l.length ≤ c0) (hl : l.length < 140737488355328) : Calls Try.prog 93 #[.slice A0 l.length c0] w (Makes w l) :=
  hanaperref01_Copy.calls A0 c0 l _ w hr hc (copy_ev l hl)
theorem copy_n (A0 : Option Addr) (c0 n : Nat) (l : List Int) (w : World) (hr : Rb w A0 l) (hn : l.length = n) (hc : n ≤ c0) (hl : n < 140737488355328) : Calls Try.prog 93 #[.slice A0 n c0] w (Makes w l) := by
  subst hn
  exact copy_c A0 c0 l w hr hc hl
theorem value_c (A0 : Option Addr) (c0 : Nat) (l : List Int) (w : World) (hr : Rb w A0 l) (hc : l.length ≤ c0) (hu : U8 l) (h8 : l.length ≤ 8) :
    Calls Try.prog 124 #[.slice A0 l.length c0] w fun e w' => e = .returned (.int .u64 (valueB l)) ∧ Drawn0 w w' := by
  obtain ⟨k, h⟩ := (value_ev l hu h8).rounds
  exact hanaperref01_Value.calls k A0 c0 l _ w hr hc h
end Go.Proofs.Ytgdpabedlghiaaa.Lo
/- Text of a string's bytes (a conversion and a call, one step for the printer). -/
namespace Go.Proofs.Ytgdpabedlghiaaa.PZ
set_option linter.unusedVariables false
open Go.RowKit Go.Proofs.Ytgdpabedlghiaaa.Base Go.Proofs.Ytgdpabedlghiaaa.TlvPlain Go.Proofs.Ytgdpabedlghiaaa.Lo Go.Proofs.YtgdpabedlghiaaaW.PrintWords
theorem textS_of {F : Nat} (s : ByteArray) (hs : s.size < 140737488355000) (W : World) (h : Calls Try.prog F #[.slice (some ⟨W.heap.size, 0, none⟩) (bytesOf s).length (grownCap W s.size 0 5)] (Lib.bytesWorld W 5 s) (Makes (Lib.bytesWorld W 5 s) (textB (bytesOf s)))) :
    Calls Try.prog F #[.slice (some ⟨W.heap.size, 0, none⟩) s.size (grownCap W s.size 0 5)] (Lib.bytesWorld W 5 s) fun e w' => ∃ v0_ : Value, e = .returned (v0_) ∧ Kd.R (Kd.int .u8) 5 w' W.heap.size (fun _ => True) v0_ (textB (bytesOf s)) ∧ Below W.heap.size W w' := by
  rw [bytesOf_length] at h
  have hb := bytes_below (Below.refl W.heap.size W) (Nat.le_refl _) 5 s
  refine h.mono ?_
  rintro e w' ⟨v, rfl, ho, hb2⟩
  exact ⟨v, rfl, Kd.R_lower ho hb.size, below_step hb hb2⟩
theorem bytes_row (s : ByteArray) (hs : s.size < 140737488355000) (W : World) : Rb (Lib.bytesWorld W 5 s) (some ⟨W.heap.size, 0, none⟩) (bytesOf s) := by
  have h := Kd.C_of_reads (d := (0 : Int)) (h1 := fun _ => rfl) (bytes_reads W 5 s (by omega))
  rw [← bytesOf_length s] at h
  exact h
theorem bytes_cap (s : ByteArray) (W : World) : (bytesOf s).length ≤ grownCap W s.size 0 5 := by
  rw [bytesOf_length]
  exact grownCap_ge W s.size 0 _
def tlv_TextS.f (s : ByteArray) : Option (List Int) := if s.size < 140737488355000 then some (textB (bytesOf s)) else none
theorem tlv_TextS.calls (s : ByteArray) (r : List Int) (W : World) (h : tlv_TextS.f s = some r) {g : Nat} (hg : g = W.heap.size := by first | (with_unfolding_all rfl) | simp) :
    Calls Try.prog 56 #[.slice (some ⟨g, 0, none⟩) s.size (grownCap W s.size 0 5)] (Lib.bytesWorld W 5 s) fun e w' => ∃ v0_ : Value, e = .returned (v0_) ∧ Kd.R (Kd.int .u8) 5 w' W.heap.size (fun _ => True) v0_ r ∧ Below W.heap.size W w' := by
  subst hg
  unfold tlv_TextS.f at h
  by_cases hs : s.size < 140737488355000
  · rw [if_pos hs] at h
    obtain rfl := Option.some.inj h
    exact textS_of s hs W (text_c _ _ (bytesOf s) _ (bytes_row s hs W) (bytes_cap s W) (by rw [bytesOf_length]; exact hs))
  · rw [if_neg hs] at h
    exact absurd h (by simp)
end Go.Proofs.Ytgdpabedlghiaaa.PZ
