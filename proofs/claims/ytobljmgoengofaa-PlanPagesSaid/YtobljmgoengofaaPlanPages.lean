import Derived.Test.YtobljmgoengofaaPageLive
import Derived.Test.YtobljmgoengofaaPageEv
import Derived.Test.YtobljmgoengofaaPZxFhanaperref34Paged
import Derived.Test.YtobljmgoengofaaPZxFhanaperref34Whole
/- PlanPages: the law's walk. -/
namespace Go.Proofs.Ytobljmgoengofaa.PlanPages
open Go.RowKit Go.Proofs.Ytobljmgoengofaa.Base Go.Proofs.Ytobljmgoengofaa.PagePlain Go.Proofs.Ytobljmgoengofaa.PageEv Go.Proofs.Ytobljmgoengofaa.PageLive Go.Proofs.Ytobljmgoengofaa.Aid Go.Proofs.Ytobljmgoengofaa.PZ Go.Proofs.YtobljmgoengofaaW.PrintWords Go.Proofs.YtobljmgoengofaaW.PrintLast Go.Proofs.YtobljmgoengofaaW.PrintMore

theorem rwhole_c (A : Option Addr) (c : Nat) (b : List Int) (w : World) (hr : Rb w A b) (hc : b.length ≤ c) (hl : b.length ≤ 10000) :
    Calls Try.prog 16 #[.slice A b.length c] w fun e w' => ∃ v, e = .returned (.tuple #[v, .bool (wholeS b).2]) ∧ Ob w' w.heap.size v (wholeS b).1 ∧ Below w.heap.size w w' := by
  obtain ⟨k, h⟩ := (whole_ev b hl).rounds
  exact hanaperref34_Whole.calls k A c b _ _ w hr hc h
theorem rpaged_c (A : Option Addr) (c : Nat) (b : List Int) (w : World) (hr : Rb w A b) (hc : b.length ≤ c) (hl : b.length ≤ 20000) :
    Calls Try.prog 19 #[.slice A b.length c] w fun e w' => ∃ v, e = .returned v ∧ Ob w' w.heap.size v (paged b) ∧ Below w.heap.size w w' := by
  obtain ⟨k, h⟩ := (paged_ev b hl).rounds
  exact hanaperref34_Paged.calls k A c b _ w hr hc h
theorem wholeS_len (b : List Int) : (wholeS b).1.length ≤ b.length := by
  unfold wholeS
  split
  · exact strip_len b
  · exact Nat.zero_le _

set_option maxHeartbeats 2000000 in
set_option maxRecDepth 100000 in
theorem walk (w : World) (A : Option Addr) (c : Nat) (b : List Int) (hr : Rb w A b) (hc : b.length ≤ c) (_ : ∀ x ∈ b, (Lit.int .u8 x).wf = true) :
    Calls Try.prog 3 #[.slice A b.length c] w fun e w' => e = .returned (.bool true) ∧ Below w.heap.size w w' := by
  have HR := Aside0.mk hr
  have HC := Aside0.mk hc
  have HB := Aside0.mk (Below.refl w.heap.size w)
  have hwp := whole_paged b
  have hpl := paged_len b
  have hwl := wholeS_len b
  clear hr hc
  by_cases h : 3000 < b.length
  · have hd1 : decide (3000 < b.length) = true := decide_eq_true h
    have hd2 : decide ((3000 : Int) < (b.length : Int)) = true := decide_eq_true (by omega)
    clear h hwp hpl hwl
    go_enter Try.func3, Try.ntmps3
    go_wp2_with (go_at_call 14; refine (PageLive.live_c _).mono ?_; rintro e w1 ⟨rfl, hb⟩)
    go_ret
    exact ⟨rfl, hb⟩
  · have hd1 : decide (3000 < b.length) = false := decide_eq_false h
    have hd2 : decide ((3000 : Int) < (b.length : Int)) = false := decide_eq_false (by omega)
    have HL := Aside0.mk (show b.length ≤ 3000 by omega)
    have HWP := Aside0.mk hwp
    have HPL := Aside0.mk hpl
    have HWL := Aside0.mk hwl
    obtain ⟨P, hP⟩ : ∃ P, paged b = P := ⟨_, rfl⟩
    obtain ⟨x, ok, hx⟩ : ∃ x ok, wholeS b = (x, ok) := ⟨_, _, rfl⟩
    rw [hP] at HWP HPL
    rw [hx] at HWL
    have HP := Aside0.mk hP
    have HX := Aside0.mk hx
    clear h hwp hpl hwl hP hx
    go_enter Try.func3, Try.ntmps3
    go_wp2_with (fail)
    refine (whole_c A c b _ HR.out HC.out (by have := HL.out; omega)).mono ?_
    rintro e w1 ⟨v, rfl, ho, hb⟩
    rw [HX.out] at ho ⊢
    have n1_ := Aside0.mk (below_step HB.out hb); clear HB; have HB := n1_; clear n1_
    clear hb
    obtain ⟨A1, c1, rfl, hl_, hr_⟩ := Ob.reads ho; have HR1 := Aside0.mk hr_; have HL1 := Aside0.mk hl_; clear ho hl_ hr_
    go_wp2_with (first
      | (go_at_call 16; refine (rwhole_c A c b _ (Kd.C_below HR.out HB.out) HC.out (by have := HL.out; omega)).mono ?_; rintro e w2 ⟨v, rfl, ho, hb⟩; rw [HX.out] at ho ⊢; have n1_ := Aside0.mk (below_step HB.out hb); clear HB; have HB := n1_; clear n1_; have n2_ := Aside0.mk (Kd.C_below HR1.out hb); clear HR1; have HR1 := n2_; clear n2_; clear hb; obtain ⟨A2, c2, rfl, hl_, hr_⟩ := Ob.reads ho; have HR2 := Aside0.mk hr_; have HL2 := Aside0.mk hl_; clear ho hl_ hr_)
      | (go_at_call 17; refine (Paged.paged_ A c b _ (Kd.C_below HR.out HB.out) HC.out (by have := HL.out; omega)).mono ?_; rintro e w3 ⟨v, rfl, ho, hb⟩; rw [HP.out] at ho; have n1_ := Aside0.mk (below_step HB.out hb); clear HB; have HB := n1_; clear n1_; have n2_ := Aside0.mk (Kd.C_below HR1.out hb); clear HR1; have HR1 := n2_; clear n2_; have n2_ := Aside0.mk (Kd.C_below HR2.out hb); clear HR2; have HR2 := n2_; clear n2_; clear hb; obtain ⟨A3, c3, rfl, hl_, hr_⟩ := Ob.reads ho; have HR3 := Aside0.mk hr_; have HL3 := Aside0.mk hl_; clear ho hl_ hr_))
    refine (whole_c A3 c3 P _ HR3.out HL3.out (by have := HPL.out; have := HL.out; omega)).mono ?_
    rintro e w4 ⟨v, rfl, ho, hb⟩
    rw [HWP.out] at ho ⊢
    have n1_ := Aside0.mk (below_step HB.out hb); clear HB; have HB := n1_; clear n1_
    have n2_ := Aside0.mk (Kd.C_below HR1.out hb); clear HR1; have HR1 := n2_; clear n2_
    have n2_ := Aside0.mk (Kd.C_below HR2.out hb); clear HR2; have HR2 := n2_; clear n2_
    have n2_ := Aside0.mk (Kd.C_below HR3.out hb); clear HR3; have HR3 := n2_; clear n2_
    clear hb
    obtain ⟨A4, c4, rfl, hl_, hr_⟩ := Ob.reads ho; have HR4 := Aside0.mk hr_; have HL4 := Aside0.mk hl_; clear ho hl_ hr_
    go_wp2_with (fail)
    refine (rpaged_c A c b _ (Kd.C_below HR.out HB.out) HC.out (by have := HL.out; omega)).mono ?_
    rintro e w5 ⟨v, rfl, ho, hb⟩
    rw [HP.out] at ho
    have n1_ := Aside0.mk (below_step HB.out hb); clear HB; have HB := n1_; clear n1_
    have n2_ := Aside0.mk (Kd.C_below HR1.out hb); clear HR1; have HR1 := n2_; clear n2_
    have n2_ := Aside0.mk (Kd.C_below HR2.out hb); clear HR2; have HR2 := n2_; clear n2_
    have n2_ := Aside0.mk (Kd.C_below HR3.out hb); clear HR3; have HR3 := n2_; clear n2_
    have n2_ := Aside0.mk (Kd.C_below HR4.out hb); clear HR4; have HR4 := n2_; clear n2_
    clear hb
    obtain ⟨A5, c5, rfl, hl_, hr_⟩ := Ob.reads ho; have HR5 := Aside0.mk hr_; have HL5 := Aside0.mk hl_; clear ho hl_ hr_
    go_wp2_with (fail)
    refine (Same0.same_t A3 c3 P.length P A5 c5 P.length P _ HR3.out rfl HL3.out HR5.out rfl HL5.out (by have := HPL.out; have := HL.out; omega) rfl).mono ?_
    rintro e w6 ⟨rfl, hd⟩
    have hb := Drawn0.below hd
    clear hd HR3 HR5 HL3 HL5
    have n1_ := Aside0.mk (below_step HB.out hb); clear HB; have HB := n1_; clear n1_
    have n2_ := Aside0.mk (Kd.C_below HR1.out hb); clear HR1; have HR1 := n2_; clear n2_
    have n2_ := Aside0.mk (Kd.C_below HR2.out hb); clear HR2; have HR2 := n2_; clear n2_
    have n2_ := Aside0.mk (Kd.C_below HR4.out hb); clear HR4; have HR4 := n2_; clear n2_
    clear hb
    go_wp2_with (fail)
    refine (Same0.same_t A1 c1 x.length x A2 c2 x.length x _ HR1.out rfl HL1.out HR2.out rfl HL2.out (by have h1 : x.length ≤ b.length := HWL.out; have := HL.out; omega) rfl).mono ?_
    rintro e w7 ⟨rfl, hd⟩
    have hb := Drawn0.below hd
    clear hd HR1 HR2 HL1 HL2
    have n1_ := Aside0.mk (below_step HB.out hb); clear HB; have HB := n1_; clear n1_
    have n2_ := Aside0.mk (Kd.C_below HR4.out hb); clear HR4; have HR4 := n2_; clear n2_
    clear hb
    have hoo : (ok == ok) = true := by cases ok <;> rfl
    go_wp2_with (fail)
    refine (Same0.same_t A4 c4 b.length b A c b.length b _ HR4.out rfl HL4.out (Kd.C_below HR.out HB.out) rfl HC.out (by have := HL.out; omega) rfl).mono ?_
    rintro e w8 ⟨rfl, hd⟩
    have hb := Drawn0.below hd
    clear hd HR4 HL4
    have n1_ := Aside0.mk (below_step HB.out hb); clear HB; have HB := n1_; clear n1_
    clear hb
    go_wp2_with (go_at_call 14; refine (PageLive.live_c _).mono ?_; rintro e w9 ⟨rfl, hb⟩; have HF := Aside0.mk (below_step HB.out hb); clear hb)
    go_ret
    exact ⟨rfl, HF.out⟩
end Go.Proofs.Ytobljmgoengofaa.PlanPages
