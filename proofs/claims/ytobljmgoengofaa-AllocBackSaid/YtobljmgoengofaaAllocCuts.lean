import Derived.Test.YtobljmgoengofaaCutEv
import Derived.Test.YtobljmgoengofaaAllocLive
import Derived.Test.YtobljmgoengofaaPZxFhanaperref11Cut
import Derived.Test.YtobljmgoengofaaPZxFhanaperref01SameAll
import Derived.Test.YtobljmgoengofaaPZxFhanaperref11Pages
import Derived.Test.YtobljmgoengofaaPZxFallocPages
/- AllocCuts: the law's walk. -/
namespace Go.Proofs.Ytobljmgoengofaa.AllocCuts
open Go.RowKit Go.Proofs.Ytobljmgoengofaa.Base Go.Proofs.Ytobljmgoengofaa.Chunk Go.Proofs.Ytobljmgoengofaa.Cut Go.Proofs.Ytobljmgoengofaa.CutEv Go.Proofs.Ytobljmgoengofaa.Aid Go.Proofs.Ytobljmgoengofaa.PZ Go.Proofs.YtobljmgoengofaaW.PrintWords Go.Proofs.YtobljmgoengofaaW.PrintLast Go.Proofs.YtobljmgoengofaaW.PrintMore

theorem cut_c (A : Option Addr) (c : Nat) (b : List Int) (w : World) (hr : Rb w A b) (hc : b.length ≤ c) (hl : b.length < 140737488355328) :
    Calls Try.prog 31 #[.slice A b.length c] w fun e w' => ∃ v, e = .returned v ∧ KR.R 22 w' w.heap.size (fun _ => True) v (sectors b) ∧ Below w.heap.size w w' := callsIn_wide.1 (cut_ A c b w hr hc hl)
theorem refcut_c (A : Option Addr) (c : Nat) (b : List Int) (w : World) (hr : Rb w A b) (hc : b.length ≤ c) (hl : b.length < 140737488355328) :
    Calls Try.prog 32 #[.slice A b.length c] w fun e w' => ∃ v, e = .returned v ∧ KR.R 22 w' w.heap.size (fun _ => True) v (sectors b) ∧ Below w.heap.size w w' := by
  obtain ⟨k, h⟩ := (cut_ev b hl).rounds
  refine (hanaperref11_Cut.calls k A c b _ w hr hc h).mono ?_
  rintro e w' ⟨v, rfl, ho, hb⟩
  exact ⟨v, rfl, Kd.S_R ho, hb⟩
theorem sameAll_c (A0 A1 : Option Addr) (c0 c1 : Nat) (l : List (List Int)) (w : World) (h0 : Kd.C KR w A0 l.length l) (hc0 : l.length ≤ c0) (h1 : Kd.C KR w A1 l.length l) (hc1 : l.length ≤ c1) (hl : l.length ≤ 4611686018427387904) (hx : ∀ x ∈ l, x.length ≤ 4611686018427387904) :
    Calls Try.prog 30 #[.slice A0 l.length c0, .slice A1 l.length c1] w fun e w' => e = .returned (.bool true) ∧ Drawn0 w w' := by
  obtain ⟨k, h⟩ := (sameAll_ev l hl hx).rounds
  exact hanaperref01_SameAll.calls k A0 c0 l A1 c1 l true w h0 hc0 h1 hc1 h

set_option maxHeartbeats 1000000 in
set_option maxRecDepth 100000 in
theorem walk (w : World) (A : Option Addr) (c : Nat) (b : List Int) (hr : Rb w A b) (hc : b.length ≤ c) (_ : ∀ x ∈ b, (Lit.int .u8 x).wf = true) (size : Int) (_ : (Lit.int .i64 size).wf = true) :
    Calls Try.prog 6 #[.slice A b.length c, .int .i64 size] w fun e w' => e = .returned (.bool true) ∧ Below w.heap.size w w' := by
  have HR := Aside0.mk hr
  have HC := Aside0.mk hc
  obtain ⟨p, hp1, hp2⟩ : ∃ p, alloc_Pages.f size = some p ∧ hanaperref11_Pages.f size = some p := by
    unfold alloc_Pages.f hanaperref11_Pages.f
    split
    · exact ⟨_, rfl, rfl⟩
    · exact ⟨_, rfl, rfl⟩
  have HP1 := Aside0.mk hp1
  have HP2 := Aside0.mk hp2
  have HB := Aside0.mk (Below.refl w.heap.size w)
  clear hr hc hp1 hp2
  by_cases h : 3000 < b.length
  · have hd1 : decide (3000 < b.length) = true := decide_eq_true h
    have hd2 : decide ((3000 : Int) < (b.length : Int)) = true := decide_eq_true (by omega)
    clear h
    go_enter Try.func6, Try.ntmps6
    go_wp2_with (go_at_call 20; refine (AllocLive.live_c _).mono ?_; rintro e w1 ⟨rfl, hb⟩)
    go_ret
    exact ⟨rfl, hb⟩
  · have hd1 : decide (3000 < b.length) = false := decide_eq_false h
    have hd2 : decide ((3000 : Int) < (b.length : Int)) = false := decide_eq_false (by omega)
    have HL := Aside0.mk (show b.length ≤ 3000 by omega)
    have HSL := Aside0.mk (show (sectors b).length ≤ 4611686018427387904 ∧ ∀ x ∈ sectors b, x.length ≤ 4611686018427387904 by
      refine ⟨by rw [sectors_len]; unfold nch; omega, fun x hx => ?_⟩
      obtain ⟨i, _, rfl⟩ := List.mem_map.1 hx
      rw [sector_len]; omega)
    clear h
    go_enter Try.func6, Try.ntmps6
    go_wp2_with (first
      | (go_at_call 31; refine (cut_c A c b _ HR.out HC.out (by have := HL.out; omega)).mono ?_; rintro e w1 ⟨v, rfl, ho, hb⟩; have n1_ := Aside0.mk (below_step HB.out hb); clear HB; have HB := n1_; clear n1_; clear hb; obtain ⟨A1, c1, rfl, hl_, hr_⟩ := Kd.R_reads ho; have HR1 := Aside0.mk hr_; have HL1 := Aside0.mk hl_; clear ho hl_ hr_)
      | (go_at_call 32; refine (refcut_c A c b _ (Kd.C_below HR.out HB.out) HC.out (by have := HL.out; omega)).mono ?_; rintro e w2 ⟨v, rfl, ho, hb⟩; have n1_ := Aside0.mk (below_step HB.out hb); clear HB; have HB := n1_; clear n1_; have n2_ := Aside0.mk (Kd.C_below HR1.out hb); clear HR1; have HR1 := n2_; clear n2_; clear hb; obtain ⟨A2, c2, rfl, hl_, hr_⟩ := Kd.R_reads ho; have HR2 := Aside0.mk hr_; have HL2 := Aside0.mk hl_; clear ho hl_ hr_)
      | (go_at_call 30; refine (sameAll_c A1 A2 c1 c2 (sectors b) _ HR1.out HL1.out HR2.out HL2.out HSL.out.1 HSL.out.2).mono ?_; rintro e w3 ⟨rfl, hd⟩; have hb := Drawn0.below hd; have n1_ := Aside0.mk (below_step HB.out hb); clear HB; have HB := n1_; clear n1_; clear hb hd)
      | (go_at_call 33; refine (alloc_Pages.calls size p _ HP1.out).mono ?_; rintro e w' ⟨rfl, ⟨nd, rfl⟩⟩)
      | (go_at_call 34; refine (hanaperref11_Pages.calls size p _ HP2.out).mono ?_; rintro e w' ⟨rfl, ⟨nd2, rfl⟩⟩)
      | (go_at_call 20; refine (AllocLive.live_c _).mono ?_; rintro e w4 ⟨rfl, hb⟩; have HF := Aside0.mk (below_step (pw_below_drewN HB.out _) hb); clear hb))
    go_ret
    exact ⟨rfl, HF.out⟩
end Go.Proofs.Ytobljmgoengofaa.AllocCuts
