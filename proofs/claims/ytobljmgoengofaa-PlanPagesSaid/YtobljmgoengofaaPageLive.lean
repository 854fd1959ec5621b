import Derived.Test.YtobljmgoengofaaWhole
import Derived.Test.YtobljmgoengofaaPaged
import Derived.Test.YtobljmgoengofaaSame0
/- The example of layer 34. -/
namespace Go.Proofs.Ytobljmgoengofaa.PageLive
open Go.RowKit Go.Proofs.Ytobljmgoengofaa.Base Go.Proofs.Ytobljmgoengofaa.PagePlain Go.Proofs.YtobljmgoengofaaW.PrintWords Go.Proofs.YtobljmgoengofaaW.PrintLast Go.Proofs.YtobljmgoengofaaW.PrintMore

theorem whole_c (A : Option Addr) (c : Nat) (b : List Int) (w : World) (hr : Rb w A b) (hc : b.length ≤ c) (hl : b.length ≤ 100000) :
    Calls Try.prog 15 #[.slice A b.length c] w fun e w' => ∃ v, e = .returned (.tuple #[v, .bool (wholeS b).2]) ∧ Ob w' w.heap.size v (wholeS b).1 ∧ Below w.heap.size w w' := callsIn_wide.1 (Whole.whole_ A c b w hr hc hl)
theorem whole_live : wholeS [240, 97] = ([97], true) := by decide +kernel
theorem paged_live : paged [97] = [240, 97] := by
  rw [paged_cons (by simp), show List.drop 255 [(97 : Int)] = [] from rfl, paged_nil]
  rfl
theorem paged_e (w : World) : Calls Try.prog 17 #[.slice none 0 0] w fun e w' => ∃ v, e = .returned v ∧ Ob w' w.heap.size v [] ∧ Below w.heap.size w w' := by
  have h := Paged.paged_ none 0 [] w ⟨rfl, by simp, fun h => by simp at h⟩ (by simp) (by simp)
  rw [paged_nil] at h
  exact h

set_option maxHeartbeats 3200000 in
set_option maxRecDepth 100000 in
theorem live_c (w : World) : Calls Try.prog 14 #[] w fun e w' => e = .returned (.bool true) ∧ Below w.heap.size w w' := by
  have HB := Aside0.mk (Below.refl w.heap.size w)
  have kc := fun (w : World) (C : Array Value) (n c : Nat) => Lib.run_convert_bytes_const (P := Try.prog) w 22 5 C n c Try.underlying22 Try.underlying5
  go_enter Try.func14, Try.ntmps14
  go_wp2_with (first
    | ((with_reducible refine gate_dst (N := 4) rfl ?_); (try (refine gate_guard (by rfl) ?_; dsimp only)); refine lit_bytes (N := 4) ?hg ?hd [240, 97] [.int .u8 (240), .int .u8 (97)] rfl ?hr (by simp) ?_; (case hd => rfl); (case hg => rfl); (case hr => first | (go_simp; done) | (go_simp; rfl)); intro v w1 ho hb; have n1_ := Aside0.mk (below_step HB.out hb); clear HB; have HB := n1_; clear n1_; clear hb; obtain ⟨A0, c0, rfl, hl_, hr_⟩ := Ob.reads ho; have HR0 := Aside0.mk hr_; have HL0 := Aside0.mk hl_; clear ho hl_ hr_)
    | (go_at_call 15; refine (whole_c A0 c0 [240, 97] _ HR0.out HL0.out (by simp)).mono ?_; rintro e w2 ⟨v, rfl, ho, hb⟩; rw [whole_live] at ho ⊢; have HO := Aside0.mk (Kd.R_lower ho HB.out.size); obtain ⟨A1, c1, rfl, _, _⟩ := Ob.reads ho; have n1_ := Aside0.mk (below_step HB.out hb); clear HB; have HB := n1_; clear n1_; clear hb ho HR0 HL0))
  go_wp2_with (fail)
  refine (paged_e _).mono ?_
  rintro e w3 ⟨v, rfl, ho, hb⟩
  obtain ⟨A2, c2, rfl, _, _⟩ := Ob.reads ho
  have n1_ := Aside0.mk (below_step HB.out hb); clear HB; have HB := n1_; clear n1_
  have n2_ := Aside0.mk (Kd.R_below HO.out hb); clear HO; have HO := n2_; clear n2_
  clear hb ho
  dsimp only [List.length_nil]
  go_wp2_with (fail)
  refine (Paged.paged_ (some ⟨_, 0, none⟩) 1 [97] _ (const_reads _ [97] #[.int .u8 97] (1, 2) rfl (by simp)) (by simp) (by simp)).mono ?_
  rintro e w4 ⟨v, rfl, ho, hb0⟩
  rw [paged_live] at ho
  have hb := below_step (below_alloc (Below.refl _ _) _) hb0
  clear hb0
  have n1_ := Aside0.mk (below_step HB.out hb); clear HB; have HB := n1_; clear n1_
  have n2_ := Aside0.mk (Kd.R_below HO.out hb); clear HO; have HO := n2_; clear n2_
  clear hb
  obtain ⟨A3, c3, rfl, hl_, hr_⟩ := Ob.reads ho; have HR3 := Aside0.mk hr_; have HL3 := Aside0.mk hl_; clear ho hl_ hr_
  go_wp2_with (first
    | ((with_reducible refine gate_dst (N := 15) rfl ?_); (try (refine gate_guard (by rfl) ?_; dsimp only)); refine lit_bytes (N := 15) ?hg ?hd [240, 97] [.int .u8 (240), .int .u8 (97)] rfl ?hr (by simp) ?_; (case hd => rfl); (case hg => rfl); (case hr => first | (go_simp; done) | (go_simp; rfl)); intro v w1 ho hb; have n1_ := Aside0.mk (below_step HB.out hb); clear HB; have HB := n1_; clear n1_; have n2_ := Aside0.mk (Kd.R_below HO.out hb); clear HO; have HO := n2_; clear n2_; have n2_ := Aside0.mk (Kd.C_below HR3.out hb); clear HR3; have HR3 := n2_; clear n2_; clear hb; obtain ⟨A4, c4, rfl, hl_, hr_⟩ := Ob.reads ho; have HR4 := Aside0.mk hr_; have HL4 := Aside0.mk hl_; clear ho hl_ hr_)
    | (go_at_call 18; refine (Same0.same_t A3 c3 2 [240, 97] A4 c4 2 [240, 97] _ HR3.out rfl HL3.out HR4.out rfl HL4.out (by simp) rfl).mono ?_; rintro e w5 ⟨rfl, hd⟩; have hb := Drawn0.below hd; clear hd HR3 HR4 HL3 HL4; have n1_ := Aside0.mk (below_step HB.out hb); clear HB; have HB := n1_; clear n1_; have n2_ := Aside0.mk (Kd.R_below HO.out hb); clear HO; have HO := n2_; clear n2_; clear hb; have hcv := own_string (P := Try.prog) Try.underlying22 Try.underlying5 Try.underlying9 (Kd.own_of_R HO.out); rw [show strOfNums [97] = ⟨#[97]⟩ from rfl] at hcv; simp only [List.length_singleton] at hcv))
  go_ret
  exact ⟨rfl, HB.out⟩
end Go.Proofs.Ytobljmgoengofaa.PageLive
