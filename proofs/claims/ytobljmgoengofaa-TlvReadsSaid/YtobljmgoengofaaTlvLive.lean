import Derived.Test.YtobljmgoengofaaLo
import Derived.Test.YtobljmgoengofaaTlvNum
/- The example of layer 1. -/
namespace Go.Proofs.Ytobljmgoengofaa.TlvLive
open Go.Proofs.Ytobljmgoengofaa.Base Go.Proofs.Ytobljmgoengofaa.TlvPlain Go.Proofs.Ytobljmgoengofaa.Tlv Go.Proofs.Ytobljmgoengofaa.Lo Go.RowKit Go.Proofs.YtobljmgoengofaaW.PrintWords Go.Proofs.YtobljmgoengofaaW.PrintLast Go.Proofs.YtobljmgoengofaaW.PrintMore

theorem numB_258 : numB 258 = [2, 1, 2] := by
  unfold numB
  rw [show (258 : Int).toNat = 258 from rfl, be_pos (by omega), be_pos (by omega), show 258 / 256 / 256 = 0 from rfl, be_zero]; rfl
theorem textB_a : textB [97] = [1, 1, 97] := by
  unfold textB numB
  rw [show (([97] : List Int).length : Int).toNat = 1 from rfl, be_pos (by omega), show 1 / 256 = 0 from rfl, be_zero]; rfl
theorem u8_live : U8 [2, 1, 2, 1, 1, 97] := by intro x hx; simp at hx; omega

set_option maxHeartbeats 3200000 in
set_option maxRecDepth 100000 in
theorem live_c (w : World) : Calls Try.prog 35 #[] w fun e w' => e = .returned (.bool true) ∧ Below w.heap.size w w' := by
  have HB := Aside0.mk (Below.refl w.heap.size w)
  have kc := fun (w : World) (C : Array Value) (n c : Nat) => Lib.run_convert_bytes_const (P := Try.prog) w 22 5 C n c Try.underlying22 Try.underlying5
  go_enter Try.func35, Try.ntmps35
  go_wp2_with (first
    | ((with_reducible refine gate_dst (N := 2) rfl ?_); (try (refine gate_guard (by rfl) ?_; dsimp only)); refine lit_bytes (N := 2) ?hg ?hd [2, 1, 2, 1, 1, 97] [.int .u8 (2), .int .u8 (1), .int .u8 (2), .int .u8 (1), .int .u8 (1), .int .u8 (97)] rfl ?hr (by simp) ?_; (case hd => rfl); (case hg => rfl); (case hr => first | (go_simp; done) | (go_simp; rfl)); intro v w1 ho hb; have n1_ := Aside0.mk (below_step HB.out hb); clear HB; have HB := n1_; clear n1_; clear hb; obtain ⟨A0, c0, rfl, hl_, hr_⟩ := Ob.reads ho; have HR0 := Aside0.mk hr_; have HL0 := Aside0.mk hl_; clear ho hl_ hr_)
    | (go_at_call 36; refine (newO A0 c0 [2, 1, 2, 1, 1, 97] _ HR0.out HL0.out (by simp) u8_live).mono ?_; rintro e w2 ⟨g, rfl, hs, hb⟩; have HS := Aside0.mk (RdO.lower hs HB.out.size); clear hs; have n1_ := Aside0.mk (below_step HB.out hb); clear HB; have HB := n1_; clear n1_; clear hb)
    | (go_at_call 52; refine (num_c 258 _ (by omega) (by omega)).mono ?_; rintro e w3 ⟨v, rfl, ho, hb⟩; rw [numB_258] at ho; have n1_ := Aside0.mk (below_step HB.out hb); clear HB; have HB := n1_; clear n1_; have n2_ := Aside0.mk (RdO.below HS.out hb); clear HS; have HS := n2_; clear n2_; clear hb; obtain ⟨A1, c1, rfl, hl_, hr_⟩ := Ob.reads ho; have HR1 := Aside0.mk hr_; have HL1 := Aside0.mk hl_; clear ho hl_ hr_)
    | ((with_reducible refine gate_dst (N := 5) rfl ?_); (try (refine gate_guard (by rfl) ?_; dsimp only)); refine lit_bytes (N := 5) ?hg ?hd [2, 1, 2] [.int .u8 (2), .int .u8 (1), .int .u8 (2)] rfl ?hr (by simp) ?_; (case hd => rfl); (case hg => rfl); (case hr => first | (go_simp; done) | (go_simp; rfl)); intro v w1 ho hb; have n1_ := Aside0.mk (below_step HB.out hb); clear HB; have HB := n1_; clear n1_; have n2_ := Aside0.mk (RdO.below HS.out hb); clear HS; have HS := n2_; clear n2_; have n2_ := Aside0.mk (Kd.C_below HR1.out hb); clear HR1; have HR1 := n2_; clear n2_; clear hb; obtain ⟨A2, c2, rfl, hl_, hr_⟩ := Ob.reads ho; have HR2 := Aside0.mk hr_; have HL2 := Aside0.mk hl_; clear ho hl_ hr_))
  go_wp2_with (first
    | (go_at_call 18; refine (same_c A1 c1 [2, 1, 2] A2 c2 [2, 1, 2] _ HR1.out HL1.out HR2.out HL2.out (by simp)).mono ?_; rintro e w5 ⟨rfl, hd⟩; have hb := Drawn0.below hd; clear hd HR1 HR2 HL1 HL2; have n1_ := Aside0.mk (below_step HB.out hb); clear HB; have HB := n1_; clear n1_; have n2_ := Aside0.mk (RdO.below HS.out hb); clear HS; have HS := n2_; clear n2_; clear hb)
    | (go_at_call 50; refine (text_c (some ⟨_, 0, none⟩) 1 [97] _ (const_reads _ [97] #[.int .u8 97] (1, 2) rfl (by simp)) (by simp) (by simp)).mono ?_; rintro e w3 ⟨v, rfl, ho, hb0⟩; rw [textB_a] at ho; have hb := below_step (below_alloc (Below.refl _ _) _) hb0; clear hb0; have n1_ := Aside0.mk (below_step HB.out hb); clear HB; have HB := n1_; clear n1_; have n2_ := Aside0.mk (RdO.below HS.out hb); clear HS; have HS := n2_; clear n2_; clear hb; obtain ⟨A4, c4, rfl, hl_, hr_⟩ := Ob.reads ho; have HR4 := Aside0.mk hr_; have HL4 := Aside0.mk hl_; clear ho hl_ hr_)
    | ((with_reducible refine gate_dst (N := 11) rfl ?_); (try (refine gate_guard (by rfl) ?_; dsimp only)); refine lit_bytes (N := 11) ?hg ?hd [1, 1, 97] [.int .u8 (1), .int .u8 (1), .int .u8 (97)] rfl ?hr (by simp) ?_; (case hd => rfl); (case hg => rfl); (case hr => first | (go_simp; done) | (go_simp; rfl)); intro v w1 ho hb; have n1_ := Aside0.mk (below_step HB.out hb); clear HB; have HB := n1_; clear n1_; have n2_ := Aside0.mk (RdO.below HS.out hb); clear HS; have HS := n2_; clear n2_; have n2_ := Aside0.mk (Kd.C_below HR4.out hb); clear HR4; have HR4 := n2_; clear n2_; clear hb; obtain ⟨A5, c5, rfl, hl_, hr_⟩ := Ob.reads ho; have HR5 := Aside0.mk hr_; have HL5 := Aside0.mk hl_; clear ho hl_ hr_))
  go_wp2_with (first
    | (go_at_call 18; refine (same_c A4 c4 [1, 1, 97] A5 c5 [1, 1, 97] _ HR4.out HL4.out HR5.out HL5.out (by simp)).mono ?_; rintro e w5 ⟨rfl, hd⟩; have hb := Drawn0.below hd; clear hd HR4 HR5 HL4 HL5; have n1_ := Aside0.mk (below_step HB.out hb); clear HB; have HB := n1_; clear n1_; have n2_ := Aside0.mk (RdO.below HS.out hb); clear HS; have HS := n2_; clear n2_; clear hb)
    | (go_at_call 38; refine (numO_ _ _ _ _ HS.out HB.out).mono ?_; rintro e w6 ⟨rfl, hl⟩; have hn : numO (some [2, 1, 2, 1, 1, 97]) = (258, some [1, 1, 97]) := (by decide +kernel); rw [hn] at hl ⊢; have HT := Aside0.mk hl; clear hn hl HS HB)
    | (go_at_call 43; refine (textO_ _ _ _ _ 5 HT.out.1 HT.out.2.1 (by omega)).mono ?_; rintro e w7 ⟨v, rfl, ho, hl⟩; have hn : textO (some [1, 1, 97]) 5 = ([97], some []) := (by decide +kernel); rw [hn] at hl ho; have HU := Aside0.mk (HT.out.trans hl); clear hn hl HT; have hcv := own_string (P := Try.prog) Try.underlying22 Try.underlying5 Try.underlying9 (Kd.own_of_R ho); obtain ⟨A6, c6, rfl, hl_, hr_⟩ := Ob.reads ho; rw [show strOfNums [97] = ⟨#[97]⟩ from rfl] at hcv; simp only [List.length_singleton] at hcv; clear ho hl_ hr_)
    | (go_at_call 47; refine (okO _ _ _ _ HU.out.1).mono ?_; rintro e w8 ⟨rfl, rfl⟩)
    | (go_at_call 48; refine (leftO_ _ _ _ _ HU.out.1).mono ?_; rintro e w8 ⟨rfl, rfl⟩))
  go_ret
  exact ⟨rfl, HU.out.2.1⟩
end Go.Proofs.Ytobljmgoengofaa.TlvLive
