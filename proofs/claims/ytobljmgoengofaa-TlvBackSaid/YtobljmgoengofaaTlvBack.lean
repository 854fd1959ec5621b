import Derived.Test.YtobljmgoengofaaTlvLive
/- TlvBack: the law's walk. -/
namespace Go.Proofs.Ytobljmgoengofaa.TlvBack
open Go.Proofs.Ytobljmgoengofaa.Base Go.Proofs.Ytobljmgoengofaa.TlvPlain Go.Proofs.Ytobljmgoengofaa.Tlv Go.Proofs.Ytobljmgoengofaa.TlvLive Go.Proofs.Ytobljmgoengofaa.Lo Go.RowKit Go.Proofs.YtobljmgoengofaaW.PrintWords Go.Proofs.YtobljmgoengofaaW.PrintLast Go.Proofs.YtobljmgoengofaaW.PrintMore

abbrev D : Kd (Int × Int × List Int × List Int) := Kd.pair (Kd.int .u64) (Kd.pair (Kd.int .i64) (Kd.pair (Kd.slice 5 (Kd.int .u8)) (Kd.slice 5 (Kd.int .u8))))
theorem u8_wf {l : List Int} (h : ∀ x ∈ l, (Lit.int .u8 x).wf = true) : U8 l := by
  intro x hx
  have := h x hx
  simp only [Lit.wf, IntKind.min, IntKind.max, IntKind.signed, IntKind.bits, Bool.and_eq_true] at this
  simp at this
  omega
theorem u64_wf {n : Int} (h : (Lit.int .u64 n).wf = true) : 0 ≤ n ∧ n ≤ 18446744073709551615 := by
  simp only [Lit.wf, IntKind.min, IntKind.max, IntKind.signed, IntKind.bits, Bool.and_eq_true] at h
  simp at h
  omega
theorem i64_wf {n : Int} (h : (Lit.int .i64 n).wf = true) : -9223372036854775808 ≤ n ∧ n ≤ 9223372036854775807 := by
  simp only [Lit.wf, IntKind.min, IntKind.max, IntKind.signed, IntKind.bits, Bool.and_eq_true] at h
  simp at h
  omega
theorem int_back {i : Int} (h : -9223372036854775808 ≤ i ∧ i ≤ 9223372036854775807) : wrap64 (IntKind.u64.wrap i) = i := by
  have : IntKind.u64.wrap i = i % 18446744073709551616 := by simp [IntKind.wrap, IntKind.signed, IntKind.bits]
  rw [this]
  unfold wrap64
  omega
theorem text_back (t : List Int) (hl : t.length ≤ 2000) : textO (some (textB t)) (t.length : Int) = (t, some []) := by
  unfold textO textB
  have e := numO_numB (t.length : Int) (by omega) (by omega) t
  have e2 : countO (some (numB (t.length : Int) ++ t)) (t.length : Int) = ((t.length : Int), some t) := by
    unfold countO
    rw [e, if_neg (by dsimp only; omega)]
  rw [e2]
  dsimp only
  simp only [takeO]
  rw [if_pos (by omega), Int.toNat_natCast, List.take_length, List.drop_length]

set_option maxHeartbeats 1000000 in
set_option maxRecDepth 100000 in
theorem long (w : World) (n i : Int) (t b : List Int) (A1 A2 : Option Addr) (c1 c2 : Nat) (h : 2000 < t.length ∨ 2000 < b.length) :
    Calls Try.prog 10 #[.agg #[.int .u64 n, .int .i64 i, .slice A1 t.length c1, .slice A2 b.length c2]] w fun e w' => e = .returned (.bool true) ∧ Below w.heap.size w w' := by
  by_cases h1 : 2000 < t.length
  · have hd1 : decide (2000 < t.length) = true := decide_eq_true h1
    have hd2 : decide ((2000 : Int) < (t.length : Int)) = true := decide_eq_true (by omega)
    clear h h1
    go_enter Try.func10, Try.ntmps10
    go_wp2
    go_quiet (fail)
    go_wp2_with (go_at_call 35; refine (live_c _).mono ?_; rintro e w1 ⟨rfl, hb⟩)
    go_ret
    exact ⟨rfl, below_step (pw_below_drewN (below_alloc (Below.refl _ _) _) _) hb⟩
  · have hd1 : decide (2000 < t.length) = false := decide_eq_false h1
    have hd2 : decide ((2000 : Int) < (t.length : Int)) = false := decide_eq_false (by omega)
    have hd3 : decide (2000 < b.length) = true := decide_eq_true (by omega)
    have hd4 : decide ((2000 : Int) < (b.length : Int)) = true := decide_eq_true (by omega)
    clear h h1
    go_enter Try.func10, Try.ntmps10
    go_wp2
    go_quiet (fail)
    go_wp2_with (go_at_call 35; refine (live_c _).mono ?_; rintro e w1 ⟨rfl, hb⟩)
    go_ret
    exact ⟨rfl, below_step (pw_below_drewN (below_alloc (Below.refl _ _) _) _) hb⟩

set_option maxHeartbeats 1000000 in
set_option maxRecDepth 100000 in
theorem short (w : World) (n i : Int) (t b : List Int) (A1 A2 : Option Addr) (c1 c2 : Nat) (h1 : t.length ≤ 2000) (h2 : b.length ≤ 2000) (hn : 0 ≤ n ∧ n ≤ 18446744073709551615) (hi : -9223372036854775808 ≤ i ∧ i ≤ 9223372036854775807)
    (hrt : Rb w A1 t) (hct : t.length ≤ c1) (hrb : Rb w A2 b) (hcb : b.length ≤ c2) (hut : U8 t) (hub : U8 b) :
    Calls Try.prog 10 #[.agg #[.int .u64 n, .int .i64 i, .slice A1 t.length c1, .slice A2 b.length c2]] w fun e w' => e = .returned (.bool true) ∧ Below w.heap.size w w' := by
  have hd1 : decide (2000 < t.length) = false := decide_eq_false (by omega)
  have hd2 : decide ((2000 : Int) < (t.length : Int)) = false := decide_eq_false (by omega)
  have hd3 : decide (2000 < b.length) = false := decide_eq_false (by omega)
  have hd4 : decide ((2000 : Int) < (b.length : Int)) = false := decide_eq_false (by omega)
  have HN := Aside0.mk hn
  have HT := Aside0.mk hrt
  have HCT := Aside0.mk hct
  have HBB := Aside0.mk hrb
  have HCB := Aside0.mk hcb
  have HUB := Aside0.mk hub
  have H1 := Aside0.mk h1
  have H2 := Aside0.mk h2
  have hli := numB_len (n := IntKind.u64.wrap i) (u64_range i).2
  have hln := numB_len hn.2
  have hlt := numB_len (n := (t.length : Int)) (by omega)
  have HLEN := Aside0.mk (show [numB n, intB i, textB t].flatten.length < 140737488355328 by
    simp only [List.flatten_cons, List.flatten_nil, List.append_nil, List.length_append, intB, textB]
    omega)
  have HU := Aside0.mk (show U8 [numB n, intB i, textB t].flatten by
    simp only [List.flatten_cons, List.flatten_nil, List.append_nil, intB, textB]
    exact (numB_u8 hn.2).append ((numB_u8 (u64_range i).2).append ((numB_u8 (by omega)).append hut)))
  obtain ⟨L, hL⟩ : ∃ L, L = [numB n, intB i, textB t].flatten := ⟨_, rfl⟩
  have HLL := Aside0.mk hL
  have HU2 := Aside0.mk (show U8 L by rw [hL]; exact HU.out)
  have HLEN2 := Aside0.mk (show L.length < 140737488355328 by rw [hL]; exact HLEN.out)
  have E0 := Aside0.mk (show L = numB n ++ (intB i ++ textB t) by rw [hL]; simp)
  clear hL
  have E1 := Aside0.mk (numO_numB n hn.1 hn.2 (intB i ++ textB t))
  have E2 := Aside0.mk (show numO (some (intB i ++ textB t)) = (IntKind.u64.wrap i, some (textB t)) from numO_numB _ (u64_range i).1 (u64_range i).2 (textB t))
  have E3 := Aside0.mk (int_back hi)
  have E4 := Aside0.mk (text_back t h1)
  obtain ⟨m, st, hm⟩ : ∃ m st, numO (some b) = (m, st) := ⟨_, _, rfl⟩
  have E5 := Aside0.mk hm
  clear hm
  clear hn hrt hct hrb hcb hut hub h1 h2 hi hli hln hlt
  go_enter Try.func10, Try.ntmps10
  go_wp2
  go_quiet (fail)
  have HB := Aside0.mk (pw_below_drewN (below_alloc (Below.refl w.heap.size w) (.cells #[.int .u64 n, .int .i64 i, .slice A1 t.length c1, .slice A2 b.length c2] 64)) nq)
  go_wp2_with (first
    | (go_at_call 52; refine (num_c n _ HN.out.1 HN.out.2).mono ?_; rintro e w1 ⟨v, rfl, ho, hb⟩; have n1_ := Aside0.mk (below_step HB.out hb); clear HB; have HB := n1_; clear n1_; clear hb; obtain ⟨Ax1, cx1, rfl, hl_, hr_⟩ := Ob.reads ho; have HRx1 := Aside0.mk hr_; have HLx1 := Aside0.mk hl_; clear ho hl_ hr_)
    | (go_at_call 54; refine (int_c i _).mono ?_; rintro e w2 ⟨v, rfl, ho, hb⟩; have n1_ := Aside0.mk (below_step HB.out hb); clear HB; have HB := n1_; clear n1_; have n2_ := Aside0.mk (Kd.C_below HRx1.out hb); clear HRx1; have HRx1 := n2_; clear n2_; clear hb; obtain ⟨Ax2, cx2, rfl, hl_, hr_⟩ := Ob.reads ho; have HRx2 := Aside0.mk hr_; have HLx2 := Aside0.mk hl_; clear ho hl_ hr_)
    | (go_at_call 50; refine (text_c A1 c1 t _ (Kd.C_below HT.out HB.out) HCT.out (by have := H1.out; omega)).mono ?_; rintro e w3 ⟨v, rfl, ho, hb⟩; have n1_ := Aside0.mk (below_step HB.out hb); clear HB; have HB := n1_; clear n1_; have n2_ := Aside0.mk (Kd.C_below HRx1.out hb); clear HRx1; have HRx1 := n2_; clear n2_; have n2_ := Aside0.mk (Kd.C_below HRx2.out hb); clear HRx2; have HRx2 := n2_; clear n2_; clear hb; obtain ⟨Ax3, cx3, rfl, hl_, hr_⟩ := Ob.reads ho; have HRx3 := Aside0.mk hr_; have HLx3 := Aside0.mk hl_; clear ho hl_ hr_)
    | ((with_reducible refine gate_dst (N := 34) rfl ?_); refine lit_rows (N := 34) (e := 22) ?hg ?hd [numB n, intB i, textB t] [.slice Ax1 (numB n).length cx1, .slice Ax2 (intB i).length cx2, .slice Ax3 (textB t).length cx3] (rows3 HRx1.out HLx1.out HRx2.out HLx2.out HRx3.out HLx3.out) ?hr (by simp) ?_; (case hd => rfl); (case hg => rfl); (case hr => first | (go_simp; done) | (go_simp; rfl)); intro A4 w4 hrr hb; have HRR := Aside0.mk hrr; have n1_ := Aside0.mk (below_step HB.out hb); clear HB; have HB := n1_; clear n1_; clear hb hrr HRx1 HRx2 HRx3)
    | (go_at_call 56; refine (all_c A4 3 [numB n, intB i, textB t] _ HRR.out (by simp) (by simp) HLEN.out).mono ?_; rintro e w5 ⟨v, rfl, ho, hb⟩; rw [← HLL.out] at ho; have n1_ := Aside0.mk (below_step HB.out hb); clear HB; have HB := n1_; clear n1_; clear hb; obtain ⟨Ax5, cx5, rfl, hl_, hr_⟩ := Ob.reads ho; have HRx5 := Aside0.mk hr_; have HLx5 := Aside0.mk hl_; clear ho hl_ hr_)
    | (go_at_call 36; refine (newO Ax5 cx5 L _ HRx5.out HLx5.out HLEN2.out HU2.out).mono ?_; rintro e w6 ⟨g, rfl, hs, hb⟩; have HS := Aside0.mk (RdO.lower hs HB.out.size); clear hs; have n1_ := Aside0.mk (below_step HB.out hb); clear HB; have HB := n1_; clear n1_; clear hb; rw [E0.out] at HS))
  go_wp2_with (first
    | (go_at_call 38; refine (numO_ _ _ _ _ HS.out HB.out).mono ?_; rintro e w6 ⟨rfl, hl⟩; rw [E1.out] at hl ⊢; have HL1 := Aside0.mk hl; clear hl HS HB)
    | (go_at_call 40; refine (intO_ _ _ _ _ HL1.out.1 HL1.out.2.1).mono ?_; rintro e w7 ⟨rfl, hl⟩; rw [E2.out] at hl ⊢; rw [E3.out]; have HL2 := Aside0.mk (HL1.out.trans hl); clear hl HL1)
    | (go_at_call 43; refine (textO_ _ _ _ _ (t.length : Int) HL2.out.1 HL2.out.2.1 (by have := H1.out; omega)).mono ?_; rintro e w8 ⟨v, rfl, ho, hl⟩; rw [E4.out] at hl ho; have HL3 := Aside0.mk (HL2.out.trans hl); clear hl HL2; obtain ⟨Ax6, cx6, rfl, hl_, hr_⟩ := Ob.reads ho; have HRx6 := Aside0.mk hr_; have HLx6 := Aside0.mk hl_; clear ho hl_ hr_)
    | (go_at_call 18; refine (same_c Ax6 cx6 t A1 c1 t _ HRx6.out HLx6.out (Kd.C_below HT.out HL3.out.2.1) HCT.out (by have := H1.out; omega)).mono ?_; rintro e w9 ⟨rfl, hd⟩; have hb := Drawn0.below hd; have HS := Aside0.mk (RdO.below HL3.out.1 hb); have HB := Aside0.mk (below_step HL3.out.2.1 hb); clear hd hb HL3 HRx6 HLx6))
  go_wp2_with (first
    | (go_at_call 47; refine (okO _ _ _ _ HS.out).mono ?_; rintro e w' ⟨rfl, rfl⟩)
    | (go_at_call 48; refine (leftO_ _ _ _ _ HS.out).mono ?_; rintro e w' ⟨rfl, rfl⟩; clear HS)
    | (go_at_call 36; refine (newO A2 c2 b _ (Kd.C_below HBB.out HB.out) HCB.out (by have := H2.out; omega) HUB.out).mono ?_; rintro e w10 ⟨g2, rfl, hs, hb⟩; have HS2 := Aside0.mk (RdO.lower hs HB.out.size); clear hs; have n1_ := Aside0.mk (below_step HB.out hb); clear HB; have HB := n1_; clear n1_; clear hb)
    | (go_at_call 38; refine (numO_ _ _ _ _ HS2.out HB.out).mono ?_; rintro e w11 ⟨rfl, hl⟩; rw [E5.out] at hl ⊢; have HL5 := Aside0.mk hl; clear hl HS2 HB))
  cases st with
  | none =>
    go_wp2_with (first
      | (go_at_call 47; refine (okO _ _ _ _ HL5.out.1).mono ?_; rintro e w' ⟨rfl, rfl⟩)
      | (go_at_call 35; refine (live_c _).mono ?_; rintro e w12 ⟨rfl, hb⟩; have HF := Aside0.mk (below_step HL5.out.2.1 hb); clear hb))
    go_ret
    exact ⟨rfl, HF.out⟩
  | some r =>
    obtain ⟨hbk, hm0, hm1⟩ := numO_back HUB.out E5.out
    have HM := Aside0.mk (And.intro hm0 hm1)
    have hlen : b.length = (numB m).length + r.length := by rw [hbk, List.length_append]
    have HTK := Aside0.mk (show b.take (numB m).length = numB m by rw [hbk, List.take_left])
    have HLE := Aside0.mk (show (numB m).length ≤ b.length by omega)
    have he1 : ((numB m).length : Int) ≤ (c2 : Int) := by have := HCB.out; omega
    have he2 : wrap64 ((b.length : Int) - (r.length : Int)) = ((numB m).length : Int) := by rw [IntWalk.wrap64_in _ (by have := H2.out; omega)]; omega
    have HRB := Aside0.mk (Rb.take HBB.out (numB m).length HLE.out)
    have HNL := Aside0.mk (numB_len hm1)
    have HC2 := Aside0.mk (show (numB m).length ≤ c2 by have := HCB.out; omega)
    clear hbk hlen hm0 hm1
    go_wp2_with (first
      | (go_at_call 47; refine (okO _ _ _ _ HL5.out.1).mono ?_; rintro e w' ⟨rfl, rfl⟩)
      | (go_at_call 52; refine (num_c m _ HM.out.1 HM.out.2).mono ?_; rintro e w12 ⟨v, rfl, ho, hb⟩; have HS := Aside0.mk (RdO.below HL5.out.1 hb); have HB := Aside0.mk (below_step HL5.out.2.1 hb); clear hb HL5; obtain ⟨Ay, cy, rfl, hl_, hr_⟩ := Ob.reads ho; have HRy := Aside0.mk hr_; have HLy := Aside0.mk hl_; clear ho hl_ hr_)
      | (go_at_call 48; refine (leftO_ _ _ _ _ HS.out).mono ?_; rintro e w' ⟨rfl, rfl⟩; rw [show leftO (some r) = (r.length : Int) from rfl])
      | (go_at_call 18; refine (same_n Ay cy (numB m).length (numB m) A2 c2 (numB m).length (b.take (numB m).length) _ HRy.out rfl HLy.out (Kd.C_below HRB.out HB.out) (by rw [HTK.out]) HC2.out (by have := HNL.out; omega)).mono ?_; rintro e w13 ⟨rfl, hd⟩; have hb := Drawn0.below hd; rw [HTK.out]; have n1_ := Aside0.mk (below_step HB.out hb); clear HB; have HB := n1_; clear n1_; clear hb hd)
      | (go_at_call 35; refine (live_c _).mono ?_; rintro e w14 ⟨rfl, hb⟩; have HF := Aside0.mk (below_step HB.out hb); clear hb))
    go_ret
    exact ⟨rfl, HF.out⟩

theorem walk (w : World) (x : Int × Int × List Int × List Int) (cs : Array Value) (hK : D.K w x cs.toList) (ok : (Lit.int .u64 x.1).wf = true ∧ (Lit.int .i64 x.2.1).wf = true ∧ (∀ y ∈ x.2.2.1, (Lit.int .u8 y).wf = true) ∧ (∀ y ∈ x.2.2.2, (Lit.int .u8 y).wf = true)) :
    Calls Try.prog 10 #[.agg cs] w fun e w' => e = .returned (.bool true) ∧ Below w.heap.size w w' := by
  obtain ⟨n, i, t, b⟩ := x
  obtain ⟨_, _, e0, rfl, _, _, e1, rfl, _, _, e2, ⟨A1, c1, rfl, hc1, hr1⟩, ⟨A2, c2, rfl, hc2, hr2⟩⟩ := hK
  subst e2
  subst e1
  have e : cs = #[.int .u64 n, .int .i64 i, .slice A1 t.length c1, .slice A2 b.length c2] := Array.toList_inj.1 e0
  subst e
  by_cases h : 2000 < t.length ∨ 2000 < b.length
  · exact long w n i t b A1 A2 c1 c2 h
  · exact short w n i t b A1 A2 c1 c2 (by omega) (by omega) (u64_wf ok.1) (i64_wf ok.2.1) hr1 hc1 hr2 hc2 (u8_wf ok.2.2.1) (u8_wf ok.2.2.2)
end Go.Proofs.Ytobljmgoengofaa.TlvBack
