import Derived.Test.YtobljmgoengofaaTlvLive
/- TlvNil: the law's walk. -/
namespace Go.Proofs.Ytobljmgoengofaa.TlvNil
open Go.Proofs.Ytobljmgoengofaa.Base Go.Proofs.Ytobljmgoengofaa.TlvPlain Go.Proofs.Ytobljmgoengofaa.Tlv Go.Proofs.Ytobljmgoengofaa.TlvLive Go.RowKit Go.Proofs.YtobljmgoengofaaW.PrintWords Go.Proofs.YtobljmgoengofaaW.PrintLast Go.Proofs.YtobljmgoengofaaW.PrintMore

theorem count_none (n : Int) : countO none n = (0, none) := by
  unfold countO
  split <;> rfl
theorem text_none (n : Int) : textO none n = ([], none) := by
  unfold textO
  rw [count_none]; rfl
theorem int_none : wrap64 (numO none).1 = 0 := by show wrap64 0 = 0; unfold wrap64; omega
theorem i64_le {n : Int} (h : (Lit.int .i64 n).wf = true) : n ≤ 9223372036854775807 := by
  simp only [Lit.wf, IntKind.min, IntKind.max, IntKind.signed, IntKind.bits, Bool.and_eq_true] at h
  simp at h
  omega
set_option maxHeartbeats 3200000 in
set_option maxRecDepth 100000 in
theorem walk (w : World) (n : Int) (hn : (Lit.int .i64 n).wf = true) :
    Calls Try.prog 8 #[.int .i64 n] w fun e w' => e = .returned (.bool true) ∧ Below w.heap.size w w' := by
  have HN := Aside0.mk (i64_le hn)
  clear hn
  have HB := Aside0.mk (below_alloc (Below.refl w.heap.size w) (.cells #[.bool false, .bool false, .slice none 0 0] 58))
  have HS := Aside0.mk (show RdO w (w.alloc (.cells #[.bool false, .bool false, .slice none 0 0] 58)) w.heap.size none from
    ⟨false, false, [], rfl, Nat.le_refl _, none, 0, blk_new _ _, Nat.le_refl _, Kd.C_nil _ _, by simp, U8.nil⟩)
  go_enter Try.func8, Try.ntmps8
  go_wp2_with (first
    | (go_at_call 38; refine (num_nil _).mono ?_; rintro e w' ⟨rfl, rfl⟩)
    | (go_at_call 45; refine (take_nil _ _).mono ?_; rintro e w' ⟨rfl, rfl⟩)
    | (go_at_call 48; refine (left_nil _).mono ?_; rintro e w' ⟨rfl, rfl⟩)
    | (go_at_call 47; with_reducible refine (ok_nil _).mono ?_; rintro e w' ⟨rfl, rfl⟩)
    | (go_at_call 40; refine (intO_ _ _ _ _ HS.out HB.out).mono ?_; rintro e w1 ⟨rfl, hl⟩; rw [int_none]; have HL := Aside0.mk (show Tlv.Left _ _ _ _ none from hl); clear hl)
    | (go_at_call 41; refine (countO_ _ _ _ _ n HL.out.1 HL.out.2.1 HN.out).mono ?_; rintro e w1 ⟨rfl, hl⟩; rw [count_none] at hl ⊢; have HL2 := Aside0.mk (HL.out.trans hl); clear hl)
    | (go_at_call 43; refine (textO_ _ _ _ _ n HL2.out.1 HL2.out.2.1 HN.out).mono ?_; rintro e w1 ⟨v, rfl, ho, hl⟩; rw [text_none] at ho hl; have HL3 := Aside0.mk (HL2.out.trans hl); obtain ⟨A6, c6, rfl, hl_, hr_⟩ := Ob.reads ho; clear ho hl_ hr_ hl)
    | (go_at_call 47; refine (okO _ _ _ _ HL3.out.1).mono ?_; rintro e w' ⟨rfl, rfl⟩)
    | (go_at_call 35; refine (live_c _).mono ?_; rintro e w1 ⟨rfl, hb⟩; have HF := Aside0.mk (below_step HL3.out.2.1 hb); clear hb))
  go_ret
  exact ⟨rfl, HF.out⟩
end Go.Proofs.Ytobljmgoengofaa.TlvNil
