/- Own and printed texts, laid together. -/
import Derived.Test.YtgohmganimamcaaTpPD
import Derived.Test.YtgohmganimamcaaTpPE
/- The law TermPuts. -/
namespace Go.Proofs.Ytgohmganimamcaa.Term
set_option linter.unusedVariables false
set_option linter.unusedSimpArgs false
open Go.RowKit Go.Proofs.Ytgohmganimamcaa.Base Go.Proofs.Ytgohmganimamcaa.TlvPlain Go.Proofs.Ytgohmganimamcaa.Lo Go.Proofs.Ytgohmganimamcaa.RdPlain Go.Proofs.Ytgohmganimamcaa.Aid Go.Proofs.Ytgohmganimamcaa.PZ Go.Proofs.YtgohmganimamcaaW.PrintWords Go.Proofs.YtgohmganimamcaaW.PrintLast Go.Proofs.YtgohmganimamcaaW.PrintMore
theorem flat_drop (f : ST → List Int) (l : List ST) (i : Nat) (h : i < l.length) : ((l.drop i).map f).flatten = f l[i] ++ ((l.drop (i + 1)).map f).flatten := by
  rw [List.drop_eq_getElem_cons h, List.map_cons, List.flatten_cons]
theorem put_short {d : Nat} (hd : d ≤ 8) {x : ST} (h : mayT d x = true) (hw : wfT x) : (putT x).length ≤ 30345 := by
  have h1 := put_len d x h hw
  have h2 : 2 ^ d ≤ 2 ^ 8 := Nat.pow_le_pow_right (by omega) hd
  omega
theorem bytes_ev : ∀ (d : Nat), d ≤ 8 → ∀ (x : ST), mayT d x = true → wfT x → Ev (fun k => hanaperref05_bytes.f k x.f0 x.f1 x.f2 x.f3) (putT x) := by
  intro d
  induction d with
  | zero => intro _ x h; rw [mayT] at h; cases h
  | succ d ih =>
    intro hd x h hw
    obtain ⟨_, h2, _, _, h5, _, h7⟩ := may_parts h
    obtain ⟨w1, _, w3⟩ := (wfT_eq x).1 hw
    have hs := put_short hd h hw
    have loop : ∀ (n i : Nat) (acc : List Int), i + n = x.f3.length → acc.length + ((x.f3.drop i).map putT).flatten.length ≤ 30345 → Ev (fun k => hanaperref05_bytes.l0 k acc (i : Int) x.f0 x.f1 x.f2 x.f3) (acc ++ ((x.f3.drop i).map putT).flatten) := by
      intro n
      induction n with
      | zero =>
        intro i acc hi hl
        rw [List.drop_of_length_le (by omega)]
        exact Ev.step (fun k => by simp only [hanaperref05_bytes.l0]; rfl) (neg (by omega) (now (by simp)))
      | succ n ihn =>
        intro i acc hi hl
        have hlt : i < x.f3.length := by omega
        rw [flat_drop putT x.f3 i hlt] at hl ⊢
        rw [List.length_append] at hl
        refine Ev.step (fun k => by simp only [hanaperref05_bytes.l0]; rfl) (pos (by omega) (pos (by omega) ?_))
        rw [rd_at x.f3 i hlt]
        refine evBind (ih (by omega) x.f3[i] (h7 _ (List.getElem_mem hlt)) (w3 _ (List.getElem_mem hlt))) (pos (by omega) ?_)
        rw [inc hlt (by have := kid_len x.f0; omega), ← List.append_assoc]
        exact ihn (i + 1) (acc ++ putT x.f3[i]) (by omega) (by rw [List.length_append]; omega)
    rw [putT_eq] at hs ⊢
    rw [List.length_cons, List.length_append] at hs
    have fin : ∀ acc : List Int, acc.length + ((x.f3.map putT).flatten).length ≤ 30345 → Ev (fun k => hanaperref05_bytes.j1 k acc x.f0 x.f1 x.f2 x.f3) (acc ++ (x.f3.map putT).flatten) := fun acc ha =>
      Ev.step (fun k => by simp only [hanaperref05_bytes.j1]; rfl) (by have := loop x.f3.length 0 acc (by omega) (by simpa using ha); simpa using this)
    have dat : ∀ acc : List Int, acc.length + (if datT x.f0 = true then textB x.f2 else []).length + ((x.f3.map putT).flatten).length ≤ 30345 → Ev (fun k => hanaperref05_bytes.j0 k acc x.f0 x.f1 x.f2 x.f3) (acc ++ (if datT x.f0 = true then textB x.f2 else []) ++ (x.f3.map putT).flatten) := by
      intro acc ha
      refine Ev.step (fun k => by simp only [hanaperref05_bytes.j0]; rfl) ?_
      by_cases hk : x.f0 = 3
      · have hk2 : datT x.f0 = true := by unfold datT; exact decide_eq_true hk
        rw [if_pos hk2] at ha ⊢
        refine pos hk (evBind (rtext_ev x.f2 (by omega)) (pos (by omega) ?_))
        exact fin _ (by rw [List.length_append]; omega)
      · have hk2 : ¬ datT x.f0 = true := by unfold datT; simpa using hk
        rw [if_neg hk2] at ha ⊢
        rw [List.append_nil]
        exact neg hk (fin _ (by simpa using ha))
    have hh : (headT x).length = (if numT x.f0 = true then numB x.f1 else []).length + (if datT x.f0 = true then textB x.f2 else []).length := by unfold headT; rw [List.length_append]
    refine Ev.step (fun k => by simp only [hanaperref05_bytes.f]; rfl) ?_
    refine bindSome (a := [x.f0 % 256]) rfl (bindSome (number_v x.f0) ?_)
    unfold headT
    by_cases hn : numT x.f0 = true
    · rw [if_pos hn] at hh ⊢
      refine pos hn (evBind (rnum_ev x.f1 w1.1 w1.2) (pos (by simp only [List.length_cons, List.length_nil]; omega) ?_))
      have := dat ([x.f0 % 256] ++ numB x.f1) (by simp only [List.length_cons, List.length_nil, List.length_append]; omega)
      simpa using this
    · rw [if_neg hn] at hh ⊢
      have := dat [x.f0 % 256] (by simp only [List.length_cons, List.length_nil] at hh ⊢; omega)
      refine neg hn ?_
      simpa using this
theorem rput_ev (x : ST) (hw : wfT x) : Ev (fun k => hanaperref05_Put.f k x.f0 x.f1 x.f2 x.f3) (putV x) := by
  unfold hanaperref05_Put.f putV
  refine evBind (rMay_ev x) ?_
  by_cases c : mayT 8 x = true
  · rw [if_pos c]
    refine pos c (evBind (bytes_ev 8 (by omega) x c hw) ?_)
    by_cases c2 : ((putT x).length : Int) > 400
    · refine pos c2 (now ?_); rw [if_pos c2]
    · refine neg c2 (now ?_); rw [if_neg c2]
  · rw [if_neg c]
    exact neg c (now rfl)
theorem puts_ev (x : ST) (hw : wfT x) : Ev (fun k => hanaperlaw05_TermPuts.f k x.f0 x.f1 x.f2 x.f3) true := by
  unfold hanaperlaw05_TermPuts.f
  obtain ⟨b, hb⟩ := small_ev x
  refine evBind hb ?_
  cases b with
  | false => exact neg (by decide) (bindSome rfl (now rfl))
  | true =>
    refine pos rfl (bindSome (tput_v x hw) (evBind (rput_ev x hw) (evBind (same_ev _ _ (by have := putV_len x; omega)) (pos (decide_eq_true rfl) (bindSome (a := (putV x).2) rfl (pos rfl (evBind (check_ev x) ?_)))))))
    cases hm : mayT 8 x with
    | true =>
      refine bindSome (a := 0) rfl (evBind (rMay_ev x) ?_)
      rw [hm]
      refine pos (by decide) (evBind (rMay_ev x) ?_)
      rw [hm]
      exact pos rfl (bindSome rfl (now rfl))
    | false =>
      refine bindSome (a := 1) rfl (evBind (rMay_ev x) ?_)
      rw [hm]
      refine pos (by decide) (evBind (rMay_ev x) ?_)
      rw [hm]
      refine neg (by decide) (evBind (check_ev x) ?_)
      rw [hm]
      exact bindSome (a := 1) rfl (pos rfl (bindSome rfl (now rfl)))
theorem putsWalk (w : World) (x : ST) (cs : Array Value) (hK : k26.K w x cs.toList) (hw : wfT x) :
    Calls Try.prog 3 #[.agg cs] w fun e w' => e = .returned (.bool true) ∧ Below w.heap.size w w' := by
  obtain ⟨A2, c2, A3, c3, e0, l2, g2, l3, g3⟩ := k26_open hK
  have e : cs = #[.int .i64 x.f0, .int .u64 x.f1, .slice A2 x.f2.length c2, .slice A3 x.f3.length c3] := Array.toList_inj.1 e0
  subst e
  obtain ⟨k, h⟩ := (puts_ev x hw).rounds
  exact hanaperlaw05_TermPuts.calls k x.f0 x.f1 A2 c2 x.f2 A3 c3 x.f3 true w g2 l2 g3 l3 h
end Go.Proofs.Ytgohmganimamcaa.Term
