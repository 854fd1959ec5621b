import Derived.Test.YtobljmgoengofaaLo
import Derived.Test.YtobljmgoengofaaHLive01
import Derived.Test.YtobljmgoengofaaPZxFhanaperlaw01TlvPuts
/- TlvPuts: the law's own function is true at every numbers and texts. -/
namespace Go.Proofs.Ytobljmgoengofaa.TlvPuts
open Go.Proofs.Ytobljmgoengofaa.Base Go.Proofs.Ytobljmgoengofaa.TlvPlain Go.Proofs.Ytobljmgoengofaa.Lo Go.RowKit Go.Proofs.YtobljmgoengofaaW.PrintWords Go.Proofs.YtobljmgoengofaaW.PrintLast Go.Proofs.YtobljmgoengofaaW.PrintMore Go.Proofs.Ytobljmgoengofaa.Aid Go.Proofs.Ytobljmgoengofaa.PZ

theorem textB_len (l : List Int) (h : l.length < 140737488355000) : (textB l).length ≤ l.length + 9 := by
  unfold textB
  rw [List.length_append]
  have := numB_len (n := (l.length : Int)) (by omega)
  omega
theorem last_ev (n i : Int) (l : List (List Int)) (hn : 0 ≤ n ∧ n ≤ 18446744073709551615) (hl : l.length ≤ 50) (ht : l.flatten.length ≤ 25000) :
    Ev (fun k => (tlv_Num.f k n).bind fun t306 => ((hanaperref01_Num.f k n).bind fun t309 => ((hanaperref01_Same.f k t306 t309).bind fun t312 => (if t312 = true then ((tlv_Int.f k i).bind fun t313 => ((hanaperref01_Int.f k i).bind fun t316 => ((hanaperref01_Same.f k t313 t316).bind fun t319 => (if t319 = true then ((tlv_All.f k l).bind fun t320 => ((hanaperref01_Same.f k t320 l.flatten).bind fun t323 => (if t323 = true then ((hanaperlaw01_live.f).bind fun t324 => (some t324)) else (some false)))) else (some false))))) else (some false))))) true := by
  have h1 := numB_len hn.2
  have h2 : (intB i).length ≤ 9 := numB_len (u64_range i).2
  refine evBind (num_ev n hn.1 hn.2) (evBind (rnum_ev n hn.1 hn.2) (evBind (same_ev _ _ (by omega)) (pos (by simp) ?_)))
  refine evBind (int_ev i) (evBind (rint_ev i) (evBind (same_ev _ _ (by omega)) (pos (by simp) ?_)))
  exact evBind (all_ev l (by omega) (by omega)) (evBind (same_ev _ _ (by omega)) (pos (by simp) (bindSome rfl (now rfl))))
theorem loop_ev (n i : Int) (l : List (List Int)) (hn : 0 ≤ n ∧ n ≤ 18446744073709551615) (hl : l.length ≤ 50) : ∀ (d j : Nat), j + d = l.length → (l.take j).flatten.length ≤ 500 * j →
    Ev (fun k => hanaperlaw01_TlvPuts.l0 k n i l (l.take j).flatten (j : Int)) true := by
  intro d
  induction d with
  | zero =>
    intro j hj hf
    refine Ev.step (fun k => by simp only [hanaperlaw01_TlvPuts.l0]; rfl) ?_
    refine neg (by omega) ?_
    rw [List.take_of_length_le (by omega)] at hf ⊢
    exact last_ev n i l hn hl (by omega)
  | succ d ih =>
    intro j hj hf
    have hjl : j < l.length := by omega
    refine Ev.step (fun k => by simp only [hanaperlaw01_TlvPuts.l0]; rfl) ?_
    have e : rd_L3 l (j : Int) = l[j] := by simp [rd_L3, List.getD_eq_getElem?_getD, List.getElem?_eq_getElem hjl]
    rw [e, inc hjl (by omega)]
    refine pos (by omega) (pos (by omega) ?_)
    by_cases h5 : ((l[j]).length : Int) > 500
    · exact pos h5 (bindSome rfl (now rfl))
    · refine neg h5 ?_
      have h6 := textB_len l[j] (by omega)
      refine evBind (text_ev _ (by omega)) (evBind (rtext_ev _ (by omega)) (evBind (same_ev _ _ (by omega)) (pos (by simp) (pos (by omega) ?_))))
      have e2 : (l.take j).flatten ++ l[j] = (l.take (j + 1)).flatten := by rw [take_snoc l j hjl, List.flatten_append]; simp
      rw [e2]
      refine ih (j + 1) (by omega) ?_
      rw [← e2, List.length_append]
      omega
theorem law_ev (n i : Int) (l : List (List Int)) (hn : 0 ≤ n ∧ n ≤ 18446744073709551615) : Ev (fun k => hanaperlaw01_TlvPuts.f k n i l) true := by
  unfold hanaperlaw01_TlvPuts.f
  by_cases h : (l.length : Int) > 50
  · exact pos h (bindSome rfl (now rfl))
  · refine neg h ?_
    have := loop_ev n i l hn (by omega) l.length 0 (by omega) (by simp)
    exact this
theorem u64_wf {n : Int} (h : (Lit.int .u64 n).wf = true) : 0 ≤ n ∧ n ≤ 18446744073709551615 := by
  simp only [Lit.wf, IntKind.min, IntKind.max, IntKind.signed, IntKind.bits, Bool.and_eq_true] at h
  simp at h
  omega
theorem walk (W : World) (n : Int) (hn : (Lit.int .u64 n).wf = true) (i : Int) (_ : (Lit.int .i64 i).wf = true) (A : Option Addr) (c : Nat) (l : List (List Int)) (hr : Kd.C (Kd.slice 5 (Kd.int .u8)) W A l.length l) (hc : l.length ≤ c) (_ : ∀ x ∈ l, ∀ y ∈ x, (Lit.int .u8 y).wf = true) :
    Calls Try.prog 9 #[.int .u64 n, .int .i64 i, .slice A l.length c] W fun e W' => e = .returned (.bool true) ∧ Below W.heap.size W W' := by
  obtain ⟨k, h⟩ := (law_ev n i l (u64_wf hn)).rounds
  exact hanaperlaw01_TlvPuts.calls k n i A c l true W hr hc h
end Go.Proofs.Ytobljmgoengofaa.TlvPuts
