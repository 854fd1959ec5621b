import Derived.Test.YtobljmgoengofaaPagePlain
import Derived.Test.YtobljmgoengofaaSame0
import Derived.Test.YtobljmgoengofaaPZxFhanaperref34Paged
import Derived.Test.YtobljmgoengofaaPZxFhanaperref34Whole
/- Pages: what the document's functions compute. -/
namespace Go.Proofs.Ytobljmgoengofaa.PageEv
open Go.RowKit Go.Proofs.Ytobljmgoengofaa.Base Go.Proofs.Ytobljmgoengofaa.Chunk Go.Proofs.Ytobljmgoengofaa.PagePlain Go.Proofs.Ytobljmgoengofaa.Aid Go.Proofs.Ytobljmgoengofaa.PZ Go.Proofs.YtobljmgoengofaaW.PrintWords Go.Proofs.YtobljmgoengofaaW.PrintLast Go.Proofs.YtobljmgoengofaaW.PrintMore

theorem tmod_nat (i m : Nat) : Int.tmod (i : Int) (m : Int) = ((i % m : Nat) : Int) := by
  rw [Int.tmod_eq_emod_of_nonneg (by omega)]
  omega
theorem paged_ev (b : List Int) (hb : b.length ≤ 20000) : Ev (fun k => hanaperref34_Paged.f k b) (paged b) := by
  have key : ∀ (d i : Nat) (out : List Int), i + d = b.length → out.length ≤ 2 * i → Ev (fun k => hanaperref34_Paged.l0 k b out (i : Int)) (out ++ pgo i (b.drop i)) := by
    intro d
    induction d with
    | zero =>
      intro i out hi ho
      refine Ev.step (fun k => by simp only [hanaperref34_Paged.l0]; rfl) ?_
      refine neg (by omega) (now ?_)
      rw [List.drop_of_length_le (by omega)]
      show out = out ++ []
      rw [List.append_nil]
    | succ d ih =>
      intro i out hi ho
      have hil : i < b.length := by omega
      refine Ev.step (fun k => by simp only [hanaperref34_Paged.l0]; rfl) ?_
      refine pos (by omega) ?_
      rw [show (255 : Int) = ((255 : Nat) : Int) from rfl, tmod_nat, rd_nat b i hil, inc hil (by omega), drop_cons b i hil]
      show Ev _ (out ++ ((if i % 255 = 0 then [240] else []) ++ b[i] :: pgo (i + 1) (b.drop (i + 1))))
      by_cases h : i % 255 = 0
      · rw [if_pos h]
        refine pos (by omega) (pos (by omega) (bindSome rfl (pos (by omega) (pos (by rw [List.length_append]; simp; omega) ?_))))
        have := ih (i + 1) (out ++ [240] ++ [b[i]]) (by omega) (by rw [List.length_append, List.length_append]; simp; omega)
        simpa using this
      · rw [if_neg h]
        refine neg (by omega) (pos (by omega) (pos (by omega) ?_))
        have := ih (i + 1) (out ++ [b[i]]) (by omega) (by rw [List.length_append]; simp; omega)
        simpa using this
  have := key b.length 0 [] (by omega) (by simp)
  rw [List.drop_zero, List.nil_append, pgo_paged b 0 rfl] at this
  exact this
theorem whole_ev (b : List Int) (hb : b.length ≤ 10000) : Ev (fun k => hanaperref34_Whole.f k b) (wholeS b) := by
  have hlast : Ev (fun k => (hanaperref34_Paged.f k (strip b)).bind fun t => (hanaperref01_Same.f k t b).bind fun s => if s = true then some (strip b, true) else some ([], false)) (wholeS b) := by
    refine evBind (paged_ev _ (by have := strip_len b; omega)) (evBind (Same0.same_ev _ _ (by have := strip_len b; have := paged_len (strip b); omega)) ?_)
    rw [paged_strip]
    unfold wholeS
    cases allG b with
    | true => exact pos rfl (now rfl)
    | false => exact neg (by simp) (now rfl)
  have key : ∀ (d i : Nat) (out : List Int), i + d = b.length → out.length ≤ i → out ++ sgo i (b.drop i) = strip b → Ev (fun k => hanaperref34_Whole.l0 k b out (i : Int)) (wholeS b) := by
    intro d
    induction d with
    | zero =>
      intro i out hi ho he
      have e : out = strip b := by
        rw [List.drop_of_length_le (by omega)] at he
        rw [← he]
        exact (List.append_nil _).symm
      subst e
      refine Ev.step (fun k => by simp only [hanaperref34_Whole.l0]; rfl) ?_
      exact neg (by omega) hlast
    | succ d ih =>
      intro i out hi ho he
      have hil : i < b.length := by omega
      refine Ev.step (fun k => by simp only [hanaperref34_Whole.l0]; rfl) ?_
      refine pos (by omega) ?_
      rw [show (256 : Int) = ((256 : Nat) : Int) from rfl, tmod_nat, rd_nat b i hil, inc hil (by omega)]
      rw [drop_cons b i hil] at he
      replace he : out ++ ((if i % 256 = 0 then [] else [b[i]]) ++ sgo (i + 1) (b.drop (i + 1))) = strip b := he
      by_cases h : i % 256 = 0
      · rw [if_pos h] at he
        exact pos (by omega) (ih (i + 1) out (by omega) (by omega) he)
      · rw [if_neg h] at he
        exact neg (by omega) (pos (by omega) (pos (by omega) (ih (i + 1) (out ++ [b[i]]) (by omega) (by rw [List.length_append]; simp; omega) (by rw [← he, List.append_assoc]))))
  exact key b.length 0 [] (by omega) (by simp) (by rw [List.drop_zero, List.nil_append, sgo_strip b 0 rfl])
end Go.Proofs.Ytobljmgoengofaa.PageEv
