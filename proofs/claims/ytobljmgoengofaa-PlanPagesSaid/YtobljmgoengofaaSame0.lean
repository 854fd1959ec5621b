import Derived.Test.YtobljmgoengofaaAid
import Derived.Test.YtobljmgoengofaaPZxFhanaperref01Same
/- Lists of bytes that are the same. -/
namespace Go.Proofs.Ytobljmgoengofaa.Same0
open Go.Proofs.Ytobljmgoengofaa.Base Go.Proofs.Ytobljmgoengofaa.Aid Go.RowKit Go.Proofs.YtobljmgoengofaaW.PrintWords Go.Proofs.YtobljmgoengofaaW.PrintLast Go.Proofs.YtobljmgoengofaaW.PrintMore Go.Proofs.Ytobljmgoengofaa.PZ

theorem same_from (a b : List Int) (hl : a.length = b.length) (hn : a.length ≤ 4611686018427387904) : ∀ (d i : Nat), i + d = a.length →
    Ev (fun k => hanaperref01_Same.l0 k a b i) (decide (a.drop i = b.drop i)) := by
  intro d
  induction d with
  | zero =>
    intro i hi
    refine Ev.step (fun k => by simp only [hanaperref01_Same.l0]; rfl) ?_
    refine neg (by omega) (now ?_)
    rw [List.drop_of_length_le (by omega), List.drop_of_length_le (by omega)]; simp
  | succ d ih =>
    intro i hi
    refine Ev.step (fun k => by simp only [hanaperref01_Same.l0]; rfl) ?_
    refine pos (by omega) (pos (by omega) (pos (by omega) ?_))
    rw [rd_nat a i (by omega), rd_nat b i (by omega), drop_cons a i (by omega), drop_cons b i (by omega), inc (show i < a.length by omega) hn]
    by_cases e : a[i]'(by omega) = b[i]'(by omega)
    · refine pos e ?_
      have := ih (i + 1) (by omega)
      generalize a.drop (i + 1) = A at this ⊢
      generalize b.drop (i + 1) = B at this ⊢
      simpa [e] using this
    · refine neg e (now ?_)
      generalize a.drop (i + 1) = A
      generalize b.drop (i + 1) = B
      simp [e]
theorem same_ev (a b : List Int) (hn : a.length ≤ 4611686018427387904) : Ev (fun k => hanaperref01_Same.f k a b) (decide (a = b)) := by
  unfold hanaperref01_Same.f
  by_cases e : a.length = b.length
  · refine pos (by omega) ?_
    simpa using same_from a b e hn a.length 0 (by omega)
  · refine neg (by omega) (now ?_)
    have : a ≠ b := fun h => e (by rw [h])
    simp [this]
theorem same_c (A0 : Option Addr) (c0 : Nat) (a : List Int) (A1 : Option Addr) (c1 : Nat) (b : List Int) (w : World) (h0 : Rb w A0 a) (hc0 : a.length ≤ c0) (h1 : Rb w A1 b) (hc1 : b.length ≤ c1) (hn : a.length ≤ 4611686018427387904) :
    Calls Try.prog 18 #[.slice A0 a.length c0, .slice A1 b.length c1] w fun e w' => e = .returned (.bool (decide (a = b))) ∧ Drawn0 w w' := by
  obtain ⟨k, h⟩ := (same_ev a b hn).rounds
  exact hanaperref01_Same.calls k A0 c0 a A1 c1 b _ w h0 hc0 h1 hc1 h
theorem same_n (A0 : Option Addr) (c0 n0 : Nat) (a : List Int) (A1 : Option Addr) (c1 n1 : Nat) (b : List Int) (w : World) (h0 : Rb w A0 a) (e0 : a.length = n0) (hc0 : n0 ≤ c0) (h1 : Rb w A1 b) (e1 : b.length = n1) (hc1 : n1 ≤ c1) (hn : n0 ≤ 4611686018427387904) :
    Calls Try.prog 18 #[.slice A0 n0 c0, .slice A1 n1 c1] w fun e w' => e = .returned (.bool (decide (a = b))) ∧ Drawn0 w w' := by
  subst e0; subst e1
  exact same_c A0 c0 a A1 c1 b w h0 hc0 h1 hc1 hn
theorem same_t (A0 : Option Addr) (c0 n0 : Nat) (a : List Int) (A1 : Option Addr) (c1 n1 : Nat) (b : List Int) (w : World) (h0 : Rb w A0 a) (e0 : a.length = n0) (hc0 : n0 ≤ c0) (h1 : Rb w A1 b) (e1 : b.length = n1) (hc1 : n1 ≤ c1) (hn : n0 ≤ 4611686018427387904) (he : a = b) :
    Calls Try.prog 18 #[.slice A0 n0 c0, .slice A1 n1 c1] w fun e w' => e = .returned (.bool true) ∧ Drawn0 w w' := by
  refine (same_n A0 c0 n0 a A1 c1 n1 b w h0 e0 hc0 h1 e1 hc1 hn).mono ?_
  rintro e w' ⟨rfl, h⟩
  exact ⟨by rw [decide_eq_true he], h⟩
end Go.Proofs.Ytobljmgoengofaa.Same0
