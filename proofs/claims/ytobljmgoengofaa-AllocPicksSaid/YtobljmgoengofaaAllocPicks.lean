import Derived.Test.YtobljmgoengofaaAllocEv
import Derived.Test.YtobljmgoengofaaAllocLive
import Derived.Test.YtobljmgoengofaaPZxFhanaperlaw11AllocPicks
import Derived.Test.YtobljmgoengofaaPZxFallocPick
import Derived.Test.YtobljmgoengofaaPZxFhanaperref11Pick
import Derived.Test.YtobljmgoengofaaPZxFallocCount
import Derived.Test.YtobljmgoengofaaPZxFhanaperref11Count
import Derived.Test.YtobljmgoengofaaPZxFhanaperref01SameInts
/- AllocPicks: the law's own function is true at every list and number. -/
namespace Go.Proofs.Ytobljmgoengofaa.AllocPicks
open Go.Proofs.Ytobljmgoengofaa.TlvPlain Go.RowKit Go.Proofs.YtobljmgoengofaaW.PrintWords Go.Proofs.YtobljmgoengofaaW.PrintLast Go.Proofs.YtobljmgoengofaaW.PrintMore Go.Proofs.Ytobljmgoengofaa.Aid Go.Proofs.Ytobljmgoengofaa.AllocPlain Go.Proofs.Ytobljmgoengofaa.AllocEv Go.Proofs.Ytobljmgoengofaa.AllocLive Go.Proofs.Ytobljmgoengofaa.PZ

/-- The places that are free, from i on. -/
def freeFrom (u : List Bool) (i : Nat) : List Int := (((List.range u.length).drop i).filter (fun j => !u.getD j false)).map (fun (j : Nat) => (j : Int))
theorem freeFrom_end (u : List Bool) (i : Nat) (h : u.length ≤ i) : freeFrom u i = [] := by
  unfold freeFrom; rw [List.drop_of_length_le (by simpa using h)]; rfl
theorem freeFrom_step (u : List Bool) (i : Nat) (h : i < u.length) : freeFrom u i = if u.getD i false = true then freeFrom u (i + 1) else (i : Int) :: freeFrom u (i + 1) := by
  unfold freeFrom
  rw [drop_cons (List.range u.length) i (by simpa using h), List.filter_cons]
  simp only [List.getElem_range]
  cases u.getD i false <;> simp
theorem freeFrom_len (u : List Bool) (i : Nat) : (freeFrom u i).length ≤ u.length - i := by
  unfold freeFrom
  rw [List.length_map]
  refine Nat.le_trans (List.length_filter_le _ _) ?_
  simp
/-- The first n that are free, if there are so many. -/
def pickS (u : List Bool) (n : Int) : List Int × Bool := if 0 ≤ n ∧ n ≤ (freeFrom u 0).length then ((freeFrom u 0).take n.toNat, true) else ([], false)
theorem rdb (u : List Bool) (i : Nat) : rdOf false u (i : Int) = u.getD i false := by unfold rdOf; rw [Int.toNat_natCast]

theorem pick_loop (u : List Bool) (n : Int) (hl : u.length ≤ 3000) : ∀ (d i : Nat) (p : List Int), i + d = u.length → p ++ freeFrom u i = freeFrom u 0 → p.length ≤ i → (n < 0 → p = []) → (0 ≤ n → (p.length : Int) ≤ n) →
    Ev (fun k => alloc_Pick.l0 k n p u (u.length : Int) (i : Int)) (pickS u n) := by
  intro d
  induction d with
  | zero =>
    intro i p hi hp hpl hn hnn
    refine Ev.step (fun k => by simp only [alloc_Pick.l0]; rfl) ?_
    rw [freeFrom_end u i (by omega), List.append_nil] at hp
    refine neg (by omega) ?_
    unfold pickS
    rw [← hp]
    by_cases e : (p.length : Int) = n
    · refine pos e (now ?_)
      rw [if_pos (by omega), List.take_of_length_le (by omega)]
    · refine neg e (now ?_)
      rw [if_neg (by
        rintro ⟨h1, h2⟩
        have := hnn h1
        omega)]
  | succ d ih =>
    intro i p hi hp hpl hn hnn
    refine Ev.step (fun k => by simp only [alloc_Pick.l0]; rfl) ?_
    refine pos (by omega) (pos (by omega) (pos (by omega) ?_))
    by_cases hge : (p.length : Int) ≥ n
    · refine pos hge ?_
      unfold pickS
      rw [← hp]
      by_cases e : (p.length : Int) = n
      · refine pos e (now ?_)
        rw [if_pos (by rw [List.length_append]; omega), List.take_append_of_le_length (by omega), List.take_of_length_le (by omega)]
      · refine neg e (now ?_)
        rw [if_neg (by
          rintro ⟨h1, _⟩
          have := hnn h1
          omega)]
    · refine neg hge ?_
      rw [rdb, w64 (x := (i : Int) + 1) (by omega) (by omega)]
      rw [freeFrom_step u i (by omega)] at hp
      by_cases hb : u.getD i false = true
      · refine pos hb ?_
        rw [if_pos hb] at hp
        exact ih (i + 1) p (by omega) hp (by omega) hn hnn
      · refine neg hb (pos (by omega) ?_)
        rw [if_neg hb] at hp
        refine ih (i + 1) (p ++ [(i : Int)]) (by omega) (by rw [← hp]; simp) (by simp; omega) (fun h => by omega) (fun h => by simp; omega)
theorem pick_ev (u : List Bool) (n : Int) (hl : u.length ≤ 3000) : Ev (fun k => alloc_Pick.f k u n) (pickS u n) :=
  pick_loop u n hl u.length 0 [] (by omega) rfl (by simp) (fun _ => rfl) (fun h => by simpa using h)

theorem rpick_end (u : List Bool) (n : Int) (p : List Int) (i : Nat) (hp : p ++ freeFrom u i = freeFrom u 0) (_ : n < 0 → p = []) (hnn : 0 ≤ n → (p.length : Int) ≤ n) (hend : freeFrom u i = [] ∨ n ≤ p.length) :
    Ev (fun _ => if n < 0 then (some (([] : List Int), false)) else (if (p.length : Int) < n then (some (([] : List Int), false)) else (some (p, true)))) (pickS u n) := by
  unfold pickS
  by_cases h0 : n < 0
  · refine pos h0 (now ?_)
    rw [if_neg (by omega)]
  · refine neg h0 ?_
    have h1 := hnn (by omega)
    by_cases h2 : (p.length : Int) < n
    · refine pos h2 (now ?_)
      rcases hend with h | h
      · rw [h, List.append_nil] at hp
        rw [← hp, if_neg (by omega)]
      · omega
    · refine neg h2 (now ?_)
      have e : (p.length : Int) = n := by omega
      rw [← hp, if_pos (by rw [List.length_append]; omega), List.take_append_of_le_length (by omega), List.take_of_length_le (by omega)]
theorem rpick_loop (u : List Bool) (n : Int) (hl : u.length ≤ 3000) : ∀ (d i : Nat) (p : List Int), i + d = u.length → p ++ freeFrom u i = freeFrom u 0 → p.length ≤ i → (n < 0 → p = []) → (0 ≤ n → (p.length : Int) ≤ n) →
    Ev (fun k => hanaperref11_Pick.l0 k u n p (i : Int)) (pickS u n) := by
  intro d
  induction d with
  | zero =>
    intro i p hi hp hpl hn hnn
    refine Ev.step (fun k => by simp only [hanaperref11_Pick.l0]; rfl) ?_
    refine neg (by omega) ?_
    refine Ev.step (fun k => by simp only [hanaperref11_Pick.j1]; rfl) ?_
    refine neg (by simp) ?_
    exact rpick_end u n p i hp hn hnn (.inl (freeFrom_end u i (by omega)))
  | succ d ih =>
    intro i p hi hp hpl hn hnn
    refine Ev.step (fun k => by simp only [hanaperref11_Pick.l0]; rfl) ?_
    refine pos (by omega) ?_
    refine Ev.step (fun k => by simp only [hanaperref11_Pick.j1]; rfl) ?_
    by_cases hlt : (p.length : Int) < n
    · rw [decide_eq_true hlt]
      refine pos (by simp) (pos (by omega) (pos (by omega) ?_))
      rw [rdb, w64 (x := (i : Int) + 1) (by omega) (by omega)]
      rw [freeFrom_step u i (by omega)] at hp
      by_cases hb : u.getD i false = true
      · refine pos hb ?_
        rw [if_pos hb] at hp
        exact ih (i + 1) p (by omega) hp (by omega) hn hnn
      · refine neg hb (pos (by omega) ?_)
        rw [if_neg hb] at hp
        refine ih (i + 1) (p ++ [(i : Int)]) (by omega) (by rw [← hp]; simp) (by simp; omega) (fun h => by omega) (fun h => by simp; omega)
    · rw [decide_eq_false hlt]
      refine neg (by simp) ?_
      exact rpick_end u n p i hp hn hnn (.inr (by omega))
theorem rpick_ev (u : List Bool) (n : Int) (hl : u.length ≤ 3000) : Ev (fun k => hanaperref11_Pick.f k u n) (pickS u n) :=
  rpick_loop u n hl u.length 0 [] (by omega) rfl (by simp) (fun _ => rfl) (fun h => by simpa using h)
theorem pickS_len (u : List Bool) (n : Int) : (pickS u n).1.length ≤ u.length := by
  unfold pickS
  have := freeFrom_len u 0
  split
  · dsimp only
    rw [List.length_take]; omega
  · simp

def countS (u : List Bool) : Int := (u.filter id).length
theorem count_take (u : List Bool) (i : Nat) (h : i < u.length) : countS (u.take (i + 1)) = countS (u.take i) + (if u.getD i false = true then 1 else 0) := by
  rw [take_snoc u i h]
  have : u.getD i false = u[i] := by simp [List.getD_eq_getElem?_getD, List.getElem?_eq_getElem h]
  rw [this]
  unfold countS
  rw [List.filter_append]
  cases u[i] <;> simp
theorem count_bd (u : List Bool) : 0 ≤ countS u ∧ countS u ≤ u.length := by
  unfold countS
  have := List.length_filter_le id u
  omega
theorem count_loop (u : List Bool) (hl : u.length ≤ 3000) : ∀ (d i : Nat), i + d = u.length → Ev (fun k => alloc_Count.l0 k (countS (u.take i)) u (u.length : Int) (i : Int)) (countS u) := by
  intro d
  induction d with
  | zero =>
    intro i hi
    refine Ev.step (fun k => by simp only [alloc_Count.l0]; rfl) ?_
    refine neg (by omega) (now ?_)
    rw [List.take_of_length_le (by omega)]
  | succ d ih =>
    intro i hi
    have hs := count_take u i (by omega)
    have hb := count_bd (u.take i)
    rw [List.length_take] at hb
    refine Ev.step (fun k => by simp only [alloc_Count.l0]; rfl) ?_
    refine pos (by omega) (pos (by omega) (pos (by omega) ?_))
    rw [rdb, inc (show i < u.length by omega) (by omega), w64 (x := countS (u.take i) + 1) (by omega) (by omega)]
    by_cases h : u.getD i false = true
    · refine pos h ?_
      rw [if_pos h] at hs
      rw [← hs]
      exact ih (i + 1) (by omega)
    · refine neg h ?_
      rw [if_neg h, Int.add_zero] at hs
      rw [← hs]
      exact ih (i + 1) (by omega)
theorem rcount_loop (u : List Bool) (hl : u.length ≤ 3000) : ∀ (d i : Nat), i + d = u.length → Ev (fun k => hanaperref11_Count.l0 k u (countS (u.take i)) (i : Int)) (countS u) := by
  intro d
  induction d with
  | zero =>
    intro i hi
    refine Ev.step (fun k => by simp only [hanaperref11_Count.l0]; rfl) ?_
    refine neg (by omega) (now ?_)
    rw [List.take_of_length_le (by omega)]
  | succ d ih =>
    intro i hi
    have hs := count_take u i (by omega)
    have hb := count_bd (u.take i)
    rw [List.length_take] at hb
    refine Ev.step (fun k => by simp only [hanaperref11_Count.l0]; rfl) ?_
    refine pos (by omega) (pos (by omega) ?_)
    rw [rdb, inc (show i < u.length by omega) (by omega), w64 (x := countS (u.take i) + 1) (by omega) (by omega)]
    by_cases h : u.getD i false = true
    · refine pos h ?_
      rw [if_pos h] at hs
      rw [← hs]
      exact ih (i + 1) (by omega)
    · refine neg h ?_
      rw [if_neg h, Int.add_zero] at hs
      rw [← hs]
      exact ih (i + 1) (by omega)
theorem count_ev (u : List Bool) (hl : u.length ≤ 3000) : Ev (fun k => alloc_Count.f k u) (countS u) := count_loop u hl u.length 0 (by omega)
theorem rcount_ev (u : List Bool) (hl : u.length ≤ 3000) : Ev (fun k => hanaperref11_Count.f k u) (countS u) := rcount_loop u hl u.length 0 (by omega)

theorem law_ev (u : List Bool) (n : Int) : Ev (fun k => hanaperlaw11_AllocPicks.f k u n) true := by
  unfold hanaperlaw11_AllocPicks.f
  by_cases h : (u.length : Int) > 3000
  · exact pos h (evBind live_ev (now rfl))
  · refine neg h ?_
    refine evBind (pick_ev u n (by omega)) (evBind (rpick_ev u n (by omega)) ?_)
    refine evBind (sameInts_ev _ _ (by have := pickS_len u n; omega)) (pos (by simp) (pos (by simp) ?_))
    exact evBind (count_ev u (by omega)) (evBind (rcount_ev u (by omega)) (pos rfl (evBind live_ev (now rfl))))
theorem walk (W : World) (A : Option Addr) (c : Nat) (u : List Bool) (hr : Kd.C Kd.bool W A u.length u) (hc : u.length ≤ c) (_ : ∀ x ∈ u, True) (n : Int) (_ : (Lit.int .i64 n).wf = true) :
    Calls Try.prog 4 #[.slice A u.length c, .int .i64 n] W fun e W' => e = .returned (.bool true) ∧ Below W.heap.size W W' := by
  obtain ⟨k, h⟩ := (law_ev u n).rounds
  exact hanaperlaw11_AllocPicks.calls k A c u n true W hr hc h
end Go.Proofs.Ytobljmgoengofaa.AllocPicks
