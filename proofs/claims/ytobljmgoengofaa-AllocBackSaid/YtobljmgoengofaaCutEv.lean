import Derived.Test.YtobljmgoengofaaCut
import Derived.Test.YtobljmgoengofaaSame0
import Derived.Test.YtobljmgoengofaaPZxFhanaperref11Cut
import Derived.Test.YtobljmgoengofaaPZxFhanaperref01SameAll
import Derived.Test.YtobljmgoengofaaPZxFhanaperref11Pages
import Derived.Test.YtobljmgoengofaaPZxFallocPages
/- AllocCuts: what the document's Cut computes. -/
namespace Go.Proofs.Ytobljmgoengofaa.CutEv
open Go.RowKit Go.Proofs.Ytobljmgoengofaa.Base Go.Proofs.Ytobljmgoengofaa.Chunk Go.Proofs.Ytobljmgoengofaa.Cut Go.Proofs.Ytobljmgoengofaa.Aid Go.Proofs.Ytobljmgoengofaa.PZ Go.Proofs.YtobljmgoengofaaW.PrintWords Go.Proofs.YtobljmgoengofaaW.PrintLast Go.Proofs.YtobljmgoengofaaW.PrintMore

theorem pages_f (n : Nat) (h : n < 140737488355328) : hanaperref11_Pages.f (n : Int) = some ((nch n : Nat) : Int) := by
  unfold hanaperref11_Pages.f nch
  by_cases h1 : (n : Int) < 1
  · rw [if_pos h1]; congr 1; omega
  · rw [if_neg h1, w64 (x := (n : Int) - 1) (by omega) (by omega), Int.tdiv_eq_ediv_of_nonneg (by omega), w64 (x := ((n : Int) - 1) / 256) (by omega) (by omega), w64 (by omega) (by omega)]
    congr 1
    omega
theorem sectors_len (b : List Int) : (sectors b).length = nch b.length := by simp [sectors]
theorem sectors_at (b : List Int) (i : Nat) (h : i < (sectors b).length) : (sectors b)[i] = sector b i := by simp [sectors]
/-- What the inner loop has when it has set j bytes. -/
def part (b : List Int) (i j : Nat) : List Int := (piece b i).take j ++ List.replicate (256 - j) 0
theorem part_len (b : List Int) (i j : Nat) (h : j ≤ plen b.length i) : (part b i j).length = 256 := by
  unfold part
  rw [List.length_append, List.length_take, List.length_replicate, piece_len]
  unfold plen at *
  omega
theorem part_zero (b : List Int) (i : Nat) : part b i 0 = List.replicate 256 0 := by unfold part; rw [List.take_zero, List.nil_append]
theorem part_all (b : List Int) (i : Nat) : part b i (plen b.length i) = sector b i := by
  unfold part sector
  rw [List.take_of_length_le (by rw [piece_len]; exact Nat.le_refl _)]
theorem part_set (b : List Int) (i j : Nat) (h : j < plen b.length i) : (part b i j).set j (rd b ((256 * i + j : Nat) : Int)) = part b i (j + 1) := by
  have hl : 256 * i + j < b.length := by unfold plen at h; omega
  have h6 : j < 256 := by unfold plen at h; omega
  have hp : j < (piece b i).length := by rw [piece_len]; exact h
  have e : rd b ((256 * i + j : Nat) : Int) = (piece b i)[j] := by
    rw [rd_nat b _ hl]
    simp [piece]
  unfold part
  rw [take_snoc _ j hp, e, List.set_append_right _ _ (by rw [List.length_take]; omega), List.length_take, show j - min j (piece b i).length = 0 by omega, show 256 - j = (256 - (j + 1)) + 1 by omega, List.replicate_succ, List.set_cons_zero, List.append_assoc]
  rfl
theorem inner_ev (b : List Int) (hb : b.length < 140737488355328) (i : Nat) (hi : i < nch b.length) (x3 r : List (List Int)) (h3 : x3.length < 5864062014805) (h : Ev (fun k => hanaperref11_Cut.l0 k b (x3 ++ [sector b i]) ((i + 1 : Nat) : Int)) r) :
    ∀ (d j : Nat), j + d = plen b.length i → Ev (fun k => hanaperref11_Cut.l1 k b x3 (i : Int) (part b i j) (j : Int)) r := by
  have hn : nch b.length ≤ 549755813888 := by unfold nch; omega
  intro d
  induction d with
  | zero =>
    intro j hj
    have hj2 : j = plen b.length i := by omega
    have hp : j ≤ 256 := by rw [hj2]; unfold plen; omega
    refine Ev.step (fun k => by simp only [hanaperref11_Cut.l1]; rfl) ?_
    have hlast : Ev (fun k => if x3.length < 5864062014805 then hanaperref11_Cut.l0 k b (x3 ++ [part b i j]) (wrap64 ((i : Int) + 1)) else none) r := by
      refine pos h3 ?_
      rw [hj2, part_all, w64 (by omega) (by omega)]
      exact h
    by_cases h2 : (j : Int) < 256
    · refine pos h2 (neg ?_ hlast)
      rw [w64 (x := (i : Int) * 256) (by omega) (by omega), w64 (by omega) (by omega)]
      have : plen b.length i < 256 := by omega
      unfold plen at this hj2
      omega
    · exact neg h2 hlast
  | succ d ih =>
    intro j hj
    have hl : 256 * i + j < b.length := by unfold plen at hj; omega
    have h6 : j < 256 := by unfold plen at hj; omega
    refine Ev.step (fun k => by simp only [hanaperref11_Cut.l1]; rfl) ?_
    have e : wrap64 (wrap64 ((i : Int) * 256) + (j : Int)) = ((256 * i + j : Nat) : Int) := by
      rw [w64 (x := (i : Int) * 256) (by omega) (by omega), w64 (by omega) (by omega)]
      omega
    rw [e, part_len b i j (by omega), Int.toNat_natCast, part_set b i j (by omega), inc h6 (by omega)]
    exact pos (by omega) (pos (by omega) (pos (by omega) (pos (by omega) (pos (by omega) (ih (j + 1) (by omega))))))
theorem cut_ev (b : List Int) (hb : b.length < 140737488355328) : Ev (fun k => hanaperref11_Cut.f k b) (sectors b) := by
  have hn : nch b.length ≤ 549755813888 := by unfold nch; omega
  have key : ∀ (d i : Nat), i + d = nch b.length → Ev (fun k => hanaperref11_Cut.l0 k b ((sectors b).take i) (i : Int)) (sectors b) := by
    intro d
    induction d with
    | zero =>
      intro i hi
      refine Ev.step (fun k => by simp only [hanaperref11_Cut.l0]; rfl) ?_
      refine bindSome (pages_f _ hb) (neg (by omega) (now ?_))
      rw [List.take_of_length_le (by rw [sectors_len]; omega)]
    | succ d ih =>
      intro i hi
      refine Ev.step (fun k => by simp only [hanaperref11_Cut.l0]; rfl) ?_
      refine bindSome (pages_f _ hb) (pos (by omega) (pos (by omega) ?_))
      have hil : i < (sectors b).length := by rw [sectors_len]; omega
      have e : (sectors b).take i ++ [sector b i] = (sectors b).take (i + 1) := by rw [take_snoc _ i hil, sectors_at]
      rw [← part_zero b i]
      exact inner_ev b hb i (by omega) _ _ (by rw [List.length_take]; omega) (by rw [e]; exact ih (i + 1) (by omega)) _ 0 (by rw [Nat.zero_add])
  exact key _ 0 (by rw [Nat.zero_add])
theorem sameAll_ev (l : List (List Int)) (hl : l.length ≤ 4611686018427387904) (hx : ∀ x ∈ l, x.length ≤ 4611686018427387904) : Ev (fun k => hanaperref01_SameAll.f k l l) true := by
  have key : ∀ (d i : Nat), i + d = l.length → Ev (fun k => hanaperref01_SameAll.l0 k l l (i : Int)) true := by
    intro d
    induction d with
    | zero =>
      intro i hi
      refine Ev.step (fun k => by simp only [hanaperref01_SameAll.l0]; rfl) ?_
      exact neg (by omega) (now rfl)
    | succ d ih =>
      intro i hi
      have hil : i < l.length := by omega
      refine Ev.step (fun k => by simp only [hanaperref01_SameAll.l0]; rfl) ?_
      have e : rd_L3 l (i : Int) = l[i] := by simp [rd_L3, List.getD_eq_getElem?_getD, List.getElem?_eq_getElem hil]
      rw [e, inc hil hl]
      exact pos (by omega) (pos (by omega) (pos (by omega) (evBind (Same0.same_ev _ _ (hx _ (List.getElem_mem hil))) (pos (by simp) (ih (i + 1) (by omega))))))
  unfold hanaperref01_SameAll.f
  exact pos rfl (key _ 0 (by rw [Nat.zero_add]))
theorem sector_len (b : List Int) (i : Nat) : (sector b i).length = 256 := by
  unfold sector
  rw [List.length_append, piece_len, List.length_replicate]
  unfold plen
  omega
end Go.Proofs.Ytobljmgoengofaa.CutEv
