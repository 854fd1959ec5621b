/- Own and printed texts, laid together. -/
import Derived.Test.YtobljmgoengofaaPlGJ
import Derived.Test.YtobljmgoengofaaPlGK
/- The law PlanGrows. -/
namespace Go.Proofs.Ytobljmgoengofaa.Plan
set_option linter.unusedVariables false
set_option linter.unusedSimpArgs false
open Go.RowKit Go.Proofs.YtobljmgoengofaaW.PrintWords Go.Proofs.YtobljmgoengofaaW.PrintMore Go.Proofs.Ytobljmgoengofaa.PZ Go.Proofs.Ytobljmgoengofaa.Aid Go.Proofs.Ytobljmgoengofaa.Lo Go.Proofs.Ytobljmgoengofaa.Scope
theorem eta_cmd (x : SC) : (⟨x.f0, x.f1, x.f2, x.f3, x.f4, x.f5, x.f6, x.f7, x.f8, ⟨x.f9.f0, x.f9.f1, x.f9.f2, x.f9.f3, x.f9.f4⟩⟩ : SC) = x := by
  rcases x with ⟨_, _, _, _, _, _, _, _, _, ⟨_, _, _, _, _⟩⟩
  rfl
theorem grows_ev (a b c d : Int) (l : List SC) (x : SC) : Ev (fun k => hanaperlaw34_PlanGrows.f k a b c d l x.f0 x.f1 x.f2 x.f3 x.f4 x.f5 x.f6 x.f7 x.f8 x.f9.f0 x.f9.f1 x.f9.f2 x.f9.f3 x.f9.f4) true := by
  have live : hanaperlaw34_live.f = some true := rfl
  have stop : Ev (fun k => hanaperlaw34_PlanGrows.j0 k l true a b c d x.f0 x.f1 x.f2 x.f3 x.f4 x.f5 x.f6 x.f7 x.f8 x.f9.f0 x.f9.f1 x.f9.f2 x.f9.f3 x.f9.f4) true := Ev.step (fun k => by simp only [hanaperlaw34_PlanGrows.j0]; rfl) (pos (show true = true from rfl) (bindSome live (now rfl)))
  unfold hanaperlaw34_PlanGrows.f
  obtain ⟨q, hq, hs⟩ := light_ev l
  refine evBind hq ?_
  cases q with
  | false => exact neg (by decide) stop
  | true =>
    obtain ⟨q2, hq2, hs2⟩ := light1_ev x
    refine pos rfl (evBind hq2 ?_)
    cases q2 with
    | false => exact stop
    | true =>
      obtain ⟨h1, h2⟩ := hs rfl
      have h3 := hs2 rfl
      have hall : ∀ y ∈ l ++ [x], lightC y := fun y hy => by
        rcases List.mem_append.1 hy with hy | hy
        · exact h2 y hy
        · rw [List.mem_singleton.1 hy]; exact h3
      have hlen : (l ++ [x]).length ≤ 1000 := by simp; omega
      obtain ⟨⟨g1, g2⟩, g3, g4⟩ := grow_le h2 h3
      refine Ev.step (fun k => by simp only [hanaperlaw34_PlanGrows.j0]; rfl) (neg (by decide) ?_)
      refine bindSome (a := []) rfl (pos (by simp; omega) (bindSome (a := l) rfl (bindSome (a := [x]) (congrArg (fun y => some [y]) (eta_cmd x)) (pos (by simp; omega) (bindSome (a := l ++ [x]) rfl ?_)))))
      refine evBind (need_ev l (by omega) h2) (evBind (need_ev (l ++ [x]) hlen hall) (pos g1 (pos g2 (pos g3 (pos g4 (evBind (fits_ev a b c d l (by omega) h2) ?_))))))
      cases hf : fitsV a b c d (finN (sumN l)) with
      | true => exact pos rfl (bindSome live (now rfl))
      | false =>
        refine neg (by decide) (evBind (fits_ev a b c d (l ++ [x]) hlen hall) (neg ?_ (bindSome live (now rfl))))
        intro h
        have := fits_le ⟨⟨g1, g2⟩, g3, g4⟩ h
        rw [hf] at this
        cases this
theorem k_scope_heap : Kd.Heap k75 := Kd.heap_fix (fun _ h_ => Kd.heap_iso _ (Kd.heap_pair (Kd.heap_int .i64) (Kd.heap_pair Kd.heap_string (Kd.heap_pair (Kd.heap_int .i64) (Kd.heap_pair (Kd.heap_int .i64) (Kd.heap_slice 75 h_))))))
theorem k_cmd_heap : Kd.Heap k77 := Kd.heap_iso _ (Kd.heap_pair (Kd.heap_int .i64) (Kd.heap_pair Kd.heap_string (Kd.heap_pair Kd.heap_string (Kd.heap_pair Kd.heap_string (Kd.heap_pair Kd.heap_string (Kd.heap_pair (Kd.heap_int .i64) (Kd.heap_pair (Kd.heap_slice 5 (Kd.heap_int .u8)) (Kd.heap_pair (Kd.heap_int .u64) (Kd.heap_pair (Kd.heap_int .u64) k_scope_heap)))))))))
abbrev DCfgG := Kd.pair (Kd.int .i64) (Kd.pair (Kd.int .i64) (Kd.pair (Kd.int .i64) (Kd.int .i64)))
theorem growsWalk (w : World) (r : Int × Int × Int × Int) (cr : Array Value) (hR : DCfgG.K w r cr.toList) (_ : (Lit.int .i64 r.1).wf = true ∧ (Lit.int .i64 r.2.1).wf = true ∧ (Lit.int .i64 r.2.2.1).wf = true ∧ (Lit.int .i64 r.2.2.2).wf = true)
    (A : Option Addr) (c : Nat) (l : List SC) (hr : Kd.C k77 w A l.length l) (hc : l.length ≤ c) (_ : True) (x : SC) (cx : Array Value) (hX : k77.K w x cx.toList) (_ : True) :
    Calls Try.prog 13 #[.agg cr, .slice A l.length c, .agg cx] w fun e w' => e = .returned (.bool true) ∧ Below w.heap.size w w' := by
  obtain ⟨q0, q1, q2, q3⟩ := r
  obtain ⟨_, _, f0, rfl, _, _, f1, rfl, _, _, f2, rfl, rfl⟩ := hR
  subst f2 f1
  have e2 : cr = #[.int .i64 q0, .int .i64 q1, .int .i64 q2, .int .i64 q3] := Array.toList_inj.1 f0
  subst e2
  obtain ⟨A6, c6, A13, c13, f0, h6, r6, h13, r13⟩ := k77_open hX
  have e2 : cx = #[.int .i64 x.f0, .string x.f1, .string x.f2, .string x.f3, .string x.f4, .int .i64 x.f5, .slice A6 x.f6.length c6, .int .u64 x.f7, .int .u64 x.f8, .int .i64 x.f9.f0, .string x.f9.f1, .int .i64 x.f9.f2, .int .i64 x.f9.f3, .slice A13 x.f9.f4.length c13] := Array.toList_inj.1 f0
  subst e2
  obtain ⟨k, h⟩ := (grows_ev q0 q1 q2 q3 l x).rounds
  exact hanaperlaw34_PlanGrows.calls k q0 q1 q2 q3 (fun k => k < w.heap.size) A c l x.f0 x.f1 x.f2 x.f3 x.f4 x.f5 (fun k => k < w.heap.size) A6 c6 x.f6 x.f7 x.f8 x.f9.f0 x.f9.f1 x.f9.f2 x.f9.f3 (fun k => k < w.heap.size) A13 c13 x.f9.f4 true w
    (Kd.V_mk hc (Kd.C_F k_cmd_heap hr)) (Kd.V_mk h6 (Kd.C_F (Kd.heap_int .u8) r6)) (Kd.V_mk h13 (Kd.C_F k_scope_heap r13)) ⟨rfl⟩ h
end Go.Proofs.Ytobljmgoengofaa.Plan
