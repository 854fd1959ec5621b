/- AllocBits: for every list of numbers, every bytes and every n the program's Bits and List answer what the document's do; without any condition of mine. -/
import Derived.Test.YtobljmgoengofaaAllocEv
namespace Go.Proofs.Ytobljmgoengofaa.Pure
open Go.RowKit Go.Proofs.Ytobljmgoengofaa.PAll Go.Proofs.YtobljmgoengofaaW.PrintWords Go.Proofs.YtobljmgoengofaaW.PrintLast Go.Proofs.Ytobljmgoengofaa.Aid Go.Proofs.Ytobljmgoengofaa.AllocEv

theorem AllocBits : hanaperlaw11_AllocBits.Pure := by
  intro at_ b n _ h0 _ _ h1 hb _
  have hb' : U8 b := by
    intro x hx
    have := hb x hx
    simp only [Lit.wf, IntKind.min, IntKind.max, IntKind.signed, IntKind.bits, Bool.and_eq_true] at this
    simp at this
    omega
  have stop : Ev (fun k => hanaperlaw11_AllocBits.j0 k at_ b n true) true := by
    refine Ev.step (fun k => by simp only [hanaperlaw11_AllocBits.j0]; rfl) ?_
    exact pos (by simp) (evBind live_ev (now rfl))
  have go (ha : at_.length ≤ 300) (hl : b.length ≤ 600) : Ev (fun k => hanaperlaw11_AllocBits.j0 k at_ b n false) true := by
    refine Ev.step (fun k => by simp only [hanaperlaw11_AllocBits.j0]; rfl) ?_
    refine neg (by simp) ?_
    refine evBind (bits_ev at_ n (by omega)) (evBind (bits_doc_ev at_ n (by omega)) (evBind (list_ev b n hb' (by omega)) (evBind (list_doc_ev b n hb' (by omega)) ?_)))
    refine evBind (same_ev _ _ (by have := bitsSpec_len at_ n; omega)) (pos (by simp) (pos (by simp) ?_))
    refine evBind (sameInts_ev _ _ (by have := listSpec_len b n; omega)) (pos (by simp) (pos (by simp) ?_))
    exact evBind live_ev (now rfl)
  refine Ev.rounds (g := fun k => hanaperlaw11_AllocBits.f k at_ b n) ?_
  unfold hanaperlaw11_AllocBits.f
  by_cases c1 : (at_.length : Int) > 300
  · exact pos c1 stop
  refine neg c1 ?_
  by_cases c2 : (b.length : Int) > 600
  · exact pos c2 stop
  refine neg c2 ?_
  by_cases c3 : n > 600
  · refine pos c3 ?_
    by_cases c4 : n ≤ 4096
    · rw [decide_eq_true c4]; exact stop
    · rw [decide_eq_false c4]; exact go (by omega) (by omega)
  · exact neg c3 (go (by omega) (by omega))

end Go.Proofs.Ytobljmgoengofaa.Pure
