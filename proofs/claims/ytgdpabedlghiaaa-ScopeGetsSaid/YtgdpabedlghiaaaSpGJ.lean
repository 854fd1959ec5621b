/- Own and printed texts, laid together. -/
import Derived.Test.YtgdpabedlghiaaaSpGH
import Derived.Test.YtgdpabedlghiaaaSpGI
/- The law ScopeGets. -/
namespace Go.Proofs.Ytgdpabedlghiaaa.Scope
set_option linter.unusedVariables false
set_option linter.unusedSimpArgs false
open Go.RowKit Go.Proofs.YtgdpabedlghiaaaW.PrintWords Go.Proofs.Ytgdpabedlghiaaa.PZ Go.Proofs.Ytgdpabedlghiaaa.Aid Go.Proofs.Ytgdpabedlghiaaa.TlvPlain Go.Proofs.Ytgdpabedlghiaaa.Lo Go.Proofs.Ytgdpabedlghiaaa.RdPlain
theorem gets_ev (b : List Int) (hu : U8 b) (x : S40) : Ev (fun k => hanaperlaw20_ScopeGets.f k b x.f0 x.f1 x.f2 x.f3 x.f4) true := by
 unfold hanaperlaw20_ScopeGets.f
 have out : Ev (fun k => hanaperlaw20_ScopeGets.j0 k b true x.f0 x.f1 x.f2 x.f3 x.f4) true := Ev.step (fun k => by simp only [hanaperlaw20_ScopeGets.j0]; rfl) (pos (show true = true from rfl) (evBind live_ev (now rfl)))
 by_cases c : (b.length : Int) > 600
 ·exact pos c out
 ·refine neg c ?_
  have hl : b.length ≤ 1000000 := by omega
  obtain ⟨v, hv, hs⟩ := Small_ev x
  refine evBind hv ?_
  cases v with
  | false => exact out
  | true =>
   obtain ⟨_, hn⟩ := hs rfl
   have e1 := rsame_ev _ (getSc b).1 (getSc b).1 (Nat.lt_succ_self _) (get_nodes hu hl)
   rw [eqS_refl] at e1
   have e2 := rsame_ev _ x (getSc b).1 (Nat.lt_succ_self _) (by omega)
   have e3 := samef x x
   rw [eqS_refl] at e3
   have e4 : Ev (fun k => (hanaperlaw20_live.f k).bind fun t => some t) true := evBind live_ev (now rfl)
   refine Ev.step (fun k => by simp only [hanaperlaw20_ScopeGets.j0]; rfl) (neg Bool.false_ne_true (bindSome (getf hu hl) (bindSome (rgetf hu hl) (evBind e1 (pos rfl (bindSome (num_v _) (pos rfl (bindSome (samef x _) (evBind e2 ?_)))))))))
   exact pos (show (eqS x (getSc b).1 == eqS x (getSc b).1) = true from by simp) (bindSome e3 (pos rfl e4))
theorem getsWalk (w : World) (A : Option Addr) (c : Nat) (b : List Int) (hr : Kd.C (Kd.int .u8) w A b.length b) (hc : b.length ≤ c) (hu : ∀ y ∈ b, (Lit.int .u8 y).wf = true) (x : S40) (cs : Array Value) (hK : k40.K w x cs.toList) (_ : True) :
  Calls Try.prog 12 #[.slice A b.length c, .agg cs] w fun e w' => e = .returned (.bool true) ∧ Below w.heap.size w w' := by
 obtain ⟨B, d, e0, hd, hs⟩ := k40_open hK
 have e : cs = #[.int .i64 x.f0, .string x.f1, .int .i64 x.f2, .int .i64 x.f3, .slice B x.f4.length d] := Array.toList_inj.1 e0
 subst e
 obtain ⟨k, h⟩ := (gets_ev b (u8_wf hu) x).rounds
 exact hanaperlaw20_ScopeGets.calls k A c b x.f0 x.f1 x.f2 x.f3 B d x.f4 true w hr hc hs hd h
end Go.Proofs.Ytgdpabedlghiaaa.Scope
