/- Own and printed texts, laid together. -/
import Derived.Test.YtgdpabedlghiaaaInGE
import Derived.Test.YtgdpabedlghiaaaInGF
/- The law InodeGets. -/
namespace Go.Proofs.Ytgdpabedlghiaaa.InodeLaw
set_option linter.unusedVariables false
set_option linter.unusedSimpArgs false
open Go.RowKit Go.Proofs.Ytgdpabedlghiaaa.Aid Go.Proofs.Ytgdpabedlghiaaa.Base Go.Proofs.Ytgdpabedlghiaaa.TlvPlain Go.Proofs.Ytgdpabedlghiaaa.Lo Go.Proofs.Ytgdpabedlghiaaa.RdPlain Go.Proofs.Ytgdpabedlghiaaa.AllocEv Go.Proofs.Ytgdpabedlghiaaa.AllocPlain Go.Proofs.Ytgdpabedlghiaaa.InodeEv Go.Proofs.Ytgdpabedlghiaaa.InodePut Go.Proofs.Ytgdpabedlghiaaa.InodeLive Go.Proofs.Ytgdpabedlghiaaa.InodeBk Go.Proofs.Ytgdpabedlghiaaa.InodeSame Go.Proofs.Ytgdpabedlghiaaa.PZ Go.Proofs.YtgdpabedlghiaaaW.PrintWords Go.Proofs.YtgdpabedlghiaaaW.PrintLast Go.Proofs.YtgdpabedlghiaaaW.PrintMore
theorem gets_ev (b : List Int) (n : Int) (nm : ByteArray) (size : Int) (at_ : List Int) (hu : U8 b) : Ev (fun k => hanaperlaw12_InodeGets.f k b n nm size at_) true := by
  have bad : Ev (fun k => hanaperlaw12_InodeGets.j0 k b n true nm size at_) true := Ev.step (fun k => by simp only [hanaperlaw12_InodeGets.j0]; rfl) (pos (show true = true from rfl) (now rfl))
  unfold hanaperlaw12_InodeGets.f
  by_cases c : (b.length : Int) > 400
  · exact pos c bad
  refine neg c ?_
  obtain ⟨h, hh, hs⟩ := huge_v nm size at_ n
  refine bindSome hh ?_
  cases h with
  | true => exact bad
  | false =>
    obtain ⟨h1, h2⟩ := hs rfl
    have hg := get_len b n
    refine Ev.step (fun k => by simp only [hanaperlaw12_InodeGets.j0]; rfl) (neg (by decide) (bindSome (get_v n hu (by omega)) (bindSome (rget_v n hu (by omega)) ?_)))
    dsimp only
    refine evBind (rsame_ev _ _ _ _ _ _ (by omega)) ?_
    rw [same_refl]
    refine pos rfl (bindSome rfl (pos rfl (evBind (isame_ev nm size at_ _ _ _ (by omega)) (evBind (rsame_ev nm size at_ _ _ _ (by omega)) (pos (by simp) (evBind (isame_ev nm size at_ _ _ _ (by omega)) ?_))))))
    rw [same_refl]
    exact pos rfl (now rfl)
theorem getsWalk (w : World) (A : Option Addr) (c : Nat) (b : List Int) (hr : Rb w A b) (hc : b.length ≤ c) (hb : ∀ x ∈ b, (Lit.int .u8 x).wf = true) (n : Int) (_ : (Lit.int .i64 n).wf = true) (x : ByteArray × Int × List Int) (cs : Array Value) (hK : D.K w x cs.toList) (_ : x.1.size ≤ maxLen ∧ (Lit.int .i64 x.2.1).wf = true ∧ ∀ y ∈ x.2.2, (Lit.int .i64 y).wf = true) :
    Calls Try.prog 9 #[.slice A b.length c, .int .i64 n, .agg cs] w fun e w' => e = .returned (.bool true) ∧ Below w.heap.size w w' := by
  obtain ⟨A2, c2, rfl, h2, h3⟩ := open_D hK
  obtain ⟨k, h⟩ := (gets_ev b n x.1 x.2.1 x.2.2 (u8_wf hb)).rounds
  exact hanaperlaw12_InodeGets.calls k A c b n x.1 x.2.1 A2 c2 x.2.2 true w hr hc h3 h2 h
end Go.Proofs.Ytgdpabedlghiaaa.InodeLaw
