import Derived.Test.YtobljmgoengofaaAid
import Derived.Test.YtobljmgoengofaaPZxFhanaperlaw11live
/- The example of layer 11. -/
namespace Go.Proofs.Ytobljmgoengofaa.AllocLive
open Go.RowKit Go.Proofs.YtobljmgoengofaaW.PrintWords Go.Proofs.YtobljmgoengofaaW.PrintLast Go.Proofs.YtobljmgoengofaaW.PrintMore Go.Proofs.Ytobljmgoengofaa.PZ
theorem live_ev : Ev (fun k => hanaperlaw11_live.f k) true := Ev.of hanaperlaw11_live.mono (k := 100) (by decide +kernel)
theorem live_c (w : World) : Calls Try.prog 20 #[] w fun e w' => e = .returned (.bool true) ∧ Below w.heap.size w w' := by
  obtain ⟨k, h⟩ := live_ev.rounds
  exact hanaperlaw11_live.calls k true w h
end Go.Proofs.Ytobljmgoengofaa.AllocLive
