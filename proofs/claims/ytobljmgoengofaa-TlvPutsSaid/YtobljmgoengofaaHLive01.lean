import Derived.Test.YtobljmgoengofaaTlvLive
/- The example of layer 1, in the printed functions' form. -/
namespace Go.Proofs.Ytobljmgoengofaa.PZ
open Go.RowKit
def hanaperlaw01_live.f : Option (Bool) := some true
theorem hanaperlaw01_live.calls (r : Bool) (w : World) (h : hanaperlaw01_live.f = some r) :
    Calls Try.prog 35 #[] w fun e w' => e = .returned (.bool r) ∧ Below w.heap.size w w' := by
  obtain rfl : true = r := Option.some.inj h
  exact TlvLive.live_c w
end Go.Proofs.Ytobljmgoengofaa.PZ
