/-
  NARROWER THAN 'FOR EVERY INPUT', by the rows' own cells (each row's printed sentence says how): PlanNeeds: loops · PlanGrows: loops.
  DERIVED. THE GIVEN ROWS OF THIS SEAT. 11 by the template 'for every input the law returns true; each argument reads behind the call as it read before'; 0 by the template 'total and deterministic' (their statements: YtobljmgoengofaaTotals.lean).
  GIVEN WITH THE SEED: the statements are not yours to turn. If you find one false, say at which input.
  Laid BY PROGRAM, IN A SANDBOX (cutbox-rows.mjs): the forced cells as the released guide's own fill.sh prints them over the translation 8096c6e0fe509e32… (all of the seat's roots in one cut). By AI agents, Wed Nov 11 2026. No macro, syntax, notation, axiom, sorry.
-/
import Derived.Test.YtobljmgoengofaaChecked
import GoSem.Claim
import GoSem.ClaimJoined
import GoSem.ClaimMapViews
import Derived.JoinedTies
import Derived.KernelRfl
namespace Go.Proofs.Ytobljmgoengofaa
/- THE CELL 'sum', in the pinned program and in every row, IS THE sha256 OF THE DUMP (.gsa) THAT YtobljmgoengofaaProg.lean LOADS. Nothing in Lean hashes anything: it is a label: what it is worth is what the hold of that sum in a sandbox is worth. -/
noncomputable def Try.pinned : Pinned := { name := "ytobljmgoengofaa", sum := "8096c6e0fe509e32ed8174243af6cdf49cad3ea1c6672f34d48fbc4b0fafeb13", checked := Try.checked }
namespace Rows
def none {H : Type} : Left H := { results := [], args := [] }

/-- 'hanaperlaw34.PlanPages': WHATEVER THE INPUT: true; the input reads as it did. -/
def planPagesSpec : ChangeSpec := { name := "planPages", fn := fun _ => fun
  | [d] => { results := [.lit (.bool true)], args := [d] }
  | _ => none }
def planPagesRow : OpenClaim := { program := "ytobljmgoengofaa", sum := "8096c6e0fe509e32ed8174243af6cdf49cad3ea1c6672f34d48fbc4b0fafeb13", func := "hanaper/hanaperlaw34.PlanPages", spec := "planPages", unfollowed := true, recurses := true, apart := false }
def PlanPagesSaid : Prop := planPagesRow.holds Try.pinned (OpenSpec.ofChange planPagesSpec)

/-- ITS FALSE NEIGHBOUR: 'it returns false'. Refute it at one input. -/
def planPagesWrong : ChangeSpec := { name := "planPages", fn := fun _ => fun
  | [d] => { results := [.lit (.bool false)], args := [d] }
  | _ => none }
def PlanPagesWrongFalsely : Prop := planPagesRow.holds Try.pinned (OpenSpec.ofChange planPagesWrong)

/-- 'hanaperlaw11.AllocPicks': WHATEVER THE INPUT: true; the input reads as it did. -/
def allocPicksSpec : ChangeSpec := { name := "allocPicks", fn := fun _ => fun
  | [d1, d2] => { results := [.lit (.bool true)], args := [d1, d2] }
  | _ => none }
def allocPicksRow : OpenClaim := { program := "ytobljmgoengofaa", sum := "8096c6e0fe509e32ed8174243af6cdf49cad3ea1c6672f34d48fbc4b0fafeb13", func := "hanaper/hanaperlaw11.AllocPicks", spec := "allocPicks", apart := false }
def AllocPicksSaid : Prop := allocPicksRow.holds Try.pinned (OpenSpec.ofChange allocPicksSpec)

/-- ITS FALSE NEIGHBOUR: 'it returns false'. Refute it at one input. -/
def allocPicksWrong : ChangeSpec := { name := "allocPicks", fn := fun _ => fun
  | [d1, d2] => { results := [.lit (.bool false)], args := [d1, d2] }
  | _ => none }
def AllocPicksWrongFalsely : Prop := allocPicksRow.holds Try.pinned (OpenSpec.ofChange allocPicksWrong)

/-- 'hanaperlaw11.AllocBits': WHATEVER THE INPUT: true; the input reads as it did. -/
def allocBitsSpec : ChangeSpec := { name := "allocBits", fn := fun _ => fun
  | [d1, d2, d3] => { results := [.lit (.bool true)], args := [d1, d2, d3] }
  | _ => none }
def allocBitsRow : OpenClaim := { program := "ytobljmgoengofaa", sum := "8096c6e0fe509e32ed8174243af6cdf49cad3ea1c6672f34d48fbc4b0fafeb13", func := "hanaper/hanaperlaw11.AllocBits", spec := "allocBits", apart := false }
def AllocBitsSaid : Prop := allocBitsRow.holds Try.pinned (OpenSpec.ofChange allocBitsSpec)

/-- ITS FALSE NEIGHBOUR: 'it returns false'. Refute it at one input. -/
def allocBitsWrong : ChangeSpec := { name := "allocBits", fn := fun _ => fun
  | [d1, d2, d3] => { results := [.lit (.bool false)], args := [d1, d2, d3] }
  | _ => none }
def AllocBitsWrongFalsely : Prop := allocBitsRow.holds Try.pinned (OpenSpec.ofChange allocBitsWrong)

/-- 'hanaperlaw11.AllocCuts': WHATEVER THE INPUT: true; the input reads as it did. -/
def allocCutsSpec : ChangeSpec := { name := "allocCuts", fn := fun _ => fun
  | [d1, d2] => { results := [.lit (.bool true)], args := [d1, d2] }
  | _ => none }
def allocCutsRow : OpenClaim := { program := "ytobljmgoengofaa", sum := "8096c6e0fe509e32ed8174243af6cdf49cad3ea1c6672f34d48fbc4b0fafeb13", func := "hanaper/hanaperlaw11.AllocCuts", spec := "allocCuts", unfollowed := true, recurses := true, apart := false }
def AllocCutsSaid : Prop := allocCutsRow.holds Try.pinned (OpenSpec.ofChange allocCutsSpec)

/-- ITS FALSE NEIGHBOUR: 'it returns false'. Refute it at one input. -/
def allocCutsWrong : ChangeSpec := { name := "allocCuts", fn := fun _ => fun
  | [d1, d2] => { results := [.lit (.bool false)], args := [d1, d2] }
  | _ => none }
def AllocCutsWrongFalsely : Prop := allocCutsRow.holds Try.pinned (OpenSpec.ofChange allocCutsWrong)

/-- 'hanaperlaw01.TlvReads': WHATEVER THE INPUT: true; the input reads as it did. -/
def tlvReadsSpec : ChangeSpec := { name := "tlvReads", fn := fun _ => fun
  | [d1, d2] => { results := [.lit (.bool true)], args := [d1, d2] }
  | _ => none }
def tlvReadsRow : OpenClaim := { program := "ytobljmgoengofaa", sum := "8096c6e0fe509e32ed8174243af6cdf49cad3ea1c6672f34d48fbc4b0fafeb13", func := "hanaper/hanaperlaw01.TlvReads", spec := "tlvReads", apart := false }
def TlvReadsSaid : Prop := tlvReadsRow.holds Try.pinned (OpenSpec.ofChange tlvReadsSpec)

/-- ITS FALSE NEIGHBOUR: 'it returns false'. Refute it at one input. -/
def tlvReadsWrong : ChangeSpec := { name := "tlvReads", fn := fun _ => fun
  | [d1, d2] => { results := [.lit (.bool false)], args := [d1, d2] }
  | _ => none }
def TlvReadsWrongFalsely : Prop := tlvReadsRow.holds Try.pinned (OpenSpec.ofChange tlvReadsWrong)

/-- 'hanaperlaw01.TlvNil': WHATEVER THE INPUT: true; the input reads as it did. -/
def tlvNilSpec : ChangeSpec := { name := "tlvNil", fn := fun _ => fun
  | [d] => { results := [.lit (.bool true)], args := [d] }
  | _ => none }
def tlvNilRow : OpenClaim := { program := "ytobljmgoengofaa", sum := "8096c6e0fe509e32ed8174243af6cdf49cad3ea1c6672f34d48fbc4b0fafeb13", func := "hanaper/hanaperlaw01.TlvNil", spec := "tlvNil", apart := false }
def TlvNilSaid : Prop := tlvNilRow.holds Try.pinned (OpenSpec.ofChange tlvNilSpec)

/-- ITS FALSE NEIGHBOUR: 'it returns false'. Refute it at one input. -/
def tlvNilWrong : ChangeSpec := { name := "tlvNil", fn := fun _ => fun
  | [d] => { results := [.lit (.bool false)], args := [d] }
  | _ => none }
def TlvNilWrongFalsely : Prop := tlvNilRow.holds Try.pinned (OpenSpec.ofChange tlvNilWrong)

/-- 'hanaperlaw01.TlvPuts': WHATEVER THE INPUT: true; the input reads as it did. -/
def tlvPutsSpec : ChangeSpec := { name := "tlvPuts", fn := fun _ => fun
  | [d1, d2, d3] => { results := [.lit (.bool true)], args := [d1, d2, d3] }
  | _ => none }
def tlvPutsRow : OpenClaim := { program := "ytobljmgoengofaa", sum := "8096c6e0fe509e32ed8174243af6cdf49cad3ea1c6672f34d48fbc4b0fafeb13", func := "hanaper/hanaperlaw01.TlvPuts", spec := "tlvPuts", apart := false }
def TlvPutsSaid : Prop := tlvPutsRow.holds Try.pinned (OpenSpec.ofChange tlvPutsSpec)

/-- ITS FALSE NEIGHBOUR: 'it returns false'. Refute it at one input. -/
def tlvPutsWrong : ChangeSpec := { name := "tlvPuts", fn := fun _ => fun
  | [d1, d2, d3] => { results := [.lit (.bool false)], args := [d1, d2, d3] }
  | _ => none }
def TlvPutsWrongFalsely : Prop := tlvPutsRow.holds Try.pinned (OpenSpec.ofChange tlvPutsWrong)

/-- 'hanaperlaw01.TlvBack': WHATEVER THE INPUT: true; the input reads as it did. -/
def tlvBackSpec : ChangeSpec := { name := "tlvBack", fn := fun _ => fun
  | [d] => { results := [.lit (.bool true)], args := [d] }
  | _ => none }
def tlvBackRow : OpenClaim := { program := "ytobljmgoengofaa", sum := "8096c6e0fe509e32ed8174243af6cdf49cad3ea1c6672f34d48fbc4b0fafeb13", func := "hanaper/hanaperlaw01.TlvBack", spec := "tlvBack", apart := false }
def TlvBackSaid : Prop := tlvBackRow.holds Try.pinned (OpenSpec.ofChange tlvBackSpec)

/-- ITS FALSE NEIGHBOUR: 'it returns false'. Refute it at one input. -/
def tlvBackWrong : ChangeSpec := { name := "tlvBack", fn := fun _ => fun
  | [d] => { results := [.lit (.bool false)], args := [d] }
  | _ => none }
def TlvBackWrongFalsely : Prop := tlvBackRow.holds Try.pinned (OpenSpec.ofChange tlvBackWrong)

/-- 'hanaperlaw11.AllocBack': WHATEVER THE INPUT: true; the input reads as it did. -/
def allocBackSpec : ChangeSpec := { name := "allocBack", fn := fun _ => fun
  | [d1, d2, d3] => { results := [.lit (.bool true)], args := [d1, d2, d3] }
  | _ => none }
def allocBackRow : OpenClaim := { program := "ytobljmgoengofaa", sum := "8096c6e0fe509e32ed8174243af6cdf49cad3ea1c6672f34d48fbc4b0fafeb13", func := "hanaper/hanaperlaw11.AllocBack", spec := "allocBack", unfollowed := true, recurses := true, apart := false }
def AllocBackSaid : Prop := allocBackRow.holds Try.pinned (OpenSpec.ofChange allocBackSpec)

/-- ITS FALSE NEIGHBOUR: 'it returns false'. Refute it at one input. -/
def allocBackWrong : ChangeSpec := { name := "allocBack", fn := fun _ => fun
  | [d1, d2, d3] => { results := [.lit (.bool false)], args := [d1, d2, d3] }
  | _ => none }
def AllocBackWrongFalsely : Prop := allocBackRow.holds Try.pinned (OpenSpec.ofChange allocBackWrong)

/-- 'hanaperlaw34.PlanNeeds': WHATEVER THE INPUT: true; the input reads as it did. -/
def planNeedsSpec : ChangeSpec := { name := "planNeeds", fn := fun _ => fun
  | [d1, d2] => { results := [.lit (.bool true)], args := [d1, d2] }
  | _ => none }
def planNeedsRow : OpenClaim := { program := "ytobljmgoengofaa", sum := "8096c6e0fe509e32ed8174243af6cdf49cad3ea1c6672f34d48fbc4b0fafeb13", func := "hanaper/hanaperlaw34.PlanNeeds", spec := "planNeeds", unfollowed := true, recurses := true, loops := true, apart := false }
def PlanNeedsSaid : Prop := planNeedsRow.holds Try.pinned (OpenSpec.ofChange planNeedsSpec)

/-- ITS FALSE NEIGHBOUR: 'it returns false'. Refute it at one input. -/
def planNeedsWrong : ChangeSpec := { name := "planNeeds", fn := fun _ => fun
  | [d1, d2] => { results := [.lit (.bool false)], args := [d1, d2] }
  | _ => none }
def PlanNeedsWrongFalsely : Prop := planNeedsRow.holds Try.pinned (OpenSpec.ofChange planNeedsWrong)

/-- 'hanaperlaw34.PlanGrows': WHATEVER THE INPUT: true; the input reads as it did. -/
def planGrowsSpec : ChangeSpec := { name := "planGrows", fn := fun _ => fun
  | [d1, d2, d3] => { results := [.lit (.bool true)], args := [d1, d2, d3] }
  | _ => none }
def planGrowsRow : OpenClaim := { program := "ytobljmgoengofaa", sum := "8096c6e0fe509e32ed8174243af6cdf49cad3ea1c6672f34d48fbc4b0fafeb13", func := "hanaper/hanaperlaw34.PlanGrows", spec := "planGrows", unfollowed := true, recurses := true, loops := true, apart := false }
def PlanGrowsSaid : Prop := planGrowsRow.holds Try.pinned (OpenSpec.ofChange planGrowsSpec)

/-- ITS FALSE NEIGHBOUR: 'it returns false'. Refute it at one input. -/
def planGrowsWrong : ChangeSpec := { name := "planGrows", fn := fun _ => fun
  | [d1, d2, d3] => { results := [.lit (.bool false)], args := [d1, d2, d3] }
  | _ => none }
def PlanGrowsWrongFalsely : Prop := planGrowsRow.holds Try.pinned (OpenSpec.ofChange planGrowsWrong)

/- THE SECOND FORM. 'bulk': how many values and letters a reading holds, each counted each time it is reached (what is shared counts as often as it is met; a slice's spare places count too). A statement '..UptoSaid' is the law's where the arguments, and the package variables that the reading takes, are together of bulk at most 1048576: NARROWER than '..Said'. Prove '..Said' where nothing that the law and all that it calls make is longer than what came in: it says more and counts as full. Else prove '..UptoSaid'. A law counts once. -/
mutual
def uptoBulk {H : Type} : DataW H → Nat
  | .lit (.string bytes) => bytes.length + 1
  | .lit _ => 1
  | .nil => 1
  | .ptr d => uptoBulk d + 1
  | .slice elems spare => uptoBulkAll elems + uptoBulkAll spare + 1
  | .agg parts => uptoBulkAll parts + 1
  | .iface _ d => uptoBulk d + 1
  | .map entries => uptoBulkEntries entries + 1
  | .held _ => 1
def uptoBulkAll {H : Type} : List (DataW H) → Nat
  | [] => 0
  | d :: r => uptoBulk d + uptoBulkAll r
def uptoBulkEntries {H : Type} : List (Lit × DataW H) → Nat
  | [] => 0
  | x :: r => uptoBulkEntry x + uptoBulkEntries r
def uptoBulkEntry {H : Type} : Lit × DataW H → Nat
  | (.string bytes, d) => bytes.length + uptoBulk d + 1
  | (_, d) => uptoBulk d + 1
 end
def uptoSmall : (H : Type) → List (DataW H) → Bool := fun _ ds => decide (uptoBulkAll ds ≤ 1048576)
def OpenSpec.upto (s : _root_.Go.ChangeSpec) : _root_.Go.OpenSpec := { _root_.Go.OpenSpec.ofChange s with cond := some uptoSmall }

/-- 'hanaperlaw34.PlanPages', WHERE WHAT IT READS IS OF BULK AT MOST 1048576: true; the input reads as it did. -/
def planPagesUptoRow : OpenClaim := { program := "ytobljmgoengofaa", sum := "8096c6e0fe509e32ed8174243af6cdf49cad3ea1c6672f34d48fbc4b0fafeb13", func := "hanaper/hanaperlaw34.PlanPages", spec := "planPages", unfollowed := true, recurses := true, apart := false, narrowed := true }
def PlanPagesUptoSaid : Prop := planPagesUptoRow.holds Try.pinned (OpenSpec.upto planPagesSpec)

/-- 'hanaperlaw11.AllocPicks', WHERE WHAT IT READS IS OF BULK AT MOST 1048576: true; the input reads as it did. -/
def allocPicksUptoRow : OpenClaim := { program := "ytobljmgoengofaa", sum := "8096c6e0fe509e32ed8174243af6cdf49cad3ea1c6672f34d48fbc4b0fafeb13", func := "hanaper/hanaperlaw11.AllocPicks", spec := "allocPicks", apart := false, narrowed := true }
def AllocPicksUptoSaid : Prop := allocPicksUptoRow.holds Try.pinned (OpenSpec.upto allocPicksSpec)

/-- 'hanaperlaw11.AllocBits', WHERE WHAT IT READS IS OF BULK AT MOST 1048576: true; the input reads as it did. -/
def allocBitsUptoRow : OpenClaim := { program := "ytobljmgoengofaa", sum := "8096c6e0fe509e32ed8174243af6cdf49cad3ea1c6672f34d48fbc4b0fafeb13", func := "hanaper/hanaperlaw11.AllocBits", spec := "allocBits", apart := false, narrowed := true }
def AllocBitsUptoSaid : Prop := allocBitsUptoRow.holds Try.pinned (OpenSpec.upto allocBitsSpec)

/-- 'hanaperlaw11.AllocCuts', WHERE WHAT IT READS IS OF BULK AT MOST 1048576: true; the input reads as it did. -/
def allocCutsUptoRow : OpenClaim := { program := "ytobljmgoengofaa", sum := "8096c6e0fe509e32ed8174243af6cdf49cad3ea1c6672f34d48fbc4b0fafeb13", func := "hanaper/hanaperlaw11.AllocCuts", spec := "allocCuts", unfollowed := true, recurses := true, apart := false, narrowed := true }
def AllocCutsUptoSaid : Prop := allocCutsUptoRow.holds Try.pinned (OpenSpec.upto allocCutsSpec)

/-- 'hanaperlaw01.TlvReads', WHERE WHAT IT READS IS OF BULK AT MOST 1048576: true; the input reads as it did. -/
def tlvReadsUptoRow : OpenClaim := { program := "ytobljmgoengofaa", sum := "8096c6e0fe509e32ed8174243af6cdf49cad3ea1c6672f34d48fbc4b0fafeb13", func := "hanaper/hanaperlaw01.TlvReads", spec := "tlvReads", apart := false, narrowed := true }
def TlvReadsUptoSaid : Prop := tlvReadsUptoRow.holds Try.pinned (OpenSpec.upto tlvReadsSpec)

/-- 'hanaperlaw01.TlvNil', WHERE WHAT IT READS IS OF BULK AT MOST 1048576: true; the input reads as it did. -/
def tlvNilUptoRow : OpenClaim := { program := "ytobljmgoengofaa", sum := "8096c6e0fe509e32ed8174243af6cdf49cad3ea1c6672f34d48fbc4b0fafeb13", func := "hanaper/hanaperlaw01.TlvNil", spec := "tlvNil", apart := false, narrowed := true }
def TlvNilUptoSaid : Prop := tlvNilUptoRow.holds Try.pinned (OpenSpec.upto tlvNilSpec)

/-- 'hanaperlaw01.TlvPuts', WHERE WHAT IT READS IS OF BULK AT MOST 1048576: true; the input reads as it did. -/
def tlvPutsUptoRow : OpenClaim := { program := "ytobljmgoengofaa", sum := "8096c6e0fe509e32ed8174243af6cdf49cad3ea1c6672f34d48fbc4b0fafeb13", func := "hanaper/hanaperlaw01.TlvPuts", spec := "tlvPuts", apart := false, narrowed := true }
def TlvPutsUptoSaid : Prop := tlvPutsUptoRow.holds Try.pinned (OpenSpec.upto tlvPutsSpec)

/-- 'hanaperlaw01.TlvBack', WHERE WHAT IT READS IS OF BULK AT MOST 1048576: true; the input reads as it did. -/
def tlvBackUptoRow : OpenClaim := { program := "ytobljmgoengofaa", sum := "8096c6e0fe509e32ed8174243af6cdf49cad3ea1c6672f34d48fbc4b0fafeb13", func := "hanaper/hanaperlaw01.TlvBack", spec := "tlvBack", apart := false, narrowed := true }
def TlvBackUptoSaid : Prop := tlvBackUptoRow.holds Try.pinned (OpenSpec.upto tlvBackSpec)

/-- 'hanaperlaw11.AllocBack', WHERE WHAT IT READS IS OF BULK AT MOST 1048576: true; the input reads as it did. -/
def allocBackUptoRow : OpenClaim := { program := "ytobljmgoengofaa", sum := "8096c6e0fe509e32ed8174243af6cdf49cad3ea1c6672f34d48fbc4b0fafeb13", func := "hanaper/hanaperlaw11.AllocBack", spec := "allocBack", unfollowed := true, recurses := true, apart := false, narrowed := true }
def AllocBackUptoSaid : Prop := allocBackUptoRow.holds Try.pinned (OpenSpec.upto allocBackSpec)

/-- 'hanaperlaw34.PlanNeeds', WHERE WHAT IT READS IS OF BULK AT MOST 1048576: true; the input reads as it did. -/
def planNeedsUptoRow : OpenClaim := { program := "ytobljmgoengofaa", sum := "8096c6e0fe509e32ed8174243af6cdf49cad3ea1c6672f34d48fbc4b0fafeb13", func := "hanaper/hanaperlaw34.PlanNeeds", spec := "planNeeds", unfollowed := true, recurses := true, loops := true, apart := false, narrowed := true }
def PlanNeedsUptoSaid : Prop := planNeedsUptoRow.holds Try.pinned (OpenSpec.upto planNeedsSpec)

/-- 'hanaperlaw34.PlanGrows', WHERE WHAT IT READS IS OF BULK AT MOST 1048576: true; the input reads as it did. -/
def planGrowsUptoRow : OpenClaim := { program := "ytobljmgoengofaa", sum := "8096c6e0fe509e32ed8174243af6cdf49cad3ea1c6672f34d48fbc4b0fafeb13", func := "hanaper/hanaperlaw34.PlanGrows", spec := "planGrows", unfollowed := true, recurses := true, loops := true, apart := false, narrowed := true }
def PlanGrowsUptoSaid : Prop := planGrowsUptoRow.holds Try.pinned (OpenSpec.upto planGrowsSpec)

end Rows
end Go.Proofs.Ytobljmgoengofaa
