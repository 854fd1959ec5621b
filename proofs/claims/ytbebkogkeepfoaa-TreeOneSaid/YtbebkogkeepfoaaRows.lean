/-
  No cell of these rows narrows 'for every input' (looked for: loops, veiled, ifaces, maps, wideKeys, modest, calm, conditions, laid).
  DERIVED. THE GIVEN ROWS OF THIS SEAT. 10 by the template 'for every input the law returns true; each argument reads behind the call as it read before'; 0 by the template 'total and deterministic' (their statements: YtbebkogkeepfoaaTotals.lean).
  GIVEN WITH THE SEED: the statements are not yours to turn. If you find one false, say at which input.
  Laid BY PROGRAM, IN A SANDBOX (cutbox-rows.mjs): the forced cells as the released guide's own fill.sh prints them over the translation e791e74613d3bbb6… (all of the seat's roots in one cut). By AI agents, Wed Nov 11 2026. No macro, syntax, notation, axiom, sorry.
-/
import Derived.Test.YtbebkogkeepfoaaChecked
import GoSem.Claim
import GoSem.ClaimJoined
import GoSem.ClaimMapViews
import Derived.JoinedTies
import Derived.KernelRfl
namespace Go.Proofs.Ytbebkogkeepfoaa
/- THE CELL 'sum', in the pinned program and in every row, IS THE sha256 OF THE DUMP (.gsa) THAT YtbebkogkeepfoaaProg.lean LOADS. Nothing in Lean hashes anything: it is a label: what it is worth is what the hold of that sum in a sandbox is worth. -/
noncomputable def Try.pinned : Pinned := { name := "ytbebkogkeepfoaa", sum := "e791e74613d3bbb692bfe320c3290542be7a75539043455b69faea9036da0ef4", checked := Try.checked }
namespace Rows
def none {H : Type} : Left H := { results := [], args := [] }

/-- 'hanaperlaw02.ShaSums': WHATEVER THE INPUT: true; the input reads as it did. -/
def shaSumsSpec : ChangeSpec := { name := "shaSums", fn := fun _ => fun
  | [d] => { results := [.lit (.bool true)], args := [d] }
  | _ => none }
def shaSumsRow : OpenClaim := { program := "ytbebkogkeepfoaa", sum := "e791e74613d3bbb692bfe320c3290542be7a75539043455b69faea9036da0ef4", func := "hanaper/hanaperlaw02.ShaSums", spec := "shaSums", apart := false }
def ShaSumsSaid : Prop := shaSumsRow.holds Try.pinned (OpenSpec.ofChange shaSumsSpec)

/-- ITS FALSE NEIGHBOUR: 'it returns false'. Refute it at one input. -/
def shaSumsWrong : ChangeSpec := { name := "shaSums", fn := fun _ => fun
  | [d] => { results := [.lit (.bool false)], args := [d] }
  | _ => none }
def ShaSumsWrongFalsely : Prop := shaSumsRow.holds Try.pinned (OpenSpec.ofChange shaSumsWrong)

/-- 'hanaperlaw02.ShaParts': WHATEVER THE INPUT: true; the input reads as it did. -/
def shaPartsSpec : ChangeSpec := { name := "shaParts", fn := fun _ => fun
  | [d] => { results := [.lit (.bool true)], args := [d] }
  | _ => none }
def shaPartsRow : OpenClaim := { program := "ytbebkogkeepfoaa", sum := "e791e74613d3bbb692bfe320c3290542be7a75539043455b69faea9036da0ef4", func := "hanaper/hanaperlaw02.ShaParts", spec := "shaParts", apart := false }
def ShaPartsSaid : Prop := shaPartsRow.holds Try.pinned (OpenSpec.ofChange shaPartsSpec)

/-- ITS FALSE NEIGHBOUR: 'it returns false'. Refute it at one input. -/
def shaPartsWrong : ChangeSpec := { name := "shaParts", fn := fun _ => fun
  | [d] => { results := [.lit (.bool false)], args := [d] }
  | _ => none }
def ShaPartsWrongFalsely : Prop := shaPartsRow.holds Try.pinned (OpenSpec.ofChange shaPartsWrong)

/-- 'hanaperlaw02.ShaNil': WHATEVER THE INPUT: true; the input reads as it did. -/
def shaNilSpec : ChangeSpec := { name := "shaNil", fn := fun _ => fun
  | [d] => { results := [.lit (.bool true)], args := [d] }
  | _ => none }
def shaNilRow : OpenClaim := { program := "ytbebkogkeepfoaa", sum := "e791e74613d3bbb692bfe320c3290542be7a75539043455b69faea9036da0ef4", func := "hanaper/hanaperlaw02.ShaNil", spec := "shaNil", apart := false }
def ShaNilSaid : Prop := shaNilRow.holds Try.pinned (OpenSpec.ofChange shaNilSpec)

/-- ITS FALSE NEIGHBOUR: 'it returns false'. Refute it at one input. -/
def shaNilWrong : ChangeSpec := { name := "shaNil", fn := fun _ => fun
  | [d] => { results := [.lit (.bool false)], args := [d] }
  | _ => none }
def ShaNilWrongFalsely : Prop := shaNilRow.holds Try.pinned (OpenSpec.ofChange shaNilWrong)

/-- 'hanaperlaw07.CommitOf': WHATEVER THE INPUT: true; the input reads as it did. -/
def commitOfSpec : ChangeSpec := { name := "commitOf", fn := fun _ => fun
  | [d1, d2, d3] => { results := [.lit (.bool true)], args := [d1, d2, d3] }
  | _ => none }
def commitOfRow : OpenClaim := { program := "ytbebkogkeepfoaa", sum := "e791e74613d3bbb692bfe320c3290542be7a75539043455b69faea9036da0ef4", func := "hanaper/hanaperlaw07.CommitOf", spec := "commitOf", apart := false }
def CommitOfSaid : Prop := commitOfRow.holds Try.pinned (OpenSpec.ofChange commitOfSpec)

/-- ITS FALSE NEIGHBOUR: 'it returns false'. Refute it at one input. -/
def commitOfWrong : ChangeSpec := { name := "commitOf", fn := fun _ => fun
  | [d1, d2, d3] => { results := [.lit (.bool false)], args := [d1, d2, d3] }
  | _ => none }
def CommitOfWrongFalsely : Prop := commitOfRow.holds Try.pinned (OpenSpec.ofChange commitOfWrong)

/-- 'hanaperlaw07.CommitLinks': WHATEVER THE INPUT: true; the input reads as it did. -/
def commitLinksSpec : ChangeSpec := { name := "commitLinks", fn := fun _ => fun
  | [d1, d2, d3] => { results := [.lit (.bool true)], args := [d1, d2, d3] }
  | _ => none }
def commitLinksRow : OpenClaim := { program := "ytbebkogkeepfoaa", sum := "e791e74613d3bbb692bfe320c3290542be7a75539043455b69faea9036da0ef4", func := "hanaper/hanaperlaw07.CommitLinks", spec := "commitLinks", apart := false }
def CommitLinksSaid : Prop := commitLinksRow.holds Try.pinned (OpenSpec.ofChange commitLinksSpec)

/-- ITS FALSE NEIGHBOUR: 'it returns false'. Refute it at one input. -/
def commitLinksWrong : ChangeSpec := { name := "commitLinks", fn := fun _ => fun
  | [d1, d2, d3] => { results := [.lit (.bool false)], args := [d1, d2, d3] }
  | _ => none }
def CommitLinksWrongFalsely : Prop := commitLinksRow.holds Try.pinned (OpenSpec.ofChange commitLinksWrong)

/-- 'hanaperlaw07.CommitBinds': WHATEVER THE INPUT: true; the input reads as it did. -/
def commitBindsSpec : ChangeSpec := { name := "commitBinds", fn := fun _ => fun
  | [d1, d2, d3] => { results := [.lit (.bool true)], args := [d1, d2, d3] }
  | _ => none }
def commitBindsRow : OpenClaim := { program := "ytbebkogkeepfoaa", sum := "e791e74613d3bbb692bfe320c3290542be7a75539043455b69faea9036da0ef4", func := "hanaper/hanaperlaw07.CommitBinds", spec := "commitBinds", apart := false }
def CommitBindsSaid : Prop := commitBindsRow.holds Try.pinned (OpenSpec.ofChange commitBindsSpec)

/-- ITS FALSE NEIGHBOUR: 'it returns false'. Refute it at one input. -/
def commitBindsWrong : ChangeSpec := { name := "commitBinds", fn := fun _ => fun
  | [d1, d2, d3] => { results := [.lit (.bool false)], args := [d1, d2, d3] }
  | _ => none }
def CommitBindsWrongFalsely : Prop := commitBindsRow.holds Try.pinned (OpenSpec.ofChange commitBindsWrong)

/-- 'hanaperlaw26.TreeOne': WHATEVER THE INPUT: true; the input reads as it did. -/
def treeOneSpec : ChangeSpec := { name := "treeOne", fn := fun _ => fun
  | [d1, d2, d3] => { results := [.lit (.bool true)], args := [d1, d2, d3] }
  | _ => none }
def treeOneRow : OpenClaim := { program := "ytbebkogkeepfoaa", sum := "e791e74613d3bbb692bfe320c3290542be7a75539043455b69faea9036da0ef4", func := "hanaper/hanaperlaw26.TreeOne", spec := "treeOne", recurses := true, apart := false }
def TreeOneSaid : Prop := treeOneRow.holds Try.pinned (OpenSpec.ofChange treeOneSpec)

/-- ITS FALSE NEIGHBOUR: 'it returns false'. Refute it at one input. -/
def treeOneWrong : ChangeSpec := { name := "treeOne", fn := fun _ => fun
  | [d1, d2, d3] => { results := [.lit (.bool false)], args := [d1, d2, d3] }
  | _ => none }
def TreeOneWrongFalsely : Prop := treeOneRow.holds Try.pinned (OpenSpec.ofChange treeOneWrong)

/-- 'hanaperlaw26.TreeChecks': WHATEVER THE INPUT: true; the input reads as it did. -/
def treeChecksSpec : ChangeSpec := { name := "treeChecks", fn := fun _ => fun
  | [d1, d2] => { results := [.lit (.bool true)], args := [d1, d2] }
  | _ => none }
def treeChecksRow : OpenClaim := { program := "ytbebkogkeepfoaa", sum := "e791e74613d3bbb692bfe320c3290542be7a75539043455b69faea9036da0ef4", func := "hanaper/hanaperlaw26.TreeChecks", spec := "treeChecks", recurses := true, apart := false }
def TreeChecksSaid : Prop := treeChecksRow.holds Try.pinned (OpenSpec.ofChange treeChecksSpec)

/-- ITS FALSE NEIGHBOUR: 'it returns false'. Refute it at one input. -/
def treeChecksWrong : ChangeSpec := { name := "treeChecks", fn := fun _ => fun
  | [d1, d2] => { results := [.lit (.bool false)], args := [d1, d2] }
  | _ => none }
def TreeChecksWrongFalsely : Prop := treeChecksRow.holds Try.pinned (OpenSpec.ofChange treeChecksWrong)

/-- 'hanaperlaw26.TreeRoots': WHATEVER THE INPUT: true; the input reads as it did. -/
def treeRootsSpec : ChangeSpec := { name := "treeRoots", fn := fun _ => fun
  | [d1, d2, d3] => { results := [.lit (.bool true)], args := [d1, d2, d3] }
  | _ => none }
def treeRootsRow : OpenClaim := { program := "ytbebkogkeepfoaa", sum := "e791e74613d3bbb692bfe320c3290542be7a75539043455b69faea9036da0ef4", func := "hanaper/hanaperlaw26.TreeRoots", spec := "treeRoots", recurses := true, apart := false }
def TreeRootsSaid : Prop := treeRootsRow.holds Try.pinned (OpenSpec.ofChange treeRootsSpec)

/-- ITS FALSE NEIGHBOUR: 'it returns false'. Refute it at one input. -/
def treeRootsWrong : ChangeSpec := { name := "treeRoots", fn := fun _ => fun
  | [d1, d2, d3] => { results := [.lit (.bool false)], args := [d1, d2, d3] }
  | _ => none }
def TreeRootsWrongFalsely : Prop := treeRootsRow.holds Try.pinned (OpenSpec.ofChange treeRootsWrong)

/-- 'hanaperlaw26.TreeBack': WHATEVER THE INPUT: true; the input reads as it did. -/
def treeBackSpec : ChangeSpec := { name := "treeBack", fn := fun _ => fun
  | [d] => { results := [.lit (.bool true)], args := [d] }
  | _ => none }
def treeBackRow : OpenClaim := { program := "ytbebkogkeepfoaa", sum := "e791e74613d3bbb692bfe320c3290542be7a75539043455b69faea9036da0ef4", func := "hanaper/hanaperlaw26.TreeBack", spec := "treeBack", recurses := true, apart := false }
def TreeBackSaid : Prop := treeBackRow.holds Try.pinned (OpenSpec.ofChange treeBackSpec)

/-- ITS FALSE NEIGHBOUR: 'it returns false'. Refute it at one input. -/
def treeBackWrong : ChangeSpec := { name := "treeBack", fn := fun _ => fun
  | [d] => { results := [.lit (.bool false)], args := [d] }
  | _ => none }
def TreeBackWrongFalsely : Prop := treeBackRow.holds Try.pinned (OpenSpec.ofChange treeBackWrong)

/- THE SECOND FORM. 'bulk': how many values and letters a reading holds, each counted each time it is reached (what is shared counts as often as it is met; a slice's spare places count too). A statement '..UptoSaid' is the law's where the arguments, and the package variables that the reading takes, are together of bulk at most 1048576: NARROWER than '..Said'. Prove '..Said' where nothing that the law and all that it calls make is longer than what came in: it says more and counts as full. Else prove '..UptoSaid'. A law counts once. -/
mutual
def uptoBulk {H : Type} : DataW H → Nat
  | .lit (.string bytes) => bytes.length + 1
  | .lit _ => 1
  | .nil => 1
  | .ptr d => uptoBulk d + 1
  | .slice elems spare => uptoBulkAll elems + uptoBulkAll spare + 1
  | .agg parts => uptoBulkAll parts + 1
  | .iface _ d => uptoBulk d + 1
  | .map entries => uptoBulkEntries entries + 1
  | .held _ => 1
def uptoBulkAll {H : Type} : List (DataW H) → Nat
  | [] => 0
  | d :: r => uptoBulk d + uptoBulkAll r
def uptoBulkEntries {H : Type} : List (Lit × DataW H) → Nat
  | [] => 0
  | x :: r => uptoBulkEntry x + uptoBulkEntries r
def uptoBulkEntry {H : Type} : Lit × DataW H → Nat
  | (.string bytes, d) => bytes.length + uptoBulk d + 1
  | (_, d) => uptoBulk d + 1
 end
def uptoSmall : (H : Type) → List (DataW H) → Bool := fun _ ds => decide (uptoBulkAll ds ≤ 1048576)
def OpenSpec.upto (s : _root_.Go.ChangeSpec) : _root_.Go.OpenSpec := { _root_.Go.OpenSpec.ofChange s with cond := some uptoSmall }

/-- 'hanaperlaw02.ShaSums', WHERE WHAT IT READS IS OF BULK AT MOST 1048576: true; the input reads as it did. -/
def shaSumsUptoRow : OpenClaim := { program := "ytbebkogkeepfoaa", sum := "e791e74613d3bbb692bfe320c3290542be7a75539043455b69faea9036da0ef4", func := "hanaper/hanaperlaw02.ShaSums", spec := "shaSums", apart := false, narrowed := true }
def ShaSumsUptoSaid : Prop := shaSumsUptoRow.holds Try.pinned (OpenSpec.upto shaSumsSpec)

/-- 'hanaperlaw02.ShaParts', WHERE WHAT IT READS IS OF BULK AT MOST 1048576: true; the input reads as it did. -/
def shaPartsUptoRow : OpenClaim := { program := "ytbebkogkeepfoaa", sum := "e791e74613d3bbb692bfe320c3290542be7a75539043455b69faea9036da0ef4", func := "hanaper/hanaperlaw02.ShaParts", spec := "shaParts", apart := false, narrowed := true }
def ShaPartsUptoSaid : Prop := shaPartsUptoRow.holds Try.pinned (OpenSpec.upto shaPartsSpec)

/-- 'hanaperlaw02.ShaNil', WHERE WHAT IT READS IS OF BULK AT MOST 1048576: true; the input reads as it did. -/
def shaNilUptoRow : OpenClaim := { program := "ytbebkogkeepfoaa", sum := "e791e74613d3bbb692bfe320c3290542be7a75539043455b69faea9036da0ef4", func := "hanaper/hanaperlaw02.ShaNil", spec := "shaNil", apart := false, narrowed := true }
def ShaNilUptoSaid : Prop := shaNilUptoRow.holds Try.pinned (OpenSpec.upto shaNilSpec)

/-- 'hanaperlaw07.CommitOf', WHERE WHAT IT READS IS OF BULK AT MOST 1048576: true; the input reads as it did. -/
def commitOfUptoRow : OpenClaim := { program := "ytbebkogkeepfoaa", sum := "e791e74613d3bbb692bfe320c3290542be7a75539043455b69faea9036da0ef4", func := "hanaper/hanaperlaw07.CommitOf", spec := "commitOf", apart := false, narrowed := true }
def CommitOfUptoSaid : Prop := commitOfUptoRow.holds Try.pinned (OpenSpec.upto commitOfSpec)

/-- 'hanaperlaw07.CommitLinks', WHERE WHAT IT READS IS OF BULK AT MOST 1048576: true; the input reads as it did. -/
def commitLinksUptoRow : OpenClaim := { program := "ytbebkogkeepfoaa", sum := "e791e74613d3bbb692bfe320c3290542be7a75539043455b69faea9036da0ef4", func := "hanaper/hanaperlaw07.CommitLinks", spec := "commitLinks", apart := false, narrowed := true }
def CommitLinksUptoSaid : Prop := commitLinksUptoRow.holds Try.pinned (OpenSpec.upto commitLinksSpec)

/-- 'hanaperlaw07.CommitBinds', WHERE WHAT IT READS IS OF BULK AT MOST 1048576: true; the input reads as it did. -/
def commitBindsUptoRow : OpenClaim := { program := "ytbebkogkeepfoaa", sum := "e791e74613d3bbb692bfe320c3290542be7a75539043455b69faea9036da0ef4", func := "hanaper/hanaperlaw07.CommitBinds", spec := "commitBinds", apart := false, narrowed := true }
def CommitBindsUptoSaid : Prop := commitBindsUptoRow.holds Try.pinned (OpenSpec.upto commitBindsSpec)

/-- 'hanaperlaw26.TreeOne', WHERE WHAT IT READS IS OF BULK AT MOST 1048576: true; the input reads as it did. -/
def treeOneUptoRow : OpenClaim := { program := "ytbebkogkeepfoaa", sum := "e791e74613d3bbb692bfe320c3290542be7a75539043455b69faea9036da0ef4", func := "hanaper/hanaperlaw26.TreeOne", spec := "treeOne", recurses := true, apart := false, narrowed := true }
def TreeOneUptoSaid : Prop := treeOneUptoRow.holds Try.pinned (OpenSpec.upto treeOneSpec)

/-- 'hanaperlaw26.TreeChecks', WHERE WHAT IT READS IS OF BULK AT MOST 1048576: true; the input reads as it did. -/
def treeChecksUptoRow : OpenClaim := { program := "ytbebkogkeepfoaa", sum := "e791e74613d3bbb692bfe320c3290542be7a75539043455b69faea9036da0ef4", func := "hanaper/hanaperlaw26.TreeChecks", spec := "treeChecks", recurses := true, apart := false, narrowed := true }
def TreeChecksUptoSaid : Prop := treeChecksUptoRow.holds Try.pinned (OpenSpec.upto treeChecksSpec)

/-- 'hanaperlaw26.TreeRoots', WHERE WHAT IT READS IS OF BULK AT MOST 1048576: true; the input reads as it did. -/
def treeRootsUptoRow : OpenClaim := { program := "ytbebkogkeepfoaa", sum := "e791e74613d3bbb692bfe320c3290542be7a75539043455b69faea9036da0ef4", func := "hanaper/hanaperlaw26.TreeRoots", spec := "treeRoots", recurses := true, apart := false, narrowed := true }
def TreeRootsUptoSaid : Prop := treeRootsUptoRow.holds Try.pinned (OpenSpec.upto treeRootsSpec)

/-- 'hanaperlaw26.TreeBack', WHERE WHAT IT READS IS OF BULK AT MOST 1048576: true; the input reads as it did. -/
def treeBackUptoRow : OpenClaim := { program := "ytbebkogkeepfoaa", sum := "e791e74613d3bbb692bfe320c3290542be7a75539043455b69faea9036da0ef4", func := "hanaper/hanaperlaw26.TreeBack", spec := "treeBack", recurses := true, apart := false, narrowed := true }
def TreeBackUptoSaid : Prop := treeBackUptoRow.holds Try.pinned (OpenSpec.upto treeBackSpec)

end Rows
end Go.Proofs.Ytbebkogkeepfoaa
