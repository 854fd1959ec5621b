/-
  NARROWER THAN 'FOR EVERY INPUT', by the rows' own cells (each row's printed sentence says how): ScopePuts: loops · ScopeMatches: loops · ScopeNots: loops · HoldFrees: loops · HoldTurns: loops · HoldOn: loops · ScopeGets: loops · ScopeBack: loops.
  DERIVED. THE GIVEN ROWS OF THIS SEAT. 11 by the template 'for every input the law returns true; each argument reads behind the call as it read before'; 0 by the template 'total and deterministic' (their statements: YtgdpabedlghiaaaTotals.lean).
  GIVEN WITH THE SEED: the statements are not yours to turn. If you find one false, say at which input.
  Laid BY PROGRAM, IN A SANDBOX (cutbox-rows.mjs): the forced cells as the released guide's own fill.sh prints them over the translation 6cce3b8b47a16549… (all of the seat's roots in one cut). By AI agents, Wed Nov 11 2026. No macro, syntax, notation, axiom, sorry.
-/
import Derived.Test.YtgdpabedlghiaaaChecked
import GoSem.Claim
import GoSem.ClaimJoined
import GoSem.ClaimMapViews
import Derived.JoinedTies
import Derived.KernelRfl
namespace Go.Proofs.Ytgdpabedlghiaaa
/- THE CELL 'sum', in the pinned program and in every row, IS THE sha256 OF THE DUMP (.gsa) THAT YtgdpabedlghiaaaProg.lean LOADS. Nothing in Lean hashes anything: it is a label: what it is worth is what the hold of that sum in a sandbox is worth. -/
noncomputable def Try.pinned : Pinned := { name := "ytgdpabedlghiaaa", sum := "6cce3b8b47a165490a443cbafe2d85942385ebb1cd9fd4c61fd6d5c800a2ac9a", checked := Try.checked }
namespace Rows
def none {H : Type} : Left H := { results := [], args := [] }

/-- 'hanaperlaw12.InodePuts': WHATEVER THE INPUT: true; the input reads as it did. -/
def inodePutsSpec : ChangeSpec := { name := "inodePuts", fn := fun _ => fun
  | [d1, d2, d3] => { results := [.lit (.bool true)], args := [d1, d2, d3] }
  | _ => none }
def inodePutsRow : OpenClaim := { program := "ytgdpabedlghiaaa", sum := "6cce3b8b47a165490a443cbafe2d85942385ebb1cd9fd4c61fd6d5c800a2ac9a", func := "hanaper/hanaperlaw12.InodePuts", spec := "inodePuts", unfollowed := true, recurses := true, apart := false }
def InodePutsSaid : Prop := inodePutsRow.holds Try.pinned (OpenSpec.ofChange inodePutsSpec)

/-- ITS FALSE NEIGHBOUR: 'it returns false'. Refute it at one input. -/
def inodePutsWrong : ChangeSpec := { name := "inodePuts", fn := fun _ => fun
  | [d1, d2, d3] => { results := [.lit (.bool false)], args := [d1, d2, d3] }
  | _ => none }
def InodePutsWrongFalsely : Prop := inodePutsRow.holds Try.pinned (OpenSpec.ofChange inodePutsWrong)

/-- 'hanaperlaw20.ScopePuts': WHATEVER THE INPUT: true; the input reads as it did. -/
def scopePutsSpec : ChangeSpec := { name := "scopePuts", fn := fun _ => fun
  | [d] => { results := [.lit (.bool true)], args := [d] }
  | _ => none }
def scopePutsRow : OpenClaim := { program := "ytgdpabedlghiaaa", sum := "6cce3b8b47a165490a443cbafe2d85942385ebb1cd9fd4c61fd6d5c800a2ac9a", func := "hanaper/hanaperlaw20.ScopePuts", spec := "scopePuts", unfollowed := true, recurses := true, loops := true, apart := false }
def ScopePutsSaid : Prop := scopePutsRow.holds Try.pinned (OpenSpec.ofChange scopePutsSpec)

/-- ITS FALSE NEIGHBOUR: 'it returns false'. Refute it at one input. -/
def scopePutsWrong : ChangeSpec := { name := "scopePuts", fn := fun _ => fun
  | [d] => { results := [.lit (.bool false)], args := [d] }
  | _ => none }
def ScopePutsWrongFalsely : Prop := scopePutsRow.holds Try.pinned (OpenSpec.ofChange scopePutsWrong)

/-- 'hanaperlaw20.ScopeMatches': WHATEVER THE INPUT: true; the input reads as it did. -/
def scopeMatchesSpec : ChangeSpec := { name := "scopeMatches", fn := fun _ => fun
  | [d1, d2] => { results := [.lit (.bool true)], args := [d1, d2] }
  | _ => none }
def scopeMatchesRow : OpenClaim := { program := "ytgdpabedlghiaaa", sum := "6cce3b8b47a165490a443cbafe2d85942385ebb1cd9fd4c61fd6d5c800a2ac9a", func := "hanaper/hanaperlaw20.ScopeMatches", spec := "scopeMatches", unfollowed := true, recurses := true, loops := true, apart := false }
def ScopeMatchesSaid : Prop := scopeMatchesRow.holds Try.pinned (OpenSpec.ofChange scopeMatchesSpec)

/-- ITS FALSE NEIGHBOUR: 'it returns false'. Refute it at one input. -/
def scopeMatchesWrong : ChangeSpec := { name := "scopeMatches", fn := fun _ => fun
  | [d1, d2] => { results := [.lit (.bool false)], args := [d1, d2] }
  | _ => none }
def ScopeMatchesWrongFalsely : Prop := scopeMatchesRow.holds Try.pinned (OpenSpec.ofChange scopeMatchesWrong)

/-- 'hanaperlaw20.ScopeNots': WHATEVER THE INPUT: true; the input reads as it did. -/
def scopeNotsSpec : ChangeSpec := { name := "scopeNots", fn := fun _ => fun
  | [d1, d2, d3] => { results := [.lit (.bool true)], args := [d1, d2, d3] }
  | _ => none }
def scopeNotsRow : OpenClaim := { program := "ytgdpabedlghiaaa", sum := "6cce3b8b47a165490a443cbafe2d85942385ebb1cd9fd4c61fd6d5c800a2ac9a", func := "hanaper/hanaperlaw20.ScopeNots", spec := "scopeNots", unfollowed := true, recurses := true, loops := true, apart := false }
def ScopeNotsSaid : Prop := scopeNotsRow.holds Try.pinned (OpenSpec.ofChange scopeNotsSpec)

/-- ITS FALSE NEIGHBOUR: 'it returns false'. Refute it at one input. -/
def scopeNotsWrong : ChangeSpec := { name := "scopeNots", fn := fun _ => fun
  | [d1, d2, d3] => { results := [.lit (.bool false)], args := [d1, d2, d3] }
  | _ => none }
def ScopeNotsWrongFalsely : Prop := scopeNotsRow.holds Try.pinned (OpenSpec.ofChange scopeNotsWrong)

/-- 'hanaperlaw22.HoldFrees': WHATEVER THE INPUT: true; the input reads as it did. -/
def holdFreesSpec : ChangeSpec := { name := "holdFrees", fn := fun _ => fun
  | [d1, d2, d3] => { results := [.lit (.bool true)], args := [d1, d2, d3] }
  | _ => none }
def holdFreesRow : OpenClaim := { program := "ytgdpabedlghiaaa", sum := "6cce3b8b47a165490a443cbafe2d85942385ebb1cd9fd4c61fd6d5c800a2ac9a", func := "hanaper/hanaperlaw22.HoldFrees", spec := "holdFrees", unfollowed := true, recurses := true, loops := true, apart := false }
def HoldFreesSaid : Prop := holdFreesRow.holds Try.pinned (OpenSpec.ofChange holdFreesSpec)

/-- ITS FALSE NEIGHBOUR: 'it returns false'. Refute it at one input. -/
def holdFreesWrong : ChangeSpec := { name := "holdFrees", fn := fun _ => fun
  | [d1, d2, d3] => { results := [.lit (.bool false)], args := [d1, d2, d3] }
  | _ => none }
def HoldFreesWrongFalsely : Prop := holdFreesRow.holds Try.pinned (OpenSpec.ofChange holdFreesWrong)

/-- 'hanaperlaw22.HoldTurns': WHATEVER THE INPUT: true; the input reads as it did. -/
def holdTurnsSpec : ChangeSpec := { name := "holdTurns", fn := fun _ => fun
  | [d1, d2, d3] => { results := [.lit (.bool true)], args := [d1, d2, d3] }
  | _ => none }
def holdTurnsRow : OpenClaim := { program := "ytgdpabedlghiaaa", sum := "6cce3b8b47a165490a443cbafe2d85942385ebb1cd9fd4c61fd6d5c800a2ac9a", func := "hanaper/hanaperlaw22.HoldTurns", spec := "holdTurns", unfollowed := true, recurses := true, loops := true, apart := false }
def HoldTurnsSaid : Prop := holdTurnsRow.holds Try.pinned (OpenSpec.ofChange holdTurnsSpec)

/-- ITS FALSE NEIGHBOUR: 'it returns false'. Refute it at one input. -/
def holdTurnsWrong : ChangeSpec := { name := "holdTurns", fn := fun _ => fun
  | [d1, d2, d3] => { results := [.lit (.bool false)], args := [d1, d2, d3] }
  | _ => none }
def HoldTurnsWrongFalsely : Prop := holdTurnsRow.holds Try.pinned (OpenSpec.ofChange holdTurnsWrong)

/-- 'hanaperlaw12.InodeGets': WHATEVER THE INPUT: true; the input reads as it did. -/
def inodeGetsSpec : ChangeSpec := { name := "inodeGets", fn := fun _ => fun
  | [d1, d2, d3] => { results := [.lit (.bool true)], args := [d1, d2, d3] }
  | _ => none }
def inodeGetsRow : OpenClaim := { program := "ytgdpabedlghiaaa", sum := "6cce3b8b47a165490a443cbafe2d85942385ebb1cd9fd4c61fd6d5c800a2ac9a", func := "hanaper/hanaperlaw12.InodeGets", spec := "inodeGets", unfollowed := true, recurses := true, apart := false }
def InodeGetsSaid : Prop := inodeGetsRow.holds Try.pinned (OpenSpec.ofChange inodeGetsSpec)

/-- ITS FALSE NEIGHBOUR: 'it returns false'. Refute it at one input. -/
def inodeGetsWrong : ChangeSpec := { name := "inodeGets", fn := fun _ => fun
  | [d1, d2, d3] => { results := [.lit (.bool false)], args := [d1, d2, d3] }
  | _ => none }
def InodeGetsWrongFalsely : Prop := inodeGetsRow.holds Try.pinned (OpenSpec.ofChange inodeGetsWrong)

/-- 'hanaperlaw12.InodeBack': WHATEVER THE INPUT: true; the input reads as it did. -/
def inodeBackSpec : ChangeSpec := { name := "inodeBack", fn := fun _ => fun
  | [d1, d2, d3] => { results := [.lit (.bool true)], args := [d1, d2, d3] }
  | _ => none }
def inodeBackRow : OpenClaim := { program := "ytgdpabedlghiaaa", sum := "6cce3b8b47a165490a443cbafe2d85942385ebb1cd9fd4c61fd6d5c800a2ac9a", func := "hanaper/hanaperlaw12.InodeBack", spec := "inodeBack", unfollowed := true, recurses := true, apart := false }
def InodeBackSaid : Prop := inodeBackRow.holds Try.pinned (OpenSpec.ofChange inodeBackSpec)

/-- ITS FALSE NEIGHBOUR: 'it returns false'. Refute it at one input. -/
def inodeBackWrong : ChangeSpec := { name := "inodeBack", fn := fun _ => fun
  | [d1, d2, d3] => { results := [.lit (.bool false)], args := [d1, d2, d3] }
  | _ => none }
def InodeBackWrongFalsely : Prop := inodeBackRow.holds Try.pinned (OpenSpec.ofChange inodeBackWrong)

/-- 'hanaperlaw22.HoldOn': WHATEVER THE INPUT: true; the input reads as it did. -/
def holdOnSpec : ChangeSpec := { name := "holdOn", fn := fun _ => fun
  | [d1, d2, d3] => { results := [.lit (.bool true)], args := [d1, d2, d3] }
  | _ => none }
def holdOnRow : OpenClaim := { program := "ytgdpabedlghiaaa", sum := "6cce3b8b47a165490a443cbafe2d85942385ebb1cd9fd4c61fd6d5c800a2ac9a", func := "hanaper/hanaperlaw22.HoldOn", spec := "holdOn", unfollowed := true, recurses := true, loops := true, apart := false }
def HoldOnSaid : Prop := holdOnRow.holds Try.pinned (OpenSpec.ofChange holdOnSpec)

/-- ITS FALSE NEIGHBOUR: 'it returns false'. Refute it at one input. -/
def holdOnWrong : ChangeSpec := { name := "holdOn", fn := fun _ => fun
  | [d1, d2, d3] => { results := [.lit (.bool false)], args := [d1, d2, d3] }
  | _ => none }
def HoldOnWrongFalsely : Prop := holdOnRow.holds Try.pinned (OpenSpec.ofChange holdOnWrong)

/-- 'hanaperlaw20.ScopeGets': WHATEVER THE INPUT: true; the input reads as it did. -/
def scopeGetsSpec : ChangeSpec := { name := "scopeGets", fn := fun _ => fun
  | [d1, d2] => { results := [.lit (.bool true)], args := [d1, d2] }
  | _ => none }
def scopeGetsRow : OpenClaim := { program := "ytgdpabedlghiaaa", sum := "6cce3b8b47a165490a443cbafe2d85942385ebb1cd9fd4c61fd6d5c800a2ac9a", func := "hanaper/hanaperlaw20.ScopeGets", spec := "scopeGets", unfollowed := true, recurses := true, loops := true, apart := false }
def ScopeGetsSaid : Prop := scopeGetsRow.holds Try.pinned (OpenSpec.ofChange scopeGetsSpec)

/-- ITS FALSE NEIGHBOUR: 'it returns false'. Refute it at one input. -/
def scopeGetsWrong : ChangeSpec := { name := "scopeGets", fn := fun _ => fun
  | [d1, d2] => { results := [.lit (.bool false)], args := [d1, d2] }
  | _ => none }
def ScopeGetsWrongFalsely : Prop := scopeGetsRow.holds Try.pinned (OpenSpec.ofChange scopeGetsWrong)

/-- 'hanaperlaw20.ScopeBack': WHATEVER THE INPUT: true; the input reads as it did. -/
def scopeBackSpec : ChangeSpec := { name := "scopeBack", fn := fun _ => fun
  | [d1, d2] => { results := [.lit (.bool true)], args := [d1, d2] }
  | _ => none }
def scopeBackRow : OpenClaim := { program := "ytgdpabedlghiaaa", sum := "6cce3b8b47a165490a443cbafe2d85942385ebb1cd9fd4c61fd6d5c800a2ac9a", func := "hanaper/hanaperlaw20.ScopeBack", spec := "scopeBack", unfollowed := true, recurses := true, loops := true, apart := false }
def ScopeBackSaid : Prop := scopeBackRow.holds Try.pinned (OpenSpec.ofChange scopeBackSpec)

/-- ITS FALSE NEIGHBOUR: 'it returns false'. Refute it at one input. -/
def scopeBackWrong : ChangeSpec := { name := "scopeBack", fn := fun _ => fun
  | [d1, d2] => { results := [.lit (.bool false)], args := [d1, d2] }
  | _ => none }
def ScopeBackWrongFalsely : Prop := scopeBackRow.holds Try.pinned (OpenSpec.ofChange scopeBackWrong)

/- THE SECOND FORM. 'bulk': how many values and letters a reading holds, each counted each time it is reached (what is shared counts as often as it is met; a slice's spare places count too). A statement '..UptoSaid' is the law's where the arguments, and the package variables that the reading takes, are together of bulk at most 1048576: NARROWER than '..Said'. Prove '..Said' where nothing that the law and all that it calls make is longer than what came in: it says more and counts as full. Else prove '..UptoSaid'. A law counts once. -/
mutual
def uptoBulk {H : Type} : DataW H → Nat
  | .lit (.string bytes) => bytes.length + 1
  | .lit _ => 1
  | .nil => 1
  | .ptr d => uptoBulk d + 1
  | .slice elems spare => uptoBulkAll elems + uptoBulkAll spare + 1
  | .agg parts => uptoBulkAll parts + 1
  | .iface _ d => uptoBulk d + 1
  | .map entries => uptoBulkEntries entries + 1
  | .held _ => 1
def uptoBulkAll {H : Type} : List (DataW H) → Nat
  | [] => 0
  | d :: r => uptoBulk d + uptoBulkAll r
def uptoBulkEntries {H : Type} : List (Lit × DataW H) → Nat
  | [] => 0
  | x :: r => uptoBulkEntry x + uptoBulkEntries r
def uptoBulkEntry {H : Type} : Lit × DataW H → Nat
  | (.string bytes, d) => bytes.length + uptoBulk d + 1
  | (_, d) => uptoBulk d + 1
 end
def uptoSmall : (H : Type) → List (DataW H) → Bool := fun _ ds => decide (uptoBulkAll ds ≤ 1048576)
def OpenSpec.upto (s : _root_.Go.ChangeSpec) : _root_.Go.OpenSpec := { _root_.Go.OpenSpec.ofChange s with cond := some uptoSmall }

/-- 'hanaperlaw12.InodePuts', WHERE WHAT IT READS IS OF BULK AT MOST 1048576: true; the input reads as it did. -/
def inodePutsUptoRow : OpenClaim := { program := "ytgdpabedlghiaaa", sum := "6cce3b8b47a165490a443cbafe2d85942385ebb1cd9fd4c61fd6d5c800a2ac9a", func := "hanaper/hanaperlaw12.InodePuts", spec := "inodePuts", unfollowed := true, recurses := true, apart := false, narrowed := true }
def InodePutsUptoSaid : Prop := inodePutsUptoRow.holds Try.pinned (OpenSpec.upto inodePutsSpec)

/-- 'hanaperlaw20.ScopePuts', WHERE WHAT IT READS IS OF BULK AT MOST 1048576: true; the input reads as it did. -/
def scopePutsUptoRow : OpenClaim := { program := "ytgdpabedlghiaaa", sum := "6cce3b8b47a165490a443cbafe2d85942385ebb1cd9fd4c61fd6d5c800a2ac9a", func := "hanaper/hanaperlaw20.ScopePuts", spec := "scopePuts", unfollowed := true, recurses := true, loops := true, apart := false, narrowed := true }
def ScopePutsUptoSaid : Prop := scopePutsUptoRow.holds Try.pinned (OpenSpec.upto scopePutsSpec)

/-- 'hanaperlaw20.ScopeMatches', WHERE WHAT IT READS IS OF BULK AT MOST 1048576: true; the input reads as it did. -/
def scopeMatchesUptoRow : OpenClaim := { program := "ytgdpabedlghiaaa", sum := "6cce3b8b47a165490a443cbafe2d85942385ebb1cd9fd4c61fd6d5c800a2ac9a", func := "hanaper/hanaperlaw20.ScopeMatches", spec := "scopeMatches", unfollowed := true, recurses := true, loops := true, apart := false, narrowed := true }
def ScopeMatchesUptoSaid : Prop := scopeMatchesUptoRow.holds Try.pinned (OpenSpec.upto scopeMatchesSpec)

/-- 'hanaperlaw20.ScopeNots', WHERE WHAT IT READS IS OF BULK AT MOST 1048576: true; the input reads as it did. -/
def scopeNotsUptoRow : OpenClaim := { program := "ytgdpabedlghiaaa", sum := "6cce3b8b47a165490a443cbafe2d85942385ebb1cd9fd4c61fd6d5c800a2ac9a", func := "hanaper/hanaperlaw20.ScopeNots", spec := "scopeNots", unfollowed := true, recurses := true, loops := true, apart := false, narrowed := true }
def ScopeNotsUptoSaid : Prop := scopeNotsUptoRow.holds Try.pinned (OpenSpec.upto scopeNotsSpec)

/-- 'hanaperlaw22.HoldFrees', WHERE WHAT IT READS IS OF BULK AT MOST 1048576: true; the input reads as it did. -/
def holdFreesUptoRow : OpenClaim := { program := "ytgdpabedlghiaaa", sum := "6cce3b8b47a165490a443cbafe2d85942385ebb1cd9fd4c61fd6d5c800a2ac9a", func := "hanaper/hanaperlaw22.HoldFrees", spec := "holdFrees", unfollowed := true, recurses := true, loops := true, apart := false, narrowed := true }
def HoldFreesUptoSaid : Prop := holdFreesUptoRow.holds Try.pinned (OpenSpec.upto holdFreesSpec)

/-- 'hanaperlaw22.HoldTurns', WHERE WHAT IT READS IS OF BULK AT MOST 1048576: true; the input reads as it did. -/
def holdTurnsUptoRow : OpenClaim := { program := "ytgdpabedlghiaaa", sum := "6cce3b8b47a165490a443cbafe2d85942385ebb1cd9fd4c61fd6d5c800a2ac9a", func := "hanaper/hanaperlaw22.HoldTurns", spec := "holdTurns", unfollowed := true, recurses := true, loops := true, apart := false, narrowed := true }
def HoldTurnsUptoSaid : Prop := holdTurnsUptoRow.holds Try.pinned (OpenSpec.upto holdTurnsSpec)

/-- 'hanaperlaw12.InodeGets', WHERE WHAT IT READS IS OF BULK AT MOST 1048576: true; the input reads as it did. -/
def inodeGetsUptoRow : OpenClaim := { program := "ytgdpabedlghiaaa", sum := "6cce3b8b47a165490a443cbafe2d85942385ebb1cd9fd4c61fd6d5c800a2ac9a", func := "hanaper/hanaperlaw12.InodeGets", spec := "inodeGets", unfollowed := true, recurses := true, apart := false, narrowed := true }
def InodeGetsUptoSaid : Prop := inodeGetsUptoRow.holds Try.pinned (OpenSpec.upto inodeGetsSpec)

/-- 'hanaperlaw12.InodeBack', WHERE WHAT IT READS IS OF BULK AT MOST 1048576: true; the input reads as it did. -/
def inodeBackUptoRow : OpenClaim := { program := "ytgdpabedlghiaaa", sum := "6cce3b8b47a165490a443cbafe2d85942385ebb1cd9fd4c61fd6d5c800a2ac9a", func := "hanaper/hanaperlaw12.InodeBack", spec := "inodeBack", unfollowed := true, recurses := true, apart := false, narrowed := true }
def InodeBackUptoSaid : Prop := inodeBackUptoRow.holds Try.pinned (OpenSpec.upto inodeBackSpec)

/-- 'hanaperlaw22.HoldOn', WHERE WHAT IT READS IS OF BULK AT MOST 1048576: true; the input reads as it did. -/
def holdOnUptoRow : OpenClaim := { program := "ytgdpabedlghiaaa", sum := "6cce3b8b47a165490a443cbafe2d85942385ebb1cd9fd4c61fd6d5c800a2ac9a", func := "hanaper/hanaperlaw22.HoldOn", spec := "holdOn", unfollowed := true, recurses := true, loops := true, apart := false, narrowed := true }
def HoldOnUptoSaid : Prop := holdOnUptoRow.holds Try.pinned (OpenSpec.upto holdOnSpec)

/-- 'hanaperlaw20.ScopeGets', WHERE WHAT IT READS IS OF BULK AT MOST 1048576: true; the input reads as it did. -/
def scopeGetsUptoRow : OpenClaim := { program := "ytgdpabedlghiaaa", sum := "6cce3b8b47a165490a443cbafe2d85942385ebb1cd9fd4c61fd6d5c800a2ac9a", func := "hanaper/hanaperlaw20.ScopeGets", spec := "scopeGets", unfollowed := true, recurses := true, loops := true, apart := false, narrowed := true }
def ScopeGetsUptoSaid : Prop := scopeGetsUptoRow.holds Try.pinned (OpenSpec.upto scopeGetsSpec)

/-- 'hanaperlaw20.ScopeBack', WHERE WHAT IT READS IS OF BULK AT MOST 1048576: true; the input reads as it did. -/
def scopeBackUptoRow : OpenClaim := { program := "ytgdpabedlghiaaa", sum := "6cce3b8b47a165490a443cbafe2d85942385ebb1cd9fd4c61fd6d5c800a2ac9a", func := "hanaper/hanaperlaw20.ScopeBack", spec := "scopeBack", unfollowed := true, recurses := true, loops := true, apart := false, narrowed := true }
def ScopeBackUptoSaid : Prop := scopeBackUptoRow.holds Try.pinned (OpenSpec.upto scopeBackSpec)

end Rows
end Go.Proofs.Ytgdpabedlghiaaa
