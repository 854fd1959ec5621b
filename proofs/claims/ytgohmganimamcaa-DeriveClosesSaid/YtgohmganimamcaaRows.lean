/-
  NARROWER THAN 'FOR EVERY INPUT', by the rows' own cells (each row's printed sentence says how): TermPuts: loops · TermBack: loops · DeriveCloses: loops · DeriveMore: loops · DeriveSecret: loops · TermSame: loops.
  DERIVED. THE GIVEN ROWS OF THIS SEAT. 7 by the template 'for every input the law returns true; each argument reads behind the call as it read before'; 0 by the template 'total and deterministic' (their statements: YtgohmganimamcaaTotals.lean).
  GIVEN WITH THE SEED: the statements are not yours to turn. If you find one false, say at which input.
  Laid BY PROGRAM, IN A SANDBOX (cutbox-rows.mjs): the forced cells as the released guide's own fill.sh prints them over the translation dd029a4a8cd9d06b… (all of the seat's roots in one cut). By AI agents, Wed Nov 11 2026. No macro, syntax, notation, axiom, sorry.
-/
import Derived.Test.YtgohmganimamcaaChecked
import GoSem.Claim
import GoSem.ClaimJoined
import GoSem.ClaimMapViews
import Derived.JoinedTies
import Derived.KernelRfl
namespace Go.Proofs.Ytgohmganimamcaa
/- THE CELL 'sum', in the pinned program and in every row, IS THE sha256 OF THE DUMP (.gsa) THAT YtgohmganimamcaaProg.lean LOADS. Nothing in Lean hashes anything: it is a label: what it is worth is what the hold of that sum in a sandbox is worth. -/
noncomputable def Try.pinned : Pinned := { name := "ytgohmganimamcaa", sum := "dd029a4a8cd9d06b4444cf6a72e17e32476a845a63912a7786c47c192f91807a", checked := Try.checked }
namespace Rows
def none {H : Type} : Left H := { results := [], args := [] }

/-- 'hanaperlaw05.TermPuts': WHATEVER THE INPUT: true; the input reads as it did. -/
def termPutsSpec : ChangeSpec := { name := "termPuts", fn := fun _ => fun
  | [d] => { results := [.lit (.bool true)], args := [d] }
  | _ => none }
def termPutsRow : OpenClaim := { program := "ytgohmganimamcaa", sum := "dd029a4a8cd9d06b4444cf6a72e17e32476a845a63912a7786c47c192f91807a", func := "hanaper/hanaperlaw05.TermPuts", spec := "termPuts", unfollowed := true, recurses := true, loops := true, apart := false }
def TermPutsSaid : Prop := termPutsRow.holds Try.pinned (OpenSpec.ofChange termPutsSpec)

/-- ITS FALSE NEIGHBOUR: 'it returns false'. Refute it at one input. -/
def termPutsWrong : ChangeSpec := { name := "termPuts", fn := fun _ => fun
  | [d] => { results := [.lit (.bool false)], args := [d] }
  | _ => none }
def TermPutsWrongFalsely : Prop := termPutsRow.holds Try.pinned (OpenSpec.ofChange termPutsWrong)

/-- 'hanaperlaw05.TermGets': WHATEVER THE INPUT: true; the input reads as it did. -/
def termGetsSpec : ChangeSpec := { name := "termGets", fn := fun _ => fun
  | [d] => { results := [.lit (.bool true)], args := [d] }
  | _ => none }
def termGetsRow : OpenClaim := { program := "ytgohmganimamcaa", sum := "dd029a4a8cd9d06b4444cf6a72e17e32476a845a63912a7786c47c192f91807a", func := "hanaper/hanaperlaw05.TermGets", spec := "termGets", unfollowed := true, recurses := true, apart := false }
def TermGetsSaid : Prop := termGetsRow.holds Try.pinned (OpenSpec.ofChange termGetsSpec)

/-- ITS FALSE NEIGHBOUR: 'it returns false'. Refute it at one input. -/
def termGetsWrong : ChangeSpec := { name := "termGets", fn := fun _ => fun
  | [d] => { results := [.lit (.bool false)], args := [d] }
  | _ => none }
def TermGetsWrongFalsely : Prop := termGetsRow.holds Try.pinned (OpenSpec.ofChange termGetsWrong)

/-- 'hanaperlaw05.TermBack': WHATEVER THE INPUT: true; the input reads as it did. -/
def termBackSpec : ChangeSpec := { name := "termBack", fn := fun _ => fun
  | [d1, d2, d3] => { results := [.lit (.bool true)], args := [d1, d2, d3] }
  | _ => none }
def termBackRow : OpenClaim := { program := "ytgohmganimamcaa", sum := "dd029a4a8cd9d06b4444cf6a72e17e32476a845a63912a7786c47c192f91807a", func := "hanaper/hanaperlaw05.TermBack", spec := "termBack", unfollowed := true, recurses := true, loops := true, apart := false }
def TermBackSaid : Prop := termBackRow.holds Try.pinned (OpenSpec.ofChange termBackSpec)

/-- ITS FALSE NEIGHBOUR: 'it returns false'. Refute it at one input. -/
def termBackWrong : ChangeSpec := { name := "termBack", fn := fun _ => fun
  | [d1, d2, d3] => { results := [.lit (.bool false)], args := [d1, d2, d3] }
  | _ => none }
def TermBackWrongFalsely : Prop := termBackRow.holds Try.pinned (OpenSpec.ofChange termBackWrong)

/-- 'hanaperlaw06.DeriveCloses': WHATEVER THE INPUT: true; the input reads as it did. -/
def deriveClosesSpec : ChangeSpec := { name := "deriveCloses", fn := fun _ => fun
  | [d] => { results := [.lit (.bool true)], args := [d] }
  | _ => none }
def deriveClosesRow : OpenClaim := { program := "ytgohmganimamcaa", sum := "dd029a4a8cd9d06b4444cf6a72e17e32476a845a63912a7786c47c192f91807a", func := "hanaper/hanaperlaw06.DeriveCloses", spec := "deriveCloses", unfollowed := true, recurses := true, loops := true, apart := false }
def DeriveClosesSaid : Prop := deriveClosesRow.holds Try.pinned (OpenSpec.ofChange deriveClosesSpec)

/-- ITS FALSE NEIGHBOUR: 'it returns false'. Refute it at one input. -/
def deriveClosesWrong : ChangeSpec := { name := "deriveCloses", fn := fun _ => fun
  | [d] => { results := [.lit (.bool false)], args := [d] }
  | _ => none }
def DeriveClosesWrongFalsely : Prop := deriveClosesRow.holds Try.pinned (OpenSpec.ofChange deriveClosesWrong)

/-- 'hanaperlaw06.DeriveMore': WHATEVER THE INPUT: true; the input reads as it did. -/
def deriveMoreSpec : ChangeSpec := { name := "deriveMore", fn := fun _ => fun
  | [d1, d2, d3] => { results := [.lit (.bool true)], args := [d1, d2, d3] }
  | _ => none }
def deriveMoreRow : OpenClaim := { program := "ytgohmganimamcaa", sum := "dd029a4a8cd9d06b4444cf6a72e17e32476a845a63912a7786c47c192f91807a", func := "hanaper/hanaperlaw06.DeriveMore", spec := "deriveMore", unfollowed := true, recurses := true, loops := true, apart := false }
def DeriveMoreSaid : Prop := deriveMoreRow.holds Try.pinned (OpenSpec.ofChange deriveMoreSpec)

/-- ITS FALSE NEIGHBOUR: 'it returns false'. Refute it at one input. -/
def deriveMoreWrong : ChangeSpec := { name := "deriveMore", fn := fun _ => fun
  | [d1, d2, d3] => { results := [.lit (.bool false)], args := [d1, d2, d3] }
  | _ => none }
def DeriveMoreWrongFalsely : Prop := deriveMoreRow.holds Try.pinned (OpenSpec.ofChange deriveMoreWrong)

/-- 'hanaperlaw06.DeriveSecret': WHATEVER THE INPUT: true; the input reads as it did. -/
def deriveSecretSpec : ChangeSpec := { name := "deriveSecret", fn := fun _ => fun
  | [d1, d2, d3] => { results := [.lit (.bool true)], args := [d1, d2, d3] }
  | _ => none }
def deriveSecretRow : OpenClaim := { program := "ytgohmganimamcaa", sum := "dd029a4a8cd9d06b4444cf6a72e17e32476a845a63912a7786c47c192f91807a", func := "hanaper/hanaperlaw06.DeriveSecret", spec := "deriveSecret", unfollowed := true, recurses := true, loops := true, apart := false }
def DeriveSecretSaid : Prop := deriveSecretRow.holds Try.pinned (OpenSpec.ofChange deriveSecretSpec)

/-- ITS FALSE NEIGHBOUR: 'it returns false'. Refute it at one input. -/
def deriveSecretWrong : ChangeSpec := { name := "deriveSecret", fn := fun _ => fun
  | [d1, d2, d3] => { results := [.lit (.bool false)], args := [d1, d2, d3] }
  | _ => none }
def DeriveSecretWrongFalsely : Prop := deriveSecretRow.holds Try.pinned (OpenSpec.ofChange deriveSecretWrong)

/-- 'hanaperlaw05.TermSame': WHATEVER THE INPUT: true; the input reads as it did. -/
def termSameSpec : ChangeSpec := { name := "termSame", fn := fun _ => fun
  | [d1, d2, d3] => { results := [.lit (.bool true)], args := [d1, d2, d3] }
  | _ => none }
def termSameRow : OpenClaim := { program := "ytgohmganimamcaa", sum := "dd029a4a8cd9d06b4444cf6a72e17e32476a845a63912a7786c47c192f91807a", func := "hanaper/hanaperlaw05.TermSame", spec := "termSame", unfollowed := true, recurses := true, loops := true, apart := false }
def TermSameSaid : Prop := termSameRow.holds Try.pinned (OpenSpec.ofChange termSameSpec)

/-- ITS FALSE NEIGHBOUR: 'it returns false'. Refute it at one input. -/
def termSameWrong : ChangeSpec := { name := "termSame", fn := fun _ => fun
  | [d1, d2, d3] => { results := [.lit (.bool false)], args := [d1, d2, d3] }
  | _ => none }
def TermSameWrongFalsely : Prop := termSameRow.holds Try.pinned (OpenSpec.ofChange termSameWrong)

/- THE SECOND FORM. 'bulk': how many values and letters a reading holds, each counted each time it is reached (what is shared counts as often as it is met; a slice's spare places count too). A statement '..UptoSaid' is the law's where the arguments, and the package variables that the reading takes, are together of bulk at most 1048576: NARROWER than '..Said'. Prove '..Said' where nothing that the law and all that it calls make is longer than what came in: it says more and counts as full. Else prove '..UptoSaid'. A law counts once. -/
mutual
def uptoBulk {H : Type} : DataW H → Nat
  | .lit (.string bytes) => bytes.length + 1
  | .lit _ => 1
  | .nil => 1
  | .ptr d => uptoBulk d + 1
  | .slice elems spare => uptoBulkAll elems + uptoBulkAll spare + 1
  | .agg parts => uptoBulkAll parts + 1
  | .iface _ d => uptoBulk d + 1
  | .map entries => uptoBulkEntries entries + 1
  | .held _ => 1
def uptoBulkAll {H : Type} : List (DataW H) → Nat
  | [] => 0
  | d :: r => uptoBulk d + uptoBulkAll r
def uptoBulkEntries {H : Type} : List (Lit × DataW H) → Nat
  | [] => 0
  | x :: r => uptoBulkEntry x + uptoBulkEntries r
def uptoBulkEntry {H : Type} : Lit × DataW H → Nat
  | (.string bytes, d) => bytes.length + uptoBulk d + 1
  | (_, d) => uptoBulk d + 1
 end
def uptoSmall : (H : Type) → List (DataW H) → Bool := fun _ ds => decide (uptoBulkAll ds ≤ 1048576)
def OpenSpec.upto (s : _root_.Go.ChangeSpec) : _root_.Go.OpenSpec := { _root_.Go.OpenSpec.ofChange s with cond := some uptoSmall }

/-- 'hanaperlaw05.TermPuts', WHERE WHAT IT READS IS OF BULK AT MOST 1048576: true; the input reads as it did. -/
def termPutsUptoRow : OpenClaim := { program := "ytgohmganimamcaa", sum := "dd029a4a8cd9d06b4444cf6a72e17e32476a845a63912a7786c47c192f91807a", func := "hanaper/hanaperlaw05.TermPuts", spec := "termPuts", unfollowed := true, recurses := true, loops := true, apart := false, narrowed := true }
def TermPutsUptoSaid : Prop := termPutsUptoRow.holds Try.pinned (OpenSpec.upto termPutsSpec)

/-- 'hanaperlaw05.TermGets', WHERE WHAT IT READS IS OF BULK AT MOST 1048576: true; the input reads as it did. -/
def termGetsUptoRow : OpenClaim := { program := "ytgohmganimamcaa", sum := "dd029a4a8cd9d06b4444cf6a72e17e32476a845a63912a7786c47c192f91807a", func := "hanaper/hanaperlaw05.TermGets", spec := "termGets", unfollowed := true, recurses := true, apart := false, narrowed := true }
def TermGetsUptoSaid : Prop := termGetsUptoRow.holds Try.pinned (OpenSpec.upto termGetsSpec)

/-- 'hanaperlaw05.TermBack', WHERE WHAT IT READS IS OF BULK AT MOST 1048576: true; the input reads as it did. -/
def termBackUptoRow : OpenClaim := { program := "ytgohmganimamcaa", sum := "dd029a4a8cd9d06b4444cf6a72e17e32476a845a63912a7786c47c192f91807a", func := "hanaper/hanaperlaw05.TermBack", spec := "termBack", unfollowed := true, recurses := true, loops := true, apart := false, narrowed := true }
def TermBackUptoSaid : Prop := termBackUptoRow.holds Try.pinned (OpenSpec.upto termBackSpec)

/-- 'hanaperlaw06.DeriveCloses', WHERE WHAT IT READS IS OF BULK AT MOST 1048576: true; the input reads as it did. -/
def deriveClosesUptoRow : OpenClaim := { program := "ytgohmganimamcaa", sum := "dd029a4a8cd9d06b4444cf6a72e17e32476a845a63912a7786c47c192f91807a", func := "hanaper/hanaperlaw06.DeriveCloses", spec := "deriveCloses", unfollowed := true, recurses := true, loops := true, apart := false, narrowed := true }
def DeriveClosesUptoSaid : Prop := deriveClosesUptoRow.holds Try.pinned (OpenSpec.upto deriveClosesSpec)

/-- 'hanaperlaw06.DeriveMore', WHERE WHAT IT READS IS OF BULK AT MOST 1048576: true; the input reads as it did. -/
def deriveMoreUptoRow : OpenClaim := { program := "ytgohmganimamcaa", sum := "dd029a4a8cd9d06b4444cf6a72e17e32476a845a63912a7786c47c192f91807a", func := "hanaper/hanaperlaw06.DeriveMore", spec := "deriveMore", unfollowed := true, recurses := true, loops := true, apart := false, narrowed := true }
def DeriveMoreUptoSaid : Prop := deriveMoreUptoRow.holds Try.pinned (OpenSpec.upto deriveMoreSpec)

/-- 'hanaperlaw06.DeriveSecret', WHERE WHAT IT READS IS OF BULK AT MOST 1048576: true; the input reads as it did. -/
def deriveSecretUptoRow : OpenClaim := { program := "ytgohmganimamcaa", sum := "dd029a4a8cd9d06b4444cf6a72e17e32476a845a63912a7786c47c192f91807a", func := "hanaper/hanaperlaw06.DeriveSecret", spec := "deriveSecret", unfollowed := true, recurses := true, loops := true, apart := false, narrowed := true }
def DeriveSecretUptoSaid : Prop := deriveSecretUptoRow.holds Try.pinned (OpenSpec.upto deriveSecretSpec)

/-- 'hanaperlaw05.TermSame', WHERE WHAT IT READS IS OF BULK AT MOST 1048576: true; the input reads as it did. -/
def termSameUptoRow : OpenClaim := { program := "ytgohmganimamcaa", sum := "dd029a4a8cd9d06b4444cf6a72e17e32476a845a63912a7786c47c192f91807a", func := "hanaper/hanaperlaw05.TermSame", spec := "termSame", unfollowed := true, recurses := true, loops := true, apart := false, narrowed := true }
def TermSameUptoSaid : Prop := termSameUptoRow.holds Try.pinned (OpenSpec.upto termSameSpec)

end Rows
end Go.Proofs.Ytgohmganimamcaa
