/-
  No cell of these rows narrows 'for every input' (looked for: loops, veiled, ifaces, maps, wideKeys, modest, calm, conditions, laid).
  DERIVED. THE GIVEN ROWS OF THIS SEAT. 8 by the template 'for every input the law returns true; each argument reads behind the call as it read before'; 0 by the template 'total and deterministic' (their statements: YtfpkgdenohcglaaTotals.lean).
  GIVEN WITH THE SEED: the statements are not yours to turn. If you find one false, say at which input.
  Laid BY PROGRAM, IN A SANDBOX (cutbox-rows.mjs): the forced cells as the released guide's own fill.sh prints them over the translation 3bfed3bc0dddc820… (all of the seat's roots in one cut). By AI agents, Wed Nov 11 2026. No macro, syntax, notation, axiom, sorry.
-/
import Derived.Test.YtfpkgdenohcglaaChecked
import GoSem.Claim
import GoSem.ClaimJoined
import GoSem.ClaimMapViews
import Derived.JoinedTies
import Derived.KernelRfl
namespace Go.Proofs.Ytfpkgdenohcglaa
/- THE CELL 'sum', in the pinned program and in every row, IS THE sha256 OF THE DUMP (.gsa) THAT YtfpkgdenohcglaaProg.lean LOADS. Nothing in Lean hashes anything: it is a label: what it is worth is what the hold of that sum in a sandbox is worth. -/
noncomputable def Try.pinned : Pinned := { name := "ytfpkgdenohcglaa", sum := "3bfed3bc0dddc820722be0c34ff1a1dda3449d32fabf8e2a48db4997a4b25648", checked := Try.checked }
namespace Rows
def none {H : Type} : Left H := { results := [], args := [] }

/-- 'hanaperlaw24.ChainAdds': WHATEVER THE INPUT: true; the input reads as it did. -/
def chainAddsSpec : ChangeSpec := { name := "chainAdds", fn := fun _ => fun
  | [d1, d2, d3] => { results := [.lit (.bool true)], args := [d1, d2, d3] }
  | _ => none }
def chainAddsRow : OpenClaim := { program := "ytfpkgdenohcglaa", sum := "3bfed3bc0dddc820722be0c34ff1a1dda3449d32fabf8e2a48db4997a4b25648", func := "hanaper/hanaperlaw24.ChainAdds", spec := "chainAdds", apart := false }
def ChainAddsSaid : Prop := chainAddsRow.holds Try.pinned (OpenSpec.ofChange chainAddsSpec)

/-- ITS FALSE NEIGHBOUR: 'it returns false'. Refute it at one input. -/
def chainAddsWrong : ChangeSpec := { name := "chainAdds", fn := fun _ => fun
  | [d1, d2, d3] => { results := [.lit (.bool false)], args := [d1, d2, d3] }
  | _ => none }
def ChainAddsWrongFalsely : Prop := chainAddsRow.holds Try.pinned (OpenSpec.ofChange chainAddsWrong)

/-- 'hanaperlaw24.ChainOne': WHATEVER THE INPUT: true; the input reads as it did. -/
def chainOneSpec : ChangeSpec := { name := "chainOne", fn := fun _ => fun
  | [d1, d2] => { results := [.lit (.bool true)], args := [d1, d2] }
  | _ => none }
def chainOneRow : OpenClaim := { program := "ytfpkgdenohcglaa", sum := "3bfed3bc0dddc820722be0c34ff1a1dda3449d32fabf8e2a48db4997a4b25648", func := "hanaper/hanaperlaw24.ChainOne", spec := "chainOne", apart := false }
def ChainOneSaid : Prop := chainOneRow.holds Try.pinned (OpenSpec.ofChange chainOneSpec)

/-- ITS FALSE NEIGHBOUR: 'it returns false'. Refute it at one input. -/
def chainOneWrong : ChangeSpec := { name := "chainOne", fn := fun _ => fun
  | [d1, d2] => { results := [.lit (.bool false)], args := [d1, d2] }
  | _ => none }
def ChainOneWrongFalsely : Prop := chainOneRow.holds Try.pinned (OpenSpec.ofChange chainOneWrong)

/-- 'hanaperlaw24.ChainBack': WHATEVER THE INPUT: true; the input reads as it did. -/
def chainBackSpec : ChangeSpec := { name := "chainBack", fn := fun _ => fun
  | [d] => { results := [.lit (.bool true)], args := [d] }
  | _ => none }
def chainBackRow : OpenClaim := { program := "ytfpkgdenohcglaa", sum := "3bfed3bc0dddc820722be0c34ff1a1dda3449d32fabf8e2a48db4997a4b25648", func := "hanaper/hanaperlaw24.ChainBack", spec := "chainBack", apart := false }
def ChainBackSaid : Prop := chainBackRow.holds Try.pinned (OpenSpec.ofChange chainBackSpec)

/-- ITS FALSE NEIGHBOUR: 'it returns false'. Refute it at one input. -/
def chainBackWrong : ChangeSpec := { name := "chainBack", fn := fun _ => fun
  | [d] => { results := [.lit (.bool false)], args := [d] }
  | _ => none }
def ChainBackWrongFalsely : Prop := chainBackRow.holds Try.pinned (OpenSpec.ofChange chainBackWrong)

/-- 'hanaperlaw25.CertMakes': WHATEVER THE INPUT: true; the input reads as it did. -/
def certMakesSpec : ChangeSpec := { name := "certMakes", fn := fun _ => fun
  | [d1, d2, d3] => { results := [.lit (.bool true)], args := [d1, d2, d3] }
  | _ => none }
def certMakesRow : OpenClaim := { program := "ytfpkgdenohcglaa", sum := "3bfed3bc0dddc820722be0c34ff1a1dda3449d32fabf8e2a48db4997a4b25648", func := "hanaper/hanaperlaw25.CertMakes", spec := "certMakes", unfollowed := true, recurses := true, apart := false }
def CertMakesSaid : Prop := certMakesRow.holds Try.pinned (OpenSpec.ofChange certMakesSpec)

/-- ITS FALSE NEIGHBOUR: 'it returns false'. Refute it at one input. -/
def certMakesWrong : ChangeSpec := { name := "certMakes", fn := fun _ => fun
  | [d1, d2, d3] => { results := [.lit (.bool false)], args := [d1, d2, d3] }
  | _ => none }
def CertMakesWrongFalsely : Prop := certMakesRow.holds Try.pinned (OpenSpec.ofChange certMakesWrong)

/-- 'hanaperlaw25.CertTells': WHATEVER THE INPUT: true; the input reads as it did. -/
def certTellsSpec : ChangeSpec := { name := "certTells", fn := fun _ => fun
  | [d1, d2] => { results := [.lit (.bool true)], args := [d1, d2] }
  | _ => none }
def certTellsRow : OpenClaim := { program := "ytfpkgdenohcglaa", sum := "3bfed3bc0dddc820722be0c34ff1a1dda3449d32fabf8e2a48db4997a4b25648", func := "hanaper/hanaperlaw25.CertTells", spec := "certTells", unfollowed := true, recurses := true, apart := false }
def CertTellsSaid : Prop := certTellsRow.holds Try.pinned (OpenSpec.ofChange certTellsSpec)

/-- ITS FALSE NEIGHBOUR: 'it returns false'. Refute it at one input. -/
def certTellsWrong : ChangeSpec := { name := "certTells", fn := fun _ => fun
  | [d1, d2] => { results := [.lit (.bool false)], args := [d1, d2] }
  | _ => none }
def CertTellsWrongFalsely : Prop := certTellsRow.holds Try.pinned (OpenSpec.ofChange certTellsWrong)

/-- 'hanaperlaw24.ChainGets': WHATEVER THE INPUT: true; the input reads as it did. -/
def chainGetsSpec : ChangeSpec := { name := "chainGets", fn := fun _ => fun
  | [d1, d2] => { results := [.lit (.bool true)], args := [d1, d2] }
  | _ => none }
def chainGetsRow : OpenClaim := { program := "ytfpkgdenohcglaa", sum := "3bfed3bc0dddc820722be0c34ff1a1dda3449d32fabf8e2a48db4997a4b25648", func := "hanaper/hanaperlaw24.ChainGets", spec := "chainGets", unfollowed := true, recurses := true, apart := false }
def ChainGetsSaid : Prop := chainGetsRow.holds Try.pinned (OpenSpec.ofChange chainGetsSpec)

/-- ITS FALSE NEIGHBOUR: 'it returns false'. Refute it at one input. -/
def chainGetsWrong : ChangeSpec := { name := "chainGets", fn := fun _ => fun
  | [d1, d2] => { results := [.lit (.bool false)], args := [d1, d2] }
  | _ => none }
def ChainGetsWrongFalsely : Prop := chainGetsRow.holds Try.pinned (OpenSpec.ofChange chainGetsWrong)

/-- 'hanaperlaw25.CertStays': WHATEVER THE INPUT: true; the input reads as it did. -/
def certStaysSpec : ChangeSpec := { name := "certStays", fn := fun _ => fun
  | [d1, d2, d3] => { results := [.lit (.bool true)], args := [d1, d2, d3] }
  | _ => none }
def certStaysRow : OpenClaim := { program := "ytfpkgdenohcglaa", sum := "3bfed3bc0dddc820722be0c34ff1a1dda3449d32fabf8e2a48db4997a4b25648", func := "hanaper/hanaperlaw25.CertStays", spec := "certStays", unfollowed := true, recurses := true, apart := false }
def CertStaysSaid : Prop := certStaysRow.holds Try.pinned (OpenSpec.ofChange certStaysSpec)

/-- ITS FALSE NEIGHBOUR: 'it returns false'. Refute it at one input. -/
def certStaysWrong : ChangeSpec := { name := "certStays", fn := fun _ => fun
  | [d1, d2, d3] => { results := [.lit (.bool false)], args := [d1, d2, d3] }
  | _ => none }
def CertStaysWrongFalsely : Prop := certStaysRow.holds Try.pinned (OpenSpec.ofChange certStaysWrong)

/-- 'hanaperlaw25.CertPuts': WHATEVER THE INPUT: true; the input reads as it did. -/
def certPutsSpec : ChangeSpec := { name := "certPuts", fn := fun _ => fun
  | [d1, d2] => { results := [.lit (.bool true)], args := [d1, d2] }
  | _ => none }
def certPutsRow : OpenClaim := { program := "ytfpkgdenohcglaa", sum := "3bfed3bc0dddc820722be0c34ff1a1dda3449d32fabf8e2a48db4997a4b25648", func := "hanaper/hanaperlaw25.CertPuts", spec := "certPuts", unfollowed := true, recurses := true, apart := false }
def CertPutsSaid : Prop := certPutsRow.holds Try.pinned (OpenSpec.ofChange certPutsSpec)

/-- ITS FALSE NEIGHBOUR: 'it returns false'. Refute it at one input. -/
def certPutsWrong : ChangeSpec := { name := "certPuts", fn := fun _ => fun
  | [d1, d2] => { results := [.lit (.bool false)], args := [d1, d2] }
  | _ => none }
def CertPutsWrongFalsely : Prop := certPutsRow.holds Try.pinned (OpenSpec.ofChange certPutsWrong)

/- THE SECOND FORM. 'bulk': how many values and letters a reading holds, each counted each time it is reached (what is shared counts as often as it is met; a slice's spare places count too). A statement '..UptoSaid' is the law's where the arguments, and the package variables that the reading takes, are together of bulk at most 1048576: NARROWER than '..Said'. Prove '..Said' where nothing that the law and all that it calls make is longer than what came in: it says more and counts as full. Else prove '..UptoSaid'. A law counts once. -/
mutual
def uptoBulk {H : Type} : DataW H → Nat
  | .lit (.string bytes) => bytes.length + 1
  | .lit _ => 1
  | .nil => 1
  | .ptr d => uptoBulk d + 1
  | .slice elems spare => uptoBulkAll elems + uptoBulkAll spare + 1
  | .agg parts => uptoBulkAll parts + 1
  | .iface _ d => uptoBulk d + 1
  | .map entries => uptoBulkEntries entries + 1
  | .held _ => 1
def uptoBulkAll {H : Type} : List (DataW H) → Nat
  | [] => 0
  | d :: r => uptoBulk d + uptoBulkAll r
def uptoBulkEntries {H : Type} : List (Lit × DataW H) → Nat
  | [] => 0
  | x :: r => uptoBulkEntry x + uptoBulkEntries r
def uptoBulkEntry {H : Type} : Lit × DataW H → Nat
  | (.string bytes, d) => bytes.length + uptoBulk d + 1
  | (_, d) => uptoBulk d + 1
 end
def uptoSmall : (H : Type) → List (DataW H) → Bool := fun _ ds => decide (uptoBulkAll ds ≤ 1048576)
def OpenSpec.upto (s : _root_.Go.ChangeSpec) : _root_.Go.OpenSpec := { _root_.Go.OpenSpec.ofChange s with cond := some uptoSmall }

/-- 'hanaperlaw24.ChainAdds', WHERE WHAT IT READS IS OF BULK AT MOST 1048576: true; the input reads as it did. -/
def chainAddsUptoRow : OpenClaim := { program := "ytfpkgdenohcglaa", sum := "3bfed3bc0dddc820722be0c34ff1a1dda3449d32fabf8e2a48db4997a4b25648", func := "hanaper/hanaperlaw24.ChainAdds", spec := "chainAdds", apart := false, narrowed := true }
def ChainAddsUptoSaid : Prop := chainAddsUptoRow.holds Try.pinned (OpenSpec.upto chainAddsSpec)

/-- 'hanaperlaw24.ChainOne', WHERE WHAT IT READS IS OF BULK AT MOST 1048576: true; the input reads as it did. -/
def chainOneUptoRow : OpenClaim := { program := "ytfpkgdenohcglaa", sum := "3bfed3bc0dddc820722be0c34ff1a1dda3449d32fabf8e2a48db4997a4b25648", func := "hanaper/hanaperlaw24.ChainOne", spec := "chainOne", apart := false, narrowed := true }
def ChainOneUptoSaid : Prop := chainOneUptoRow.holds Try.pinned (OpenSpec.upto chainOneSpec)

/-- 'hanaperlaw24.ChainBack', WHERE WHAT IT READS IS OF BULK AT MOST 1048576: true; the input reads as it did. -/
def chainBackUptoRow : OpenClaim := { program := "ytfpkgdenohcglaa", sum := "3bfed3bc0dddc820722be0c34ff1a1dda3449d32fabf8e2a48db4997a4b25648", func := "hanaper/hanaperlaw24.ChainBack", spec := "chainBack", apart := false, narrowed := true }
def ChainBackUptoSaid : Prop := chainBackUptoRow.holds Try.pinned (OpenSpec.upto chainBackSpec)

/-- 'hanaperlaw25.CertMakes', WHERE WHAT IT READS IS OF BULK AT MOST 1048576: true; the input reads as it did. -/
def certMakesUptoRow : OpenClaim := { program := "ytfpkgdenohcglaa", sum := "3bfed3bc0dddc820722be0c34ff1a1dda3449d32fabf8e2a48db4997a4b25648", func := "hanaper/hanaperlaw25.CertMakes", spec := "certMakes", unfollowed := true, recurses := true, apart := false, narrowed := true }
def CertMakesUptoSaid : Prop := certMakesUptoRow.holds Try.pinned (OpenSpec.upto certMakesSpec)

/-- 'hanaperlaw25.CertTells', WHERE WHAT IT READS IS OF BULK AT MOST 1048576: true; the input reads as it did. -/
def certTellsUptoRow : OpenClaim := { program := "ytfpkgdenohcglaa", sum := "3bfed3bc0dddc820722be0c34ff1a1dda3449d32fabf8e2a48db4997a4b25648", func := "hanaper/hanaperlaw25.CertTells", spec := "certTells", unfollowed := true, recurses := true, apart := false, narrowed := true }
def CertTellsUptoSaid : Prop := certTellsUptoRow.holds Try.pinned (OpenSpec.upto certTellsSpec)

/-- 'hanaperlaw24.ChainGets', WHERE WHAT IT READS IS OF BULK AT MOST 1048576: true; the input reads as it did. -/
def chainGetsUptoRow : OpenClaim := { program := "ytfpkgdenohcglaa", sum := "3bfed3bc0dddc820722be0c34ff1a1dda3449d32fabf8e2a48db4997a4b25648", func := "hanaper/hanaperlaw24.ChainGets", spec := "chainGets", unfollowed := true, recurses := true, apart := false, narrowed := true }
def ChainGetsUptoSaid : Prop := chainGetsUptoRow.holds Try.pinned (OpenSpec.upto chainGetsSpec)

/-- 'hanaperlaw25.CertStays', WHERE WHAT IT READS IS OF BULK AT MOST 1048576: true; the input reads as it did. -/
def certStaysUptoRow : OpenClaim := { program := "ytfpkgdenohcglaa", sum := "3bfed3bc0dddc820722be0c34ff1a1dda3449d32fabf8e2a48db4997a4b25648", func := "hanaper/hanaperlaw25.CertStays", spec := "certStays", unfollowed := true, recurses := true, apart := false, narrowed := true }
def CertStaysUptoSaid : Prop := certStaysUptoRow.holds Try.pinned (OpenSpec.upto certStaysSpec)

/-- 'hanaperlaw25.CertPuts', WHERE WHAT IT READS IS OF BULK AT MOST 1048576: true; the input reads as it did. -/
def certPutsUptoRow : OpenClaim := { program := "ytfpkgdenohcglaa", sum := "3bfed3bc0dddc820722be0c34ff1a1dda3449d32fabf8e2a48db4997a4b25648", func := "hanaper/hanaperlaw25.CertPuts", spec := "certPuts", unfollowed := true, recurses := true, apart := false, narrowed := true }
def CertPutsUptoSaid : Prop := certPutsUptoRow.holds Try.pinned (OpenSpec.upto certPutsSpec)

end Rows
end Go.Proofs.Ytfpkgdenohcglaa
