/-
  No cell of these rows narrows 'for every input' (looked for: loops, veiled, ifaces, maps, wideKeys, modest, calm, conditions, laid).
  DERIVED. THE GIVEN ROWS OF THIS SEAT. 9 by the template 'for every input the law returns true; each argument reads behind the call as it read before'; 0 by the template 'total and deterministic' (their statements: YtpejoaefnnbghaaTotals.lean).
  GIVEN WITH THE SEED: the statements are not yours to turn. If you find one false, say at which input.
  Laid BY PROGRAM, IN A SANDBOX (cutbox-rows.mjs): the forced cells as the released guide's own fill.sh prints them over the translation 283c93eb08629a84… (all of the seat's roots in one cut). By AI agents, Wed Nov 11 2026. No macro, syntax, notation, axiom, sorry.
-/
import Derived.Test.YtpejoaefnnbghaaChecked
import GoSem.Claim
import GoSem.ClaimJoined
import GoSem.ClaimMapViews
import Derived.JoinedTies
import Derived.KernelRfl
namespace Go.Proofs.Ytpejoaefnnbghaa
/- THE CELL 'sum', in the pinned program and in every row, IS THE sha256 OF THE DUMP (.gsa) THAT YtpejoaefnnbghaaProg.lean LOADS. Nothing in Lean hashes anything: it is a label: what it is worth is what the hold of that sum in a sandbox is worth. -/
noncomputable def Try.pinned : Pinned := { name := "ytpejoaefnnbghaa", sum := "283c93eb08629a84ff6466846a90adc745617a8304d27c2939a3dbe8ae66a6c7", checked := Try.checked }
namespace Rows
def none {H : Type} : Left H := { results := [], args := [] }

/-- 'theodolitelaw15.MomentMeans': WHATEVER THE INPUT: true; the input reads as it did. -/
def momentMeansSpec : ChangeSpec := { name := "momentMeans", fn := fun _ => fun
  | [d1, d2, d3, d4] => { results := [.lit (.bool true)], args := [d1, d2, d3, d4] }
  | _ => none }
def momentMeansRow : OpenClaim := { program := "ytpejoaefnnbghaa", sum := "283c93eb08629a84ff6466846a90adc745617a8304d27c2939a3dbe8ae66a6c7", func := "theodolite/theodolitelaw15.MomentMeans", spec := "momentMeans", inPlace := ["math/bits.Sub64", "math/bits.Add64"], unfollowed := true, recurses := true, named := ["math/bits.divideError", "math/bits.overflowError"], apart := false }
def MomentMeansSaid : Prop := momentMeansRow.holds Try.pinned (OpenSpec.ofChange momentMeansSpec)

/-- ITS FALSE NEIGHBOUR: 'it returns false'. Refute it at one input. -/
def momentMeansWrong : ChangeSpec := { name := "momentMeans", fn := fun _ => fun
  | [d1, d2, d3, d4] => { results := [.lit (.bool false)], args := [d1, d2, d3, d4] }
  | _ => none }
def MomentMeansWrongFalsely : Prop := momentMeansRow.holds Try.pinned (OpenSpec.ofChange momentMeansWrong)

/-- 'theodolitelaw15.MomentVaries': WHATEVER THE INPUT: true; the input reads as it did. -/
def momentVariesSpec : ChangeSpec := { name := "momentVaries", fn := fun _ => fun
  | [d1, d2, d3] => { results := [.lit (.bool true)], args := [d1, d2, d3] }
  | _ => none }
def momentVariesRow : OpenClaim := { program := "ytpejoaefnnbghaa", sum := "283c93eb08629a84ff6466846a90adc745617a8304d27c2939a3dbe8ae66a6c7", func := "theodolite/theodolitelaw15.MomentVaries", spec := "momentVaries", inPlace := ["math/bits.Sub64", "math/bits.Add64"], unfollowed := true, recurses := true, named := ["math/bits.divideError", "math/bits.overflowError"], apart := false }
def MomentVariesSaid : Prop := momentVariesRow.holds Try.pinned (OpenSpec.ofChange momentVariesSpec)

/-- ITS FALSE NEIGHBOUR: 'it returns false'. Refute it at one input. -/
def momentVariesWrong : ChangeSpec := { name := "momentVaries", fn := fun _ => fun
  | [d1, d2, d3] => { results := [.lit (.bool false)], args := [d1, d2, d3] }
  | _ => none }
def MomentVariesWrongFalsely : Prop := momentVariesRow.holds Try.pinned (OpenSpec.ofChange momentVariesWrong)

/-- 'theodolitelaw15.MomentPeaks': WHATEVER THE INPUT: true; the input reads as it did. -/
def momentPeaksSpec : ChangeSpec := { name := "momentPeaks", fn := fun _ => fun
  | [d1, d2, d3, d4, d5] => { results := [.lit (.bool true)], args := [d1, d2, d3, d4, d5] }
  | _ => none }
def momentPeaksRow : OpenClaim := { program := "ytpejoaefnnbghaa", sum := "283c93eb08629a84ff6466846a90adc745617a8304d27c2939a3dbe8ae66a6c7", func := "theodolite/theodolitelaw15.MomentPeaks", spec := "momentPeaks", inPlace := ["math/bits.Sub64", "math/bits.Add64"], unfollowed := true, recurses := true, named := ["math/bits.divideError", "math/bits.overflowError"], apart := false }
def MomentPeaksSaid : Prop := momentPeaksRow.holds Try.pinned (OpenSpec.ofChange momentPeaksSpec)

/-- ITS FALSE NEIGHBOUR: 'it returns false'. Refute it at one input. -/
def momentPeaksWrong : ChangeSpec := { name := "momentPeaks", fn := fun _ => fun
  | [d1, d2, d3, d4, d5] => { results := [.lit (.bool false)], args := [d1, d2, d3, d4, d5] }
  | _ => none }
def MomentPeaksWrongFalsely : Prop := momentPeaksRow.holds Try.pinned (OpenSpec.ofChange momentPeaksWrong)

/-- 'theodolitelaw15.MomentEven': WHATEVER THE INPUT: true; the input reads as it did. -/
def momentEvenSpec : ChangeSpec := { name := "momentEven", fn := fun _ => fun
  | [d1, d2, d3] => { results := [.lit (.bool true)], args := [d1, d2, d3] }
  | _ => none }
def momentEvenRow : OpenClaim := { program := "ytpejoaefnnbghaa", sum := "283c93eb08629a84ff6466846a90adc745617a8304d27c2939a3dbe8ae66a6c7", func := "theodolite/theodolitelaw15.MomentEven", spec := "momentEven", inPlace := ["math/bits.Sub64", "math/bits.Add64"], unfollowed := true, recurses := true, named := ["math/bits.divideError", "math/bits.overflowError"], apart := false }
def MomentEvenSaid : Prop := momentEvenRow.holds Try.pinned (OpenSpec.ofChange momentEvenSpec)

/-- ITS FALSE NEIGHBOUR: 'it returns false'. Refute it at one input. -/
def momentEvenWrong : ChangeSpec := { name := "momentEven", fn := fun _ => fun
  | [d1, d2, d3] => { results := [.lit (.bool false)], args := [d1, d2, d3] }
  | _ => none }
def MomentEvenWrongFalsely : Prop := momentEvenRow.holds Try.pinned (OpenSpec.ofChange momentEvenWrong)

/-- 'theodolitelaw19.RegridChooses': WHATEVER THE INPUT: true; the input reads as it did. -/
def regridChoosesSpec : ChangeSpec := { name := "regridChooses", fn := fun _ => fun
  | [d] => { results := [.lit (.bool true)], args := [d] }
  | _ => none }
def regridChoosesRow : OpenClaim := { program := "ytpejoaefnnbghaa", sum := "283c93eb08629a84ff6466846a90adc745617a8304d27c2939a3dbe8ae66a6c7", func := "theodolite/theodolitelaw19.RegridChooses", spec := "regridChooses", inPlace := ["math/bits.Sub64", "math/bits.Add64"], unfollowed := true, recurses := true, named := ["math/bits.divideError", "math/bits.overflowError"], apart := false }
def RegridChoosesSaid : Prop := regridChoosesRow.holds Try.pinned (OpenSpec.ofChange regridChoosesSpec)

/-- ITS FALSE NEIGHBOUR: 'it returns false'. Refute it at one input. -/
def regridChoosesWrong : ChangeSpec := { name := "regridChooses", fn := fun _ => fun
  | [d] => { results := [.lit (.bool false)], args := [d] }
  | _ => none }
def RegridChoosesWrongFalsely : Prop := regridChoosesRow.holds Try.pinned (OpenSpec.ofChange regridChoosesWrong)

/-- 'theodolitelaw19.RegridDoes': WHATEVER THE INPUT: true; the input reads as it did. -/
def regridDoesSpec : ChangeSpec := { name := "regridDoes", fn := fun _ => fun
  | [d1, d2, d3, d4, d5] => { results := [.lit (.bool true)], args := [d1, d2, d3, d4, d5] }
  | _ => none }
def regridDoesRow : OpenClaim := { program := "ytpejoaefnnbghaa", sum := "283c93eb08629a84ff6466846a90adc745617a8304d27c2939a3dbe8ae66a6c7", func := "theodolite/theodolitelaw19.RegridDoes", spec := "regridDoes", inPlace := ["math/bits.Sub64", "math/bits.Add64"], unfollowed := true, recurses := true, named := ["math/bits.divideError", "math/bits.overflowError"], apart := false }
def RegridDoesSaid : Prop := regridDoesRow.holds Try.pinned (OpenSpec.ofChange regridDoesSpec)

/-- ITS FALSE NEIGHBOUR: 'it returns false'. Refute it at one input. -/
def regridDoesWrong : ChangeSpec := { name := "regridDoes", fn := fun _ => fun
  | [d1, d2, d3, d4, d5] => { results := [.lit (.bool false)], args := [d1, d2, d3, d4, d5] }
  | _ => none }
def RegridDoesWrongFalsely : Prop := regridDoesRow.holds Try.pinned (OpenSpec.ofChange regridDoesWrong)

/-- 'theodolitelaw26.FixSure': WHATEVER THE INPUT: true; the input reads as it did. -/
def fixSureSpec : ChangeSpec := { name := "fixSure", fn := fun _ => fun
  | [d1, d2, d3, d4, d5] => { results := [.lit (.bool true)], args := [d1, d2, d3, d4, d5] }
  | _ => none }
def fixSureRow : OpenClaim := { program := "ytpejoaefnnbghaa", sum := "283c93eb08629a84ff6466846a90adc745617a8304d27c2939a3dbe8ae66a6c7", func := "theodolite/theodolitelaw26.FixSure", spec := "fixSure", inPlace := ["math/bits.Sub64", "math/bits.Add64"], unfollowed := true, recurses := true, named := ["math/bits.divideError", "math/bits.overflowError"], apart := false }
def FixSureSaid : Prop := fixSureRow.holds Try.pinned (OpenSpec.ofChange fixSureSpec)

/-- ITS FALSE NEIGHBOUR: 'it returns false'. Refute it at one input. -/
def fixSureWrong : ChangeSpec := { name := "fixSure", fn := fun _ => fun
  | [d1, d2, d3, d4, d5] => { results := [.lit (.bool false)], args := [d1, d2, d3, d4, d5] }
  | _ => none }
def FixSureWrongFalsely : Prop := fixSureRow.holds Try.pinned (OpenSpec.ofChange fixSureWrong)

/-- 'theodolitelaw26.FixCorrects': WHATEVER THE INPUT: true; the input reads as it did. -/
def fixCorrectsSpec : ChangeSpec := { name := "fixCorrects", fn := fun _ => fun
  | [d1, d2, d3, d4, d5, d6, d7] => { results := [.lit (.bool true)], args := [d1, d2, d3, d4, d5, d6, d7] }
  | _ => none }
def fixCorrectsRow : OpenClaim := { program := "ytpejoaefnnbghaa", sum := "283c93eb08629a84ff6466846a90adc745617a8304d27c2939a3dbe8ae66a6c7", func := "theodolite/theodolitelaw26.FixCorrects", spec := "fixCorrects", inPlace := ["math/bits.Sub64", "math/bits.Add64"], unfollowed := true, recurses := true, named := ["math/bits.divideError", "math/bits.overflowError"], apart := false }
def FixCorrectsSaid : Prop := fixCorrectsRow.holds Try.pinned (OpenSpec.ofChange fixCorrectsSpec)

/-- ITS FALSE NEIGHBOUR: 'it returns false'. Refute it at one input. -/
def fixCorrectsWrong : ChangeSpec := { name := "fixCorrects", fn := fun _ => fun
  | [d1, d2, d3, d4, d5, d6, d7] => { results := [.lit (.bool false)], args := [d1, d2, d3, d4, d5, d6, d7] }
  | _ => none }
def FixCorrectsWrongFalsely : Prop := fixCorrectsRow.holds Try.pinned (OpenSpec.ofChange fixCorrectsWrong)

/-- 'theodolitelaw26.FixTells': WHATEVER THE INPUT: true; the input reads as it did. -/
def fixTellsSpec : ChangeSpec := { name := "fixTells", fn := fun _ => fun
  | [d1, d2, d3, d4, d5, d6, d7] => { results := [.lit (.bool true)], args := [d1, d2, d3, d4, d5, d6, d7] }
  | _ => none }
def fixTellsRow : OpenClaim := { program := "ytpejoaefnnbghaa", sum := "283c93eb08629a84ff6466846a90adc745617a8304d27c2939a3dbe8ae66a6c7", func := "theodolite/theodolitelaw26.FixTells", spec := "fixTells", inPlace := ["math/bits.Sub64", "math/bits.Add64"], unfollowed := true, recurses := true, named := ["math/bits.divideError", "math/bits.overflowError"], apart := false }
def FixTellsSaid : Prop := fixTellsRow.holds Try.pinned (OpenSpec.ofChange fixTellsSpec)

/-- ITS FALSE NEIGHBOUR: 'it returns false'. Refute it at one input. -/
def fixTellsWrong : ChangeSpec := { name := "fixTells", fn := fun _ => fun
  | [d1, d2, d3, d4, d5, d6, d7] => { results := [.lit (.bool false)], args := [d1, d2, d3, d4, d5, d6, d7] }
  | _ => none }
def FixTellsWrongFalsely : Prop := fixTellsRow.holds Try.pinned (OpenSpec.ofChange fixTellsWrong)

/- THE SECOND FORM. 'bulk': how many values and letters a reading holds, each counted each time it is reached (what is shared counts as often as it is met; a slice's spare places count too). A statement '..UptoSaid' is the law's where the arguments, and the package variables that the reading takes, are together of bulk at most 1048576: NARROWER than '..Said'. Prove '..Said' where nothing that the law and all that it calls make is longer than what came in: it says more and counts as full. Else prove '..UptoSaid'. A law counts once. -/
mutual
def uptoBulk {H : Type} : DataW H → Nat
  | .lit (.string bytes) => bytes.length + 1
  | .lit _ => 1
  | .nil => 1
  | .ptr d => uptoBulk d + 1
  | .slice elems spare => uptoBulkAll elems + uptoBulkAll spare + 1
  | .agg parts => uptoBulkAll parts + 1
  | .iface _ d => uptoBulk d + 1
  | .map entries => uptoBulkEntries entries + 1
  | .held _ => 1
def uptoBulkAll {H : Type} : List (DataW H) → Nat
  | [] => 0
  | d :: r => uptoBulk d + uptoBulkAll r
def uptoBulkEntries {H : Type} : List (Lit × DataW H) → Nat
  | [] => 0
  | x :: r => uptoBulkEntry x + uptoBulkEntries r
def uptoBulkEntry {H : Type} : Lit × DataW H → Nat
  | (.string bytes, d) => bytes.length + uptoBulk d + 1
  | (_, d) => uptoBulk d + 1
 end
def uptoSmall : (H : Type) → List (DataW H) → Bool := fun _ ds => decide (uptoBulkAll ds ≤ 1048576)
def OpenSpec.upto (s : _root_.Go.ChangeSpec) : _root_.Go.OpenSpec := { _root_.Go.OpenSpec.ofChange s with cond := some uptoSmall }

/-- 'theodolitelaw15.MomentMeans', WHERE WHAT IT READS IS OF BULK AT MOST 1048576: true; the input reads as it did. -/
def momentMeansUptoRow : OpenClaim := { program := "ytpejoaefnnbghaa", sum := "283c93eb08629a84ff6466846a90adc745617a8304d27c2939a3dbe8ae66a6c7", func := "theodolite/theodolitelaw15.MomentMeans", spec := "momentMeans", inPlace := ["math/bits.Sub64", "math/bits.Add64"], unfollowed := true, recurses := true, named := ["math/bits.divideError", "math/bits.overflowError"], apart := false, narrowed := true }
def MomentMeansUptoSaid : Prop := momentMeansUptoRow.holds Try.pinned (OpenSpec.upto momentMeansSpec)

/-- 'theodolitelaw15.MomentVaries', WHERE WHAT IT READS IS OF BULK AT MOST 1048576: true; the input reads as it did. -/
def momentVariesUptoRow : OpenClaim := { program := "ytpejoaefnnbghaa", sum := "283c93eb08629a84ff6466846a90adc745617a8304d27c2939a3dbe8ae66a6c7", func := "theodolite/theodolitelaw15.MomentVaries", spec := "momentVaries", inPlace := ["math/bits.Sub64", "math/bits.Add64"], unfollowed := true, recurses := true, named := ["math/bits.divideError", "math/bits.overflowError"], apart := false, narrowed := true }
def MomentVariesUptoSaid : Prop := momentVariesUptoRow.holds Try.pinned (OpenSpec.upto momentVariesSpec)

/-- 'theodolitelaw15.MomentPeaks', WHERE WHAT IT READS IS OF BULK AT MOST 1048576: true; the input reads as it did. -/
def momentPeaksUptoRow : OpenClaim := { program := "ytpejoaefnnbghaa", sum := "283c93eb08629a84ff6466846a90adc745617a8304d27c2939a3dbe8ae66a6c7", func := "theodolite/theodolitelaw15.MomentPeaks", spec := "momentPeaks", inPlace := ["math/bits.Sub64", "math/bits.Add64"], unfollowed := true, recurses := true, named := ["math/bits.divideError", "math/bits.overflowError"], apart := false, narrowed := true }
def MomentPeaksUptoSaid : Prop := momentPeaksUptoRow.holds Try.pinned (OpenSpec.upto momentPeaksSpec)

/-- 'theodolitelaw15.MomentEven', WHERE WHAT IT READS IS OF BULK AT MOST 1048576: true; the input reads as it did. -/
def momentEvenUptoRow : OpenClaim := { program := "ytpejoaefnnbghaa", sum := "283c93eb08629a84ff6466846a90adc745617a8304d27c2939a3dbe8ae66a6c7", func := "theodolite/theodolitelaw15.MomentEven", spec := "momentEven", inPlace := ["math/bits.Sub64", "math/bits.Add64"], unfollowed := true, recurses := true, named := ["math/bits.divideError", "math/bits.overflowError"], apart := false, narrowed := true }
def MomentEvenUptoSaid : Prop := momentEvenUptoRow.holds Try.pinned (OpenSpec.upto momentEvenSpec)

/-- 'theodolitelaw19.RegridChooses', WHERE WHAT IT READS IS OF BULK AT MOST 1048576: true; the input reads as it did. -/
def regridChoosesUptoRow : OpenClaim := { program := "ytpejoaefnnbghaa", sum := "283c93eb08629a84ff6466846a90adc745617a8304d27c2939a3dbe8ae66a6c7", func := "theodolite/theodolitelaw19.RegridChooses", spec := "regridChooses", inPlace := ["math/bits.Sub64", "math/bits.Add64"], unfollowed := true, recurses := true, named := ["math/bits.divideError", "math/bits.overflowError"], apart := false, narrowed := true }
def RegridChoosesUptoSaid : Prop := regridChoosesUptoRow.holds Try.pinned (OpenSpec.upto regridChoosesSpec)

/-- 'theodolitelaw19.RegridDoes', WHERE WHAT IT READS IS OF BULK AT MOST 1048576: true; the input reads as it did. -/
def regridDoesUptoRow : OpenClaim := { program := "ytpejoaefnnbghaa", sum := "283c93eb08629a84ff6466846a90adc745617a8304d27c2939a3dbe8ae66a6c7", func := "theodolite/theodolitelaw19.RegridDoes", spec := "regridDoes", inPlace := ["math/bits.Sub64", "math/bits.Add64"], unfollowed := true, recurses := true, named := ["math/bits.divideError", "math/bits.overflowError"], apart := false, narrowed := true }
def RegridDoesUptoSaid : Prop := regridDoesUptoRow.holds Try.pinned (OpenSpec.upto regridDoesSpec)

/-- 'theodolitelaw26.FixSure', WHERE WHAT IT READS IS OF BULK AT MOST 1048576: true; the input reads as it did. -/
def fixSureUptoRow : OpenClaim := { program := "ytpejoaefnnbghaa", sum := "283c93eb08629a84ff6466846a90adc745617a8304d27c2939a3dbe8ae66a6c7", func := "theodolite/theodolitelaw26.FixSure", spec := "fixSure", inPlace := ["math/bits.Sub64", "math/bits.Add64"], unfollowed := true, recurses := true, named := ["math/bits.divideError", "math/bits.overflowError"], apart := false, narrowed := true }
def FixSureUptoSaid : Prop := fixSureUptoRow.holds Try.pinned (OpenSpec.upto fixSureSpec)

/-- 'theodolitelaw26.FixCorrects', WHERE WHAT IT READS IS OF BULK AT MOST 1048576: true; the input reads as it did. -/
def fixCorrectsUptoRow : OpenClaim := { program := "ytpejoaefnnbghaa", sum := "283c93eb08629a84ff6466846a90adc745617a8304d27c2939a3dbe8ae66a6c7", func := "theodolite/theodolitelaw26.FixCorrects", spec := "fixCorrects", inPlace := ["math/bits.Sub64", "math/bits.Add64"], unfollowed := true, recurses := true, named := ["math/bits.divideError", "math/bits.overflowError"], apart := false, narrowed := true }
def FixCorrectsUptoSaid : Prop := fixCorrectsUptoRow.holds Try.pinned (OpenSpec.upto fixCorrectsSpec)

/-- 'theodolitelaw26.FixTells', WHERE WHAT IT READS IS OF BULK AT MOST 1048576: true; the input reads as it did. -/
def fixTellsUptoRow : OpenClaim := { program := "ytpejoaefnnbghaa", sum := "283c93eb08629a84ff6466846a90adc745617a8304d27c2939a3dbe8ae66a6c7", func := "theodolite/theodolitelaw26.FixTells", spec := "fixTells", inPlace := ["math/bits.Sub64", "math/bits.Add64"], unfollowed := true, recurses := true, named := ["math/bits.divideError", "math/bits.overflowError"], apart := false, narrowed := true }
def FixTellsUptoSaid : Prop := fixTellsUptoRow.holds Try.pinned (OpenSpec.upto fixTellsSpec)

end Rows
end Go.Proofs.Ytpejoaefnnbghaa
