/-
  No cell of these rows narrows 'for every input' (looked for: loops, veiled, ifaces, maps, wideKeys, modest, calm, conditions, laid).
  DERIVED. THE GIVEN ROWS OF THIS SEAT. 11 by the template 'for every input the law returns true; each argument reads behind the call as it read before'; 0 by the template 'total and deterministic' (their statements: YteancdipmpmjpaaTotals.lean).
  GIVEN WITH THE SEED: the statements are not yours to turn. If you find one false, say at which input.
  Laid BY PROGRAM, IN A SANDBOX (cutbox-rows.mjs): the forced cells as the released guide's own fill.sh prints them over the translation 159ca02e5318411c… (all of the seat's roots in one cut). By AI agents, Wed Nov 11 2026. No macro, syntax, notation, axiom, sorry.
-/
import Derived.Test.YteancdipmpmjpaaChecked
import GoSem.Claim
import GoSem.ClaimJoined
import GoSem.ClaimMapViews
import Derived.JoinedTies
import Derived.KernelRfl
namespace Go.Proofs.Yteancdipmpmjpaa
/- THE CELL 'sum', in the pinned program and in every row, IS THE sha256 OF THE DUMP (.gsa) THAT YteancdipmpmjpaaProg.lean LOADS. Nothing in Lean hashes anything: it is a label: what it is worth is what the hold of that sum in a sandbox is worth. -/
noncomputable def Try.pinned : Pinned := { name := "yteancdipmpmjpaa", sum := "159ca02e5318411cfe2ca789ec11b1ab24009c3c67b0d475aeed8d0b52660aa6", checked := Try.checked }
namespace Rows
def none {H : Type} : Left H := { results := [], args := [] }

/-- 'theodolitelaw18.LedgerTells': WHATEVER THE INPUT: true; the input reads as it did. -/
def ledgerTellsSpec : ChangeSpec := { name := "ledgerTells", fn := fun _ => fun
  | [d1, d2, d3, d4, d5] => { results := [.lit (.bool true)], args := [d1, d2, d3, d4, d5] }
  | _ => none }
def ledgerTellsRow : OpenClaim := { program := "yteancdipmpmjpaa", sum := "159ca02e5318411cfe2ca789ec11b1ab24009c3c67b0d475aeed8d0b52660aa6", func := "theodolite/theodolitelaw18.LedgerTells", spec := "ledgerTells", inPlace := ["math/bits.Sub64"], named := ["math/bits.divideError", "math/bits.overflowError"], apart := false }
def LedgerTellsSaid : Prop := ledgerTellsRow.holds Try.pinned (OpenSpec.ofChange ledgerTellsSpec)

/-- ITS FALSE NEIGHBOUR: 'it returns false'. Refute it at one input. -/
def ledgerTellsWrong : ChangeSpec := { name := "ledgerTells", fn := fun _ => fun
  | [d1, d2, d3, d4, d5] => { results := [.lit (.bool false)], args := [d1, d2, d3, d4, d5] }
  | _ => none }
def LedgerTellsWrongFalsely : Prop := ledgerTellsRow.holds Try.pinned (OpenSpec.ofChange ledgerTellsWrong)

/-- 'theodolitelaw18.LedgerKeeps': WHATEVER THE INPUT: true; the input reads as it did. -/
def ledgerKeepsSpec : ChangeSpec := { name := "ledgerKeeps", fn := fun _ => fun
  | [d1, d2, d3, d4, d5, d6] => { results := [.lit (.bool true)], args := [d1, d2, d3, d4, d5, d6] }
  | _ => none }
def ledgerKeepsRow : OpenClaim := { program := "yteancdipmpmjpaa", sum := "159ca02e5318411cfe2ca789ec11b1ab24009c3c67b0d475aeed8d0b52660aa6", func := "theodolite/theodolitelaw18.LedgerKeeps", spec := "ledgerKeeps", inPlace := ["math/bits.Sub64"], named := ["math/bits.divideError", "math/bits.overflowError"], apart := false }
def LedgerKeepsSaid : Prop := ledgerKeepsRow.holds Try.pinned (OpenSpec.ofChange ledgerKeepsSpec)

/-- ITS FALSE NEIGHBOUR: 'it returns false'. Refute it at one input. -/
def ledgerKeepsWrong : ChangeSpec := { name := "ledgerKeeps", fn := fun _ => fun
  | [d1, d2, d3, d4, d5, d6] => { results := [.lit (.bool false)], args := [d1, d2, d3, d4, d5, d6] }
  | _ => none }
def LedgerKeepsWrongFalsely : Prop := ledgerKeepsRow.holds Try.pinned (OpenSpec.ofChange ledgerKeepsWrong)

/-- 'theodolitelaw18.LedgerHolds': WHATEVER THE INPUT: true; the input reads as it did. -/
def ledgerHoldsSpec : ChangeSpec := { name := "ledgerHolds", fn := fun _ => fun
  | [d1, d2, d3, d4, d5] => { results := [.lit (.bool true)], args := [d1, d2, d3, d4, d5] }
  | _ => none }
def ledgerHoldsRow : OpenClaim := { program := "yteancdipmpmjpaa", sum := "159ca02e5318411cfe2ca789ec11b1ab24009c3c67b0d475aeed8d0b52660aa6", func := "theodolite/theodolitelaw18.LedgerHolds", spec := "ledgerHolds", inPlace := ["math/bits.Sub64", "math/bits.Add64"], unfollowed := true, recurses := true, named := ["math/bits.divideError", "math/bits.overflowError"], apart := false }
def LedgerHoldsSaid : Prop := ledgerHoldsRow.holds Try.pinned (OpenSpec.ofChange ledgerHoldsSpec)

/-- ITS FALSE NEIGHBOUR: 'it returns false'. Refute it at one input. -/
def ledgerHoldsWrong : ChangeSpec := { name := "ledgerHolds", fn := fun _ => fun
  | [d1, d2, d3, d4, d5] => { results := [.lit (.bool false)], args := [d1, d2, d3, d4, d5] }
  | _ => none }
def LedgerHoldsWrongFalsely : Prop := ledgerHoldsRow.holds Try.pinned (OpenSpec.ofChange ledgerHoldsWrong)

/-- 'theodolitelaw14.GridChecks': WHATEVER THE INPUT: true; the input reads as it did. -/
def gridChecksSpec : ChangeSpec := { name := "gridChecks", fn := fun _ => fun
  | [d1, d2, d3, d4, d5, d6] => { results := [.lit (.bool true)], args := [d1, d2, d3, d4, d5, d6] }
  | _ => none }
def gridChecksRow : OpenClaim := { program := "yteancdipmpmjpaa", sum := "159ca02e5318411cfe2ca789ec11b1ab24009c3c67b0d475aeed8d0b52660aa6", func := "theodolite/theodolitelaw14.GridChecks", spec := "gridChecks", inPlace := ["math/bits.Sub64", "math/bits.Add64"], unfollowed := true, recurses := true, named := ["math/bits.divideError", "math/bits.overflowError"], apart := false }
def GridChecksSaid : Prop := gridChecksRow.holds Try.pinned (OpenSpec.ofChange gridChecksSpec)

/-- ITS FALSE NEIGHBOUR: 'it returns false'. Refute it at one input. -/
def gridChecksWrong : ChangeSpec := { name := "gridChecks", fn := fun _ => fun
  | [d1, d2, d3, d4, d5, d6] => { results := [.lit (.bool false)], args := [d1, d2, d3, d4, d5, d6] }
  | _ => none }
def GridChecksWrongFalsely : Prop := gridChecksRow.holds Try.pinned (OpenSpec.ofChange gridChecksWrong)

/-- 'theodolitelaw14.GridSpreads': WHATEVER THE INPUT: true; the input reads as it did. -/
def gridSpreadsSpec : ChangeSpec := { name := "gridSpreads", fn := fun _ => fun
  | [d1, d2, d3, d4] => { results := [.lit (.bool true)], args := [d1, d2, d3, d4] }
  | _ => none }
def gridSpreadsRow : OpenClaim := { program := "yteancdipmpmjpaa", sum := "159ca02e5318411cfe2ca789ec11b1ab24009c3c67b0d475aeed8d0b52660aa6", func := "theodolite/theodolitelaw14.GridSpreads", spec := "gridSpreads", inPlace := ["math/bits.Sub64", "math/bits.Add64"], unfollowed := true, recurses := true, named := ["math/bits.divideError", "math/bits.overflowError"], apart := false }
def GridSpreadsSaid : Prop := gridSpreadsRow.holds Try.pinned (OpenSpec.ofChange gridSpreadsSpec)

/-- ITS FALSE NEIGHBOUR: 'it returns false'. Refute it at one input. -/
def gridSpreadsWrong : ChangeSpec := { name := "gridSpreads", fn := fun _ => fun
  | [d1, d2, d3, d4] => { results := [.lit (.bool false)], args := [d1, d2, d3, d4] }
  | _ => none }
def GridSpreadsWrongFalsely : Prop := gridSpreadsRow.holds Try.pinned (OpenSpec.ofChange gridSpreadsWrong)

/-- 'theodolitelaw14.GridWeighs': WHATEVER THE INPUT: true; the input reads as it did. -/
def gridWeighsSpec : ChangeSpec := { name := "gridWeighs", fn := fun _ => fun
  | [d1, d2, d3, d4] => { results := [.lit (.bool true)], args := [d1, d2, d3, d4] }
  | _ => none }
def gridWeighsRow : OpenClaim := { program := "yteancdipmpmjpaa", sum := "159ca02e5318411cfe2ca789ec11b1ab24009c3c67b0d475aeed8d0b52660aa6", func := "theodolite/theodolitelaw14.GridWeighs", spec := "gridWeighs", inPlace := ["math/bits.Sub64", "math/bits.Add64"], unfollowed := true, recurses := true, named := ["math/bits.divideError", "math/bits.overflowError"], apart := false }
def GridWeighsSaid : Prop := gridWeighsRow.holds Try.pinned (OpenSpec.ofChange gridWeighsSpec)

/-- ITS FALSE NEIGHBOUR: 'it returns false'. Refute it at one input. -/
def gridWeighsWrong : ChangeSpec := { name := "gridWeighs", fn := fun _ => fun
  | [d1, d2, d3, d4] => { results := [.lit (.bool false)], args := [d1, d2, d3, d4] }
  | _ => none }
def GridWeighsWrongFalsely : Prop := gridWeighsRow.holds Try.pinned (OpenSpec.ofChange gridWeighsWrong)

/-- 'theodolitelaw14.GridCuts': WHATEVER THE INPUT: true; the input reads as it did. -/
def gridCutsSpec : ChangeSpec := { name := "gridCuts", fn := fun _ => fun
  | [d1, d2, d3, d4, d5, d6, d7, d8, d9] => { results := [.lit (.bool true)], args := [d1, d2, d3, d4, d5, d6, d7, d8, d9] }
  | _ => none }
def gridCutsRow : OpenClaim := { program := "yteancdipmpmjpaa", sum := "159ca02e5318411cfe2ca789ec11b1ab24009c3c67b0d475aeed8d0b52660aa6", func := "theodolite/theodolitelaw14.GridCuts", spec := "gridCuts", inPlace := ["math/bits.Sub64", "math/bits.Add64"], unfollowed := true, recurses := true, named := ["math/bits.divideError", "math/bits.overflowError"], apart := false }
def GridCutsSaid : Prop := gridCutsRow.holds Try.pinned (OpenSpec.ofChange gridCutsSpec)

/-- ITS FALSE NEIGHBOUR: 'it returns false'. Refute it at one input. -/
def gridCutsWrong : ChangeSpec := { name := "gridCuts", fn := fun _ => fun
  | [d1, d2, d3, d4, d5, d6, d7, d8, d9] => { results := [.lit (.bool false)], args := [d1, d2, d3, d4, d5, d6, d7, d8, d9] }
  | _ => none }
def GridCutsWrongFalsely : Prop := gridCutsRow.holds Try.pinned (OpenSpec.ofChange gridCutsWrong)

/-- 'theodolitelaw14.GridBack': WHATEVER THE INPUT: true; the input reads as it did. -/
def gridBackSpec : ChangeSpec := { name := "gridBack", fn := fun _ => fun
  | [d1, d2, d3, d4] => { results := [.lit (.bool true)], args := [d1, d2, d3, d4] }
  | _ => none }
def gridBackRow : OpenClaim := { program := "yteancdipmpmjpaa", sum := "159ca02e5318411cfe2ca789ec11b1ab24009c3c67b0d475aeed8d0b52660aa6", func := "theodolite/theodolitelaw14.GridBack", spec := "gridBack", inPlace := ["math/bits.Sub64", "math/bits.Add64"], unfollowed := true, recurses := true, named := ["math/bits.divideError", "math/bits.overflowError"], apart := false }
def GridBackSaid : Prop := gridBackRow.holds Try.pinned (OpenSpec.ofChange gridBackSpec)

/-- ITS FALSE NEIGHBOUR: 'it returns false'. Refute it at one input. -/
def gridBackWrong : ChangeSpec := { name := "gridBack", fn := fun _ => fun
  | [d1, d2, d3, d4] => { results := [.lit (.bool false)], args := [d1, d2, d3, d4] }
  | _ => none }
def GridBackWrongFalsely : Prop := gridBackRow.holds Try.pinned (OpenSpec.ofChange gridBackWrong)

/-- 'theodolitelaw17.ExactDoes': WHATEVER THE INPUT: true; the input reads as it did. -/
def exactDoesSpec : ChangeSpec := { name := "exactDoes", fn := fun _ => fun
  | [d1, d2, d3, d4] => { results := [.lit (.bool true)], args := [d1, d2, d3, d4] }
  | _ => none }
def exactDoesRow : OpenClaim := { program := "yteancdipmpmjpaa", sum := "159ca02e5318411cfe2ca789ec11b1ab24009c3c67b0d475aeed8d0b52660aa6", func := "theodolite/theodolitelaw17.ExactDoes", spec := "exactDoes", unfollowed := true, recurses := true, apart := false }
def ExactDoesSaid : Prop := exactDoesRow.holds Try.pinned (OpenSpec.ofChange exactDoesSpec)

/-- ITS FALSE NEIGHBOUR: 'it returns false'. Refute it at one input. -/
def exactDoesWrong : ChangeSpec := { name := "exactDoes", fn := fun _ => fun
  | [d1, d2, d3, d4] => { results := [.lit (.bool false)], args := [d1, d2, d3, d4] }
  | _ => none }
def ExactDoesWrongFalsely : Prop := exactDoesRow.holds Try.pinned (OpenSpec.ofChange exactDoesWrong)

/-- 'theodolitelaw17.ExactOver': WHATEVER THE INPUT: true; the input reads as it did. -/
def exactOverSpec : ChangeSpec := { name := "exactOver", fn := fun _ => fun
  | [d1, d2, d3, d4, d5, d6] => { results := [.lit (.bool true)], args := [d1, d2, d3, d4, d5, d6] }
  | _ => none }
def exactOverRow : OpenClaim := { program := "yteancdipmpmjpaa", sum := "159ca02e5318411cfe2ca789ec11b1ab24009c3c67b0d475aeed8d0b52660aa6", func := "theodolite/theodolitelaw17.ExactOver", spec := "exactOver", unfollowed := true, recurses := true, apart := false }
def ExactOverSaid : Prop := exactOverRow.holds Try.pinned (OpenSpec.ofChange exactOverSpec)

/-- ITS FALSE NEIGHBOUR: 'it returns false'. Refute it at one input. -/
def exactOverWrong : ChangeSpec := { name := "exactOver", fn := fun _ => fun
  | [d1, d2, d3, d4, d5, d6] => { results := [.lit (.bool false)], args := [d1, d2, d3, d4, d5, d6] }
  | _ => none }
def ExactOverWrongFalsely : Prop := exactOverRow.holds Try.pinned (OpenSpec.ofChange exactOverWrong)

/-- 'theodolitelaw17.ExactTriangle': WHATEVER THE INPUT: true; the input reads as it did. -/
def exactTriangleSpec : ChangeSpec := { name := "exactTriangle", fn := fun _ => fun
  | [d1, d2, d3, d4, d5, d6, d7] => { results := [.lit (.bool true)], args := [d1, d2, d3, d4, d5, d6, d7] }
  | _ => none }
def exactTriangleRow : OpenClaim := { program := "yteancdipmpmjpaa", sum := "159ca02e5318411cfe2ca789ec11b1ab24009c3c67b0d475aeed8d0b52660aa6", func := "theodolite/theodolitelaw17.ExactTriangle", spec := "exactTriangle", unfollowed := true, recurses := true, apart := false }
def ExactTriangleSaid : Prop := exactTriangleRow.holds Try.pinned (OpenSpec.ofChange exactTriangleSpec)

/-- ITS FALSE NEIGHBOUR: 'it returns false'. Refute it at one input. -/
def exactTriangleWrong : ChangeSpec := { name := "exactTriangle", fn := fun _ => fun
  | [d1, d2, d3, d4, d5, d6, d7] => { results := [.lit (.bool false)], args := [d1, d2, d3, d4, d5, d6, d7] }
  | _ => none }
def ExactTriangleWrongFalsely : Prop := exactTriangleRow.holds Try.pinned (OpenSpec.ofChange exactTriangleWrong)

/- THE SECOND FORM. 'bulk': how many values and letters a reading holds, each counted each time it is reached (what is shared counts as often as it is met; a slice's spare places count too). A statement '..UptoSaid' is the law's where the arguments, and the package variables that the reading takes, are together of bulk at most 1048576: NARROWER than '..Said'. Prove '..Said' where nothing that the law and all that it calls make is longer than what came in: it says more and counts as full. Else prove '..UptoSaid'. A law counts once. -/
mutual
def uptoBulk {H : Type} : DataW H → Nat
  | .lit (.string bytes) => bytes.length + 1
  | .lit _ => 1
  | .nil => 1
  | .ptr d => uptoBulk d + 1
  | .slice elems spare => uptoBulkAll elems + uptoBulkAll spare + 1
  | .agg parts => uptoBulkAll parts + 1
  | .iface _ d => uptoBulk d + 1
  | .map entries => uptoBulkEntries entries + 1
  | .held _ => 1
def uptoBulkAll {H : Type} : List (DataW H) → Nat
  | [] => 0
  | d :: r => uptoBulk d + uptoBulkAll r
def uptoBulkEntries {H : Type} : List (Lit × DataW H) → Nat
  | [] => 0
  | x :: r => uptoBulkEntry x + uptoBulkEntries r
def uptoBulkEntry {H : Type} : Lit × DataW H → Nat
  | (.string bytes, d) => bytes.length + uptoBulk d + 1
  | (_, d) => uptoBulk d + 1
 end
def uptoSmall : (H : Type) → List (DataW H) → Bool := fun _ ds => decide (uptoBulkAll ds ≤ 1048576)
def OpenSpec.upto (s : _root_.Go.ChangeSpec) : _root_.Go.OpenSpec := { _root_.Go.OpenSpec.ofChange s with cond := some uptoSmall }

/-- 'theodolitelaw18.LedgerTells', WHERE WHAT IT READS IS OF BULK AT MOST 1048576: true; the input reads as it did. -/
def ledgerTellsUptoRow : OpenClaim := { program := "yteancdipmpmjpaa", sum := "159ca02e5318411cfe2ca789ec11b1ab24009c3c67b0d475aeed8d0b52660aa6", func := "theodolite/theodolitelaw18.LedgerTells", spec := "ledgerTells", inPlace := ["math/bits.Sub64"], named := ["math/bits.divideError", "math/bits.overflowError"], apart := false, narrowed := true }
def LedgerTellsUptoSaid : Prop := ledgerTellsUptoRow.holds Try.pinned (OpenSpec.upto ledgerTellsSpec)

/-- 'theodolitelaw18.LedgerKeeps', WHERE WHAT IT READS IS OF BULK AT MOST 1048576: true; the input reads as it did. -/
def ledgerKeepsUptoRow : OpenClaim := { program := "yteancdipmpmjpaa", sum := "159ca02e5318411cfe2ca789ec11b1ab24009c3c67b0d475aeed8d0b52660aa6", func := "theodolite/theodolitelaw18.LedgerKeeps", spec := "ledgerKeeps", inPlace := ["math/bits.Sub64"], named := ["math/bits.divideError", "math/bits.overflowError"], apart := false, narrowed := true }
def LedgerKeepsUptoSaid : Prop := ledgerKeepsUptoRow.holds Try.pinned (OpenSpec.upto ledgerKeepsSpec)

/-- 'theodolitelaw18.LedgerHolds', WHERE WHAT IT READS IS OF BULK AT MOST 1048576: true; the input reads as it did. -/
def ledgerHoldsUptoRow : OpenClaim := { program := "yteancdipmpmjpaa", sum := "159ca02e5318411cfe2ca789ec11b1ab24009c3c67b0d475aeed8d0b52660aa6", func := "theodolite/theodolitelaw18.LedgerHolds", spec := "ledgerHolds", inPlace := ["math/bits.Sub64", "math/bits.Add64"], unfollowed := true, recurses := true, named := ["math/bits.divideError", "math/bits.overflowError"], apart := false, narrowed := true }
def LedgerHoldsUptoSaid : Prop := ledgerHoldsUptoRow.holds Try.pinned (OpenSpec.upto ledgerHoldsSpec)

/-- 'theodolitelaw14.GridChecks', WHERE WHAT IT READS IS OF BULK AT MOST 1048576: true; the input reads as it did. -/
def gridChecksUptoRow : OpenClaim := { program := "yteancdipmpmjpaa", sum := "159ca02e5318411cfe2ca789ec11b1ab24009c3c67b0d475aeed8d0b52660aa6", func := "theodolite/theodolitelaw14.GridChecks", spec := "gridChecks", inPlace := ["math/bits.Sub64", "math/bits.Add64"], unfollowed := true, recurses := true, named := ["math/bits.divideError", "math/bits.overflowError"], apart := false, narrowed := true }
def GridChecksUptoSaid : Prop := gridChecksUptoRow.holds Try.pinned (OpenSpec.upto gridChecksSpec)

/-- 'theodolitelaw14.GridSpreads', WHERE WHAT IT READS IS OF BULK AT MOST 1048576: true; the input reads as it did. -/
def gridSpreadsUptoRow : OpenClaim := { program := "yteancdipmpmjpaa", sum := "159ca02e5318411cfe2ca789ec11b1ab24009c3c67b0d475aeed8d0b52660aa6", func := "theodolite/theodolitelaw14.GridSpreads", spec := "gridSpreads", inPlace := ["math/bits.Sub64", "math/bits.Add64"], unfollowed := true, recurses := true, named := ["math/bits.divideError", "math/bits.overflowError"], apart := false, narrowed := true }
def GridSpreadsUptoSaid : Prop := gridSpreadsUptoRow.holds Try.pinned (OpenSpec.upto gridSpreadsSpec)

/-- 'theodolitelaw14.GridWeighs', WHERE WHAT IT READS IS OF BULK AT MOST 1048576: true; the input reads as it did. -/
def gridWeighsUptoRow : OpenClaim := { program := "yteancdipmpmjpaa", sum := "159ca02e5318411cfe2ca789ec11b1ab24009c3c67b0d475aeed8d0b52660aa6", func := "theodolite/theodolitelaw14.GridWeighs", spec := "gridWeighs", inPlace := ["math/bits.Sub64", "math/bits.Add64"], unfollowed := true, recurses := true, named := ["math/bits.divideError", "math/bits.overflowError"], apart := false, narrowed := true }
def GridWeighsUptoSaid : Prop := gridWeighsUptoRow.holds Try.pinned (OpenSpec.upto gridWeighsSpec)

/-- 'theodolitelaw14.GridCuts', WHERE WHAT IT READS IS OF BULK AT MOST 1048576: true; the input reads as it did. -/
def gridCutsUptoRow : OpenClaim := { program := "yteancdipmpmjpaa", sum := "159ca02e5318411cfe2ca789ec11b1ab24009c3c67b0d475aeed8d0b52660aa6", func := "theodolite/theodolitelaw14.GridCuts", spec := "gridCuts", inPlace := ["math/bits.Sub64", "math/bits.Add64"], unfollowed := true, recurses := true, named := ["math/bits.divideError", "math/bits.overflowError"], apart := false, narrowed := true }
def GridCutsUptoSaid : Prop := gridCutsUptoRow.holds Try.pinned (OpenSpec.upto gridCutsSpec)

/-- 'theodolitelaw14.GridBack', WHERE WHAT IT READS IS OF BULK AT MOST 1048576: true; the input reads as it did. -/
def gridBackUptoRow : OpenClaim := { program := "yteancdipmpmjpaa", sum := "159ca02e5318411cfe2ca789ec11b1ab24009c3c67b0d475aeed8d0b52660aa6", func := "theodolite/theodolitelaw14.GridBack", spec := "gridBack", inPlace := ["math/bits.Sub64", "math/bits.Add64"], unfollowed := true, recurses := true, named := ["math/bits.divideError", "math/bits.overflowError"], apart := false, narrowed := true }
def GridBackUptoSaid : Prop := gridBackUptoRow.holds Try.pinned (OpenSpec.upto gridBackSpec)

/-- 'theodolitelaw17.ExactDoes', WHERE WHAT IT READS IS OF BULK AT MOST 1048576: true; the input reads as it did. -/
def exactDoesUptoRow : OpenClaim := { program := "yteancdipmpmjpaa", sum := "159ca02e5318411cfe2ca789ec11b1ab24009c3c67b0d475aeed8d0b52660aa6", func := "theodolite/theodolitelaw17.ExactDoes", spec := "exactDoes", unfollowed := true, recurses := true, apart := false, narrowed := true }
def ExactDoesUptoSaid : Prop := exactDoesUptoRow.holds Try.pinned (OpenSpec.upto exactDoesSpec)

/-- 'theodolitelaw17.ExactOver', WHERE WHAT IT READS IS OF BULK AT MOST 1048576: true; the input reads as it did. -/
def exactOverUptoRow : OpenClaim := { program := "yteancdipmpmjpaa", sum := "159ca02e5318411cfe2ca789ec11b1ab24009c3c67b0d475aeed8d0b52660aa6", func := "theodolite/theodolitelaw17.ExactOver", spec := "exactOver", unfollowed := true, recurses := true, apart := false, narrowed := true }
def ExactOverUptoSaid : Prop := exactOverUptoRow.holds Try.pinned (OpenSpec.upto exactOverSpec)

/-- 'theodolitelaw17.ExactTriangle', WHERE WHAT IT READS IS OF BULK AT MOST 1048576: true; the input reads as it did. -/
def exactTriangleUptoRow : OpenClaim := { program := "yteancdipmpmjpaa", sum := "159ca02e5318411cfe2ca789ec11b1ab24009c3c67b0d475aeed8d0b52660aa6", func := "theodolite/theodolitelaw17.ExactTriangle", spec := "exactTriangle", unfollowed := true, recurses := true, apart := false, narrowed := true }
def ExactTriangleUptoSaid : Prop := exactTriangleUptoRow.holds Try.pinned (OpenSpec.upto exactTriangleSpec)

end Rows
end Go.Proofs.Yteancdipmpmjpaa
