/-
  No cell of these rows narrows 'for every input' (looked for: loops, veiled, ifaces, maps, wideKeys, modest, calm, conditions, laid).
  DERIVED. THE GIVEN ROWS OF THIS SEAT. 4 by the template 'for every input the law returns true; each argument reads behind the call as it read before'; 0 by the template 'total and deterministic' (their statements: YtpbginihkhfdmaaTotals.lean).
  GIVEN WITH THE SEED: the statements are not yours to turn. If you find one false, say at which input.
  Laid BY PROGRAM, IN A SANDBOX (cutbox-rows.mjs): the forced cells as the released guide's own fill.sh prints them over the translation 2657691186e3d83d… (all of the seat's roots in one cut). By AI agents, Wed Nov 11 2026. No macro, syntax, notation, axiom, sorry.
-/
import Derived.Test.YtpbginihkhfdmaaChecked
import GoSem.Claim
import GoSem.ClaimJoined
import GoSem.ClaimMapViews
import Derived.JoinedTies
import Derived.KernelRfl
namespace Go.Proofs.Ytpbginihkhfdmaa
/- THE CELL 'sum', in the pinned program and in every row, IS THE sha256 OF THE DUMP (.gsa) THAT YtpbginihkhfdmaaProg.lean LOADS. Nothing in Lean hashes anything: it is a label: what it is worth is what the hold of that sum in a sandbox is worth. -/
noncomputable def Try.pinned : Pinned := { name := "ytpbginihkhfdmaa", sum := "2657691186e3d83de3191839eb784dd77dea1efec37ef8ad5a91e48baae26451", checked := Try.checked }
namespace Rows
def none {H : Type} : Left H := { results := [], args := [] }

/-- 'theodolitelaw35.AlignTells': WHATEVER THE INPUT: true; the input reads as it did. -/
def alignTellsSpec : ChangeSpec := { name := "alignTells", fn := fun _ => fun
  | [d1, d2, d3] => { results := [.lit (.bool true)], args := [d1, d2, d3] }
  | _ => none }
def alignTellsRow : OpenClaim := { program := "ytpbginihkhfdmaa", sum := "2657691186e3d83de3191839eb784dd77dea1efec37ef8ad5a91e48baae26451", func := "theodolite/theodolitelaw35.AlignTells", spec := "alignTells", inPlace := ["math/bits.Sub64"], unfollowed := true, recurses := true, named := ["math/bits.divideError", "math/bits.overflowError"], apart := false }
def AlignTellsSaid : Prop := alignTellsRow.holds Try.pinned (OpenSpec.ofChange alignTellsSpec)

/-- ITS FALSE NEIGHBOUR: 'it returns false'. Refute it at one input. -/
def alignTellsWrong : ChangeSpec := { name := "alignTells", fn := fun _ => fun
  | [d1, d2, d3] => { results := [.lit (.bool false)], args := [d1, d2, d3] }
  | _ => none }
def AlignTellsWrongFalsely : Prop := alignTellsRow.holds Try.pinned (OpenSpec.ofChange alignTellsWrong)

/-- 'theodolitelaw35.AlignBetween': WHATEVER THE INPUT: true; the input reads as it did. -/
def alignBetweenSpec : ChangeSpec := { name := "alignBetween", fn := fun _ => fun
  | [d1, d2, d3] => { results := [.lit (.bool true)], args := [d1, d2, d3] }
  | _ => none }
def alignBetweenRow : OpenClaim := { program := "ytpbginihkhfdmaa", sum := "2657691186e3d83de3191839eb784dd77dea1efec37ef8ad5a91e48baae26451", func := "theodolite/theodolitelaw35.AlignBetween", spec := "alignBetween", inPlace := ["math/bits.Sub64"], unfollowed := true, recurses := true, named := ["math/bits.divideError", "math/bits.overflowError"], apart := false }
def AlignBetweenSaid : Prop := alignBetweenRow.holds Try.pinned (OpenSpec.ofChange alignBetweenSpec)

/-- ITS FALSE NEIGHBOUR: 'it returns false'. Refute it at one input. -/
def alignBetweenWrong : ChangeSpec := { name := "alignBetween", fn := fun _ => fun
  | [d1, d2, d3] => { results := [.lit (.bool false)], args := [d1, d2, d3] }
  | _ => none }
def AlignBetweenWrongFalsely : Prop := alignBetweenRow.holds Try.pinned (OpenSpec.ofChange alignBetweenWrong)

/-- 'theodolitelaw35.AlignLine': WHATEVER THE INPUT: true; the input reads as it did. -/
def alignLineSpec : ChangeSpec := { name := "alignLine", fn := fun _ => fun
  | [d1, d2, d3, d4] => { results := [.lit (.bool true)], args := [d1, d2, d3, d4] }
  | _ => none }
def alignLineRow : OpenClaim := { program := "ytpbginihkhfdmaa", sum := "2657691186e3d83de3191839eb784dd77dea1efec37ef8ad5a91e48baae26451", func := "theodolite/theodolitelaw35.AlignLine", spec := "alignLine", inPlace := ["math/bits.Sub64"], unfollowed := true, recurses := true, named := ["math/bits.divideError", "math/bits.overflowError"], apart := false }
def AlignLineSaid : Prop := alignLineRow.holds Try.pinned (OpenSpec.ofChange alignLineSpec)

/-- ITS FALSE NEIGHBOUR: 'it returns false'. Refute it at one input. -/
def alignLineWrong : ChangeSpec := { name := "alignLine", fn := fun _ => fun
  | [d1, d2, d3, d4] => { results := [.lit (.bool false)], args := [d1, d2, d3, d4] }
  | _ => none }
def AlignLineWrongFalsely : Prop := alignLineRow.holds Try.pinned (OpenSpec.ofChange alignLineWrong)

/-- 'theodolitelaw35.AlignForgets': WHATEVER THE INPUT: true; the input reads as it did. -/
def alignForgetsSpec : ChangeSpec := { name := "alignForgets", fn := fun _ => fun
  | [d1, d2, d3] => { results := [.lit (.bool true)], args := [d1, d2, d3] }
  | _ => none }
def alignForgetsRow : OpenClaim := { program := "ytpbginihkhfdmaa", sum := "2657691186e3d83de3191839eb784dd77dea1efec37ef8ad5a91e48baae26451", func := "theodolite/theodolitelaw35.AlignForgets", spec := "alignForgets", inPlace := ["math/bits.Sub64"], unfollowed := true, recurses := true, named := ["math/bits.divideError", "math/bits.overflowError"], apart := false }
def AlignForgetsSaid : Prop := alignForgetsRow.holds Try.pinned (OpenSpec.ofChange alignForgetsSpec)

/-- ITS FALSE NEIGHBOUR: 'it returns false'. Refute it at one input. -/
def alignForgetsWrong : ChangeSpec := { name := "alignForgets", fn := fun _ => fun
  | [d1, d2, d3] => { results := [.lit (.bool false)], args := [d1, d2, d3] }
  | _ => none }
def AlignForgetsWrongFalsely : Prop := alignForgetsRow.holds Try.pinned (OpenSpec.ofChange alignForgetsWrong)

/- THE SECOND FORM. 'bulk': how many values and letters a reading holds, each counted each time it is reached (what is shared counts as often as it is met; a slice's spare places count too). A statement '..UptoSaid' is the law's where the arguments, and the package variables that the reading takes, are together of bulk at most 1048576: NARROWER than '..Said'. Prove '..Said' where nothing that the law and all that it calls make is longer than what came in: it says more and counts as full. Else prove '..UptoSaid'. A law counts once. -/
mutual
def uptoBulk {H : Type} : DataW H → Nat
  | .lit (.string bytes) => bytes.length + 1
  | .lit _ => 1
  | .nil => 1
  | .ptr d => uptoBulk d + 1
  | .slice elems spare => uptoBulkAll elems + uptoBulkAll spare + 1
  | .agg parts => uptoBulkAll parts + 1
  | .iface _ d => uptoBulk d + 1
  | .map entries => uptoBulkEntries entries + 1
  | .held _ => 1
def uptoBulkAll {H : Type} : List (DataW H) → Nat
  | [] => 0
  | d :: r => uptoBulk d + uptoBulkAll r
def uptoBulkEntries {H : Type} : List (Lit × DataW H) → Nat
  | [] => 0
  | x :: r => uptoBulkEntry x + uptoBulkEntries r
def uptoBulkEntry {H : Type} : Lit × DataW H → Nat
  | (.string bytes, d) => bytes.length + uptoBulk d + 1
  | (_, d) => uptoBulk d + 1
 end
def uptoSmall : (H : Type) → List (DataW H) → Bool := fun _ ds => decide (uptoBulkAll ds ≤ 1048576)
def OpenSpec.upto (s : _root_.Go.ChangeSpec) : _root_.Go.OpenSpec := { _root_.Go.OpenSpec.ofChange s with cond := some uptoSmall }

/-- 'theodolitelaw35.AlignTells', WHERE WHAT IT READS IS OF BULK AT MOST 1048576: true; the input reads as it did. -/
def alignTellsUptoRow : OpenClaim := { program := "ytpbginihkhfdmaa", sum := "2657691186e3d83de3191839eb784dd77dea1efec37ef8ad5a91e48baae26451", func := "theodolite/theodolitelaw35.AlignTells", spec := "alignTells", inPlace := ["math/bits.Sub64"], unfollowed := true, recurses := true, named := ["math/bits.divideError", "math/bits.overflowError"], apart := false, narrowed := true }
def AlignTellsUptoSaid : Prop := alignTellsUptoRow.holds Try.pinned (OpenSpec.upto alignTellsSpec)

/-- 'theodolitelaw35.AlignBetween', WHERE WHAT IT READS IS OF BULK AT MOST 1048576: true; the input reads as it did. -/
def alignBetweenUptoRow : OpenClaim := { program := "ytpbginihkhfdmaa", sum := "2657691186e3d83de3191839eb784dd77dea1efec37ef8ad5a91e48baae26451", func := "theodolite/theodolitelaw35.AlignBetween", spec := "alignBetween", inPlace := ["math/bits.Sub64"], unfollowed := true, recurses := true, named := ["math/bits.divideError", "math/bits.overflowError"], apart := false, narrowed := true }
def AlignBetweenUptoSaid : Prop := alignBetweenUptoRow.holds Try.pinned (OpenSpec.upto alignBetweenSpec)

/-- 'theodolitelaw35.AlignLine', WHERE WHAT IT READS IS OF BULK AT MOST 1048576: true; the input reads as it did. -/
def alignLineUptoRow : OpenClaim := { program := "ytpbginihkhfdmaa", sum := "2657691186e3d83de3191839eb784dd77dea1efec37ef8ad5a91e48baae26451", func := "theodolite/theodolitelaw35.AlignLine", spec := "alignLine", inPlace := ["math/bits.Sub64"], unfollowed := true, recurses := true, named := ["math/bits.divideError", "math/bits.overflowError"], apart := false, narrowed := true }
def AlignLineUptoSaid : Prop := alignLineUptoRow.holds Try.pinned (OpenSpec.upto alignLineSpec)

/-- 'theodolitelaw35.AlignForgets', WHERE WHAT IT READS IS OF BULK AT MOST 1048576: true; the input reads as it did. -/
def alignForgetsUptoRow : OpenClaim := { program := "ytpbginihkhfdmaa", sum := "2657691186e3d83de3191839eb784dd77dea1efec37ef8ad5a91e48baae26451", func := "theodolite/theodolitelaw35.AlignForgets", spec := "alignForgets", inPlace := ["math/bits.Sub64"], unfollowed := true, recurses := true, named := ["math/bits.divideError", "math/bits.overflowError"], apart := false, narrowed := true }
def AlignForgetsUptoSaid : Prop := alignForgetsUptoRow.holds Try.pinned (OpenSpec.upto alignForgetsSpec)

end Rows
end Go.Proofs.Ytpbginihkhfdmaa
