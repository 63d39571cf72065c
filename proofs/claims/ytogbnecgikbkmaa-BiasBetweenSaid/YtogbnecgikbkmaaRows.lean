/-
  No cell of these rows narrows 'for every input' (looked for: loops, veiled, ifaces, maps, wideKeys, modest, calm, conditions, laid).
  DERIVED. THE GIVEN ROWS OF THIS SEAT. 11 by the template 'for every input the law returns true; each argument reads behind the call as it read before'; 0 by the template 'total and deterministic' (their statements: YtogbnecgikbkmaaTotals.lean).
  GIVEN WITH THE SEED: the statements are not yours to turn. If you find one false, say at which input.
  Laid BY PROGRAM, IN A SANDBOX (cutbox-rows.mjs): the forced cells as the released guide's own fill.sh prints them over the translation 6883d3d847fec8b0… (all of the seat's roots in one cut). By AI agents, Wed Nov 11 2026. No macro, syntax, notation, axiom, sorry.
-/
import Derived.Test.YtogbnecgikbkmaaChecked
import GoSem.Claim
import GoSem.ClaimJoined
import GoSem.ClaimMapViews
import Derived.JoinedTies
import Derived.KernelRfl
namespace Go.Proofs.Ytogbnecgikbkmaa
/- THE CELL 'sum', in the pinned program and in every row, IS THE sha256 OF THE DUMP (.gsa) THAT YtogbnecgikbkmaaProg.lean LOADS. Nothing in Lean hashes anything: it is a label: what it is worth is what the hold of that sum in a sandbox is worth. -/
noncomputable def Try.pinned : Pinned := { name := "ytogbnecgikbkmaa", sum := "6883d3d847fec8b0756f0903cc2d05a3f22efb7dae9dbf399ee9bf0c7df754c1", checked := Try.checked }
namespace Rows
def none {H : Type} : Left H := { results := [], args := [] }

/-- 'theodolitelaw34.BiasDoes': WHATEVER THE INPUT: true; the input reads as it did. -/
def biasDoesSpec : ChangeSpec := { name := "biasDoes", fn := fun _ => fun
  | [d1, d2] => { results := [.lit (.bool true)], args := [d1, d2] }
  | _ => none }
def biasDoesRow : OpenClaim := { program := "ytogbnecgikbkmaa", sum := "6883d3d847fec8b0756f0903cc2d05a3f22efb7dae9dbf399ee9bf0c7df754c1", func := "theodolite/theodolitelaw34.BiasDoes", spec := "biasDoes", inPlace := ["math/bits.Sub64"], unfollowed := true, recurses := true, named := ["math/bits.divideError", "math/bits.overflowError"], apart := false }
def BiasDoesSaid : Prop := biasDoesRow.holds Try.pinned (OpenSpec.ofChange biasDoesSpec)

/-- ITS FALSE NEIGHBOUR: 'it returns false'. Refute it at one input. -/
def biasDoesWrong : ChangeSpec := { name := "biasDoes", fn := fun _ => fun
  | [d1, d2] => { results := [.lit (.bool false)], args := [d1, d2] }
  | _ => none }
def BiasDoesWrongFalsely : Prop := biasDoesRow.holds Try.pinned (OpenSpec.ofChange biasDoesWrong)

/-- 'theodolitelaw34.BiasBetween': WHATEVER THE INPUT: true; the input reads as it did. -/
def biasBetweenSpec : ChangeSpec := { name := "biasBetween", fn := fun _ => fun
  | [d1, d2] => { results := [.lit (.bool true)], args := [d1, d2] }
  | _ => none }
def biasBetweenRow : OpenClaim := { program := "ytogbnecgikbkmaa", sum := "6883d3d847fec8b0756f0903cc2d05a3f22efb7dae9dbf399ee9bf0c7df754c1", func := "theodolite/theodolitelaw34.BiasBetween", spec := "biasBetween", inPlace := ["math/bits.Sub64"], unfollowed := true, recurses := true, named := ["math/bits.divideError", "math/bits.overflowError"], apart := false }
def BiasBetweenSaid : Prop := biasBetweenRow.holds Try.pinned (OpenSpec.ofChange biasBetweenSpec)

/-- ITS FALSE NEIGHBOUR: 'it returns false'. Refute it at one input. -/
def biasBetweenWrong : ChangeSpec := { name := "biasBetween", fn := fun _ => fun
  | [d1, d2] => { results := [.lit (.bool false)], args := [d1, d2] }
  | _ => none }
def BiasBetweenWrongFalsely : Prop := biasBetweenRow.holds Try.pinned (OpenSpec.ofChange biasBetweenWrong)

/-- 'theodolitelaw34.BiasSure': WHATEVER THE INPUT: true; the input reads as it did. -/
def biasSureSpec : ChangeSpec := { name := "biasSure", fn := fun _ => fun
  | [d1, d2] => { results := [.lit (.bool true)], args := [d1, d2] }
  | _ => none }
def biasSureRow : OpenClaim := { program := "ytogbnecgikbkmaa", sum := "6883d3d847fec8b0756f0903cc2d05a3f22efb7dae9dbf399ee9bf0c7df754c1", func := "theodolite/theodolitelaw34.BiasSure", spec := "biasSure", inPlace := ["math/bits.Sub64"], unfollowed := true, recurses := true, named := ["math/bits.divideError", "math/bits.overflowError"], apart := false }
def BiasSureSaid : Prop := biasSureRow.holds Try.pinned (OpenSpec.ofChange biasSureSpec)

/-- ITS FALSE NEIGHBOUR: 'it returns false'. Refute it at one input. -/
def biasSureWrong : ChangeSpec := { name := "biasSure", fn := fun _ => fun
  | [d1, d2] => { results := [.lit (.bool false)], args := [d1, d2] }
  | _ => none }
def BiasSureWrongFalsely : Prop := biasSureRow.holds Try.pinned (OpenSpec.ofChange biasSureWrong)

/-- 'theodolitelaw34.BiasLearns': WHATEVER THE INPUT: true; the input reads as it did. -/
def biasLearnsSpec : ChangeSpec := { name := "biasLearns", fn := fun _ => fun
  | [d1, d2, d3] => { results := [.lit (.bool true)], args := [d1, d2, d3] }
  | _ => none }
def biasLearnsRow : OpenClaim := { program := "ytogbnecgikbkmaa", sum := "6883d3d847fec8b0756f0903cc2d05a3f22efb7dae9dbf399ee9bf0c7df754c1", func := "theodolite/theodolitelaw34.BiasLearns", spec := "biasLearns", inPlace := ["math/bits.Sub64"], unfollowed := true, recurses := true, named := ["math/bits.divideError", "math/bits.overflowError"], apart := false }
def BiasLearnsSaid : Prop := biasLearnsRow.holds Try.pinned (OpenSpec.ofChange biasLearnsSpec)

/-- ITS FALSE NEIGHBOUR: 'it returns false'. Refute it at one input. -/
def biasLearnsWrong : ChangeSpec := { name := "biasLearns", fn := fun _ => fun
  | [d1, d2, d3] => { results := [.lit (.bool false)], args := [d1, d2, d3] }
  | _ => none }
def BiasLearnsWrongFalsely : Prop := biasLearnsRow.holds Try.pinned (OpenSpec.ofChange biasLearnsWrong)

/-- 'theodolitelaw33.ReckonGoes': WHATEVER THE INPUT: true; the input reads as it did. -/
def reckonGoesSpec : ChangeSpec := { name := "reckonGoes", fn := fun _ => fun
  | [d1, d2] => { results := [.lit (.bool true)], args := [d1, d2] }
  | _ => none }
def reckonGoesRow : OpenClaim := { program := "ytogbnecgikbkmaa", sum := "6883d3d847fec8b0756f0903cc2d05a3f22efb7dae9dbf399ee9bf0c7df754c1", func := "theodolite/theodolitelaw33.ReckonGoes", spec := "reckonGoes", inPlace := ["math/bits.Sub64"], unfollowed := true, recurses := true, named := ["math/bits.divideError", "math/bits.overflowError"], apart := false }
def ReckonGoesSaid : Prop := reckonGoesRow.holds Try.pinned (OpenSpec.ofChange reckonGoesSpec)

/-- ITS FALSE NEIGHBOUR: 'it returns false'. Refute it at one input. -/
def reckonGoesWrong : ChangeSpec := { name := "reckonGoes", fn := fun _ => fun
  | [d1, d2] => { results := [.lit (.bool false)], args := [d1, d2] }
  | _ => none }
def ReckonGoesWrongFalsely : Prop := reckonGoesRow.holds Try.pinned (OpenSpec.ofChange reckonGoesWrong)

/-- 'theodolitelaw33.ReckonSums': WHATEVER THE INPUT: true; the input reads as it did. -/
def reckonSumsSpec : ChangeSpec := { name := "reckonSums", fn := fun _ => fun
  | [d1, d2, d3] => { results := [.lit (.bool true)], args := [d1, d2, d3] }
  | _ => none }
def reckonSumsRow : OpenClaim := { program := "ytogbnecgikbkmaa", sum := "6883d3d847fec8b0756f0903cc2d05a3f22efb7dae9dbf399ee9bf0c7df754c1", func := "theodolite/theodolitelaw33.ReckonSums", spec := "reckonSums", inPlace := ["math/bits.Sub64"], unfollowed := true, recurses := true, named := ["math/bits.divideError", "math/bits.overflowError"], apart := false }
def ReckonSumsSaid : Prop := reckonSumsRow.holds Try.pinned (OpenSpec.ofChange reckonSumsSpec)

/-- ITS FALSE NEIGHBOUR: 'it returns false'. Refute it at one input. -/
def reckonSumsWrong : ChangeSpec := { name := "reckonSums", fn := fun _ => fun
  | [d1, d2, d3] => { results := [.lit (.bool false)], args := [d1, d2, d3] }
  | _ => none }
def ReckonSumsWrongFalsely : Prop := reckonSumsRow.holds Try.pinned (OpenSpec.ofChange reckonSumsWrong)

/-- 'theodolitelaw33.ReckonFrames': WHATEVER THE INPUT: true; the input reads as it did. -/
def reckonFramesSpec : ChangeSpec := { name := "reckonFrames", fn := fun _ => fun
  | [d1, d2, d3, d4] => { results := [.lit (.bool true)], args := [d1, d2, d3, d4] }
  | _ => none }
def reckonFramesRow : OpenClaim := { program := "ytogbnecgikbkmaa", sum := "6883d3d847fec8b0756f0903cc2d05a3f22efb7dae9dbf399ee9bf0c7df754c1", func := "theodolite/theodolitelaw33.ReckonFrames", spec := "reckonFrames", inPlace := ["math/bits.Sub64"], unfollowed := true, recurses := true, named := ["math/bits.divideError", "math/bits.overflowError"], apart := false }
def ReckonFramesSaid : Prop := reckonFramesRow.holds Try.pinned (OpenSpec.ofChange reckonFramesSpec)

/-- ITS FALSE NEIGHBOUR: 'it returns false'. Refute it at one input. -/
def reckonFramesWrong : ChangeSpec := { name := "reckonFrames", fn := fun _ => fun
  | [d1, d2, d3, d4] => { results := [.lit (.bool false)], args := [d1, d2, d3, d4] }
  | _ => none }
def ReckonFramesWrongFalsely : Prop := reckonFramesRow.holds Try.pinned (OpenSpec.ofChange reckonFramesWrong)

/-- 'theodolitelaw35.AlignTells': WHATEVER THE INPUT: true; the input reads as it did. -/
def alignTellsSpec : ChangeSpec := { name := "alignTells", fn := fun _ => fun
  | [d1, d2, d3] => { results := [.lit (.bool true)], args := [d1, d2, d3] }
  | _ => none }
def alignTellsRow : OpenClaim := { program := "ytogbnecgikbkmaa", sum := "6883d3d847fec8b0756f0903cc2d05a3f22efb7dae9dbf399ee9bf0c7df754c1", func := "theodolite/theodolitelaw35.AlignTells", spec := "alignTells", inPlace := ["math/bits.Sub64"], unfollowed := true, recurses := true, named := ["math/bits.divideError", "math/bits.overflowError"], apart := false }
def AlignTellsSaid : Prop := alignTellsRow.holds Try.pinned (OpenSpec.ofChange alignTellsSpec)

/-- ITS FALSE NEIGHBOUR: 'it returns false'. Refute it at one input. -/
def alignTellsWrong : ChangeSpec := { name := "alignTells", fn := fun _ => fun
  | [d1, d2, d3] => { results := [.lit (.bool false)], args := [d1, d2, d3] }
  | _ => none }
def AlignTellsWrongFalsely : Prop := alignTellsRow.holds Try.pinned (OpenSpec.ofChange alignTellsWrong)

/-- 'theodolitelaw35.AlignBetween': WHATEVER THE INPUT: true; the input reads as it did. -/
def alignBetweenSpec : ChangeSpec := { name := "alignBetween", fn := fun _ => fun
  | [d1, d2, d3] => { results := [.lit (.bool true)], args := [d1, d2, d3] }
  | _ => none }
def alignBetweenRow : OpenClaim := { program := "ytogbnecgikbkmaa", sum := "6883d3d847fec8b0756f0903cc2d05a3f22efb7dae9dbf399ee9bf0c7df754c1", func := "theodolite/theodolitelaw35.AlignBetween", spec := "alignBetween", inPlace := ["math/bits.Sub64"], unfollowed := true, recurses := true, named := ["math/bits.divideError", "math/bits.overflowError"], apart := false }
def AlignBetweenSaid : Prop := alignBetweenRow.holds Try.pinned (OpenSpec.ofChange alignBetweenSpec)

/-- ITS FALSE NEIGHBOUR: 'it returns false'. Refute it at one input. -/
def alignBetweenWrong : ChangeSpec := { name := "alignBetween", fn := fun _ => fun
  | [d1, d2, d3] => { results := [.lit (.bool false)], args := [d1, d2, d3] }
  | _ => none }
def AlignBetweenWrongFalsely : Prop := alignBetweenRow.holds Try.pinned (OpenSpec.ofChange alignBetweenWrong)

/-- 'theodolitelaw35.AlignLine': WHATEVER THE INPUT: true; the input reads as it did. -/
def alignLineSpec : ChangeSpec := { name := "alignLine", fn := fun _ => fun
  | [d1, d2, d3, d4] => { results := [.lit (.bool true)], args := [d1, d2, d3, d4] }
  | _ => none }
def alignLineRow : OpenClaim := { program := "ytogbnecgikbkmaa", sum := "6883d3d847fec8b0756f0903cc2d05a3f22efb7dae9dbf399ee9bf0c7df754c1", func := "theodolite/theodolitelaw35.AlignLine", spec := "alignLine", inPlace := ["math/bits.Sub64"], unfollowed := true, recurses := true, named := ["math/bits.divideError", "math/bits.overflowError"], apart := false }
def AlignLineSaid : Prop := alignLineRow.holds Try.pinned (OpenSpec.ofChange alignLineSpec)

/-- ITS FALSE NEIGHBOUR: 'it returns false'. Refute it at one input. -/
def alignLineWrong : ChangeSpec := { name := "alignLine", fn := fun _ => fun
  | [d1, d2, d3, d4] => { results := [.lit (.bool false)], args := [d1, d2, d3, d4] }
  | _ => none }
def AlignLineWrongFalsely : Prop := alignLineRow.holds Try.pinned (OpenSpec.ofChange alignLineWrong)

/-- 'theodolitelaw35.AlignForgets': WHATEVER THE INPUT: true; the input reads as it did. -/
def alignForgetsSpec : ChangeSpec := { name := "alignForgets", fn := fun _ => fun
  | [d1, d2, d3] => { results := [.lit (.bool true)], args := [d1, d2, d3] }
  | _ => none }
def alignForgetsRow : OpenClaim := { program := "ytogbnecgikbkmaa", sum := "6883d3d847fec8b0756f0903cc2d05a3f22efb7dae9dbf399ee9bf0c7df754c1", func := "theodolite/theodolitelaw35.AlignForgets", spec := "alignForgets", inPlace := ["math/bits.Sub64"], unfollowed := true, recurses := true, named := ["math/bits.divideError", "math/bits.overflowError"], apart := false }
def AlignForgetsSaid : Prop := alignForgetsRow.holds Try.pinned (OpenSpec.ofChange alignForgetsSpec)

/-- ITS FALSE NEIGHBOUR: 'it returns false'. Refute it at one input. -/
def alignForgetsWrong : ChangeSpec := { name := "alignForgets", fn := fun _ => fun
  | [d1, d2, d3] => { results := [.lit (.bool false)], args := [d1, d2, d3] }
  | _ => none }
def AlignForgetsWrongFalsely : Prop := alignForgetsRow.holds Try.pinned (OpenSpec.ofChange alignForgetsWrong)

/- THE SECOND FORM. 'bulk': how many values and letters a reading holds, each counted each time it is reached (what is shared counts as often as it is met; a slice's spare places count too). A statement '..UptoSaid' is the law's where the arguments, and the package variables that the reading takes, are together of bulk at most 1048576: NARROWER than '..Said'. Prove '..Said' where nothing that the law and all that it calls make is longer than what came in: it says more and counts as full. Else prove '..UptoSaid'. A law counts once. -/
mutual
def uptoBulk {H : Type} : DataW H → Nat
  | .lit (.string bytes) => bytes.length + 1
  | .lit _ => 1
  | .nil => 1
  | .ptr d => uptoBulk d + 1
  | .slice elems spare => uptoBulkAll elems + uptoBulkAll spare + 1
  | .agg parts => uptoBulkAll parts + 1
  | .iface _ d => uptoBulk d + 1
  | .map entries => uptoBulkEntries entries + 1
  | .held _ => 1
def uptoBulkAll {H : Type} : List (DataW H) → Nat
  | [] => 0
  | d :: r => uptoBulk d + uptoBulkAll r
def uptoBulkEntries {H : Type} : List (Lit × DataW H) → Nat
  | [] => 0
  | x :: r => uptoBulkEntry x + uptoBulkEntries r
def uptoBulkEntry {H : Type} : Lit × DataW H → Nat
  | (.string bytes, d) => bytes.length + uptoBulk d + 1
  | (_, d) => uptoBulk d + 1
 end
def uptoSmall : (H : Type) → List (DataW H) → Bool := fun _ ds => decide (uptoBulkAll ds ≤ 1048576)
def OpenSpec.upto (s : _root_.Go.ChangeSpec) : _root_.Go.OpenSpec := { _root_.Go.OpenSpec.ofChange s with cond := some uptoSmall }

/-- 'theodolitelaw34.BiasDoes', WHERE WHAT IT READS IS OF BULK AT MOST 1048576: true; the input reads as it did. -/
def biasDoesUptoRow : OpenClaim := { program := "ytogbnecgikbkmaa", sum := "6883d3d847fec8b0756f0903cc2d05a3f22efb7dae9dbf399ee9bf0c7df754c1", func := "theodolite/theodolitelaw34.BiasDoes", spec := "biasDoes", inPlace := ["math/bits.Sub64"], unfollowed := true, recurses := true, named := ["math/bits.divideError", "math/bits.overflowError"], apart := false, narrowed := true }
def BiasDoesUptoSaid : Prop := biasDoesUptoRow.holds Try.pinned (OpenSpec.upto biasDoesSpec)

/-- 'theodolitelaw34.BiasBetween', WHERE WHAT IT READS IS OF BULK AT MOST 1048576: true; the input reads as it did. -/
def biasBetweenUptoRow : OpenClaim := { program := "ytogbnecgikbkmaa", sum := "6883d3d847fec8b0756f0903cc2d05a3f22efb7dae9dbf399ee9bf0c7df754c1", func := "theodolite/theodolitelaw34.BiasBetween", spec := "biasBetween", inPlace := ["math/bits.Sub64"], unfollowed := true, recurses := true, named := ["math/bits.divideError", "math/bits.overflowError"], apart := false, narrowed := true }
def BiasBetweenUptoSaid : Prop := biasBetweenUptoRow.holds Try.pinned (OpenSpec.upto biasBetweenSpec)

/-- 'theodolitelaw34.BiasSure', WHERE WHAT IT READS IS OF BULK AT MOST 1048576: true; the input reads as it did. -/
def biasSureUptoRow : OpenClaim := { program := "ytogbnecgikbkmaa", sum := "6883d3d847fec8b0756f0903cc2d05a3f22efb7dae9dbf399ee9bf0c7df754c1", func := "theodolite/theodolitelaw34.BiasSure", spec := "biasSure", inPlace := ["math/bits.Sub64"], unfollowed := true, recurses := true, named := ["math/bits.divideError", "math/bits.overflowError"], apart := false, narrowed := true }
def BiasSureUptoSaid : Prop := biasSureUptoRow.holds Try.pinned (OpenSpec.upto biasSureSpec)

/-- 'theodolitelaw34.BiasLearns', WHERE WHAT IT READS IS OF BULK AT MOST 1048576: true; the input reads as it did. -/
def biasLearnsUptoRow : OpenClaim := { program := "ytogbnecgikbkmaa", sum := "6883d3d847fec8b0756f0903cc2d05a3f22efb7dae9dbf399ee9bf0c7df754c1", func := "theodolite/theodolitelaw34.BiasLearns", spec := "biasLearns", inPlace := ["math/bits.Sub64"], unfollowed := true, recurses := true, named := ["math/bits.divideError", "math/bits.overflowError"], apart := false, narrowed := true }
def BiasLearnsUptoSaid : Prop := biasLearnsUptoRow.holds Try.pinned (OpenSpec.upto biasLearnsSpec)

/-- 'theodolitelaw33.ReckonGoes', WHERE WHAT IT READS IS OF BULK AT MOST 1048576: true; the input reads as it did. -/
def reckonGoesUptoRow : OpenClaim := { program := "ytogbnecgikbkmaa", sum := "6883d3d847fec8b0756f0903cc2d05a3f22efb7dae9dbf399ee9bf0c7df754c1", func := "theodolite/theodolitelaw33.ReckonGoes", spec := "reckonGoes", inPlace := ["math/bits.Sub64"], unfollowed := true, recurses := true, named := ["math/bits.divideError", "math/bits.overflowError"], apart := false, narrowed := true }
def ReckonGoesUptoSaid : Prop := reckonGoesUptoRow.holds Try.pinned (OpenSpec.upto reckonGoesSpec)

/-- 'theodolitelaw33.ReckonSums', WHERE WHAT IT READS IS OF BULK AT MOST 1048576: true; the input reads as it did. -/
def reckonSumsUptoRow : OpenClaim := { program := "ytogbnecgikbkmaa", sum := "6883d3d847fec8b0756f0903cc2d05a3f22efb7dae9dbf399ee9bf0c7df754c1", func := "theodolite/theodolitelaw33.ReckonSums", spec := "reckonSums", inPlace := ["math/bits.Sub64"], unfollowed := true, recurses := true, named := ["math/bits.divideError", "math/bits.overflowError"], apart := false, narrowed := true }
def ReckonSumsUptoSaid : Prop := reckonSumsUptoRow.holds Try.pinned (OpenSpec.upto reckonSumsSpec)

/-- 'theodolitelaw33.ReckonFrames', WHERE WHAT IT READS IS OF BULK AT MOST 1048576: true; the input reads as it did. -/
def reckonFramesUptoRow : OpenClaim := { program := "ytogbnecgikbkmaa", sum := "6883d3d847fec8b0756f0903cc2d05a3f22efb7dae9dbf399ee9bf0c7df754c1", func := "theodolite/theodolitelaw33.ReckonFrames", spec := "reckonFrames", inPlace := ["math/bits.Sub64"], unfollowed := true, recurses := true, named := ["math/bits.divideError", "math/bits.overflowError"], apart := false, narrowed := true }
def ReckonFramesUptoSaid : Prop := reckonFramesUptoRow.holds Try.pinned (OpenSpec.upto reckonFramesSpec)

/-- 'theodolitelaw35.AlignTells', WHERE WHAT IT READS IS OF BULK AT MOST 1048576: true; the input reads as it did. -/
def alignTellsUptoRow : OpenClaim := { program := "ytogbnecgikbkmaa", sum := "6883d3d847fec8b0756f0903cc2d05a3f22efb7dae9dbf399ee9bf0c7df754c1", func := "theodolite/theodolitelaw35.AlignTells", spec := "alignTells", inPlace := ["math/bits.Sub64"], unfollowed := true, recurses := true, named := ["math/bits.divideError", "math/bits.overflowError"], apart := false, narrowed := true }
def AlignTellsUptoSaid : Prop := alignTellsUptoRow.holds Try.pinned (OpenSpec.upto alignTellsSpec)

/-- 'theodolitelaw35.AlignBetween', WHERE WHAT IT READS IS OF BULK AT MOST 1048576: true; the input reads as it did. -/
def alignBetweenUptoRow : OpenClaim := { program := "ytogbnecgikbkmaa", sum := "6883d3d847fec8b0756f0903cc2d05a3f22efb7dae9dbf399ee9bf0c7df754c1", func := "theodolite/theodolitelaw35.AlignBetween", spec := "alignBetween", inPlace := ["math/bits.Sub64"], unfollowed := true, recurses := true, named := ["math/bits.divideError", "math/bits.overflowError"], apart := false, narrowed := true }
def AlignBetweenUptoSaid : Prop := alignBetweenUptoRow.holds Try.pinned (OpenSpec.upto alignBetweenSpec)

/-- 'theodolitelaw35.AlignLine', WHERE WHAT IT READS IS OF BULK AT MOST 1048576: true; the input reads as it did. -/
def alignLineUptoRow : OpenClaim := { program := "ytogbnecgikbkmaa", sum := "6883d3d847fec8b0756f0903cc2d05a3f22efb7dae9dbf399ee9bf0c7df754c1", func := "theodolite/theodolitelaw35.AlignLine", spec := "alignLine", inPlace := ["math/bits.Sub64"], unfollowed := true, recurses := true, named := ["math/bits.divideError", "math/bits.overflowError"], apart := false, narrowed := true }
def AlignLineUptoSaid : Prop := alignLineUptoRow.holds Try.pinned (OpenSpec.upto alignLineSpec)

/-- 'theodolitelaw35.AlignForgets', WHERE WHAT IT READS IS OF BULK AT MOST 1048576: true; the input reads as it did. -/
def alignForgetsUptoRow : OpenClaim := { program := "ytogbnecgikbkmaa", sum := "6883d3d847fec8b0756f0903cc2d05a3f22efb7dae9dbf399ee9bf0c7df754c1", func := "theodolite/theodolitelaw35.AlignForgets", spec := "alignForgets", inPlace := ["math/bits.Sub64"], unfollowed := true, recurses := true, named := ["math/bits.divideError", "math/bits.overflowError"], apart := false, narrowed := true }
def AlignForgetsUptoSaid : Prop := alignForgetsUptoRow.holds Try.pinned (OpenSpec.upto alignForgetsSpec)

end Rows
end Go.Proofs.Ytogbnecgikbkmaa
