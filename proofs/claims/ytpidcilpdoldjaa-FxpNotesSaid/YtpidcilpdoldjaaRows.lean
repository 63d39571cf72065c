/-
  No cell of these rows narrows 'for every input' (looked for: loops, veiled, ifaces, maps, wideKeys, modest, calm, conditions, laid).
  DERIVED. THE GIVEN ROWS OF THIS SEAT. 10 by the template 'for every input the law returns true; each argument reads behind the call as it read before'; 0 by the template 'total and deterministic' (their statements: YtpidcilpdoldjaaTotals.lean).
  GIVEN WITH THE SEED: the statements are not yours to turn. If you find one false, say at which input.
  Laid BY PROGRAM, IN A SANDBOX (cutbox-rows.mjs): the forced cells as the released guide's own fill.sh prints them over the translation 8686240ecb37c0db… (all of the seat's roots in one cut). By AI agents, Wed Nov 11 2026. No macro, syntax, notation, axiom, sorry.
-/
import Derived.Test.YtpidcilpdoldjaaChecked
import GoSem.Claim
import GoSem.ClaimJoined
import GoSem.ClaimMapViews
import Derived.JoinedTies
import Derived.KernelRfl
namespace Go.Proofs.Ytpidcilpdoldjaa
/- THE CELL 'sum', in the pinned program and in every row, IS THE sha256 OF THE DUMP (.gsa) THAT YtpidcilpdoldjaaProg.lean LOADS. Nothing in Lean hashes anything: it is a label: what it is worth is what the hold of that sum in a sandbox is worth. -/
noncomputable def Try.pinned : Pinned := { name := "ytpidcilpdoldjaa", sum := "8686240ecb37c0db999b4e3534f58859b9c6815cc1d0ccba3346a9ea88bbe6f7", checked := Try.checked }
namespace Rows
def none {H : Type} : Left H := { results := [], args := [] }

/-- 'theodolitelaw03.WideProducts': WHATEVER THE INPUT: true; the input reads as it did. -/
def wideProductsSpec : ChangeSpec := { name := "wideProducts", fn := fun _ => fun
  | [d1, d2] => { results := [.lit (.bool true)], args := [d1, d2] }
  | _ => none }
def wideProductsRow : OpenClaim := { program := "ytpidcilpdoldjaa", sum := "8686240ecb37c0db999b4e3534f58859b9c6815cc1d0ccba3346a9ea88bbe6f7", func := "theodolite/theodolitelaw03.WideProducts", spec := "wideProducts", inPlace := ["math/bits.Sub64", "math/bits.Add64"], named := ["math/bits.divideError", "math/bits.overflowError"], apart := false }
def WideProductsSaid : Prop := wideProductsRow.holds Try.pinned (OpenSpec.ofChange wideProductsSpec)

/-- ITS FALSE NEIGHBOUR: 'it returns false'. Refute it at one input. -/
def wideProductsWrong : ChangeSpec := { name := "wideProducts", fn := fun _ => fun
  | [d1, d2] => { results := [.lit (.bool false)], args := [d1, d2] }
  | _ => none }
def WideProductsWrongFalsely : Prop := wideProductsRow.holds Try.pinned (OpenSpec.ofChange wideProductsWrong)

/-- 'theodolitelaw03.WideSums': WHATEVER THE INPUT: true; the input reads as it did. -/
def wideSumsSpec : ChangeSpec := { name := "wideSums", fn := fun _ => fun
  | [d1, d2] => { results := [.lit (.bool true)], args := [d1, d2] }
  | _ => none }
def wideSumsRow : OpenClaim := { program := "ytpidcilpdoldjaa", sum := "8686240ecb37c0db999b4e3534f58859b9c6815cc1d0ccba3346a9ea88bbe6f7", func := "theodolite/theodolitelaw03.WideSums", spec := "wideSums", inPlace := ["math/bits.Add64", "math/bits.Sub64"], named := ["math/bits.divideError", "math/bits.overflowError"], apart := false }
def WideSumsSaid : Prop := wideSumsRow.holds Try.pinned (OpenSpec.ofChange wideSumsSpec)

/-- ITS FALSE NEIGHBOUR: 'it returns false'. Refute it at one input. -/
def wideSumsWrong : ChangeSpec := { name := "wideSums", fn := fun _ => fun
  | [d1, d2] => { results := [.lit (.bool false)], args := [d1, d2] }
  | _ => none }
def WideSumsWrongFalsely : Prop := wideSumsRow.holds Try.pinned (OpenSpec.ofChange wideSumsWrong)

/-- 'theodolitelaw03.WideDivides': WHATEVER THE INPUT: true; the input reads as it did. -/
def wideDividesSpec : ChangeSpec := { name := "wideDivides", fn := fun _ => fun
  | [d1, d2, d3, d4] => { results := [.lit (.bool true)], args := [d1, d2, d3, d4] }
  | _ => none }
def wideDividesRow : OpenClaim := { program := "ytpidcilpdoldjaa", sum := "8686240ecb37c0db999b4e3534f58859b9c6815cc1d0ccba3346a9ea88bbe6f7", func := "theodolite/theodolitelaw03.WideDivides", spec := "wideDivides", inPlace := ["math/bits.Sub64", "math/bits.Add64"], named := ["math/bits.divideError", "math/bits.overflowError"], apart := false }
def WideDividesSaid : Prop := wideDividesRow.holds Try.pinned (OpenSpec.ofChange wideDividesSpec)

/-- ITS FALSE NEIGHBOUR: 'it returns false'. Refute it at one input. -/
def wideDividesWrong : ChangeSpec := { name := "wideDivides", fn := fun _ => fun
  | [d1, d2, d3, d4] => { results := [.lit (.bool false)], args := [d1, d2, d3, d4] }
  | _ => none }
def WideDividesWrongFalsely : Prop := wideDividesRow.holds Try.pinned (OpenSpec.ofChange wideDividesWrong)

/-- 'theodolitelaw03.WideRounds': WHATEVER THE INPUT: true; the input reads as it did. -/
def wideRoundsSpec : ChangeSpec := { name := "wideRounds", fn := fun _ => fun
  | [d1, d2, d3] => { results := [.lit (.bool true)], args := [d1, d2, d3] }
  | _ => none }
def wideRoundsRow : OpenClaim := { program := "ytpidcilpdoldjaa", sum := "8686240ecb37c0db999b4e3534f58859b9c6815cc1d0ccba3346a9ea88bbe6f7", func := "theodolite/theodolitelaw03.WideRounds", spec := "wideRounds", inPlace := ["math/bits.Sub64", "math/bits.Add64"], named := ["math/bits.divideError", "math/bits.overflowError"], apart := false }
def WideRoundsSaid : Prop := wideRoundsRow.holds Try.pinned (OpenSpec.ofChange wideRoundsSpec)

/-- ITS FALSE NEIGHBOUR: 'it returns false'. Refute it at one input. -/
def wideRoundsWrong : ChangeSpec := { name := "wideRounds", fn := fun _ => fun
  | [d1, d2, d3] => { results := [.lit (.bool false)], args := [d1, d2, d3] }
  | _ => none }
def WideRoundsWrongFalsely : Prop := wideRoundsRow.holds Try.pinned (OpenSpec.ofChange wideRoundsWrong)

/-- 'theodolitelaw03.WideShifts': WHATEVER THE INPUT: true; the input reads as it did. -/
def wideShiftsSpec : ChangeSpec := { name := "wideShifts", fn := fun _ => fun
  | [d1, d2] => { results := [.lit (.bool true)], args := [d1, d2] }
  | _ => none }
def wideShiftsRow : OpenClaim := { program := "ytpidcilpdoldjaa", sum := "8686240ecb37c0db999b4e3534f58859b9c6815cc1d0ccba3346a9ea88bbe6f7", func := "theodolite/theodolitelaw03.WideShifts", spec := "wideShifts", inPlace := ["math/bits.Add64", "math/bits.Sub64"], named := ["math/bits.divideError", "math/bits.overflowError"], apart := false }
def WideShiftsSaid : Prop := wideShiftsRow.holds Try.pinned (OpenSpec.ofChange wideShiftsSpec)

/-- ITS FALSE NEIGHBOUR: 'it returns false'. Refute it at one input. -/
def wideShiftsWrong : ChangeSpec := { name := "wideShifts", fn := fun _ => fun
  | [d1, d2] => { results := [.lit (.bool false)], args := [d1, d2] }
  | _ => none }
def WideShiftsWrongFalsely : Prop := wideShiftsRow.holds Try.pinned (OpenSpec.ofChange wideShiftsWrong)

/-- 'theodolitelaw04.FxpSums': WHATEVER THE INPUT: true; the input reads as it did. -/
def fxpSumsSpec : ChangeSpec := { name := "fxpSums", fn := fun _ => fun
  | [d1, d2] => { results := [.lit (.bool true)], args := [d1, d2] }
  | _ => none }
def fxpSumsRow : OpenClaim := { program := "ytpidcilpdoldjaa", sum := "8686240ecb37c0db999b4e3534f58859b9c6815cc1d0ccba3346a9ea88bbe6f7", func := "theodolite/theodolitelaw04.FxpSums", spec := "fxpSums", inPlace := ["math/bits.Sub64"], named := ["math/bits.divideError", "math/bits.overflowError"], apart := false }
def FxpSumsSaid : Prop := fxpSumsRow.holds Try.pinned (OpenSpec.ofChange fxpSumsSpec)

/-- ITS FALSE NEIGHBOUR: 'it returns false'. Refute it at one input. -/
def fxpSumsWrong : ChangeSpec := { name := "fxpSums", fn := fun _ => fun
  | [d1, d2] => { results := [.lit (.bool false)], args := [d1, d2] }
  | _ => none }
def FxpSumsWrongFalsely : Prop := fxpSumsRow.holds Try.pinned (OpenSpec.ofChange fxpSumsWrong)

/-- 'theodolitelaw04.FxpProducts': WHATEVER THE INPUT: true; the input reads as it did. -/
def fxpProductsSpec : ChangeSpec := { name := "fxpProducts", fn := fun _ => fun
  | [d1, d2, d3, d4, d5] => { results := [.lit (.bool true)], args := [d1, d2, d3, d4, d5] }
  | _ => none }
def fxpProductsRow : OpenClaim := { program := "ytpidcilpdoldjaa", sum := "8686240ecb37c0db999b4e3534f58859b9c6815cc1d0ccba3346a9ea88bbe6f7", func := "theodolite/theodolitelaw04.FxpProducts", spec := "fxpProducts", inPlace := ["math/bits.Sub64"], named := ["math/bits.divideError", "math/bits.overflowError"], apart := false }
def FxpProductsSaid : Prop := fxpProductsRow.holds Try.pinned (OpenSpec.ofChange fxpProductsSpec)

/-- ITS FALSE NEIGHBOUR: 'it returns false'. Refute it at one input. -/
def fxpProductsWrong : ChangeSpec := { name := "fxpProducts", fn := fun _ => fun
  | [d1, d2, d3, d4, d5] => { results := [.lit (.bool false)], args := [d1, d2, d3, d4, d5] }
  | _ => none }
def FxpProductsWrongFalsely : Prop := fxpProductsRow.holds Try.pinned (OpenSpec.ofChange fxpProductsWrong)

/-- 'theodolitelaw04.FxpScales': WHATEVER THE INPUT: true; the input reads as it did. -/
def fxpScalesSpec : ChangeSpec := { name := "fxpScales", fn := fun _ => fun
  | [d1, d2, d3, d4] => { results := [.lit (.bool true)], args := [d1, d2, d3, d4] }
  | _ => none }
def fxpScalesRow : OpenClaim := { program := "ytpidcilpdoldjaa", sum := "8686240ecb37c0db999b4e3534f58859b9c6815cc1d0ccba3346a9ea88bbe6f7", func := "theodolite/theodolitelaw04.FxpScales", spec := "fxpScales", inPlace := ["math/bits.Sub64"], named := ["math/bits.divideError", "math/bits.overflowError"], apart := false }
def FxpScalesSaid : Prop := fxpScalesRow.holds Try.pinned (OpenSpec.ofChange fxpScalesSpec)

/-- ITS FALSE NEIGHBOUR: 'it returns false'. Refute it at one input. -/
def fxpScalesWrong : ChangeSpec := { name := "fxpScales", fn := fun _ => fun
  | [d1, d2, d3, d4] => { results := [.lit (.bool false)], args := [d1, d2, d3, d4] }
  | _ => none }
def FxpScalesWrongFalsely : Prop := fxpScalesRow.holds Try.pinned (OpenSpec.ofChange fxpScalesWrong)

/-- 'theodolitelaw04.FxpNotes': WHATEVER THE INPUT: true; the input reads as it did. -/
def fxpNotesSpec : ChangeSpec := { name := "fxpNotes", fn := fun _ => fun
  | [d1, d2, d3] => { results := [.lit (.bool true)], args := [d1, d2, d3] }
  | _ => none }
def fxpNotesRow : OpenClaim := { program := "ytpidcilpdoldjaa", sum := "8686240ecb37c0db999b4e3534f58859b9c6815cc1d0ccba3346a9ea88bbe6f7", func := "theodolite/theodolitelaw04.FxpNotes", spec := "fxpNotes", inPlace := ["math/bits.Sub64"], named := ["math/bits.divideError", "math/bits.overflowError"], apart := false }
def FxpNotesSaid : Prop := fxpNotesRow.holds Try.pinned (OpenSpec.ofChange fxpNotesSpec)

/-- ITS FALSE NEIGHBOUR: 'it returns false'. Refute it at one input. -/
def fxpNotesWrong : ChangeSpec := { name := "fxpNotes", fn := fun _ => fun
  | [d1, d2, d3] => { results := [.lit (.bool false)], args := [d1, d2, d3] }
  | _ => none }
def FxpNotesWrongFalsely : Prop := fxpNotesRow.holds Try.pinned (OpenSpec.ofChange fxpNotesWrong)

/-- 'theodolitelaw04.FxpRows': WHATEVER THE INPUT: true; the input reads as it did. -/
def fxpRowsSpec : ChangeSpec := { name := "fxpRows", fn := fun _ => fun
  | [d1, d2, d3, d4, d5, d6, d7] => { results := [.lit (.bool true)], args := [d1, d2, d3, d4, d5, d6, d7] }
  | _ => none }
def fxpRowsRow : OpenClaim := { program := "ytpidcilpdoldjaa", sum := "8686240ecb37c0db999b4e3534f58859b9c6815cc1d0ccba3346a9ea88bbe6f7", func := "theodolite/theodolitelaw04.FxpRows", spec := "fxpRows", inPlace := ["math/bits.Sub64"], named := ["math/bits.divideError", "math/bits.overflowError"], apart := false }
def FxpRowsSaid : Prop := fxpRowsRow.holds Try.pinned (OpenSpec.ofChange fxpRowsSpec)

/-- ITS FALSE NEIGHBOUR: 'it returns false'. Refute it at one input. -/
def fxpRowsWrong : ChangeSpec := { name := "fxpRows", fn := fun _ => fun
  | [d1, d2, d3, d4, d5, d6, d7] => { results := [.lit (.bool false)], args := [d1, d2, d3, d4, d5, d6, d7] }
  | _ => none }
def FxpRowsWrongFalsely : Prop := fxpRowsRow.holds Try.pinned (OpenSpec.ofChange fxpRowsWrong)

/- THE SECOND FORM. 'bulk': how many values and letters a reading holds, each counted each time it is reached (what is shared counts as often as it is met; a slice's spare places count too). A statement '..UptoSaid' is the law's where the arguments, and the package variables that the reading takes, are together of bulk at most 1048576: NARROWER than '..Said'. Prove '..Said' where nothing that the law and all that it calls make is longer than what came in: it says more and counts as full. Else prove '..UptoSaid'. A law counts once. -/
mutual
def uptoBulk {H : Type} : DataW H → Nat
  | .lit (.string bytes) => bytes.length + 1
  | .lit _ => 1
  | .nil => 1
  | .ptr d => uptoBulk d + 1
  | .slice elems spare => uptoBulkAll elems + uptoBulkAll spare + 1
  | .agg parts => uptoBulkAll parts + 1
  | .iface _ d => uptoBulk d + 1
  | .map entries => uptoBulkEntries entries + 1
  | .held _ => 1
def uptoBulkAll {H : Type} : List (DataW H) → Nat
  | [] => 0
  | d :: r => uptoBulk d + uptoBulkAll r
def uptoBulkEntries {H : Type} : List (Lit × DataW H) → Nat
  | [] => 0
  | x :: r => uptoBulkEntry x + uptoBulkEntries r
def uptoBulkEntry {H : Type} : Lit × DataW H → Nat
  | (.string bytes, d) => bytes.length + uptoBulk d + 1
  | (_, d) => uptoBulk d + 1
 end
def uptoSmall : (H : Type) → List (DataW H) → Bool := fun _ ds => decide (uptoBulkAll ds ≤ 1048576)
def OpenSpec.upto (s : _root_.Go.ChangeSpec) : _root_.Go.OpenSpec := { _root_.Go.OpenSpec.ofChange s with cond := some uptoSmall }

/-- 'theodolitelaw03.WideProducts', WHERE WHAT IT READS IS OF BULK AT MOST 1048576: true; the input reads as it did. -/
def wideProductsUptoRow : OpenClaim := { program := "ytpidcilpdoldjaa", sum := "8686240ecb37c0db999b4e3534f58859b9c6815cc1d0ccba3346a9ea88bbe6f7", func := "theodolite/theodolitelaw03.WideProducts", spec := "wideProducts", inPlace := ["math/bits.Sub64", "math/bits.Add64"], named := ["math/bits.divideError", "math/bits.overflowError"], apart := false, narrowed := true }
def WideProductsUptoSaid : Prop := wideProductsUptoRow.holds Try.pinned (OpenSpec.upto wideProductsSpec)

/-- 'theodolitelaw03.WideSums', WHERE WHAT IT READS IS OF BULK AT MOST 1048576: true; the input reads as it did. -/
def wideSumsUptoRow : OpenClaim := { program := "ytpidcilpdoldjaa", sum := "8686240ecb37c0db999b4e3534f58859b9c6815cc1d0ccba3346a9ea88bbe6f7", func := "theodolite/theodolitelaw03.WideSums", spec := "wideSums", inPlace := ["math/bits.Add64", "math/bits.Sub64"], named := ["math/bits.divideError", "math/bits.overflowError"], apart := false, narrowed := true }
def WideSumsUptoSaid : Prop := wideSumsUptoRow.holds Try.pinned (OpenSpec.upto wideSumsSpec)

/-- 'theodolitelaw03.WideDivides', WHERE WHAT IT READS IS OF BULK AT MOST 1048576: true; the input reads as it did. -/
def wideDividesUptoRow : OpenClaim := { program := "ytpidcilpdoldjaa", sum := "8686240ecb37c0db999b4e3534f58859b9c6815cc1d0ccba3346a9ea88bbe6f7", func := "theodolite/theodolitelaw03.WideDivides", spec := "wideDivides", inPlace := ["math/bits.Sub64", "math/bits.Add64"], named := ["math/bits.divideError", "math/bits.overflowError"], apart := false, narrowed := true }
def WideDividesUptoSaid : Prop := wideDividesUptoRow.holds Try.pinned (OpenSpec.upto wideDividesSpec)

/-- 'theodolitelaw03.WideRounds', WHERE WHAT IT READS IS OF BULK AT MOST 1048576: true; the input reads as it did. -/
def wideRoundsUptoRow : OpenClaim := { program := "ytpidcilpdoldjaa", sum := "8686240ecb37c0db999b4e3534f58859b9c6815cc1d0ccba3346a9ea88bbe6f7", func := "theodolite/theodolitelaw03.WideRounds", spec := "wideRounds", inPlace := ["math/bits.Sub64", "math/bits.Add64"], named := ["math/bits.divideError", "math/bits.overflowError"], apart := false, narrowed := true }
def WideRoundsUptoSaid : Prop := wideRoundsUptoRow.holds Try.pinned (OpenSpec.upto wideRoundsSpec)

/-- 'theodolitelaw03.WideShifts', WHERE WHAT IT READS IS OF BULK AT MOST 1048576: true; the input reads as it did. -/
def wideShiftsUptoRow : OpenClaim := { program := "ytpidcilpdoldjaa", sum := "8686240ecb37c0db999b4e3534f58859b9c6815cc1d0ccba3346a9ea88bbe6f7", func := "theodolite/theodolitelaw03.WideShifts", spec := "wideShifts", inPlace := ["math/bits.Add64", "math/bits.Sub64"], named := ["math/bits.divideError", "math/bits.overflowError"], apart := false, narrowed := true }
def WideShiftsUptoSaid : Prop := wideShiftsUptoRow.holds Try.pinned (OpenSpec.upto wideShiftsSpec)

/-- 'theodolitelaw04.FxpSums', WHERE WHAT IT READS IS OF BULK AT MOST 1048576: true; the input reads as it did. -/
def fxpSumsUptoRow : OpenClaim := { program := "ytpidcilpdoldjaa", sum := "8686240ecb37c0db999b4e3534f58859b9c6815cc1d0ccba3346a9ea88bbe6f7", func := "theodolite/theodolitelaw04.FxpSums", spec := "fxpSums", inPlace := ["math/bits.Sub64"], named := ["math/bits.divideError", "math/bits.overflowError"], apart := false, narrowed := true }
def FxpSumsUptoSaid : Prop := fxpSumsUptoRow.holds Try.pinned (OpenSpec.upto fxpSumsSpec)

/-- 'theodolitelaw04.FxpProducts', WHERE WHAT IT READS IS OF BULK AT MOST 1048576: true; the input reads as it did. -/
def fxpProductsUptoRow : OpenClaim := { program := "ytpidcilpdoldjaa", sum := "8686240ecb37c0db999b4e3534f58859b9c6815cc1d0ccba3346a9ea88bbe6f7", func := "theodolite/theodolitelaw04.FxpProducts", spec := "fxpProducts", inPlace := ["math/bits.Sub64"], named := ["math/bits.divideError", "math/bits.overflowError"], apart := false, narrowed := true }
def FxpProductsUptoSaid : Prop := fxpProductsUptoRow.holds Try.pinned (OpenSpec.upto fxpProductsSpec)

/-- 'theodolitelaw04.FxpScales', WHERE WHAT IT READS IS OF BULK AT MOST 1048576: true; the input reads as it did. -/
def fxpScalesUptoRow : OpenClaim := { program := "ytpidcilpdoldjaa", sum := "8686240ecb37c0db999b4e3534f58859b9c6815cc1d0ccba3346a9ea88bbe6f7", func := "theodolite/theodolitelaw04.FxpScales", spec := "fxpScales", inPlace := ["math/bits.Sub64"], named := ["math/bits.divideError", "math/bits.overflowError"], apart := false, narrowed := true }
def FxpScalesUptoSaid : Prop := fxpScalesUptoRow.holds Try.pinned (OpenSpec.upto fxpScalesSpec)

/-- 'theodolitelaw04.FxpNotes', WHERE WHAT IT READS IS OF BULK AT MOST 1048576: true; the input reads as it did. -/
def fxpNotesUptoRow : OpenClaim := { program := "ytpidcilpdoldjaa", sum := "8686240ecb37c0db999b4e3534f58859b9c6815cc1d0ccba3346a9ea88bbe6f7", func := "theodolite/theodolitelaw04.FxpNotes", spec := "fxpNotes", inPlace := ["math/bits.Sub64"], named := ["math/bits.divideError", "math/bits.overflowError"], apart := false, narrowed := true }
def FxpNotesUptoSaid : Prop := fxpNotesUptoRow.holds Try.pinned (OpenSpec.upto fxpNotesSpec)

/-- 'theodolitelaw04.FxpRows', WHERE WHAT IT READS IS OF BULK AT MOST 1048576: true; the input reads as it did. -/
def fxpRowsUptoRow : OpenClaim := { program := "ytpidcilpdoldjaa", sum := "8686240ecb37c0db999b4e3534f58859b9c6815cc1d0ccba3346a9ea88bbe6f7", func := "theodolite/theodolitelaw04.FxpRows", spec := "fxpRows", inPlace := ["math/bits.Sub64"], named := ["math/bits.divideError", "math/bits.overflowError"], apart := false, narrowed := true }
def FxpRowsUptoSaid : Prop := fxpRowsUptoRow.holds Try.pinned (OpenSpec.upto fxpRowsSpec)

end Rows
end Go.Proofs.Ytpidcilpdoldjaa
