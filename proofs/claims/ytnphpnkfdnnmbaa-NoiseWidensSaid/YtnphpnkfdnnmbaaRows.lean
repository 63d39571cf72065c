/-
  No cell of these rows narrows 'for every input' (looked for: loops, veiled, ifaces, maps, wideKeys, modest, calm, conditions, laid).
  DERIVED. THE GIVEN ROWS OF THIS SEAT. 10 by the template 'for every input the law returns true; each argument reads behind the call as it read before'; 0 by the template 'total and deterministic' (their statements: YtnphpnkfdnnmbaaTotals.lean).
  GIVEN WITH THE SEED: the statements are not yours to turn. If you find one false, say at which input.
  Laid BY PROGRAM, IN A SANDBOX (cutbox-rows.mjs): the forced cells as the released guide's own fill.sh prints them over the translation e3952146c5d0a202… (all of the seat's roots in one cut). By AI agents, Wed Nov 11 2026. No macro, syntax, notation, axiom, sorry.
-/
import Derived.Test.YtnphpnkfdnnmbaaChecked
import GoSem.Claim
import GoSem.ClaimJoined
import GoSem.ClaimMapViews
import Derived.JoinedTies
import Derived.KernelRfl
namespace Go.Proofs.Ytnphpnkfdnnmbaa
/- THE CELL 'sum', in the pinned program and in every row, IS THE sha256 OF THE DUMP (.gsa) THAT YtnphpnkfdnnmbaaProg.lean LOADS. Nothing in Lean hashes anything: it is a label: what it is worth is what the hold of that sum in a sandbox is worth. -/
noncomputable def Try.pinned : Pinned := { name := "ytnphpnkfdnnmbaa", sum := "e3952146c5d0a202c44ec9c35b16108cf44efbc42ef0e4bb4319061d9fcd9164", checked := Try.checked }
namespace Rows
def none {H : Type} : Left H := { results := [], args := [] }

/-- 'theodolitelaw31.TrigTurns': WHATEVER THE INPUT: true; the input reads as it did. -/
def trigTurnsSpec : ChangeSpec := { name := "trigTurns", fn := fun _ => fun
  | [d] => { results := [.lit (.bool true)], args := [d] }
  | _ => none }
def trigTurnsRow : OpenClaim := { program := "ytnphpnkfdnnmbaa", sum := "e3952146c5d0a202c44ec9c35b16108cf44efbc42ef0e4bb4319061d9fcd9164", func := "theodolite/theodolitelaw31.TrigTurns", spec := "trigTurns", inPlace := ["math/bits.Sub64", "math/bits.Add64"], named := ["math/bits.divideError", "math/bits.overflowError"], apart := false }
def TrigTurnsSaid : Prop := trigTurnsRow.holds Try.pinned (OpenSpec.ofChange trigTurnsSpec)

/-- ITS FALSE NEIGHBOUR: 'it returns false'. Refute it at one input. -/
def trigTurnsWrong : ChangeSpec := { name := "trigTurns", fn := fun _ => fun
  | [d] => { results := [.lit (.bool false)], args := [d] }
  | _ => none }
def TrigTurnsWrongFalsely : Prop := trigTurnsRow.holds Try.pinned (OpenSpec.ofChange trigTurnsWrong)

/-- 'theodolitelaw31.TrigQuarters': WHATEVER THE INPUT: true; the input reads as it did. -/
def trigQuartersSpec : ChangeSpec := { name := "trigQuarters", fn := fun _ => fun
  | [d] => { results := [.lit (.bool true)], args := [d] }
  | _ => none }
def trigQuartersRow : OpenClaim := { program := "ytnphpnkfdnnmbaa", sum := "e3952146c5d0a202c44ec9c35b16108cf44efbc42ef0e4bb4319061d9fcd9164", func := "theodolite/theodolitelaw31.TrigQuarters", spec := "trigQuarters", inPlace := ["math/bits.Sub64", "math/bits.Add64"], named := ["math/bits.divideError", "math/bits.overflowError"], apart := false }
def TrigQuartersSaid : Prop := trigQuartersRow.holds Try.pinned (OpenSpec.ofChange trigQuartersSpec)

/-- ITS FALSE NEIGHBOUR: 'it returns false'. Refute it at one input. -/
def trigQuartersWrong : ChangeSpec := { name := "trigQuarters", fn := fun _ => fun
  | [d] => { results := [.lit (.bool false)], args := [d] }
  | _ => none }
def TrigQuartersWrongFalsely : Prop := trigQuartersRow.holds Try.pinned (OpenSpec.ofChange trigQuartersWrong)

/-- 'theodolitelaw31.TrigArcs': WHATEVER THE INPUT: true; the input reads as it did. -/
def trigArcsSpec : ChangeSpec := { name := "trigArcs", fn := fun _ => fun
  | [d1, d2] => { results := [.lit (.bool true)], args := [d1, d2] }
  | _ => none }
def trigArcsRow : OpenClaim := { program := "ytnphpnkfdnnmbaa", sum := "e3952146c5d0a202c44ec9c35b16108cf44efbc42ef0e4bb4319061d9fcd9164", func := "theodolite/theodolitelaw31.TrigArcs", spec := "trigArcs", inPlace := ["math/bits.Sub64", "math/bits.Add64"], named := ["math/bits.divideError", "math/bits.overflowError"], apart := false }
def TrigArcsSaid : Prop := trigArcsRow.holds Try.pinned (OpenSpec.ofChange trigArcsSpec)

/-- ITS FALSE NEIGHBOUR: 'it returns false'. Refute it at one input. -/
def trigArcsWrong : ChangeSpec := { name := "trigArcs", fn := fun _ => fun
  | [d1, d2] => { results := [.lit (.bool false)], args := [d1, d2] }
  | _ => none }
def TrigArcsWrongFalsely : Prop := trigArcsRow.holds Try.pinned (OpenSpec.ofChange trigArcsWrong)

/-- 'theodolitelaw31.TrigRotates': WHATEVER THE INPUT: true; the input reads as it did. -/
def trigRotatesSpec : ChangeSpec := { name := "trigRotates", fn := fun _ => fun
  | [d1, d2, d3] => { results := [.lit (.bool true)], args := [d1, d2, d3] }
  | _ => none }
def trigRotatesRow : OpenClaim := { program := "ytnphpnkfdnnmbaa", sum := "e3952146c5d0a202c44ec9c35b16108cf44efbc42ef0e4bb4319061d9fcd9164", func := "theodolite/theodolitelaw31.TrigRotates", spec := "trigRotates", inPlace := ["math/bits.Sub64", "math/bits.Add64"], named := ["math/bits.divideError", "math/bits.overflowError"], apart := false }
def TrigRotatesSaid : Prop := trigRotatesRow.holds Try.pinned (OpenSpec.ofChange trigRotatesSpec)

/-- ITS FALSE NEIGHBOUR: 'it returns false'. Refute it at one input. -/
def trigRotatesWrong : ChangeSpec := { name := "trigRotates", fn := fun _ => fun
  | [d1, d2, d3] => { results := [.lit (.bool false)], args := [d1, d2, d3] }
  | _ => none }
def TrigRotatesWrongFalsely : Prop := trigRotatesRow.holds Try.pinned (OpenSpec.ofChange trigRotatesWrong)

/-- 'theodolitelaw32.GeoMetres': WHATEVER THE INPUT: true; the input reads as it did. -/
def geoMetresSpec : ChangeSpec := { name := "geoMetres", fn := fun _ => fun
  | [d1, d2, d3] => { results := [.lit (.bool true)], args := [d1, d2, d3] }
  | _ => none }
def geoMetresRow : OpenClaim := { program := "ytnphpnkfdnnmbaa", sum := "e3952146c5d0a202c44ec9c35b16108cf44efbc42ef0e4bb4319061d9fcd9164", func := "theodolite/theodolitelaw32.GeoMetres", spec := "geoMetres", inPlace := ["math/bits.Sub64"], named := ["math/bits.divideError", "math/bits.overflowError"], apart := false }
def GeoMetresSaid : Prop := geoMetresRow.holds Try.pinned (OpenSpec.ofChange geoMetresSpec)

/-- ITS FALSE NEIGHBOUR: 'it returns false'. Refute it at one input. -/
def geoMetresWrong : ChangeSpec := { name := "geoMetres", fn := fun _ => fun
  | [d1, d2, d3] => { results := [.lit (.bool false)], args := [d1, d2, d3] }
  | _ => none }
def GeoMetresWrongFalsely : Prop := geoMetresRow.holds Try.pinned (OpenSpec.ofChange geoMetresWrong)

/-- 'theodolitelaw32.GeoGoes': WHATEVER THE INPUT: true; the input reads as it did. -/
def geoGoesSpec : ChangeSpec := { name := "geoGoes", fn := fun _ => fun
  | [d1, d2, d3] => { results := [.lit (.bool true)], args := [d1, d2, d3] }
  | _ => none }
def geoGoesRow : OpenClaim := { program := "ytnphpnkfdnnmbaa", sum := "e3952146c5d0a202c44ec9c35b16108cf44efbc42ef0e4bb4319061d9fcd9164", func := "theodolite/theodolitelaw32.GeoGoes", spec := "geoGoes", inPlace := ["math/bits.Sub64"], named := ["math/bits.divideError", "math/bits.overflowError"], apart := false }
def GeoGoesSaid : Prop := geoGoesRow.holds Try.pinned (OpenSpec.ofChange geoGoesSpec)

/-- ITS FALSE NEIGHBOUR: 'it returns false'. Refute it at one input. -/
def geoGoesWrong : ChangeSpec := { name := "geoGoes", fn := fun _ => fun
  | [d1, d2, d3] => { results := [.lit (.bool false)], args := [d1, d2, d3] }
  | _ => none }
def GeoGoesWrongFalsely : Prop := geoGoesRow.holds Try.pinned (OpenSpec.ofChange geoGoesWrong)

/-- 'theodolitelaw32.GeoBack': WHATEVER THE INPUT: true; the input reads as it did. -/
def geoBackSpec : ChangeSpec := { name := "geoBack", fn := fun _ => fun
  | [d1, d2, d3] => { results := [.lit (.bool true)], args := [d1, d2, d3] }
  | _ => none }
def geoBackRow : OpenClaim := { program := "ytnphpnkfdnnmbaa", sum := "e3952146c5d0a202c44ec9c35b16108cf44efbc42ef0e4bb4319061d9fcd9164", func := "theodolite/theodolitelaw32.GeoBack", spec := "geoBack", inPlace := ["math/bits.Sub64"], named := ["math/bits.divideError", "math/bits.overflowError"], apart := false }
def GeoBackSaid : Prop := geoBackRow.holds Try.pinned (OpenSpec.ofChange geoBackSpec)

/-- ITS FALSE NEIGHBOUR: 'it returns false'. Refute it at one input. -/
def geoBackWrong : ChangeSpec := { name := "geoBack", fn := fun _ => fun
  | [d1, d2, d3] => { results := [.lit (.bool false)], args := [d1, d2, d3] }
  | _ => none }
def GeoBackWrongFalsely : Prop := geoBackRow.holds Try.pinned (OpenSpec.ofChange geoBackWrong)

/-- 'theodolitelaw13.NoiseTells': WHATEVER THE INPUT: true; the input reads as it did. -/
def noiseTellsSpec : ChangeSpec := { name := "noiseTells", fn := fun _ => fun
  | [d1, d2] => { results := [.lit (.bool true)], args := [d1, d2] }
  | _ => none }
def noiseTellsRow : OpenClaim := { program := "ytnphpnkfdnnmbaa", sum := "e3952146c5d0a202c44ec9c35b16108cf44efbc42ef0e4bb4319061d9fcd9164", func := "theodolite/theodolitelaw13.NoiseTells", spec := "noiseTells", inPlace := ["math/bits.Sub64", "math/bits.Add64"], unfollowed := true, recurses := true, named := ["math/bits.divideError", "math/bits.overflowError"], apart := false }
def NoiseTellsSaid : Prop := noiseTellsRow.holds Try.pinned (OpenSpec.ofChange noiseTellsSpec)

/-- ITS FALSE NEIGHBOUR: 'it returns false'. Refute it at one input. -/
def noiseTellsWrong : ChangeSpec := { name := "noiseTells", fn := fun _ => fun
  | [d1, d2] => { results := [.lit (.bool false)], args := [d1, d2] }
  | _ => none }
def NoiseTellsWrongFalsely : Prop := noiseTellsRow.holds Try.pinned (OpenSpec.ofChange noiseTellsWrong)

/-- 'theodolitelaw13.NoiseBell': WHATEVER THE INPUT: true; the input reads as it did. -/
def noiseBellSpec : ChangeSpec := { name := "noiseBell", fn := fun _ => fun
  | [d1, d2, d3, d4] => { results := [.lit (.bool true)], args := [d1, d2, d3, d4] }
  | _ => none }
def noiseBellRow : OpenClaim := { program := "ytnphpnkfdnnmbaa", sum := "e3952146c5d0a202c44ec9c35b16108cf44efbc42ef0e4bb4319061d9fcd9164", func := "theodolite/theodolitelaw13.NoiseBell", spec := "noiseBell", inPlace := ["math/bits.Sub64", "math/bits.Add64"], unfollowed := true, recurses := true, named := ["math/bits.divideError", "math/bits.overflowError"], apart := false }
def NoiseBellSaid : Prop := noiseBellRow.holds Try.pinned (OpenSpec.ofChange noiseBellSpec)

/-- ITS FALSE NEIGHBOUR: 'it returns false'. Refute it at one input. -/
def noiseBellWrong : ChangeSpec := { name := "noiseBell", fn := fun _ => fun
  | [d1, d2, d3, d4] => { results := [.lit (.bool false)], args := [d1, d2, d3, d4] }
  | _ => none }
def NoiseBellWrongFalsely : Prop := noiseBellRow.holds Try.pinned (OpenSpec.ofChange noiseBellWrong)

/-- 'theodolitelaw13.NoiseWidens': WHATEVER THE INPUT: true; the input reads as it did. -/
def noiseWidensSpec : ChangeSpec := { name := "noiseWidens", fn := fun _ => fun
  | [d1, d2, d3, d4] => { results := [.lit (.bool true)], args := [d1, d2, d3, d4] }
  | _ => none }
def noiseWidensRow : OpenClaim := { program := "ytnphpnkfdnnmbaa", sum := "e3952146c5d0a202c44ec9c35b16108cf44efbc42ef0e4bb4319061d9fcd9164", func := "theodolite/theodolitelaw13.NoiseWidens", spec := "noiseWidens", inPlace := ["math/bits.Sub64", "math/bits.Add64"], unfollowed := true, recurses := true, named := ["math/bits.divideError", "math/bits.overflowError"], apart := false }
def NoiseWidensSaid : Prop := noiseWidensRow.holds Try.pinned (OpenSpec.ofChange noiseWidensSpec)

/-- ITS FALSE NEIGHBOUR: 'it returns false'. Refute it at one input. -/
def noiseWidensWrong : ChangeSpec := { name := "noiseWidens", fn := fun _ => fun
  | [d1, d2, d3, d4] => { results := [.lit (.bool false)], args := [d1, d2, d3, d4] }
  | _ => none }
def NoiseWidensWrongFalsely : Prop := noiseWidensRow.holds Try.pinned (OpenSpec.ofChange noiseWidensWrong)

/- THE SECOND FORM. 'bulk': how many values and letters a reading holds, each counted each time it is reached (what is shared counts as often as it is met; a slice's spare places count too). A statement '..UptoSaid' is the law's where the arguments, and the package variables that the reading takes, are together of bulk at most 1048576: NARROWER than '..Said'. Prove '..Said' where nothing that the law and all that it calls make is longer than what came in: it says more and counts as full. Else prove '..UptoSaid'. A law counts once. -/
mutual
def uptoBulk {H : Type} : DataW H → Nat
  | .lit (.string bytes) => bytes.length + 1
  | .lit _ => 1
  | .nil => 1
  | .ptr d => uptoBulk d + 1
  | .slice elems spare => uptoBulkAll elems + uptoBulkAll spare + 1
  | .agg parts => uptoBulkAll parts + 1
  | .iface _ d => uptoBulk d + 1
  | .map entries => uptoBulkEntries entries + 1
  | .held _ => 1
def uptoBulkAll {H : Type} : List (DataW H) → Nat
  | [] => 0
  | d :: r => uptoBulk d + uptoBulkAll r
def uptoBulkEntries {H : Type} : List (Lit × DataW H) → Nat
  | [] => 0
  | x :: r => uptoBulkEntry x + uptoBulkEntries r
def uptoBulkEntry {H : Type} : Lit × DataW H → Nat
  | (.string bytes, d) => bytes.length + uptoBulk d + 1
  | (_, d) => uptoBulk d + 1
 end
def uptoSmall : (H : Type) → List (DataW H) → Bool := fun _ ds => decide (uptoBulkAll ds ≤ 1048576)
def OpenSpec.upto (s : _root_.Go.ChangeSpec) : _root_.Go.OpenSpec := { _root_.Go.OpenSpec.ofChange s with cond := some uptoSmall }

/-- 'theodolitelaw31.TrigTurns', WHERE WHAT IT READS IS OF BULK AT MOST 1048576: true; the input reads as it did. -/
def trigTurnsUptoRow : OpenClaim := { program := "ytnphpnkfdnnmbaa", sum := "e3952146c5d0a202c44ec9c35b16108cf44efbc42ef0e4bb4319061d9fcd9164", func := "theodolite/theodolitelaw31.TrigTurns", spec := "trigTurns", inPlace := ["math/bits.Sub64", "math/bits.Add64"], named := ["math/bits.divideError", "math/bits.overflowError"], apart := false, narrowed := true }
def TrigTurnsUptoSaid : Prop := trigTurnsUptoRow.holds Try.pinned (OpenSpec.upto trigTurnsSpec)

/-- 'theodolitelaw31.TrigQuarters', WHERE WHAT IT READS IS OF BULK AT MOST 1048576: true; the input reads as it did. -/
def trigQuartersUptoRow : OpenClaim := { program := "ytnphpnkfdnnmbaa", sum := "e3952146c5d0a202c44ec9c35b16108cf44efbc42ef0e4bb4319061d9fcd9164", func := "theodolite/theodolitelaw31.TrigQuarters", spec := "trigQuarters", inPlace := ["math/bits.Sub64", "math/bits.Add64"], named := ["math/bits.divideError", "math/bits.overflowError"], apart := false, narrowed := true }
def TrigQuartersUptoSaid : Prop := trigQuartersUptoRow.holds Try.pinned (OpenSpec.upto trigQuartersSpec)

/-- 'theodolitelaw31.TrigArcs', WHERE WHAT IT READS IS OF BULK AT MOST 1048576: true; the input reads as it did. -/
def trigArcsUptoRow : OpenClaim := { program := "ytnphpnkfdnnmbaa", sum := "e3952146c5d0a202c44ec9c35b16108cf44efbc42ef0e4bb4319061d9fcd9164", func := "theodolite/theodolitelaw31.TrigArcs", spec := "trigArcs", inPlace := ["math/bits.Sub64", "math/bits.Add64"], named := ["math/bits.divideError", "math/bits.overflowError"], apart := false, narrowed := true }
def TrigArcsUptoSaid : Prop := trigArcsUptoRow.holds Try.pinned (OpenSpec.upto trigArcsSpec)

/-- 'theodolitelaw31.TrigRotates', WHERE WHAT IT READS IS OF BULK AT MOST 1048576: true; the input reads as it did. -/
def trigRotatesUptoRow : OpenClaim := { program := "ytnphpnkfdnnmbaa", sum := "e3952146c5d0a202c44ec9c35b16108cf44efbc42ef0e4bb4319061d9fcd9164", func := "theodolite/theodolitelaw31.TrigRotates", spec := "trigRotates", inPlace := ["math/bits.Sub64", "math/bits.Add64"], named := ["math/bits.divideError", "math/bits.overflowError"], apart := false, narrowed := true }
def TrigRotatesUptoSaid : Prop := trigRotatesUptoRow.holds Try.pinned (OpenSpec.upto trigRotatesSpec)

/-- 'theodolitelaw32.GeoMetres', WHERE WHAT IT READS IS OF BULK AT MOST 1048576: true; the input reads as it did. -/
def geoMetresUptoRow : OpenClaim := { program := "ytnphpnkfdnnmbaa", sum := "e3952146c5d0a202c44ec9c35b16108cf44efbc42ef0e4bb4319061d9fcd9164", func := "theodolite/theodolitelaw32.GeoMetres", spec := "geoMetres", inPlace := ["math/bits.Sub64"], named := ["math/bits.divideError", "math/bits.overflowError"], apart := false, narrowed := true }
def GeoMetresUptoSaid : Prop := geoMetresUptoRow.holds Try.pinned (OpenSpec.upto geoMetresSpec)

/-- 'theodolitelaw32.GeoGoes', WHERE WHAT IT READS IS OF BULK AT MOST 1048576: true; the input reads as it did. -/
def geoGoesUptoRow : OpenClaim := { program := "ytnphpnkfdnnmbaa", sum := "e3952146c5d0a202c44ec9c35b16108cf44efbc42ef0e4bb4319061d9fcd9164", func := "theodolite/theodolitelaw32.GeoGoes", spec := "geoGoes", inPlace := ["math/bits.Sub64"], named := ["math/bits.divideError", "math/bits.overflowError"], apart := false, narrowed := true }
def GeoGoesUptoSaid : Prop := geoGoesUptoRow.holds Try.pinned (OpenSpec.upto geoGoesSpec)

/-- 'theodolitelaw32.GeoBack', WHERE WHAT IT READS IS OF BULK AT MOST 1048576: true; the input reads as it did. -/
def geoBackUptoRow : OpenClaim := { program := "ytnphpnkfdnnmbaa", sum := "e3952146c5d0a202c44ec9c35b16108cf44efbc42ef0e4bb4319061d9fcd9164", func := "theodolite/theodolitelaw32.GeoBack", spec := "geoBack", inPlace := ["math/bits.Sub64"], named := ["math/bits.divideError", "math/bits.overflowError"], apart := false, narrowed := true }
def GeoBackUptoSaid : Prop := geoBackUptoRow.holds Try.pinned (OpenSpec.upto geoBackSpec)

/-- 'theodolitelaw13.NoiseTells', WHERE WHAT IT READS IS OF BULK AT MOST 1048576: true; the input reads as it did. -/
def noiseTellsUptoRow : OpenClaim := { program := "ytnphpnkfdnnmbaa", sum := "e3952146c5d0a202c44ec9c35b16108cf44efbc42ef0e4bb4319061d9fcd9164", func := "theodolite/theodolitelaw13.NoiseTells", spec := "noiseTells", inPlace := ["math/bits.Sub64", "math/bits.Add64"], unfollowed := true, recurses := true, named := ["math/bits.divideError", "math/bits.overflowError"], apart := false, narrowed := true }
def NoiseTellsUptoSaid : Prop := noiseTellsUptoRow.holds Try.pinned (OpenSpec.upto noiseTellsSpec)

/-- 'theodolitelaw13.NoiseBell', WHERE WHAT IT READS IS OF BULK AT MOST 1048576: true; the input reads as it did. -/
def noiseBellUptoRow : OpenClaim := { program := "ytnphpnkfdnnmbaa", sum := "e3952146c5d0a202c44ec9c35b16108cf44efbc42ef0e4bb4319061d9fcd9164", func := "theodolite/theodolitelaw13.NoiseBell", spec := "noiseBell", inPlace := ["math/bits.Sub64", "math/bits.Add64"], unfollowed := true, recurses := true, named := ["math/bits.divideError", "math/bits.overflowError"], apart := false, narrowed := true }
def NoiseBellUptoSaid : Prop := noiseBellUptoRow.holds Try.pinned (OpenSpec.upto noiseBellSpec)

/-- 'theodolitelaw13.NoiseWidens', WHERE WHAT IT READS IS OF BULK AT MOST 1048576: true; the input reads as it did. -/
def noiseWidensUptoRow : OpenClaim := { program := "ytnphpnkfdnnmbaa", sum := "e3952146c5d0a202c44ec9c35b16108cf44efbc42ef0e4bb4319061d9fcd9164", func := "theodolite/theodolitelaw13.NoiseWidens", spec := "noiseWidens", inPlace := ["math/bits.Sub64", "math/bits.Add64"], unfollowed := true, recurses := true, named := ["math/bits.divideError", "math/bits.overflowError"], apart := false, narrowed := true }
def NoiseWidensUptoSaid : Prop := noiseWidensUptoRow.holds Try.pinned (OpenSpec.upto noiseWidensSpec)

end Rows
end Go.Proofs.Ytnphpnkfdnnmbaa
