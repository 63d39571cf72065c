/-
  Lemmas and walks of this claim (the texts Gy14 of the work; what no proof here uses is left out). No claim of their own.
-/
import Derived.Test.YtpejoaefnnbghaaPG8
import Derived.Test.YtpejoaefnnbghaaPG7
import Derived.Test.YtpejoaefnnbghaaPG5
import Derived.Test.YtpejoaefnnbghaaPG10
import Derived.Test.YtpejoaefnnbghaaPG2
import Derived.Test.YtpejoaefnnbghaaPG17
import Derived.Test.YtpejoaefnnbghaaPG1
import Derived.Test.YtpejoaefnnbghaaPG3
import Derived.Test.YtpejoaefnnbghaaPG4
import Derived.Lib.MinMax
import Derived.Laws.CopyOwn
set_option linter.all false
set_option linter.unusedSimpArgs false
set_option linter.unusedVariables false
namespace Go.Proofs.Ytpejoaefnnbghaa
open Go.RowKit
attribute [local irreducible] wpHeld wpTree wpList
set_option linter.unusedVariables false
theorem guardSpot (x y : Operand) (xs ys : Array Value) (w : World) : (eqGuard .eql 29 x y (.agg xs) (.agg ys)).run Try.prog w = .ok () w :=
  run_eqGuard_agg w .eql 29 x y xs ys (by kernel_rfl)
theorem eqSpot (a b c d : Int) (w : World) : (Op.equalIn 10000 29 (.agg #[.int .i64 a, .int .i64 b]) (.agg #[.int .i64 c, .int .i64 d])).run Try.prog w = .ok (sameL [.int .i64 a, .int .i64 b] [.int .i64 c, .int .i64 d]) w :=
  equal_flat [some .i64, some .i64] (by kernel_rfl) (by kernel_rfl) (by kernel_rfl) [.int .i64 a, .int .i64 b] [.int .i64 c, .int .i64 d] ⟨⟨_, rfl⟩, ⟨_, rfl⟩, trivial⟩ ⟨⟨_, rfl⟩, ⟨_, rfl⟩, trivial⟩ w
end Go.Proofs.Ytpejoaefnnbghaa
