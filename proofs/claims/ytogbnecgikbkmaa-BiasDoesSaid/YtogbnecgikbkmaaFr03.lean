/-
  The walks of the reference's numbers: a number of two parts, the order, the sum.
-/
import Derived.Test.YtogbnecgikbkmaaP03
namespace Go.Proofs.Ytogbnecgikbkmaa
open Go.RowKit
set_option linter.unusedVariables false

theorem z0N : (Try.prog.info? 124).map (·.zero) = some (some (.agg (numA false 0))) := by kernel_rfl
theorem z0B : (Try.prog.info? 122).map (·.zero) = some (some (.agg (bitsA 0))) := by kernel_rfl

end Go.Proofs.Ytogbnecgikbkmaa
