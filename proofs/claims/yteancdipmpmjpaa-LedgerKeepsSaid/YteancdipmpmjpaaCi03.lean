/-
  The order of two whole numbers. No program in sight.
-/
import Derived.Test.YteancdipmpmjpaaKit
namespace Go.Proofs.Yteancdipmpmjpaa
def cmpI (x y : Int) : Int := if x < y then -1 else if x = y then 0 else 1
end Go.Proofs.Yteancdipmpmjpaa
