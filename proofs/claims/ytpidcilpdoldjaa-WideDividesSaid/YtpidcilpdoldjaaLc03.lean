/-
  The walk of the law WideDivides, in the statement's own words.
-/
import Derived.Test.YtpidcilpdoldjaaLb03
import Derived.Test.YtpidcilpdoldjaaAgg
namespace Go.Proofs.Ytpidcilpdoldjaa
open Go.RowKit
theorem walk_WideDivides (a b x c m : Int) (wa : (Lit.int .i64 a).wf = true) (wb : (Lit.int .u64 b).wf = true) (w1 : (Lit.int .i64 x).wf = true) (w2 : (Lit.int .i64 c).wf = true) (_w3 : (Lit.int .i64 m).wf = true) (w : World) :
    Calls Try.prog 5 #[.agg #[.int .i64 a, .int .u64 b], .int .i64 x, .int .i64 c, .int .i64 m] w fun e w' => e = .returned (.bool true) ∧ Below w.heap.size w w' := by
  obtain ⟨h1, h2⟩ := wide_val wa wb
  rw [h2]
  exact core_WideDivides _ x c m w h1 (in64_of w1) (in64_of w2)
end Go.Proofs.Ytpidcilpdoldjaa
