/-
  The walk of the law WideSums, in the statement's own words.
-/
import Derived.Test.YtpidcilpdoldjaaLs03
namespace Go.Proofs.Ytpidcilpdoldjaa
open Go.RowKit
theorem walk_WideSums (a b c d : Int) (wa : (Lit.int .i64 a).wf = true) (wb : (Lit.int .u64 b).wf = true) (wc : (Lit.int .i64 c).wf = true) (wd : (Lit.int .u64 d).wf = true) (w : World) :
    Calls Try.prog 4 #[.agg #[.int .i64 a, .int .u64 b], .agg #[.int .i64 c, .int .u64 d]] w fun e w' => e = .returned (.bool true) ∧ Below w.heap.size w w' := by
  obtain ⟨h1, h2⟩ := wide_val wa wb
  obtain ⟨h3, h4⟩ := wide_val wc wd
  rw [h2, h4]
  exact core_WideSums _ _ w h1 h3
end Go.Proofs.Ytpidcilpdoldjaa
