/-
  A number of 128 bits by value, as it comes in and as it is handed back. No condition: lemmas for the frames of the statements.
-/
import Derived.Test.YtpidcilpdoldjaaLa03
import Derived.ProofKit
import Derived.Lib.SmallJoins
namespace Go.Proofs.Ytpidcilpdoldjaa
open Go.ChangeShapes Go.WideShapes Go.ChangeAt Go.RowKit Go.Joins
set_option linter.unusedVariables false
variable {H : Type} {enc : TypeId × Value → H} {w : World} {base : Nat} {spare : Nat → Bool} {held : Bool}
set_option maxRecDepth 100000 in
theorem cellsW : Try.prog.cellsOf 25 = 2 := by kernel_rfl
set_option maxRecDepth 100000 in
theorem open_wide {r : Reach} {b0 : Nat} {v : Value} {d : DataW H} {p : List MemPlace} (hv : Value.okWide Try.prog w r b0 25 v) (h : DataW.Trod enc Try.prog w base spare held 25 v d p) :
    ∃ a b : Int, v = .agg #[.int .i64 a, .int .u64 b] ∧ d = .agg [.lit (.int .i64 a), .lit (.int .u64 b)] ∧ p = [] ∧ (Lit.int .i64 a).wf = true ∧ (Lit.int .u64 b).wf = true := by
  obtain ⟨c0, c1, y0, y1, m, rfl, rfl, rfl, hy0, hy1⟩ := open_agg2 Try.underlying25 (by kernel_rfl) cellsW hv h
  obtain ⟨a, e0, rfl, wa⟩ := DataW.trod_int Try.underlying2 hy0
  obtain ⟨b, e1, rfl, wb⟩ := DataW.trod_int Try.underlying23 hy1
  simp at e0 e1
  subst e0 e1
  exact ⟨a, b, rfl, rfl, rfl, wa, wb⟩
set_option maxRecDepth 100000 in
theorem shut_wide {a b : Int} (wa : (Lit.int .i64 a).wf = true) (wb : (Lit.int .u64 b).wf = true) : DataW.Trod enc Try.prog w base spare held 25 (.agg #[.int .i64 a, .int .u64 b]) (.agg [.lit (.int .i64 a), .lit (.int .u64 b)]) [] :=
  shut_agg2 (y0 := (.lit (.int .i64 a), [])) (y1 := (.lit (.int .u64 b), [])) Try.underlying25 (by kernel_rfl) cellsW ⟨1, by simp [DataW.trod, Try.underlying2, wa]⟩ ⟨1, by simp [DataW.trod, Try.underlying23, wb]⟩
/-- Its value. -/
theorem wide_val {a b : Int} (wa : (Lit.int .i64 a).wf = true) (wb : (Lit.int .u64 b).wf = true) : fits128 (a * 18446744073709551616 + b) = true ∧ #[Value.int .i64 a, .int .u64 b] = wI (a * 18446744073709551616 + b) := by
  have h1 := bounds_i64 wa
  have h2 := bounds_u64 wb
  refine ⟨fits_in ⟨by omega, by omega⟩, ?_⟩
  unfold wI
  rw [show (a * 18446744073709551616 + b) / 18446744073709551616 = a by omega, show (a * 18446744073709551616 + b) % 18446744073709551616 = b by omega]
end Go.Proofs.Ytpidcilpdoldjaa
