/-
  The contracts of wide at told numbers.
-/
import Derived.Test.YtogbnecgikbkmaaWc03
import Derived.OpenShut
namespace Go.Proofs.Ytogbnecgikbkmaa
open Go.RowKit
attribute [local irreducible] wpHeld wpList
set_option linter.unusedVariables false

def in64 (x : Int) : Bool := decide (-9223372036854775808 ≤ x) && decide (x ≤ 9223372036854775807)
theorem in64_lo {x : Int} (h : in64 x = true) : -9223372036854775808 ≤ x := by unfold in64 at h; simp at h; exact h.1
theorem in64_hi {x : Int} (h : in64 x = true) : x ≤ 9223372036854775807 := by unfold in64 at h; simp at h; exact h.2
theorem MD_at (x y b mode v c : Int) (hb : (in64 x && in64 y && in64 b) = true) (h : divM (x * y) b mode = (v, c)) : Hid (∀ w, Calls Try.prog 58 #[.int .i64 x, .int .i64 y, .int .i64 b, .int .i64 mode] w fun e w' => e = .returned (.tuple #[.int .i64 v, .int .i64 c]) ∧ Below w.heap.size w w') := Lib.hid (fun w => by
  simp only [Bool.and_eq_true] at hb
  have := MulDiv_any x y b mode w (in64_lo hb.1.1) (in64_hi hb.1.1) (in64_lo hb.1.2) (in64_hi hb.1.2) (in64_lo hb.2) (in64_hi hb.2)
  rwa [h] at this)
theorem Mul_at (x y z : Int) (hb : (in64 x && in64 y) = true) (h : x * y = z) : Hid (∀ w, Calls Try.prog 79 #[.int .i64 x, .int .i64 y] w fun e w' => e = .returned (.agg (wI z)) ∧ Below w.heap.size w w') := Lib.hid (fun w => by
  simp only [Bool.and_eq_true] at hb
  rw [← h]
  exact Mul_wide x y w (in64_lo hb.1) (in64_hi hb.1) (in64_lo hb.2) (in64_hi hb.2))
theorem OfW_at (x : Int) (hb : in64 x = true) : Hid (∀ w, Calls Try.prog 80 #[.int .i64 x] w fun e w' => e = .returned (.agg (wI x)) ∧ Below w.heap.size w w') := Lib.hid (fun w => Of_wide x w (in64_lo hb) (in64_hi hb))
theorem in128_lo {x : Int} (h : fits128 x = true) : -170141183460469231731687303715884105728 ≤ x := by unfold fits128 at h; simp at h; exact h.1
theorem in128_hi {x : Int} (h : fits128 x = true) : x < 170141183460469231731687303715884105728 := by unfold fits128 at h; simp at h; exact h.2
theorem CmpW_at (x y r : Int) (h : cmpI x y = r) : Hid (∀ w, Calls Try.prog 78 #[.agg (wI x), .agg (wI y)] w fun e w' => e = .returned (.int .i64 r) ∧ Below w.heap.size w w') := Lib.hid (fun w => by rw [← h]; exact Cmp_wide x y w)
theorem NegW_at (x z : Int) (hb : fits128 x = true) (h : wrap128 (-x) = z) : Hid (∀ w, Calls Try.prog 93 #[.agg (wI x)] w fun e w' => e = .returned (.agg (wI z)) ∧ Below w.heap.size w w') := Lib.hid (fun w => by rw [← h]; exact Neg_any x w (in128_lo hb) (in128_hi hb))
theorem in64_of {x : Int} (h : (Lit.int .i64 x).wf = true) : in64 x = true := by
  have := bounds_i64 h
  unfold in64
  rw [decide_eq_true this.1, decide_eq_true this.2]; rfl
end Go.Proofs.Ytogbnecgikbkmaa
