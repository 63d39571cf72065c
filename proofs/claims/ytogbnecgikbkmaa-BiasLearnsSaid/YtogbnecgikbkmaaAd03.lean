/-
  The walk of the reference's sum.
-/
import Derived.Test.YtogbnecgikbkmaaCm03
namespace Go.Proofs.Ytogbnecgikbkmaa
open Go.RowKit
attribute [local irreducible] wpHeld wpList
set_option linter.unusedVariables false

theorem top_lt {a b : Nat} (ha : a < 2 ^ 128) (hb : b < 2 ^ 128) : (a + b) % top = a + b := Nat.mod_eq_of_lt (by unfold top; omega)
theorem fits_at (z : Int) (n : Nat) (m : Bool) (s : Nat) (f : Bool) (hz : numI z = numA m s) (h : z.natAbs < 2 ^ 129) (hn : n < 129) (hf : room n z = f) : ∀ w, Calls Try.prog 89 #[.agg (numA m s), .int .i64 n] w fun e w' => e = .returned (.bool f) ∧ Below w.heap.size w w' := fun w => by
  rw [← hz, ← hf]
  exact fits_any z n w h hn
theorem fits_127 (z : Int) (m : Bool) (s : Nat) (f : Bool) (hz : numI z = numA m s) (h : z.natAbs < 2 ^ 129) (hf : room 127 z = f) : ∀ w, Calls Try.prog 89 #[.agg (numA m s), .int .i64 127] w fun e w' => e = .returned (.bool f) ∧ Below w.heap.size w w' := fits_at z 127 m s f hz h (by omega) hf
theorem zero_at (m : Bool) (a : Nat) (b : Bool) (ha : a < 2 ^ 129) (hb : decide (a = 0) = b) : ∀ w, Calls Try.prog 72 #[.agg (numA m a)] w fun e w' => e = .returned (.bool b) ∧ Below w.heap.size w w' := fun w => by
  rw [← hb]
  exact zero_any m a w ha
theorem addBits_at (a b : Nat) (ha : a < 2 ^ 128) (hb : b < 2 ^ 128) : ∀ w, Calls Try.prog 75 #[.agg (bitsA a), .agg (bitsA b)] w fun e w' => e = .returned (.agg (bitsA (a + b))) ∧ Below w.heap.size w w' := fun w => by
  have := addBits_any a b w
  rwa [top_lt ha hb] at this
theorem less_at (a b : Nat) (l : Bool) (ha : a < 2 ^ 129) (hb : b < 2 ^ 129) (hl : decide (a < b) = l) : ∀ w, Calls Try.prog 73 #[.agg (bitsA a), .agg (bitsA b)] w fun e w' => e = .returned (.bool l) ∧ Below w.heap.size w w' := fun w => by
  rw [← hl]
  exact Less_any a b w ha hb

end Go.Proofs.Ytogbnecgikbkmaa
