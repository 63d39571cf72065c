/-
  The walk of wide.Shl.
-/
import Derived.Test.YteancdipmpmjpaaW03
import Derived.Test.YteancdipmpmjpaaBig
namespace Go.Proofs.Yteancdipmpmjpaa
open Go.RowKit

/-- One doubling after the other: what stands there behind k of them. -/
def ShlAt (z : Int) (ok0 : Bool) (k : Nat) (ok : Bool) (a : Int) : Prop :=
  ok = (ok0 && fits128 (z * 2 ^ k)) ∧ (fits128 (z * 2 ^ k) = true → a = z * 2 ^ k) ∧ -170141183460469231731687303715884105728 ≤ a ∧ a < 170141183460469231731687303715884105728
theorem ShlAt_zero {z : Int} (h : fits128 z = true) (ok0 : Bool) : ShlAt z ok0 0 ok0 z := by
  have e : z * 2 ^ 0 = z := by simp
  unfold ShlAt
  rw [e, h, Bool.and_true]
  unfold fits128 at h
  simp at h
  exact ⟨rfl, fun _ => rfl, h⟩
theorem wrap128_bd (z : Int) : -170141183460469231731687303715884105728 ≤ wrap128 z ∧ wrap128 z < 170141183460469231731687303715884105728 := by unfold wrap128; omega
theorem wrap128_in {z : Int} (h : fits128 z = true) : wrap128 z = z := by
  unfold fits128 at h
  simp at h
  unfold wrap128; omega
theorem ShlAt_succ {z : Int} {ok0 ok : Bool} {k : Nat} {a : Int} (h : ShlAt z ok0 k ok a) : ShlAt z ok0 (k + 1) (ok && fits128 (a + a)) (wrap128 (a + a)) := by
  obtain ⟨h1, h2, h3, h4⟩ := h
  have e : z * 2 ^ (k + 1) = z * 2 ^ k + z * 2 ^ k := by rw [Int.pow_succ, ← Int.mul_assoc]; omega
  unfold ShlAt
  rw [e]
  generalize z * 2 ^ k = y at *
  cases hf : fits128 y
  · rw [hf] at h1
    have hn : fits128 (y + y) = false := by
      cases hy : fits128 (y + y)
      · rfl
      · unfold fits128 at hf hy
        simp at hf hy
        omega
    rw [hn, h1]
    simp
    exact wrap128_bd _
  · have := h2 hf
    subst this
    rw [h1, hf, Bool.and_true]
    refine ⟨rfl, fun hy => wrap128_in hy, wrap128_bd _⟩

theorem zeroW' (w : World) : (zeroValue 27).run Try.prog w = .ok (.agg (wI 0)) w := by kernel_rfl

theorem builtW0 : Try.prog.built 27 [] = some (wI 0) := by kernel_rfl
end Go.Proofs.Yteancdipmpmjpaa
