/-
  The walks of expo.LogSum and expo.LogSums, and of the law's own examples.
-/
import Derived.Test.YtnphpnkfdnnmbaaE06
import Derived.Lib.MinMax
namespace Go.Proofs.Ytnphpnkfdnnmbaa
open Go.RowKit
set_option linter.unusedVariables false

theorem ex_bd (x : Nat) : ex x ≤ 4294967296 := by
  unfold ex
  split
  · omega
  · have h := exRun_bd x 16
    have := Nat.div_le_self (exRun x 16 / 1073741824) (2 ^ (x / 65536))
    omega
theorem lg_at (x : Nat) (h0 : x ≠ 0) (h : x < 2 ^ 64) : Nat.log2 x * 65536 ≤ lg x ∧ lg x < (Nat.log2 x + 1) * 65536 := by
  have := lgRun_at (lg_start x h0 h) 16
  exact ⟨this.1, this.2.1⟩
/-- How much the logarithm of a sum is more than that of the greater number. -/
def more (d : Nat) : Int := (lg (4294967296 + ex d) : Int) - 2097152
theorem more_bd (d : Nat) : 0 ≤ more d ∧ more d < 131072 := by
  have hb := ex_bd d
  have h0 : 4294967296 + ex d ≠ 0 := by omega
  have h := lg_at (4294967296 + ex d) h0 (by omega)
  have l1 : 32 ≤ Nat.log2 (4294967296 + ex d) := (Nat.le_log2 h0).2 (by omega)
  have l2 : Nat.log2 (4294967296 + ex d) < 34 := (Nat.log2_lt h0).2 (by omega)
  unfold more
  omega
/-- The logarithm of a sum: of the greater number 'x', and the lesser one 'y'. -/
def lsOf (x y : Int) : Int := if 9223372036854775808 ≤ x - y then x else if 9223372036854775807 - more (x - y).toNat < x then 9223372036854775807 else x + more (x - y).toNat
def ls (a b : Int) : Int := if a < b then lsOf b a else lsOf a b

theorem d_small (x y : Int) (x0 : -9223372036854775808 ≤ x) (x1 : x ≤ 9223372036854775807) (y0 : -9223372036854775808 ≤ y) (y1 : y ≤ 9223372036854775807) (h : y ≤ x) (hd : x - y < 9223372036854775808) :
    wrap64 (IntKind.u64.wrap (IntKind.u64.wrap x - IntKind.u64.wrap y)) = x - y := by
  rw [IntKind.wrap_u64, IntKind.wrap_u64, IntKind.wrap_u64]; unfold wrap64; omega
theorem d_great (x y : Int) (x0 : -9223372036854775808 ≤ x) (x1 : x ≤ 9223372036854775807) (y0 : -9223372036854775808 ≤ y) (y1 : y ≤ 9223372036854775807) (h : y ≤ x) (hd : 9223372036854775808 ≤ x - y) :
    wrap64 (IntKind.u64.wrap (IntKind.u64.wrap x - IntKind.u64.wrap y)) = x - y - 18446744073709551616 := by
  rw [IntKind.wrap_u64, IntKind.wrap_u64, IntKind.wrap_u64]; unfold wrap64; omega

theorem ls_bd (a b : Int) (x0 : -9223372036854775808 ≤ a) (x1 : a ≤ 9223372036854775807) (y0 : -9223372036854775808 ≤ b) (y1 : b ≤ 9223372036854775807) : -9223372036854775808 ≤ ls a b ∧ ls a b ≤ 9223372036854775807 := by
  have key : ∀ x y : Int, -9223372036854775808 ≤ x → x ≤ 9223372036854775807 → -9223372036854775808 ≤ lsOf x y ∧ lsOf x y ≤ 9223372036854775807 := by
    intro x y h0 h1
    have := more_bd (x - y).toNat
    unfold lsOf
    split
    · omega
    · split <;> omega
  unfold ls
  split
  · exact key b a y0 y1
  · exact key a b x0 x1
/-- The sum of all, one by one. -/
def lsAll (zs : List Int) : Int := zs.foldl ls (-9223372036854775808)
theorem lsAll_bd (zs : List Int) (h : ∀ z ∈ zs, -9223372036854775808 ≤ z ∧ z ≤ 9223372036854775807) : -9223372036854775808 ≤ lsAll zs ∧ lsAll zs ≤ 9223372036854775807 := by
  unfold lsAll
  have key : ∀ (zs : List Int) (s : Int), -9223372036854775808 ≤ s → s ≤ 9223372036854775807 → (∀ z ∈ zs, -9223372036854775808 ≤ z ∧ z ≤ 9223372036854775807) → -9223372036854775808 ≤ zs.foldl ls s ∧ zs.foldl ls s ≤ 9223372036854775807 := by
    intro zs
    induction zs with
    | nil => intro s h0 h1 _; exact ⟨h0, h1⟩
    | cons z r ih =>
      intro s h0 h1 hz
      have hz0 := hz z (by simp)
      have := ls_bd s z h0 h1 hz0.1 hz0.2
      exact ih _ this.1 this.2 (fun y hy => hz y (by simp [hy]))
  exact key zs _ (by omega) (by omega) h
theorem lsAll_take (zs : List Int) (k : Nat) (h : k < zs.length) : lsAll (zs.take (k + 1)) = ls (lsAll (zs.take k)) (zs.getD k 0) := by
  unfold lsAll
  rw [List.take_succ_eq_append_getElem h, List.foldl_append]
  simp [List.getD, h]

end Go.Proofs.Ytnphpnkfdnnmbaa
