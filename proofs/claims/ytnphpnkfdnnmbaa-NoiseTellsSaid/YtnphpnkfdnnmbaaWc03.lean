/-
  The walks of wide's order, sign and shifts, '==' on its numbers, and of the laws' 'same'.
-/
import Derived.Test.YtnphpnkfdnnmbaaDj03
import Derived.Test.YtnphpnkfdnnmbaaVd03
namespace Go.Proofs.Ytnphpnkfdnnmbaa
open Go.RowKit
set_option linter.unusedVariables false

theorem wI_inj {x y : Int} : wI x = wI y ↔ x = y := by
  constructor
  · intro h
    unfold wI at h
    simp only [Array.mk.injEq, List.cons.injEq, Value.int.injEq, true_and, and_true] at h
    omega
  · rintro rfl; rfl
theorem eqI64 (d : Nat) (p q : Int) (w : World) : (Op.equalIn (d + 1) 2 (.int .i64 p) (.int .i64 q)).run Try.prog w = .ok (p == q) w := by simp [Op.equalIn, run_underlying Try.underlying2]
theorem eqU64 (d : Nat) (p q : Int) (w : World) : (Op.equalIn (d + 1) 76 (.int .u64 p) (.int .u64 q)).run Try.prog w = .ok (p == q) w := by simp [Op.equalIn, run_underlying Try.underlying76]
theorem partI64 (cs : Array Value) (i : Nat) (v : Value) (h : cs[i]? = some v) (w : World) : (part 2 cs i).run Try.prog w = .ok v w := by simp [part, isAgg, Sem.run_bind, run_underlying Try.underlying2, h]
theorem partU64 (cs : Array Value) (i : Nat) (v : Value) (h : cs[i]? = some v) (w : World) : (part 76 cs i).run Try.prog w = .ok v w := by simp [part, isAgg, Sem.run_bind, run_underlying Try.underlying76, h]
theorem equalIn_wide (h1 h2 l1 l2 : Int) (w : World) : (Op.equalIn 10000 78 (.agg #[.int .i64 h1, .int .u64 l1]) (.agg #[.int .i64 h2, .int .u64 l2])).run Try.prog w = .ok (decide (h1 = h2 ∧ l1 = l2)) w := by
  rw [show (10000 : Nat) = 9998 + 1 + 1 from rfl, run_equalIn_struct w (9998 + 1) 78 _ _ (by kernel_rfl) (by kernel_rfl)]
  obtain ⟨f, g, hfg, h1', h2', h3, h4, h5, h6⟩ : ∃ f g : Field, (Try.prog.fieldsOf 78).toList = [f, g] ∧ f.type = 2 ∧ f.offset = 0 ∧ g.type = 76 ∧ g.offset = 1 ∧ f.name = "Hi" ∧ g.name = "Lo" := ⟨(Try.prog.fieldsOf 78)[0]!, (Try.prog.fieldsOf 78)[1]!, by kernel_rfl, by kernel_rfl, by kernel_rfl, by kernel_rfl, by kernel_rfl, by kernel_rfl, by kernel_rfl⟩
  have h7 : f.name ≠ "_" := by rw [h5]; decide
  have h8 : g.name ≠ "_" := by rw [h6]; decide
  rw [hfg]
  simp only [Op.eqFields, h1', h2', h3, h4, if_pos h7, if_pos h8]
  have a1 := fun w => partI64 #[.int .i64 h1, .int .u64 l1] 0 (.int .i64 h1) rfl w
  have a2 := fun w => partI64 #[.int .i64 h2, .int .u64 l2] 0 (.int .i64 h2) rfl w
  have a3 := fun w => partU64 #[.int .i64 h1, .int .u64 l1] 1 (.int .u64 l1) rfl w
  have a4 := fun w => partU64 #[.int .i64 h2, .int .u64 l2] 1 (.int .u64 l2) rfl w
  have a5 := fun w => eqI64 9998 h1 h2 w
  have a6 := fun w => eqU64 9998 l1 l2 w
  simp only [Sem.run_bind, a1, a2, a5, Result.andThen_ok]
  by_cases a : h1 = h2
  · rw [show (h1 == h2) = true by simpa using a]
    simp only [Bool.not_true, Bool.false_eq_true, if_false, Sem.run_bind, a3, a4, a6, Result.andThen_ok]
    by_cases b : l1 = l2
    · rw [show (l1 == l2) = true by simpa using b]
      simp [a, b]
    · rw [show (l1 == l2) = false by simpa using b]
      simp [a, b]
  · rw [show (h1 == h2) = false by simpa using a]
    simp [a]
theorem eqW (x y : Int) (w : World) : (Op.equalIn 10000 78 (.agg (wI x)) (.agg (wI y))).run Try.prog w = .ok (decide (x = y)) w := by
  rw [show wI x = #[.int .i64 (x / 18446744073709551616), .int .u64 (x % 18446744073709551616)] from rfl, show wI y = #[.int .i64 (y / 18446744073709551616), .int .u64 (y % 18446744073709551616)] from rfl, equalIn_wide]
  congr 1
  rw [decide_eq_decide]; omega
theorem guardW (x y : Operand) (xs ys : Array Value) (w : World) : (eqGuard .eql 78 x y (.agg xs) (.agg ys)).run Try.prog w = .ok () w := run_eqGuard_agg w .eql 78 x y xs ys (by kernel_rfl)

def turned (mode : Int) : Int := if mode = 0 then 1 else if mode = 1 then 0 else mode
theorem fits_in {z : Int} (h : -170141183460469231731687303715884105728 ≤ z ∧ z < 170141183460469231731687303715884105728) : fits128 z = true := by
  unfold fits128
  rw [decide_eq_true h.1, decide_eq_true h.2]; rfl
end Go.Proofs.Ytnphpnkfdnnmbaa
