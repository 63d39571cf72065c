/-
  Two rows of 129 bits are held against one another by the model's '==': the answer is whether all bits are the same. No condition.
-/
import Derived.Test.YtogbnecgikbkmaaN03
import Derived.Laws.StructEq
namespace Go.Proofs.Ytogbnecgikbkmaa
open Go.RowKit
set_option linter.unusedVariables false

theorem eq_cell (d i : Nat) (xs ys : Array Value) (p q : Int) (w : World) (hx : xs[i]? = some (.int .i64 p)) (hy : ys[i]? = some (.int .i64 q)) :
    ((do let a ← part 3 xs (i * 1); let b ← part 3 ys (i * 1); Op.equalIn (d + 1) 3 a b : Sem Bool)).run Try.prog w = .ok (p == q) w := by
  rw [Nat.mul_one]
  simp [Sem.run_bind, part, isAgg, run_underlying Try.underlying3, hx, hy, Op.equalIn]

def sameOn (xs ys : Array Value) : List Nat → Bool
  | [] => true
  | i :: r => (match xs[i]?, ys[i]? with | some (.int _ p), some (.int _ q) => p == q | _, _ => false) && sameOn xs ys r

theorem run_loop (d : Nat) (xs ys : Array Value) (w : World) : ∀ (l : List Nat), (∀ i ∈ l, ∃ p q, xs[i]? = some (.int .i64 p) ∧ ys[i]? = some (.int .i64 q)) →
    (forIn l ((none, ()) : Option Bool × Unit) (fun i _ => do
        let a ← part 3 xs (i * 1)
        let b ← part 3 ys (i * 1)
        let c ← Op.equalIn (d + 1) 3 a b
        if (!c) = true then pure (ForInStep.done (some false, ())) else pure (ForInStep.yield (none, ())) : Nat → Option Bool × Unit → Sem (ForInStep (Option Bool × Unit))) : Sem (Option Bool × Unit)).run Try.prog w = .ok (if sameOn xs ys l then (none, ()) else (some false, ())) w := by
  intro l
  induction l with
  | nil => intro _; simp [sameOn]
  | cons i r ih =>
    intro h
    obtain ⟨p, q, hx, hy⟩ := h i (by simp)
    have ih' := ih (fun j hj => h j (by simp [hj]))
    have e1 : ∀ w, (part 3 xs (i * 1)).run Try.prog w = .ok (.int .i64 p) w := fun w => by
      rw [Nat.mul_one]; simp [Sem.run_bind, part, isAgg, run_underlying Try.underlying3, hx]
    have e2 : ∀ w, (part 3 ys (i * 1)).run Try.prog w = .ok (.int .i64 q) w := fun w => by
      rw [Nat.mul_one]; simp [Sem.run_bind, part, isAgg, run_underlying Try.underlying3, hy]
    have e3 : ∀ w, (Op.equalIn (d + 1) 3 (.int .i64 p) (.int .i64 q)).run Try.prog w = .ok (p == q) w := fun w => by
      simp [Op.equalIn, run_underlying Try.underlying3]
    have es : sameOn xs ys (i :: r) = ((p == q) && sameOn xs ys r) := by simp [sameOn, hx, hy]
    rw [es]
    simp only [List.forIn_cons, Sem.run_bind, e1, e2, e3, Result.andThen_ok]
    cases hpq : (p == q)
    · simp
    · simp only [Bool.not_true, Bool.false_eq_true, if_false, Sem.run_pure, Result.andThen_ok, Bool.true_and]
      exact ih'

theorem sameOn_bits (a b : Nat) : ∀ l : List Nat, (∀ i ∈ l, i < 129) → sameOn (bitsA a) (bitsA b) l = decide (∀ i ∈ l, bit a i = bit b i)
  | [], _ => by simp [sameOn]
  | i :: r, h => by
    have ih := sameOn_bits a b r (fun j hj => h j (by simp [hj]))
    simp only [sameOn, bitsA_get a i (h i (by simp)), bitsA_get b i (h i (by simp)), ih]
    by_cases hb : bit a i = bit b i <;> simp [hb]

theorem size_int : ∀ w, (sizeOf 3).run Try.prog w = .ok 1 w := fun w => by kernel_rfl

/-- '==' on two rows of bits. -/
theorem equalIn_bits (a b : Nat) (ha : a < 2 ^ 129) (hb : b < 2 ^ 129) (w : World) : (Op.equalIn 10000 122 (.agg (bitsA a)) (.agg (bitsA b))).run Try.prog w = .ok (decide (a = b)) w := by
  rw [show (10000 : Nat) = 9998 + 2 from rfl]
  unfold Op.equalIn
  simp only [Sem.run_bind, run_underlying Try.underlying122, Result.andThen_ok]
  simp only [Std.Legacy.Range.forIn_eq_forIn_range', size_int, Result.andThen_ok]
  have hl := run_loop 9998 (bitsA a) (bitsA b) w (List.range' 0 129) (fun i hi => by
    have : i < 129 := by simpa using (List.mem_range'_1.1 hi).2
    exact ⟨_, _, bitsA_get a i this, bitsA_get b i this⟩)
  have es := sameOn_bits a b (List.range' 0 129) (fun i hi => by simpa using (List.mem_range'_1.1 hi).2)
  have ed : decide (∀ i ∈ List.range' 0 129, bit a i = bit b i) = decide (a = b) := by
    rw [decide_eq_decide]
    constructor
    · intro h
      apply bits_inj ha hb
      unfold bitsL
      apply List.map_congr_left
      intro i hi
      rw [h i (by rw [List.mem_range'_1]; simpa using hi)]
    · intro h; subst h; intros; rfl
  rw [es, ed] at hl
  rw [show [:129].size = 129 from rfl]
  rw [hl]
  by_cases hab : a = b <;> simp [hab]
theorem eql_bits (a b : Nat) (ha : a < 2 ^ 129) (hb : b < 2 ^ 129) (w : World) : (binOp .eql 122 (.agg (bitsA a)) (.agg (bitsA b))).run Try.prog w = .ok (.bool (decide (a = b))) w := by
  rw [run_eql_struct, equalIn_bits a b ha hb]; rfl
theorem guard_bits (x y : Operand) (xs ys : Array Value) (w : World) : (eqGuard .eql 122 x y (.agg xs) (.agg ys)).run Try.prog w = .ok () w := run_eqGuard_agg w .eql 122 x y xs ys (by kernel_rfl)
end Go.Proofs.Ytogbnecgikbkmaa
