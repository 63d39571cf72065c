/-
  Lemmas and walks of this claim (the texts B03 of the work; what no proof here uses is left out). No claim of their own.
-/
import Derived.Test.YtpejoaefnnbghaaPF13
import Derived.Test.YtpejoaefnnbghaaPF7
import Derived.Test.YtpejoaefnnbghaaPF8
import Derived.Test.YtpejoaefnnbghaaPF1
import Derived.Test.YtpejoaefnnbghaaPF17
set_option linter.all false
set_option linter.unusedSimpArgs false
set_option linter.unusedVariables false
namespace Go.Proofs.Ytpejoaefnnbghaa
open Go.RowKit
set_option linter.unusedVariables false

section
variable {P : Program} {B : Nat} {w0 w : World} {L L' Ls : List Blk} {F : World → Prop} {ops : Array Oper} {rest : List Oper} {r : List (Bool × Oper)} {o : Oper} {a : Act} {S : World → Prop} {Q : Exit → Act → World → Prop}
theorem wm_partB (K : St B w0 L F w) (hgd : Region.wanted o (yielded ops a.tmps) = true) (ty : TypeId) (x : Operand) (ho : o.op = .load ty x) {g : Nat} (hx : a.eval x = .pointer (some ⟨g, 1, none⟩)) {m : Bool} {n : Nat} {t : TypeId} (ha : At L g (numA m n) t)
    (hu : RowTy P ty 129) (h : wpList P ops Q rest (a.put o.dst (.agg (bitsA n))) w) : wpList P ops Q (o :: rest) a w :=
  wm_part K hgd ty x ho hx ha hu (bitsA n) (numA_part m n) (bitsA_size n) h
end

theorem bOnes (a : Nat) : Ones (bitsA a) := bitsA_ones a
theorem nOnes (m : Bool) (a : Nat) : Ones (numA m a) := numA_ones m a
theorem numI_wv (m : Bool) (a : Nat) (h : a ≠ 0 ∨ m = false) : numI (wv m a) = numA m a := by
  cases m
  · unfold numI wv; simp; rw [decide_eq_false (by omega)]
  · have h1 : a ≠ 0 := by rcases h with h | h; exact h; cases h
    unfold numI wv
    simp
    rw [decide_eq_true (by omega)]
/-! ### Words -/
def bn (a k : Nat) : Nat := a / 2 ^ k % 2
theorem bit_bn (a k : Nat) : bit a k = (bn a k : Nat) := rfl
theorem bn_le (a k : Nat) : bn a k ≤ 1 := by unfold bn; omega
theorem word_step (a f j : Nat) (hj : j < 64) : 2 * (a / 2 ^ (f + (j + 1)) % 2 ^ (64 - (j + 1))) + bn a (f + j) = a / 2 ^ (f + j) % 2 ^ (64 - j) := by
  unfold bn
  have e1 : a / 2 ^ (f + (j + 1)) = a / 2 ^ (f + j) / 2 := by rw [← Nat.add_assoc, Nat.pow_succ, Nat.div_div_eq_div_mul]
  obtain ⟨n, hn⟩ : ∃ n, n = 63 - j := ⟨_, rfl⟩
  rw [e1, show 64 - (j + 1) = n by omega, show 64 - j = n + 1 by omega, Nat.pow_succ, Nat.mul_comm (2 ^ n) 2, Nat.mod_mul]
  omega
theorem div_half (a k : Nat) : a / 2 ^ k / 2 = a / 2 ^ (k + 1) := by rw [Nat.pow_succ, Nat.div_div_eq_div_mul]
end Go.Proofs.Ytpejoaefnnbghaa
