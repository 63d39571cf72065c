/-
  The reference's numbers within a walk's memory: parts of a struct loaded and stored; plain facts of bits. No condition: a kit of lemmas.
-/
import Derived.Test.YtogbnecgikbkmaaM03
import Derived.Test.YtogbnecgikbkmaaHeld
import Derived.Test.YtogbnecgikbkmaaTy
import Derived.Test.YtogbnecgikbkmaaDq03
import Derived.Test.YtogbnecgikbkmaaW03
namespace Go.Proofs.Ytogbnecgikbkmaa
open Go.RowKit
set_option linter.unusedVariables false

section
variable {P : Program} {B : Nat} {w0 w : World} {L L' Ls : List Blk} {F : World → Prop} {ops : Array Oper} {rest : List Oper} {r : List (Bool × Oper)} {o : Oper} {a : Act} {S : World → Prop} {Q : Exit → Act → World → Prop}
theorem wm_partB (K : St B w0 L F w) (hgd : Region.wanted o (yielded ops a.tmps) = true) (ty : TypeId) (x : Operand) (ho : o.op = .load ty x) {g : Nat} (hx : a.eval x = .pointer (some ⟨g, 1, none⟩)) {m : Bool} {n : Nat} {t : TypeId} (ha : At L g (numA m n) t)
    (hu : RowTy P ty 129) (h : wpList P ops Q rest (a.put o.dst (.agg (bitsA n))) w) : wpList P ops Q (o :: rest) a w :=
  wm_part K hgd ty x ho hx ha hu (bitsA n) (numA_part m n) (bitsA_size n) h
theorem wm_storeB (K : St B w0 L F w) (hgd : Region.wanted o (yielded ops a.tmps) = true) (ty : TypeId) (x y : Operand) (ho : o.op = .store ty x y) (hdst : o.dst = none) {g : Nat} (hx : a.eval x = .pointer (some ⟨g, 1, none⟩)) {n' : Nat} (hy : a.eval y = .agg (bitsA n'))
    {m : Bool} {n : Nat} {t : TypeId} (hp : Put L g (numA m n) t (numA m n') L') (hu : RowTy P ty 129)
    (h : ∀ w' : World, St B w0 L' F w' → wpList P ops Q rest a w') : wpList P ops Q (o :: rest) a w :=
  wm_storePart K hgd ty x y ho hdst hx hy (by rw [numA_over]; exact hp) hu (bitsA_size n') (by rw [numA_size]; omega) (bitsA_ones n') h
theorem hm_partB (hgd : Region.wanted o (yielded ops a.tmps) = true) (ty : TypeId) (x : Operand) (ho : o.op = .load ty x) {g : Nat} (hx : a.eval x = .pointer (some ⟨g, 1, none⟩)) {m : Bool} {n : Nat} {t : TypeId} (ha : At Ls g (numA m n) t)
    (hu : RowTy P ty 129) (h : wpHeld P ops (St B w0 Ls F) Q r (a.put o.dst (.agg (bitsA n))) w) : wpHeld P ops (St B w0 Ls F) Q ((true, o) :: r) a w :=
  hm_part hgd ty x ho hx ha hu (bitsA n) (numA_part m n) (bitsA_size n) h
end

theorem bOnes (a : Nat) : Ones (bitsA a) := bitsA_ones a
theorem nOnes (m : Bool) (a : Nat) : Ones (numA m a) := numA_ones m a
theorem iOnes (z : Int) : Ones (numI z) := numA_ones _ _
theorem numI_wv (m : Bool) (a : Nat) (h : a ≠ 0 ∨ m = false) : numI (wv m a) = numA m a := by
  cases m
  · unfold numI wv; simp; rw [decide_eq_false (by omega)]
  · have h1 : a ≠ 0 := by rcases h with h | h; exact h; cases h
    unfold numI wv
    simp
    rw [decide_eq_true (by omega)]
theorem numI_pos (a : Nat) : numI (a : Int) = numA false a := numI_wv false a (.inr rfl)
theorem wv_numI (z : Int) : wv (decide (z < 0)) z.natAbs = z := by
  unfold wv
  by_cases h : z < 0 <;> simp [h] <;> omega
theorem zeroNum : numI 0 = numA false 0 := rfl

/-! ### Words -/
/-- The k-th bit, as a number from 0 on. -/
def bn (a k : Nat) : Nat := a / 2 ^ k % 2
theorem bit_bn (a k : Nat) : bit a k = (bn a k : Nat) := rfl
theorem bn_le (a k : Nat) : bn a k ≤ 1 := by unfold bn; omega
theorem word_step (a f j : Nat) (hj : j < 64) : 2 * (a / 2 ^ (f + (j + 1)) % 2 ^ (64 - (j + 1))) + bn a (f + j) = a / 2 ^ (f + j) % 2 ^ (64 - j) := by
  unfold bn
  have e1 : a / 2 ^ (f + (j + 1)) = a / 2 ^ (f + j) / 2 := by rw [← Nat.add_assoc, Nat.pow_succ, Nat.div_div_eq_div_mul]
  obtain ⟨n, hn⟩ : ∃ n, n = 63 - j := ⟨_, rfl⟩
  rw [e1, show 64 - (j + 1) = n by omega, show 64 - j = n + 1 by omega, Nat.pow_succ, Nat.mul_comm (2 ^ n) 2, Nat.mod_mul]
  omega
theorem bit_join {x y : Nat} (h : x < 2 ^ 64) (i : Nat) : bit (2 ^ 64 * y + x) i = if i < 64 then bit x i else bit y (i - 64) := by
  rw [bit_test, Nat.testBit_two_pow_mul_add y h]
  by_cases hi : i < 64
  · rw [if_pos hi, if_pos hi, bit_test]
  · rw [if_neg hi, if_neg hi, bit_test]
/-- The lower k bits of both words. -/
def jn (l h k k' : Nat) : Nat := 2 ^ 64 * (h % 2 ^ k') + l % 2 ^ k
theorem jn_lt {l k : Nat} (hk : k ≤ 64) : l % 2 ^ k < 2 ^ 64 := Nat.lt_of_lt_of_le (Nat.mod_lt _ (Nat.two_pow_pos k)) (Nat.pow_le_pow_right (by omega) hk)
theorem jn_low (m : Bool) (l h k : Nat) (hk : k < 64) : (numA m (jn l h k k)).setIfInBounds (1 + k) (.int .i64 (bn l k : Nat)) = numA m (jn l h (k + 1) k) := by
  rw [← bit_bn]
  refine numA_set ?_ (fun i hi => ?_) (by omega)
  · unfold jn
    rw [bit_join (jn_lt (by omega)), if_pos hk]; exact bits_at l k
  · unfold jn
    rw [bit_join (jn_lt (by omega)), bit_join (jn_lt (by omega))]
    by_cases h64 : i < 64
    · rw [if_pos h64, if_pos h64]; exact bits_next l k i hi
    · rw [if_neg h64, if_neg h64]
theorem jn_high (m : Bool) (l h k : Nat) (hk : k < 64) : (numA m (jn l h (k + 1) k)).setIfInBounds (1 + (64 + k)) (.int .i64 (bn h k : Nat)) = numA m (jn l h (k + 1) (k + 1)) := by
  rw [← bit_bn]
  refine numA_set ?_ (fun i hi => ?_) (by omega)
  · unfold jn
    rw [bit_join (jn_lt (by omega)), if_neg (by omega), show 64 + k - 64 = k by omega]; exact bits_at h k
  · unfold jn
    rw [bit_join (jn_lt (by omega)), bit_join (jn_lt (by omega))]
    by_cases h64 : i < 64
    · rw [if_pos h64, if_pos h64]
    · rw [if_neg h64, if_neg h64]; exact bits_next h k (i - 64) (by omega)
theorem jn_zero (l h : Nat) : jn l h 0 0 = 0 := by simp [jn, Nat.mod_one]
theorem jn_all {l h : Nat} (hl : l < 18446744073709551616) (hh : h < 18446744073709551616) : jn l h 64 64 = h * 18446744073709551616 + l := by
  unfold jn
  rw [Nat.mod_eq_of_lt (show h < 2 ^ 64 by omega), Nat.mod_eq_of_lt (show l < 2 ^ 64 by omega)]; omega
theorem div_half (a k : Nat) : a / 2 ^ k / 2 = a / 2 ^ (k + 1) := by rw [Nat.pow_succ, Nat.div_div_eq_div_mul]
end Go.Proofs.Ytogbnecgikbkmaa
