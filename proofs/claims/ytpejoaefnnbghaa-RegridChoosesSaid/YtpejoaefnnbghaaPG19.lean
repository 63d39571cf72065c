/-
  Lemmas and walks of this claim (the texts B03 of the work; what no proof here uses is left out). No claim of their own.
-/
import Derived.Test.YtpejoaefnnbghaaPG13
import Derived.Test.YtpejoaefnnbghaaPG7
import Derived.Test.YtpejoaefnnbghaaPG8
import Derived.Test.YtpejoaefnnbghaaPG1
import Derived.Test.YtpejoaefnnbghaaPG16
set_option linter.all false
set_option linter.unusedSimpArgs false
set_option linter.unusedVariables false
namespace Go.Proofs.Ytpejoaefnnbghaa
open Go.RowKit
set_option linter.unusedVariables false

section
variable {P : Program} {B : Nat} {w0 w : World} {L L' Ls : List Blk} {F : World → Prop} {ops : Array Oper} {rest : List Oper} {r : List (Bool × Oper)} {o : Oper} {a : Act} {S : World → Prop} {Q : Exit → Act → World → Prop}
theorem wm_partB (K : St B w0 L F w) (hgd : Region.wanted o (yielded ops a.tmps) = true) (ty : TypeId) (x : Operand) (ho : o.op = .load ty x) {g : Nat} (hx : a.eval x = .pointer (some ⟨g, 1, none⟩)) {m : Bool} {n : Nat} {t : TypeId} (ha : At L g (numA m n) t)
    (hu : RowTy P ty 129) (h : wpList P ops Q rest (a.put o.dst (.agg (bitsA n))) w) : wpList P ops Q (o :: rest) a w :=
  wm_part K hgd ty x ho hx ha hu (bitsA n) (numA_part m n) (bitsA_size n) h
theorem wm_storeB (K : St B w0 L F w) (hgd : Region.wanted o (yielded ops a.tmps) = true) (ty : TypeId) (x y : Operand) (ho : o.op = .store ty x y) (hdst : o.dst = none) {g : Nat} (hx : a.eval x = .pointer (some ⟨g, 1, none⟩)) {n' : Nat} (hy : a.eval y = .agg (bitsA n'))
    {m : Bool} {n : Nat} {t : TypeId} (hp : Put L g (numA m n) t (numA m n') L') (hu : RowTy P ty 129)
    (h : ∀ w' : World, St B w0 L' F w' → wpList P ops Q rest a w') : wpList P ops Q (o :: rest) a w :=
  wm_storePart K hgd ty x y ho hdst hx hy (by rw [numA_over]; exact hp) hu (bitsA_size n') (by rw [numA_size]; omega) (bitsA_ones n') h
theorem hm_partB (hgd : Region.wanted o (yielded ops a.tmps) = true) (ty : TypeId) (x : Operand) (ho : o.op = .load ty x) {g : Nat} (hx : a.eval x = .pointer (some ⟨g, 1, none⟩)) {m : Bool} {n : Nat} {t : TypeId} (ha : At Ls g (numA m n) t)
    (hu : RowTy P ty 129) (h : wpHeld P ops (St B w0 Ls F) Q r (a.put o.dst (.agg (bitsA n))) w) : wpHeld P ops (St B w0 Ls F) Q ((true, o) :: r) a w :=
  hm_part hgd ty x ho hx ha hu (bitsA n) (numA_part m n) (bitsA_size n) h
end

theorem nOnes (m : Bool) (a : Nat) : Ones (numA m a) := numA_ones m a
theorem iOnes (z : Int) : Ones (numI z) := numA_ones _ _
theorem numI_wv (m : Bool) (a : Nat) (h : a ≠ 0 ∨ m = false) : numI (wv m a) = numA m a := by
  cases m
  · unfold numI wv; simp; rw [decide_eq_false (by omega)]
  · have h1 : a ≠ 0 := by rcases h with h | h; exact h; cases h
    unfold numI wv
    simp
    rw [decide_eq_true (by omega)]
theorem wv_numI (z : Int) : wv (decide (z < 0)) z.natAbs = z := by
  unfold wv
  by_cases h : z < 0 <;> simp [h] <;> omega
/-! ### Words -/
end Go.Proofs.Ytpejoaefnnbghaa
