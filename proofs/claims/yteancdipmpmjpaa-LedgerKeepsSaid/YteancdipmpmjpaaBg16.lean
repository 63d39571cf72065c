/-
  Numbers of the reference that are not too long: their products, which is less.
-/
import Derived.Test.YteancdipmpmjpaaRe16
namespace Go.Proofs.Yteancdipmpmjpaa
open Go.RowKit
set_option linter.unusedVariables false
set_option exponentiation.threshold 2000

/-- Numbers that the laws meet are less. -/
def Big : Nat := 4294967296 ^ 200
theorem lt_big {X m : Nat} (h : X < 4294967296 ^ m) (hm : m ≤ 200) : X < Big := Nat.lt_of_lt_of_le h (Nat.pow_le_pow_right (by omega) hm)
theorem Nt.big {w : World} {A : Option Addr} {n c X : Nat} (h : Nt w A n c X) (hX : X < Big) : n ≤ 200 := Go.Proofs.Yteancdipmpmjpaa.len_le (k := 200) _ hX h.len
theorem Rf.big {w : World} {A : Option Addr} {n c X : Nat} (h : Rf w A n c X) (hX : X < Big) : n ≤ 800 := rlen h (by unfold Big at hX; rwa [show (4294967296 : Nat) = 256 ^ 4 from rfl, ← Nat.pow_mul] at hX)
section
variable {B : Nat} {w0 w : World} {L : List Blk} {F : World → Prop}
theorem St.mulRB {A A2 : Option Addr} {n c X n2 c2 Y : Nat} (K : St B w0 L F w) (h1 : Rf w A n c X) (h2 : Rf w A2 n2 c2 Y) (b1 : X < Big) (b2 : Y < Big) :
    Calls Try.prog 62 #[.slice A n c, .slice A2 n2 c2] w fun e w' => ∃ A k c, e = .returned (.slice A k c) ∧ St B w0 L (fun w => (Rf w A k c (X * Y) ∧ Nw B A) ∧ F w) w' := by
  refine (MulR _ _ _ _ _ _ _ _ w h1 h2 (by have := h1.big b1; omega) (by have := h2.big b2; omega)).mono ?_
  rintro e w' ⟨A', k, c', rfl, ⟨hn, hA⟩, hb⟩
  exact ⟨A', k, c', rfl, K.madeRf hb hn hA⟩
theorem Less_lit {A A2 : Option Addr} {n c m d X Y : Nat} {t : Bool} {w : World} (hx : Rf w A n c X) (hy : Rf w A2 m d Y) (b1 : X < Big) (b2 : Y < Big) (ht : decide (X < Y) = t) :
    Calls Try.prog 108 #[.slice A n c, .slice A2 m d] w fun e w' => e = .returned (.bool t) ∧ Below w.heap.size w w' := by
  subst ht
  exact LessR _ _ _ _ _ _ _ _ w hx hy (by have := hx.big b1; omega) (by have := hy.big b2; omega)
end
end Go.Proofs.Yteancdipmpmjpaa
