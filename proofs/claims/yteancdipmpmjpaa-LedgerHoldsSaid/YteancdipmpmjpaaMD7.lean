/-
  Lemmas and walks of this claim (the texts Nr of the work; what no proof here uses is left out). No claim of their own.
-/
import Derived.Test.YteancdipmpmjpaaMD5
import Derived.Test.YteancdipmpmjpaaMD1
set_option linter.all false
set_option linter.unusedSimpArgs false
set_option linter.unusedVariables false
namespace Go.Proofs.Yteancdipmpmjpaa
open Go.RowKit
set_option linter.unusedVariables false

def Nt (w : World) (A : Option Addr) (n c X : Nat) : Prop := Sl w 24 A n (nums .u32 (digs 4294967296 X)) ∧ n ≤ c ∧ c ≤ 9223372036854775807
section
variable {w w' : World} {A : Option Addr} {n c X : Nat}
theorem Nt.len (h : Nt w A n c X) : n = (digs 4294967296 X).length := by rw [← h.1.1, nums_length]
theorem Nt.below (h : Nt w A n c X) (hb : Below w.heap.size w w') : Nt w' A n c X := ⟨h.1.below hb, h.2⟩
theorem Nt.row (h : Nt w A n c X) {g : Nat} {arr : Array Value} (hg : Has w g arr 108) (new : Array Value) : Nt (w.setRow g new) A n c X := ⟨h.1.row hg (by decide) new, h.2⟩
theorem Nt.zero (w : World) (A : Option Addr) (c : Nat) (hc : c ≤ 9223372036854775807) : Nt w A 0 c 0 := ⟨by rw [digs_zero]; exact Sl.nil w _ A, Nat.zero_le _, hc⟩
end

end Go.Proofs.Yteancdipmpmjpaa
