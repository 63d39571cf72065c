/-
  Lemmas and walks of this claim (the texts MemN of the work; what no proof here uses is left out). No claim of their own.
-/
import Derived.Test.YteancdipmpmjpaaMD8
import Derived.Test.YteancdipmpmjpaaMD7
set_option linter.all false
set_option linter.unusedSimpArgs false
set_option linter.unusedVariables false
namespace Go.Proofs.Yteancdipmpmjpaa
open Go.RowKit
set_option linter.unusedVariables false
section
variable {B : Nat} {w0 w w' : World} {L L' : List Blk} {F G : World → Prop} {g : Nat} {cs new : Array Value} {t : TypeId}
theorem St.addNt (K : St B w0 L F w) {A : Option Addr} {n c X : Nat} (h : Nt w A n c X) (hA : Nw B A) (hb : ∀ b off p, A = some ⟨b, off, p⟩ → b ∉ L.map (·.1)) : St B w0 L (fun w => (Nt w A n c X ∧ Nw B A) ∧ F w) w :=
  K.add (fun w'' h1 h2 => ⟨⟨h.1.stays hb w'' h1 h2, h.2⟩, hA⟩)
theorem St.madeNt (K : St B w0 L F w) (hb : Below w.heap.size w w') {A : Option Addr} {n c X : Nat} (h : Nt w' A n c X) (hA : Nw w.heap.size A) : St B w0 L (fun w => (Nt w A n c X ∧ Nw B A) ∧ F w) w' :=
  (K.step hb).addNt h (hA.mono K.size) (K.new_ids hA (Nat.le_refl _))
theorem St.freezeNt {b : Nat} (K : St B w0 ((b, cs, t) :: L) F w) {n c X : Nat} (h : Nt w (some ⟨b, 0, none⟩) n c X) : St B w0 L (fun w => (Nt w (some ⟨b, 0, none⟩) n c X ∧ Nw B (some ⟨b, 0, none⟩)) ∧ F w) w :=
  K.tail.addNt h (Nw.mk _ _ _ (K.has (b, cs, t) List.mem_cons_self).1) K.head_ids
end
end Go.Proofs.Yteancdipmpmjpaa
