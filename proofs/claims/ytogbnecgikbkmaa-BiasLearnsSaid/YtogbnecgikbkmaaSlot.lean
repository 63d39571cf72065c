/-
  A block of the caller's, to which a callee is handed a pointer: where it stands among the blocks is told by a function of its cells. No condition: laws of the walk.
-/
import Derived.Test.YtogbnecgikbkmaaMemB
namespace Go.Proofs.Ytogbnecgikbkmaa
open Go.RowKit
set_option linter.unusedVariables false
/-- Block g of type t stands among the blocks: 'Lf c' is these blocks when it holds c. -/
structure Slot (g : Nat) (t : TypeId) (Lf : Array Value → List Blk) : Prop where
  get : ∀ c, At (Lf c) g c t
  set : ∀ c c', Put (Lf c) g c t c' (Lf c')
theorem Slot.head (g : Nat) (t : TypeId) (L0 : List Blk) : Slot g t (fun c => (g, c, t) :: L0) := ⟨fun _ => .hd, fun _ _ => .hd⟩
theorem Slot.next {g : Nat} {t : TypeId} {Lf : Array Value → List Blk} (p : Blk) (h : Slot g t Lf) : Slot g t (fun c => p :: Lf c) := ⟨fun c => .tl (h.get c), fun c c' => .tl (h.set c c')⟩
end Go.Proofs.Ytogbnecgikbkmaa
