/-
  Lemmas and walks of this claim (the texts At03 of the work; what no proof here uses is left out). No claim of their own.
-/
import Derived.Test.YtpejoaefnnbghaaPH3
import Derived.Test.YtpejoaefnnbghaaPH7
import Derived.Test.YtpejoaefnnbghaaPH8
import Derived.Test.YtpejoaefnnbghaaPH1
import Derived.Test.YtpejoaefnnbghaaPH14
import Derived.Test.YtpejoaefnnbghaaPH17
import Derived.Test.YtpejoaefnnbghaaProg
import Derived.Deep.QuietTactic
import Derived.BigQuiet
import Derived.Deep.Cut
import Derived.Deep.LoopGhost
import Derived.WalkLawsBesides
import Derived.WalkSpells
import Derived.Laws.StructEq
import Derived.OpenShut
set_option linter.all false
set_option linter.unusedSimpArgs false
set_option linter.unusedVariables false
namespace Go.Proofs.Ytpejoaefnnbghaa
open Go.RowKit
attribute [local irreducible] wpHeld wpList
set_option linter.unusedVariables false

theorem in128_lo {x : Int} (h : fits128 x = true) : -170141183460469231731687303715884105728 ≤ x := by unfold fits128 at h; simp at h; exact h.1
theorem in128_hi {x : Int} (h : fits128 x = true) : x < 170141183460469231731687303715884105728 := by unfold fits128 at h; simp at h; exact h.2
theorem AddW_at (x y z : Int) (b : Bool) (hb : (fits128 x && fits128 y) = true) (h : wrap128 (x + y) = z) (h2 : fits128 (x + y) = b) : Hid (∀ w, Calls Try.prog 63 #[.agg (wI x), .agg (wI y)] w fun e w' => e = .returned (.tuple #[.agg (wI z), .bool b]) ∧ Below w.heap.size w w') := Lib.hid (fun w => by
  simp only [Bool.and_eq_true] at hb
  rw [← h, ← h2]
  exact Add_any x y w (in128_lo hb.1) (in128_hi hb.1) (in128_lo hb.2) (in128_hi hb.2))
theorem CmpW_at (x y r : Int) (h : cmpI x y = r) : Hid (∀ w, Calls Try.prog 108 #[.agg (wI x), .agg (wI y)] w fun e w' => e = .returned (.int .i64 r) ∧ Below w.heap.size w w') := Lib.hid (fun w => by rw [← h]; exact Cmp_wide x y w)
end Go.Proofs.Ytpejoaefnnbghaa
