/-
  Lemmas and walks of this claim (the texts Mc15 Pa26 of the work; what no proof here uses is left out). No claim of their own.
-/
import Derived.Test.YtpejoaefnnbghaaPH21
import Derived.Test.YtpejoaefnnbghaaPH18
import Derived.Test.YtpejoaefnnbghaaPH14
import Derived.Test.YtpejoaefnnbghaaPH7
import Derived.Test.YtpejoaefnnbghaaPH3
import Derived.Test.YtpejoaefnnbghaaPH8
import Derived.Test.YtpejoaefnnbghaaPH1
import Derived.Test.YtpejoaefnnbghaaPH17
import Derived.Test.YtpejoaefnnbghaaProg
import Derived.Deep.QuietTactic
import Derived.BigQuiet
import Derived.Deep.Cut
import Derived.Deep.LoopGhost
import Derived.WalkLawsBesides
import Derived.WalkSpells
import Derived.Laws.StructEq
set_option linter.all false
set_option linter.unusedSimpArgs false
set_option linter.unusedVariables false
namespace Go.Proofs.Ytpejoaefnnbghaa
open Go.RowKit
attribute [local irreducible] wpHeld wpTree wpList
set_option linter.unusedVariables false
theorem fitsB {z : Int} (h0 : -170141183460469231731687303715884105728 ≤ z) (h1 : z < 170141183460469231731687303715884105728) : fits128 z = true := by
  unfold fits128; rw [decide_eq_true h0, decide_eq_true h1]; rfl
theorem wrapB {z : Int} (h0 : -170141183460469231731687303715884105728 ≤ z) (h1 : z < 170141183460469231731687303715884105728) : wrap128 z = z := by
  unfold wrap128; omega
end Go.Proofs.Ytpejoaefnnbghaa
namespace Go.Proofs.Ytpejoaefnnbghaa
set_option linter.unusedVariables false
def one26 (n j : Nat) : List Int := (List.replicate n 0).set j 1073741824
theorem one_len (n j : Nat) : (one26 n j).length = n := by simp [one26]
end Go.Proofs.Ytpejoaefnnbghaa
