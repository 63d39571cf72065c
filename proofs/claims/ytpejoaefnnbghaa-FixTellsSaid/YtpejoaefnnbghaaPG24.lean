/-
  Lemmas and walks of this claim (the texts Lb26 of the work; what no proof here uses is left out). No claim of their own.
-/
import Derived.Test.YtpejoaefnnbghaaPG23
import Derived.Test.YtpejoaefnnbghaaPG20
import Derived.Test.YtpejoaefnnbghaaPG11
import Derived.Test.YtpejoaefnnbghaaPG18
import Derived.Test.YtpejoaefnnbghaaPG3
import Derived.Test.YtpejoaefnnbghaaPG7
import Derived.Test.YtpejoaefnnbghaaPG8
import Derived.Test.YtpejoaefnnbghaaPG1
import Derived.Test.YtpejoaefnnbghaaPG14
import Derived.Test.YtpejoaefnnbghaaPG17
import Derived.Test.YtpejoaefnnbghaaPG21
import Derived.Test.YtpejoaefnnbghaaPG19
import Derived.Test.YtpejoaefnnbghaaPG5
import Derived.Test.YtpejoaefnnbghaaPG10
import Derived.Test.YtpejoaefnnbghaaPG2
import Derived.Lib.MinMax
import Derived.OpenShut
import Derived.Test.YtpejoaefnnbghaaProg
import Derived.Deep.QuietTactic
import Derived.BigQuiet
import Derived.Deep.Cut
import Derived.Deep.LoopGhost
import Derived.WalkLawsBesides
import Derived.WalkSpells
import Derived.Laws.StructEq
import Derived.Lib.RabinKarpLaws
import Derived.Laws.CopyOwn
set_option linter.all false
set_option linter.unusedSimpArgs false
set_option linter.unusedVariables false
namespace Go.Proofs.Ytpejoaefnnbghaa
open Go.RowKit
attribute [local irreducible] wpHeld wpTree wpList
set_option linter.unusedVariables false
theorem u16_one {a : Int} (h : (Lit.int .u16 a).wf = true) : 0 ≤ a ∧ a ≤ 65535 := by
  unfold Lit.wf at h
  simp [IntKind.min, IntKind.max, IntKind.bits, IntKind.signed] at h
  exact h
theorem u32_one {a : Int} (h : (Lit.int .u32 a).wf = true) : 0 ≤ a ∧ a ≤ 4294967295 := by
  unfold Lit.wf at h
  simp [IntKind.min, IntKind.max, IntKind.bits, IntKind.signed] at h
  exact h
end Go.Proofs.Ytpejoaefnnbghaa
