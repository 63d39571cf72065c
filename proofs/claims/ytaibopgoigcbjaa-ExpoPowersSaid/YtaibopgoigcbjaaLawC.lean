/-
  The walks of the laws ExpoPowers and ExpoSums.
-/
import Derived.Test.YtaibopgoigcbjaaV06
import Derived.Test.YtaibopgoigcbjaaLawA
import Derived.OpenShut
namespace Go.Proofs.Ytaibopgoigcbjaa
open Go.RowKit
set_option linter.unusedVariables false

set_option maxHeartbeats 1000000 in
theorem walk_ExpoPowers (a0 : Int) (w0 : (Lit.int .i64 a0).wf = true) (w : World) :
    Calls Try.prog 5 #[.int .i64 a0] w fun e w' => e = .returned (.bool true) ∧ Below w.heap.size w w' := by
  have b0 := bounds_i64 w0
  clear w0
  by_cases hx : a0 < 0
  · have H := Lib.hid hx
    clear hx b0
    go_enter Try.func5, Try.ntmps5
    go_wp2_with fail
    refine (Exp_neg _ _ H.out).mono ?_; rintro e w1 ⟨rfl, rfl⟩; dsimp only
    go_wp2_with fail
    refine (RExp_neg _ _ H.out).mono ?_; rintro e w1 ⟨rfl, rfl⟩; dsimp only
    go_wp2_with fail
    refine (works_any _).mono ?_; rintro e w1 ⟨rfl, k⟩; dsimp only
    go_wp2
    go_ret
    exact ⟨rfl, k⟩
  · obtain ⟨x, rfl⟩ := Int.eq_ofNat_of_zero_le (by omega : 0 ≤ a0)
    have K : Hid (x < 9223372036854775808) := Lib.hid (by omega)
    clear hx b0
    go_enter Try.func5, Try.ntmps5
    go_wp2_with fail
    refine (Exp_some x _ K.out).mono ?_; rintro e w1 ⟨rfl, k1⟩; dsimp only
    go_wp2_with fail
    refine (RExp_some x _ K.out).mono ?_; rintro e w2 ⟨rfl, k2⟩; dsimp only
    replace k2 := below_step k1 k2 k1.size
    generalize ex x = l at *
    go_wp2_with fail
    refine (works_any _).mono ?_; rintro e w3 ⟨rfl, k⟩; dsimp only
    replace k := below_step k2 k k2.size
    go_wp2
    go_ret
    exact ⟨rfl, k⟩
end Go.Proofs.Ytaibopgoigcbjaa
