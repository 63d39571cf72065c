/-
  The walk of the law ExpoLogs.
-/
import Derived.Test.YtaibopgoigcbjaaR06
import Derived.OpenShut
namespace Go.Proofs.Ytaibopgoigcbjaa
open Go.RowKit
set_option linter.unusedVariables false

set_option maxHeartbeats 1000000 in
theorem walk_ExpoLogs (a0 : Int) (w0 : (Lit.int .u64 a0).wf = true) (w : World) :
    Calls Try.prog 3 #[.int .u64 a0] w fun e w' => e = .returned (.bool true) ∧ Below w.heap.size w w' := by
  have b0 := bounds_u64 w0
  clear w0
  obtain ⟨x, rfl⟩ := Int.eq_ofNat_of_zero_le b0.1
  by_cases hx : x = 0
  · subst hx
    go_enter Try.func3, Try.ntmps3
    go_wp2_with fail
    refine (Log_none _).mono ?_; rintro e w1 ⟨rfl, rfl⟩; dsimp only
    go_wp2_with fail
    refine (RLog_none _).mono ?_; rintro e w1 ⟨rfl, rfl⟩; dsimp only
    go_wp2_with fail
    refine (works_any _).mono ?_; rintro e w1 ⟨rfl, k⟩; dsimp only
    go_wp2
    go_ret
    exact ⟨rfl, k⟩
  · have K := Lib.hid (And.intro hx (show x < 18446744073709551616 by omega))
    clear hx b0
    go_enter Try.func3, Try.ntmps3
    go_wp2_with fail
    refine (Log_some x _ K.out.1 K.out.2).mono ?_; rintro e w1 ⟨rfl, rfl⟩; dsimp only
    go_wp2_with fail
    refine (RLog_some x _ K.out.1 K.out.2).mono ?_; rintro e w1 ⟨rfl, k1⟩; dsimp only
    generalize lg x = l at *
    go_wp2_with fail
    refine (works_any _).mono ?_; rintro e w2 ⟨rfl, k⟩; dsimp only
    replace k := below_step k1 k k1.size
    go_wp2
    go_ret
    exact ⟨rfl, k⟩
end Go.Proofs.Ytaibopgoigcbjaa
