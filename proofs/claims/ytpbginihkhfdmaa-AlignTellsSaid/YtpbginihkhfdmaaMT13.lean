/-
  Lemmas and walks of this claim (the texts W03 S03 of the work; what no proof here uses is left out). No claim of their own.
-/
import Derived.Test.YtpbginihkhfdmaaMT3
import Derived.Test.YtpbginihkhfdmaaMT2
import Derived.Test.YtpbginihkhfdmaaProg
import Derived.Deep.QuietTactic
import Derived.BigQuiet
import Derived.Deep.Cut
import Derived.Deep.LoopGhost
import Derived.WalkLawsBesides
import Derived.WalkSpells
set_option linter.all false
set_option linter.unusedSimpArgs false
set_option linter.unusedVariables false
namespace Go.Proofs.Ytpbginihkhfdmaa
open Go.RowKit

def wI (z : Int) : Array Value := #[.int .i64 (z / 18446744073709551616), .int .u64 (z % 18446744073709551616)]
def wrap128 (z : Int) : Int := (z + 170141183460469231731687303715884105728) % 340282366920938463463374607431768211456 - 170141183460469231731687303715884105728

theorem wI_size (z : Int) : (wI z).size = 2 := rfl
theorem wI_ones (z : Int) : Ones (wI z) := by simp [Ones, wI, Value.oneCell']
theorem mul64_any (x y h l : Nat) (w : World) (hx : x < 18446744073709551616) (hy : y < 18446744073709551616) (he : x * y = h * 18446744073709551616 + l) (hl : l < 18446744073709551616) :
    Calls Try.prog 45 #[.int .u64 x, .int .u64 y] w fun e w' => e = .returned (.tuple #[.int .u64 h, .int .u64 l]) ∧ w = w' := by
  refine Calls.mono (Try.bits_Mul64 x y hx hy w) ?_
  rintro e w' ⟨rfl, hw⟩
  refine ⟨?_, hw.symm⟩
  rw [he, show (h * 18446744073709551616 + l) / 18446744073709551616 = h by omega, show (h * 18446744073709551616 + l) % 18446744073709551616 = l by omega]
def fits128 (z : Int) : Bool := decide (-170141183460469231731687303715884105728 ≤ z) && decide (z < 170141183460469231731687303715884105728)
end Go.Proofs.Ytpbginihkhfdmaa
namespace Go.Proofs.Ytpbginihkhfdmaa
open Go.RowKit

theorem wrap128_in {z : Int} (h : fits128 z = true) : wrap128 z = z := by
  unfold fits128 at h
  simp at h
  unfold wrap128; omega
end Go.Proofs.Ytpbginihkhfdmaa
