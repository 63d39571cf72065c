/-
  The walks of wide (numbers of 128 bits).
-/
import Derived.Test.YtogbnecgikbkmaaProg
import Derived.Test.YtogbnecgikbkmaaKit
import Derived.Test.YtogbnecgikbkmaaShelf
import Derived.Deep.QuietTactic
import Derived.BigQuiet
import Derived.Deep.Cut
import Derived.Deep.LoopGhost
import Derived.WalkLawsBesides
import Derived.WalkSpells
namespace Go.Proofs.Ytogbnecgikbkmaa
open Go.RowKit

theorem zeroW (w : World) : (zeroValue 154).run Try.prog w = .ok (.agg #[.int .i64 0, .int .u64 0]) w := by kernel_rfl

/-- A number of 128 bits, as wide has it: its upper part with its sign, and its lower part. -/
def wI (z : Int) : Array Value := #[.int .i64 (z / 18446744073709551616), .int .u64 (z % 18446744073709551616)]
def wrap128 (z : Int) : Int := (z + 170141183460469231731687303715884105728) % 340282366920938463463374607431768211456 - 170141183460469231731687303715884105728

theorem wI_size (z : Int) : (wI z).size = 2 := rfl
theorem wI_ones (z : Int) : Ones (wI z) := by simp [Ones, wI, Value.oneCell']
theorem infoW : (Try.prog.info? 154).map (·.size) = some 2 := by kernel_rfl
theorem mul64_any (x y h l : Nat) (w : World) (hx : x < 18446744073709551616) (hy : y < 18446744073709551616) (he : x * y = h * 18446744073709551616 + l) (hl : l < 18446744073709551616) :
    Calls Try.prog 91 #[.int .u64 x, .int .u64 y] w fun e w' => e = .returned (.tuple #[.int .u64 h, .int .u64 l]) ∧ w = w' := by
  refine Calls.mono (Try.bits_Mul64 x y hx hy w) ?_
  rintro e w' ⟨rfl, hw⟩
  refine ⟨?_, hw.symm⟩
  rw [he, show (h * 18446744073709551616 + l) / 18446744073709551616 = h by omega, show (h * 18446744073709551616 + l) % 18446744073709551616 = l by omega]
theorem Of_wide (x : Int) (w : World) (h0 : -9223372036854775808 ≤ x) (h1 : x ≤ 9223372036854775807) :
    Calls Try.prog 80 #[.int .i64 x] w fun e w' => e = .returned (.agg (wI x)) ∧ Below w.heap.size w w' := by
  have hz := zeroW
  have e1 : Hid (x / 9223372036854775808 = x / 18446744073709551616) := Lib.hid (by omega)
  have e2 : Hid (IntKind.u64.wrap x = x % 18446744073709551616) := Lib.hid (by rw [IntKind.wrap_u64])
  have hb := (Below.refl w.heap.size w).alloc (Nat.le_refl _) (.cells #[.int .i64 (x / 9223372036854775808), .int .u64 (IntKind.u64.wrap x)] 154)
  go_enter Try.func80, Try.ntmps80
  go_wp2
  refine bodyPost_ret (v := .agg #[.int .i64 (x / 9223372036854775808), .int .u64 (IntKind.u64.wrap x)]) (by simp [results, Try.results80, go_sem]) rfl ⟨?_, hb⟩
  rw [e1.out, e2.out]; rfl

/-- Has a sum room in 128 bits? -/
def fits128 (z : Int) : Bool := decide (-170141183460469231731687303715884105728 ≤ z) && decide (z < 170141183460469231731687303715884105728)
end Go.Proofs.Ytogbnecgikbkmaa
