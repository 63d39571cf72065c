/-
  An entry of an array by value. No condition: a law of the walk.
-/
import Derived.Test.YtogbnecgikbkmaaMem
namespace Go.Proofs.Ytogbnecgikbkmaa
open Go.RowKit
theorem run_index_arr {P : Program} {T E : TypeId} {n : Nat} {cs : Array Value} {k : IntKind} {i : Nat} {v : Value} (hu : P.underlying T = some (.array n E)) (he : OneTy P E) (hi : i < n) (hv : cs[i]? = some v) (w : World) :
    (Instr.index T (.agg cs) (.int k i)).run P w = .ok v w := by
  obtain ⟨d, h1, h2, h3⟩ := he
  have hagg : (isAgg E).run P w = .ok false w := by
    unfold isAgg
    rw [Sem.run_bind, run_underlying h1 w]
    cases d <;> simp_all
  cases hq : P.info? E with
  | none => simp [hq] at h3
  | some j =>
    have hs : j.size = 1 := by simpa [hq] using h3
    have h0 : 0 ≤ (i : Int) ∧ (i : Int) < (n : Int) := by omega
    simp [Instr.index, run_underlying hu, asIntOf, h0, sizeOf, typeInfo, hq, hs, part, hagg, hv, Sem.run_bind]
    omega
end Go.Proofs.Ytogbnecgikbkmaa
