/-
  Regions whose allocations float, the rest: a load of one cell. No condition: a law of the walk.
-/
import Derived.Test.YteancdipmpmjpaaTree
namespace Go.Proofs.Yteancdipmpmjpaa
open Go.RowKit
set_option linter.unusedVariables false
section
variable {P : Program} {B : Nat} {w0 w : World} {L L' Ls : List Blk} {F : World → Prop} {ops : Array Oper} {o : Oper} {a : Act} {S : World → Prop} {Q : Exit → Act → World → Prop} {i : Nat} {t m : Tr}
theorem tm_own (ho : opAt ops i = o) (hgd : Region.wanted o (yielded ops a.tmps) = true) (ty : TypeId) (x : Operand) (hop : o.op = .load ty x) {g off : Nat} (hx : a.eval x = .pointer (some ⟨g, off, none⟩)) {cs : Array Value} {t0 : TypeId} (ha : At Ls g cs t0)
    {v : Value} (hv : cs[off]? = some v) (hu : OneTy P ty) (h : wpTree P ops (St B w0 Ls F) Q t (a.put o.dst v) w) : wpTree P ops (St B w0 Ls F) Q (.take i t) a w := by
  subst ho
  unfold wpTree
  rw [if_pos hgd]
  refine ⟨v, fun w K => ?_, h⟩
  unfold execOp
  simp only [hop, hx, Sem.run_bind, run_load_cell hu ((K.get ha).cell hv), Sem.run_pure, Result.andThen_ok, and_self]
end
end Go.Proofs.Yteancdipmpmjpaa
