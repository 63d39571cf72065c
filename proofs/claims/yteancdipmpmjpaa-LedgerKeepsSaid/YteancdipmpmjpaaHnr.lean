/-
  Drawn regions with one order: a load of a whole row as it is now. No condition: a law of the walk.
-/
import Derived.Test.YteancdipmpmjpaaHt
namespace Go.Proofs.Yteancdipmpmjpaa
open Go.RowKit
set_option linter.unusedVariables false
section
variable {P : Program} {B : Nat} {w0 w : World} {L : List Blk} {F : World → Prop} {ops : Array Oper} {r : List (Bool × Oper)} {o : Oper} {a : Act} {S : World → Prop} {Q : Exit → Act → World → Prop}
theorem hm_nowRow (K : St B w0 L F w) (hgd : Region.wanted o (yielded ops a.tmps) = true) (ty : TypeId) (x : Operand) (ho : o.op = .load ty x) {g : Nat} (hx : a.eval x = .pointer (some ⟨g, 0, none⟩)) {cs : Array Value} {t : TypeId} (ha : At L g cs t)
    {n : Nat} (hu : RowTy P ty n) (hn : cs.size = n) (hS : S w) (h : wpHeld P ops S Q r (a.put o.dst (.agg cs)) w) : wpHeld P ops S Q ((false, o) :: r) a w := by
  obtain ⟨d, h1, h2, h3⟩ := hu
  have := run_loadVar_row (P := P) w g t ty cs (0, 0) d (K.get ha) h1 (by cases d <;> simp_all) (by rw [hn]; exact h3)
  unfold wpHeld
  rw [if_pos hgd]
  unfold Oper.wp execOp
  simp only [ho, hx, Instr.loadAt, Instr.sureAddr, Sem.run_bind, Sem.run_pure, Result.andThen_ok, this]
  exact ⟨hS, h⟩
end
end Go.Proofs.Yteancdipmpmjpaa
