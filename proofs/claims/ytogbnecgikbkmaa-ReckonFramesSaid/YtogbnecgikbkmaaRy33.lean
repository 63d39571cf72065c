/-
  Lemmas for the walks of the laws of reckon: a far load within a tree; what a step keeps. No condition.
-/
import Derived.Test.YtogbnecgikbkmaaRx33
import Derived.Test.YtogbnecgikbkmaaRec
namespace Go.Proofs.Ytogbnecgikbkmaa
open Go.RowKit
attribute [local irreducible] wpHeld wpTree wpList
set_option linter.unusedVariables false
section
variable {P : Program} {ops : Array Oper} {B i : Nat} {w0 w : World} {Ls : List Blk} {F : World → Prop} {a : Act} {t : Tr} {o : Oper}
/-- A load of a cell that is known in every such world, within a tree. -/
theorem tm_far {Q : Exit → Act → World → Prop} (ho : opAt ops i = o) (hgd : Region.wanted o (yielded ops a.tmps) = true) (ty : TypeId) (x : Operand) (hop : o.op = .load ty x) {p : Addr} (hx : a.eval x = .pointer (some p)) {v : Value} (hv : ∀ w, St B w0 Ls F w → w.cell? p = some v) (hu : OneTy P ty)
    (h : wpTree P ops (St B w0 Ls F) Q t (a.put o.dst v) w) : wpTree P ops (St B w0 Ls F) Q (.take i t) a w := by
  subst ho
  unfold wpTree
  rw [if_pos hgd]
  refine ⟨v, fun w K => ?_, h⟩
  unfold execOp
  simp only [hop, hx, Sem.run_bind, run_load_cell hu (hv w K), Sem.run_pure, Result.andThen_ok, and_self]
end
/-- A step keeps what the next one asks for; how far it is, is told. -/
theorem rgo_keep (c x y n sp hd ms : Int) (hx : awayB x = true) (hy : awayB y = true) : awayB (rgo c x y n sp hd ms).1.1 = true ∧ awayB (rgo c x y n sp hd ms).1.2.1 = true ∧ n ≤ (rgo c x y n sp hd ms).1.2.2 ∧ (rgo c x y n sp hd ms).1.2.2 ≤ n + 1 ∧
    (rgo c x y n sp hd ms).2.1 = (rgo c x y n sp hd ms).1.1 / 65536 - x / 65536 ∧ (rgo c x y n sp hd ms).2.2.1 = (rgo c x y n sp hd ms).1.2.1 / 65536 - y / 65536 := by
  unfold rgo
  split
  · exact ⟨hx, hy, by simp; try omega, by simp; try omega, by simp, by simp⟩
  · split
    · rename_i h
      rw [Bool.and_eq_true] at h
      exact ⟨h.1, h.2, by simp; try omega, by simp; try omega, rfl, rfl⟩
    · exact ⟨hx, hy, by simp; try omega, by simp; try omega, by simp, by simp⟩
theorem away_bd {x : Int} (h : awayB x = true) : -1125899906842624 ≤ x ∧ x ≤ 1125899906842624 := by
  unfold awayB at h
  simpa using h
end Go.Proofs.Ytogbnecgikbkmaa
