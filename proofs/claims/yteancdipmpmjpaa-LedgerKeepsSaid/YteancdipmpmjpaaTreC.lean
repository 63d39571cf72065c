/-
  Regions whose operations come in several orders, the rest: a load of what is known now, a store into one cell. No condition: laws of the walk.
-/
import Derived.Test.YteancdipmpmjpaaTreB
namespace Go.Proofs.Yteancdipmpmjpaa
open Go.RowKit
set_option linter.unusedVariables false
section
variable {P : Program} {B : Nat} {w0 w : World} {L L' Ls : List Blk} {F : World → Prop} {ops : Array Oper} {o : Oper} {a : Act} {S : World → Prop} {Q : Exit → Act → World → Prop} {i : Nat} {t m : Tr}
theorem tm_now (ho : opAt ops i = o) (hgd : Region.wanted o (yielded ops a.tmps) = true) (ty : TypeId) (x : Operand) (hop : o.op = .load ty x) {p : Addr} (hx : a.eval x = .pointer (some p)) {v : Value} (hv : w.cell? p = some v) (hu : OneTy P ty) (hS : S w)
    (h : wpTree P ops S Q t (a.put o.dst v) w) (h2 : wpTree P ops S Q m a w) : wpTree P ops S Q (.alt i t m) a w := by
  subst ho
  refine ⟨?_, h2⟩
  rw [if_pos hgd]
  unfold Oper.wp execOp
  simp only [hop, hx, Sem.run_bind, run_load_cell hu hv, Sem.run_pure, Result.andThen_ok]
  exact ⟨hS, h⟩
theorem tm_nowAt (K : St B w0 L F w) (ho : opAt ops i = o) (hgd : Region.wanted o (yielded ops a.tmps) = true) (ty : TypeId) (x : Operand) (hop : o.op = .load ty x) {g off : Nat} (hx : a.eval x = .pointer (some ⟨g, off, none⟩)) {cs : Array Value} {t0 : TypeId} (ha : At L g cs t0)
    {v : Value} (hv : cs[off]? = some v) (hu : OneTy P ty) (hS : S w) (h : wpTree P ops S Q t (a.put o.dst v) w) (h2 : wpTree P ops S Q m a w) : wpTree P ops S Q (.alt i t m) a w :=
  tm_now ho hgd ty x hop hx ((K.get ha).cell hv) hu hS h h2
theorem tm_put (K : St B w0 L F w) (ho : opAt ops i = o) (hgd : Region.wanted o (yielded ops a.tmps) = true) (ty : TypeId) (x y : Operand) (hop : o.op = .store ty x y) (hdst : o.dst = none) {g off : Nat} (hx : a.eval x = .pointer (some ⟨g, off, none⟩)) {v : Value} (hy : a.eval y = v)
    {cs new : Array Value} {t0 : TypeId} (hp : Put L g cs t0 new L') (hs : off < cs.size) (hnew : cs.setIfInBounds off v = new) (hu : OneTy P ty) (h1 : v.oneCell' = true) (hc : v.cells = #[v])
    (h : ∀ w' : World, St B w0 L' F w' → S w' ∧ wpTree P ops S Q t a w') (h2 : wpTree P ops S Q m a w) : wpTree P ops S Q (.alt i t m) a w := by
  subst ho hnew
  refine ⟨?_, h2⟩
  rw [if_pos hgd]
  have hcell := (K.get hp.at).cell (Array.getElem?_eq_getElem (i := off) hs)
  unfold Oper.wp execOp
  simp only [hop, hx, hy, Sem.run_bind, run_store_cell hu hcell ((K.get hp.at).free off) h1 hc, Sem.run_pure, Result.andThen_ok, Oper.upon, hdst]
  exact h _ (K.setCell hp)
end
end Go.Proofs.Yteancdipmpmjpaa
