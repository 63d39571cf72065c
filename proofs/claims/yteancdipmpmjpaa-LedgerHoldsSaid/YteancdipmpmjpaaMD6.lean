/-
  Lemmas and walks of this claim (the texts Reg of the work; what no proof here uses is left out). No claim of their own.
-/
import Derived.Test.YteancdipmpmjpaaMD5
import Derived.Deep.QuietTactic
set_option linter.all false
set_option linter.unusedSimpArgs false
set_option linter.unusedVariables false
namespace Go.Proofs.Yteancdipmpmjpaa
open Go.RowKit
set_option linter.unusedVariables false

def Keeps (B : Nat) (w0 : World) (l : List (Nat × Array Value × TypeId)) (w : World) : Prop := Below B w0 w ∧ B ≤ w.heap.size ∧ ∀ p ∈ l, Has w p.1 p.2.1 p.2.2
section
variable {P : Program} {B : Nat} {w0 w w' : World} {l : List (Nat × Array Value × TypeId)}
theorem Keeps.nil (h : Below B w0 w) (hB : B ≤ w.heap.size) : Keeps B w0 [] w := ⟨h, hB, fun _ hp => by cases hp⟩
theorem Keeps.cons {b : Nat} {cs : Array Value} {t : TypeId} (h : Has w b cs t) (k : Keeps B w0 l w) : Keeps B w0 ((b, cs, t) :: l) w :=
  ⟨k.1, k.2.1, fun p hp => by
    rcases List.mem_cons.1 hp with rfl | hp
    · exact h
    · exact k.2.2 p hp⟩
theorem Keeps.below (h : Keeps B w0 l w) (k : Below w.heap.size w w') : Keeps B w0 l w' := ⟨below_step h.1 k h.2.1, Nat.le_trans h.2.1 k.size, fun p hp => (h.2.2 p hp).below k⟩
theorem Keeps.drew (h : Keeps B w0 l w) : Keeps B w0 l w.drew := ⟨h.1.drew, h.2.1, fun p hp => (h.2.2 p hp).drew⟩
theorem Keeps.has0 {b : Nat} {cs : Array Value} {t : TypeId} (h : Keeps B w0 ((b, cs, t) :: l) w) : Has w b cs t := h.2.2 (b, cs, t) (by simp)
theorem Keeps.tail {p : Nat × Array Value × TypeId} (h : Keeps B w0 (p :: l) w) : Keeps B w0 l w := ⟨h.1, h.2.1, fun q hq => h.2.2 q (List.mem_cons_of_mem _ hq)⟩

theorem wp_region_keeps {id : Nat} {Q : Exit → Act → World → Prop} {a : Act} {os : List Oper} (hm : P.follows .mixedOrders = true) (hB : Region.lexB .any os.toArray = true) (hC : Keeps B w0 l w)
    (h : wpQuiet P os.toArray (Keeps B w0 l) (fun a' => ∀ w', Keeps B w0 l w' → Q .normal a' w') os a) : (Code.region id os.toArray true).wp P Q a w :=
  wp_region_quiet (C := Keeps B w0 l) hm hB hC.drew (by simpa using h)

variable {ops : Array Oper} {C : World → Prop} {Q : Act → Prop} {a : Act} {o : Oper} {rest : List Oper}
theorem wq_at_load {dst : Option Tmp} {type : TypeId} {pos : String} {after : Array Edge} {guard : Option (Nat × Bool)} (ty : TypeId) {x : Operand}
    (h : wpQuiet P ops C Q (⟨dst, .load ty x, type, pos, after, guard⟩ :: rest) a) : wpQuiet P ops C Q (⟨dst, .load ty x, type, pos, after, guard⟩ :: rest) a := h
theorem wq_load (hw : Region.wanted o (yielded ops a.tmps) = true) (ty : TypeId) (x : Operand) (ho : o.op = .load ty x) (g : Nat) (hx : a.eval x = .pointer (some ⟨g, 0, none⟩)) {t : TypeId} {cs : Array Value} {d : TypeDesc}
    (hg : ∀ w, C w → Has w g cs t) (hu : P.underlying ty = some d) (hd : (match d with | .struct _ | .array _ _ => true | _ => false) = true) {n : Nat} (hi : (P.info? ty).map (·.size) = some n) (hn : cs.size = n)
    (h : wpQuiet P ops C Q rest (a.put o.dst (.agg cs))) : wpQuiet P ops C Q (o :: rest) a := by
  unfold wpQuiet
  rw [if_pos hw]
  refine ⟨.agg cs, fun w hC => ?_, h⟩
  unfold Oper.quietAt execOp
  simp only [ho, hx, Instr.loadAt, Instr.sureAddr, Sem.run_bind, Sem.run_pure, Result.andThen_ok, run_loadVar_row w g t ty cs (0, 0) d (hg w hC) hu hd (by rw [hn]; exact hi)]
  exact ⟨rfl, rfl⟩
theorem wq_cell (hw : Region.wanted o (yielded ops a.tmps) = true) (v : Value) (hv : ∀ w, C w → (execOp a.eval o).run P w = .ok (.value v) w)
    (h : wpQuiet P ops C Q rest (a.put o.dst v)) : wpQuiet P ops C Q (o :: rest) a := by
  unfold wpQuiet
  rw [if_pos hw]
  refine ⟨v, fun w hC => ?_, h⟩
  unfold Oper.quietAt
  rw [hv w hC]
  exact ⟨rfl, rfl⟩
end
end Go.Proofs.Yteancdipmpmjpaa
