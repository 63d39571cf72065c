/-
  Lemmas and walks of this claim (the texts App of the work; what no proof here uses is left out). No claim of their own.
-/
import Derived.Test.YtpbginihkhfdmaaML5
import Derived.ArgAppend
import Derived.OwnWalk
import Derived.Great.BuildSlice
set_option linter.all false
set_option linter.unusedSimpArgs false
set_option linter.unusedVariables false
namespace Go.Proofs.Ytpbginihkhfdmaa
open Go.RowKit
set_option linter.unusedVariables false

section
variable {P : Program} {B : Nat} {w0 w w' : World} {L L' L0 : List Blk} {F : World → Prop} {ops : Array Oper} {rest : List Oper} {o : Oper} {a : Act} {Q : Exit → Act → World → Prop}
theorem St.grown {g : Nat} {cur cur' : Array Value} {e : TypeId} (K : St B w0 ((g, cur, e) :: L0) F w) (hgr : w.grownBy w' (some g)) (hh : Has w' g cur' e) : St B w0 ((g, cur', e) :: L0) F w' := by
  have hn := List.nodup_cons.1 (show (g :: L0.map (·.1)).Nodup from K.nodup)
  refine ⟨K.below.grown hgr K.size (fun k hk => by injection hk with hk; subst hk; exact K.ge .hd), Nat.le_trans K.size hgr.size, fun p hp => ?_, K.nodup, fun w'' hs hk => K.keep w'' (Nat.le_trans hgr.size hs) fun b hb1 hb2 => ?_⟩
  · rcases List.mem_cons.1 hp with rfl | hp
    · exact ⟨K.ge .hd, hh⟩
    · have h1 := K.has p (List.mem_cons_of_mem _ hp)
      refine ⟨h1.1, (hgr.block p.1 h1.2.lt fun e => ?_).trans h1.2⟩
      injection e with e
      exact hn.1 (e ▸ List.mem_map.2 ⟨p, hp, rfl⟩)
  · refine (hk b (Nat.lt_of_lt_of_le hb1 hgr.size) hb2).trans (hgr.block b hb1 fun e => ?_)
    injection e with e
    exact hb2 (by simp [e])
theorem grown_below (h : w.grownBy w' none) : Below w.heap.size w w' := ⟨h.os, h.tape, h.output, h.size, fun k hk => h.block k hk (by simp)⟩
theorem at_bsl {dst : Option Tmp} {type : TypeId} {pos : String} {after : Array Edge} {guard : Option (Nat × Bool)} {t : TypeId} {n : Nat} {l : Array (Nat × Operand)} (h : wpList P ops Q (⟨dst, .buildSlice t n l, type, pos, after, guard⟩ :: rest) a w) : wpList P ops Q (⟨dst, .buildSlice t n l, type, pos, after, guard⟩ :: rest) a w := h
theorem at_app {dst : Option Tmp} {type : TypeId} {pos : String} {after : Array Edge} {guard : Option (Nat × Bool)} {s y : Operand} {t : Array TypeId} (h : wpList P ops Q (⟨dst, .call { callee := .builtin .append, args := #[s, y], argTypes := t }, type, pos, after, guard⟩ :: rest) a w) : wpList P ops Q (⟨dst, .call { callee := .builtin .append, args := #[s, y], argTypes := t }, type, pos, after, guard⟩ :: rest) a w := h
end
end Go.Proofs.Ytpbginihkhfdmaa
