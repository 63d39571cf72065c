/-
  Small laws of a walk's memory, the rest. No condition: a kit of lemmas, no claim of its own.
-/
import Derived.Test.YteancdipmpmjpaaHeld
namespace Go.Proofs.Yteancdipmpmjpaa
open Go.RowKit
set_option linter.unusedVariables false
section
variable {P : Program} {B : Nat} {w0 w : World} {L L' Ls : List Blk} {F : World → Prop} {ops : Array Oper} {rest : List Oper} {r : List (Bool × Oper)} {o : Oper} {a : Act} {S : World → Prop} {Q : Exit → Act → World → Prop}
theorem St.rescc {P : Program} (K : St B w0 L F w) {fn : Func} {p q : Tmp} {ty ty2 : TypeId} (h : fn.results = #[.cell p ty, .cell q ty2]) (tmps : Array Value) {g g2 : Nat} {cs cs2 : Array Value} {t t2 : TypeId} (hp : tmps.getD p undef = .pointer (some ⟨g, 0, none⟩)) (hq : tmps.getD q undef = .pointer (some ⟨g2, 0, none⟩))
    (ha : At L g cs t) (ha2 : At L g2 cs2 t2) {n n2 : Nat} (hu : RowTy P ty n) (hu2 : RowTy P ty2 n2) (hn : cs.size = n) (hn2 : cs2.size = n2) : (results fn tmps).run P w = .ok (.tuple #[.agg cs, .agg cs2]) w := by
  obtain ⟨d, h1, h2, h3⟩ := hu
  obtain ⟨d', h1', h2', h3'⟩ := hu2
  have hp' : tmps[p]?.getD undef = .pointer (some ⟨g, 0, none⟩) := by simpa using hp
  have hq' : tmps[q]?.getD undef = .pointer (some ⟨g2, 0, none⟩) := by simpa using hq
  simp [results, h, hp', hq', asAddr, run_loadVar_row w g t ty cs (0, 0) d (K.get ha) h1 (by cases d <;> simp_all) (by rw [hn]; exact h3), run_loadVar_row w g2 t2 ty2 cs2 (0, 0) d' (K.get ha2) h1' (by cases d' <;> simp_all) (by rw [hn2]; exact h3')]
theorem St.order (K : St B w0 L F w) (h : L.Perm L') : St B w0 L' F w :=
  ⟨K.below, K.size, fun p hp => K.has p (h.mem_iff.2 hp), (h.map (·.1)).nodup_iff.1 K.nodup, fun w' h1 h2 => K.keep w' h1 fun b hb1 hb2 => h2 b hb1 fun hm => hb2 ((h.map (·.1)).mem_iff.2 hm)⟩
theorem St.first_two {p q : Blk} (K : St B w0 (p :: q :: L) F w) : St B w0 (q :: p :: L) F w := K.order (List.Perm.swap _ _ _)
end
end Go.Proofs.Yteancdipmpmjpaa
