/-
  Lemmas and walks of this claim (the texts Copy of the work; what no proof here uses is left out). No claim of their own.
-/
import Derived.Test.YteancdipmpmjpaaMD8
import Derived.Laws.CopyOwn
set_option linter.all false
set_option linter.unusedSimpArgs false
set_option linter.unusedVariables false
namespace Go.Proofs.Yteancdipmpmjpaa
open Go.RowKit
set_option maxRecDepth 100000
set_option linter.unusedVariables false
section
variable {P : Program} {B : Nat} {w0 w : World} {L L' Ls : List Blk} {F : World → Prop} {ops : Array Oper} {r : List (Bool × Oper)} {o : Oper} {a : Act} {S : World → Prop} {Q : Exit → Act → World → Prop}
theorem hm_copy (K : St B w0 L F w) (hgd : Region.wanted o (yielded ops a.tmps) = true) (d s : Operand) (dT sT : TypeId) (ho : o.op = .call { callee := .builtin .copy, args := #[d, s], argTypes := #[dT, sT] }) (elem : TypeId) (hu : P.underlying dT = some (.slice elem)) (hsz : (P.info? elem).map (·.size) = some 1)
    (g off dLen dCap : Nat) (ad : Addr) (sLen sCap : Nat) (hd : a.eval d = .slice (some ⟨g, off, none⟩) dLen dCap) (hs : a.eval s = .slice (some ad) sLen sCap)
    (xs : List Value) {cs new : Array Value} {t : TypeId} (hp : Put L g cs t new L') (hnew : over cs off xs = new) (hn : xs.length = Nat.min sLen dLen) (hsrc : ∀ (j : Nat) (v : Value), xs[j]? = some v → w.cell? (ad.add j) = some v) (hfit : off + xs.length ≤ cs.size) (h1 : ∀ v ∈ xs, v.oneCell' = true) {m : Nat} (hm : xs.length = m)
    (h : ∀ w' : World, St B w0 L' F w' → S w' ∧ wpHeld P ops S Q r (a.put o.dst (.int .i64 m)) w') : wpHeld P ops S Q ((false, o) :: r) a w := by
  subst hnew hm
  have hg := K.get hp.at
  have hrun := run_copy_cells (P := P) w dT sT o.type elem g off dLen dCap ad sLen sCap xs hu hsz hn hsrc
    (fun j hj => by rw [hg.cell (Array.getElem?_eq_getElem (i := off + j) (by omega))]; rfl) (fun j hj => hg.free _) h1
  have hK := h _ (K.setCells hp)
  unfold wpHeld
  rw [if_pos hgd]
  unfold Oper.wp
  simp [execOp, ho, resolve, invoke, builtin, hd, hs, hrun, Result.andThen]
  exact hK
end
theorem over_nums (k : IntKind) (q : Nat) (xs : List Nat) (m : Nat) : over (nums k (List.replicate (q + xs.length + m) 0)).toArray q (nums k xs) = (nums k (List.replicate q 0 ++ xs ++ List.replicate m 0)).toArray := by
  apply Array.ext_getElem?
  intro j
  rw [over_get _ _ _ _ (by simp [nums])]
  simp only [nums_length]
  by_cases h : q ≤ j ∧ j < q + xs.length
  · rw [if_pos h]
    simp only [nums, List.map_append, List.map_replicate, List.getElem?_toArray]
    rw [List.append_assoc, List.getElem?_append_right (by simp; omega), List.getElem?_append_left (by simp; omega)]
    simp
  · rw [if_neg h]
    simp only [nums, List.map_append, List.map_replicate, List.getElem?_toArray, List.getElem?_replicate]
    by_cases h1 : j < q
    · rw [if_pos (by omega), List.append_assoc, List.getElem?_append_left (by simp; omega), List.getElem?_replicate, if_pos h1]
    · rw [List.getElem?_append_right (by simp; omega), List.getElem?_replicate]
      simp only [List.length_append, List.length_replicate, List.length_map]
      by_cases h2 : j < q + xs.length + m
      · rw [if_pos h2, if_pos (by omega)]
      · rw [if_neg h2, if_neg (by omega)]
end Go.Proofs.Yteancdipmpmjpaa
