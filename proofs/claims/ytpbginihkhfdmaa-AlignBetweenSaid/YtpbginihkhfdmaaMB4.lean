/-
  Lemmas and walks of this claim (the texts Sl of the work; what no proof here uses is left out). No claim of their own.
-/
import Derived.Test.YtpbginihkhfdmaaMB3
import Derived.Laws.MakeOwn
import Derived.Laws.OwnMore
import Derived.OwnWalk
set_option linter.all false
set_option linter.unusedSimpArgs false
set_option linter.unusedVariables false
namespace Go.Proofs.Ytpbginihkhfdmaa
open Go.RowKit
set_option linter.unusedVariables false

def Rd (w : World) (A : Option Addr) (n : Nat) (cs : List Value) : Prop :=
  cs.length = n ∧ (0 < n → ∃ b off, A = some ⟨b, off, none⟩ ∧ b < w.heap.size ∧ ∀ j u, cs[j]? = some u → w.cell? ⟨b, off + j, none⟩ = some u)
def Sl (w : World) (e : TypeId) (A : Option Addr) (n : Nat) (cs : List Value) : Prop :=
  cs.length = n ∧ (0 < n → ∃ b off arr, A = some ⟨b, off, none⟩ ∧ w.heap[b]? = some (.cells arr e (0, 0)) ∧ ∀ j u, cs[j]? = some u → arr[off + j]? = some u)
def Nw (B : Nat) (A : Option Addr) : Prop := ∀ b off p, A = some ⟨b, off, p⟩ → B ≤ b
theorem Nw.mk (B b off : Nat) (h : B ≤ b) : Nw B (some ⟨b, off, none⟩) := by
  intro b' off' p e
  injection e with e
  injection e with e
  omega
theorem Nw.mono {B B' : Nat} {A : Option Addr} (h : Nw B A) (hb : B' ≤ B) : Nw B' A := fun b off p e => Nat.le_trans hb (h b off p e)

section
variable {w w' : World} {e : TypeId} {A : Option Addr} {n : Nat} {cs : List Value}
theorem Rd.nil (w : World) (A : Option Addr) : Rd w A 0 [] := ⟨rfl, fun h => absurd h (by omega)⟩
theorem Rd.keep (h : Rd w A n cs) (hs : w.heap.size ≤ w'.heap.size) (hk : ∀ p : Addr, p.block < w.heap.size → w'.cell? p = w.cell? p) : Rd w' A n cs :=
  ⟨h.1, fun hn => by
    obtain ⟨b, off, e, hb, hc⟩ := h.2 hn
    exact ⟨b, off, e, by omega, fun j u hu => (hk _ hb).trans (hc j u hu)⟩⟩
theorem Rd.below (h : Rd w A n cs) (hb : Below w.heap.size w w') : Rd w' A n cs := h.keep hb.size fun _ hp => hb.cell hp
theorem Sl.rd (h : Sl w e A n cs) : Rd w A n cs :=
  ⟨h.1, fun hn => by
    obtain ⟨b, off, arr, rfl, hb, hc⟩ := h.2 hn
    exact ⟨b, off, rfl, (Array.getElem?_eq_some_iff.1 hb).1, fun j u hu => by rw [cell_of_row _ _ _ _ _ _ hb]; exact hc j u hu⟩⟩
end

section
variable {P : Program} {w : World} {ops : Array Oper} {rest : List Oper} {o : Oper} {a : Act} {Q : Exit → Act → World → Prop}
end

end Go.Proofs.Ytpbginihkhfdmaa
