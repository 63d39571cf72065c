/-
  Lemmas and walks of this claim (the texts Rec Op17 of the work; what no proof here uses is left out). No claim of their own.
-/
import Derived.WalkKit
import Derived.Lib.Hide
import Derived.Deep.MidRow
import Derived.Deep.WholeRow
import Derived.Deep.Draws
import Derived.WalkSmall
import Derived.OrdersHeld
import Derived.Laws.MakeOwn
import Derived.Laws.OwnMore
import Derived.OwnWalk
import Derived.Deep.QuietTactic
import Derived.StillTail
import Derived.ProofKit
import Derived.Deep.Slices
import Derived.Deep.Fields
import Derived.ChangeSame
import Derived.ChangeOld
import Derived.Test.YteancdipmpmjpaaMB29
set_option linter.all false
set_option linter.unusedSimpArgs false
set_option linter.unusedVariables false
namespace Go.Proofs.Yteancdipmpmjpaa
open Go.ChangeShapes Go.WideShapes Go.Deep Go.RowKit
set_option linter.unusedVariables false
/-- What a field of a type may hold. -/
def FieldOk (P : Program) (t : TypeId) (p : Value → Prop) : Prop :=
  ∀ {H : Type} (enc : TypeId × Value → H) (w : World) (base : Nat) (spare : Nat → Bool) (held : Bool) (n : Nat) (v : Value) (y : DataW H × List MemPlace), DataW.trod enc P w base spare held n t [v] = some y → p v
theorem fint_of {P : Program} {t : TypeId} {k : IntKind} (h : P.underlying t = some (.int k)) : FieldOk P t (fInt k) := by
  intro H enc w base spare held n v y hy
  obtain ⟨z, hc, _, hw⟩ := DataW.trod_int h hy
  injection hc with hc
  exact ⟨z, hc, hw⟩
section
variable {H : Type} {enc : TypeId × Value → H} {P : Program} {w : World} {base : Nat} {held : Bool}
end
end Go.Proofs.Yteancdipmpmjpaa
namespace Go.Proofs.Yteancdipmpmjpaa
open Go.ChangeShapes Go.WideShapes Go.Deep Go.RowKit
set_option linter.unusedVariables false
/-- What a field of a type may hold, in this world. -/
def FieldOkW (P : Program) (w : World) (t : TypeId) (p : Value → Prop) : Prop :=
  ∀ {H : Type} (enc : TypeId × Value → H) (base : Nat) (held : Bool) (n : Nat) (v : Value) (y : DataW H × List MemPlace), DataW.trod enc P w base (fun _ => true) held n t [v] = some y → p v
theorem fieldW {P : Program} {w : World} {t : TypeId} {p : Value → Prop} (h : FieldOk P t p) : FieldOkW P w t p := fun enc base held n v y hy => h enc w base _ held n v y hy
theorem frow_of {P : Program} {w : World} {t e : TypeId} {k : IntKind} (ht : P.underlying t = some (.slice e)) (he : P.underlying e = some (.int k)) (hc : P.cellsOf e = 1) : FieldOkW P w t (fRow k w) := by
  intro H enc base held n v y hy
  rcases open_ints ht he hc hy with ⟨hcs, _⟩ | ⟨x, l, c, zs, hcs, _, hl, hm, hz, _, hcell, hwz⟩
  · simp at hcs
    subst hcs
    exact ⟨none, 0, 0, [], rfl, .inl ⟨rfl, rfl, rfl, rfl⟩⟩
  · simp at hcs
    subst hcs
    exact ⟨some x, l, c, zs, rfl, .inr ⟨_, rfl, hl, hm, by simpa using hz, hcell, hwz⟩⟩
def FieldsOkW (P : Program) (w : World) : List Field → List (Value → Prop) → Prop
  | [], [] => True
  | f :: fs, p :: ps => FieldOkW P w f.type p ∧ FieldsOkW P w fs ps
  | _, _ => False
theorem FieldsOkW.len {P : Program} {w : World} : ∀ {fs : List Field} {fp : List (Value → Prop)}, FieldsOkW P w fs fp → fs.length = fp.length
  | [], [], _ => rfl
  | _ :: _, _ :: _, h => by simp [FieldsOkW.len h.2]
theorem FieldsOkW.get {P : Program} {w : World} : ∀ {fs : List Field} {fp : List (Value → Prop)}, FieldsOkW P w fs fp → ∀ (j : Nat) (p : Value → Prop), fp[j]? = some p → ∃ f : Field, fs[j]? = some f ∧ FieldOkW P w f.type p
  | [], [], _, j, p, h => by simp at h
  | f :: _, _ :: _, h, 0, p, hp => by
    simp at hp; subst hp
    exact ⟨f, rfl, h.1⟩
  | _ :: _, _ :: _, h, j + 1, p, hp => by
    simp at hp
    obtain ⟨f, h1, h2⟩ := FieldsOkW.get h.2 j p hp
    exact ⟨f, by simpa using h1, h2⟩
section
variable {H : Type} {enc : TypeId × Value → H} {P : Program} {w : World} {base : Nat} {held : Bool}
theorem open_recsW {t e : TypeId} {fs : Array Field} {fp : List (Value → Prop)} {fuel : Nat} {a : Option Addr} {len cap : Nat} {x : DataW H × List MemPlace} (ht : P.underlying t = some (.slice e)) (he : P.underlying e = some (.struct fs))
    (hone : oneCellFields P fs = true) (hC : P.cellsOf e = fs.size) (hp : FieldsOkW P w fs.toList fp) (h : DataW.trod enc P w base (fun _ => true) held fuel t [.slice a len cap] = some x) : IsRecs fp w a len cap := by
  rcases open_slice ht h with ⟨h0, _⟩ | ⟨a', len', cap', m, n, D, Pl, hcs, hb, hl, hm, hmm, hx, hi⟩
  · injection h0 with h0
    injection h0 with h1 h2 h3
    exact .inl ⟨h1, h2, h3⟩
  · injection hcs with hcs
    injection hcs with h1 h2 h3
    subst h1 h2 h3
    refine .inr ⟨a', rfl, hl, hm, fun i hil j p hj => ?_⟩
    simp only [if_true] at hmm
    obtain ⟨cs', hc, ht'⟩ := hi i (by omega)
    rw [hC] at hc
    obtain ⟨ys, n', hn', hy, hlen, hyl, hf⟩ := DataW.trod_struct he ht'
    obtain ⟨_, hcl, hat⟩ := World.cells?_some hc
    obtain ⟨f, hfj, hok⟩ := hp.get j p hj
    have hfj' : fs[j]? = some f := by simpa using hfj
    obtain ⟨ho, hk⟩ := hone_of hone j f hfj'
    have hjl : j < fs.size := (Array.getElem?_eq_some_iff.1 hfj').1
    have hcell := hat j hjl
    have hv : cs'[j]? = some (cs'[j]'(by omega)) := List.getElem?_eq_getElem (by omega)
    have h1 := hf j f hfj'
    rw [ho, hk] at h1
    have hone' : (cs'.drop j).take 1 = [cs'[j]'(by omega)] := by
      rw [List.drop_eq_getElem_cons (by omega)]
      rfl
    rw [hone'] at h1
    have hys : ys[j]? = some (ys[j]'(by omega)) := List.getElem?_eq_getElem (by omega)
    have hfl : fp.length = fs.size := by rw [← hp.len]; simp
    refine ⟨_, ?_, hok _ _ _ _ _ _ (h1.trans hys)⟩
    rw [hfl, ← Go.Deep.add_add, hcell, hv]
end
end Go.Proofs.Yteancdipmpmjpaa
