/-
  Lemmas and walks of this claim (the texts Rec of the work; what no proof here uses is left out). No claim of their own.
-/
import Derived.Test.YtpbginihkhfdmaaMB5
import Derived.ProofKit
import Derived.Deep.Slices
import Derived.Deep.Fields
import Derived.ChangeSame
import Derived.ChangeOld
set_option linter.all false
set_option linter.unusedSimpArgs false
set_option linter.unusedVariables false
namespace Go.Proofs.Ytpbginihkhfdmaa
open Go.ChangeShapes Go.WideShapes Go.Deep Go.RowKit
set_option linter.unusedVariables false
def fInt (k : IntKind) (v : Value) : Prop := ∃ z : Int, v = .int k z ∧ (Lit.int k z).wf = true
def IsRecs (fp : List (Value → Prop)) (w : World) (a : Option Addr) (len cap : Nat) : Prop :=
  (a = none ∧ len = 0 ∧ cap = 0) ∨ ∃ x : Addr, a = some x ∧ len ≤ cap ∧ cap ≤ maxLen ∧ (∀ i, i < len → ∀ j p, fp[j]? = some p → ∃ v, w.cell? (x.add (i * fp.length + j)) = some v ∧ p v)
def FieldOk (P : Program) (t : TypeId) (p : Value → Prop) : Prop :=
  ∀ {H : Type} (enc : TypeId × Value → H) (w : World) (base : Nat) (spare : Nat → Bool) (held : Bool) (n : Nat) (v : Value) (y : DataW H × List MemPlace), DataW.trod enc P w base spare held n t [v] = some y → p v
theorem fint_of {P : Program} {t : TypeId} {k : IntKind} (h : P.underlying t = some (.int k)) : FieldOk P t (fInt k) := by
  intro H enc w base spare held n v y hy
  obtain ⟨z, hc, _, hw⟩ := DataW.trod_int h hy
  injection hc with hc
  exact ⟨z, hc, hw⟩
def FieldsOk (P : Program) : List Field → List (Value → Prop) → Prop
  | [], [] => True
  | f :: fs, p :: ps => FieldOk P f.type p ∧ FieldsOk P fs ps
  | _, _ => False
theorem FieldsOk.len {P : Program} : ∀ {fs : List Field} {fp : List (Value → Prop)}, FieldsOk P fs fp → fs.length = fp.length
  | [], [], _ => rfl
  | _ :: _, _ :: _, h => by simp [FieldsOk.len h.2]
theorem FieldsOk.get {P : Program} : ∀ {fs : List Field} {fp : List (Value → Prop)}, FieldsOk P fs fp → ∀ (j : Nat) (p : Value → Prop), fp[j]? = some p → ∃ f : Field, fs[j]? = some f ∧ FieldOk P f.type p
  | [], [], _, j, p, h => by simp at h
  | f :: _, _ :: _, h, 0, p, hp => by
    simp at hp; subst hp
    exact ⟨f, rfl, h.1⟩
  | _ :: _, _ :: _, h, j + 1, p, hp => by
    simp at hp
    obtain ⟨f, h1, h2⟩ := FieldsOk.get h.2 j p hp
    exact ⟨f, by simpa using h1, h2⟩
section
variable {H : Type} {enc : TypeId × Value → H} {P : Program} {w : World} {base : Nat} {held : Bool}
theorem open_recs {t e : TypeId} {fs : Array Field} {fp : List (Value → Prop)} {fuel : Nat} {a : Option Addr} {len cap : Nat} {x : DataW H × List MemPlace} (ht : P.underlying t = some (.slice e)) (he : P.underlying e = some (.struct fs))
    (hone : oneCellFields P fs = true) (hC : P.cellsOf e = fs.size) (hp : FieldsOk P fs.toList fp) (h : DataW.trod enc P w base (fun _ => true) held fuel t [.slice a len cap] = some x) : IsRecs fp w a len cap := by
  rcases open_slice ht h with ⟨h0, _⟩ | ⟨a', len', cap', m, n, D, Pl, hcs, hb, hl, hm, hmm, hx, hi⟩
  · injection h0 with h0
    injection h0 with h1 h2 h3
    exact .inl ⟨h1, h2, h3⟩
  · injection hcs with hcs
    injection hcs with h1 h2 h3
    subst h1 h2 h3
    refine .inr ⟨a', rfl, hl, hm, fun i hil j p hj => ?_⟩
    simp only [if_true] at hmm
    obtain ⟨cs', hc, ht'⟩ := hi i (by omega)
    rw [hC] at hc
    obtain ⟨ys, n', hn', hy, hlen, hyl, hf⟩ := DataW.trod_struct he ht'
    obtain ⟨_, hcl, hat⟩ := World.cells?_some hc
    obtain ⟨f, hfj, hok⟩ := hp.get j p hj
    have hfj' : fs[j]? = some f := by simpa using hfj
    obtain ⟨ho, hk⟩ := hone_of hone j f hfj'
    have hjl : j < fs.size := (Array.getElem?_eq_some_iff.1 hfj').1
    have hcell := hat j hjl
    have hv : cs'[j]? = some (cs'[j]'(by omega)) := List.getElem?_eq_getElem (by omega)
    have h1 := hf j f hfj'
    rw [ho, hk] at h1
    have hone' : (cs'.drop j).take 1 = [cs'[j]'(by omega)] := by
      rw [List.drop_eq_getElem_cons (by omega)]
      rfl
    rw [hone'] at h1
    have hys : ys[j]? = some (ys[j]'(by omega)) := List.getElem?_eq_getElem (by omega)
    have hfl : fp.length = fs.size := by rw [← hp.len]; simp
    refine ⟨_, ?_, hok _ _ _ _ _ _ _ _ (h1.trans hys)⟩
    rw [hfl, ← Go.Deep.add_add, hcell, hv]
end
theorem cell_place {w : World} {x : Addr} {v : Value} (h : w.cell? x = some v) : x.spot = none ∧ x.block < w.heap.size := by
  unfold World.cell? at h
  split at h
  · rename_i c e f hb
    split at h
    · cases h
    · rename_i hs
      exact ⟨by simpa using hs, (Array.getElem?_eq_some_iff.1 hb).1⟩
  · cases h
theorem IsRecs.get2 {p0 p1 : Value → Prop} {w : World} {a : Option Addr} {len cap : Nat} (h : IsRecs [p0, p1] w a len cap) {i : Nat} (hi : i < len) :
    ∃ b off, a = some ⟨b, off, none⟩ ∧ b < w.heap.size ∧ ∃ v0 v1, (w.cell? ⟨b, off + i * 2, none⟩ = some v0 ∧ p0 v0) ∧ (w.cell? ⟨b, off + i * 2 + 1, none⟩ = some v1 ∧ p1 v1) := by
  rcases h with ⟨_, rfl, _⟩ | ⟨x, rfl, hl, hm, hf⟩
  · omega
  obtain ⟨v0, h0, q0⟩ := hf i hi 0 p0 rfl
  obtain ⟨v1, h1, q1⟩ := hf i hi 1 p1 rfl
  obtain ⟨_, h', _⟩ := hf 0 (by omega) 0 p0 rfl
  obtain ⟨hs, hb⟩ := cell_place h'
  rcases x with ⟨b, off, sp⟩
  simp [Addr.add] at hs hb
  subst hs
  simp only [Addr.add_mid, List.length_cons, List.length_nil, Nat.zero_add, Nat.reduceAdd, ← Nat.add_assoc, Nat.add_zero] at h0 h1
  exact ⟨b, off, rfl, hb, v0, v1, ⟨h0, q0⟩, ⟨h1, q1⟩⟩
end Go.Proofs.Ytpbginihkhfdmaa
