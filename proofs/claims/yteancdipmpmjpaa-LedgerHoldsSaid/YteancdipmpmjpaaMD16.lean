/-
  Lemmas and walks of this claim (the texts Rec Op17 of the work; what no proof here uses is left out). No claim of their own.
-/
import Derived.Test.YteancdipmpmjpaaMD8
import Derived.ProofKit
import Derived.Deep.Slices
import Derived.Deep.Fields
import Derived.ChangeSame
import Derived.ChangeOld
import Derived.Test.YteancdipmpmjpaaMD5
set_option linter.all false
set_option linter.unusedSimpArgs false
set_option linter.unusedVariables false
namespace Go.Proofs.Yteancdipmpmjpaa
open Go.ChangeShapes Go.WideShapes Go.Deep Go.RowKit
set_option linter.unusedVariables false
def fInt (k : IntKind) (v : Value) : Prop := ∃ z : Int, v = .int k z ∧ (Lit.int k z).wf = true
def IsRecs (fp : List (Value → Prop)) (w : World) (a : Option Addr) (len cap : Nat) : Prop :=
  (a = none ∧ len = 0 ∧ cap = 0) ∨ ∃ x : Addr, a = some x ∧ len ≤ cap ∧ cap ≤ maxLen ∧ (∀ i, i < len → ∀ j p, fp[j]? = some p → ∃ v, w.cell? (x.add (i * fp.length + j)) = some v ∧ p v)
def FieldOk (P : Program) (t : TypeId) (p : Value → Prop) : Prop :=
  ∀ {H : Type} (enc : TypeId × Value → H) (w : World) (base : Nat) (spare : Nat → Bool) (held : Bool) (n : Nat) (v : Value) (y : DataW H × List MemPlace), DataW.trod enc P w base spare held n t [v] = some y → p v
theorem fint_of {P : Program} {t : TypeId} {k : IntKind} (h : P.underlying t = some (.int k)) : FieldOk P t (fInt k) := by
  intro H enc w base spare held n v y hy
  obtain ⟨z, hc, _, hw⟩ := DataW.trod_int h hy
  injection hc with hc
  exact ⟨z, hc, hw⟩
section
variable {H : Type} {enc : TypeId × Value → H} {P : Program} {w : World} {base : Nat} {held : Bool}
end
theorem cell_place {w : World} {x : Addr} {v : Value} (h : w.cell? x = some v) : x.spot = none ∧ x.block < w.heap.size := by
  unfold World.cell? at h
  split at h
  · rename_i c e f hb
    split at h
    · cases h
    · rename_i hs
      exact ⟨by simpa using hs, (Array.getElem?_eq_some_iff.1 hb).1⟩
  · cases h
end Go.Proofs.Yteancdipmpmjpaa
namespace Go.Proofs.Yteancdipmpmjpaa
open Go.ChangeShapes Go.WideShapes Go.Deep Go.RowKit
set_option linter.unusedVariables false
def fRow (k : IntKind) (w : World) (v : Value) : Prop := ∃ (a : Option Addr) (len cap : Nat) (zs : List Int), v = .slice a len cap ∧ IsRow k w a len cap zs
def FieldOkW (P : Program) (w : World) (t : TypeId) (p : Value → Prop) : Prop :=
  ∀ {H : Type} (enc : TypeId × Value → H) (base : Nat) (held : Bool) (n : Nat) (v : Value) (y : DataW H × List MemPlace), DataW.trod enc P w base (fun _ => true) held n t [v] = some y → p v
theorem fieldW {P : Program} {w : World} {t : TypeId} {p : Value → Prop} (h : FieldOk P t p) : FieldOkW P w t p := fun enc base held n v y hy => h enc w base _ held n v y hy
theorem frow_of {P : Program} {w : World} {t e : TypeId} {k : IntKind} (ht : P.underlying t = some (.slice e)) (he : P.underlying e = some (.int k)) (hc : P.cellsOf e = 1) : FieldOkW P w t (fRow k w) := by
  intro H enc base held n v y hy
  rcases open_ints ht he hc hy with ⟨hcs, _⟩ | ⟨x, l, c, zs, hcs, _, hl, hm, hz, _, hcell, hwz⟩
  · simp at hcs
    subst hcs
    exact ⟨none, 0, 0, [], rfl, .inl ⟨rfl, rfl, rfl, rfl⟩⟩
  · simp at hcs
    subst hcs
    exact ⟨some x, l, c, zs, rfl, .inr ⟨_, rfl, hl, hm, by simpa using hz, hcell, hwz⟩⟩
def FieldsOkW (P : Program) (w : World) : List Field → List (Value → Prop) → Prop
  | [], [] => True
  | f :: fs, p :: ps => FieldOkW P w f.type p ∧ FieldsOkW P w fs ps
  | _, _ => False
theorem FieldsOkW.len {P : Program} {w : World} : ∀ {fs : List Field} {fp : List (Value → Prop)}, FieldsOkW P w fs fp → fs.length = fp.length
  | [], [], _ => rfl
  | _ :: _, _ :: _, h => by simp [FieldsOkW.len h.2]
theorem FieldsOkW.get {P : Program} {w : World} : ∀ {fs : List Field} {fp : List (Value → Prop)}, FieldsOkW P w fs fp → ∀ (j : Nat) (p : Value → Prop), fp[j]? = some p → ∃ f : Field, fs[j]? = some f ∧ FieldOkW P w f.type p
  | [], [], _, j, p, h => by simp at h
  | f :: _, _ :: _, h, 0, p, hp => by
    simp at hp; subst hp
    exact ⟨f, rfl, h.1⟩
  | _ :: _, _ :: _, h, j + 1, p, hp => by
    simp at hp
    obtain ⟨f, h1, h2⟩ := FieldsOkW.get h.2 j p hp
    exact ⟨f, by simpa using h1, h2⟩
section
variable {H : Type} {enc : TypeId × Value → H} {P : Program} {w : World} {base : Nat} {held : Bool}
theorem open_recsW {t e : TypeId} {fs : Array Field} {fp : List (Value → Prop)} {fuel : Nat} {a : Option Addr} {len cap : Nat} {x : DataW H × List MemPlace} (ht : P.underlying t = some (.slice e)) (he : P.underlying e = some (.struct fs))
    (hone : oneCellFields P fs = true) (hC : P.cellsOf e = fs.size) (hp : FieldsOkW P w fs.toList fp) (h : DataW.trod enc P w base (fun _ => true) held fuel t [.slice a len cap] = some x) : IsRecs fp w a len cap := by
  rcases open_slice ht h with ⟨h0, _⟩ | ⟨a', len', cap', m, n, D, Pl, hcs, hb, hl, hm, hmm, hx, hi⟩
  · injection h0 with h0
    injection h0 with h1 h2 h3
    exact .inl ⟨h1, h2, h3⟩
  · injection hcs with hcs
    injection hcs with h1 h2 h3
    subst h1 h2 h3
    refine .inr ⟨a', rfl, hl, hm, fun i hil j p hj => ?_⟩
    simp only [if_true] at hmm
    obtain ⟨cs', hc, ht'⟩ := hi i (by omega)
    rw [hC] at hc
    obtain ⟨ys, n', hn', hy, hlen, hyl, hf⟩ := DataW.trod_struct he ht'
    obtain ⟨_, hcl, hat⟩ := World.cells?_some hc
    obtain ⟨f, hfj, hok⟩ := hp.get j p hj
    have hfj' : fs[j]? = some f := by simpa using hfj
    obtain ⟨ho, hk⟩ := hone_of hone j f hfj'
    have hjl : j < fs.size := (Array.getElem?_eq_some_iff.1 hfj').1
    have hcell := hat j hjl
    have hv : cs'[j]? = some (cs'[j]'(by omega)) := List.getElem?_eq_getElem (by omega)
    have h1 := hf j f hfj'
    rw [ho, hk] at h1
    have hone' : (cs'.drop j).take 1 = [cs'[j]'(by omega)] := by
      rw [List.drop_eq_getElem_cons (by omega)]
      rfl
    rw [hone'] at h1
    have hys : ys[j]? = some (ys[j]'(by omega)) := List.getElem?_eq_getElem (by omega)
    have hfl : fp.length = fs.size := by rw [← hp.len]; simp
    refine ⟨_, ?_, hok _ _ _ _ _ _ (h1.trans hys)⟩
    rw [hfl, ← Go.Deep.add_add, hcell, hv]
end
structure OpRec where
  kd : Int
  q : Int
  la : Option Addr
  ln : Nat
  lc : Nat
  ls : List Int
  x : Int
  y : Int
  cw : Int
  ch : Int
def opCells (r : OpRec) : Array Value := #[.int .u8 r.kd, .int .u8 r.q, .slice r.la r.ln r.lc, .int .i8 r.x, .int .i8 r.y, .int .u8 r.cw, .int .u8 r.ch]
structure OpGood (w : World) (r : OpRec) : Prop where
  row : Rd w r.la r.ln (ints .u16 r.ls)
  len : r.ls.length = r.ln
  lb : ∀ l ∈ r.ls, 0 ≤ l ∧ l ≤ 65535
  kd : 0 ≤ r.kd ∧ r.kd ≤ 255
  q : 0 ≤ r.q ∧ r.q ≤ 255
  x : -128 ≤ r.x ∧ r.x ≤ 127
  y : -128 ≤ r.y ∧ r.y ≤ 127
  cw : 0 ≤ r.cw ∧ r.cw ≤ 255
  ch : 0 ≤ r.ch ∧ r.ch ≤ 255
def IsOps (w : World) (A : Option Addr) (n cap : Nat) : Prop := IsRecs [fInt .u8, fInt .u8, fRow .u16 w, fInt .i8, fInt .i8, fInt .u8, fInt .u8] w A n cap
def Ops (w : World) (A : Option Addr) (n : Nat) (os : List OpRec) : Prop := os.length = n ∧ ∀ i, i < n → ∃ b off r, A = some ⟨b, off, none⟩ ∧ b < w.heap.size ∧ os[i]? = some r ∧ OpGood w r ∧ ∀ j v, (opCells r)[j]? = some v → w.cell? ⟨b, off + i * 7 + j, none⟩ = some v
theorem wf_u8 {a : Int} (h : (Lit.int .u8 a).wf = true) : 0 ≤ a ∧ a ≤ 255 := by
  unfold Lit.wf at h
  simp [IntKind.min, IntKind.max, IntKind.bits, IntKind.signed] at h
  exact h
theorem wf_i8 {a : Int} (h : (Lit.int .i8 a).wf = true) : -128 ≤ a ∧ a ≤ 127 := by
  unfold Lit.wf at h
  simp [IntKind.min, IntKind.max, IntKind.bits, IntKind.signed] at h
  exact h
theorem wf_u16 {a : Int} (h : (Lit.int .u16 a).wf = true) : 0 ≤ a ∧ a ≤ 65535 := by
  unfold Lit.wf at h
  simp [IntKind.min, IntKind.max, IntKind.bits, IntKind.signed] at h
  exact h
theorem gather {α : Type} {P : Nat → α → Prop} : ∀ {n : Nat}, (∀ i, i < n → ∃ a, P i a) → ∃ l : List α, l.length = n ∧ ∀ i, i < n → ∃ a, l[i]? = some a ∧ P i a
  | 0, _ => ⟨[], rfl, fun i h => absurd h (by omega)⟩
  | n + 1, h => by
    obtain ⟨l, h1, h2⟩ := gather (n := n) (fun i hi => h i (by omega))
    obtain ⟨a, ha⟩ := h n (by omega)
    refine ⟨l ++ [a], by simp [h1], fun i hi => ?_⟩
    by_cases hn : i < n
    · obtain ⟨b, hb, hP⟩ := h2 i hn
      exact ⟨b, by rw [List.getElem?_append_left (by omega)]; exact hb, hP⟩
    · obtain rfl : i = n := by omega
      exact ⟨a, by rw [List.getElem?_append_right (by omega), h1]; simp, ha⟩
theorem IsOps.ops {w : World} {A : Option Addr} {n cap : Nat} (h : IsOps w A n cap) : ∃ os, Ops w A n os := by
  have key : ∀ i, i < n → ∃ r : OpRec, ∃ b off, A = some ⟨b, off, none⟩ ∧ b < w.heap.size ∧ OpGood w r ∧ ∀ j v, (opCells r)[j]? = some v → w.cell? ⟨b, off + i * 7 + j, none⟩ = some v := by
    intro i hi
    rcases h with ⟨_, rfl, _⟩ | ⟨x, rfl, hl, hm, hf⟩
    · omega
    obtain ⟨v0, h0, kd, rfl, q0⟩ := hf i hi 0 _ rfl
    obtain ⟨v1, h1, qq, rfl, q1⟩ := hf i hi 1 _ rfl
    obtain ⟨v2, h2, la, ln, lc, zs, rfl, q2⟩ := hf i hi 2 _ rfl
    obtain ⟨v3, h3, xx, rfl, q3⟩ := hf i hi 3 _ rfl
    obtain ⟨v4, h4, yy, rfl, q4⟩ := hf i hi 4 _ rfl
    obtain ⟨v5, h5, cw, rfl, q5⟩ := hf i hi 5 _ rfl
    obtain ⟨v6, h6, ch, rfl, q6⟩ := hf i hi 6 _ rfl
    obtain ⟨_, h', _⟩ := hf 0 (by omega) 0 _ rfl
    obtain ⟨hs, hb⟩ := cell_place h'
    rcases x with ⟨b, off, sp⟩
    simp [Addr.add] at hs hb
    subst hs
    simp only [Addr.add_mid, List.length_cons, List.length_nil, Nat.zero_add, Nat.reduceAdd, ← Nat.add_assoc, Nat.add_zero] at h0 h1 h2 h3 h4 h5 h6
    obtain ⟨ls, hwf, hrd, hlen⟩ := q2.rdI
    refine ⟨⟨kd, qq, la, ln, lc, ls, xx, yy, cw, ch⟩, b, off, rfl, hb, ⟨hrd, hlen, fun l hl => wf_u16 (hwf l hl), wf_u8 q0, wf_u8 q1, wf_i8 q3, wf_i8 q4, wf_u8 q5, wf_u8 q6⟩, ?_⟩
    intro j v hj
    unfold opCells at hj
    match j with
    | 0 => simp at hj; subst hj; exact h0
    | 1 => simp at hj; subst hj; exact h1
    | 2 => simp at hj; subst hj; exact h2
    | 3 => simp at hj; subst hj; exact h3
    | 4 => simp at hj; subst hj; exact h4
    | 5 => simp at hj; subst hj; exact h5
    | 6 => simp at hj; subst hj; exact h6
    | j + 7 => simp at hj
  obtain ⟨os, h1, h2⟩ := gather key
  refine ⟨os, h1, fun i hi => ?_⟩
  obtain ⟨r, e, b, off, hA, hb, hg, hc⟩ := h2 i hi
  exact ⟨b, off, r, hA, hb, e, hg, hc⟩
theorem OpGood.below {w w' : World} {r : OpRec} (h : OpGood w r) (hb : Below w.heap.size w w') : OpGood w' r := ⟨h.row.below hb, h.len, h.lb, h.kd, h.q, h.x, h.y, h.cw, h.ch⟩
end Go.Proofs.Yteancdipmpmjpaa
