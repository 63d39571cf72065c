/-
  Lemmas and walks of this claim (the texts Rec Op17 of the work; what no proof here uses is left out). No claim of their own.
-/
import Derived.Test.YteancdipmpmjpaaMB7
import Derived.ProofKit
import Derived.Deep.Slices
import Derived.Deep.Fields
import Derived.ChangeSame
import Derived.ChangeOld
import Derived.Test.YteancdipmpmjpaaMB4
set_option linter.all false
set_option linter.unusedSimpArgs false
set_option linter.unusedVariables false
namespace Go.Proofs.Yteancdipmpmjpaa
open Go.ChangeShapes Go.WideShapes Go.Deep Go.RowKit
set_option linter.unusedVariables false
def fInt (k : IntKind) (v : Value) : Prop := ∃ z : Int, v = .int k z ∧ (Lit.int k z).wf = true
/-- A slice of structs: each field's cell holds what the field may hold. -/
def IsRecs (fp : List (Value → Prop)) (w : World) (a : Option Addr) (len cap : Nat) : Prop :=
  (a = none ∧ len = 0 ∧ cap = 0) ∨ ∃ x : Addr, a = some x ∧ len ≤ cap ∧ cap ≤ maxLen ∧ (∀ i, i < len → ∀ j p, fp[j]? = some p → ∃ v, w.cell? (x.add (i * fp.length + j)) = some v ∧ p v)
section
variable {H : Type} {enc : TypeId × Value → H} {P : Program} {w : World} {base : Nat} {held : Bool}
end
theorem cell_place {w : World} {x : Addr} {v : Value} (h : w.cell? x = some v) : x.spot = none ∧ x.block < w.heap.size := by
  unfold World.cell? at h
  split at h
  · rename_i c e f hb
    split at h
    · cases h
    · rename_i hs
      exact ⟨by simpa using hs, (Array.getElem?_eq_some_iff.1 hb).1⟩
  · cases h
end Go.Proofs.Yteancdipmpmjpaa
namespace Go.Proofs.Yteancdipmpmjpaa
open Go.ChangeShapes Go.WideShapes Go.Deep Go.RowKit
set_option linter.unusedVariables false
/-- A field that is a slice of integers. -/
def fRow (k : IntKind) (w : World) (v : Value) : Prop := ∃ (a : Option Addr) (len cap : Nat) (zs : List Int), v = .slice a len cap ∧ IsRow k w a len cap zs
section
variable {H : Type} {enc : TypeId × Value → H} {P : Program} {w : World} {base : Nat} {held : Bool}
end
/-- An act, as it came in. -/
structure OpRec where
  kd : Int
  q : Int
  la : Option Addr
  ln : Nat
  lc : Nat
  ls : List Int
  x : Int
  y : Int
  cw : Int
  ch : Int
def opCells (r : OpRec) : Array Value := #[.int .u8 r.kd, .int .u8 r.q, .slice r.la r.ln r.lc, .int .i8 r.x, .int .i8 r.y, .int .u8 r.cw, .int .u8 r.ch]
structure OpGood (w : World) (r : OpRec) : Prop where
  row : Rd w r.la r.ln (ints .u16 r.ls)
  len : r.ls.length = r.ln
  lb : ∀ l ∈ r.ls, 0 ≤ l ∧ l ≤ 65535
  kd : 0 ≤ r.kd ∧ r.kd ≤ 255
  q : 0 ≤ r.q ∧ r.q ≤ 255
  x : -128 ≤ r.x ∧ r.x ≤ 127
  y : -128 ≤ r.y ∧ r.y ≤ 127
  cw : 0 ≤ r.cw ∧ r.cw ≤ 255
  ch : 0 ≤ r.ch ∧ r.ch ≤ 255
def IsOps (w : World) (A : Option Addr) (n cap : Nat) : Prop := IsRecs [fInt .u8, fInt .u8, fRow .u16 w, fInt .i8, fInt .i8, fInt .u8, fInt .u8] w A n cap
/-- The acts, one by one. -/
def Ops (w : World) (A : Option Addr) (n : Nat) (os : List OpRec) : Prop := os.length = n ∧ ∀ i, i < n → ∃ b off r, A = some ⟨b, off, none⟩ ∧ b < w.heap.size ∧ os[i]? = some r ∧ OpGood w r ∧ ∀ j v, (opCells r)[j]? = some v → w.cell? ⟨b, off + i * 7 + j, none⟩ = some v
theorem wf_u8 {a : Int} (h : (Lit.int .u8 a).wf = true) : 0 ≤ a ∧ a ≤ 255 := by
  unfold Lit.wf at h
  simp [IntKind.min, IntKind.max, IntKind.bits, IntKind.signed] at h
  exact h
theorem wf_i8 {a : Int} (h : (Lit.int .i8 a).wf = true) : -128 ≤ a ∧ a ≤ 127 := by
  unfold Lit.wf at h
  simp [IntKind.min, IntKind.max, IntKind.bits, IntKind.signed] at h
  exact h
theorem wf_u16 {a : Int} (h : (Lit.int .u16 a).wf = true) : 0 ≤ a ∧ a ≤ 65535 := by
  unfold Lit.wf at h
  simp [IntKind.min, IntKind.max, IntKind.bits, IntKind.signed] at h
  exact h
theorem gather {α : Type} {P : Nat → α → Prop} : ∀ {n : Nat}, (∀ i, i < n → ∃ a, P i a) → ∃ l : List α, l.length = n ∧ ∀ i, i < n → ∃ a, l[i]? = some a ∧ P i a
  | 0, _ => ⟨[], rfl, fun i h => absurd h (by omega)⟩
  | n + 1, h => by
    obtain ⟨l, h1, h2⟩ := gather (n := n) (fun i hi => h i (by omega))
    obtain ⟨a, ha⟩ := h n (by omega)
    refine ⟨l ++ [a], by simp [h1], fun i hi => ?_⟩
    by_cases hn : i < n
    · obtain ⟨b, hb, hP⟩ := h2 i hn
      exact ⟨b, by rw [List.getElem?_append_left (by omega)]; exact hb, hP⟩
    · obtain rfl : i = n := by omega
      exact ⟨a, by rw [List.getElem?_append_right (by omega), h1]; simp, ha⟩
theorem IsOps.ops {w : World} {A : Option Addr} {n cap : Nat} (h : IsOps w A n cap) : ∃ os, Ops w A n os := by
  have key : ∀ i, i < n → ∃ r : OpRec, ∃ b off, A = some ⟨b, off, none⟩ ∧ b < w.heap.size ∧ OpGood w r ∧ ∀ j v, (opCells r)[j]? = some v → w.cell? ⟨b, off + i * 7 + j, none⟩ = some v := by
    intro i hi
    rcases h with ⟨_, rfl, _⟩ | ⟨x, rfl, hl, hm, hf⟩
    · omega
    obtain ⟨v0, h0, kd, rfl, q0⟩ := hf i hi 0 _ rfl
    obtain ⟨v1, h1, qq, rfl, q1⟩ := hf i hi 1 _ rfl
    obtain ⟨v2, h2, la, ln, lc, zs, rfl, q2⟩ := hf i hi 2 _ rfl
    obtain ⟨v3, h3, xx, rfl, q3⟩ := hf i hi 3 _ rfl
    obtain ⟨v4, h4, yy, rfl, q4⟩ := hf i hi 4 _ rfl
    obtain ⟨v5, h5, cw, rfl, q5⟩ := hf i hi 5 _ rfl
    obtain ⟨v6, h6, ch, rfl, q6⟩ := hf i hi 6 _ rfl
    obtain ⟨_, h', _⟩ := hf 0 (by omega) 0 _ rfl
    obtain ⟨hs, hb⟩ := cell_place h'
    rcases x with ⟨b, off, sp⟩
    simp [Addr.add] at hs hb
    subst hs
    simp only [Addr.add_mid, List.length_cons, List.length_nil, Nat.zero_add, Nat.reduceAdd, ← Nat.add_assoc, Nat.add_zero] at h0 h1 h2 h3 h4 h5 h6
    obtain ⟨ls, hwf, hrd, hlen⟩ := q2.rdI
    refine ⟨⟨kd, qq, la, ln, lc, ls, xx, yy, cw, ch⟩, b, off, rfl, hb, ⟨hrd, hlen, fun l hl => wf_u16 (hwf l hl), wf_u8 q0, wf_u8 q1, wf_i8 q3, wf_i8 q4, wf_u8 q5, wf_u8 q6⟩, ?_⟩
    intro j v hj
    unfold opCells at hj
    match j with
    | 0 => simp at hj; subst hj; exact h0
    | 1 => simp at hj; subst hj; exact h1
    | 2 => simp at hj; subst hj; exact h2
    | 3 => simp at hj; subst hj; exact h3
    | 4 => simp at hj; subst hj; exact h4
    | 5 => simp at hj; subst hj; exact h5
    | 6 => simp at hj; subst hj; exact h6
    | j + 7 => simp at hj
  obtain ⟨os, h1, h2⟩ := gather key
  refine ⟨os, h1, fun i hi => ?_⟩
  obtain ⟨r, e, b, off, hA, hb, hg, hc⟩ := h2 i hi
  exact ⟨b, off, r, hA, hb, e, hg, hc⟩
theorem OpGood.below {w w' : World} {r : OpRec} (h : OpGood w r) (hb : Below w.heap.size w w') : OpGood w' r := ⟨h.row.below hb, h.len, h.lb, h.kd, h.q, h.x, h.y, h.cw, h.ch⟩
end Go.Proofs.Yteancdipmpmjpaa
