/-
  Lemmas and walks of this claim (the texts Flat of the work; what no proof here uses is left out). No claim of their own.
-/
import Derived.Test.YtpejoaefnnbghaaPH3
import Derived.Laws.StructEq
set_option linter.all false
set_option linter.unusedSimpArgs false
set_option linter.unusedVariables false
namespace Go.Proofs.Ytpejoaefnnbghaa
open Go.RowKit
set_option linter.unusedVariables false
def flatB (P : Program) : List Field → Nat → List (Option IntKind) → Bool
  | [], _, [] => true
  | f :: fs, j, k :: ks => (f.name != "_") && (f.offset == j) && (match P.underlying f.type, k with | some (.int k'), some k => k' == k | some .bool, none => true | _, _ => false) && flatB P fs (j + 1) ks
  | _, _, _ => false
def FlatV : List Value → List (Option IntKind) → Prop
  | [], [] => True
  | v :: vs, some k :: ks => (∃ z : Int, v = .int k z) ∧ FlatV vs ks
  | v :: vs, none :: ks => (∃ b : Bool, v = .bool b) ∧ FlatV vs ks
  | _, _ => False
def sameL : List Value → List Value → Bool
  | [], [] => true
  | .int _ a :: us, .int _ b :: vs => (a == b) && sameL us vs
  | .bool a :: us, .bool b :: vs => (a == b) && sameL us vs
  | _, _ => false
section
variable {P : Program}
theorem part_int {t : TypeId} {k : IntKind} (h : P.underlying t = some (.int k)) (cs : Array Value) (i : Nat) (v : Value) (hv : cs[i]? = some v) (w : World) : (part t cs i).run P w = .ok v w := by simp [part, isAgg, Sem.run_bind, run_underlying h, hv]
theorem part_bool {t : TypeId} (h : P.underlying t = some .bool) (cs : Array Value) (i : Nat) (v : Value) (hv : cs[i]? = some v) (w : World) : (part t cs i).run P w = .ok v w := by simp [part, isAgg, Sem.run_bind, run_underlying h, hv]
theorem eqFields_flat (d : Nat) (xs ys : Array Value) : ∀ (fs : List Field) (j : Nat) (ks : List (Option IntKind)) (us vs : List Value), flatB P fs j ks = true → xs.toList.drop j = us → ys.toList.drop j = vs → FlatV us ks → FlatV vs ks → ∀ w : World, (Op.eqFields (d + 1) xs ys fs).run P w = .ok (sameL us vs) w
  | [], j, [], us, vs, _, h1, h2, h3, h4, w => by
    cases us with
    | nil => cases vs with
      | nil => simp [Op.eqFields, sameL]
      | cons _ _ => simp [FlatV] at h4
    | cons _ _ => simp [FlatV] at h3
  | [], j, _ :: _, us, vs, h, _, _, _, _, w => by simp [flatB] at h
  | f :: fs, j, [], us, vs, h, _, _, _, _, w => by simp [flatB] at h
  | f :: fs, j, k :: ks, us, vs, h, h1, h2, h3, h4, w => by
    cases us with
    | nil => cases k <;> simp [FlatV] at h3
    | cons u us =>
    cases vs with
    | nil => cases k <;> simp [FlatV] at h4
    | cons v vs =>
    unfold flatB at h
    simp only [Bool.and_eq_true, bne_iff_ne, beq_iff_eq] at h
    obtain ⟨⟨⟨hn, ho⟩, hu⟩, hr⟩ := h
    have gu : xs[j]? = some u := by
      have := congrArg (·[0]?) h1
      simpa [List.getElem?_drop] using this
    have gv : ys[j]? = some v := by
      have := congrArg (·[0]?) h2
      simpa [List.getElem?_drop] using this
    have d1 : xs.toList.drop (j + 1) = us := by rw [← List.tail_drop, h1]; rfl
    have d2 : ys.toList.drop (j + 1) = vs := by rw [← List.tail_drop, h2]; rfl
    subst ho
    rw [Op.eqFields, if_pos hn]
    cases k with
    | some k =>
      obtain ⟨⟨a, rfl⟩, h3⟩ := h3
      obtain ⟨⟨b, rfl⟩, h4⟩ := h4
      have ih := eqFields_flat d xs ys fs (f.offset + 1) ks us vs hr d1 d2 h3 h4
      split at hu
      · rename_i k' k2 hk heq
        injection heq with heq
        subst heq
        have hk' : k' = k := by simpa using hu
        subst hk'
        simp only [Sem.run_bind, part_int hk xs _ _ gu, part_int hk ys _ _ gv, Result.andThen_ok, run_equalIn_int w d f.type k' k' a b hk]
        by_cases e : a = b
        · subst e
          simp [ih w, sameL]
        · simp [e, sameL]
      · rename_i heq; cases heq
      · cases hu
    | none =>
      obtain ⟨⟨a, rfl⟩, h3⟩ := h3
      obtain ⟨⟨b, rfl⟩, h4⟩ := h4
      have ih := eqFields_flat d xs ys fs (f.offset + 1) ks us vs hr d1 d2 h3 h4
      split at hu
      · rename_i heq; cases heq
      · rename_i hk heq
        simp only [Sem.run_bind, part_bool hk xs _ _ gu, part_bool hk ys _ _ gv, Result.andThen_ok, run_equalIn_bool' w d f.type a b hk]
        by_cases e : a = b
        · subst e
          simp [ih w, sameL]
        · simp [e, sameL]
      · cases hu
theorem equal_flat {t : TypeId} (ks : List (Option IntKind)) (hs : P.underlying t = some (.struct (P.fieldsOf t))) (hp : P.stoodInHeld t = false) (hf : flatB P (P.fieldsOf t).toList 0 ks = true) (us vs : List Value) (hu : FlatV us ks) (hv : FlatV vs ks) (w : World) :
    (Op.equalIn 10000 t (.agg us.toArray) (.agg vs.toArray)).run P w = .ok (sameL us vs) w := by
  rw [show (10000 : Nat) = 9998 + 1 + 1 from rfl, run_equalIn_struct w (9998 + 1) t _ _ hs hp]
  exact eqFields_flat 9998 _ _ _ 0 ks us vs hf (by simp) (by simp) hu hv w
end
end Go.Proofs.Ytpejoaefnnbghaa
