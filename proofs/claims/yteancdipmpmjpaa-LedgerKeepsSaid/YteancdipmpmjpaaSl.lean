/-
  Slices of one-cell elements, nil let in, as the walks meet them: what a slice holds ('Sl'), carried over new blocks, stores elsewhere and callees. No condition: a kit of lemmas, no claim of its own.
-/
import Derived.Test.YteancdipmpmjpaaKit
import Derived.Laws.MakeOwn
import Derived.Laws.OwnMore
import Derived.OwnWalk
namespace Go.Proofs.Yteancdipmpmjpaa
open Go.RowKit
set_option linter.unusedVariables false

/-- The slice that begins at A, of n elements, reads as 'cs'. -/
def Rd (w : World) (A : Option Addr) (n : Nat) (cs : List Value) : Prop :=
  cs.length = n ∧ (0 < n → ∃ b off, A = some ⟨b, off, none⟩ ∧ b < w.heap.size ∧ ∀ j u, cs[j]? = some u → w.cell? ⟨b, off + j, none⟩ = some u)
/-- The same, and it lies in a row of elements of type e. -/
def Sl (w : World) (e : TypeId) (A : Option Addr) (n : Nat) (cs : List Value) : Prop :=
  cs.length = n ∧ (0 < n → ∃ b off arr, A = some ⟨b, off, none⟩ ∧ w.heap[b]? = some (.cells arr e (0, 0)) ∧ ∀ j u, cs[j]? = some u → arr[off + j]? = some u)
/-- A slice's memory is none of the first B blocks. -/
def Nw (B : Nat) (A : Option Addr) : Prop := ∀ b off p, A = some ⟨b, off, p⟩ → B ≤ b
theorem Nw.mk (B b off : Nat) (h : B ≤ b) : Nw B (some ⟨b, off, none⟩) := by
  intro b' off' p e
  injection e with e
  injection e with e
  omega
theorem Nw.mono {B B' : Nat} {A : Option Addr} (h : Nw B A) (hb : B' ≤ B) : Nw B' A := fun b off p e => Nat.le_trans hb (h b off p e)

section
variable {w w' : World} {e : TypeId} {A : Option Addr} {n : Nat} {cs : List Value}
theorem Rd.nil (w : World) (A : Option Addr) : Rd w A 0 [] := ⟨rfl, fun h => absurd h (by omega)⟩
theorem Rd.keep (h : Rd w A n cs) (hs : w.heap.size ≤ w'.heap.size) (hk : ∀ p : Addr, p.block < w.heap.size → w'.cell? p = w.cell? p) : Rd w' A n cs :=
  ⟨h.1, fun hn => by
    obtain ⟨b, off, e, hb, hc⟩ := h.2 hn
    exact ⟨b, off, e, by omega, fun j u hu => (hk _ hb).trans (hc j u hu)⟩⟩
theorem Rd.below (h : Rd w A n cs) (hb : Below w.heap.size w w') : Rd w' A n cs := h.keep hb.size fun _ hp => hb.cell hp
theorem Rd.alloc (h : Rd w A n cs) (o : Obj) : Rd (w.alloc o) A n cs := h.keep (by simp) fun p hp => World.cell?_alloc_lt w o p hp
theorem Rd.drew (h : Rd w A n cs) : Rd w.drew A n cs := h
theorem Rd.get (h : Rd w A n cs) {k : Nat} (hk : k < n) : ∃ b off, A = some ⟨b, off, none⟩ ∧ b < w.heap.size ∧ ∀ j u, cs[j]? = some u → w.cell? ⟨b, off + j, none⟩ = some u := h.2 (by omega)
theorem Sl.nil (w : World) (e : TypeId) (A : Option Addr) : Sl w e A 0 [] := ⟨rfl, fun h => absurd h (by omega)⟩
theorem Sl.rd (h : Sl w e A n cs) : Rd w A n cs :=
  ⟨h.1, fun hn => by
    obtain ⟨b, off, arr, rfl, hb, hc⟩ := h.2 hn
    exact ⟨b, off, rfl, (Array.getElem?_eq_some_iff.1 hb).1, fun j u hu => by rw [cell_of_row _ _ _ _ _ _ hb]; exact hc j u hu⟩⟩
theorem Sl.keepIf (h : Sl w e A n cs) (hk : ∀ (b : Nat) (arr : Array Value), w.heap[b]? = some (Obj.cells arr e (0, 0)) → w'.heap[b]? = w.heap[b]?) : Sl w' e A n cs :=
  ⟨h.1, fun hn => by
    obtain ⟨b, off, arr, rfl, hb, hc⟩ := h.2 hn
    exact ⟨b, off, arr, rfl, (hk b arr hb).trans hb, hc⟩⟩
theorem Sl.below (h : Sl w e A n cs) (hb : Below w.heap.size w w') : Sl w' e A n cs := h.keepIf fun b _ hg => hb.block b (Array.getElem?_eq_some_iff.1 hg).1
theorem Sl.alloc (h : Sl w e A n cs) (o : Obj) : Sl (w.alloc o) e A n cs := h.keepIf fun b _ hg => heap_alloc_old w o (Array.getElem?_eq_some_iff.1 hg).1
theorem Sl.drew (h : Sl w e A n cs) : Sl w.drew e A n cs := h
theorem types_ne {b g : Nat} {arr arr' : Array Value} {t : TypeId} (hb : w.heap[b]? = some (Obj.cells arr e (0, 0))) (hg : Has w g arr' t) (hne : e ≠ t) : b ≠ g := by
  intro h
  subst h
  have := hb.symm.trans hg
  injection this with this
  injection this with _ this
  exact hne this
/-- A block of another type is written. -/
theorem Sl.row (h : Sl w e A n cs) {g : Nat} {arr : Array Value} {t : TypeId} (hg : Has w g arr t) (hne : e ≠ t) (new : Array Value) : Sl (w.setRow g new) e A n cs :=
  h.keepIf fun b arr' hb => setRow_other w g b new (types_ne hb hg hne)
theorem Sl.cell (h : Sl w e A n cs) {g i : Nat} {arr : Array Value} {t : TypeId} (hg : Has w g arr t) (hne : e ≠ t) (v : Value) : Sl (w.setCell ⟨g, i, none⟩ v) e A n cs :=
  h.keepIf fun b arr' hb => heap_setCell_other w _ b v (types_ne hb hg hne)
/-- A block is written that is not the slice's. -/
theorem Sl.far (h : Sl w e A n cs) {g i : Nat} (hne : 0 < n → ∀ b off, A = some ⟨b, off, none⟩ → b ≠ g) (v : Value) : Sl (w.setCell ⟨g, i, none⟩ v) e A n cs :=
  ⟨h.1, fun hn => by
    obtain ⟨b, off, arr, rfl, hb, hc⟩ := h.2 hn
    exact ⟨b, off, arr, rfl, (heap_setCell_other w _ b v (hne hn b off rfl)).trans hb, hc⟩⟩
theorem Sl.of_has {b : Nat} {arr : Array Value} {t : TypeId} (h : Has w b arr t) : Sl w t (some ⟨b, 0, none⟩) arr.size arr.toList :=
  ⟨by simp, fun _ => ⟨b, 0, arr, rfl, h, fun j u hu => by simpa using hu⟩⟩
theorem Sl.take (h : Sl w e A n cs) {k : Nat} (hk : k ≤ n) : Sl w e A k (cs.take k) :=
  ⟨by rw [List.length_take, h.1]; omega, fun h0 => by
    obtain ⟨b, off, arr, e, hb, hc⟩ := h.2 (by omega)
    refine ⟨b, off, arr, e, hb, fun j u hu => hc j u ?_⟩
    rw [List.getElem?_take] at hu
    split at hu
    · exact hu
    · cases hu⟩
theorem Sl.of_own {base c : Nat} (h : w.ownsRow base e 1 (.slice A n c) n cs) : Sl w e A n cs := by
  refine ⟨by simpa using h.1, fun hn => ?_⟩
  rcases h.2 with ⟨e, h0⟩ | ⟨g, cap, cur, hv, _, hg, _, _, _, htake⟩
  · omega
  · injection hv with hv
    subst hv
    refine ⟨g, 0, cur, rfl, hg, fun j u hu => ?_⟩
    rw [← htake, List.getElem?_take] at hu
    split at hu
    · simpa using hu
    · cases hu
end

/-- Numbers as cells of one kind. -/
def nums (k : IntKind) (l : List Nat) : List Value := l.map fun (x : Nat) => .int k x
theorem nums_length (k : IntKind) (l : List Nat) : (nums k l).length = l.length := by simp [nums]
theorem nums_get (k : IntKind) (l : List Nat) (i : Nat) (h : i < l.length) : (nums k l)[i]? = some (.int k (l.getD i 0 : Nat)) := by simp [nums, List.getD, h]
theorem nums_take (k : IntKind) (l : List Nat) (i : Nat) : (nums k l).take i = nums k (l.take i) := by simp [nums, List.map_take]
theorem nums_set (k : IntKind) (l : List Nat) (i x : Nat) : ((nums k l).toArray).setIfInBounds i (.int k x) = (nums k (l.set i x)).toArray := by simp [nums, List.map_set]
theorem nums_ones (k : IntKind) (l : List Nat) : ∀ u ∈ nums k l, u.oneCell' = true := by
  intro u hu
  obtain ⟨x, _, rfl⟩ := List.mem_map.1 hu
  rfl
theorem nums_append (k : IntKind) (l m : List Nat) : nums k l ++ nums k m = nums k (l ++ m) := by simp [nums]
theorem nums_made (k : IntKind) (n : Nat) : madeCells #[.int k 0] (n * 1) = (nums k (List.replicate n 0)).toArray := by
  apply Array.ext'
  rw [toList_madeCells_one]
  simp [nums]

section
variable {P : Program} {w : World} {ops : Array Oper} {rest : List Oper} {o : Oper} {a : Act} {Q : Exit → Act → World → Prop}
theorem wl_at_make {dst : Option Tmp} {type : TypeId} {pos : String} {after : Array Edge} {guard : Option (Nat × Bool)} (ty : TypeId) {x y : Operand}
    (h : wpList P ops Q (⟨dst, .makeSlice ty x y, type, pos, after, guard⟩ :: rest) a w) : wpList P ops Q (⟨dst, .makeSlice ty x y, type, pos, after, guard⟩ :: rest) a w := h
/-- make([]T, n) of numbers: a new block of n noughts. -/
theorem wl_make (hgd : Region.wanted o (yielded ops a.tmps) = true) (l c : Operand) (t : TypeId) (ho : o.op = .makeSlice t l c) (e : TypeId) (ht : P.underlying t = some (.slice e)) {k : IntKind} {bs : Nat}
    (hi : (P.info? e).map (fun i => (i.zero, i.size, i.bytes)) = some (some (.int k 0), 1, bs)) (n : Nat) {kl kc : IntKind} {L C : Int} (hl : a.eval l = .int kl L) (hc : a.eval c = .int kc C) (hL : L = (n : Int)) (hC : C = (n : Int)) (hb : bs * n ≤ 281474976710656) (hn : n ≤ 4611686018427387904)
    (h : wpList P ops Q rest (a.put o.dst (.slice (some ⟨w.heap.size, 0, none⟩) n n)) (w.alloc (.cells (nums k (List.replicate n 0)).toArray e))) : wpList P ops Q (o :: rest) a w :=
  wl_wanted hgd fun K hK => by
    obtain ⟨i, hi1, hz, hs, hbs⟩ := info_parts hi
    subst hL hC
    have hb' : (i.bytes : Int) * (n : Int) ≤ 281474976710656 := by
      rw [hbs, ← Int.natCast_mul]; omega
    have hr := run_make (P := P) w t e i (.int k 0) ht hi1 hz kl kc n n (by omega) (Int.le_refl _) hb' (by omega)
    simp only [Int.toNat_natCast, hs] at hr
    rw [show (Value.int k 0).cells = #[.int k 0] from rfl, nums_made] at hr
    unfold Oper.wp
    simp [execOp, ho, hl, hc, hr, Result.andThen]
    exact hK _ _ h
end

end Go.Proofs.Yteancdipmpmjpaa
