/-
  Lemmas and walks of this claim (the texts Sl Row Pa14 Pb14 Pd14 Pe14 Ph14 Pb17 Pf14 Pg14 Pk17 of the work; what no proof here uses is left out). No claim of their own.
-/
import Derived.Test.YteancdipmpmjpaaMB3
import Derived.Laws.MakeOwn
import Derived.Laws.OwnMore
import Derived.OwnWalk
set_option linter.all false
set_option linter.unusedSimpArgs false
set_option linter.unusedVariables false
namespace Go.Proofs.Yteancdipmpmjpaa
open Go.RowKit
set_option linter.unusedVariables false

/-- The slice that begins at A, of n elements, reads as 'cs'. -/
def Rd (w : World) (A : Option Addr) (n : Nat) (cs : List Value) : Prop :=
  cs.length = n ∧ (0 < n → ∃ b off, A = some ⟨b, off, none⟩ ∧ b < w.heap.size ∧ ∀ j u, cs[j]? = some u → w.cell? ⟨b, off + j, none⟩ = some u)
/-- The same, and it lies in a row of elements of type e. -/
def Sl (w : World) (e : TypeId) (A : Option Addr) (n : Nat) (cs : List Value) : Prop :=
  cs.length = n ∧ (0 < n → ∃ b off arr, A = some ⟨b, off, none⟩ ∧ w.heap[b]? = some (.cells arr e (0, 0)) ∧ ∀ j u, cs[j]? = some u → arr[off + j]? = some u)
/-- A slice's memory is none of the first B blocks. -/
def Nw (B : Nat) (A : Option Addr) : Prop := ∀ b off p, A = some ⟨b, off, p⟩ → B ≤ b
theorem Nw.mk (B b off : Nat) (h : B ≤ b) : Nw B (some ⟨b, off, none⟩) := by
  intro b' off' p e
  injection e with e
  injection e with e
  omega
theorem Nw.mono {B B' : Nat} {A : Option Addr} (h : Nw B A) (hb : B' ≤ B) : Nw B' A := fun b off p e => Nat.le_trans hb (h b off p e)

section
variable {w w' : World} {e : TypeId} {A : Option Addr} {n : Nat} {cs : List Value}
theorem Rd.nil (w : World) (A : Option Addr) : Rd w A 0 [] := ⟨rfl, fun h => absurd h (by omega)⟩
theorem Rd.keep (h : Rd w A n cs) (hs : w.heap.size ≤ w'.heap.size) (hk : ∀ p : Addr, p.block < w.heap.size → w'.cell? p = w.cell? p) : Rd w' A n cs :=
  ⟨h.1, fun hn => by
    obtain ⟨b, off, e, hb, hc⟩ := h.2 hn
    exact ⟨b, off, e, by omega, fun j u hu => (hk _ hb).trans (hc j u hu)⟩⟩
theorem Rd.below (h : Rd w A n cs) (hb : Below w.heap.size w w') : Rd w' A n cs := h.keep hb.size fun _ hp => hb.cell hp
theorem Rd.get (h : Rd w A n cs) {k : Nat} (hk : k < n) : ∃ b off, A = some ⟨b, off, none⟩ ∧ b < w.heap.size ∧ ∀ j u, cs[j]? = some u → w.cell? ⟨b, off + j, none⟩ = some u := h.2 (by omega)
theorem Sl.nil (w : World) (e : TypeId) (A : Option Addr) : Sl w e A 0 [] := ⟨rfl, fun h => absurd h (by omega)⟩
theorem Sl.rd (h : Sl w e A n cs) : Rd w A n cs :=
  ⟨h.1, fun hn => by
    obtain ⟨b, off, arr, rfl, hb, hc⟩ := h.2 hn
    exact ⟨b, off, rfl, (Array.getElem?_eq_some_iff.1 hb).1, fun j u hu => by rw [cell_of_row _ _ _ _ _ _ hb]; exact hc j u hu⟩⟩
theorem Sl.keepIf (h : Sl w e A n cs) (hk : ∀ (b : Nat) (arr : Array Value), w.heap[b]? = some (Obj.cells arr e (0, 0)) → w'.heap[b]? = w.heap[b]?) : Sl w' e A n cs :=
  ⟨h.1, fun hn => by
    obtain ⟨b, off, arr, rfl, hb, hc⟩ := h.2 hn
    exact ⟨b, off, arr, rfl, (hk b arr hb).trans hb, hc⟩⟩
theorem Sl.below (h : Sl w e A n cs) (hb : Below w.heap.size w w') : Sl w' e A n cs := h.keepIf fun b _ hg => hb.block b (Array.getElem?_eq_some_iff.1 hg).1
theorem types_ne {b g : Nat} {arr arr' : Array Value} {t : TypeId} (hb : w.heap[b]? = some (Obj.cells arr e (0, 0))) (hg : Has w g arr' t) (hne : e ≠ t) : b ≠ g := by
  intro h
  subst h
  have := hb.symm.trans hg
  injection this with this
  injection this with _ this
  exact hne this
/-- A block of another type is written. -/
theorem Sl.row (h : Sl w e A n cs) {g : Nat} {arr : Array Value} {t : TypeId} (hg : Has w g arr t) (hne : e ≠ t) (new : Array Value) : Sl (w.setRow g new) e A n cs :=
  h.keepIf fun b arr' hb => setRow_other w g b new (types_ne hb hg hne)
theorem Sl.of_has {b : Nat} {arr : Array Value} {t : TypeId} (h : Has w b arr t) : Sl w t (some ⟨b, 0, none⟩) arr.size arr.toList :=
  ⟨by simp, fun _ => ⟨b, 0, arr, rfl, h, fun j u hu => by simpa using hu⟩⟩
theorem Sl.take (h : Sl w e A n cs) {k : Nat} (hk : k ≤ n) : Sl w e A k (cs.take k) :=
  ⟨by rw [List.length_take, h.1]; omega, fun h0 => by
    obtain ⟨b, off, arr, e, hb, hc⟩ := h.2 (by omega)
    refine ⟨b, off, arr, e, hb, fun j u hu => hc j u ?_⟩
    rw [List.getElem?_take] at hu
    split at hu
    · exact hu
    · cases hu⟩
theorem Sl.of_own {base c : Nat} (h : w.ownsRow base e 1 (.slice A n c) n cs) : Sl w e A n cs := by
  refine ⟨by simpa using h.1, fun hn => ?_⟩
  rcases h.2 with ⟨e, h0⟩ | ⟨g, cap, cur, hv, _, hg, _, _, _, htake⟩
  · omega
  · injection hv with hv
    subst hv
    refine ⟨g, 0, cur, rfl, hg, fun j u hu => ?_⟩
    rw [← htake, List.getElem?_take] at hu
    split at hu
    · simpa using hu
    · cases hu
end

/-- Numbers as cells of one kind. -/
def nums (k : IntKind) (l : List Nat) : List Value := l.map fun (x : Nat) => .int k x
theorem nums_length (k : IntKind) (l : List Nat) : (nums k l).length = l.length := by simp [nums]
theorem nums_get (k : IntKind) (l : List Nat) (i : Nat) (h : i < l.length) : (nums k l)[i]? = some (.int k (l.getD i 0 : Nat)) := by simp [nums, List.getD, h]
theorem nums_take (k : IntKind) (l : List Nat) (i : Nat) : (nums k l).take i = nums k (l.take i) := by simp [nums, List.map_take]
theorem nums_set (k : IntKind) (l : List Nat) (i x : Nat) : ((nums k l).toArray).setIfInBounds i (.int k x) = (nums k (l.set i x)).toArray := by simp [nums, List.map_set]
theorem nums_ones (k : IntKind) (l : List Nat) : ∀ u ∈ nums k l, u.oneCell' = true := by
  intro u hu
  obtain ⟨x, _, rfl⟩ := List.mem_map.1 hu
  rfl
theorem nums_append (k : IntKind) (l m : List Nat) : nums k l ++ nums k m = nums k (l ++ m) := by simp [nums]
theorem nums_made (k : IntKind) (n : Nat) : madeCells #[.int k 0] (n * 1) = (nums k (List.replicate n 0)).toArray := by
  apply Array.ext'
  rw [toList_madeCells_one]
  simp [nums]

section
variable {P : Program} {w : World} {ops : Array Oper} {rest : List Oper} {o : Oper} {a : Act} {Q : Exit → Act → World → Prop}
theorem wl_at_make {dst : Option Tmp} {type : TypeId} {pos : String} {after : Array Edge} {guard : Option (Nat × Bool)} (ty : TypeId) {x y : Operand}
    (h : wpList P ops Q (⟨dst, .makeSlice ty x y, type, pos, after, guard⟩ :: rest) a w) : wpList P ops Q (⟨dst, .makeSlice ty x y, type, pos, after, guard⟩ :: rest) a w := h
/-- make([]T, n) of numbers: a new block of n noughts. -/
theorem wl_make (hgd : Region.wanted o (yielded ops a.tmps) = true) (l c : Operand) (t : TypeId) (ho : o.op = .makeSlice t l c) (e : TypeId) (ht : P.underlying t = some (.slice e)) {k : IntKind} {bs : Nat}
    (hi : (P.info? e).map (fun i => (i.zero, i.size, i.bytes)) = some (some (.int k 0), 1, bs)) (n : Nat) {kl kc : IntKind} {L C : Int} (hl : a.eval l = .int kl L) (hc : a.eval c = .int kc C) (hL : L = (n : Int)) (hC : C = (n : Int)) (hb : bs * n ≤ 281474976710656) (hn : n ≤ 4611686018427387904)
    (h : wpList P ops Q rest (a.put o.dst (.slice (some ⟨w.heap.size, 0, none⟩) n n)) (w.alloc (.cells (nums k (List.replicate n 0)).toArray e))) : wpList P ops Q (o :: rest) a w :=
  wl_wanted hgd fun K hK => by
    obtain ⟨i, hi1, hz, hs, hbs⟩ := info_parts hi
    subst hL hC
    have hb' : (i.bytes : Int) * (n : Int) ≤ 281474976710656 := by
      rw [hbs, ← Int.natCast_mul]; omega
    have hr := run_make (P := P) w t e i (.int k 0) ht hi1 hz kl kc n n (by omega) (Int.le_refl _) hb' (by omega)
    simp only [Int.toNat_natCast, hs] at hr
    rw [show (Value.int k 0).cells = #[.int k 0] from rfl, nums_made] at hr
    unfold Oper.wp
    simp [execOp, ho, hl, hc, hr, Result.andThen]
    exact hK _ _ h
end

end Go.Proofs.Yteancdipmpmjpaa
namespace Go.Proofs.Yteancdipmpmjpaa
open Go.RowKit
set_option linter.unusedVariables false
/-- A slice of integers that came in: nil, or a row of 'cap' cells, the first 'len' of them its elements. -/
def IsRow (k : IntKind) (w : World) (a : Option Addr) (len cap : Nat) (zs : List Int) : Prop :=
  (a = none ∧ len = 0 ∧ cap = 0 ∧ zs = []) ∨
  ∃ x, a = some x ∧ len ≤ cap ∧ cap ≤ maxLen ∧ zs.length = cap ∧ (∀ i, i < zs.length → w.cell? (x.add i) = some (.int k (zs.getD i 0))) ∧ ∀ n ∈ zs, (Lit.int k n).wf = true

theorem cell_some {w : World} {x : Addr} {v : Value} (h : w.cell? x = some v) : x.spot = none ∧ x.block < w.heap.size := by
  unfold World.cell? at h
  split at h
  · rename_i c e f hb
    split at h
    · cases h
    · rename_i hs
      exact ⟨by simpa using hs, (Array.getElem?_eq_some_iff.1 hb).1⟩
  · cases h
def ints (k : IntKind) (l : List Int) : List Value := l.map (.int k)
theorem ints_len (k : IntKind) (l : List Int) : (ints k l).length = l.length := by simp [ints]
theorem ints_app (k : IntKind) (l m : List Int) : ints k (l ++ m) = ints k l ++ ints k m := by simp [ints]
theorem ints_get (k : IntKind) (l : List Int) (i : Nat) (h : i < l.length) : (ints k l)[i]? = some (.int k (l.getD i 0)) := by
  simp [ints, List.getD, h]
theorem take_snoc (l : List Int) (i : Nat) (h : i < l.length) : l.take (i + 1) = l.take i ++ [l.getD i 0] := by
  rw [List.take_succ_eq_append_getElem h, List.getD, List.getElem?_eq_getElem h]; rfl
theorem IsRow.rdI {k : IntKind} {w : World} {a : Option Addr} {len cap : Nat} {zs : List Int} (h : IsRow k w a len cap zs) :
    ∃ l : List Int, (∀ x ∈ l, (Lit.int k x).wf = true) ∧ Rd w a len (ints k l) ∧ l.length = len := by
  rcases h with ⟨rfl, rfl, rfl, rfl⟩ | ⟨x, rfl, hl, hm, hz, hc, hwf⟩
  · exact ⟨[], by simp, Rd.nil _ _, rfl⟩
  · refine ⟨zs.take len, fun y hy => hwf y (List.mem_of_mem_take hy), ⟨?_, fun h0 => ?_⟩, ?_⟩
    · rw [ints_len, List.length_take]; omega
    · have h1 := hc 0 (by omega)
      obtain ⟨hs, hb⟩ := cell_some h1
      rcases x with ⟨b, off, sp⟩
      simp only [Addr.add] at hs hb
      subst hs
      refine ⟨b, off, rfl, hb, fun j u hj => ?_⟩
      have hj' : j < len := by
        have := (List.getElem?_eq_some_iff.1 hj).1
        rw [ints_len, List.length_take] at this
        omega
      have h2 := hc j (by omega)
      rw [Addr.add_mid] at h2
      rw [h2]
      have e := ints_get k (zs.take len) j (by rw [List.length_take]; omega)
      rw [hj] at e
      injection e with e
      rw [e, List.getD, List.getD, List.getElem?_take, if_pos hj']
    · rw [List.length_take]; omega
end Go.Proofs.Yteancdipmpmjpaa
namespace Go.Proofs.Yteancdipmpmjpaa
set_option linter.unusedVariables false
/-- The sum of all. -/
def isum : List Int → Int
  | [] => 0
  | x :: r => x + isum r
theorem isum_app (l m : List Int) : isum (l ++ m) = isum l + isum m := by
  induction l with
  | nil => simp [isum]
  | cons x r ih => rw [List.cons_append, isum, isum, ih]; omega
theorem isum_snoc (l : List Int) (i : Nat) (h : i < l.length) : isum (l.take (i + 1)) = isum (l.take i) + l.getD i 0 := by
  rw [take_snoc l i h, isum_app]; simp [isum]
theorem isum_bd {M : Int} {l : List Int} (hM : 0 ≤ M) (h : ∀ z ∈ l, -M ≤ z ∧ z ≤ M) : -(M * l.length) ≤ isum l ∧ isum l ≤ M * l.length := by
  induction l with
  | nil => simp [isum]
  | cons x r ih =>
    have h1 := h x List.mem_cons_self
    have h2 := ih fun z hz => h z (List.mem_cons_of_mem _ hz)
    rw [isum, List.length_cons]
    have e : M * ((r.length + 1 : Nat) : Int) = M * r.length + M := by rw [Int.natCast_add, Int.mul_add]; simp
    omega
theorem isum_nonneg {l : List Int} (h : ∀ z ∈ l, 0 ≤ z) : 0 ≤ isum l := by
  induction l with
  | nil => simp [isum]
  | cons x r ih =>
    have h1 := h x List.mem_cons_self
    have h2 := ih fun z hz => h z (List.mem_cons_of_mem _ hz)
    rw [isum]; omega
theorem isum_take_bd {M : Int} {l : List Int} {n : Nat} (hM : 0 ≤ M) (h : ∀ z ∈ l, -M ≤ z ∧ z ≤ M) (hl : l.length ≤ n) (k : Nat) : -(M * n) ≤ isum (l.take k) ∧ isum (l.take k) ≤ M * n := by
  have h1 := isum_bd (l := l.take k) hM fun z hz => h z (List.mem_of_mem_take hz)
  have h2 : M * ((l.take k).length : Int) ≤ M * n := Int.mul_le_mul_of_nonneg_left (by rw [List.length_take]; omega) hM
  omega
theorem isum_mem {l : List Int} (h : ∀ z ∈ l, 0 ≤ z) {z : Int} (hz : z ∈ l) : z ≤ isum l := by
  induction l with
  | nil => cases hz
  | cons x r ih =>
    have h1 := h x List.mem_cons_self
    have h2 := isum_nonneg (l := r) fun z hz => h z (List.mem_cons_of_mem _ hz)
    rw [isum]
    rcases List.mem_cons.1 hz with rfl | hz
    · omega
    · have := ih (fun z hz => h z (List.mem_cons_of_mem _ hz)) hz; omega
theorem getD_mem {l : List Int} {i : Nat} (h : i < l.length) : l.getD i 0 ∈ l := by
  rw [List.getD, List.getElem?_eq_getElem h]; exact List.getElem_mem _
/-- Numbers made whole again. -/
def norm14 (s : Int) (l : List Int) : List Int := l.map fun p => p * 1073741824 / s
theorem norm_len (s : Int) (l : List Int) : (norm14 s l).length = l.length := by simp [norm14]
theorem norm_snoc (s : Int) (l : List Int) (i : Nat) (h : i < l.length) : norm14 s (l.take (i + 1)) = norm14 s (l.take i) ++ [l.getD i 0 * 1073741824 / s] := by
  rw [take_snoc l i h]; simp [norm14]
/-- A right grid. -/
structure Right14 (W H S : Int) (l : List Int) : Prop where
  w0 : 1 ≤ W
  w1 : W ≤ 64
  h0 : 1 ≤ H
  h1 : H ≤ 64
  s0 : 16 ≤ S
  s1 : S ≤ 4096
  len : (l.length : Int) = W * H
  nums : ∀ z ∈ l, 0 ≤ z ∧ z ≤ 1073741824
  top : isum l ≤ 1073741824
  low : 1073741824 ≤ isum l + l.length
/-- Numbers whose sum is above 0 are, made whole, a right grid's. -/
theorem norm_sum {l : List Int} {s : Int} (hs : 0 < s) (h : ∀ z ∈ l, 0 ≤ z) : isum (norm14 s l) * s ≤ isum l * 1073741824 ∧ isum l * 1073741824 ≤ (isum (norm14 s l) + l.length) * s := by
  induction l with
  | nil => simp [isum, norm14]
  | cons x r ih =>
    have h1 := h x List.mem_cons_self
    obtain ⟨h2, h3⟩ := ih fun z hz => h z (List.mem_cons_of_mem _ hz)
    have e : norm14 s (x :: r) = x * 1073741824 / s :: norm14 s r := by simp [norm14]
    rw [e, isum, isum, List.length_cons]
    have a1 := Int.ediv_mul_le (x * 1073741824) (show s ≠ 0 by omega)
    have a2 := Int.lt_ediv_add_one_mul_self (x * 1073741824) hs
    generalize x * 1073741824 / s = q at *
    rw [Int.add_mul] at a2
    have b1 : (q + isum (norm14 s r)) * s = q * s + isum (norm14 s r) * s := Int.add_mul ..
    have b2 : (q + isum (norm14 s r) + ((r.length + 1 : Nat) : Int)) * s = q * s + 1 * s + (isum (norm14 s r) + r.length) * s := by
      rw [← Int.add_mul, ← Int.add_mul]; congr 1; omega
    rw [b1, b2]
    omega
theorem norm_right {W H S : Int} {l : List Int} (hw : 1 ≤ W ∧ W ≤ 64) (hh : 1 ≤ H ∧ H ≤ 64) (hs : 16 ≤ S ∧ S ≤ 4096) (hl : (l.length : Int) = W * H) (h : ∀ z ∈ l, 0 ≤ z) (hp : 0 < isum l) : Right14 W H S (norm14 (isum l) l) := by
  obtain ⟨n1, n2⟩ := norm_sum hp h
  have n1' : isum (norm14 (isum l) l) ≤ 1073741824 := Int.le_of_mul_le_mul_right (by rw [Int.mul_comm 1073741824]; exact n1) hp
  have n2' : 1073741824 ≤ isum (norm14 (isum l) l) + l.length := Int.le_of_mul_le_mul_right (by rw [Int.mul_comm 1073741824]; exact n2) hp
  have h0 : ∀ z ∈ norm14 (isum l) l, 0 ≤ z := by
    intro z hz
    obtain ⟨p, hp', rfl⟩ := List.mem_map.1 hz
    have := h p hp'
    exact Int.ediv_nonneg (by omega) (by omega)
  refine ⟨hw.1, hw.2, hh.1, hh.2, hs.1, hs.2, by rw [norm_len]; exact hl, fun z hz => ⟨h0 z hz, ?_⟩, n1', by rw [norm_len]; exact n2'⟩
  have := isum_mem h0 hz
  omega
end Go.Proofs.Yteancdipmpmjpaa
namespace Go.Proofs.Yteancdipmpmjpaa
set_option linter.unusedVariables false
theorem ints_set (k : IntKind) (l : List Int) (i : Nat) (x : Int) : (ints k l).set i (.int k x) = ints k (l.set i x) := by simp [ints, List.map_set]
/-- A row of which the first m cells are such numbers, and one of them written. -/
theorem row_put {cur : Array Value} {m : Nat} {k : IntKind} {o : List Int} {i : Nat} {x : Int} (h : cur.toList.take m = ints k o) : (cur.setIfInBounds i (.int k x)).toList.take m = ints k (o.set i x) := by
  rw [Array.toList_setIfInBounds, List.take_set, h, ints_set]
end Go.Proofs.Yteancdipmpmjpaa
namespace Go.Proofs.Yteancdipmpmjpaa
set_option linter.unusedVariables false
/-- As many numbers as there are places: ones behind those that are told. -/
def src14 (n : Nat) (ls : List Int) : List Int := ls.take n ++ List.replicate (n - ls.length) 1
theorem src_len (n : Nat) (ls : List Int) : (src14 n ls).length = n := by
  unfold src14; rw [List.length_append, List.length_take, List.length_replicate]; omega
theorem src_get {n i : Nat} {ls : List Int} (hi : i < n) : (src14 n ls).getD i 0 = if i < ls.length then ls.getD i 0 else 1 := by
  unfold src14
  by_cases h : i < ls.length
  · rw [if_pos h, List.getD, List.getD, List.getElem?_append_left (by rw [List.length_take]; omega), List.getElem?_take, if_pos hi]
  · rw [if_neg h, List.getD, List.getElem?_append_right (by rw [List.length_take]; omega), List.getElem?_replicate, if_pos (by rw [List.length_take]; omega)]
    rfl
theorem src_bd {n : Nat} {ls : List Int} (h : ∀ z ∈ ls, 0 ≤ z ∧ z ≤ 65535) : ∀ z ∈ src14 n ls, 0 ≤ z ∧ z ≤ 65535 := by
  intro z hz
  unfold src14 at hz
  rcases List.mem_append.1 hz with hz | hz
  · exact h z (List.mem_of_mem_take hz)
  · rw [(List.mem_replicate.1 hz).2]; omega
def fix14 (l : List Int) : List Int := if isum l = 0 then l.set 0 1 else l
theorem fix_len (l : List Int) : (fix14 l).length = l.length := by unfold fix14; split <;> simp
theorem fix_bd {l : List Int} (h : ∀ z ∈ l, 0 ≤ z ∧ z ≤ 65535) : ∀ z ∈ fix14 l, 0 ≤ z ∧ z ≤ 65535 := by
  intro z hz
  unfold fix14 at hz
  split at hz
  · rcases List.mem_or_eq_of_mem_set hz with hz | rfl
    · exact h z hz
    · omega
  · exact h z hz
theorem fix_pos {l : List Int} (h : ∀ z ∈ l, 0 ≤ z ∧ z ≤ 65535) (hl : 0 < l.length) : 0 < isum (fix14 l) := by
  have hn := isum_nonneg (l := fix14 l) fun z hz => (fix_bd h z hz).1
  by_cases h0 : isum l = 0
  · have hm : (1 : Int) ∈ fix14 l := by
      unfold fix14; rw [if_pos h0]
      exact List.mem_set hl 1
    have := isum_mem (l := fix14 l) (fun z hz => (fix_bd h z hz).1) hm
    omega
  · have e : fix14 l = l := by unfold fix14; rw [if_neg h0]
    rw [e] at hn ⊢
    omega
/-- The grid's numbers. -/
def mad14 (n : Nat) (ls : List Int) : List Int := norm14 (isum (fix14 (src14 n ls))) (fix14 (src14 n ls))
theorem mad_len (n : Nat) (ls : List Int) : (mad14 n ls).length = n := by unfold mad14; rw [norm_len, fix_len, src_len]
theorem mad_right {W H S : Int} {n : Nat} {ls : List Int} (hw : 1 ≤ W ∧ W ≤ 64) (hh : 1 ≤ H ∧ H ≤ 64) (hs : 16 ≤ S ∧ S ≤ 4096) (hn : W * H = n) (h : ∀ z ∈ ls, 0 ≤ z ∧ z ≤ 65535) : Right14 W H S (mad14 n ls) := by
  have h1 := src_bd (n := n) h
  have hn0 : 0 < n := by
    have := Int.mul_le_mul hw.1 hh.1 (by omega) (by omega)
    omega
  exact norm_right hw hh hs (by rw [fix_len, src_len]; exact hn.symm) (fun z hz => (fix_bd h1 z hz).1) (fix_pos h1 (by rw [src_len]; exact hn0))
def wts14 (n : Nat) (ls : List Int) : List Int := ls.take n ++ List.replicate (n - ls.length) 65536
theorem wts_len (n : Nat) (ls : List Int) : (wts14 n ls).length = n := by
  unfold wts14; rw [List.length_append, List.length_take, List.length_replicate]; omega
theorem wts_get {n i : Nat} {ls : List Int} (hi : i < n) : (wts14 n ls).getD i 0 = if i < ls.length then ls.getD i 0 else 65536 := by
  unfold wts14
  by_cases h : i < ls.length
  · rw [if_pos h, List.getD, List.getD, List.getElem?_append_left (by rw [List.length_take]; omega), List.getElem?_take, if_pos hi]
  · rw [if_neg h, List.getD, List.getElem?_append_right (by rw [List.length_take]; omega), List.getElem?_replicate, if_pos (by rw [List.length_take]; omega)]
    rfl
theorem wts_bd {n : Nat} {ls : List Int} (h : ∀ z ∈ ls, 0 ≤ z ∧ z ≤ 65535) : ∀ z ∈ wts14 n ls, 0 ≤ z ∧ z ≤ 65536 := by
  intro z hz
  unfold wts14 at hz
  rcases List.mem_append.1 hz with hz | hz
  · have := h z (List.mem_of_mem_take hz); omega
  · rw [(List.mem_replicate.1 hz).2]; omega
end Go.Proofs.Yteancdipmpmjpaa
namespace Go.Proofs.Yteancdipmpmjpaa
set_option linter.unusedVariables false
theorem place_bd {W H a b : Int} {n : Nat} (hn : W * H = n) (a0 : 0 ≤ a) (a1 : a < W) (b0 : 0 ≤ b) (b1 : b < H) : 0 ≤ b * W + a ∧ b * W + a < n := by
  have h1 := Int.mul_nonneg b0 (show 0 ≤ W by omega)
  have h2 := Int.mul_le_mul_of_nonneg_right (show b + 1 ≤ H by omega) (show 0 ≤ W by omega)
  rw [Int.add_mul, Int.one_mul, Int.mul_comm H W, hn] at h2
  omega
/-- What a test of four finds. -/
theorem four_not {a b W H : Int} (h : ¬ (0 ≤ a ∧ a < W ∧ 0 ≤ b ∧ b < H)) : ∃ (u1 u2 u3 u4 : Bool), decide (0 ≤ a) = u1 ∧ decide (a < W) = u2 ∧ decide (0 ≤ b) = u3 ∧ decide (b < H) = u4 ∧ (u1 && u2 && u3 && u4) = false := by
  refine ⟨_, _, _, _, rfl, rfl, rfl, rfl, ?_⟩
  rw [Bool.eq_false_iff]
  simp only [ne_eq, Bool.and_eq_true, decide_eq_true_eq]
  omega
end Go.Proofs.Yteancdipmpmjpaa
namespace Go.Proofs.Yteancdipmpmjpaa
set_option linter.unusedVariables false
def rowA (W k : Nat) : Nat := k / W * W + (k % W - 1)
def rowB (W k : Nat) : Nat := k / W * W + min (k % W + 1) (W - 1)
def colA (W k : Nat) : Nat := (k / W - 1) * W + k % W
def colB (W H k : Nat) : Nat := min (k / W + 1) (H - 1) * W + k % W
theorem div_at {W i j : Nat} (hj : j < W) : (i * W + j) / W = i ∧ (i * W + j) % W = j := by
  constructor
  · rw [Nat.mul_comm, Nat.mul_add_div (by omega), Nat.div_eq_of_lt hj, Nat.add_zero]
  · rw [Nat.mul_comm, Nat.mul_add_mod, Nat.mod_eq_of_lt hj]
/-- the places beside one lie within -/
theorem near_lt {W H k : Nat} (hW : 0 < W) (hH : 0 < H) (hk : k < H * W) : rowA W k < H * W ∧ rowB W k < H * W ∧ colA W k < H * W ∧ colB W H k < H * W := by
  have hd : k / W < H := Nat.div_lt_of_lt_mul (by rw [Nat.mul_comm]; exact hk)
  have hm : k % W < W := Nat.mod_lt _ hW
  have key : ∀ i j : Nat, i < H → j < W → i * W + j < H * W := by
    intro i j hi hj
    have := Nat.mul_le_mul_right W (show i + 1 ≤ H by omega)
    rw [Nat.succ_mul] at this; omega
  exact ⟨key _ _ hd (by omega), key _ _ hd (by omega), key _ _ (by omega) hm, key _ _ (by omega) hm⟩
end Go.Proofs.Yteancdipmpmjpaa
namespace Go.Proofs.Yteancdipmpmjpaa
set_option linter.unusedVariables false
def genN (n : Nat) (f : Nat → Nat) : List Nat := (List.range n).map f
theorem genN_len (n : Nat) (f : Nat → Nat) : (genN n f).length = n := by simp [genN]
theorem genN_get {n : Nat} (f : Nat → Nat) {i : Nat} (h : i < n) : (genN n f).getD i 0 = f i := by simp [genN, List.getD, h]
theorem genN_snoc {n : Nat} (f : Nat → Nat) {i : Nat} (h : i < n) : (genN n f).take (i + 1) = (genN n f).take i ++ [f i] := by
  rw [List.take_succ_eq_append_getElem (by rw [genN_len]; exact h)]; simp [genN]
theorem genN_mem {n : Nat} {f : Nat → Nat} {P : Nat → Prop} (h : ∀ i, i < n → P (f i)) : ∀ z ∈ genN n f, P z := by
  intro z hz
  obtain ⟨i, hi, rfl⟩ := List.mem_map.1 hz
  exact h i (List.mem_range.1 hi)
theorem mixN_set {T Z : List Nat} {n k : Nat} (hT : T.length = n) (hZ : Z.length = n) (hk : k < n) : (T.take k ++ Z.drop k).set k (T.getD k 0) = T.take (k + 1) ++ Z.drop (k + 1) := by
  apply List.ext_getElem?
  intro j
  by_cases h : j = k
  · subst h
    rw [List.getElem?_set_self (by rw [List.length_append, List.length_take, List.length_drop]; omega), List.getElem?_append_left (by rw [List.length_take]; omega), List.getElem?_take_of_lt (by omega), List.getD, List.getElem?_eq_getElem (by omega)]
    rfl
  · rw [List.getElem?_set_ne (by omega)]
    by_cases h2 : j < k
    · rw [List.getElem?_append_left (by rw [List.length_take]; omega), List.getElem?_append_left (by rw [List.length_take]; omega), List.getElem?_take_of_lt h2, List.getElem?_take_of_lt (by omega)]
    · rw [List.getElem?_append_right (by rw [List.length_take]; omega), List.getElem?_append_right (by rw [List.length_take]; omega), List.getElem?_drop, List.getElem?_drop]
      congr 1
      rw [List.length_take, List.length_take]; omega
theorem mixN_len {T Z : List Nat} {n k : Nat} (hT : T.length = n) (hZ : Z.length = n) (hk : k ≤ n) : (T.take k ++ Z.drop k).length = n := by
  rw [List.length_append, List.length_take, List.length_drop]; omega
theorem getDN_mem {l : List Nat} {i : Nat} (h : i < l.length) : l.getD i 0 ∈ l := by
  rw [List.getD, List.getElem?_eq_getElem h]; exact List.getElem_mem h
theorem getDN_all {P : Nat → Prop} {zs : List Nat} (h0 : P 0) (h : ∀ z ∈ zs, P z) (k : Nat) : P (zs.getD k 0) := by
  by_cases hk : k < zs.length
  · exact h _ (getDN_mem hk)
  · rw [List.getD, List.getElem?_eq_none (by omega)]; exact h0
/-- A place spread. -/
def sprv17 (q : Nat) (L R : Nat → Nat) (xs : List Nat) (k : Nat) : Nat := xs.getD (L k) 0 * q + xs.getD k 0 * (256 - 2 * q) + xs.getD (R k) 0 * q
def spr17 (n q : Nat) (L R : Nat → Nat) (xs : List Nat) : List Nat := genN n (sprv17 q L R xs)
theorem sprv17_lt {q M : Nat} {L R : Nat → Nat} {xs : List Nat} (hq : q ≤ 85) (h : ∀ x ∈ xs, x < M) (hM : 0 < M) (k : Nat) : sprv17 q L R xs k < 256 * M := by
  have g := getDN_all (P := fun x => x < M) hM h
  have a := Nat.mul_le_mul_right q (show xs.getD (L k) 0 ≤ M - 1 from by have := g (L k); omega)
  have b := Nat.mul_le_mul_right (256 - 2 * q) (show xs.getD k 0 ≤ M - 1 from by have := g k; omega)
  have c := Nat.mul_le_mul_right q (show xs.getD (R k) 0 ≤ M - 1 from by have := g (R k); omega)
  have e : (M - 1) * q + (M - 1) * (256 - 2 * q) + (M - 1) * q = (M - 1) * 256 := by
    rw [← Nat.mul_add, ← Nat.mul_add]; congr 1; omega
  unfold sprv17
  omega
end Go.Proofs.Yteancdipmpmjpaa
namespace Go.Proofs.Yteancdipmpmjpaa
set_option linter.unusedVariables false
theorem split_place {p q k : Nat} (hp : 0 < p) (hk : k < 4 * (p * q)) : k % (2 * p) / 2 < p ∧ k / (2 * p) / 2 < q ∧ k / (2 * p) / 2 * p + k % (2 * p) / 2 < p * q := by
  have h1 := Nat.mod_lt k (show 0 < 2 * p by omega)
  have h2 : k / (2 * p) < 2 * q := (Nat.div_lt_iff_lt_mul (by omega)).2 (by
    rw [show 2 * q * (2 * p) = 4 * (p * q) by rw [Nat.mul_mul_mul_comm, Nat.mul_comm q p]]; exact hk)
  have h3 : k % (2 * p) / 2 < p := by omega
  have h4 : k / (2 * p) / 2 < q := by omega
  refine ⟨h3, h4, ?_⟩
  have h5 := Nat.mul_le_mul_right p (show k / (2 * p) / 2 + 1 ≤ q by omega)
  rw [Nat.succ_mul, Nat.mul_comm q p] at h5
  omega
end Go.Proofs.Yteancdipmpmjpaa
namespace Go.Proofs.Yteancdipmpmjpaa
set_option linter.unusedVariables false
/-- Which place of the joined grid a place goes into: of p columns, m joined ones. -/
def dest14 (p m i : Nat) : Nat := i / p / 2 * m + i % p / 2
/-- The first of its four places. -/
def base14 (p m k : Nat) : Nat := 2 * (k / m) * p + 2 * (k % m)
theorem dest_iff {p m i k : Nat} (hp : p = 2 * m) (hm : 0 < m) : dest14 p m i = k ↔ i / p / 2 = k / m ∧ i % p / 2 = k % m := by
  have hx : i % p / 2 < m := by have := Nat.mod_lt i (show 0 < p by omega); omega
  unfold dest14
  generalize i / p / 2 = y at *
  generalize i % p / 2 = x at *
  constructor
  · rintro rfl
    constructor
    · rw [Nat.mul_comm, Nat.mul_add_div hm, Nat.div_eq_of_lt hx, Nat.add_zero]
    · rw [Nat.mul_comm, Nat.mul_add_mod, Nat.mod_eq_of_lt hx]
  · rintro ⟨rfl, rfl⟩
    have := Nat.div_add_mod k m
    rw [Nat.mul_comm] at this
    exact this
theorem four_iff {p m i k : Nat} (hp : p = 2 * m) (hm : 0 < m) : dest14 p m i = k ↔ (i = base14 p m k ∨ i = base14 p m k + 1 ∨ i = base14 p m k + p ∨ i = base14 p m k + p + 1) := by
  rw [dest_iff hp hm]
  have hk : k % m < m := Nat.mod_lt k hm
  unfold base14
  generalize k / m = Y at *
  generalize k % m = X at *
  have hi := Nat.div_add_mod i p
  have hip := Nat.mod_lt i (show 0 < p by omega)
  have aux : ∀ (y x : Nat), x < p → (p * y + x) / p = y ∧ (p * y + x) % p = x := fun y x hx => ⟨by rw [Nat.mul_add_div (by omega), Nat.div_eq_of_lt hx, Nat.add_zero], by rw [Nat.mul_add_mod, Nat.mod_eq_of_lt hx]⟩
  have e0 : 2 * Y * p = p * (2 * Y) := Nat.mul_comm _ _
  have e1 : p * (2 * Y + 1) = p * (2 * Y) + p := by rw [Nat.mul_add, Nat.mul_one]
  constructor
  · rintro ⟨h1, h2⟩
    generalize i / p = y at *
    generalize i % p = x at *
    rcases (show y = 2 * Y ∨ y = 2 * Y + 1 by omega) with rfl | rfl
    · rcases (show x = 2 * X ∨ x = 2 * X + 1 by omega) with rfl | rfl <;> omega
    · rw [e1] at hi
      rcases (show x = 2 * X ∨ x = 2 * X + 1 by omega) with rfl | rfl <;> omega
  · have f1 := aux (2 * Y) (2 * X) (by omega)
    have f2 := aux (2 * Y) (2 * X + 1) (by omega)
    have f3 := aux (2 * Y + 1) (2 * X) (by omega)
    have f4 := aux (2 * Y + 1) (2 * X + 1) (by omega)
    rw [e1] at f3 f4
    rintro (h | h | h | h)
    · rw [h, e0, f1.1, f1.2]; omega
    · rw [h, e0, show p * (2 * Y) + 2 * X + 1 = p * (2 * Y) + (2 * X + 1) by omega, f2.1, f2.2]; omega
    · rw [h, e0, show p * (2 * Y) + 2 * X + p = p * (2 * Y) + p + 2 * X by omega, f3.1, f3.2]; omega
    · rw [h, e0, show p * (2 * Y) + 2 * X + p + 1 = p * (2 * Y) + p + (2 * X + 1) by omega, f4.1, f4.2]; omega
theorem base_lt {p m q2 k : Nat} (hp : p = 2 * m) (hm : 0 < m) (hk : k < m * q2) : base14 p m k + p + 1 < p * (2 * q2) := by
  have h1 := Nat.mod_lt k hm
  have h2 : k / m < q2 := (Nat.div_lt_iff_lt_mul hm).2 (by rw [Nat.mul_comm]; exact hk)
  unfold base14
  have h3 := Nat.mul_le_mul_left p (show 2 * (k / m) + 2 ≤ 2 * q2 by omega)
  rw [Nat.mul_add] at h3
  have e : 2 * (k / m) * p = p * (2 * (k / m)) := Nat.mul_comm _ _
  omega
theorem dest_lt {p m q2 i : Nat} (hp : p = 2 * m) (hm : 0 < m) (hi : i < p * (2 * q2)) : dest14 p m i < m * q2 := by
  have h1 := Nat.mod_lt i (show 0 < p by omega)
  have h2 : i / p < 2 * q2 := (Nat.div_lt_iff_lt_mul (by omega)).2 (by rw [Nat.mul_comm]; exact hi)
  unfold dest14
  have h3 := Nat.mul_le_mul_right m (show i / p / 2 + 1 ≤ q2 by omega)
  rw [Nat.succ_mul, Nat.mul_comm q2 m] at h3
  omega
end Go.Proofs.Yteancdipmpmjpaa
namespace Go.Proofs.Yteancdipmpmjpaa
set_option linter.unusedVariables false
def pjoinN (p m : Nat) (zs : List Nat) (i k : Nat) : Nat :=
  (if base14 p m k < i then zs.getD (base14 p m k) 0 else 0) + (if base14 p m k + 1 < i then zs.getD (base14 p m k + 1) 0 else 0) + (if base14 p m k + p < i then zs.getD (base14 p m k + p) 0 else 0) + (if base14 p m k + p + 1 < i then zs.getD (base14 p m k + p + 1) 0 else 0)
theorem pjoinN_step {p m i k : Nat} {zs : List Nat} (hp : p = 2 * m) (hm : 0 < m) : pjoinN p m zs (i + 1) k = pjoinN p m zs i k + if dest14 p m i = k then zs.getD i 0 else 0 := by
  have key : ∀ j : Nat, (if j < i + 1 then zs.getD j 0 else 0) = (if j < i then zs.getD j 0 else 0) + (if i = j then zs.getD i 0 else 0) := by
    intro j
    by_cases h1 : i = j
    · subst h1
      rw [if_pos (by omega), if_neg (by omega), if_pos rfl]; try omega
    · by_cases h2 : j < i
      · rw [if_pos (by omega), if_pos h2, if_neg h1]; try omega
      · rw [if_neg (by omega), if_neg h2, if_neg h1]; try omega
  have h4 := four_iff (p := p) (m := m) (i := i) (k := k) hp hm
  unfold pjoinN
  generalize base14 p m k = a at *
  rw [key a, key (a + 1), key (a + p), key (a + p + 1)]
  by_cases h : dest14 p m i = k
  · rw [if_pos h]
    rcases h4.1 h with e | e | e | e
    · rw [if_pos e, if_neg (show ¬ i = a + 1 by omega), if_neg (show ¬ i = a + p by omega), if_neg (show ¬ i = a + p + 1 by omega)]; try omega
    · rw [if_neg (show ¬ i = a by omega), if_pos e, if_neg (show ¬ i = a + p by omega), if_neg (show ¬ i = a + p + 1 by omega)]; try omega
    · rw [if_neg (show ¬ i = a by omega), if_neg (show ¬ i = a + 1 by omega), if_pos e, if_neg (show ¬ i = a + p + 1 by omega)]; try omega
    · rw [if_neg (show ¬ i = a by omega), if_neg (show ¬ i = a + 1 by omega), if_neg (show ¬ i = a + p by omega), if_pos e]; try omega
  · rw [if_neg h]
    have hn : ¬ (i = a ∨ i = a + 1 ∨ i = a + p ∨ i = a + p + 1) := fun e => h (h4.2 e)
    rw [if_neg (fun e => hn (.inl e)), if_neg (fun e => hn (.inr (.inl e))), if_neg (fun e => hn (.inr (.inr (.inl e)))), if_neg (fun e => hn (.inr (.inr (.inr e))))]; try omega
theorem pjoinN_zero {p m k : Nat} {zs : List Nat} : pjoinN p m zs 0 k = 0 := by
  unfold pjoinN
  rw [if_neg (by omega), if_neg (by omega), if_neg (by omega), if_neg (by omega)]
def joinvN (p m : Nat) (zs : List Nat) (k : Nat) : Nat := zs.getD (base14 p m k) 0 + zs.getD (base14 p m k + 1) 0 + zs.getD (base14 p m k + p) 0 + zs.getD (base14 p m k + p + 1) 0
def joinN (p m : Nat) (zs : List Nat) (n4 : Nat) : List Nat := genN n4 (joinvN p m zs)
theorem pjoinN_all {p m q2 k : Nat} {zs : List Nat} (hp : p = 2 * m) (hm : 0 < m) (hk : k < m * q2) : pjoinN p m zs (p * (2 * q2)) k = joinvN p m zs k := by
  have h := base_lt hp hm hk
  unfold pjoinN joinvN
  rw [if_pos (by omega), if_pos (by omega), if_pos (by omega), if_pos (by omega)]
theorem scatterN_step {p m i n4 : Nat} {zs : List Nat} (hp : p = 2 * m) (hm : 0 < m) (hd : dest14 p m i < n4) : (genN n4 (pjoinN p m zs i)).set (dest14 p m i) ((genN n4 (pjoinN p m zs i)).getD (dest14 p m i) 0 + zs.getD i 0) = genN n4 (pjoinN p m zs (i + 1)) := by
  rw [genN_get _ hd]
  apply List.ext_getElem?
  intro k
  by_cases hk : k < n4
  · have e2 : (genN n4 (pjoinN p m zs (i + 1)))[k]? = some (pjoinN p m zs (i + 1) k) := by simp [genN, hk]
    rw [e2, pjoinN_step hp hm]
    by_cases h : dest14 p m i = k
    · subst h
      rw [List.getElem?_set_self (by rw [genN_len]; exact hd), if_pos rfl]
    · rw [List.getElem?_set_ne h, if_neg h]
      simp [genN, hk]
  · rw [List.getElem?_eq_none (by rw [List.length_set, genN_len]; omega), List.getElem?_eq_none (by rw [genN_len]; omega)]
theorem genN_zero {p m n4 : Nat} {zs : List Nat} : genN n4 (pjoinN p m zs 0) = List.replicate n4 0 := by
  apply List.ext_getElem?
  intro k
  by_cases hk : k < n4
  · simp [genN, hk, pjoinN_zero]
  · rw [List.getElem?_eq_none (by rw [genN_len]; omega), List.getElem?_eq_none (by simp; omega)]
theorem genN_join {p m q1 : Nat} {zs : List Nat} (hp : p = 2 * m) (hm : 0 < m) : genN (m * q1) (pjoinN p m zs (p * (2 * q1))) = joinN p m zs (m * q1) := by
  apply List.ext_getElem?
  intro k
  unfold joinN
  by_cases hk : k < m * q1
  · simp [genN, hk, pjoinN_all hp hm hk]
  · rw [List.getElem?_eq_none (by rw [genN_len]; omega), List.getElem?_eq_none (by rw [genN_len]; omega)]
theorem pjoinN_lt {p m i k M : Nat} {zs : List Nat} (hM : 0 < M) (h : ∀ z ∈ zs, z < M) : pjoinN p m zs i k ≤ 4 * (M - 1) := by
  have b : ∀ (P : Prop) [Decidable P] (j : Nat), (if P then zs.getD j 0 else 0) ≤ M - 1 := by
    intro P _ j
    split
    · have := getDN_all (P := fun z => z < M) hM h j
      omega
    · omega
  unfold pjoinN
  have b1 := b (base14 p m k < i) (base14 p m k)
  have b2 := b (base14 p m k + 1 < i) (base14 p m k + 1)
  have b3 := b (base14 p m k + p < i) (base14 p m k + p)
  have b4 := b (base14 p m k + p + 1 < i) (base14 p m k + p + 1)
  omega
end Go.Proofs.Yteancdipmpmjpaa
