/-
  Lemmas and walks of this claim (the texts Kit Big Ci03 of the work; what no proof here uses is left out). No claim of their own.
-/
import Derived.WalkKit
import Derived.Lib.Hide
import Derived.Deep.MidRow
import Derived.Deep.WholeRow
import Derived.Deep.Draws
import Derived.WalkSmall
import Derived.OrdersHeld
set_option linter.all false
set_option linter.unusedSimpArgs false
set_option linter.unusedVariables false
namespace Go.Proofs.Ytpejoaefnnbghaa
open Go.RowKit
variable {P : Program} {w w' : World} {b : Nat} {cs : Array Value} {t : TypeId}

def Has (w : World) (b : Nat) (cs : Array Value) (t : TypeId) : Prop := w.heap[b]? = some (.cells cs t (0, 0))

theorem Has.lt (h : Has w b cs t) : b < w.heap.size := (Array.getElem?_eq_some_iff.1 h).1
theorem Has.new (w : World) (cs : Array Value) (t : TypeId) : Has (w.alloc (.cells cs t)) w.heap.size cs t := heap_alloc_new w _
theorem Has.alloc (h : Has w b cs t) (o : Obj) : Has (w.alloc o) b cs t := (Below.heap_alloc w o b h.lt).trans h
theorem Has.drewN (h : Has w b cs t) (n : Nat) : Has (w.drewN n) b cs t := h
theorem Has.set (h : Has w b cs t) (i : Nat) (v : Value) : Has (w.setCell ⟨b, i, none⟩ v) b (cs.setIfInBounds i v) t := heap_setCell_same w b i cs t v h
theorem Has.keep (h : Has w b cs t) {a : Addr} (hk : b ≠ a.block) (v : Value) : Has (w.setCell a v) b cs t := (heap_setCell_other w a b v hk).trans h
theorem Has.row (h : Has w b cs t) (cs' : Array Value) : Has (w.setRow b cs') b cs' t := setRow_heap w b cs cs' t _ h
theorem Has.rowKeep (h : Has w b cs t) {g : Nat} (hk : b ≠ g) (cs' : Array Value) : Has (w.setRow g cs') b cs t := (setRow_other w g b cs' hk).trans h
theorem Has.below (h : Has w b cs t) (hb : Below w.heap.size w w') : Has w' b cs t := (hb.block b h.lt).trans h
theorem Has.cell (h : Has w b cs t) {i : Nat} {v : Value} (hv : cs[i]? = some v) : w.cell? ⟨b, i, none⟩ = some v := by rw [cell_of_row _ _ _ _ _ _ h]; exact hv
theorem Has.free (h : Has w b cs t) (i : Nat) : w.frozen? ⟨b, i, none⟩ = false := frozen_of_row _ _ i _ _ h

def over (cs : Array Value) : Nat → List Value → Array Value
  | _, [] => cs
  | o, v :: r => over (cs.setIfInBounds o v) (o + 1) r
theorem over_get : ∀ (xs : List Value) (cs : Array Value) (o j : Nat), o + xs.length ≤ cs.size → (over cs o xs)[j]? = if o ≤ j ∧ j < o + xs.length then xs[j - o]? else cs[j]?
  | [], cs, o, j, _ => by rw [over, if_neg (by simp)]
  | v :: r, cs, o, j, h => by
    simp only [List.length_cons] at h ⊢
    rw [over, over_get r _ _ _ (by simp; omega)]
    by_cases h1 : o + 1 ≤ j ∧ j < o + 1 + r.length
    · rw [if_pos h1, if_pos (by omega), show j - o = (j - (o + 1)) + 1 by omega]; rfl
    · rw [if_neg h1, Array.getElem?_setIfInBounds]
      by_cases h2 : o = j
      · subst h2; simp; omega
      · rw [if_neg h2, if_neg (by omega)]
theorem Has.cells : ∀ (xs : List Value) {w : World} {cs : Array Value} (o : Nat), Has w b cs t → Has (w.setCells b o xs) b (over cs o xs) t
  | [], _, _, _, h => h
  | v :: r, _, _, o, h => Has.cells r (o + 1) (h.set o v)
theorem Has.cellsKeep {g : Nat} (hk : b ≠ g) : ∀ (xs : List Value) {w : World} (o : Nat), Has w b cs t → Has (w.setCells g o xs) b cs t
  | [], _, _, h => h
  | v :: r, _, o, h => Has.cellsKeep hk r (o + 1) (h.keep hk v)

theorem below_setRow {B : Nat} {a w : World} (h : Below B a w) {g : Nat} (hg : B ≤ g) (cs : Array Value) : Below B a (w.setRow g cs) :=
  ⟨h.os, h.tape, h.output, by rw [size_setRow]; exact h.size, fun k hk => (setRow_other w g k cs (by omega)).trans (h.block k hk)⟩
theorem below_setCells {B : Nat} {a : World} {g : Nat} (hg : B ≤ g) : ∀ (xs : List Value) {w : World} (o : Nat), Below B a w → Below B a (w.setCells g o xs)
  | [], _, _, h => h
  | v :: r, _, o, h => below_setCells hg r (o + 1) (h.setCell hg v)
theorem size_setCells {g : Nat} : ∀ (xs : List Value) {w : World} (o : Nat), (w.setCells g o xs).heap.size = w.heap.size
  | [], _, _ => rfl
  | v :: r, w, o => by rw [World.setCells, size_setCells r]; simp [World.setCell]
theorem below_step {B : Nat} {a w w' : World} (h : Below B a w) (k : Below w.heap.size w w') (hB : B ≤ w.heap.size) : Below B a w' := h.trans (k.mono hB)

def Ones (cs : Array Value) : Prop := cs.all (·.oneCell') = true

/-! The four laws of whole blocks and of parts of them. -/
section
variable {ops : Array Oper} {rest : List Oper} {o : Oper} {a : Act} {Q : Exit → Act → World → Prop}
theorem wl_wanted (hgd : Region.wanted o (yielded ops a.tmps) = true) (h : ∀ K : Act → World → Prop, (∀ a w, wpList P ops Q rest a w → K a w) → o.wp P a w K Q) : wpList P ops Q (o :: rest) a w :=
  wpList_step fun K hK => by rw [hgd]; exact h K hK
/-! Guards: they do nothing, and fail at once where another operation stands. -/
theorem wl_at_load {dst : Option Tmp} {type : TypeId} {pos : String} {after : Array Edge} {guard : Option (Nat × Bool)} (ty : TypeId) {x : Operand}
    (h : wpList P ops Q (⟨dst, .load ty x, type, pos, after, guard⟩ :: rest) a w) : wpList P ops Q (⟨dst, .load ty x, type, pos, after, guard⟩ :: rest) a w := h
theorem wl_at_store {dst : Option Tmp} {type : TypeId} {pos : String} {after : Array Edge} {guard : Option (Nat × Bool)} (ty : TypeId) {x y : Operand}
    (h : wpList P ops Q (⟨dst, .store ty x y, type, pos, after, guard⟩ :: rest) a w) : wpList P ops Q (⟨dst, .store ty x y, type, pos, after, guard⟩ :: rest) a w := h
theorem wl_at_build {dst : Option Tmp} {type : TypeId} {pos : String} {after : Array Edge} {guard : Option (Nat × Bool)} (ty : TypeId) {l : Array (Nat × Operand)}
    (h : wpList P ops Q (⟨dst, .build ty l, type, pos, after, guard⟩ :: rest) a w) : wpList P ops Q (⟨dst, .build ty l, type, pos, after, guard⟩ :: rest) a w := h
theorem wl_load (hgd : Region.wanted o (yielded ops a.tmps) = true) (ty : TypeId) (x : Operand) (ho : o.op = .load ty x) (g : Nat) (hx : a.eval x = .pointer (some ⟨g, 0, none⟩)) {t : TypeId} {cs : Array Value} {d : TypeDesc}
    (hg : Has w g cs t) (hu : P.underlying ty = some d) (hd : (match d with | .struct _ | .array _ _ => true | _ => false) = true) {n : Nat} (hi : (P.info? ty).map (·.size) = some n) (hn : cs.size = n)
    (h : wpList P ops Q rest (a.put o.dst (.agg cs)) w) : wpList P ops Q (o :: rest) a w :=
  wl_wanted hgd fun _ hK => wp_load_row ty x ho g hx t cs (0, 0) d hg hu hd (by rw [hn]; exact hi) (hK _ _ h)
theorem wl_store (hgd : Region.wanted o (yielded ops a.tmps) = true) (ty : TypeId) (x y : Operand) (ho : o.op = .store ty x y) (g : Nat) (cells : Array Value) (hx : a.eval x = .pointer (some ⟨g, 0, none⟩)) (hy : a.eval y = .agg cells)
    {t : TypeId} {old : Array Value} (hg : Has w g old t) {n : Nat} (hi : (P.info? ty).map (·.size) = some n) (hn : cells.size = n) (hold : old.size = n) (h1 : Ones cells)
    (hdst : o.dst = none) (h : wpList P ops Q rest a (w.setRow g cells)) : wpList P ops Q (o :: rest) a w :=
  wl_wanted hgd fun _ hK => wp_store_row ty x y ho g cells hx hy t old hg (by rw [hn]; exact hi) (by omega) h1 (by rw [hdst]; exact hK _ _ h)
theorem wl_store_new (hgd : Region.wanted o (yielded ops a.tmps) = true) (ty : TypeId) (x y : Operand) (ho : o.op = .store ty x y) {t : TypeId} {old : Array Value} (g : Nat) (cells : Array Value) (hx : a.eval x = .pointer (some ⟨g, 0, none⟩)) (hy : a.eval y = .agg cells)
    (hg : g = w.heap.size) {n : Nat} (hi : (P.info? ty).map (·.size) = some n) (hn : cells.size = n) (hold : old.size = n) (h1 : Ones cells)
    (hdst : o.dst = none) (h : wpList P ops Q rest a (w.alloc (.cells cells t))) : wpList P ops Q (o :: rest) a (w.alloc (.cells old t)) := by
  subst hg
  exact wl_store hgd ty x y ho w.heap.size cells hx hy (Has.new w old t) hi hn hold h1 hdst (by rw [World.setRow_alloc_new]; exact h)
theorem wl_loadPart (hgd : Region.wanted o (yielded ops a.tmps) = true) (ty : TypeId) (x : Operand) (ho : o.op = .load ty x) (g off : Nat) (hx : a.eval x = .pointer (some ⟨g, off, none⟩)) {t : TypeId} {cs : Array Value} {d : TypeDesc}
    (hg : Has w g cs t) (part : Array Value) (hpart : ∀ j v, part[j]? = some v → cs[off + j]? = some v) (hu : P.underlying ty = some d) (hd : d.isRow = true) {n : Nat} (hi : (P.info? ty).map (·.size) = some n) (hn : part.size = n)
    (h : wpList P ops Q rest (a.put o.dst (.agg part)) w) : wpList P ops Q (o :: rest) a w :=
  wl_wanted hgd fun _ hK => wp_load_mid ty x ho g off hx part.toList d (fun j v hv => hg.cell (hpart j v (by simpa using hv))) hu hd (by rw [Array.length_toList, hn]; exact hi) (by simpa using hK _ _ h)
theorem wl_storePart (hgd : Region.wanted o (yielded ops a.tmps) = true) (ty : TypeId) (x y : Operand) (ho : o.op = .store ty x y) (g off : Nat) (cells : Array Value) (hx : a.eval x = .pointer (some ⟨g, off, none⟩)) (hy : a.eval y = .agg cells)
    {t : TypeId} {old : Array Value} (hg : Has w g old t) {n : Nat} (hi : (P.info? ty).map (·.size) = some n) (hn : cells.size = n) (hold : off + n ≤ old.size) (h1 : Ones cells)
    (hdst : o.dst = none) (h : wpList P ops Q rest a (w.setCells g off cells.toList)) : wpList P ops Q (o :: rest) a w :=
  wl_wanted hgd fun _ hK => wp_store_mid ty x y ho g off cells hx hy (fun j hj => ⟨by rw [hg.cell (Array.getElem?_eq_getElem (i := off + j) (by omega))]; rfl, hg.free _⟩) (by rw [hn]; exact hi) h1 (by rw [hdst]; exact hK _ _ h)
theorem wl_build (hg : Region.wanted o (yielded ops a.tmps) = true) (t : TypeId) (parts : Array (Nat × Operand)) (ho : o.op = .build t parts) {cs : Array Value} {l : List (Nat × Value)} (hl : parts.toList.map (fun p => (p.1, a.eval p.2)) = l)
    (hf : P.built t l = some cs)
    (h : wpList P ops Q rest (a.put o.dst (.agg cs)) w) : wpList P ops Q (o :: rest) a w := by
  have e : (parts.map fun (i, x) => (i, a.eval x)).toList = l := by rw [← hl, Array.toList_map]
  exact wl_wanted hg fun _ hK => wp_build t parts ho (by rw [e, hf]; rfl) (by rw [e, hf]; exact hK _ _ h)
end

/-! A region that draws its order, under a condition 'S' on the world: what may be taken first, and one operation that alone comes up. -/
section
variable {ops : Array Oper} {Q : Exit → Act → World → Prop} {md : Region.Mode} {S : World → Prop} {fuel : Nat} {listed : Array Bool} {a : Act} {oi : Oper}
end

theorem results_has {fn : Func} {p : Tmp} {ty : TypeId} (h : fn.results = #[.cell p ty]) (tmps : Array Value) {g : Nat} {d : TypeDesc} (hp : tmps.getD p undef = .pointer (some ⟨g, 0, none⟩)) (hg : Has w g cs t)
    (hu : P.underlying ty = some d) (hd : (match d with | .struct _ | .array _ _ => true | _ => false) = true) {n : Nat} (hi : (P.info? ty).map (·.size) = some n) (hn : cs.size = n) :
    (results fn tmps).run P w = .ok (.agg cs) w :=
  results_cell_row h tmps w g t cs (0, 0) d hp hg hu hd (by rw [hn]; exact hi)
theorem results_has2 {fn : Func} {p q : Tmp} {ty : TypeId} (h : fn.results = #[.cell p ty, .tmp q]) (tmps : Array Value) {g : Nat} {d : TypeDesc} (hp : tmps.getD p undef = .pointer (some ⟨g, 0, none⟩)) (hg : Has w g cs t)
    (hu : P.underlying ty = some d) (hd : (match d with | .struct _ | .array _ _ => true | _ => false) = true) {n : Nat} (hi : (P.info? ty).map (·.size) = some n) (hn : cs.size = n) :
    (results fn tmps).run P w = .ok (.tuple #[.agg cs, tmps.getD q undef]) w := by
  have hp' : tmps[p]?.getD undef = .pointer (some ⟨g, 0, none⟩) := by simpa using hp
  simp [results, h, hp', asAddr, run_loadVar_row w g t ty cs (0, 0) d hg hu hd (by rw [hn]; exact hi)]
end Go.Proofs.Ytpejoaefnnbghaa
namespace Go.Proofs.Ytpejoaefnnbghaa
open Go.RowKit

def top : Nat := 2 ^ 129
def bit (a i : Nat) : Int := ((a / 2 ^ i % 2 : Nat) : Int)
def bitsL (a : Nat) : List Value := (List.range 129).map fun i => .int .i64 (bit a i)
def bitsA (a : Nat) : Array Value := (bitsL a).toArray
def numA (m : Bool) (a : Nat) : Array Value := (Value.bool m :: bitsL a).toArray
def numI (z : Int) : Array Value := numA (decide (z < 0)) z.natAbs

theorem bitsA_size (a : Nat) : (bitsA a).size = 129 := by simp [bitsA, bitsL]
theorem numA_size (m : Bool) (a : Nat) : (numA m a).size = 130 := by simp [numA, bitsL]
theorem numI_size (z : Int) : (numI z).size = 130 := numA_size _ _
theorem bitsL_get (a i : Nat) (h : i < 129) : (bitsL a)[i]? = some (.int .i64 (bit a i)) := by simp [bitsL, h]
theorem bitsA_get (a i : Nat) (h : i < 129) : (bitsA a)[i]? = some (.int .i64 (bit a i)) := by simp [bitsA, bitsL, h]
theorem numA_sign (m : Bool) (a : Nat) : (numA m a)[0]? = some (.bool m) := by simp [numA]
theorem numA_get (m : Bool) (a i : Nat) (h : i < 129) : (numA m a)[1 + i]? = some (.int .i64 (bit a i)) := by
  rw [Nat.add_comm]; simp [numA, bitsL, h]
theorem numA_part (m : Bool) (a : Nat) : ∀ j v, (bitsA a)[j]? = some v → (numA m a)[1 + j]? = some v := fun j v h => by
  rw [Nat.add_comm]; simpa [numA, bitsA] using h
theorem bitsA_ones (a : Nat) : (bitsA a).all (·.oneCell') = true := by
  apply Array.all_eq_true_iff_forall_mem.2
  intro v hv
  simp [bitsA, bitsL] at hv
  obtain ⟨i, _, rfl⟩ := hv
  rfl
theorem numA_ones (m : Bool) (a : Nat) : (numA m a).all (·.oneCell') = true := by
  apply Array.all_eq_true_iff_forall_mem.2
  intro v hv
  simp [numA, bitsL] at hv
  rcases hv with rfl | ⟨i, _, rfl⟩ <;> rfl

theorem bit_bd (a i : Nat) : 0 ≤ bit a i ∧ bit a i ≤ 1 := by unfold bit; omega
theorem bit_test (a i : Nat) : bit a i = if a.testBit i then 1 else 0 := by
  unfold bit; rw [Nat.testBit_eq_decide_div_mod_eq]
  have := Nat.mod_two_eq_zero_or_one (a / 2 ^ i)
  rcases this with h | h <;> rw [h] <;> simp
theorem bit_mod (n k i : Nat) : bit (n % 2 ^ k) i = if i < k then bit n i else 0 := by
  rw [bit_test, bit_test, Nat.testBit_mod_two_pow]
  by_cases h : i < k <;> simp [h]
theorem bit_big (n i : Nat) (h : n < 2 ^ i) : bit n i = 0 := by unfold bit; rw [Nat.div_eq_of_lt h]; rfl

theorem bitsA_set {a a' k : Nat} {v : Int} (hv : bit a' k = v) (ho : ∀ i, i ≠ k → bit a' i = bit a i) (hk : k < 129) : (bitsA a).setIfInBounds k (.int .i64 v) = bitsA a' := by
  apply Array.ext_getElem?
  intro j
  rw [Array.getElem?_setIfInBounds]
  by_cases hj : j < 129
  · rw [bitsA_get _ _ hj, bitsA_get _ _ hj, bitsA_size]
    by_cases h : k = j
    · subst h; rw [if_pos rfl, if_pos hk, hv]
    · rw [if_neg h, ho j (fun e => h e.symm)]
  · rw [if_neg (by omega), Array.getElem?_eq_none (by rw [bitsA_size]; omega), Array.getElem?_eq_none (by rw [bitsA_size]; omega)]
theorem numA_set {m : Bool} {a a' k : Nat} {v : Int} (hv : bit a' k = v) (ho : ∀ i, i ≠ k → bit a' i = bit a i) (hk : k < 129) : (numA m a).setIfInBounds (1 + k) (.int .i64 v) = numA m a' := by
  apply Array.ext_getElem?
  intro j
  rw [Array.getElem?_setIfInBounds, numA_size]
  rcases j with _ | j
  · rw [if_neg (by omega), numA_sign, numA_sign]
  · rw [Nat.add_comm j 1]
    by_cases hj : j < 129
    · rw [numA_get _ _ _ hj, numA_get _ _ _ hj]
      by_cases h : k = j
      · subst h; rw [if_pos rfl, if_pos (by omega), hv]
      · rw [if_neg (by omega), ho j (fun e => h e.symm)]
    · rw [if_neg (by omega), Array.getElem?_eq_none (by rw [numA_size]; omega), Array.getElem?_eq_none (by rw [numA_size]; omega)]
theorem numA_setSign (m m' : Bool) (a : Nat) : (numA m a).setIfInBounds 0 (.bool m') = numA m' a := by simp [numA]

/-! ### The sum -/
def car (a b k : Nat) : Nat := (a % 2 ^ k + b % 2 ^ k) / 2 ^ k
theorem car_zero (a b : Nat) : car a b 0 = 0 := by simp [car, Nat.mod_one]
theorem car_le (a b k : Nat) : car a b k ≤ 1 := by
  unfold car
  have h1 := Nat.mod_lt a (Nat.two_pow_pos k)
  have h2 := Nat.mod_lt b (Nat.two_pow_pos k)
  have : (a % 2 ^ k + b % 2 ^ k) / 2 ^ k < 2 := by rw [Nat.div_lt_iff_lt_mul (Nat.two_pow_pos k)]; omega
  omega
theorem car_div (a b k : Nat) : (a + b) / 2 ^ k = a / 2 ^ k + b / 2 ^ k + car a b k := by
  unfold car
  have h1 := Nat.div_add_mod a (2 ^ k)
  have h2 := Nat.div_add_mod b (2 ^ k)
  have e : a + b = (a % 2 ^ k + b % 2 ^ k) + 2 ^ k * (a / 2 ^ k + b / 2 ^ k) := by rw [Nat.mul_add]; omega
  rw [e, Nat.add_mul_div_left _ _ (Nat.two_pow_pos k)]; omega
theorem car_bit (a b k : Nat) : (bit a k + bit b k + car a b k) % 2 = bit (a + b) k := by
  unfold bit; have := car_div a b k; omega
theorem car_succ (a b k : Nat) : (bit a k + bit b k + car a b k) / 2 = car a b (k + 1) := by
  have h1 := car_div a b k
  have h2 := car_div a b (k + 1)
  rw [Nat.pow_succ, ← Nat.div_div_eq_div_mul, ← Nat.div_div_eq_div_mul, ← Nat.div_div_eq_div_mul] at h2
  unfold bit; omega
theorem bits_next (n k : Nat) : ∀ i, i ≠ k → bit (n % 2 ^ (k + 1)) i = bit (n % 2 ^ k) i := fun i hi => by
  rw [bit_mod, bit_mod]
  by_cases h : i < k
  · rw [if_pos h, if_pos (by omega)]
  · rw [if_neg h, if_neg (by omega)]
theorem bits_at (n k : Nat) : bit (n % 2 ^ (k + 1)) k = bit n k := by rw [bit_mod, if_pos (by omega)]
theorem bitsA_step (n k : Nat) (hk : k < 129) : (bitsA (n % 2 ^ k)).setIfInBounds k (.int .i64 (bit n k)) = bitsA (n % 2 ^ (k + 1)) := bitsA_set (bits_at n k) (bits_next n k) hk
theorem numA_step (m : Bool) (n k : Nat) (hk : k < 129) : (numA m (n % 2 ^ k)).setIfInBounds (1 + k) (.int .i64 (bit n k)) = numA m (n % 2 ^ (k + 1)) := numA_set (bits_at n k) (bits_next n k) hk
theorem mod_skip (n k : Nat) (h : bit n k = 0) : n % 2 ^ (k + 1) = n % 2 ^ k := by
  rw [Nat.pow_succ, Nat.mod_mul]
  have : n / 2 ^ k % 2 = 0 := by unfold bit at h; omega
  rw [this]; omega

/-! ### The difference of a magnitude and another one that is no greater -/
def bor (a b k : Nat) : Nat := if a % 2 ^ k < b % 2 ^ k then 1 else 0
theorem bor_zero (a b : Nat) : bor a b 0 = 0 := by simp [bor, Nat.mod_one]
theorem bor_le (a b k : Nat) : bor a b k ≤ 1 := by unfold bor; split <;> omega
theorem bor_div (a b k : Nat) (h : b ≤ a) : (a - b) / 2 ^ k + b / 2 ^ k + bor a b k = a / 2 ^ k := by
  have hp := Nat.two_pow_pos k
  have h1 := Nat.div_add_mod a (2 ^ k)
  have h2 := Nat.div_add_mod b (2 ^ k)
  have m1 := Nat.mod_lt a hp
  have m2 := Nat.mod_lt b hp
  generalize ea : a / 2 ^ k = qa at *
  generalize eb : b / 2 ^ k = qb at *
  generalize ra : a % 2 ^ k = sa at *
  generalize rb : b % 2 ^ k = sb at *
  have hq : qb ≤ qa := by rw [← ea, ← eb]; exact Nat.div_le_div_right h
  unfold bor
  rw [ra, rb]
  generalize 2 ^ k = p at *
  obtain ⟨d, rfl⟩ : ∃ d, qa = qb + d := ⟨qa - qb, by omega⟩
  rw [Nat.mul_add] at h1
  split
  · rename_i hlt
    have hd : 1 ≤ d := by
      rcases Nat.eq_zero_or_pos d with rfl | hd
      · omega
      · exact hd
    obtain ⟨e, rfl⟩ : ∃ e, d = e + 1 := ⟨d - 1, by omega⟩
    rw [Nat.mul_add, Nat.mul_one] at h1
    have : a - b = p * e + (p + sa - sb) := by omega
    rw [this, Nat.mul_add_div hp, Nat.div_eq_of_lt (by omega : p + sa - sb < p)]; omega
  · have : a - b = p * d + (sa - sb) := by omega
    rw [this, Nat.mul_add_div hp, Nat.div_eq_of_lt (by omega : sa - sb < p)]; omega
theorem bor_bit (a b k : Nat) (h : b ≤ a) : bit (a - b) k = if bit a k - bit b k - bor a b k < 0 then bit a k - bit b k - bor a b k + 2 else bit a k - bit b k - bor a b k := by
  have h1 := bor_div a b k h
  have := bor_le a b k
  unfold bit
  split <;> omega
theorem bor_succ (a b k : Nat) (h : b ≤ a) : bor a b (k + 1) = if bit a k - bit b k - bor a b k < 0 then 1 else 0 := by
  have h1 := bor_div a b k h
  have h2 := bor_div a b (k + 1) h
  rw [Nat.pow_succ, ← Nat.div_div_eq_div_mul, ← Nat.div_div_eq_div_mul, ← Nat.div_div_eq_div_mul] at h2
  have := bor_le a b (k + 1)
  unfold bit
  split <;> omega

/-! ### The order -/
theorem div_lt_of {a b k : Nat} (h : a / 2 ^ k < b / 2 ^ k) : a < b := by
  rcases Nat.lt_or_ge a b with h' | h'
  · exact h'
  · exact absurd (Nat.div_le_div_right (c := 2 ^ k) h') (by omega)
theorem div_eq_succ {a b k : Nat} (h : a / 2 ^ (k + 1) = b / 2 ^ (k + 1)) (hb : bit a k = bit b k) : a / 2 ^ k = b / 2 ^ k := by
  rw [Nat.pow_succ, ← Nat.div_div_eq_div_mul, ← Nat.div_div_eq_div_mul] at h
  unfold bit at hb; omega
theorem lt_of_bit {a b k : Nat} (h : a / 2 ^ (k + 1) = b / 2 ^ (k + 1)) (hb : bit a k ≠ bit b k) : (decide (bit a k < bit b k)) = decide (a < b) := by
  rw [Nat.pow_succ, ← Nat.div_div_eq_div_mul, ← Nat.div_div_eq_div_mul] at h
  have hba := bit_bd a k
  have hbb := bit_bd b k
  have d1 : bit a k = ((a / 2 ^ k % 2 : Nat) : Int) := rfl
  have d2 : bit b k = ((b / 2 ^ k % 2 : Nat) : Int) := rfl
  by_cases hlt : bit a k < bit b k
  · rw [decide_eq_true hlt, decide_eq_true (div_lt_of (k := k) (by omega))]
  · have : b < a := div_lt_of (k := k) (by omega)
    rw [decide_eq_false hlt, decide_eq_false (by omega)]
theorem zero_of_bits {n : Nat} (h : n < 2 ^ 129) (hb : ∀ i, i < 129 → bit n i = 0) : n = 0 := by
  apply Nat.eq_of_testBit_eq
  intro i
  rw [Nat.zero_testBit]
  by_cases hi : i < 129
  · have := hb i hi
    rw [bit_test] at this
    by_cases ht : n.testBit i
    · simp [ht] at this
    · simpa using ht
  · exact Nat.testBit_lt_two_pow (Nat.lt_of_lt_of_le h (Nat.pow_le_pow_right (by omega) (by omega)))
theorem bits_inj {a b : Nat} (ha : a < 2 ^ 129) (hb : b < 2 ^ 129) (h : bitsL a = bitsL b) : a = b := by
  apply Nat.eq_of_testBit_eq
  intro i
  by_cases hi : i < 129
  · have e := bitsL_get a i hi
    rw [h, bitsL_get b i hi] at e
    simp only [Option.some.injEq, Value.int.injEq, true_and] at e
    rw [bit_test, bit_test] at e
    cases h1 : a.testBit i <;> cases h2 : b.testBit i <;> simp [h1, h2] at e <;> rfl
  · rw [Nat.testBit_lt_two_pow (Nat.lt_of_lt_of_le ha (Nat.pow_le_pow_right (by omega) (by omega))), Nat.testBit_lt_two_pow (Nat.lt_of_lt_of_le hb (Nat.pow_le_pow_right (by omega) (by omega)))]

/-! ### The bits of a whole number, by halves cut towards nought -/
theorem halves_natAbs (x : Int) (k : Nat) : (x.tdiv (2 ^ k)).natAbs = x.natAbs / 2 ^ k := by
  rw [Int.natAbs_tdiv, Int.natAbs_pow]; rfl
theorem halves_succ (x : Int) (k : Nat) : (x.tdiv (2 ^ k)).tdiv 2 = x.tdiv (2 ^ (k + 1)) := by
  have hp : ∀ n : Nat, (0 : Int) ≤ 2 ^ n := fun n => Int.le_of_lt (Int.pow_pos (by omega))
  have key : ∀ m : Nat, ((m : Int).tdiv (2 ^ k)).tdiv 2 = (m : Int).tdiv (2 ^ (k + 1)) := fun m => by
    have hm : (0 : Int) ≤ m := by omega
    rw [Int.tdiv_eq_ediv_of_nonneg (a := (m : Int)) (b := 2 ^ k) hm, Int.tdiv_eq_ediv_of_nonneg (Int.ediv_nonneg hm (hp k)), Int.tdiv_eq_ediv_of_nonneg (a := (m : Int)) (b := 2 ^ (k + 1)) hm, Int.ediv_ediv_of_nonneg (hp k), Int.pow_succ]
  rcases Int.lt_or_le x 0 with hx | hx
  · rw [show x = -(x.natAbs : Int) by omega, Int.neg_tdiv, Int.neg_tdiv, Int.neg_tdiv, key]
  · rw [show x = (x.natAbs : Int) by omega, key]
theorem halves_odd (x : Int) (k : Nat) : ((x.tdiv (2 ^ k)).tmod 2 != 0) = decide (bit x.natAbs k = 1) := by
  have h := halves_natAbs x k
  generalize x.tdiv (2 ^ k) = q at *
  have e : (q.tmod 2).natAbs = q.natAbs % 2 := by rw [Int.natAbs_tmod]; rfl
  unfold bit
  rw [← h]
  by_cases hb : q.natAbs % 2 = 1
  · have : q.tmod 2 ≠ 0 := by omega
    simp [hb, this]
  · have h0 : q.tmod 2 = 0 := by omega
    have hb' : q.natAbs % 2 = 0 := by omega
    rw [h0, hb']; rfl
theorem halves_bd (x : Int) (k : Nat) (h0 : -9223372036854775808 ≤ x) (h1 : x ≤ 9223372036854775807) : -9223372036854775808 ≤ x.tdiv (2 ^ k) ∧ x.tdiv (2 ^ k) ≤ 9223372036854775807 := by
  have h := halves_natAbs x k
  have : x.natAbs / 2 ^ k ≤ x.natAbs := Nat.div_le_self _ _
  rcases Int.lt_or_le x 0 with hx | hx
  · have hs : x.tdiv (2 ^ k) ≤ 0 := by
      rw [show x = -(x.natAbs : Int) by omega, Int.neg_tdiv, Int.tdiv_eq_ediv_of_nonneg (by omega)]
      have : 0 ≤ (x.natAbs : Int) / 2 ^ k := Int.ediv_nonneg (by omega) (Int.le_of_lt (Int.pow_pos (by omega)))
      omega
    omega
  · have hs : 0 ≤ x.tdiv (2 ^ k) := Int.tdiv_nonneg hx (Int.le_of_lt (Int.pow_pos (by omega)))
    omega
theorem halves_none (x : Int) (k : Nat) (h : x.tdiv (2 ^ k) = 0) : x.natAbs % 2 ^ k = x.natAbs := by
  have e := halves_natAbs x k
  rw [h] at e
  have : x.natAbs < 2 ^ k := by
    rcases Nat.lt_or_ge x.natAbs (2 ^ k) with hlt | hge
    · exact hlt
    · have := Nat.div_pos hge (Nat.two_pow_pos k)
      simp at e; omega
  exact Nat.mod_eq_of_lt this
theorem halves_all (x : Int) (h0 : -9223372036854775808 ≤ x) (h1 : x ≤ 9223372036854775807) : x.natAbs % 2 ^ 65 = x.natAbs := Nat.mod_eq_of_lt (by omega)
theorem bit_odd {n k : Nat} (h : bit n k = 1) (m : Bool) (hk : k < 129) : (numA m (n % 2 ^ k)).setIfInBounds (1 + k) (.int .i64 1) = numA m (n % 2 ^ (k + 1)) := by rw [← h]; exact numA_step m n k hk
theorem numA_over (m : Bool) (a a' : Nat) : over (numA m a) 1 (bitsA a').toList = numA m a' := by
  apply Array.ext_getElem?
  intro j
  rw [over_get _ _ _ _ (by rw [numA_size, Array.length_toList, bitsA_size]; omega), Array.length_toList, bitsA_size]
  rcases j with _ | j
  · rw [if_neg (by omega), numA_sign, numA_sign]
  · by_cases hj : j < 129
    · rw [if_pos (by omega), Nat.add_comm j 1, numA_get _ _ _ hj, show 1 + j - 1 = j by omega, Array.getElem?_toList, bitsA_get _ _ hj]
    · rw [if_neg (by omega), Array.getElem?_eq_none (by rw [numA_size]; omega), Array.getElem?_eq_none (by rw [numA_size]; omega)]

/-! ### The product, by the bits of the one number -/
theorem mul_step (a b k : Nat) : (a * (b % 2 ^ k) % top + a * 2 ^ k % top) % top = a * (b % 2 ^ k + 2 ^ k) % top := by
  rw [← Nat.add_mod, Nat.mul_add]
theorem mul_twice (a k : Nat) : (a * 2 ^ k % top + a * 2 ^ k % top) % top = a * 2 ^ (k + 1) % top := by
  rw [← Nat.add_mod, show a * 2 ^ (k + 1) = a * 2 ^ k + a * 2 ^ k by rw [Nat.pow_succ 2 k, ← Nat.mul_assoc, Nat.mul_two]]
theorem mod_take (n k : Nat) (h : bit n k = 1) : n % 2 ^ (k + 1) = n % 2 ^ k + 2 ^ k := by
  rw [Nat.pow_succ, Nat.mod_mul]
  have : n / 2 ^ k % 2 = 1 := by unfold bit at h; omega
  rw [this]; omega
theorem mul_all (x y : Int) (hx : x.natAbs ≤ 9223372036854775808) (hy : y.natAbs ≤ 9223372036854775808) : x.natAbs * (y.natAbs % 2 ^ 65) % top = (x * y).natAbs := by
  rw [Nat.mod_eq_of_lt (show y.natAbs < 2 ^ 65 by omega), Int.natAbs_mul]
  have : x.natAbs * y.natAbs ≤ 9223372036854775808 * 9223372036854775808 := Nat.mul_le_mul hx hy
  exact Nat.mod_eq_of_lt (by unfold top; omega)
theorem mul_sign (x y : Int) : ((decide (x < 0) != decide (y < 0)) && !decide ((x * y).natAbs = 0)) = decide (x * y < 0) := by
  rcases Int.lt_trichotomy x 0 with hx | hx | hx
  · rcases Int.lt_trichotomy y 0 with hy | hy | hy
    · have := Int.mul_pos_of_neg_of_neg hx hy
      simp [hx, hy, Int.not_lt.2 (Int.le_of_lt this)]
    · simp [hy]
    · have := Int.mul_neg_of_neg_of_pos hx hy
      simp [hx, Int.not_lt.2 (Int.le_of_lt hy), this]; omega
  · simp [hx]
  · rcases Int.lt_trichotomy y 0 with hy | hy | hy
    · have := Int.mul_neg_of_pos_of_neg hx hy
      simp [hy, Int.not_lt.2 (Int.le_of_lt hx), this]; omega
    · simp [hy]
    · have := Int.mul_pos hx hy
      simp [Int.not_lt.2 (Int.le_of_lt hx), Int.not_lt.2 (Int.le_of_lt hy), Int.not_lt.2 (Int.le_of_lt this)]
theorem div_all {n k : Nat} (h : n / 2 ^ k = 0) : n < 2 ^ k := by
  rcases Nat.lt_or_ge n (2 ^ k) with hlt | hge
  · exact hlt
  · have := Nat.div_pos hge (Nat.two_pow_pos k); omega
end Go.Proofs.Ytpejoaefnnbghaa
namespace Go.Proofs.Ytpejoaefnnbghaa
def cmpI (x y : Int) : Int := if x < y then -1 else if x = y then 0 else 1
end Go.Proofs.Ytpejoaefnnbghaa
