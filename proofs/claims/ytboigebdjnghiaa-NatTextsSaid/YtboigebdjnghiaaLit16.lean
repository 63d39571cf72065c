/-
  nat's calls at numbers that are told; a slice of two made at once.
-/
import Derived.Test.YtboigebdjnghiaaWk16
import Derived.Test.YtboigebdjnghiaaTree
import Derived.Deep.Cut
namespace Go.Proofs.Ytboigebdjnghiaa
open Go.RowKit
set_option linter.unusedVariables false
set_option exponentiation.threshold 2000
theorem dec_of {N : Nat} (l : List Nat) (h1 : ∀ x ∈ l, x < 10) (h2 : ∀ h : l ≠ [], l.getLast h ≠ 0) (h3 : l ≠ []) (hv : val 10 l = N) : decS N = strOf (l.reverse.map (48 + ·)) := by
  subst hv
  have hd := digs_val (by omega) l h1 h2
  unfold decS
  rw [if_neg (fun e => h3 (by rw [← hd, e, digs_zero])), hd]
theorem Nt.le3 {w : World} {A : Option Addr} {n c X : Nat} (h : Nt w A n c X) (hX : X ≤ 79228162514264337593543950335) : n ≤ 1000 := Nat.le_trans (Go.Proofs.Ytboigebdjnghiaa.len_le (k := 3) _ (by omega) h.len) (by omega)
theorem Text_lit {A : Option Addr} {n c : Nat} (X : Nat) {s : ByteArray} {w : World} (h : Nt w A n c X) (hX : X ≤ 79228162514264337593543950335) (hs : decS X = s) :
    Calls Try.prog 31 #[.agg #[.slice A n c]] w fun e w' => e = .returned (.string s) ∧ Below w.heap.size w w' := by
  subst hs; exact Text_nat _ _ _ _ w h (h.le3 hX)
theorem Cmp_lit {A A2 : Option Addr} {n c m d X Y : Nat} {r : Int} {w : World} (h : Nt w A n c X) (h2 : Nt w A2 m d Y) (hX : X ≤ 79228162514264337593543950335) (hY : Y ≤ 79228162514264337593543950335) (hs : cmpI X Y = r) :
    Calls Try.prog 17 #[.agg #[.slice A n c], .agg #[.slice A2 m d]] w fun e w' => e = .returned (.int .i64 r) ∧ Below w.heap.size w w' := by
  subst hs; exact Cmp_nat _ _ _ _ _ _ _ _ w h h2 (Nat.le_trans (h.le3 hX) (by omega)) (Nat.le_trans (h2.le3 hY) (by omega))
theorem Bits_lit {A : Option Addr} {n c X : Nat} {r : Int} {w : World} (h : Nt w A n c X) (hX : X ≤ 79228162514264337593543950335) (hs : (blen X : Int) = r) :
    Calls Try.prog 28 #[.agg #[.slice A n c]] w fun e w' => e = .returned (.int .i64 r) ∧ Below w.heap.size w w' := by
  subst hs; exact Bits_nat _ _ _ _ w h (Nat.le_trans (h.le3 hX) (by omega))
theorem Uint_lit {A : Option Addr} {n c X : Nat} {r : Int} {t : Bool} {w : World} (h : Nt w A n c X) (hr : ((X % 18446744073709551616 : Nat) : Int) = r) (ht : decide (X < 18446744073709551616) = t) :
    Calls Try.prog 30 #[.agg #[.slice A n c]] w fun e w' => e = .returned (.tuple #[.int .u64 r, .bool t]) ∧ Below w.heap.size w w' := by
  subst hr; subst ht; exact Uint_any _ _ _ _ w h
theorem Zero_lit {A : Option Addr} {n c X : Nat} {t : Bool} {w : World} (h : Nt w A n c X) (ht : decide (X = 0) = t) :
    Calls Try.prog 20 #[.agg #[.slice A n c]] w fun e w' => e = .returned (.bool t) ∧ Below w.heap.size w w' := by
  subst ht; exact Zero_any _ _ _ _ w h
/-- A value of one cell. -/
def Cell1 (v v1 : Value) : Prop := v.cells = #[v1]
theorem Cell1.agg {A : Option Addr} {n c : Nat} : Cell1 (.agg #[.slice A n c]) (.slice A n c) := by simp [Cell1, Value.cells]
theorem Cell1.int {k : IntKind} {n : Int} : Cell1 (.int k n) (.int k n) := by simp [Cell1, Value.cells]
section
variable {P : Program} {B : Nat} {w0 w w' : World} {L L' L0 : List Blk} {F : World → Prop} {ops : Array Oper} {rest : List Oper} {o : Oper} {a : Act} {Q : Exit → Act → World → Prop}
theorem wm_two (K : St B w0 L F w) (hgd : Region.wanted o (yielded ops a.tmps) = true) (t : TypeId) (x y : Operand) (ho : o.op = .buildSlice t 2 #[(0, x), (1, y)]) {e : TypeId} (hu : P.underlying t = some (.slice e)) {z z1 v u v1 u1 : Value}
    (hR : RowTy P e 1 ∨ OneTy P e) (hi : (P.info? e).map (·.zero) = some (some z)) (hz1 : Cell1 z z1) (hx : a.eval x = v) (hy : a.eval y = u) (hv : Cell1 v v1) (hu1 : Cell1 u u1)
    (h : ∀ (b : Nat) (w' : World), St B w0 ((b, #[v1, u1], e) :: L) F w' → wpList P ops Q rest (a.put o.dst (.slice (some ⟨b, 0, none⟩) 2 2)) w') : wpList P ops Q (o :: rest) a w :=
  wl_wanted hgd fun K' hK => by
    have hs : (P.info? e).map (·.size) = some 1 := by
      rcases hR with ⟨d, _, _, h⟩ | ⟨d, _, _, h⟩ <;> exact h
    obtain ⟨i, hi1, hz⟩ : ∃ i, P.info? e = some i ∧ i.zero = some z := by simpa using hi
    have hs1 : i.size = 1 := by rw [hi1] at hs; simpa using hs
    have hr := run_buildSlice (P := P) w t e 2 #[(0, v), (1, u)] #[v1, u1] i z hu hi1 hz (by rw [hs1]; omega) (by rw [hs1]; omega) (by rw [hs1]; simp [Instr.fill, show v.cells = #[v1] from hv, show u.cells = #[u1] from hu1, show z.cells = #[z1] from hz1]; apply Array.ext'; simp [Array.toList_setIfInBounds, List.range_succ])
    unfold Oper.wp execOp
    simp [ho, hx, hy, hr, Result.andThen_ok, Oper.upon]
    exact hK _ _ (h _ _ (K.alloc _ e))
theorem hm_two {r : List (Bool × Oper)} {S : World → Prop} (K : St B w0 L F w) (hgd : Region.wanted o (yielded ops a.tmps) = true) (t : TypeId) (x y : Operand) (ho : o.op = .buildSlice t 2 #[(0, x), (1, y)]) {e : TypeId} (hu : P.underlying t = some (.slice e)) {z z1 v u v1 u1 : Value}
    (hR : RowTy P e 1 ∨ OneTy P e) (hi : (P.info? e).map (·.zero) = some (some z)) (hz1 : Cell1 z z1) (hx : a.eval x = v) (hy : a.eval y = u) (hv : Cell1 v v1) (hu1 : Cell1 u u1)
    (h : ∀ (b : Nat) (w' : World), St B w0 ((b, #[v1, u1], e) :: L) F w' → S w' ∧ wpHeld P ops S Q r (a.put o.dst (.slice (some ⟨b, 0, none⟩) 2 2)) w') : wpHeld P ops S Q ((false, o) :: r) a w := by
  have hs : (P.info? e).map (·.size) = some 1 := by
    rcases hR with ⟨d, _, _, h⟩ | ⟨d, _, _, h⟩ <;> exact h
  obtain ⟨i, hi1, hz⟩ : ∃ i, P.info? e = some i ∧ i.zero = some z := by simpa using hi
  have hs1 : i.size = 1 := by rw [hi1] at hs; simpa using hs
  have hr := run_buildSlice (P := P) w t e 2 #[(0, v), (1, u)] #[v1, u1] i z hu hi1 hz (by rw [hs1]; omega) (by rw [hs1]; omega) (by rw [hs1]; simp [Instr.fill, show v.cells = #[v1] from hv, show u.cells = #[u1] from hu1, show z.cells = #[z1] from hz1]; apply Array.ext'; simp [Array.toList_setIfInBounds, List.range_succ])
  unfold wpHeld
  rw [if_pos hgd]
  unfold Oper.wp execOp
  simp [ho, hx, hy, hr, Result.andThen_ok, Oper.upon]
  exact h _ _ (K.alloc _ e)
theorem St.fromL {A : Option Addr} {n c : Nat} (l : List Nat) (X : Nat) (K : St B w0 L F w) (hs : Sl w 38 A n (nums .u32 l)) (hn : n ≤ 1000000) (hl : ∀ x ∈ l, x < 4294967296) (hX : val 4294967296 l = X) :
    Calls Try.prog 10 #[.slice A n c] w fun e w' => ∃ A k, e = .returned (.agg #[.slice A k k]) ∧ St B w0 L (fun w => (Nt w A k k X ∧ Nw B A) ∧ F w) w' := by
  subst hX
  refine (From_any _ _ _ l w hs hn hl).mono ?_
  rintro e w' ⟨A', k, rfl, hn, hA, hb⟩
  exact ⟨A', k, rfl, K.madeNt hb hn hA⟩
theorem St.partsL {A : Option Addr} {n c : Nat} (X m : Nat) (K : St B w0 L F w) (h : Nt w A n c X) (hm : (digs 4294967296 X).length = m) (hn : m ≤ 1000000) :
    Calls Try.prog 19 #[.agg #[.slice A n c]] w fun e w' => ∃ A' c', e = .returned (.slice A' m c') ∧ St B w0 L (fun w => Sl w 38 A' m (nums .u32 (digs 4294967296 X)) ∧ F w) w' := by
  have := h.len
  obtain rfl : m = n := by omega
  refine (Parts_any _ _ _ X w h hn).mono ?_
  rintro e w' ⟨A', k, rfl, hs, _, hA, hb⟩
  exact ⟨A', k, rfl, K.made hb hs hA⟩
theorem St.sumL {A : Option Addr} {n c : Nat} (xs : List Nat) (X : Nat) (K : St B w0 L F w) (h : Nts w A xs) (hn : xs.length = n) (hb : n ≤ 1000000) (hS : xs.sum < 4294967296 ^ 1000) (hX : xs.sum = X) :
    Calls Try.prog 33 #[.slice A n c] w fun e w' => ∃ A k, e = .returned (.agg #[.slice A k k]) ∧ St B w0 L (fun w => (Nt w A k k X ∧ Nw B A) ∧ F w) w' := by
  subst hX
  refine (Sum_nat _ _ _ xs w h hn hb hS).mono ?_
  rintro e w' ⟨A', k, rfl, hn, hA, hb⟩
  exact ⟨A', k, rfl, K.madeNt hb hn hA⟩
theorem Nts.two {b : Nat} {A A2 : Option Addr} {k k2 X Y : Nat} {t : TypeId} (K : St B w0 ((b, #[.slice A k k, .slice A2 k2 k2], t) :: L) F w) (h1 : Nt w A k k X) (h2 : Nt w A2 k2 k2 Y) (hX : X ≤ 79228162514264337593543950335) (hY : Y ≤ 79228162514264337593543950335) :
    Nts w (some ⟨b, 0, none⟩) [X, Y] := by
  intro i hi
  have hb := K.get .hd
  rcases i with _ | _ | i
  · exact ⟨b, 0, A, k, k, rfl, hb.lt, hb.cell rfl, h1, h1.le3 hX⟩
  · exact ⟨b, 0, A2, k2, k2, rfl, hb.lt, hb.cell rfl, h2, h2.le3 hY⟩
  · simp at hi; omega
theorem St.sumTwo {b k k2 : Nat} {A0 A2 : Option Addr} {t : TypeId} (K : St B w0 ((b, #[.slice A0 k k, .slice A2 k2 k2], t) :: L) F w) (h1 : Nt w A0 k k 1) (h2 : Nt w A2 k2 k2 2) :
    Calls Try.prog 33 #[.slice (some ⟨b, 0, none⟩) 2 2] w fun e w' => ∃ A k', e = .returned (.agg #[.slice A k' k']) ∧ St B w0 ((b, #[.slice A0 k k, .slice A2 k2 k2], t) :: L) (fun w => (Nt w A k' k' 3 ∧ Nw B A) ∧ F w) w' :=
  K.sumL [1, 2] 3 (Nts.two K h1 h2 (by omega) (by omega)) rfl (by decide) (Nat.lt_of_lt_of_le (show [1, 2].sum < 4294967296 ^ 1 by decide) (Nat.pow_le_pow_right (by omega) (by omega))) rfl
theorem St.fromTwo {b : Nat} (K : St B w0 ((b, #[.int .u32 1, .int .u32 0], 38) :: L) F w) :
    Calls Try.prog 10 #[.slice (some ⟨b, 0, none⟩) 2 2] w fun e w' => ∃ A k', e = .returned (.agg #[.slice A k' k']) ∧ St B w0 ((b, #[.int .u32 1, .int .u32 0], 38) :: L) (fun w => (Nt w A k' k' 1 ∧ Nw B A) ∧ F w) w' :=
  K.fromL [1, 0] 1 (Sl.of_has (K.get .hd)) (by first | decide | simp) (by decide) rfl
end
end Go.Proofs.Ytboigebdjnghiaa
