/-
  The calls of the laws of the chapter on numbers, at numbers that are not too long.
-/
import Derived.Test.YtboigebdjnghiaaRe16
import Derived.Test.YtboigebdjnghiaaLit16
namespace Go.Proofs.Ytboigebdjnghiaa
open Go.RowKit
set_option linter.unusedVariables false
set_option exponentiation.threshold 2000

/-- A slice of integers that came in: nil, or a row of 'cap' cells, the first 'len' of them its elements. -/
def IsRow (k : IntKind) (w : World) (a : Option Addr) (len cap : Nat) (zs : List Int) : Prop :=
  (a = none ∧ len = 0 ∧ cap = 0 ∧ zs = []) ∨
  ∃ x, a = some x ∧ len ≤ cap ∧ cap ≤ maxLen ∧ zs.length = cap ∧ (∀ i, i < zs.length → w.cell? (x.add i) = some (.int k (zs.getD i 0))) ∧ ∀ n ∈ zs, (Lit.int k n).wf = true

theorem cell_some {w : World} {x : Addr} {v : Value} (h : w.cell? x = some v) : x.spot = none ∧ x.block < w.heap.size := by
  unfold World.cell? at h
  split at h
  · rename_i c e f hb
    split at h
    · cases h
    · rename_i hs
      exact ⟨by simpa using hs, (Array.getElem?_eq_some_iff.1 hb).1⟩
  · cases h
/-- What came in, as natural numbers. -/
theorem IsRow.rd {k : IntKind} {M : Nat} {w : World} {a : Option Addr} {len cap : Nat} {zs : List Int} (h : IsRow k w a len cap zs) (hw : ∀ n : Int, (Lit.int k n).wf = true → 0 ≤ n ∧ n < M) :
    ∃ l : List Nat, (∀ x ∈ l, x < M) ∧ Rd w a len (nums k l) ∧ l.length = len := by
  rcases h with ⟨rfl, rfl, rfl, rfl⟩ | ⟨x, rfl, hl, hm, hz, hc, hwf⟩
  · exact ⟨[], by simp, Rd.nil _ _, rfl⟩
  · refine ⟨(zs.take len).map Int.toNat, ?_, ⟨?_, fun h0 => ?_⟩, ?_⟩
    · intro y hy
      obtain ⟨z, hz1, rfl⟩ := List.mem_map.1 hy
      have := hw z (hwf z (List.mem_of_mem_take hz1))
      omega
    · rw [nums_length, List.length_map, List.length_take]; omega
    · have h1 := hc 0 (by omega)
      obtain ⟨hs, hb⟩ := cell_some h1
      rcases x with ⟨b, off, sp⟩
      simp only [Addr.add] at hs hb
      subst hs
      refine ⟨b, off, rfl, hb, fun j u hj => ?_⟩
      have hj' : j < len := by
        have := (List.getElem?_eq_some_iff.1 hj).1
        rw [nums_length, List.length_map, List.length_take] at this
        omega
      have h2 := hc j (by omega)
      rw [Addr.add_mid] at h2
      rw [h2]
      have hmem : zs[j]'(by omega) ∈ zs := List.getElem_mem _
      have hn := hw _ (hwf _ hmem)
      have e : u = .int k ((((zs.take len).map Int.toNat).getD j 0 : Nat) : Int) := by
        have := nums_get k ((zs.take len).map Int.toNat) j (by simp; omega)
        rw [hj] at this
        injection this
      rw [e]
      congr 2
      rw [List.getD, List.getD, List.getElem?_map, List.getElem?_take, if_pos hj', List.getElem?_eq_getElem (by omega)]
      simp only [Option.map_some, Option.getD_some]
      omega
    · rw [List.length_map, List.length_take]; omega

/-- Numbers that the laws meet are less. -/
def Big : Nat := 4294967296 ^ 200
theorem lt_big {X m : Nat} (h : X < 4294967296 ^ m) (hm : m ≤ 200) : X < Big := Nat.lt_of_lt_of_le h (Nat.pow_le_pow_right (by omega) hm)
theorem Nt.big {w : World} {A : Option Addr} {n c X : Nat} (h : Nt w A n c X) (hX : X < Big) : n ≤ 200 := Go.Proofs.Ytboigebdjnghiaa.len_le (k := 200) _ hX h.len
theorem Rf.big {w : World} {A : Option Addr} {n c X : Nat} (h : Rf w A n c X) (hX : X < Big) : n ≤ 800 := rlen h (by unfold Big at hX; rwa [show (4294967296 : Nat) = 256 ^ 4 from rfl, ← Nat.pow_mul] at hX)
section
variable {B : Nat} {w0 w : World} {L : List Blk} {F : World → Prop}
theorem St.fromA {A : Option Addr} {n c : Nat} (l : List Nat) {X : Nat} (K : St B w0 L F w) (hs : Rd w A n (nums .u32 l)) (hn : n ≤ 20) (hl : ∀ x ∈ l, x < 4294967296) (hX : val 4294967296 l = X) :
    Calls Try.prog 10 #[.slice A n c] w fun e w' => ∃ A k, e = .returned (.agg #[.slice A k k]) ∧ St B w0 L (fun w => (Nt w A k k X ∧ Nw B A) ∧ F w) w' := by
  subst hX
  refine (From_anyR _ _ _ l w hs (by omega) hl).mono ?_
  rintro e w' ⟨A', k, rfl, hn, hA, hb⟩
  exact ⟨A', k, rfl, K.madeNt hb hn hA⟩
theorem St.ofA {A : Option Addr} {n c : Nat} (l : List Nat) {X : Nat} (K : St B w0 L F w) (hs : Rd w A n (nums .u32 l)) (hn : n ≤ 100000) (hl : ∀ x ∈ l, x < 4294967296) (hX : val 4294967296 l = X) :
    Calls Try.prog 11 #[.slice A n c] w fun e w' => ∃ A k c, e = .returned (.slice A k c) ∧ St B w0 L (fun w => (Rf w A k c X ∧ Nw B A) ∧ F w) w' := by
  subst hX
  refine (OfRr _ _ _ l w hs (by omega) hl).mono ?_
  rintro e w' ⟨A', k, c', rfl, ⟨hn, hA⟩, hb⟩
  exact ⟨A', k, c', rfl, K.madeRf hb hn hA⟩
theorem St.ofP {A : Option Addr} {n c X : Nat} (K : St B w0 L F w) (hs : Sl w 38 A n (nums .u32 (digs 4294967296 X))) (hX : X < Big) :
    Calls Try.prog 11 #[.slice A n c] w fun e w' => ∃ A k c, e = .returned (.slice A k c) ∧ St B w0 L (fun w => (Rf w A k c X ∧ Nw B A) ∧ F w) w' := by
  have hl : n = (digs 4294967296 X).length := by rw [← hs.1, nums_length]
  have hn : n ≤ 200 := Go.Proofs.Ytboigebdjnghiaa.len_le (k := 200) _ hX hl
  exact K.ofA (digs 4294967296 X) hs.rd (by omega) (digs_lt (by omega) X) (val_digs (by omega) X)
theorem St.partsB {A : Option Addr} {n c X : Nat} (K : St B w0 L F w) (h : Nt w A n c X) (hX : X < Big) :
    Calls Try.prog 19 #[.agg #[.slice A n c]] w fun e w' => ∃ A' c', e = .returned (.slice A' n c') ∧ St B w0 L (fun w => Sl w 38 A' n (nums .u32 (digs 4294967296 X)) ∧ F w) w' := by
  exact K.partsL X n h h.len.symm (by have := h.big hX; omega)
theorem St.addB {A A2 : Option Addr} {n c X n2 c2 Y : Nat} (K : St B w0 L F w) (h1 : Nt w A n c X) (h2 : Nt w A2 n2 c2 Y) (b1 : X < Big) (b2 : Y < Big) :
    Calls Try.prog 13 #[.agg #[.slice A n c], .agg #[.slice A2 n2 c2]] w fun e w' => ∃ A k, e = .returned (.agg #[.slice A k k]) ∧ St B w0 L (fun w => (Nt w A k k (X + Y) ∧ Nw B A) ∧ F w) w' :=
  K.add2 h1 h2 (by have := h1.big b1; omega) (by have := h2.big b2; omega)
theorem St.subB {A A2 : Option Addr} {n c X n2 c2 Y : Nat} (K : St B w0 L F w) (h1 : Nt w A n c X) (h2 : Nt w A2 n2 c2 Y) (b1 : X < Big) (b2 : Y < Big) :
    Calls Try.prog 16 #[.agg #[.slice A n c], .agg #[.slice A2 n2 c2]] w fun e w' => ∃ A k, e = .returned (.agg #[.slice A k k]) ∧ St B w0 L (fun w => (Nt w A k k (X - Y + (Y - X)) ∧ Nw B A) ∧ F w) w' :=
  K.sub2 h1 h2 (by have := h1.big b1; omega) (by have := h2.big b2; omega)
theorem St.mulB {A A2 : Option Addr} {n c X n2 c2 Y : Nat} (K : St B w0 L F w) (h1 : Nt w A n c X) (h2 : Nt w A2 n2 c2 Y) (b1 : X < Big) (b2 : Y < Big) :
    Calls Try.prog 21 #[.agg #[.slice A n c], .agg #[.slice A2 n2 c2]] w fun e w' => ∃ A k, e = .returned (.agg #[.slice A k k]) ∧ St B w0 L (fun w => (Nt w A k k (X * Y) ∧ Nw B A) ∧ F w) w' :=
  K.mul2 h1 h2 (by have := h1.big b1; omega) (by have := h2.big b2; omega)
theorem St.addRB {A A2 : Option Addr} {n c X n2 c2 Y : Nat} (K : St B w0 L F w) (h1 : Rf w A n c X) (h2 : Rf w A2 n2 c2 Y) (b1 : X < Big) (b2 : Y < Big) :
    Calls Try.prog 14 #[.slice A n c, .slice A2 n2 c2] w fun e w' => ∃ A k c, e = .returned (.slice A k c) ∧ St B w0 L (fun w => (Rf w A k c (X + Y) ∧ Nw B A) ∧ F w) w' :=
  K.addR h1 h2 (by have := h1.big b1; omega) (by have := h2.big b2; omega)
theorem St.mulRB {A A2 : Option Addr} {n c X n2 c2 Y : Nat} (K : St B w0 L F w) (h1 : Rf w A n c X) (h2 : Rf w A2 n2 c2 Y) (b1 : X < Big) (b2 : Y < Big) :
    Calls Try.prog 22 #[.slice A n c, .slice A2 n2 c2] w fun e w' => ∃ A k c, e = .returned (.slice A k c) ∧ St B w0 L (fun w => (Rf w A k c (X * Y) ∧ Nw B A) ∧ F w) w' := by
  refine (MulR _ _ _ _ _ _ _ _ w h1 h2 (by have := h1.big b1; omega) (by have := h2.big b2; omega)).mono ?_
  rintro e w' ⟨A', k, c', rfl, ⟨hn, hA⟩, hb⟩
  exact ⟨A', k, c', rfl, K.madeRf hb hn hA⟩
theorem St.divB {A A2 : Option Addr} {n c m d X Y : Nat} (K : St B w0 L F w) (hF : ∀ w, F w → Nt w A n c X) (h2 : Nt w A2 m d Y) (b1 : X < Big) (b2 : Y < Big) :
    Calls Try.prog 25 #[.agg #[.slice A n c], .agg #[.slice A2 m d]] w fun e w' => ∃ A3 k3 A4 k4 c4, e = .returned (.tuple #[.agg #[.slice A3 k3 k3], .agg #[.slice A4 k4 c4]]) ∧ St B w0 L (fun w => (Nt w A3 k3 k3 (X / Y) ∧ Nw B A3) ∧ Nt w A4 k4 c4 (X % Y) ∧ F w) w' :=
  K.divK hF h2 (by have := (hF _ K.fact).big b1; omega) (by have := h2.big b2; omega)
theorem St.ofTwo {b : Nat} (n : Nat) {x y : Int} (K : St B w0 ((b, #[.int .u32 x, .int .u32 y], 38) :: L) F w) (hx : x = ((n % 4294967296 : Nat) : Int)) (hy : y = ((n / 4294967296 : Nat) : Int)) (hn : n ≤ 18446744073709551615) :
    Calls Try.prog 11 #[.slice (some ⟨b, 0, none⟩) 2 2] w fun e w' => ∃ A k c, e = .returned (.slice A k c) ∧ St B w0 ((b, #[.int .u32 x, .int .u32 y], 38) :: L) (fun w => (Rf w A k c n ∧ Nw B A) ∧ F w) w' := by
  subst hx hy
  refine K.ofA [n % 4294967296, n / 4294967296] (Sl.of_has (K.get .hd)).rd (by simp) ?_ ?_
  · intro z hz
    simp only [List.mem_cons, List.not_mem_nil, or_false] at hz
    rcases hz with rfl | rfl <;> omega
  · simp only [val]; omega
theorem St.timesB {A : Option Addr} {n c X : Nat} (x : Nat) {z : Int} (K : St B w0 L F w) (hz : z = (x : Int)) (hx : x ≤ 18446744073709551615) (h1 : Nt w A n c X) (b1 : X < Big) :
    Calls Try.prog 23 #[.agg #[.slice A n c], .int .u64 z] w fun e w' => ∃ A k, e = .returned (.agg #[.slice A k k]) ∧ St B w0 L (fun w => (Nt w A k k (X * x) ∧ Nw B A) ∧ F w) w' :=
  K.timesL x hz hx h1 (by have := h1.big b1; omega)
theorem Is_lit {A A2 : Option Addr} {n c m d X Y : Nat} {t : Bool} {w : World} (hx : Nt w A n c X) (hy : Rf w A2 m d Y) (b1 : X < Big) (b2 : Y < Big) (ht : decide (X = Y) = t) :
    Calls Try.prog 12 #[.agg #[.slice A n c], .slice A2 m d] w fun e w' => e = .returned (.bool t) ∧ Below w.heap.size w w' := by
  subst ht
  exact is_any _ _ _ _ _ _ _ _ w hx hy (by have := hx.big b1; omega) (by have := hy.big b2; omega)
theorem Is_same {A A2 : Option Addr} {n c m d X : Nat} {w : World} (hx : Nt w A n c X) (hy : Rf w A2 m d X) (b1 : X < Big) :
    Calls Try.prog 12 #[.agg #[.slice A n c], .slice A2 m d] w fun e w' => e = .returned (.bool true) ∧ Below w.heap.size w w' :=
  Is_lit hx hy b1 b1 (decide_eq_true rfl)
theorem Same_same {A A2 : Option Addr} {n c m d X : Nat} {w : World} (hx : Rf w A n c X) (hy : Rf w A2 m d X) (b1 : X < Big) :
    Calls Try.prog 18 #[.slice A n c, .slice A2 m d] w fun e w' => e = .returned (.bool true) ∧ Below w.heap.size w w' := by
  have := SameR _ _ _ _ _ _ _ _ w hx hy (by have := hx.big b1; omega) (by have := hy.big b1; omega)
  rwa [show decide (X = X) = true from decide_eq_true rfl] at this
theorem Less_lit {A A2 : Option Addr} {n c m d X Y : Nat} {t : Bool} {w : World} (hx : Rf w A n c X) (hy : Rf w A2 m d Y) (b1 : X < Big) (b2 : Y < Big) (ht : decide (X < Y) = t) :
    Calls Try.prog 15 #[.slice A n c, .slice A2 m d] w fun e w' => e = .returned (.bool t) ∧ Below w.heap.size w w' := by
  subst ht
  exact LessR _ _ _ _ _ _ _ _ w hx hy (by have := hx.big b1; omega) (by have := hy.big b2; omega)
theorem Same_lit {A A2 : Option Addr} {n c m d X Y : Nat} {t : Bool} {w : World} (hx : Rf w A n c X) (hy : Rf w A2 m d Y) (b1 : X < Big) (b2 : Y < Big) (ht : decide (X = Y) = t) :
    Calls Try.prog 18 #[.slice A n c, .slice A2 m d] w fun e w' => e = .returned (.bool t) ∧ Below w.heap.size w w' := by
  subst ht
  exact SameR _ _ _ _ _ _ _ _ w hx hy (by have := hx.big b1; omega) (by have := hy.big b2; omega)
theorem Cmp_big {A A2 : Option Addr} {n c m d X Y : Nat} {r : Int} {w : World} (h : Nt w A n c X) (h2 : Nt w A2 m d Y) (hX : X < Big) (hY : Y < Big) (hs : cmpI X Y = r) :
    Calls Try.prog 17 #[.agg #[.slice A n c], .agg #[.slice A2 m d]] w fun e w' => e = .returned (.int .i64 r) ∧ Below w.heap.size w w' := by
  subst hs; exact Cmp_nat _ _ _ _ _ _ _ _ w h h2 (by have := h.big hX; omega) (by have := h2.big hY; omega)
theorem light_lit {A : Option Addr} {n c : Nat} {t : Bool} {w : World} (ht : decide (n ≤ 20) = t) :
    Calls Try.prog 8 #[.slice A n c] w fun e w' => e = .returned (.bool t) ∧ w = w' := by
  subst ht; exact light_any A n c w
end
end Go.Proofs.Ytboigebdjnghiaa
