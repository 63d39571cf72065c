/-
  The walks of trig: parts, turns, sines.
-/
import Derived.Test.YtogbnecgikbkmaaShelf
import Derived.Test.YtogbnecgikbkmaaHeld
import Derived.Test.YtogbnecgikbkmaaPt31
import Derived.Deep.Cut
import Derived.Deep.LoopGhost
namespace Go.Proofs.Ytogbnecgikbkmaa
open Go.RowKit
attribute [local irreducible] wpHeld wpList
set_option linter.unusedVariables false
theorem two_pos (n : Nat) (hn : n ≤ 40) : 0 < (2 : Int) ^ n ∧ (2 : Int) ^ n ≤ 1099511627776 := by
  have h1 : (2 : Nat) ^ n ≤ 2 ^ 40 := Nat.pow_le_pow_right (by omega) hn
  have h2 := Nat.two_pow_pos n
  have e : ((2 ^ n : Nat) : Int) = (2 : Int) ^ n := Int.natCast_pow 2 n
  rw [← e]; omega
theorem tdiv_two (y : Int) : (y.tmod 2 < 0 → y.tdiv 2 - 1 = y / 2) ∧ (0 ≤ y.tmod 2 → y.tdiv 2 = y / 2) := by
  rw [Int.tmod_def]
  by_cases h : 0 ≤ y
  · rw [Int.tdiv_eq_ediv_of_nonneg h]; omega
  · obtain ⟨m, rfl⟩ : ∃ m, y = -m := ⟨-y, by omega⟩
    rw [Int.neg_tdiv, Int.tdiv_eq_ediv_of_nonneg (by omega)]; omega
theorem down_any (x : Int) (n : Nat) (w : World) (hx : -4611686018427387904 ≤ x ∧ x ≤ 4611686018427387904) (hn : n ≤ 40) :
    Calls Try.prog 103 #[.int .i64 x, .int .i64 n] w fun e w' => e = .returned (.int .i64 (x / 2 ^ n)) ∧ w = w' := by
  go_enter Try.func103, Try.ntmps103
  go_wp2
  go_loop [5, 6] (fun y i => ∃ k : Nat, k ≤ n ∧ i = .int .i64 k ∧ y = .int .i64 (x / 2 ^ k)) (fun _ i => n - (intOf i).toNat)
  case atStart => exact ⟨0, by omega, rfl, by simp⟩
  case round =>
    obtain ⟨k, hk, rfl, rfl⟩ := hrel
    by_cases hlt : k < n
    · have hs : Hid (x / 2 ^ (k + 1) = x / 2 ^ k / 2) := Lib.hid (half_step x k).symm
      have hb : -4611686018427387904 ≤ x / 2 ^ k ∧ x / 2 ^ k ≤ 4611686018427387904 := by
        obtain ⟨h1, h2⟩ := two_pos k (by omega)
        constructor
        · apply Int.le_ediv_of_mul_le (by omega); generalize (2 : Int) ^ k = P at *
          have := Int.mul_le_mul_of_nonneg_left (show (1 : Int) ≤ P by omega) (show (0:Int) ≤ 4611686018427387904 by omega)
          omega
        · apply Int.ediv_le_of_le_mul (by omega); generalize (2 : Int) ^ k = P at *
          have := Int.mul_le_mul_of_nonneg_left (show (1 : Int) ≤ P by omega) (show (0:Int) ≤ 4611686018427387904 by omega)
          omega
      have ht : decide (k < n) = true := decide_eq_true hlt
      generalize x / 2 ^ k = y at *
      clear hx
      have hd := Lib.hid (tdiv_two y)
      go_wp2
      · rename_i hneg
        have e : wrap64 (y.tdiv 2 - 1) = y / 2 := by rw [hd.out.1 hneg]; unfold wrap64; omega
        exact ⟨⟨k + 1, by omega, by go_num, by rw [hs.out, e]⟩, by simp [intOf]; omega⟩
      · rename_i hneg
        exact ⟨⟨k + 1, by omega, by go_num, by rw [hs.out, hd.out.2 hneg]⟩, by simp [intOf]; omega⟩
    · obtain rfl : n = k := by omega
      go_wp2
      go_ret
      exact ⟨rfl, rfl⟩
theorem shr_any (x : Int) (n : Nat) (w : World) (hx : -4611686018427387904 ≤ x ∧ x ≤ 4611686018427387904) (hn : n ≤ 40) :
    Calls Try.prog 83 #[.int .i64 x, .int .i64 n] w fun e w' => e = .returned (.int .i64 (prt x n)) ∧ w = w' := by
  by_cases h : n = 0
  · subst h
    go_enter Try.func83, Try.ntmps83
    go_wp2
    go_ret
    exact ⟨rfl, rfl⟩
  · obtain ⟨m, rfl⟩ : ∃ m, n = m + 1 := ⟨n - 1, by omega⟩
    have t0 : decide (((m + 1 : Nat) : Int) = 0) = false := decide_eq_false (by omega)
    go_enter Try.func83, Try.ntmps83
    go_wp2
    go_ret
    have hp := two_pos m (by omega)
    have e : wrap64 (x + wrap64 (2 ^ m)) / 2 ^ (m + 1) = prt x (m + 1) := by
      unfold prt
      rw [if_neg h, Nat.add_sub_cancel]
      have e1 : wrap64 (2 ^ m) = 2 ^ m := by unfold wrap64; omega
      rw [e1]
      have e2 : wrap64 (x + 2 ^ m) = x + 2 ^ m := by unfold wrap64; omega
      rw [e2]
    exact ⟨by rw [e]; rfl, rfl⟩
theorem part_any (x : Int) (n : Nat) (w : World) (hx : -2305843009213693952 ≤ x ∧ x ≤ 2305843009213693952) (hn : n ≤ 40) :
    Calls Try.prog 97 #[.int .i64 x, .int .i64 n] w fun e w' => e = .returned (.int .i64 (prt x n)) ∧ w = w' := by
  by_cases h : n = 0
  · subst h
    go_enter Try.func97, Try.ntmps97
    go_wp2
    go_ret
    exact ⟨rfl, rfl⟩
  · have t0 : decide ((n : Int) = 0) = false := decide_eq_false (by omega)
    have hp1 := two_pos (n - 1) (by omega)
    have D1 := Lib.hid (fun w => down_any (x + 2 ^ (n - 1)) n w (by omega) hn)
    have E : Hid (prt x n = (x + 2 ^ (n - 1)) / 2 ^ n) := Lib.hid (by unfold prt; rw [if_neg h])
    rw [E.out]
    generalize (x + 2 ^ (n - 1)) / 2 ^ n = v at *
    clear E
    go_enter Try.func97, Try.ntmps97
    go_wp2
    go_loop [5, 6] (fun y i => ∃ k : Nat, k ≤ n ∧ 1 ≤ k ∧ i = .int .i64 k ∧ y = .int .i64 (2 ^ (k - 1))) (fun _ i => n - (intOf i).toNat)
    case atStart => exact ⟨1, by omega, by omega, rfl, rfl⟩
    case round =>
      obtain ⟨k, hk, hk1, rfl, rfl⟩ := hrel
      by_cases hlt : k < n
      · have hs : Hid ((2 : Int) ^ (k + 1 - 1) = 2 * 2 ^ (k - 1)) := Lib.hid (by rw [Nat.add_sub_cancel]; exact (two_halves k (by omega)).1)
        have h1 := two_pos (k - 1) (by omega)
        have ht : decide (k < n) = true := decide_eq_true hlt
        generalize (2 : Int) ^ (k - 1) = P at *
        go_wp2
        exact ⟨⟨k + 1, by omega, by omega, by go_num, by rw [hs.out]⟩, by simp [intOf]; omega⟩
      · obtain rfl : n = k := by omega
        generalize (2 : Int) ^ (n - 1) = P at *
        go_wp2_with (first | (go_at_call 103; (with_reducible refine (D1.out _).mono ?_); rintro e w2 ⟨rfl, rfl⟩; (try dsimp only)))
        go_ret
        exact ⟨rfl, rfl⟩

/-- The arcs as they lie in memory. -/
def arcV : Array Value := #[.int .i64 536870912, .int .i64 316933406, .int .i64 167458907, .int .i64 85004756, .int .i64 42667331, .int .i64 21354465, .int .i64 10679838, .int .i64 5340245, .int .i64 2670163, .int .i64 1335087, .int .i64 667544, .int .i64 333772, .int .i64 166886, .int .i64 83443, .int .i64 41722, .int .i64 20861, .int .i64 10430, .int .i64 5215, .int .i64 2608, .int .i64 1304, .int .i64 652, .int .i64 326, .int .i64 163, .int .i64 81, .int .i64 41, .int .i64 20, .int .i64 10, .int .i64 5, .int .i64 3, .int .i64 1]
theorem arcV_eq : arcV = (arcL.map (Value.int .i64)).toArray := rfl
theorem arcV_get (i : Nat) (h : i < 30) : arcV[i]? = some (.int .i64 (arcA i)) := by
  rw [arcV_eq, List.getElem?_toArray, List.getElem?_map, List.getElem?_eq_getElem (show i < arcL.length from h)]
  unfold arcA
  rw [List.getD, List.getElem?_eq_getElem (show i < arcL.length from h)]; rfl
theorem arcV_size : arcV.size = 30 := rfl
theorem arc_any (i : Nat) (w : World) (hi : i < 30) : Calls Try.prog 98 #[.int .i64 i] w fun e w' => e = .returned (.int .i64 (arcA i)) ∧ Below w.heap.size w w' := by
  have K := St.start w
  go_enter Try.func98, Try.ntmps98
  go_wp2
  go_ret
  have e : ∀ h : i < (arcL.map (Value.int .i64)).length, (arcL.map (Value.int .i64))[i]'h = .int .i64 (arcA i) := fun h => by
    rw [List.getElem_map]
    unfold arcA
    rw [List.getD, List.getElem?_eq_getElem (show i < arcL.length from hi)]; rfl
  exact ⟨congrArg Ending.returned (e hi), (Below.refl _ _).alloc (Nat.le_refl _) _⟩
end Go.Proofs.Ytogbnecgikbkmaa
