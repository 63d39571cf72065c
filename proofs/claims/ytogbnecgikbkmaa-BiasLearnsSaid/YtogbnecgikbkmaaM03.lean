/-
  The walks of the reference's numbers, the rest: which of two is less, their difference, sum and order, and whether a number has room.
-/
import Derived.Test.YtogbnecgikbkmaaEq
namespace Go.Proofs.Ytogbnecgikbkmaa
open Go.RowKit
set_option linter.unusedVariables false

set_option maxRecDepth 100000 in
theorem Less_any (a b : Nat) (w : World) (ha : a < 2 ^ 129) (hb : b < 2 ^ 129) :
    Calls Try.prog 73 #[.agg (bitsA a), .agg (bitsA b)] w fun e w' => e = .returned (.bool (decide (a < b))) ∧ Below w.heap.size w w' := by
  have H0 : Hid (a / 2 ^ 129 = b / 2 ^ 129) := Lib.hid (by rw [Nat.div_eq_of_lt ha, Nat.div_eq_of_lt hb])
  clear ha hb
  go_enter Try.func73, Try.ntmps73
  go_wp2
  go_loopw [5] (fun i wr => ∃ (j : Nat) (z : Int), j ≤ 129 ∧ z = (j : Int) - 1 ∧ i = .int .i64 z ∧ Hid (a / 2 ^ j = b / 2 ^ j) ∧ Has wr w.heap.size (bitsA a) 122 ∧ Has wr (w.heap.size + 1) (bitsA b) 122 ∧ Below w.heap.size w wr) (fun i _ => (intOf i + 1).toNat)
  case atStart =>
    refine ⟨129, 128, by omega, by omega, rfl, H0, (Has.new _ _ _).alloc _, ?_, ?_⟩
    · have := Has.new (w.alloc (.cells (bitsA a) 122)) (bitsA b) 122
      simpa only [World.size_alloc] using this
    · repeat' (first | exact Below.refl _ _ | refine Below.alloc ?_ ?_ _ | exact Nat.le_refl _ | (simp only [World.size_alloc]; omega))
  case round =>
    obtain ⟨j, z, hj, hz, rfl, H, g1, g2, g3⟩ := hrel
    rcases j with _ | j
    · obtain rfl : z = -1 := by omega
      have E : Hid (decide (a < b) = false) := Lib.hid (decide_eq_false (by have := H.out; simp at this; omega))
      clear hz H
      go_wp2
      go_ret
      exact ⟨by rw [E.out]; rfl, g3⟩
    · obtain rfl : z = (j : Int) := by omega
      clear hz
      have gA := g1.cell (bitsA_get a j (by omega))
      have gB := g2.cell (bitsA_get b j (by omega))
      by_cases hbit : bit a j = bit b j
      · have T : (bit a j != bit b j) = false := by rw [hbit]; simp
        have H' : Hid (a / 2 ^ j = b / 2 ^ j) := Lib.hid (div_eq_succ H.out hbit)
        clear hbit
        generalize bit a j = p at *
        generalize bit b j = q at *
        go_wp2
        go_quiet (fail)
        go_wp2
        refine ⟨⟨j, _, by omega, rfl, rfl, H', g1.drewN _, g2.drewN _, below_drewN g3 _⟩, by simp [intOf]⟩
      · have T : (bit a j != bit b j) = true := by simpa using hbit
        have E : Hid (decide (bit a j < bit b j) = decide (a < b)) := Lib.hid (lt_of_bit H.out hbit)
        clear hbit
        generalize bit a j = p at *
        generalize bit b j = q at *
        go_wp2
        go_quiet (fail)
        go_wp2
        go_quiet (fail)
        go_wp2
        go_ret
        exact ⟨by rw [← E.out]; rfl, below_drewN (below_drewN g3 _) _⟩

set_option maxHeartbeats 1000000 in
set_option maxRecDepth 100000 in
theorem sub_any (a b : Nat) (w : World) (h : b ≤ a) (ha : a < 2 ^ 129) :
    Calls Try.prog 99 #[.agg (bitsA a), .agg (bitsA b)] w fun e w' => e = .returned (.agg (bitsA (a - b))) ∧ Below w.heap.size w w' := by
  have hz := zeroB
  have HE : Hid ((a - b) % 2 ^ 129 = a - b) := Lib.hid (Nat.mod_eq_of_lt (by omega))
  have HL := Lib.hid h
  clear h ha
  go_enter Try.func99, Try.ntmps99
  go_wp2
  go_loopw [6, 7, 8] (fun c i _ wr => ∃ k : Nat, k ≤ 129 ∧ i = .int .i64 k ∧ c = .int .i64 (bor a b k) ∧ Has wr w.heap.size (bitsA a) 122 ∧ Has wr (w.heap.size + 1) (bitsA b) 122 ∧ Has wr (w.heap.size + 1 + 1) (bitsA 0) 122 ∧ Has wr (w.heap.size + 1 + 1 + 1) (bitsA ((a - b) % 2 ^ k)) 122 ∧ Below w.heap.size w wr) (fun _ i _ _ => 129 - (intOf i).toNat)
  case atStart =>
    refine ⟨0, by omega, rfl, by rw [bor_zero]; rfl, (((Has.new _ _ _).alloc _).alloc _).alloc _, ?_, ?_, ?_, ?_⟩
    · have := ((Has.new (w.alloc (.cells (bitsA a) 122)) (bitsA b) 122).alloc (.cells (bitsA 0) 122)).alloc (.cells (bitsA 0) 122)
      simpa only [World.size_alloc] using this
    · have := (Has.new ((w.alloc (.cells (bitsA a) 122)).alloc (.cells (bitsA b) 122)) (bitsA 0) 122).alloc (.cells (bitsA 0) 122)
      simpa only [World.size_alloc] using this
    · have := Has.new (((w.alloc (.cells (bitsA a) 122)).alloc (.cells (bitsA b) 122)).alloc (.cells (bitsA 0) 122)) (bitsA 0) 122
      rw [Nat.pow_zero, Nat.mod_one]
      simpa only [World.size_alloc] using this
    · repeat' (first | exact Below.refl _ _ | refine Below.alloc ?_ ?_ _ | exact Nat.le_refl _ | (simp only [World.size_alloc]; omega))
  case round =>
    obtain ⟨k, hk, rfl, rfl, g1, g2, g3, g4, g5⟩ := hrel
    by_cases hlt : k < 129
    · have gA := g1.cell (bitsA_get a k hlt)
      have gB := g2.cell (bitsA_get b k hlt)
      have gO := g4.cell (bitsA_get ((a - b) % 2 ^ k) k hlt)
      have fO := g4.free k
      have hs := Lib.hid (bor_succ a b k HL.out)
      have hbit := Lib.hid (bor_bit a b k HL.out)
      have bA := bit_bd a k
      have bB := bit_bd b k
      have bC := bor_le a b k
      have hst := Lib.hid (bitsA_step (a - b) k hlt)
      generalize bor a b k = c at *
      generalize bit a k = p at *
      generalize bit b k = q at *
      by_cases hneg : p - q - (c : Int) < 0
      · have T : decide (p - q - (c : Int) < 0) = true := decide_eq_true hneg
        rw [if_pos hneg] at hs hbit
        clear hneg
        go_wp2
        go_quiet (fail)
        go_wp2
        refine ⟨⟨k + 1, by omega, by go_num, by rw [hs.out]; rfl, (g1.drewN _).keep (by simp only []; omega) _, (g2.drewN _).keep (by simp only []; omega) _, (g3.drewN _).keep (by simp only []; omega) _, ?_, (below_drewN g5 _).setCell (by simp only []; omega) _⟩, by simp [intOf]; omega⟩
        rw [← hst.out, hbit.out]; exact (g4.drewN _).set _ _
      · have T : decide (p - q - (c : Int) < 0) = false := decide_eq_false hneg
        rw [if_neg hneg] at hs hbit
        clear hneg
        go_wp2
        go_quiet (fail)
        go_wp2
        refine ⟨⟨k + 1, by omega, by go_num, by rw [hs.out]; rfl, (g1.drewN _).keep (by simp only []; omega) _, (g2.drewN _).keep (by simp only []; omega) _, (g3.drewN _).keep (by simp only []; omega) _, ?_, (below_drewN g5 _).setCell (by simp only []; omega) _⟩, by simp [intOf]; omega⟩
        rw [← hst.out, hbit.out]; exact (g4.drewN _).set _ _
    · have hk9 : Hid (k = 129) := Lib.hid (by omega)
      go_wp2_with (first | ((with_reducible refine wl_at_load 122 ?_); refine wl_load rfl 122 _ rfl _ rfl g4 Try.underlying122 rfl infoB (bitsA_size _) ?_) | ((with_reducible refine wl_at_store 122 ?_); refine wl_store rfl 122 _ _ rfl _ _ rfl rfl g3 infoB (bitsA_size _) (bitsA_size _) (bitsA_ones _) rfl ?_))
      refine bodyPost_ret (results_has rfl _ rfl (g3.row _) Try.underlying122 rfl infoB (bitsA_size _)) rfl ⟨by rw [hk9.out, HE.out], below_setRow g5 (by omega) _⟩

/-- Has a whole number room, with 127 bits and a sign? -/
def room (n : Nat) (z : Int) : Bool := decide (-(2 ^ n : Nat) ≤ z) && decide (z < (2 ^ n : Nat))
theorem room_high {z : Int} {n j : Nat} (h : bit z.natAbs j ≠ 0) (hj : n < j) : room n z = false := by
  have : 2 ^ j ≤ z.natAbs := by
    rcases Nat.lt_or_ge z.natAbs (2 ^ j) with hlt | hge
    · exact absurd (bit_big _ _ hlt) h
    · exact hge
  have h2 : 2 ^ (n + 1) ≤ 2 ^ j := Nat.pow_le_pow_right (by omega) (by omega)
  have hp := Nat.two_pow_pos n
  rw [Nat.pow_succ] at h2
  unfold room
  by_cases hz : z < 0
  · rw [decide_eq_false (by omega)]; rfl
  · rw [show decide (z < (2 ^ n : Nat)) = false from decide_eq_false (by omega), Bool.and_false]
theorem low_of_high {a n : Nat} (ha : a < 2 ^ 129) (hn : n < 129) (h : ∀ i, n + 1 ≤ i → i < 129 → bit a i = 0) : a < 2 ^ (n + 1) := by
  have e : a % 2 ^ (n + 1) = a := by
    apply Nat.eq_of_testBit_eq
    intro i
    rw [Nat.testBit_mod_two_pow]
    by_cases hi : i < n + 1
    · simp [hi]
    · have : a.testBit i = false := by
        by_cases h2 : i < 129
        · have := h i (by omega) h2
          rw [bit_test] at this
          cases ht : a.testBit i
          · rfl
          · simp [ht] at this
        · exact Nat.testBit_lt_two_pow (Nat.lt_of_lt_of_le ha (Nat.pow_le_pow_right (by omega) (by omega)))
      simp [hi, this]
  rw [← e]; exact Nat.mod_lt _ (Nat.two_pow_pos _)
theorem room_yes {z : Int} {n : Nat} (h : z.natAbs < 2 ^ (n + 1)) (hb : bit z.natAbs n = 0) : room n z = true := by
  rw [Nat.pow_succ] at h
  have hp := Nat.two_pow_pos n
  have : z.natAbs < 2 ^ n := by
    unfold bit at hb
    have h2 : z.natAbs / 2 ^ n < 2 := (Nat.div_lt_iff_lt_mul hp).2 (by omega)
    refine div_all ?_
    generalize z.natAbs / 2 ^ n = q at *
    omega
  unfold room
  rw [decide_eq_true (by omega), decide_eq_true (by omega)]; rfl
theorem room_top {z : Int} {n : Nat} (h : z.natAbs < 2 ^ (n + 1)) (hb : bit z.natAbs n ≠ 0) : 2 ^ n ≤ z.natAbs := by
  rcases Nat.lt_or_ge z.natAbs (2 ^ n) with hlt | hge
  · exact absurd (bit_big _ _ hlt) hb
  · exact hge
theorem room_odd {z : Int} {n j : Nat} (ht : 2 ^ n ≤ z.natAbs) (hj : j < n) (hb : bit z.natAbs j ≠ 0) : room n z = false := by
  have hne : z.natAbs ≠ 2 ^ n := by
    intro e
    apply hb
    rw [e]
    unfold bit
    rw [Nat.pow_div (by omega) (by omega), show n - j = (n - j - 1) + 1 by omega, Nat.pow_succ]; omega
  unfold room
  by_cases hz : z < 0
  · rw [decide_eq_false (by omega)]; rfl
  · rw [show decide (z < (2 ^ n : Nat)) = false from decide_eq_false (by omega), Bool.and_false]
theorem room_least {z : Int} {n : Nat} (h : z.natAbs < 2 ^ (n + 1)) (ht : 2 ^ n ≤ z.natAbs) (hl : ∀ i, i < n → bit z.natAbs i = 0) : room n z = decide (z < 0) := by
  have e : z.natAbs = 2 ^ n := by
    have hm : z.natAbs % 2 ^ n = 0 := by
      apply Nat.eq_of_testBit_eq
      intro i
      rw [Nat.testBit_mod_two_pow, Nat.zero_testBit]
      by_cases hi : i < n
      · have := hl i hi
        rw [bit_test] at this
        cases hb : z.natAbs.testBit i
        · simp
        · simp [hb] at this
      · simp [hi]
    rw [Nat.pow_succ] at h
    obtain ⟨q, hq⟩ := Nat.dvd_of_mod_eq_zero hm
    have hp := Nat.two_pow_pos n
    have : q = 1 := by
      rcases q with _ | _ | q
      · omega
      · rfl
      · rw [hq] at h
        have : 2 ^ n * 2 ≤ 2 ^ n * (q + 1 + 1) := Nat.mul_le_mul_left _ (by omega)
        omega
    rw [hq, this, Nat.mul_one]
  have hp := Nat.two_pow_pos n
  unfold room
  by_cases hz : z < 0
  · rw [decide_eq_true (by omega), decide_eq_true (by omega), decide_eq_true hz]; rfl
  · rw [show decide (z < (2 ^ n : Nat)) = false from decide_eq_false (by omega), Bool.and_false, decide_eq_false hz]

set_option maxHeartbeats 2000000 in
set_option maxRecDepth 100000 in
theorem fits_any (z : Int) (n : Nat) (w : World) (hz : z.natAbs < 2 ^ 129) (hn : n < 129) :
    Calls Try.prog 89 #[.agg (numI z), .int .i64 n] w fun e w' => e = .returned (.bool (room n z)) ∧ Below w.heap.size w w' := by
  have HZ := Lib.hid hz
  have en : numI z = numA (decide (z < 0)) z.natAbs := rfl
  have R1 := Lib.hid (fun j => @room_high z n j)
  have R2 := Lib.hid (@low_of_high z.natAbs n hz hn)
  have R3 := Lib.hid (@room_yes z n)
  have R4 := Lib.hid (@room_top z n)
  have R5 := Lib.hid (fun j => @room_odd z n j)
  have R6 := Lib.hid (@room_least z n)
  rw [en]
  clear hz en
  generalize decide (z < 0) = m at *
  generalize z.natAbs = a at *
  generalize room n z = r at *
  go_enter Try.func89, Try.ntmps89
  go_wp2
  go_loopw [5] (fun i wr => ∃ k : Nat, n + 1 ≤ k ∧ k ≤ 129 ∧ i = .int .i64 k ∧ Hid (∀ i, n + 1 ≤ i → i < k → bit a i = 0) ∧ Has wr w.heap.size (numA m a) 124 ∧ Below w.heap.size w wr) (fun i _ => 129 - (intOf i).toNat)
  case atStart => exact ⟨n + 1, by omega, by omega, by go_num, Lib.hid (fun i h1 h2 => absurd h2 (by omega)), Has.new _ _ _, by repeat' (first | exact Below.refl _ _ | refine Below.alloc ?_ ?_ _ | exact Nat.le_refl _ | (simp only [World.size_alloc]; omega))⟩
  case round =>
    obtain ⟨k, hk1, hk, rfl, hl, g1, g2⟩ := hrel
    by_cases hlt : k < 129
    · have gA := g1.cell (numA_get m a k hlt)
      by_cases hb : bit a k = 0
      · have hb0 : (bit a k != 0) = false := by rw [hb]; rfl
        have HB := Lib.hid hb
        clear hb
        go_wp2
        refine ⟨⟨k + 1, by omega, by omega, by go_num, Lib.hid (fun i h1 h2 => ?_), g1, g2⟩, by simp [intOf]; omega⟩
        by_cases h : i = k
        · subst h; exact HB.out
        · exact hl.out i h1 (by omega)
      · have hb0 : (bit a k != 0) = true := by simpa using hb
        have E : Hid (r = false) := Lib.hid (R1.out k hb (by omega))
        clear hb
        go_wp2
        go_ret
        exact ⟨by rw [E.out]; rfl, g2⟩
    · have hlow := Lib.hid (R2.out (fun i h1 h2 => hl.out i h1 (by omega)))
      have gA := g1.cell (numA_get m a n hn)
      have gM := g1.cell (numA_sign m a)
      by_cases hb : bit a n = 0
      · have hb0 : (bit a n == 0) = true := by rw [hb]; rfl
        have E : Hid (r = true) := Lib.hid (R3.out hlow.out hb)
        clear hb
        go_wp2
        go_ret
        exact ⟨by rw [E.out]; rfl, g2⟩
      · have hb0 : (bit a n == 0) = false := by simpa using hb
        have htop := Lib.hid (R4.out hlow.out hb)
        clear hb
        go_wp2
        go_loopw [6] (fun i wr => ∃ j : Nat, j ≤ n ∧ i = .int .i64 j ∧ Hid (∀ i, i < j → bit a i = 0) ∧ Has wr w.heap.size (numA m a) 124 ∧ Below w.heap.size w wr) (fun i _ => 129 - (intOf i).toNat)
        case atStart => exact ⟨0, by omega, rfl, Lib.hid (fun i h => absurd h (by omega)), g1, g2⟩
        case round =>
          clear gA gM g1 g2
          obtain ⟨j, hj, rfl, hl2, g1, g2⟩ := hrel
          by_cases hjn : j < n
          · have gA := g1.cell (numA_get m a j (by omega))
            by_cases hb : bit a j = 0
            · have hb1 : (bit a j != 0) = false := by rw [hb]; rfl
              have HB := Lib.hid hb
              clear hb
              go_wp2
              refine ⟨⟨j + 1, by omega, by go_num, Lib.hid (fun i h2 => ?_), g1, g2⟩, by simp [intOf]; omega⟩
              by_cases h : i = j
              · subst h; exact HB.out
              · exact hl2.out i (by omega)
            · have hb1 : (bit a j != 0) = true := by simpa using hb
              have E : Hid (r = false) := Lib.hid (R5.out j htop.out hjn hb)
              clear hb
              go_wp2
              go_ret
              exact ⟨by rw [E.out]; rfl, g2⟩
          · have E : Hid (r = m) := Lib.hid (R6.out hlow.out htop.out (fun i h => hl2.out i (by omega)))
            have gM := g1.cell (numA_sign m a)
            go_wp2
            go_ret
            exact ⟨by rw [E.out]; rfl, g2⟩

theorem bits_eq {a b : Nat} (ha : a < 2 ^ 129) (hb : b < 2 ^ 129) (h : bitsA a = bitsA b) : a = b := bits_inj ha hb (by
  have := congrArg Array.toList h
  simpa [bitsA] using this)

def cmpI (x y : Int) : Int := if x < y then -1 else if x = y then 0 else 1
def CmpPost (r : Int) (w : World) (e : Ending) (w' : World) : Prop := e = .returned (.int .i64 r) ∧ Below w.heap.size w w'
set_option maxHeartbeats 4000000 in
set_option maxRecDepth 100000 in
theorem Cmp_same (m : Bool) (a b : Nat) (w : World) (ha : a < 2 ^ 129) (hb' : b < 2 ^ 129) (ha0 : a ≠ 0) (hne : a ≠ b) :
    Calls Try.prog 54 #[.agg (numA m a), .agg (numA m b)] w (CmpPost (if (decide (a < b) != m) then -1 else 1) w) := by
  obtain ⟨r, hr⟩ : ∃ r : Int, r = if (decide (a < b) != m) then -1 else 1 := ⟨_, rfl⟩
  rw [← hr]
  have Hr := Lib.hid hr
  clear hr
  have g2 := (Has.new w (numA m a) 124).alloc (.cells (numA m b) 124)
  have g3 := Has.new (w.alloc (.cells (numA m a) 124)) (numA m b) 124
  simp only [World.size_alloc] at g3
  have hb0 : Below w.heap.size w ((w.alloc (.cells (numA m a) 124)).alloc (.cells (numA m b) 124)) := by repeat' (first | exact Below.refl _ _ | refine Below.alloc ?_ ?_ _ | exact Nat.le_refl _ | (simp only [World.size_alloc]; omega))
  have HX := Lib.hid (And.intro ha hb')
  have z0 : decide (a = 0) = false := decide_eq_false ha0
  have eb : ∀ w, (binOp .eql 122 (.agg (bitsA a)) (.agg (bitsA b))).run Try.prog w = .ok (.bool false) w := fun w => by rw [eql_bits a b ha hb', decide_eq_false hne]
  have eg := guard_bits
  have ee2 : ∀ w, (Op.equalIn 10000 122 (.agg (bitsA a)) (.agg (bitsA b))).run Try.prog w = .ok false w := fun w => by rw [equalIn_bits a b ha hb', decide_eq_false hne]
  clear ha hb' ha0 hne
  go_enter Try.func54, Try.ntmps54
  go_wp2_with (first | ((with_reducible refine wl_at_load 124 ?_); refine wl_load rfl 124 _ rfl _ rfl g2 Try.underlying124 rfl infoN (numA_size _ _) ?_))
  refine (zero_any m a _ HX.out.1).mono ?_
  rintro e w1 ⟨rfl, hb⟩
  dsimp only
  rw [z0]
  replace hb0 := below_step hb0 hb (by simp only [World.size_alloc]; omega)
  replace g2 := g2.below hb; replace g3 := g3.below hb
  clear hb
  have gx := g2.cell (numA_sign m a)
  have gy := g3.cell (numA_sign m b)
  go_upto_region 9 with (first | ((with_reducible refine wl_at_load 122 ?_); refine wl_loadPart rfl 122 _ rfl _ 1 rfl g2 (bitsA _) (numA_part _ _) Try.underlying122 rfl infoB (bitsA_size _) ?_) | ((with_reducible refine wl_at_load 122 ?_); refine wl_loadPart rfl 122 _ rfl _ 1 rfl g3 (bitsA _) (numA_part _ _) Try.underlying122 rfl infoB (bitsA_size _) ?_))
  refine wp_region_held (S := fun w' => Has w' w.heap.size (numA m a) 124 ∧ Has w' (w.heap.size + 1) (numA m b) 124 ∧ Below w.heap.size w w') (by kernel_rfl) ?_
  have S0 : Has w1.drew w.heap.size (numA m a) 124 ∧ Has w1.drew (w.heap.size + 1) (numA m b) 124 ∧ Below w.heap.size w w1.drew := ⟨g2.drew, g3.drew, hb0.drew⟩
  refine held_pure 0 rfl (by kernel_rfl) (by kernel_rfl) (by kernel_rfl) rfl (.pointer (some ⟨w.heap.size, 1, none⟩)) (fun w' _ => by simp [execOp, go_sem]) (fun _ _ _ h => h) S0 ?_
  refine held_part 1 rfl (by kernel_rfl) (by kernel_rfl) (by kernel_rfl) rfl 122 _ rfl w.heap.size 1 rfl (fun w' h => h.1) (bitsA a) (numA_part _ _) Try.underlying122 rfl infoB (bitsA_size _) (fun _ _ _ h => h) S0 ?_
  refine held_pure 2 rfl (by kernel_rfl) (by kernel_rfl) (by kernel_rfl) rfl (.pointer (some ⟨w.heap.size + 1, 1, none⟩)) (fun w' _ => by simp [execOp, go_sem]) (fun _ _ _ h => h) S0 ?_
  refine held_part 3 rfl (by kernel_rfl) (by kernel_rfl) (by kernel_rfl) rfl 122 _ rfl (w.heap.size + 1) 1 rfl (fun w' h => h.2.1) (bitsA b) (numA_part _ _) Try.underlying122 rfl infoB (bitsA_size _) (fun _ _ _ h => h) S0 ?_
  refine held_pure 5 rfl (by kernel_rfl) (by kernel_rfl) (by kernel_rfl) rfl (.pointer (some ⟨w.heap.size, 0, none⟩)) (fun w' _ => by simp [execOp, go_sem]) (fun _ _ _ h => h) S0 ?_
  refine held_pure 6 rfl (by kernel_rfl) (by kernel_rfl) (by kernel_rfl) rfl (.bool m) (fun w' h => by have c := h.1.cell (numA_sign m a); simp [execOp, go_sem, c]) (fun _ _ _ h => h) S0 ?_
  refine held_step 4 rfl (by kernel_rfl) rfl (fun K hK => ?_)
  go_step
  refine (Less_any a b _ HX.out.1 HX.out.2).mono ?_
  rintro e w2 ⟨rfl, k2⟩
  dsimp only
  have S1 : Has w2 w.heap.size (numA m a) 124 ∧ Has w2 (w.heap.size + 1) (numA m b) 124 ∧ Below w.heap.size w w2 := ⟨S0.1.below k2, S0.2.1.below k2, below_step S0.2.2 k2 S0.2.2.size⟩
  refine hK _ _ S1 ?_
  clear hK K k2 S0 gx gy g2 g3 hb0 eb ee2 eg
  generalize decide (a < b) = l at *
  refine held_pure 7 rfl (by kernel_rfl) (by kernel_rfl) (by kernel_rfl) rfl (.bool (l != m)) (fun w' _ => by cases l <;> cases m <;> simp [execOp, go_sem]) (fun _ _ _ h => h) S1 ?_
  refine wpAnyH_done (by kernel_rfl) ?_ _
  generalize (l != m) = q at *
  cases q
  · go_wp2
    go_ret
    exact ⟨by rw [Hr.out]; rfl, S1.2.2⟩
  · go_wp2
    go_ret
    exact ⟨by rw [Hr.out]; rfl, S1.2.2⟩

set_option maxHeartbeats 1000000 in
set_option maxRecDepth 100000 in
theorem Cmp_equal (m : Bool) (a : Nat) (w : World) (ha : a < 2 ^ 129) (ha0 : a ≠ 0) :
    Calls Try.prog 54 #[.agg (numA m a), .agg (numA m a)] w (CmpPost 0 w) := by
  have g2 := (Has.new w (numA m a) 124).alloc (.cells (numA m a) 124)
  have g3 := Has.new (w.alloc (.cells (numA m a) 124)) (numA m a) 124
  simp only [World.size_alloc] at g3
  have hb0 : Below w.heap.size w ((w.alloc (.cells (numA m a) 124)).alloc (.cells (numA m a) 124)) := by repeat' (first | exact Below.refl _ _ | refine Below.alloc ?_ ?_ _ | exact Nat.le_refl _ | (simp only [World.size_alloc]; omega))
  have HX := Lib.hid ha
  have z0 : decide (a = 0) = false := decide_eq_false ha0
  have eb : ∀ w, (binOp .eql 122 (.agg (bitsA a)) (.agg (bitsA a))).run Try.prog w = .ok (.bool true) w := fun w => by rw [eql_bits a a ha ha, decide_eq_true rfl]
  have eg := guard_bits
  have ee2 : ∀ w, (Op.equalIn 10000 122 (.agg (bitsA a)) (.agg (bitsA a))).run Try.prog w = .ok true w := fun w => by rw [equalIn_bits a a ha ha, decide_eq_true rfl]
  clear ha ha0
  go_enter Try.func54, Try.ntmps54
  go_wp2_with (first | ((with_reducible refine wl_at_load 124 ?_); refine wl_load rfl 124 _ rfl _ rfl g2 Try.underlying124 rfl infoN (numA_size _ _) ?_))
  refine (zero_any m a _ HX.out).mono ?_
  rintro e w1 ⟨rfl, hb⟩
  dsimp only
  rw [z0]
  replace hb0 := below_step hb0 hb (by simp only [World.size_alloc]; omega)
  replace g2 := g2.below hb; replace g3 := g3.below hb
  clear hb
  have gx := g2.cell (numA_sign m a)
  have gy := g3.cell (numA_sign m a)
  go_wp2_with (first | ((with_reducible refine wl_at_load 122 ?_); refine wl_loadPart rfl 122 _ rfl _ 1 rfl g2 (bitsA _) (numA_part _ _) Try.underlying122 rfl infoB (bitsA_size _) ?_) | ((with_reducible refine wl_at_load 122 ?_); refine wl_loadPart rfl 122 _ rfl _ 1 rfl g3 (bitsA _) (numA_part _ _) Try.underlying122 rfl infoB (bitsA_size _) ?_))
  go_ret
  exact ⟨rfl, hb0⟩

/-- Of two numbers from 0 on, the first one not 0. -/
theorem Cmp_pos (a b : Nat) (w : World) (ha : a < 2 ^ 129) (hb : b < 2 ^ 129) (ha0 : a ≠ 0) :
    Calls Try.prog 54 #[.agg (numA false a), .agg (numA false b)] w (CmpPost (if a < b then -1 else if a = b then 0 else 1) w) := by
  by_cases h : a = b
  · subst h
    rw [if_neg (by omega), if_pos rfl]
    exact Cmp_equal false a w ha ha0
  · have := Cmp_same false a b w ha hb ha0 h
    rw [if_neg h]
    by_cases hl : a < b <;> simpa [hl] using this

end Go.Proofs.Ytogbnecgikbkmaa
