/-
  Lemmas and walks of this claim (the texts Eq M03 of the work; what no proof here uses is left out). No claim of their own.
-/
import Derived.Test.YtpejoaefnnbghaaPG11
import Derived.Laws.StructEq
import Derived.Test.YtpejoaefnnbghaaPG3
set_option linter.all false
set_option linter.unusedSimpArgs false
set_option linter.unusedVariables false
namespace Go.Proofs.Ytpejoaefnnbghaa
open Go.RowKit
set_option linter.unusedVariables false

def sameOn (xs ys : Array Value) : List Nat → Bool
  | [] => true
  | i :: r => (match xs[i]?, ys[i]? with | some (.int _ p), some (.int _ q) => p == q | _, _ => false) && sameOn xs ys r

theorem run_loop (d : Nat) (xs ys : Array Value) (w : World) : ∀ (l : List Nat), (∀ i ∈ l, ∃ p q, xs[i]? = some (.int .i64 p) ∧ ys[i]? = some (.int .i64 q)) →
    (forIn l ((none, ()) : Option Bool × Unit) (fun i _ => do
        let a ← part 3 xs (i * 1)
        let b ← part 3 ys (i * 1)
        let c ← Op.equalIn (d + 1) 3 a b
        if (!c) = true then pure (ForInStep.done (some false, ())) else pure (ForInStep.yield (none, ())) : Nat → Option Bool × Unit → Sem (ForInStep (Option Bool × Unit))) : Sem (Option Bool × Unit)).run Try.prog w = .ok (if sameOn xs ys l then (none, ()) else (some false, ())) w := by
  intro l
  induction l with
  | nil => intro _; simp [sameOn]
  | cons i r ih =>
    intro h
    obtain ⟨p, q, hx, hy⟩ := h i (by simp)
    have ih' := ih (fun j hj => h j (by simp [hj]))
    have e1 : ∀ w, (part 3 xs (i * 1)).run Try.prog w = .ok (.int .i64 p) w := fun w => by
      rw [Nat.mul_one]; simp [Sem.run_bind, part, isAgg, run_underlying Try.underlying3, hx]
    have e2 : ∀ w, (part 3 ys (i * 1)).run Try.prog w = .ok (.int .i64 q) w := fun w => by
      rw [Nat.mul_one]; simp [Sem.run_bind, part, isAgg, run_underlying Try.underlying3, hy]
    have e3 : ∀ w, (Op.equalIn (d + 1) 3 (.int .i64 p) (.int .i64 q)).run Try.prog w = .ok (p == q) w := fun w => by
      simp [Op.equalIn, run_underlying Try.underlying3]
    have es : sameOn xs ys (i :: r) = ((p == q) && sameOn xs ys r) := by simp [sameOn, hx, hy]
    rw [es]
    simp only [List.forIn_cons, Sem.run_bind, e1, e2, e3, Result.andThen_ok]
    cases hpq : (p == q)
    · simp
    · simp only [Bool.not_true, Bool.false_eq_true, if_false, Sem.run_pure, Result.andThen_ok, Bool.true_and]
      exact ih'

theorem sameOn_bits (a b : Nat) : ∀ l : List Nat, (∀ i ∈ l, i < 129) → sameOn (bitsA a) (bitsA b) l = decide (∀ i ∈ l, bit a i = bit b i)
  | [], _ => by simp [sameOn]
  | i :: r, h => by
    have ih := sameOn_bits a b r (fun j hj => h j (by simp [hj]))
    simp only [sameOn, bitsA_get a i (h i (by simp)), bitsA_get b i (h i (by simp)), ih]
    by_cases hb : bit a i = bit b i <;> simp [hb]

theorem size_int : ∀ w, (sizeOf 3).run Try.prog w = .ok 1 w := fun w => by kernel_rfl

theorem equalIn_bits (a b : Nat) (ha : a < 2 ^ 129) (hb : b < 2 ^ 129) (w : World) : (Op.equalIn 10000 45 (.agg (bitsA a)) (.agg (bitsA b))).run Try.prog w = .ok (decide (a = b)) w := by
  rw [show (10000 : Nat) = 9998 + 2 from rfl]
  unfold Op.equalIn
  simp only [Sem.run_bind, run_underlying Try.underlying45, Result.andThen_ok]
  simp only [Std.Legacy.Range.forIn_eq_forIn_range', size_int, Result.andThen_ok]
  have hl := run_loop 9998 (bitsA a) (bitsA b) w (List.range' 0 129) (fun i hi => by
    have : i < 129 := by simpa using (List.mem_range'_1.1 hi).2
    exact ⟨_, _, bitsA_get a i this, bitsA_get b i this⟩)
  have es := sameOn_bits a b (List.range' 0 129) (fun i hi => by simpa using (List.mem_range'_1.1 hi).2)
  have ed : decide (∀ i ∈ List.range' 0 129, bit a i = bit b i) = decide (a = b) := by
    rw [decide_eq_decide]
    constructor
    · intro h
      apply bits_inj ha hb
      unfold bitsL
      apply List.map_congr_left
      intro i hi
      rw [h i (by rw [List.mem_range'_1]; simpa using hi)]
    · intro h; subst h; intros; rfl
  rw [es, ed] at hl
  rw [show [:129].size = 129 from rfl]
  rw [hl]
  by_cases hab : a = b <;> simp [hab]
theorem eql_bits (a b : Nat) (ha : a < 2 ^ 129) (hb : b < 2 ^ 129) (w : World) : (binOp .eql 45 (.agg (bitsA a)) (.agg (bitsA b))).run Try.prog w = .ok (.bool (decide (a = b))) w := by
  rw [run_eql_struct, equalIn_bits a b ha hb]; rfl
theorem guard_bits (x y : Operand) (xs ys : Array Value) (w : World) : (eqGuard .eql 45 x y (.agg xs) (.agg ys)).run Try.prog w = .ok () w := run_eqGuard_agg w .eql 45 x y xs ys (by kernel_rfl)
end Go.Proofs.Ytpejoaefnnbghaa
namespace Go.Proofs.Ytpejoaefnnbghaa
open Go.RowKit
set_option linter.unusedVariables false

set_option maxRecDepth 100000 in
theorem Less_any (a b : Nat) (w : World) (ha : a < 2 ^ 129) (hb : b < 2 ^ 129) :
    Calls Try.prog 67 #[.agg (bitsA a), .agg (bitsA b)] w fun e w' => e = .returned (.bool (decide (a < b))) ∧ Below w.heap.size w w' := by
  have H0 : Hid (a / 2 ^ 129 = b / 2 ^ 129) := Lib.hid (by rw [Nat.div_eq_of_lt ha, Nat.div_eq_of_lt hb])
  clear ha hb
  go_enter Try.func67, Try.ntmps67
  go_wp2
  go_loopw [5] (fun i wr => ∃ (j : Nat) (z : Int), j ≤ 129 ∧ z = (j : Int) - 1 ∧ i = .int .i64 z ∧ Hid (a / 2 ^ j = b / 2 ^ j) ∧ Has wr w.heap.size (bitsA a) 45 ∧ Has wr (w.heap.size + 1) (bitsA b) 45 ∧ Below w.heap.size w wr) (fun i _ => (intOf i + 1).toNat)
  case atStart =>
    refine ⟨129, 128, by omega, by omega, rfl, H0, (Has.new _ _ _).alloc _, ?_, ?_⟩
    · have := Has.new (w.alloc (.cells (bitsA a) 45)) (bitsA b) 45
      simpa only [World.size_alloc] using this
    · repeat' (first | exact Below.refl _ _ | refine Below.alloc ?_ ?_ _ | exact Nat.le_refl _ | (simp only [World.size_alloc]; omega))
  case round =>
    obtain ⟨j, z, hj, hz, rfl, H, g1, g2, g3⟩ := hrel
    rcases j with _ | j
    · obtain rfl : z = -1 := by omega
      have E : Hid (decide (a < b) = false) := Lib.hid (decide_eq_false (by have := H.out; simp at this; omega))
      clear hz H
      go_wp2
      go_ret
      exact ⟨by rw [E.out]; rfl, g3⟩
    · obtain rfl : z = (j : Int) := by omega
      clear hz
      have gA := g1.cell (bitsA_get a j (by omega))
      have gB := g2.cell (bitsA_get b j (by omega))
      by_cases hbit : bit a j = bit b j
      · have T : (bit a j != bit b j) = false := by rw [hbit]; simp
        have H' : Hid (a / 2 ^ j = b / 2 ^ j) := Lib.hid (div_eq_succ H.out hbit)
        clear hbit
        generalize bit a j = p at *
        generalize bit b j = q at *
        go_wp2
        go_quiet (fail)
        go_wp2
        refine ⟨⟨j, _, by omega, rfl, rfl, H', g1.drewN _, g2.drewN _, below_drewN g3 _⟩, by simp [intOf]⟩
      · have T : (bit a j != bit b j) = true := by simpa using hbit
        have E : Hid (decide (bit a j < bit b j) = decide (a < b)) := Lib.hid (lt_of_bit H.out hbit)
        clear hbit
        generalize bit a j = p at *
        generalize bit b j = q at *
        go_wp2
        go_quiet (fail)
        go_wp2
        go_quiet (fail)
        go_wp2
        go_ret
        exact ⟨by rw [← E.out]; rfl, below_drewN (below_drewN g3 _) _⟩

set_option maxHeartbeats 1000000 in
set_option maxRecDepth 100000 in
theorem sub_any (a b : Nat) (w : World) (h : b ≤ a) (ha : a < 2 ^ 129) :
    Calls Try.prog 68 #[.agg (bitsA a), .agg (bitsA b)] w fun e w' => e = .returned (.agg (bitsA (a - b))) ∧ Below w.heap.size w w' := by
  have hz := zeroB
  have HE : Hid ((a - b) % 2 ^ 129 = a - b) := Lib.hid (Nat.mod_eq_of_lt (by omega))
  have HL := Lib.hid h
  clear h ha
  go_enter Try.func68, Try.ntmps68
  go_wp2
  go_loopw [6, 7, 8] (fun c i _ wr => ∃ k : Nat, k ≤ 129 ∧ i = .int .i64 k ∧ c = .int .i64 (bor a b k) ∧ Has wr w.heap.size (bitsA a) 45 ∧ Has wr (w.heap.size + 1) (bitsA b) 45 ∧ Has wr (w.heap.size + 1 + 1) (bitsA 0) 45 ∧ Has wr (w.heap.size + 1 + 1 + 1) (bitsA ((a - b) % 2 ^ k)) 45 ∧ Below w.heap.size w wr) (fun _ i _ _ => 129 - (intOf i).toNat)
  case atStart =>
    refine ⟨0, by omega, rfl, by rw [bor_zero]; rfl, (((Has.new _ _ _).alloc _).alloc _).alloc _, ?_, ?_, ?_, ?_⟩
    · have := ((Has.new (w.alloc (.cells (bitsA a) 45)) (bitsA b) 45).alloc (.cells (bitsA 0) 45)).alloc (.cells (bitsA 0) 45)
      simpa only [World.size_alloc] using this
    · have := (Has.new ((w.alloc (.cells (bitsA a) 45)).alloc (.cells (bitsA b) 45)) (bitsA 0) 45).alloc (.cells (bitsA 0) 45)
      simpa only [World.size_alloc] using this
    · have := Has.new (((w.alloc (.cells (bitsA a) 45)).alloc (.cells (bitsA b) 45)).alloc (.cells (bitsA 0) 45)) (bitsA 0) 45
      rw [Nat.pow_zero, Nat.mod_one]
      simpa only [World.size_alloc] using this
    · repeat' (first | exact Below.refl _ _ | refine Below.alloc ?_ ?_ _ | exact Nat.le_refl _ | (simp only [World.size_alloc]; omega))
  case round =>
    obtain ⟨k, hk, rfl, rfl, g1, g2, g3, g4, g5⟩ := hrel
    by_cases hlt : k < 129
    · have gA := g1.cell (bitsA_get a k hlt)
      have gB := g2.cell (bitsA_get b k hlt)
      have gO := g4.cell (bitsA_get ((a - b) % 2 ^ k) k hlt)
      have fO := g4.free k
      have hs := Lib.hid (bor_succ a b k HL.out)
      have hbit := Lib.hid (bor_bit a b k HL.out)
      have bA := bit_bd a k
      have bB := bit_bd b k
      have bC := bor_le a b k
      have hst := Lib.hid (bitsA_step (a - b) k hlt)
      generalize bor a b k = c at *
      generalize bit a k = p at *
      generalize bit b k = q at *
      by_cases hneg : p - q - (c : Int) < 0
      · have T : decide (p - q - (c : Int) < 0) = true := decide_eq_true hneg
        rw [if_pos hneg] at hs hbit
        clear hneg
        go_wp2
        go_quiet (fail)
        go_wp2
        refine ⟨⟨k + 1, by omega, by go_num, by rw [hs.out]; rfl, (g1.drewN _).keep (by simp only []; omega) _, (g2.drewN _).keep (by simp only []; omega) _, (g3.drewN _).keep (by simp only []; omega) _, ?_, (below_drewN g5 _).setCell (by simp only []; omega) _⟩, by simp [intOf]; omega⟩
        rw [← hst.out, hbit.out]; exact (g4.drewN _).set _ _
      · have T : decide (p - q - (c : Int) < 0) = false := decide_eq_false hneg
        rw [if_neg hneg] at hs hbit
        clear hneg
        go_wp2
        go_quiet (fail)
        go_wp2
        refine ⟨⟨k + 1, by omega, by go_num, by rw [hs.out]; rfl, (g1.drewN _).keep (by simp only []; omega) _, (g2.drewN _).keep (by simp only []; omega) _, (g3.drewN _).keep (by simp only []; omega) _, ?_, (below_drewN g5 _).setCell (by simp only []; omega) _⟩, by simp [intOf]; omega⟩
        rw [← hst.out, hbit.out]; exact (g4.drewN _).set _ _
    · have hk9 : Hid (k = 129) := Lib.hid (by omega)
      go_wp2_with (first|((with_reducible refine wl_at_load 45 ?_);refine wl_load rfl 45 _ rfl _ rfl g4 Try.underlying45 rfl infoB (bitsA_size _) ?_)|((with_reducible refine wl_at_store 45 ?_);refine wl_store rfl 45 _ _ rfl _ _ rfl rfl g3 infoB (bitsA_size _) (bitsA_size _) (bitsA_ones _) rfl ?_))
      refine bodyPost_ret (results_has rfl _ rfl (g3.row _) Try.underlying45 rfl infoB (bitsA_size _)) rfl ⟨by rw [hk9.out, HE.out], below_setRow g5 (by omega) _⟩

def room (n : Nat) (z : Int) : Bool := decide (-(2 ^ n : Nat) ≤ z) && decide (z < (2 ^ n : Nat))
theorem room_high {z : Int} {n j : Nat} (h : bit z.natAbs j ≠ 0) (hj : n < j) : room n z = false := by
  have : 2 ^ j ≤ z.natAbs := by
    rcases Nat.lt_or_ge z.natAbs (2 ^ j) with hlt | hge
    · exact absurd (bit_big _ _ hlt) h
    · exact hge
  have h2 : 2 ^ (n + 1) ≤ 2 ^ j := Nat.pow_le_pow_right (by omega) (by omega)
  have hp := Nat.two_pow_pos n
  rw [Nat.pow_succ] at h2
  unfold room
  by_cases hz : z < 0
  · rw [decide_eq_false (by omega)]; rfl
  · rw [show decide (z < (2 ^ n : Nat)) = false from decide_eq_false (by omega), Bool.and_false]
theorem low_of_high {a n : Nat} (ha : a < 2 ^ 129) (hn : n < 129) (h : ∀ i, n + 1 ≤ i → i < 129 → bit a i = 0) : a < 2 ^ (n + 1) := by
  have e : a % 2 ^ (n + 1) = a := by
    apply Nat.eq_of_testBit_eq
    intro i
    rw [Nat.testBit_mod_two_pow]
    by_cases hi : i < n + 1
    · simp [hi]
    · have : a.testBit i = false := by
        by_cases h2 : i < 129
        · have := h i (by omega) h2
          rw [bit_test] at this
          cases ht : a.testBit i
          · rfl
          · simp [ht] at this
        · exact Nat.testBit_lt_two_pow (Nat.lt_of_lt_of_le ha (Nat.pow_le_pow_right (by omega) (by omega)))
      simp [hi, this]
  rw [← e]; exact Nat.mod_lt _ (Nat.two_pow_pos _)
theorem room_yes {z : Int} {n : Nat} (h : z.natAbs < 2 ^ (n + 1)) (hb : bit z.natAbs n = 0) : room n z = true := by
  rw [Nat.pow_succ] at h
  have hp := Nat.two_pow_pos n
  have : z.natAbs < 2 ^ n := by
    unfold bit at hb
    have h2 : z.natAbs / 2 ^ n < 2 := (Nat.div_lt_iff_lt_mul hp).2 (by omega)
    refine div_all ?_
    generalize z.natAbs / 2 ^ n = q at *
    omega
  unfold room
  rw [decide_eq_true (by omega), decide_eq_true (by omega)]; rfl
theorem room_top {z : Int} {n : Nat} (h : z.natAbs < 2 ^ (n + 1)) (hb : bit z.natAbs n ≠ 0) : 2 ^ n ≤ z.natAbs := by
  rcases Nat.lt_or_ge z.natAbs (2 ^ n) with hlt | hge
  · exact absurd (bit_big _ _ hlt) hb
  · exact hge
theorem room_odd {z : Int} {n j : Nat} (ht : 2 ^ n ≤ z.natAbs) (hj : j < n) (hb : bit z.natAbs j ≠ 0) : room n z = false := by
  have hne : z.natAbs ≠ 2 ^ n := by
    intro e
    apply hb
    rw [e]
    unfold bit
    rw [Nat.pow_div (by omega) (by omega), show n - j = (n - j - 1) + 1 by omega, Nat.pow_succ]; omega
  unfold room
  by_cases hz : z < 0
  · rw [decide_eq_false (by omega)]; rfl
  · rw [show decide (z < (2 ^ n : Nat)) = false from decide_eq_false (by omega), Bool.and_false]
theorem room_least {z : Int} {n : Nat} (h : z.natAbs < 2 ^ (n + 1)) (ht : 2 ^ n ≤ z.natAbs) (hl : ∀ i, i < n → bit z.natAbs i = 0) : room n z = decide (z < 0) := by
  have e : z.natAbs = 2 ^ n := by
    have hm : z.natAbs % 2 ^ n = 0 := by
      apply Nat.eq_of_testBit_eq
      intro i
      rw [Nat.testBit_mod_two_pow, Nat.zero_testBit]
      by_cases hi : i < n
      · have := hl i hi
        rw [bit_test] at this
        cases hb : z.natAbs.testBit i
        · simp
        · simp [hb] at this
      · simp [hi]
    rw [Nat.pow_succ] at h
    obtain ⟨q, hq⟩ := Nat.dvd_of_mod_eq_zero hm
    have hp := Nat.two_pow_pos n
    have : q = 1 := by
      rcases q with _ | _ | q
      · omega
      · rfl
      · rw [hq] at h
        have : 2 ^ n * 2 ≤ 2 ^ n * (q + 1 + 1) := Nat.mul_le_mul_left _ (by omega)
        omega
    rw [hq, this, Nat.mul_one]
  have hp := Nat.two_pow_pos n
  unfold room
  by_cases hz : z < 0
  · rw [decide_eq_true (by omega), decide_eq_true (by omega), decide_eq_true hz]; rfl
  · rw [show decide (z < (2 ^ n : Nat)) = false from decide_eq_false (by omega), Bool.and_false, decide_eq_false hz]

set_option maxHeartbeats 2000000 in
set_option maxRecDepth 100000 in
theorem fits_any (z : Int) (n : Nat) (w : World) (hz : z.natAbs < 2 ^ 129) (hn : n < 129) :
    Calls Try.prog 70 #[.agg (numI z), .int .i64 n] w fun e w' => e = .returned (.bool (room n z)) ∧ Below w.heap.size w w' := by
  have HZ := Lib.hid hz
  have en : numI z = numA (decide (z < 0)) z.natAbs := rfl
  have R1 := Lib.hid (fun j => @room_high z n j)
  have R2 := Lib.hid (@low_of_high z.natAbs n hz hn)
  have R3 := Lib.hid (@room_yes z n)
  have R4 := Lib.hid (@room_top z n)
  have R5 := Lib.hid (fun j => @room_odd z n j)
  have R6 := Lib.hid (@room_least z n)
  rw [en]
  clear hz en
  generalize decide (z < 0) = m at *
  generalize z.natAbs = a at *
  generalize room n z = r at *
  go_enter Try.func70, Try.ntmps70
  go_wp2
  go_loopw [5] (fun i wr => ∃ k : Nat, n + 1 ≤ k ∧ k ≤ 129 ∧ i = .int .i64 k ∧ Hid (∀ i, n + 1 ≤ i → i < k → bit a i = 0) ∧ Has wr w.heap.size (numA m a) 47 ∧ Below w.heap.size w wr) (fun i _ => 129 - (intOf i).toNat)
  case atStart => exact ⟨n + 1, by omega, by omega, by go_num, Lib.hid (fun i h1 h2 => absurd h2 (by omega)), Has.new _ _ _, by repeat' (first|exact Below.refl _ _|refine Below.alloc ?_ ?_ _|exact Nat.le_refl _|(simp only [World.size_alloc];omega))⟩
  case round =>
    obtain ⟨k, hk1, hk, rfl, hl, g1, g2⟩ := hrel
    by_cases hlt : k < 129
    · have gA := g1.cell (numA_get m a k hlt)
      by_cases hb : bit a k = 0
      · have hb0 : (bit a k != 0) = false := by rw [hb]; rfl
        have HB := Lib.hid hb
        clear hb
        go_wp2
        refine ⟨⟨k + 1, by omega, by omega, by go_num, Lib.hid (fun i h1 h2 => ?_), g1, g2⟩, by simp [intOf]; omega⟩
        by_cases h : i = k
        · subst h; exact HB.out
        · exact hl.out i h1 (by omega)
      · have hb0 : (bit a k != 0) = true := by simpa using hb
        have E : Hid (r = false) := Lib.hid (R1.out k hb (by omega))
        clear hb
        go_wp2
        go_ret
        exact ⟨by rw [E.out]; rfl, g2⟩
    · have hlow := Lib.hid (R2.out (fun i h1 h2 => hl.out i h1 (by omega)))
      have gA := g1.cell (numA_get m a n hn)
      have gM := g1.cell (numA_sign m a)
      by_cases hb : bit a n = 0
      · have hb0 : (bit a n == 0) = true := by rw [hb]; rfl
        have E : Hid (r = true) := Lib.hid (R3.out hlow.out hb)
        clear hb
        go_wp2
        go_ret
        exact ⟨by rw [E.out]; rfl, g2⟩
      · have hb0 : (bit a n == 0) = false := by simpa using hb
        have htop := Lib.hid (R4.out hlow.out hb)
        clear hb
        go_wp2
        go_loopw [6] (fun i wr => ∃ j : Nat, j ≤ n ∧ i = .int .i64 j ∧ Hid (∀ i, i < j → bit a i = 0) ∧ Has wr w.heap.size (numA m a) 47 ∧ Below w.heap.size w wr) (fun i _ => 129 - (intOf i).toNat)
        case atStart => exact ⟨0, by omega, rfl, Lib.hid (fun i h => absurd h (by omega)), g1, g2⟩
        case round =>
          clear gA gM g1 g2
          obtain ⟨j, hj, rfl, hl2, g1, g2⟩ := hrel
          by_cases hjn : j < n
          · have gA := g1.cell (numA_get m a j (by omega))
            by_cases hb : bit a j = 0
            · have hb1 : (bit a j != 0) = false := by rw [hb]; rfl
              have HB := Lib.hid hb
              clear hb
              go_wp2
              refine ⟨⟨j + 1, by omega, by go_num, Lib.hid (fun i h2 => ?_), g1, g2⟩, by simp [intOf]; omega⟩
              by_cases h : i = j
              · subst h; exact HB.out
              · exact hl2.out i (by omega)
            · have hb1 : (bit a j != 0) = true := by simpa using hb
              have E : Hid (r = false) := Lib.hid (R5.out j htop.out hjn hb)
              clear hb
              go_wp2
              go_ret
              exact ⟨by rw [E.out]; rfl, g2⟩
          · have E : Hid (r = m) := Lib.hid (R6.out hlow.out htop.out (fun i h => hl2.out i (by omega)))
            have gM := g1.cell (numA_sign m a)
            go_wp2
            go_ret
            exact ⟨by rw [E.out]; rfl, g2⟩

end Go.Proofs.Ytpejoaefnnbghaa
