/-
  Lemmas and walks of this claim (the texts N03 of the work; what no proof here uses is left out). No claim of their own.
-/
import Derived.Test.YtpejoaefnnbghaaPG3
import Derived.Test.YtpejoaefnnbghaaProg
import Derived.Deep.QuietTactic
import Derived.BigQuiet
import Derived.Deep.Cut
import Derived.Deep.LoopGhost
import Derived.WalkLawsBesides
import Derived.WalkSpells
set_option linter.all false
set_option linter.unusedSimpArgs false
set_option linter.unusedVariables false
namespace Go.Proofs.Ytpejoaefnnbghaa
open Go.RowKit

theorem zeroB (w : World) : (zeroValue 45).run Try.prog w = .ok (.agg (bitsA 0)) w := by kernel_rfl
theorem zeroN (w : World) : (zeroValue 47).run Try.prog w = .ok (.agg (numA false 0)) w := by kernel_rfl
theorem infoB : (Try.prog.info? 45).map (·.size) = some 129 := by kernel_rfl
theorem infoN : (Try.prog.info? 47).map (·.size) = some 130 := by kernel_rfl
theorem builtN (m : Bool) : Try.prog.built 47 [(0, .bool m)] = some (numA m 0) := by kernel_rfl

set_option maxRecDepth 100000 in
theorem addBits_any (a b : Nat) (w : World) :
    Calls Try.prog 66 #[.agg (bitsA a), .agg (bitsA b)] w fun e w' => e = .returned (.agg (bitsA ((a + b) % top))) ∧ Below w.heap.size w w' := by
  have hz := zeroB
  go_enter Try.func66, Try.ntmps66
  go_wp2
  go_loopw [6, 7, 8] (fun c i _ wr => ∃ k : Nat, k ≤ 129 ∧ i = .int .i64 k ∧ c = .int .i64 (car a b k) ∧ Has wr w.heap.size (bitsA a) 45 ∧ Has wr (w.heap.size + 1) (bitsA b) 45 ∧ Has wr (w.heap.size + 1 + 1) (bitsA 0) 45 ∧ Has wr (w.heap.size + 1 + 1 + 1) (bitsA ((a + b) % 2 ^ k)) 45 ∧ Below w.heap.size w wr) (fun _ i _ _ => 129 - (intOf i).toNat)
  case atStart =>
    refine ⟨0, by omega, rfl, by rw [car_zero]; rfl, (((Has.new _ _ _).alloc _).alloc _).alloc _, ?_, ?_, ?_, ?_⟩
    · have := ((Has.new (w.alloc (.cells (bitsA a) 45)) (bitsA b) 45).alloc (.cells (bitsA 0) 45)).alloc (.cells (bitsA 0) 45)
      simpa only [World.size_alloc] using this
    · have := (Has.new ((w.alloc (.cells (bitsA a) 45)).alloc (.cells (bitsA b) 45)) (bitsA 0) 45).alloc (.cells (bitsA 0) 45)
      simpa only [World.size_alloc] using this
    · have := Has.new (((w.alloc (.cells (bitsA a) 45)).alloc (.cells (bitsA b) 45)).alloc (.cells (bitsA 0) 45)) (bitsA 0) 45
      rw [Nat.pow_zero, Nat.mod_one]
      simpa only [World.size_alloc] using this
    · repeat' (first | exact Below.refl _ _ | refine Below.alloc ?_ ?_ _ | exact Nat.le_refl _ | (simp only [World.size_alloc]; omega))
  case round =>
    obtain ⟨k, hk, rfl, rfl, g1, g2, g3, g4, g5⟩ := hrel
    by_cases hlt : k < 129
    · have gA := g1.cell (bitsA_get a k hlt)
      have gB := g2.cell (bitsA_get b k hlt)
      have gO := g4.cell (bitsA_get ((a + b) % 2 ^ k) k hlt)
      have fO := g4.free k
      have bA := bit_bd a k
      have bB := bit_bd b k
      have bC := car_le a b k
      go_wp2
      go_quiet (fail)
      go_wp2
      rw [car_bit, car_succ]
      refine ⟨⟨k + 1, by omega, by go_num, rfl, (g1.drewN _).keep (by simp only []; omega) _, (g2.drewN _).keep (by simp only []; omega) _, (g3.drewN _).keep (by simp only []; omega) _, ?_, (below_drewN g5 _).setCell (by simp only []; omega) _⟩, by simp [intOf]; omega⟩
      rw [← bitsA_step _ _ hlt]; exact (g4.drewN _).set _ _
    · have hk9 : Hid (k = 129) := Lib.hid (by omega)
      go_wp2_with (first|((with_reducible refine wl_at_load 45 ?_);refine wl_load rfl 45 _ rfl _ rfl g4 Try.underlying45 rfl infoB (bitsA_size _) ?_)|((with_reducible refine wl_at_store 45 ?_);refine wl_store rfl 45 _ _ rfl _ _ rfl rfl g3 infoB (bitsA_size _) (bitsA_size _) (bitsA_ones _) rfl ?_))
      refine bodyPost_ret (results_has rfl _ rfl (g3.row _) Try.underlying45 rfl infoB (bitsA_size _)) rfl ⟨by rw [hk9.out]; rfl, below_setRow g5 (by omega) _⟩

theorem shift_any (a : Nat) (w : World) :
    Calls Try.prog 71 #[.agg (bitsA a)] w fun e w' => e = .returned (.agg (bitsA ((a + a) % top))) ∧ Below w.heap.size w w' := by
  have hz := zeroB
  have h1 : Has ((w.alloc (.cells (bitsA a) 45)).alloc (.cells (bitsA 0) 45)) w.heap.size (bitsA a) 45 := (Has.new _ _ _).alloc _
  have h2 : Has ((w.alloc (.cells (bitsA a) 45)).alloc (.cells (bitsA 0) 45)) (w.heap.size + 1) (bitsA 0) 45 := by
    have := Has.new (w.alloc (.cells (bitsA a) 45)) (bitsA 0) 45
    simpa only [World.size_alloc] using this
  have hb0 : Below w.heap.size w ((w.alloc (.cells (bitsA a) 45)).alloc (.cells (bitsA 0) 45)) := by
    repeat' (first | exact Below.refl _ _ | refine Below.alloc ?_ ?_ _ | exact Nat.le_refl _ | (simp only [World.size_alloc]; omega))
  go_enter Try.func71, Try.ntmps71
  go_wp2_with ((with_reducible refine wl_at_load 45 ?_); refine wl_load rfl 45 _ rfl _ rfl h1 Try.underlying45 rfl infoB (bitsA_size _) ?_)
  refine (addBits_any _ _ _).mono ?_
  rintro e w1 ⟨rfl, hb⟩
  have h3 := h2.below hb
  have hb1 := below_step hb0 hb (by simp only [World.size_alloc]; omega)
  clear h1 h2 hb hb0
  go_wp2_with ((with_reducible refine wl_at_store 45 ?_); refine wl_store rfl 45 _ _ rfl _ _ rfl rfl h3 infoB (bitsA_size _) (bitsA_size _) (bitsA_ones _) rfl ?_)
  refine bodyPost_ret (results_has rfl _ rfl (h3.row _) Try.underlying45 rfl infoB (bitsA_size _)) rfl ⟨rfl, below_setRow hb1 (by omega) _⟩

set_option maxRecDepth 100000 in
theorem Of_any (x : Int) (w : World) (h0 : -9223372036854775808 ≤ x) (h1 : x ≤ 9223372036854775807) :
    Calls Try.prog 59 #[.int .i64 x] w fun e w' => e = .returned (.agg (numI x)) ∧ Below w.heap.size w w' := by
  have hz := zeroN
  go_enter Try.func59, Try.ntmps59
  go_wp2_with (first|((with_reducible refine wl_at_build 47 ?_);refine wl_build rfl 47 _ rfl rfl (builtN _) ?_)|((with_reducible refine wl_at_store 47 ?_);refine wl_store_new rfl 47 _ _ rfl _ _ rfl rfl (by first|(with_reducible exact rfl)|simp only [World.size_alloc]) infoN (numA_size _ _) (numA_size _ _) (numA_ones _ _) rfl ?_))
  go_loopw [4, 5] (fun n i wr => ∃ k : Nat, k ≤ 65 ∧ i = .int .i64 k ∧ n = .int .i64 (x.tdiv (2 ^ k)) ∧ Has wr w.heap.size (numA false 0) 47 ∧ Has wr (w.heap.size + 1) (numA (decide (x < 0)) (x.natAbs % 2 ^ k)) 47 ∧ Below w.heap.size w wr) (fun _ i _ => 65 - (intOf i).toNat)
  case atStart =>
    refine ⟨0, by omega, rfl, by simp, (Has.new _ _ _).alloc _, ?_, ?_⟩
    · have := Has.new (w.alloc (.cells (numA false 0) 47)) (numA (decide (x < 0)) 0) 47
      rw [Nat.pow_zero, Nat.mod_one]
      simpa only [World.size_alloc] using this
    · repeat' (first | exact Below.refl _ _ | refine Below.alloc ?_ ?_ _ | exact Nat.le_refl _ | (simp only [World.size_alloc]; omega))
  case round =>
    obtain ⟨k, hk, rfl, rfl, g1, g2, g3⟩ := hrel
    have hs := Lib.hid (halves_succ x k)
    have ho := halves_odd x k
    have hbd := halves_bd x k h0 h1
    have hnone := Lib.hid (halves_none x k)
    generalize x.tdiv (2 ^ k) = q at *
    by_cases hlt : k < 65
    · by_cases hq : q = 0
      · have hq0 : (q != 0) = false := by simp [hq]
        have Hq := Lib.hid hq
        clear hq ho hs
        go_wp2_with (first|((with_reducible refine wl_at_load 47 ?_);refine wl_load rfl 47 _ rfl _ rfl g2 Try.underlying47 rfl infoN (numA_size _ _) ?_)|((with_reducible refine wl_at_store 47 ?_);refine wl_store rfl 47 _ _ rfl _ _ rfl rfl g1 infoN (numA_size _ _) (numA_size _ _) (numA_ones _ _) rfl ?_))
        refine bodyPost_ret (results_has rfl _ rfl (g1.row _) Try.underlying47 rfl infoN (numA_size _ _)) rfl ⟨?_, below_setRow g3 (by omega) _⟩
        rw [hnone.out Hq.out]; rfl
      · have hq0 : (q != 0) = true := by simp [hq]
        clear hnone
        by_cases hb : bit x.natAbs k = 1
        · rw [hb] at ho
          have ho' : (q.tmod 2 != 0) = true := by rw [ho]; rfl
          have gO := g2.cell (numA_get (decide (x < 0)) (x.natAbs % 2 ^ k) k (by omega))
          have fO := g2.free (1 + k)
          have Hb := Lib.hid hb
          clear ho hb
          go_wp2
          refine ⟨⟨k + 1, by omega, by go_num, by rw [hs.out], g1.keep (by simp only []; omega) _, ?_, g3.setCell (by simp only []; omega) _⟩, by simp [intOf]; omega⟩
          rw [← bit_odd Hb.out _ (by omega)]; exact g2.set _ _
        · have hb0 : Hid (bit x.natAbs k = 0) := Lib.hid (by have := bit_bd x.natAbs k; omega)
          have ho' : (q.tmod 2 != 0) = false := by rw [ho, decide_eq_false hb]
          clear ho hb
          go_wp2
          refine ⟨⟨k + 1, by omega, by go_num, by rw [hs.out], g1, ?_, g3⟩, by simp [intOf]; omega⟩
          rw [mod_skip _ _ hb0.out]; exact g2
    · have hk9 : Hid (k = 65) := Lib.hid (by omega)
      clear ho hs hnone
      go_wp2_with (first|((with_reducible refine wl_at_load 47 ?_);refine wl_load rfl 47 _ rfl _ rfl g2 Try.underlying47 rfl infoN (numA_size _ _) ?_)|((with_reducible refine wl_at_store 47 ?_);refine wl_store rfl 47 _ _ rfl _ _ rfl rfl g1 infoN (numA_size _ _) (numA_size _ _) (numA_ones _ _) rfl ?_))
      refine bodyPost_ret (results_has rfl _ rfl (g1.row _) Try.underlying47 rfl infoN (numA_size _ _)) rfl ⟨?_, below_setRow g3 (by omega) _⟩
      rw [hk9.out, halves_all x h0 h1]; rfl

set_option maxRecDepth 100000 in
theorem zero_any (m : Bool) (a : Nat) (w : World) (ha : a < 2 ^ 129) :
    Calls Try.prog 69 #[.agg (numA m a)] w fun e w' => e = .returned (.bool (decide (a = 0))) ∧ Below w.heap.size w w' := by
  have HA := Lib.hid ha
  clear ha
  go_enter Try.func69, Try.ntmps69
  go_wp2
  go_loopw [3] (fun i wr => ∃ k : Nat, k ≤ 129 ∧ i = .int .i64 k ∧ Hid (∀ i, i < k → bit a i = 0) ∧ Has wr w.heap.size (numA m a) 47 ∧ Below w.heap.size w wr) (fun i _ => 129 - (intOf i).toNat)
  case atStart => exact ⟨0, by omega, rfl, Lib.hid (fun i hi => absurd hi (by omega)), Has.new _ _ _, by repeat' (first|exact Below.refl _ _|refine Below.alloc ?_ ?_ _|exact Nat.le_refl _|(simp only [World.size_alloc];omega))⟩
  case round =>
    obtain ⟨k, hk, rfl, hz, g1, g2⟩ := hrel
    by_cases hlt : k < 129
    · have gA := g1.cell (numA_get m a k hlt)
      by_cases hb : bit a k = 0
      · have hb0 : (bit a k != 0) = false := by rw [hb]; rfl
        have HB := Lib.hid hb
        clear hb
        go_wp2
        refine ⟨⟨k + 1, by omega, by go_num, Lib.hid (fun i hi => ?_), g1, g2⟩, by simp [intOf]; omega⟩
        by_cases h : i = k
        · subst h; exact HB.out
        · exact hz.out i (by omega)
      · have hb0 : (bit a k != 0) = true := by simpa using hb
        have HB := Lib.hid hb
        clear hb
        have E : Hid (decide (a = 0) = false) := Lib.hid (decide_eq_false (fun h => HB.out (by rw [h]; simp [bit])))
        go_wp2
        go_ret
        exact ⟨by rw [E.out]; rfl, g2⟩
    · have E : Hid (decide (a = 0) = true) := Lib.hid (decide_eq_true (zero_of_bits HA.out (fun i hi => hz.out i (by omega))))
      go_wp2
      go_ret
      exact ⟨by rw [E.out]; rfl, g2⟩

set_option maxHeartbeats 8000000 in
set_option maxRecDepth 100000 in
theorem Mul_any (x y : Int) (w : World) (x0 : -9223372036854775808 ≤ x) (x1 : x ≤ 9223372036854775807) (y0 : -9223372036854775808 ≤ y) (y1 : y ≤ 9223372036854775807) :
    Calls Try.prog 31 #[.int .i64 x, .int .i64 y] w fun e w' => e = .returned (.agg (numI (x * y))) ∧ Below w.heap.size w w' := by
  have hzN := zeroN
  have hzB := zeroB
  have g4 := Has.new w (numA false 0) 47
  have hb0 : Below w.heap.size w (w.alloc (.cells (numA false 0) 47)) := by repeat' (first|exact Below.refl _ _|refine Below.alloc ?_ ?_ _|exact Nat.le_refl _|(simp only [World.size_alloc];omega))
  go_enter Try.func31, Try.ntmps31
  go_wp2_with fail
  refine (Of_any x _ x0 x1).mono ?_
  rintro e w1 ⟨rfl, hb⟩
  dsimp only
  replace g4 := g4.below hb
  have n45 := g4.lt
  replace hb0 := (below_step hb0 hb (by simp only [World.size_alloc]; omega)).alloc (by omega) (.cells (numI x) 47)
  replace g4 := g4.alloc (.cells (numI x) 47)
  have g5 := Has.new w1 (numI x) 47
  have HXY : Hid (x.natAbs ≤ 9223372036854775808 ∧ y.natAbs ≤ 9223372036854775808) := Lib.hid ⟨by omega, by omega⟩
  have N45 := Lib.hid n45
  clear hb
  go_wp2_with (first|((with_reducible refine wl_at_store 47 ?_);refine wl_store_new rfl 47 _ _ rfl _ _ rfl rfl (by first|(with_reducible exact rfl)|simp only [World.size_alloc]) infoN (numA_size _ _) (numA_size _ _) (numA_ones _ _) rfl ?_))
  refine (Of_any y _ y0 y1).mono ?_
  rintro e w2 ⟨rfl, hb⟩
  dsimp only
  have n56 : w1.heap.size < w2.heap.size := (g5.below hb).lt
  have g4' := (((g4.below hb).alloc (.cells (numI y) 47)).alloc (.cells (numA false 0) 47)).alloc (.cells (bitsA x.natAbs) 45)
  have g5' := (((g5.below hb).alloc (.cells (numI y) 47)).alloc (.cells (numA false 0) 47)).alloc (.cells (bitsA x.natAbs) 45)
  have g6' := ((Has.new w2 (numI y) 47).alloc (.cells (numA false 0) 47)).alloc (.cells (bitsA x.natAbs) 45)
  have g7' := (Has.new (w2.alloc (.cells (numI y) 47)) (numA false 0) 47).alloc (.cells (bitsA x.natAbs) 45)
  have g8' := Has.new ((w2.alloc (.cells (numI y) 47)).alloc (.cells (numA false 0) 47)) (bitsA x.natAbs) 45
  have h5 := (((g5.below hb).alloc (.cells (numI y) 47)).alloc (.cells (numA false 0) 47))
  have hb' := (((below_step hb0 hb (by simp only [World.size_alloc]; omega)).alloc (by omega) (.cells (numI y) 47)).alloc (by simp only [World.size_alloc]; omega) (.cells (numA false 0) 47)).alloc (by simp only [World.size_alloc]; omega) (.cells (bitsA x.natAbs) 45)
  simp only [World.size_alloc] at g7' g8'
  clear g4 g5 hb hb0
  go_wp2_with (first|((with_reducible refine wl_at_store 47 ?_);refine wl_store_new rfl 47 _ _ rfl _ _ rfl rfl (by first|(with_reducible exact rfl)|simp only [World.size_alloc]) infoN (numA_size _ _) (numA_size _ _) (numA_ones _ _) rfl ?_)|((with_reducible refine wl_at_store 45 ?_);refine wl_store_new rfl 45 _ _ rfl _ _ rfl rfl (by first|(with_reducible exact rfl)|simp only [World.size_alloc]) infoB (bitsA_size _) (bitsA_size _) (bitsA_ones _) rfl ?_)|((with_reducible refine wl_at_load 45 ?_);refine wl_loadPart rfl 45 _ rfl _ 1 rfl h5 (bitsA _) (numA_part _ _) Try.underlying45 rfl infoB (bitsA_size _) ?_))
  clear h5 n45 x0 x1 y0 y1
  have HX : Hid (x.natAbs ≤ 9223372036854775808 ∧ y.natAbs ≤ 9223372036854775808) := HXY
  clear HXY
  go_loopw [9] (fun i wr => ∃ k : Nat, k ≤ 65 ∧ i = .int .i64 k ∧ Has wr w.heap.size (numA false 0) 47 ∧ Has wr w1.heap.size (numI x) 47 ∧ Has wr w2.heap.size (numI y) 47 ∧ Has wr (w2.heap.size + 1) (numA false (x.natAbs * (y.natAbs % 2 ^ k) % top)) 47 ∧ Has wr (w2.heap.size + 1 + 1) (bitsA (x.natAbs * 2 ^ k % top)) 45 ∧ Below w.heap.size w wr) (fun i _ => 65 - (intOf i).toNat)
  case atStart =>
    refine ⟨0, by omega, rfl, g4', g5', g6', ?_, ?_, hb'⟩
    · rw [Nat.pow_zero, Nat.mod_one, Nat.mul_zero, Nat.zero_mod]; exact g7'
    · rw [Nat.pow_zero, Nat.mul_one, Nat.mod_eq_of_lt (Nat.lt_of_le_of_lt HX.out.1 (by unfold top; omega))]; exact g8'
  case round =>
    clear g4' g5' g6' g7' g8' hb'
    obtain ⟨k, hk, rfl, g4, g5, g6, g7, g8, hb0⟩ := hrel
    have n45 : w.heap.size < w1.heap.size := N45
    by_cases hlt : k < 65
    · have gY := g6.cell (numA_get (decide (y < 0)) y.natAbs k (by omega))
      have hs := Lib.hid (mul_twice x.natAbs k)
      by_cases hbit : bit y.natAbs k = 1
      · have ht : Hid ((x.natAbs * (y.natAbs % 2 ^ k) % top + x.natAbs * 2 ^ k % top) % top = x.natAbs * (y.natAbs % 2 ^ (k + 1)) % top) := Lib.hid (by rw [mul_step, mod_take _ _ hbit])
        have hb1 : (bit y.natAbs k == 1) = true := by rw [hbit]; rfl
        clear hbit
        generalize x.natAbs * (y.natAbs % 2 ^ k) % top = p at *
        generalize x.natAbs * 2 ^ k % top = q at *
        go_wp2_with (first|((with_reducible refine wl_at_load 45 ?_);refine wl_loadPart rfl 45 _ rfl _ 1 rfl g7 (bitsA _) (numA_part _ _) Try.underlying45 rfl infoB (bitsA_size _) ?_)|((with_reducible refine wl_at_load 45 ?_);refine wl_load rfl 45 _ rfl _ rfl g8 Try.underlying45 rfl infoB (bitsA_size _) ?_))
        refine (addBits_any _ _ _).mono ?_
        rintro e w3 ⟨rfl, hb⟩
        dsimp only
        replace hb0 := below_step hb0 hb (by have := g4.lt; omega)
        replace g4 := g4.below hb; replace g5 := g5.below hb; replace g6 := g6.below hb; replace g7 := g7.below hb; replace g8 := g8.below hb
        clear hb gY
        have G4 := Has.cellsKeep (g := w2.heap.size + 1) (by omega) (bitsA ((p + q) % top)).toList 1 g4
        have G5 := Has.cellsKeep (g := w2.heap.size + 1) (by omega) (bitsA ((p + q) % top)).toList 1 g5
        have G6 := Has.cellsKeep (g := w2.heap.size + 1) (by omega) (bitsA ((p + q) % top)).toList 1 g6
        have G7 := g7.cells (bitsA ((p + q) % top)).toList 1
        rw [numA_over] at G7
        have G8 := Has.cellsKeep (g := w2.heap.size + 1) (by omega) (bitsA ((p + q) % top)).toList 1 g8
        replace hb0 := below_setCells (g := w2.heap.size + 1) (by omega) (bitsA ((p + q) % top)).toList 1 hb0
        clear g4 g5 g6 g8
        go_wp2_with (first|((with_reducible refine wl_at_store 45 ?_);refine wl_storePart rfl 45 _ _ rfl _ 1 _ rfl rfl g7 infoB (bitsA_size _) (by rw [numA_size];omega) (bitsA_ones _) rfl ?_)|((with_reducible refine wl_at_load 45 ?_);refine wl_load rfl 45 _ rfl _ rfl G8 Try.underlying45 rfl infoB (bitsA_size _) ?_))
        clear g7
        have g4 := G4
        have g5 := G5
        have g6 := G6
        have g7 := G7
        have g8 := G8
        clear G4 G5 G6 G7 G8
        refine (shift_any _ _).mono ?_
        rintro e w4 ⟨rfl, hb⟩
        dsimp only
        replace hb0 := below_step hb0 hb (by have := g4.lt; omega)
        replace g4 := g4.below hb; replace g5 := g5.below hb; replace g6 := g6.below hb; replace g7 := g7.below hb; replace g8 := g8.below hb
        clear hb
        go_wp2_with (first | ((with_reducible refine wl_at_store 45 ?_); refine wl_store rfl 45 _ _ rfl _ _ rfl rfl g8 infoB (bitsA_size _) (bitsA_size _) (bitsA_ones _) rfl ?_))
        refine ⟨⟨k + 1, by omega, by go_num, g4.rowKeep (by omega) _, g5.rowKeep (by omega) _, g6.rowKeep (by omega) _, ?_, ?_, below_setRow hb0 (by omega) _⟩, by simp [intOf]; omega⟩
        · rw [← ht.out]; exact g7.rowKeep (by omega) _
        · rw [← hs.out]; exact g8.row _
      · have ht : Hid (y.natAbs % 2 ^ (k + 1) = y.natAbs % 2 ^ k) := Lib.hid (mod_skip _ _ (by have := bit_bd y.natAbs k; omega))
        have hb1 : (bit y.natAbs k == 1) = false := by simpa using hbit
        clear hbit
        generalize x.natAbs * 2 ^ k % top = q at *
        go_wp2_with (first | ((with_reducible refine wl_at_load 45 ?_); refine wl_load rfl 45 _ rfl _ rfl g8 Try.underlying45 rfl infoB (bitsA_size _) ?_))
        clear gY
        refine (shift_any _ _).mono ?_
        rintro e w4 ⟨rfl, hb⟩
        dsimp only
        replace hb0 := below_step hb0 hb (by have := g4.lt; omega)
        replace g4 := g4.below hb; replace g5 := g5.below hb; replace g6 := g6.below hb; replace g7 := g7.below hb; replace g8 := g8.below hb
        clear hb
        go_wp2_with (first | ((with_reducible refine wl_at_store 45 ?_); refine wl_store rfl 45 _ _ rfl _ _ rfl rfl g8 infoB (bitsA_size _) (bitsA_size _) (bitsA_ones _) rfl ?_))
        refine ⟨⟨k + 1, by omega, by go_num, g4.rowKeep (by omega) _, g5.rowKeep (by omega) _, g6.rowKeep (by omega) _, ?_, ?_, below_setRow hb0 (by omega) _⟩, by simp [intOf]; omega⟩
        · rw [ht.out]; exact g7.rowKeep (by omega) _
        · rw [← hs.out]; exact g8.row _
    · have hk9 : Hid (k = 65) := Lib.hid (by omega)
      have ht : Hid (x.natAbs * (y.natAbs % 2 ^ k) % top = (x * y).natAbs) := Lib.hid (by rw [hk9.out]; exact mul_all x y HX.out.1 HX.out.2)
      rw [ht.out] at g7
      have gx := g5.cell (numA_sign (decide (x < 0)) x.natAbs)
      have gy := g6.cell (numA_sign (decide (y < 0)) y.natAbs)
      have go := g7.cell (numA_sign false (x * y).natAbs)
      have fo := g7.free 0
      have hsgn := Lib.hid (mul_sign x y)
      have hlt2 : Hid ((x * y).natAbs < 2 ^ 129) := Lib.hid (by
        have := Nat.mul_le_mul HX.out.1 HX.out.2
        rw [← Int.natAbs_mul] at this; omega)
      have hnum : Hid (numI (x * y) = numA (decide (x * y < 0)) (x * y).natAbs) := Lib.hid rfl
      clear ht HX hk hk9
      generalize (x * y).natAbs = p at *
      generalize decide (x * y < 0) = s at *
      generalize decide (x < 0) = mx at *
      generalize decide (y < 0) = my at *
      cases mx <;> cases my
      · have g7' := g7.set 0 (.bool false)
        rw [numA_setSign] at g7'
        replace g4 := g4.keep (a := ⟨w2.heap.size + 1, 0, none⟩) (by simp only []; omega) (.bool false)
        replace hb0 := hb0.setCell (p := ⟨w2.heap.size + 1, 0, none⟩) (by simp only []; omega) (.bool false)
        clear g7
        go_wp2_with (first|((with_reducible refine wl_at_load 47 ?_);refine wl_load rfl 47 _ rfl _ rfl g7' Try.underlying47 rfl infoN (numA_size _ _) ?_)|((with_reducible refine wl_at_store 47 ?_);refine wl_store rfl 47 _ _ rfl _ _ rfl rfl g4 infoN (numA_size _ _) (numA_size _ _) (numA_ones _ _) rfl ?_))
        refine bodyPost_ret (results_has rfl _ rfl (g4.row _) Try.underlying47 rfl infoN (numA_size _ _)) rfl ⟨?_, below_setRow hb0 (by omega) _⟩
        rw [hnum.out, ← hsgn.out]; rfl
      · go_wp2_with (first | ((with_reducible refine wl_at_load 47 ?_); refine wl_load rfl 47 _ rfl _ rfl g7 Try.underlying47 rfl infoN (numA_size _ _) ?_))
        refine (zero_any _ _ _ hlt2.out).mono ?_
        rintro e w3 ⟨rfl, hb⟩
        dsimp only
        replace hb0 := below_step hb0 hb (by have := g4.lt; omega)
        replace g4 := g4.below hb; replace g7 := g7.below hb
        clear hb gx gy go fo
        have go := g7.cell (numA_sign false p)
        have fo := g7.free 0
        have g7' := g7.set 0 (.bool (!decide (p = 0)))
        rw [numA_setSign] at g7'
        replace g4 := g4.keep (a := ⟨w2.heap.size + 1, 0, none⟩) (by simp only []; omega) (.bool (!decide (p = 0)))
        replace hb0 := hb0.setCell (p := ⟨w2.heap.size + 1, 0, none⟩) (by simp only []; omega) (.bool (!decide (p = 0)))
        go_wp2_with (first|((with_reducible refine wl_at_load 47 ?_);refine wl_load rfl 47 _ rfl _ rfl g7' Try.underlying47 rfl infoN (numA_size _ _) ?_)|((with_reducible refine wl_at_store 47 ?_);refine wl_store rfl 47 _ _ rfl _ _ rfl rfl g4 infoN (numA_size _ _) (numA_size _ _) (numA_ones _ _) rfl ?_))
        refine bodyPost_ret (results_has rfl _ rfl (g4.row _) Try.underlying47 rfl infoN (numA_size _ _)) rfl ⟨?_, below_setRow hb0 (by omega) _⟩
        rw [hnum.out, ← hsgn.out]; rfl
      · go_wp2_with (first | ((with_reducible refine wl_at_load 47 ?_); refine wl_load rfl 47 _ rfl _ rfl g7 Try.underlying47 rfl infoN (numA_size _ _) ?_))
        refine (zero_any _ _ _ hlt2.out).mono ?_
        rintro e w3 ⟨rfl, hb⟩
        dsimp only
        replace hb0 := below_step hb0 hb (by have := g4.lt; omega)
        replace g4 := g4.below hb; replace g7 := g7.below hb
        clear hb gx gy go fo
        have go := g7.cell (numA_sign false p)
        have fo := g7.free 0
        have g7' := g7.set 0 (.bool (!decide (p = 0)))
        rw [numA_setSign] at g7'
        replace g4 := g4.keep (a := ⟨w2.heap.size + 1, 0, none⟩) (by simp only []; omega) (.bool (!decide (p = 0)))
        replace hb0 := hb0.setCell (p := ⟨w2.heap.size + 1, 0, none⟩) (by simp only []; omega) (.bool (!decide (p = 0)))
        go_wp2_with (first|((with_reducible refine wl_at_load 47 ?_);refine wl_load rfl 47 _ rfl _ rfl g7' Try.underlying47 rfl infoN (numA_size _ _) ?_)|((with_reducible refine wl_at_store 47 ?_);refine wl_store rfl 47 _ _ rfl _ _ rfl rfl g4 infoN (numA_size _ _) (numA_size _ _) (numA_ones _ _) rfl ?_))
        refine bodyPost_ret (results_has rfl _ rfl (g4.row _) Try.underlying47 rfl infoN (numA_size _ _)) rfl ⟨?_, below_setRow hb0 (by omega) _⟩
        rw [hnum.out, ← hsgn.out]; rfl
      · have g7' := g7.set 0 (.bool false)
        rw [numA_setSign] at g7'
        replace g4 := g4.keep (a := ⟨w2.heap.size + 1, 0, none⟩) (by simp only []; omega) (.bool false)
        replace hb0 := hb0.setCell (p := ⟨w2.heap.size + 1, 0, none⟩) (by simp only []; omega) (.bool false)
        clear g7
        go_wp2_with (first|((with_reducible refine wl_at_load 47 ?_);refine wl_load rfl 47 _ rfl _ rfl g7' Try.underlying47 rfl infoN (numA_size _ _) ?_)|((with_reducible refine wl_at_store 47 ?_);refine wl_store rfl 47 _ _ rfl _ _ rfl rfl g4 infoN (numA_size _ _) (numA_size _ _) (numA_ones _ _) rfl ?_))
        refine bodyPost_ret (results_has rfl _ rfl (g4.row _) Try.underlying47 rfl infoN (numA_size _ _)) rfl ⟨?_, below_setRow hb0 (by omega) _⟩
        rw [hnum.out, ← hsgn.out]; rfl
end Go.Proofs.Ytpejoaefnnbghaa
