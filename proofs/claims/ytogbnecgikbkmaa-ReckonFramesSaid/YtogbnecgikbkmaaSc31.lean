/-
  The walk of the program's sines.
-/
import Derived.Test.YtogbnecgikbkmaaTq31
import Derived.Test.YtogbnecgikbkmaaIdx
import Derived.Shelf.Spec.TrailingZeros
namespace Go.Proofs.Ytogbnecgikbkmaa
open Go.RowKit
attribute [local irreducible] wpHeld wpList
set_option linter.unusedVariables false
theorem arcV_index (i : Nat) (h : i < 30) (w : World) : (Instr.index 158 (.agg arcV) (.int .i64 i)).run Try.prog w = .ok (.int .i64 (arcA i)) w :=
  run_index_arr Try.underlying158 one2 h (arcV_get i h) w
theorem and_rest (n : Nat) (h : n < 4294967296) : bits .and .u32 (n : Int) 1073741823 = ((n % 1073741824 : Nat) : Int) := by
  have := bits_and_u32_nat n 1073741823 h (by omega)
  rw [show (1073741823 : Nat) = 2 ^ 30 - 1 from rfl, Nat.and_two_pow_sub_one_eq_mod] at this
  exact this
set_option maxHeartbeats 4000000 in
theorem SinCos_any (a : Int) (w : World) (ha : 0 ≤ a ∧ a ≤ 4294967295) :
    Calls Try.prog 59 #[.int .u32 a] w fun e w' => e = .returned (.tuple #[.int .i64 (sinA a).1, .int .i64 (sinA a).2]) ∧ Below w.heap.size w w' := by
  have K := St.start w
  have A1 := Lib.hid arcs_any
  have HI := Lib.hid arcV_index
  generalize arcV = arr at *
  have hB : wrap64 (bits .and .u32 a 1073741823) = a % 1073741824 := by
    obtain ⟨n, rfl⟩ : ∃ n : Nat, a = n := ⟨a.toNat, by omega⟩
    rw [and_rest n (by omega)]
    unfold wrap64
    omega
  have hq4 : a / 1073741824 = 0 ∨ a / 1073741824 = 1 ∨ a / 1073741824 = 2 ∨ a / 1073741824 = 3 := by omega
  have hr : 0 ≤ a % 1073741824 ∧ a % 1073741824 ≤ 1073741823 := by omega
  unfold sinA
  rcases hq4 with hq | hq | hq | hq
  ·
    rw [hq]
    rw [if_neg (by decide), if_neg (by decide), if_neg (by decide)]
    have HQ := hq
    clear ha hq
    generalize a % 1073741824 = r at *
    go_enter Try.func59, Try.ntmps59
    go_wp2_with (first | (go_at_call 82; (with_reducible refine (A1.out _).mono ?_); rintro e w2 ⟨rfl, k1⟩; replace K := K.step k1; clear k1; (try clear ww); revert w2; intro ww K))
    go_loopw [6, 7, 8, 20] (fun x y z i wr => ∃ k : Nat, k ≤ 30 ∧ i = .int .i64 k ∧ x = .int .i64 (stps (gainP r) k).x ∧ y = .int .i64 (stps (gainP r) k).y ∧ z = .int .i64 (stps (gainP r) k).z ∧ St w.heap.size w [] Any wr) (fun _ _ _ i _ => 30 - (intOf i).toNat)
    case atStart => exact ⟨0, by omega, rfl, rfl, rfl, rfl, K⟩
    case round =>
      clear K
      obtain ⟨k, hk, rfl, rfl, rfl, rfl, K⟩ := hrel
      by_cases hlt : k < 30
      · have ht : decide ((k : Int) < 30) = true := decide_eq_true (by omega)
        have hs : Hid (stps (gainP r) (k + 1) = stp k (stps (gainP r) k)) := Lib.hid rfl
        have hb := stps_bd _ (gain_bd r) k hk
        have hB := bnd_le k hk
        have hz := stps_z (gainP r) k
        have hz0 : (gainP r).z = r := rfl
        generalize stps (gainP r) k = p at *
        obtain ⟨x, y, z⟩ := p
        unfold Bd at hb
        dsimp only at hb hz
        rw [hz0] at hz
        have hx1 : -35184372088832 ≤ x ∧ x ≤ 35184372088832 := by omega
        have hy1 : -35184372088832 ≤ y ∧ y ≤ 35184372088832 := by omega
        have hz1 : -17179869184 ≤ z ∧ z ≤ 18253611008 := by omega
        have ba := arcA_bd k
        have bx := prt_le k hx1.1 hx1.2
        have by' := prt_le k hy1.1 hy1.2
        have P1 := Lib.hid (fun w => shr_any x k w (by omega) (by omega))
        have P2 := Lib.hid (fun w => shr_any y k w (by omega) (by omega))
        have I1 := fun w => HI.out k hlt w
        unfold stp at hs
        dsimp only at hs
        generalize prt x k = px at *
        generalize prt y k = py at *
        generalize arcA k = ar at *
        clear hb hB hz hz0
        by_cases hneg : 0 ≤ z
        · rw [if_pos hneg] at hs
          go_wp2_with (first | (go_at_call 83; (with_reducible refine (P2.out _).mono ?_); rintro e w2 ⟨rfl, rfl⟩; (try dsimp only)) | (go_at_call 83; (with_reducible refine (P1.out _).mono ?_); rintro e w2 ⟨rfl, rfl⟩; (try dsimp only)))
          exact ⟨⟨k + 1, by omega, by go_num, by rw [hs.out], by rw [hs.out], by rw [hs.out], K⟩, by simp [intOf]; omega⟩
        · rw [if_neg hneg] at hs
          have tz : decide (0 ≤ z) = false := decide_eq_false hneg
          go_wp2_with (first | (go_at_call 83; (with_reducible refine (P2.out _).mono ?_); rintro e w2 ⟨rfl, rfl⟩; (try dsimp only)) | (go_at_call 83; (with_reducible refine (P1.out _).mono ?_); rintro e w2 ⟨rfl, rfl⟩; (try dsimp only)))
          exact ⟨⟨k + 1, by omega, by go_num, by rw [hs.out], by rw [hs.out], by rw [hs.out], K⟩, by simp [intOf]; omega⟩
      · obtain rfl : k = 30 := by omega
        have hb := stps_bd _ (gain_bd r) 30 (by omega)
        have hB := bnd_le 30 (by omega)
        unfold Bd at hb
        have hx1 : -35184372088832 ≤ (stps (gainP r) 30).x ∧ (stps (gainP r) 30).x ≤ 35184372088832 := by omega
        have hy1 : -35184372088832 ≤ (stps (gainP r) 30).y ∧ (stps (gainP r) 30).y ≤ 35184372088832 := by omega
        clear hb hB
        go_wp2
        go_ret2
        exact ⟨rfl, K.below⟩
  ·
    rw [hq]
    rw [if_pos rfl]
    have HQ := hq
    clear ha hq
    generalize a % 1073741824 = r at *
    go_enter Try.func59, Try.ntmps59
    go_wp2_with (first | (go_at_call 82; (with_reducible refine (A1.out _).mono ?_); rintro e w2 ⟨rfl, k1⟩; replace K := K.step k1; clear k1; (try clear ww); revert w2; intro ww K))
    go_loopw [6, 7, 8, 20] (fun x y z i wr => ∃ k : Nat, k ≤ 30 ∧ i = .int .i64 k ∧ x = .int .i64 (stps (gainP r) k).x ∧ y = .int .i64 (stps (gainP r) k).y ∧ z = .int .i64 (stps (gainP r) k).z ∧ St w.heap.size w [] Any wr) (fun _ _ _ i _ => 30 - (intOf i).toNat)
    case atStart => exact ⟨0, by omega, rfl, rfl, rfl, rfl, K⟩
    case round =>
      clear K
      obtain ⟨k, hk, rfl, rfl, rfl, rfl, K⟩ := hrel
      by_cases hlt : k < 30
      · have ht : decide ((k : Int) < 30) = true := decide_eq_true (by omega)
        have hs : Hid (stps (gainP r) (k + 1) = stp k (stps (gainP r) k)) := Lib.hid rfl
        have hb := stps_bd _ (gain_bd r) k hk
        have hB := bnd_le k hk
        have hz := stps_z (gainP r) k
        have hz0 : (gainP r).z = r := rfl
        generalize stps (gainP r) k = p at *
        obtain ⟨x, y, z⟩ := p
        unfold Bd at hb
        dsimp only at hb hz
        rw [hz0] at hz
        have hx1 : -35184372088832 ≤ x ∧ x ≤ 35184372088832 := by omega
        have hy1 : -35184372088832 ≤ y ∧ y ≤ 35184372088832 := by omega
        have hz1 : -17179869184 ≤ z ∧ z ≤ 18253611008 := by omega
        have ba := arcA_bd k
        have bx := prt_le k hx1.1 hx1.2
        have by' := prt_le k hy1.1 hy1.2
        have P1 := Lib.hid (fun w => shr_any x k w (by omega) (by omega))
        have P2 := Lib.hid (fun w => shr_any y k w (by omega) (by omega))
        have I1 := fun w => HI.out k hlt w
        unfold stp at hs
        dsimp only at hs
        generalize prt x k = px at *
        generalize prt y k = py at *
        generalize arcA k = ar at *
        clear hb hB hz hz0
        by_cases hneg : 0 ≤ z
        · rw [if_pos hneg] at hs
          go_wp2_with (first | (go_at_call 83; (with_reducible refine (P2.out _).mono ?_); rintro e w2 ⟨rfl, rfl⟩; (try dsimp only)) | (go_at_call 83; (with_reducible refine (P1.out _).mono ?_); rintro e w2 ⟨rfl, rfl⟩; (try dsimp only)))
          exact ⟨⟨k + 1, by omega, by go_num, by rw [hs.out], by rw [hs.out], by rw [hs.out], K⟩, by simp [intOf]; omega⟩
        · rw [if_neg hneg] at hs
          have tz : decide (0 ≤ z) = false := decide_eq_false hneg
          go_wp2_with (first | (go_at_call 83; (with_reducible refine (P2.out _).mono ?_); rintro e w2 ⟨rfl, rfl⟩; (try dsimp only)) | (go_at_call 83; (with_reducible refine (P1.out _).mono ?_); rintro e w2 ⟨rfl, rfl⟩; (try dsimp only)))
          exact ⟨⟨k + 1, by omega, by go_num, by rw [hs.out], by rw [hs.out], by rw [hs.out], K⟩, by simp [intOf]; omega⟩
      · obtain rfl : k = 30 := by omega
        have hb := stps_bd _ (gain_bd r) 30 (by omega)
        have hB := bnd_le 30 (by omega)
        unfold Bd at hb
        have hx1 : -35184372088832 ≤ (stps (gainP r) 30).x ∧ (stps (gainP r) 30).x ≤ 35184372088832 := by omega
        have hy1 : -35184372088832 ≤ (stps (gainP r) 30).y ∧ (stps (gainP r) 30).y ≤ 35184372088832 := by omega
        clear hb hB
        go_wp2
        go_ret2
        exact ⟨rfl, K.below⟩
  ·
    rw [hq]
    rw [if_neg (by decide), if_pos rfl]
    have HQ := hq
    clear ha hq
    generalize a % 1073741824 = r at *
    go_enter Try.func59, Try.ntmps59
    go_wp2_with (first | (go_at_call 82; (with_reducible refine (A1.out _).mono ?_); rintro e w2 ⟨rfl, k1⟩; replace K := K.step k1; clear k1; (try clear ww); revert w2; intro ww K))
    go_loopw [6, 7, 8, 20] (fun x y z i wr => ∃ k : Nat, k ≤ 30 ∧ i = .int .i64 k ∧ x = .int .i64 (stps (gainP r) k).x ∧ y = .int .i64 (stps (gainP r) k).y ∧ z = .int .i64 (stps (gainP r) k).z ∧ St w.heap.size w [] Any wr) (fun _ _ _ i _ => 30 - (intOf i).toNat)
    case atStart => exact ⟨0, by omega, rfl, rfl, rfl, rfl, K⟩
    case round =>
      clear K
      obtain ⟨k, hk, rfl, rfl, rfl, rfl, K⟩ := hrel
      by_cases hlt : k < 30
      · have ht : decide ((k : Int) < 30) = true := decide_eq_true (by omega)
        have hs : Hid (stps (gainP r) (k + 1) = stp k (stps (gainP r) k)) := Lib.hid rfl
        have hb := stps_bd _ (gain_bd r) k hk
        have hB := bnd_le k hk
        have hz := stps_z (gainP r) k
        have hz0 : (gainP r).z = r := rfl
        generalize stps (gainP r) k = p at *
        obtain ⟨x, y, z⟩ := p
        unfold Bd at hb
        dsimp only at hb hz
        rw [hz0] at hz
        have hx1 : -35184372088832 ≤ x ∧ x ≤ 35184372088832 := by omega
        have hy1 : -35184372088832 ≤ y ∧ y ≤ 35184372088832 := by omega
        have hz1 : -17179869184 ≤ z ∧ z ≤ 18253611008 := by omega
        have ba := arcA_bd k
        have bx := prt_le k hx1.1 hx1.2
        have by' := prt_le k hy1.1 hy1.2
        have P1 := Lib.hid (fun w => shr_any x k w (by omega) (by omega))
        have P2 := Lib.hid (fun w => shr_any y k w (by omega) (by omega))
        have I1 := fun w => HI.out k hlt w
        unfold stp at hs
        dsimp only at hs
        generalize prt x k = px at *
        generalize prt y k = py at *
        generalize arcA k = ar at *
        clear hb hB hz hz0
        by_cases hneg : 0 ≤ z
        · rw [if_pos hneg] at hs
          go_wp2_with (first | (go_at_call 83; (with_reducible refine (P2.out _).mono ?_); rintro e w2 ⟨rfl, rfl⟩; (try dsimp only)) | (go_at_call 83; (with_reducible refine (P1.out _).mono ?_); rintro e w2 ⟨rfl, rfl⟩; (try dsimp only)))
          exact ⟨⟨k + 1, by omega, by go_num, by rw [hs.out], by rw [hs.out], by rw [hs.out], K⟩, by simp [intOf]; omega⟩
        · rw [if_neg hneg] at hs
          have tz : decide (0 ≤ z) = false := decide_eq_false hneg
          go_wp2_with (first | (go_at_call 83; (with_reducible refine (P2.out _).mono ?_); rintro e w2 ⟨rfl, rfl⟩; (try dsimp only)) | (go_at_call 83; (with_reducible refine (P1.out _).mono ?_); rintro e w2 ⟨rfl, rfl⟩; (try dsimp only)))
          exact ⟨⟨k + 1, by omega, by go_num, by rw [hs.out], by rw [hs.out], by rw [hs.out], K⟩, by simp [intOf]; omega⟩
      · obtain rfl : k = 30 := by omega
        have hb := stps_bd _ (gain_bd r) 30 (by omega)
        have hB := bnd_le 30 (by omega)
        unfold Bd at hb
        have hx1 : -35184372088832 ≤ (stps (gainP r) 30).x ∧ (stps (gainP r) 30).x ≤ 35184372088832 := by omega
        have hy1 : -35184372088832 ≤ (stps (gainP r) 30).y ∧ (stps (gainP r) 30).y ≤ 35184372088832 := by omega
        clear hb hB
        go_wp2
        go_ret2
        exact ⟨rfl, K.below⟩
  ·
    rw [hq]
    rw [if_neg (by decide), if_neg (by decide), if_pos rfl]
    have HQ := hq
    clear ha hq
    generalize a % 1073741824 = r at *
    go_enter Try.func59, Try.ntmps59
    go_wp2_with (first | (go_at_call 82; (with_reducible refine (A1.out _).mono ?_); rintro e w2 ⟨rfl, k1⟩; replace K := K.step k1; clear k1; (try clear ww); revert w2; intro ww K))
    go_loopw [6, 7, 8, 20] (fun x y z i wr => ∃ k : Nat, k ≤ 30 ∧ i = .int .i64 k ∧ x = .int .i64 (stps (gainP r) k).x ∧ y = .int .i64 (stps (gainP r) k).y ∧ z = .int .i64 (stps (gainP r) k).z ∧ St w.heap.size w [] Any wr) (fun _ _ _ i _ => 30 - (intOf i).toNat)
    case atStart => exact ⟨0, by omega, rfl, rfl, rfl, rfl, K⟩
    case round =>
      clear K
      obtain ⟨k, hk, rfl, rfl, rfl, rfl, K⟩ := hrel
      by_cases hlt : k < 30
      · have ht : decide ((k : Int) < 30) = true := decide_eq_true (by omega)
        have hs : Hid (stps (gainP r) (k + 1) = stp k (stps (gainP r) k)) := Lib.hid rfl
        have hb := stps_bd _ (gain_bd r) k hk
        have hB := bnd_le k hk
        have hz := stps_z (gainP r) k
        have hz0 : (gainP r).z = r := rfl
        generalize stps (gainP r) k = p at *
        obtain ⟨x, y, z⟩ := p
        unfold Bd at hb
        dsimp only at hb hz
        rw [hz0] at hz
        have hx1 : -35184372088832 ≤ x ∧ x ≤ 35184372088832 := by omega
        have hy1 : -35184372088832 ≤ y ∧ y ≤ 35184372088832 := by omega
        have hz1 : -17179869184 ≤ z ∧ z ≤ 18253611008 := by omega
        have ba := arcA_bd k
        have bx := prt_le k hx1.1 hx1.2
        have by' := prt_le k hy1.1 hy1.2
        have P1 := Lib.hid (fun w => shr_any x k w (by omega) (by omega))
        have P2 := Lib.hid (fun w => shr_any y k w (by omega) (by omega))
        have I1 := fun w => HI.out k hlt w
        unfold stp at hs
        dsimp only at hs
        generalize prt x k = px at *
        generalize prt y k = py at *
        generalize arcA k = ar at *
        clear hb hB hz hz0
        by_cases hneg : 0 ≤ z
        · rw [if_pos hneg] at hs
          go_wp2_with (first | (go_at_call 83; (with_reducible refine (P2.out _).mono ?_); rintro e w2 ⟨rfl, rfl⟩; (try dsimp only)) | (go_at_call 83; (with_reducible refine (P1.out _).mono ?_); rintro e w2 ⟨rfl, rfl⟩; (try dsimp only)))
          exact ⟨⟨k + 1, by omega, by go_num, by rw [hs.out], by rw [hs.out], by rw [hs.out], K⟩, by simp [intOf]; omega⟩
        · rw [if_neg hneg] at hs
          have tz : decide (0 ≤ z) = false := decide_eq_false hneg
          go_wp2_with (first | (go_at_call 83; (with_reducible refine (P2.out _).mono ?_); rintro e w2 ⟨rfl, rfl⟩; (try dsimp only)) | (go_at_call 83; (with_reducible refine (P1.out _).mono ?_); rintro e w2 ⟨rfl, rfl⟩; (try dsimp only)))
          exact ⟨⟨k + 1, by omega, by go_num, by rw [hs.out], by rw [hs.out], by rw [hs.out], K⟩, by simp [intOf]; omega⟩
      · obtain rfl : k = 30 := by omega
        have hb := stps_bd _ (gain_bd r) 30 (by omega)
        have hB := bnd_le 30 (by omega)
        unfold Bd at hb
        have hx1 : -35184372088832 ≤ (stps (gainP r) 30).x ∧ (stps (gainP r) 30).x ≤ 35184372088832 := by omega
        have hy1 : -35184372088832 ≤ (stps (gainP r) 30).y ∧ (stps (gainP r) 30).y ≤ 35184372088832 := by omega
        clear hb hB
        go_wp2
        go_ret2
        exact ⟨rfl, K.below⟩
end Go.Proofs.Ytogbnecgikbkmaa
