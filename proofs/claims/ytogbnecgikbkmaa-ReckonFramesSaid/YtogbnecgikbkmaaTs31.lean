/-
  The walk of the document's answer for sines.
-/
import Derived.Test.YtogbnecgikbkmaaTr31
namespace Go.Proofs.Ytogbnecgikbkmaa
open Go.RowKit
attribute [local irreducible] wpHeld wpList
set_option linter.unusedVariables false
theorem prt_le {x : Int} (n : Nat) (h1 : -35184372088832 ≤ x) (h2 : x ≤ 35184372088832) : -35184372088833 ≤ prt x n ∧ prt x n ≤ 35184372088833 := by
  have h := prt_bd n (show (0 : Int) ≤ 35184372088832 by omega) h1 h2
  have h3 : (35184372088832 : Int) / 2 ^ n ≤ 35184372088832 := Int.ediv_le_self _ (by omega)
  omega
def gainP (a : Int) : Pt := ⟨652032874, 0, a⟩
theorem gain_bd (a : Int) : Bd (bnd 0) (gainP a) := by unfold Bd gainP bnd; dsimp only; omega
set_option maxHeartbeats 4000000 in
theorem turned_any (a : Int) (w : World) (ha : 0 ≤ a ∧ a ≤ 1073741823) :
    Calls Try.prog 84 #[.int .i64 a] w fun e w' => e = .returned (.tuple #[.int .i64 (stps (gainP a) 30).x, .int .i64 (stps (gainP a) 30).y]) ∧ Below w.heap.size w w' := by
  have K := St.start w
  go_enter Try.func84, Try.ntmps84
  go_wp2
  go_loopw [4, 5, 6, 7] (fun x y z i wr => ∃ k : Nat, k ≤ 30 ∧ i = .int .i64 k ∧ x = .int .i64 (stps (gainP a) k).x ∧ y = .int .i64 (stps (gainP a) k).y ∧ z = .int .i64 (stps (gainP a) k).z ∧ St w.heap.size w [] Any wr) (fun _ _ _ i _ => 30 - (intOf i).toNat)
  case atStart => exact ⟨0, by omega, rfl, rfl, rfl, rfl, K⟩
  case round =>
    clear K
    obtain ⟨k, hk, rfl, rfl, rfl, rfl, K⟩ := hrel
    by_cases hlt : k < 30
    · have ht : decide ((k : Int) < 30) = true := decide_eq_true (by omega)
      have hs : Hid (stps (gainP a) (k + 1) = stp k (stps (gainP a) k)) := Lib.hid rfl
      have hb := stps_bd _ (gain_bd a) k hk
      have hB := bnd_le k hk
      have hz := stps_z (gainP a) k
      have hz0 : (gainP a).z = a := rfl
      generalize stps (gainP a) k = p at *
      obtain ⟨x, y, z⟩ := p
      unfold Bd at hb
      dsimp only at hb hz
      rw [hz0] at hz
      have hx1 : -35184372088832 ≤ x ∧ x ≤ 35184372088832 := by omega
      have hy1 : -35184372088832 ≤ y ∧ y ≤ 35184372088832 := by omega
      have hz1 : -17179869184 ≤ z ∧ z ≤ 18253611008 := by omega
      have ba := arcA_bd k
      have bx := prt_le k hx1.1 hx1.2
      have by' := prt_le k hy1.1 hy1.2
      have P1 := Lib.hid (fun w => part_any x k w (by omega) (by omega))
      have P2 := Lib.hid (fun w => part_any y k w (by omega) (by omega))
      have A1 := Lib.hid (fun w => arc_any k w hlt)
      unfold stp at hs
      dsimp only at hs
      generalize prt x k = px at *
      generalize prt y k = py at *
      generalize arcA k = ar at *
      clear hb hB hz hz0
      by_cases hneg : 0 ≤ z
      · rw [if_pos hneg] at hs
        have tz : decide (z < 0) = false := decide_eq_false (by omega)
        go_wp2_with (first | (go_at_call 97; (with_reducible refine (P2.out _).mono ?_); rintro e w2 ⟨rfl, rfl⟩; (try dsimp only)) | (go_at_call 97; (with_reducible refine (P1.out _).mono ?_); rintro e w2 ⟨rfl, rfl⟩; (try dsimp only)) | (go_at_call 98; (with_reducible refine (A1.out _).mono ?_); rintro e w2 ⟨rfl, k1⟩; replace K := K.step k1; clear k1; (try clear ww); revert w2; intro ww K))
        exact ⟨⟨k + 1, by omega, by go_num, by rw [hs.out], by rw [hs.out], by rw [hs.out], K⟩, by simp [intOf]; omega⟩
      · rw [if_neg hneg] at hs
        have tz : decide (z < 0) = true := decide_eq_true (by omega)
        have e1 : x - -py = x + py := by omega
        have e2 : y + -px = y - px := by omega
        go_wp2_with (first | (go_at_call 97; (with_reducible refine (P2.out _).mono ?_); rintro e w2 ⟨rfl, rfl⟩; (try dsimp only)) | (go_at_call 97; (with_reducible refine (P1.out _).mono ?_); rintro e w2 ⟨rfl, rfl⟩; (try dsimp only)) | (go_at_call 98; (with_reducible refine (A1.out _).mono ?_); rintro e w2 ⟨rfl, k1⟩; replace K := K.step k1; clear k1; (try clear ww); revert w2; intro ww K))
        exact ⟨⟨k + 1, by omega, by go_num, by rw [hs.out]; try rw [← e1], by rw [hs.out]; try rw [← e2], by rw [hs.out], K⟩, by simp [intOf]; omega⟩
    · obtain rfl : k = 30 := by omega
      go_wp2
      go_ret2
      exact ⟨rfl, K.below⟩
/-- The sine and the cosine. -/
def sinA (a : Int) : Int × Int :=
  if a / 1073741824 = 1 then ((stps (gainP (a % 1073741824)) 30).x, -(stps (gainP (a % 1073741824)) 30).y)
  else if a / 1073741824 = 2 then (-(stps (gainP (a % 1073741824)) 30).y, -(stps (gainP (a % 1073741824)) 30).x)
  else if a / 1073741824 = 3 then (-(stps (gainP (a % 1073741824)) 30).x, (stps (gainP (a % 1073741824)) 30).y)
  else ((stps (gainP (a % 1073741824)) 30).y, (stps (gainP (a % 1073741824)) 30).x)
theorem RSinCos_any (a : Int) (w : World) (ha : 0 ≤ a ∧ a ≤ 4294967295) :
    Calls Try.prog 61 #[.int .u32 a] w fun e w' => e = .returned (.tuple #[.int .i64 (sinA a).1, .int .i64 (sinA a).2]) ∧ Below w.heap.size w w' := by
  have K := St.start w
  have hb := stps_bd _ (gain_bd (a % 1073741824)) 30 (by omega)
  have hB := bnd_le 30 (by omega)
  have T1 := Lib.hid (fun w => turned_any (a % 1073741824) w (by omega))
  unfold sinA
  generalize stps (gainP (a % 1073741824)) 30 = p at *
  obtain ⟨x, y, z⟩ := p
  unfold Bd at hb
  dsimp only at hb T1 ⊢
  have hx1 : -35184372088832 ≤ x ∧ x ≤ 35184372088832 := by omega
  have hy1 : -35184372088832 ≤ y ∧ y ≤ 35184372088832 := by omega
  clear hb hB
  generalize hq : a / 1073741824 = q at *
  have hq4 : q = 0 ∨ q = 1 ∨ q = 2 ∨ q = 3 := by omega
  have HQ := Lib.hid hq
  have t1 : wrap64 (-x) = -x := by unfold wrap64; omega
  clear hq
  rcases hq4 with rfl | rfl | rfl | rfl
  · rw [if_neg (by decide), if_neg (by decide), if_neg (by decide)]
    go_enter Try.func61, Try.ntmps61
    go_upto_region 3 with (first | (go_at_call 84; (with_reducible refine (T1.out _).mono ?_); rintro e w2 ⟨rfl, k1⟩; replace K := K.step k1; clear k1; (try clear ww); revert w2; intro ww K))
    rw [HQ.out]
    go_wp2
    go_ret2
    exact ⟨rfl, K.below⟩
  · rw [if_pos rfl]
    go_enter Try.func61, Try.ntmps61
    go_upto_region 3 with (first | (go_at_call 84; (with_reducible refine (T1.out _).mono ?_); rintro e w2 ⟨rfl, k1⟩; replace K := K.step k1; clear k1; (try clear ww); revert w2; intro ww K))
    rw [HQ.out]
    go_wp2
    go_ret2
    exact ⟨rfl, K.below⟩
  · rw [if_neg (by decide), if_pos rfl]
    go_enter Try.func61, Try.ntmps61
    go_upto_region 3 with (first | (go_at_call 84; (with_reducible refine (T1.out _).mono ?_); rintro e w2 ⟨rfl, k1⟩; replace K := K.step k1; clear k1; (try clear ww); revert w2; intro ww K))
    rw [HQ.out]
    go_wp2
    go_ret2
    exact ⟨rfl, K.below⟩
  · rw [if_neg (by decide), if_neg (by decide), if_pos rfl]
    go_enter Try.func61, Try.ntmps61
    go_upto_region 3 with (first | (go_at_call 84; (with_reducible refine (T1.out _).mono ?_); rintro e w2 ⟨rfl, k1⟩; replace K := K.step k1; clear k1; (try clear ww); revert w2; intro ww K))
    rw [HQ.out]
    go_wp2
    go_ret2
    exact ⟨rfl, K.below⟩
end Go.Proofs.Ytogbnecgikbkmaa
