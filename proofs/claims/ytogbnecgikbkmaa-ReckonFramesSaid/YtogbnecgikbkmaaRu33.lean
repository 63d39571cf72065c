/-
  The walks of the laws of reckon: ReckonFrames.
-/
import Derived.Test.YtogbnecgikbkmaaRy33
import Derived.Test.YtogbnecgikbkmaaBt12
import Derived.Test.YtogbnecgikbkmaaFlat
namespace Go.Proofs.Ytogbnecgikbkmaa
open Go.RowKit
attribute [local irreducible] wpHeld wpTree wpList
set_option linter.unusedVariables false
def frmK : List (Option IntKind) := [some .i64, some .u16, some .u32, some .i32, some .i32, some .i32]
theorem eqFrame (k s t a b c : Int) (w : World) : (Op.equalIn 10000 75 (.agg #[.int .i64 k, .int .u16 s, .int .u32 t, .int .i32 a, .int .i32 b, .int .i32 c]) (.agg #[.int .i64 k, .int .u16 s, .int .u32 t, .int .i32 a, .int .i32 b, .int .i32 c])).run Try.prog w = .ok true w :=
  equal_flat_same frmK (by kernel_rfl) (by kernel_rfl) (by kernel_rfl) [.int .i64 k, .int .u16 s, .int .u32 t, .int .i32 a, .int .i32 b, .int .i32 c] ⟨⟨_, rfl⟩, ⟨_, rfl⟩, ⟨_, rfl⟩, ⟨_, rfl⟩, ⟨_, rfl⟩, ⟨_, rfl⟩, trivial⟩ w
theorem guardFrame (op : BinOp) (x y : Operand) (xs ys : Array Value) (w : World) : (eqGuard op 75 x y (.agg xs) (.agg ys)).run Try.prog w = .ok () w :=
  run_eqGuard_agg w op 75 x y xs ys (by kernel_rfl)
set_option maxRecDepth 100000 in
set_option maxHeartbeats 8000000 in
theorem walk_ReckonFrames (a b s t : Int) (w : World) (ha : (Lit.int .i64 a).wf = true) (hb : (Lit.int .i64 b).wf = true) (hs : (Lit.int .u16 s).wf = true) (ht : (Lit.int .u32 t).wf = true) :
    Calls Try.prog 9 #[.int .i64 a, .int .i64 b, .int .u16 s, .int .u32 t] w fun e w' => e = .returned (.bool true) ∧ Below w.heap.size w w' := by
  have K := St.start w
  have WK := Lib.hid works33_any
  have eg := fun x y xs ys w => guardFrame .eql x y xs ys w
  have hs' : 0 ≤ s ∧ s < 65536 := by unfold Lit.wf at hs; simp [IntKind.min, IntKind.max, IntKind.bits, IntKind.signed] at hs; omega
  have ht' : 0 ≤ t ∧ t < 4294967296 := by unfold Lit.wf at ht; simp [IntKind.min, IntKind.max, IntKind.bits, IntKind.signed] at ht; omega
  clear ha hb hs ht
  cases hf : fitB a && fitB b
  · have FN := Lib.hid (fun w => Frame_no a b s t w hf)
    have eq0 := fun w => eqFrame 0 0 0 0 0 0 w
    unfold fitB at hf
    have hq : decide (-2147483648 ≤ a) = false ∨ decide (-2147483648 ≤ a) = true ∧ decide (a < 2147483648) = false ∨ decide (-2147483648 ≤ a) = true ∧ decide (a < 2147483648) = true ∧ decide (-2147483648 ≤ b) = false ∨ decide (-2147483648 ≤ a) = true ∧ decide (a < 2147483648) = true ∧ decide (-2147483648 ≤ b) = true ∧ decide (b < 2147483648) = false := by
      revert hf
      cases decide (-2147483648 ≤ a) <;> cases decide (a < 2147483648) <;> cases decide (-2147483648 ≤ b) <;> cases decide (b < 2147483648) <;> simp
    clear hf hs' ht'
    rcases hq with h1 | ⟨h1, h2⟩ | ⟨h1, h2, h3⟩ | ⟨h1, h2, h3, h4⟩
    all_goals
      go_enter Try.func9, Try.ntmps9
      go_wp2_with (first | go_big_skip | ((with_reducible refine at_load ?_); first | (refine wm_load (cs := ?_) (t := ?_) (n := ?_) K rfl _ _ rfl rfl ?_ ?_ ?_ ?_; rotate_left 2; (repeat (first | exact At.hd | refine At.tl ?_)); rotate_left; (first | (with_reducible exact row75)); (solve | exact rfl | simp)) | (refine wm_own (cs := ?_) (t := ?_) (v := ?_) K rfl _ _ rfl rfl ?_ ?_ ?_ ?_; rotate_left 2; (repeat (first | exact At.hd | refine At.tl ?_)); rotate_left; (first | exact rfl | assumption); (first | fail)) | (refine wm_cell (v := ?_) rfl _ _ rfl rfl ?_ ?_ ?_; rotate_left; (first | assumption | exact (K.below.cell (by assumption)).trans (by assumption)); (first | fail))) | ((with_reducible refine at_store ?_); first | (refine wm_store (L' := ?_) (cs := ?_) (t := ?_) (n := ?_) K rfl _ _ _ rfl rfl rfl rfl ?_ ?_ ?_ ?_ ?_ ?_; rotate_left 3; (repeat (first | exact Put.hd | (refine Put.tl (L' := ?_) ?_; rotate_left))); rotate_left; (first | (with_reducible exact row75)); (solve | exact rfl | simp); (solve | exact rfl | simp); (solve | exact rfl | simp [Ones, Value.oneCell']); (try clear K); (try clear ww); intro ww K; (try simp [go_sem] at K)) | (refine wm_put (L' := ?_) (cs := ?_) (new := ?_) (t := ?_) K rfl _ _ _ rfl rfl rfl rfl ?_ ?_ ?_ ?_ rfl rfl ?_; rotate_left 4; (repeat (first | exact Put.hd | (refine Put.tl (L' := ?_) ?_; rotate_left))); (solve | exact Nat.le_of_ble_eq_true rfl | decide | (simp only [List.size_toArray, nums_length]; first | assumption | omega) | (simp only [List.size_toArray, nums_length, List.length_set]; first | assumption | omega) | simp | omega | (simp only [List.size_toArray, nums_length]; omega) | assumption); (solve | (simp only [List.setIfInBounds_toArray]; exact rfl) | exact nums_set _ _ _ _ | simp only [List.setIfInBounds_toArray, List.set_cons_zero] | simp only [List.setIfInBounds_toArray, List.set_cons_zero, List.set_cons_succ] | (simp only [List.setIfInBounds_toArray, List.set_cons_zero, List.set_cons_succ]; exact rfl) | exact rfl); (first | fail); (try clear K); (try clear ww); intro ww K; (try simp [go_sem] at K))) | (first | ((with_reducible refine at_box ?_); refine wm_box K rfl _ _ rfl rfl rfl ?_; (try clear K); (try clear ww); ((fail_if_success (have _h := b9)); intro b9 ww K); (try simp [go_sem, Value.cells] at K)) | ((with_reducible refine at_alloc ?_); refine wm_alloc (v := ?_) (cs := ?_) K rfl _ rfl ?_ ?_ ?_; rotate_left; (first | (with_reducible exact zero75)); rotate_left; exact rfl; (try clear K); (try clear ww); ((fail_if_success (have _h := b9)); intro b9 ww K); (try simp [go_sem, Value.cells] at K))) | (go_at_call 37; (with_reducible refine (FN.out _).mono ?_); rintro e w2 ⟨rfl, k1⟩; replace K := K.step k1; clear k1; (try clear ww); revert w2; intro ww K) | (go_at_call 28; (with_reducible refine (WK.out _).mono ?_); rintro e w2 ⟨rfl, k1⟩; replace K := K.step k1; clear k1; (try clear ww); revert w2; intro ww K))
      go_ret
      exact ⟨rfl, K.below⟩
  · rw [Bool.and_eq_true] at hf
    obtain ⟨h1, h2⟩ := hf
    unfold fitB at h1 h2
    rw [Bool.and_eq_true] at h1 h2
    obtain ⟨h1, h3⟩ := h1
    obtain ⟨h2, h4⟩ := h2
    have FY := Lib.hid (fun w => Frame_yes a b s t w (of_decide_eq_true h1) (of_decide_eq_true h3) (of_decide_eq_true h2) (of_decide_eq_true h4))
    have PM := Lib.hid (fun w => Put12_move s t a b 0 w hs' ht')
    have eq1 := fun w => eqFrame 1 s t a b 0 w
    have e1 : IntKind.i32.wrap a = a := by
      have := of_decide_eq_true h1
      have := of_decide_eq_true h3
      unfold IntKind.wrap; simp [IntKind.bits, IntKind.signed]; omega
    have e2 : IntKind.i32.wrap b = b := by
      have := of_decide_eq_true h2
      have := of_decide_eq_true h4
      unfold IntKind.wrap; simp [IntKind.bits, IntKind.signed]; omega
    clear hs' ht'
    go_enter Try.func9, Try.ntmps9
    go_wp2_with (first | go_big_skip | ((with_reducible refine at_load ?_); first | (refine wm_load (cs := ?_) (t := ?_) (n := ?_) K rfl _ _ rfl rfl ?_ ?_ ?_ ?_; rotate_left 2; (repeat (first | exact At.hd | refine At.tl ?_)); rotate_left; (first | (with_reducible exact row75)); (solve | exact rfl | simp)) | (refine wm_own (cs := ?_) (t := ?_) (v := ?_) K rfl _ _ rfl rfl ?_ ?_ ?_ ?_; rotate_left 2; (repeat (first | exact At.hd | refine At.tl ?_)); rotate_left; (first | exact rfl | assumption); (first | fail)) | (refine wm_cell (v := ?_) rfl _ _ rfl rfl ?_ ?_ ?_; rotate_left; (first | assumption | exact (K.below.cell (by assumption)).trans (by assumption)); (first | fail))) | ((with_reducible refine at_store ?_); first | (refine wm_store (L' := ?_) (cs := ?_) (t := ?_) (n := ?_) K rfl _ _ _ rfl rfl rfl rfl ?_ ?_ ?_ ?_ ?_ ?_; rotate_left 3; (repeat (first | exact Put.hd | (refine Put.tl (L' := ?_) ?_; rotate_left))); rotate_left; (first | (with_reducible exact row75)); (solve | exact rfl | simp); (solve | exact rfl | simp); (solve | exact rfl | simp [Ones, Value.oneCell']); (try clear K); (try clear ww); intro ww K; (try simp [go_sem] at K)) | (refine wm_put (L' := ?_) (cs := ?_) (new := ?_) (t := ?_) K rfl _ _ _ rfl rfl rfl rfl ?_ ?_ ?_ ?_ rfl rfl ?_; rotate_left 4; (repeat (first | exact Put.hd | (refine Put.tl (L' := ?_) ?_; rotate_left))); (solve | exact Nat.le_of_ble_eq_true rfl | decide | (simp only [List.size_toArray, nums_length]; first | assumption | omega) | (simp only [List.size_toArray, nums_length, List.length_set]; first | assumption | omega) | simp | omega | (simp only [List.size_toArray, nums_length]; omega) | assumption); (solve | (simp only [List.setIfInBounds_toArray]; exact rfl) | exact nums_set _ _ _ _ | simp only [List.setIfInBounds_toArray, List.set_cons_zero] | simp only [List.setIfInBounds_toArray, List.set_cons_zero, List.set_cons_succ] | (simp only [List.setIfInBounds_toArray, List.set_cons_zero, List.set_cons_succ]; exact rfl) | exact rfl); (first | fail); (try clear K); (try clear ww); intro ww K; (try simp [go_sem] at K))) | (first | ((with_reducible refine at_box ?_); refine wm_box K rfl _ _ rfl rfl rfl ?_; (try clear K); (try clear ww); ((fail_if_success (have _h := b9)); intro b9 ww K); (try simp [go_sem, Value.cells] at K)) | ((with_reducible refine at_alloc ?_); refine wm_alloc (v := ?_) (cs := ?_) K rfl _ rfl ?_ ?_ ?_; rotate_left; (first | (with_reducible exact zero75)); rotate_left; exact rfl; (try clear K); (try clear ww); ((fail_if_success (have _h := b9)); intro b9 ww K); (try simp [go_sem, Value.cells] at K))) | (go_at_call 37; (with_reducible refine (FY.out _).mono ?_); rintro e w2 ⟨rfl, k1⟩; replace K := K.step k1; clear k1; (try clear ww); revert w2; intro ww K) | (go_at_call 38; (with_reducible refine (PM.out _).mono ?_); rintro e w2 ⟨v, rfl, k1⟩; replace K := K.step k1; clear k1; (try clear ww); revert w2; intro ww K) | (go_at_call 28; (with_reducible refine (WK.out _).mono ?_); rintro e w2 ⟨rfl, k1⟩; replace K := K.step k1; clear k1; (try clear ww); revert w2; intro ww K))
    go_ret
    exact ⟨rfl, K.below⟩
end Go.Proofs.Ytogbnecgikbkmaa
