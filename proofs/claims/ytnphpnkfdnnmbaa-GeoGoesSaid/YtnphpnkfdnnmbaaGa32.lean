/-
  The walks of geo: what is wrong with a place, degrees that wrap, angles, how narrow it is; the document's answers for these.
-/
import Derived.Test.YtnphpnkfdnnmbaaPl32
import Derived.Test.YtnphpnkfdnnmbaaRt31
import Derived.Test.YtnphpnkfdnnmbaaDj03
namespace Go.Proofs.Ytnphpnkfdnnmbaa
open Go.RowKit
attribute [local irreducible] wpHeld wpList
set_option linter.unusedVariables false
theorem GCheck_any (a b : Int) (w : World) :
    Calls Try.prog 25 #[.agg #[.int .i64 a, .int .i64 b]] w fun e w' => e = .returned (.int .i64 (chkI a b)) ∧ Below w.heap.size w w' := by
  have K := St.start w
  by_cases h1 : a < -800000000
  · have E : chkI a b = 2 := by unfold chkI chkB; rw [decide_eq_true h1]; rfl
    have E2 := Lib.hid E
    have t2 : decide (800000000 < a) = false := decide_eq_false (by omega)
    clear E
    go_enter Try.func25, Try.ntmps25
    go_wp2_with (first | go_big_skip | ((with_reducible refine at_load ?_); first | (refine wm_load (cs := ?_) (t := ?_) (n := ?_) K rfl _ _ rfl rfl ?_ ?_ ?_ ?_; rotate_left 2; (repeat (first | exact At.hd | refine At.tl ?_)); rotate_left; (first | (with_reducible exact row31) | (with_reducible exact row33) | (with_reducible exact row42) | (with_reducible exact row45) | (with_reducible exact row59) | (with_reducible exact row69) | (with_reducible exact row78)); (solve | exact rfl | simp)) | (refine wm_own (cs := ?_) (t := ?_) (v := ?_) K rfl _ _ rfl rfl ?_ ?_ ?_ ?_; rotate_left 2; (repeat (first | exact At.hd | refine At.tl ?_)); rotate_left; (first | exact rfl | assumption); (first | (with_reducible exact one2) | (with_reducible exact one3) | (with_reducible exact one4) | (with_reducible exact one76) | (with_reducible exact one116))) | (refine wm_cell (v := ?_) rfl _ _ rfl rfl ?_ ?_ ?_; rotate_left; (first | assumption | exact (K.below.cell (by assumption)).trans (by assumption)); (first | (with_reducible exact one2) | (with_reducible exact one3) | (with_reducible exact one4) | (with_reducible exact one76) | (with_reducible exact one116)))) | ((with_reducible refine at_store ?_); first | (refine wm_store (L' := ?_) (cs := ?_) (t := ?_) (n := ?_) K rfl _ _ _ rfl rfl rfl rfl ?_ ?_ ?_ ?_ ?_ ?_; rotate_left 3; (repeat (first | exact Put.hd | (refine Put.tl (L' := ?_) ?_; rotate_left))); rotate_left; (first | (with_reducible exact row31) | (with_reducible exact row33) | (with_reducible exact row42) | (with_reducible exact row45) | (with_reducible exact row59) | (with_reducible exact row69) | (with_reducible exact row78)); (solve | exact rfl | simp); (solve | exact rfl | simp); (solve | exact rfl | simp [Ones, Value.oneCell']); (try clear K); (try clear ww); intro ww K; (try simp [go_sem] at K)) | (refine wm_put (L' := ?_) (cs := ?_) (new := ?_) (t := ?_) K rfl _ _ _ rfl rfl rfl rfl ?_ ?_ ?_ ?_ rfl rfl ?_; rotate_left 4; (repeat (first | exact Put.hd | (refine Put.tl (L' := ?_) ?_; rotate_left))); (solve | (simp only [List.size_toArray, nums_length]; first | assumption | omega) | (simp only [List.size_toArray, nums_length, List.length_set]; first | assumption | omega) | simp | omega | (simp only [List.size_toArray, nums_length]; omega) | assumption); (solve | exact nums_set _ _ _ _ | simp only [List.setIfInBounds_toArray, List.set_cons_zero, List.set_cons_succ] | (simp only [List.setIfInBounds_toArray, List.set_cons_zero, List.set_cons_succ]; exact rfl) | exact rfl); (first | (with_reducible exact one2) | (with_reducible exact one3) | (with_reducible exact one4) | (with_reducible exact one76) | (with_reducible exact one116)); (try clear K); (try clear ww); intro ww K; (try simp [go_sem] at K))) | (first | ((fail_if_success (have _h := b1)); first | ((with_reducible refine at_box ?_); refine wm_box K rfl _ _ rfl rfl rfl ?_; (try clear K); (try clear ww); intro b1 ww K; (try simp [go_sem, Value.cells] at K)) | ((with_reducible refine at_alloc ?_); refine wm_alloc (v := ?_) (cs := ?_) K rfl _ rfl ?_ ?_ ?_; rotate_left; (first | (with_reducible exact zero2) | (with_reducible exact zero31) | (with_reducible exact zero33) | (with_reducible exact zero42) | (with_reducible exact zero45) | (with_reducible exact zero59) | (with_reducible exact zero69) | (with_reducible exact zero76) | (with_reducible exact zero78)); rotate_left; exact rfl; (try clear K); (try clear ww); intro b1 ww K; (try simp [go_sem, Value.cells] at K)))))
    go_ret
    exact ⟨by rw [E2.out]; rfl, K.below⟩
  · have t1 : decide (a < -800000000) = false := decide_eq_false h1
    by_cases h2 : 800000000 < a
    · have E : chkI a b = 2 := by unfold chkI chkB; rw [t1, decide_eq_true h2]; rfl
      have E2 := Lib.hid E
      clear E
      go_enter Try.func25, Try.ntmps25
      go_wp2_with (first | go_big_skip | ((with_reducible refine at_load ?_); first | (refine wm_load (cs := ?_) (t := ?_) (n := ?_) K rfl _ _ rfl rfl ?_ ?_ ?_ ?_; rotate_left 2; (repeat (first | exact At.hd | refine At.tl ?_)); rotate_left; (first | (with_reducible exact row31) | (with_reducible exact row33) | (with_reducible exact row42) | (with_reducible exact row45) | (with_reducible exact row59) | (with_reducible exact row69) | (with_reducible exact row78)); (solve | exact rfl | simp)) | (refine wm_own (cs := ?_) (t := ?_) (v := ?_) K rfl _ _ rfl rfl ?_ ?_ ?_ ?_; rotate_left 2; (repeat (first | exact At.hd | refine At.tl ?_)); rotate_left; (first | exact rfl | assumption); (first | (with_reducible exact one2) | (with_reducible exact one3) | (with_reducible exact one4) | (with_reducible exact one76) | (with_reducible exact one116))) | (refine wm_cell (v := ?_) rfl _ _ rfl rfl ?_ ?_ ?_; rotate_left; (first | assumption | exact (K.below.cell (by assumption)).trans (by assumption)); (first | (with_reducible exact one2) | (with_reducible exact one3) | (with_reducible exact one4) | (with_reducible exact one76) | (with_reducible exact one116)))) | ((with_reducible refine at_store ?_); first | (refine wm_store (L' := ?_) (cs := ?_) (t := ?_) (n := ?_) K rfl _ _ _ rfl rfl rfl rfl ?_ ?_ ?_ ?_ ?_ ?_; rotate_left 3; (repeat (first | exact Put.hd | (refine Put.tl (L' := ?_) ?_; rotate_left))); rotate_left; (first | (with_reducible exact row31) | (with_reducible exact row33) | (with_reducible exact row42) | (with_reducible exact row45) | (with_reducible exact row59) | (with_reducible exact row69) | (with_reducible exact row78)); (solve | exact rfl | simp); (solve | exact rfl | simp); (solve | exact rfl | simp [Ones, Value.oneCell']); (try clear K); (try clear ww); intro ww K; (try simp [go_sem] at K)) | (refine wm_put (L' := ?_) (cs := ?_) (new := ?_) (t := ?_) K rfl _ _ _ rfl rfl rfl rfl ?_ ?_ ?_ ?_ rfl rfl ?_; rotate_left 4; (repeat (first | exact Put.hd | (refine Put.tl (L' := ?_) ?_; rotate_left))); (solve | (simp only [List.size_toArray, nums_length]; first | assumption | omega) | (simp only [List.size_toArray, nums_length, List.length_set]; first | assumption | omega) | simp | omega | (simp only [List.size_toArray, nums_length]; omega) | assumption); (solve | exact nums_set _ _ _ _ | simp only [List.setIfInBounds_toArray, List.set_cons_zero, List.set_cons_succ] | (simp only [List.setIfInBounds_toArray, List.set_cons_zero, List.set_cons_succ]; exact rfl) | exact rfl); (first | (with_reducible exact one2) | (with_reducible exact one3) | (with_reducible exact one4) | (with_reducible exact one76) | (with_reducible exact one116)); (try clear K); (try clear ww); intro ww K; (try simp [go_sem] at K))) | (first | ((fail_if_success (have _h := b1)); first | ((with_reducible refine at_box ?_); refine wm_box K rfl _ _ rfl rfl rfl ?_; (try clear K); (try clear ww); intro b1 ww K; (try simp [go_sem, Value.cells] at K)) | ((with_reducible refine at_alloc ?_); refine wm_alloc (v := ?_) (cs := ?_) K rfl _ rfl ?_ ?_ ?_; rotate_left; (first | (with_reducible exact zero2) | (with_reducible exact zero31) | (with_reducible exact zero33) | (with_reducible exact zero42) | (with_reducible exact zero45) | (with_reducible exact zero59) | (with_reducible exact zero69) | (with_reducible exact zero76) | (with_reducible exact zero78)); rotate_left; exact rfl; (try clear K); (try clear ww); intro b1 ww K; (try simp [go_sem, Value.cells] at K)))))
      go_ret
      exact ⟨by rw [E2.out]; rfl, K.below⟩
    · have t2 : decide (800000000 < a) = false := decide_eq_false h2
      by_cases h3 : b < -1800000000
      · have E : chkI a b = 2 := by unfold chkI chkB; rw [t1, t2, decide_eq_true h3]; rfl
        have E2 := Lib.hid E
        clear E
        go_enter Try.func25, Try.ntmps25
        go_wp2_with (first | go_big_skip | ((with_reducible refine at_load ?_); first | (refine wm_load (cs := ?_) (t := ?_) (n := ?_) K rfl _ _ rfl rfl ?_ ?_ ?_ ?_; rotate_left 2; (repeat (first | exact At.hd | refine At.tl ?_)); rotate_left; (first | (with_reducible exact row31) | (with_reducible exact row33) | (with_reducible exact row42) | (with_reducible exact row45) | (with_reducible exact row59) | (with_reducible exact row69) | (with_reducible exact row78)); (solve | exact rfl | simp)) | (refine wm_own (cs := ?_) (t := ?_) (v := ?_) K rfl _ _ rfl rfl ?_ ?_ ?_ ?_; rotate_left 2; (repeat (first | exact At.hd | refine At.tl ?_)); rotate_left; (first | exact rfl | assumption); (first | (with_reducible exact one2) | (with_reducible exact one3) | (with_reducible exact one4) | (with_reducible exact one76) | (with_reducible exact one116))) | (refine wm_cell (v := ?_) rfl _ _ rfl rfl ?_ ?_ ?_; rotate_left; (first | assumption | exact (K.below.cell (by assumption)).trans (by assumption)); (first | (with_reducible exact one2) | (with_reducible exact one3) | (with_reducible exact one4) | (with_reducible exact one76) | (with_reducible exact one116)))) | ((with_reducible refine at_store ?_); first | (refine wm_store (L' := ?_) (cs := ?_) (t := ?_) (n := ?_) K rfl _ _ _ rfl rfl rfl rfl ?_ ?_ ?_ ?_ ?_ ?_; rotate_left 3; (repeat (first | exact Put.hd | (refine Put.tl (L' := ?_) ?_; rotate_left))); rotate_left; (first | (with_reducible exact row31) | (with_reducible exact row33) | (with_reducible exact row42) | (with_reducible exact row45) | (with_reducible exact row59) | (with_reducible exact row69) | (with_reducible exact row78)); (solve | exact rfl | simp); (solve | exact rfl | simp); (solve | exact rfl | simp [Ones, Value.oneCell']); (try clear K); (try clear ww); intro ww K; (try simp [go_sem] at K)) | (refine wm_put (L' := ?_) (cs := ?_) (new := ?_) (t := ?_) K rfl _ _ _ rfl rfl rfl rfl ?_ ?_ ?_ ?_ rfl rfl ?_; rotate_left 4; (repeat (first | exact Put.hd | (refine Put.tl (L' := ?_) ?_; rotate_left))); (solve | (simp only [List.size_toArray, nums_length]; first | assumption | omega) | (simp only [List.size_toArray, nums_length, List.length_set]; first | assumption | omega) | simp | omega | (simp only [List.size_toArray, nums_length]; omega) | assumption); (solve | exact nums_set _ _ _ _ | simp only [List.setIfInBounds_toArray, List.set_cons_zero, List.set_cons_succ] | (simp only [List.setIfInBounds_toArray, List.set_cons_zero, List.set_cons_succ]; exact rfl) | exact rfl); (first | (with_reducible exact one2) | (with_reducible exact one3) | (with_reducible exact one4) | (with_reducible exact one76) | (with_reducible exact one116)); (try clear K); (try clear ww); intro ww K; (try simp [go_sem] at K))) | (first | ((fail_if_success (have _h := b1)); first | ((with_reducible refine at_box ?_); refine wm_box K rfl _ _ rfl rfl rfl ?_; (try clear K); (try clear ww); intro b1 ww K; (try simp [go_sem, Value.cells] at K)) | ((with_reducible refine at_alloc ?_); refine wm_alloc (v := ?_) (cs := ?_) K rfl _ rfl ?_ ?_ ?_; rotate_left; (first | (with_reducible exact zero2) | (with_reducible exact zero31) | (with_reducible exact zero33) | (with_reducible exact zero42) | (with_reducible exact zero45) | (with_reducible exact zero59) | (with_reducible exact zero69) | (with_reducible exact zero76) | (with_reducible exact zero78)); rotate_left; exact rfl; (try clear K); (try clear ww); intro b1 ww K; (try simp [go_sem, Value.cells] at K)))))
        go_ret
        exact ⟨by rw [E2.out]; rfl, K.below⟩
      · have t3 : decide (b < -1800000000) = false := decide_eq_false h3
        by_cases h4 : 1800000000 ≤ b
        · have E : chkI a b = 2 := by unfold chkI chkB; rw [t1, t2, t3, decide_eq_true h4]; rfl
          have E2 := Lib.hid E
          clear E
          go_enter Try.func25, Try.ntmps25
          go_wp2_with (first | go_big_skip | ((with_reducible refine at_load ?_); first | (refine wm_load (cs := ?_) (t := ?_) (n := ?_) K rfl _ _ rfl rfl ?_ ?_ ?_ ?_; rotate_left 2; (repeat (first | exact At.hd | refine At.tl ?_)); rotate_left; (first | (with_reducible exact row31) | (with_reducible exact row33) | (with_reducible exact row42) | (with_reducible exact row45) | (with_reducible exact row59) | (with_reducible exact row69) | (with_reducible exact row78)); (solve | exact rfl | simp)) | (refine wm_own (cs := ?_) (t := ?_) (v := ?_) K rfl _ _ rfl rfl ?_ ?_ ?_ ?_; rotate_left 2; (repeat (first | exact At.hd | refine At.tl ?_)); rotate_left; (first | exact rfl | assumption); (first | (with_reducible exact one2) | (with_reducible exact one3) | (with_reducible exact one4) | (with_reducible exact one76) | (with_reducible exact one116))) | (refine wm_cell (v := ?_) rfl _ _ rfl rfl ?_ ?_ ?_; rotate_left; (first | assumption | exact (K.below.cell (by assumption)).trans (by assumption)); (first | (with_reducible exact one2) | (with_reducible exact one3) | (with_reducible exact one4) | (with_reducible exact one76) | (with_reducible exact one116)))) | ((with_reducible refine at_store ?_); first | (refine wm_store (L' := ?_) (cs := ?_) (t := ?_) (n := ?_) K rfl _ _ _ rfl rfl rfl rfl ?_ ?_ ?_ ?_ ?_ ?_; rotate_left 3; (repeat (first | exact Put.hd | (refine Put.tl (L' := ?_) ?_; rotate_left))); rotate_left; (first | (with_reducible exact row31) | (with_reducible exact row33) | (with_reducible exact row42) | (with_reducible exact row45) | (with_reducible exact row59) | (with_reducible exact row69) | (with_reducible exact row78)); (solve | exact rfl | simp); (solve | exact rfl | simp); (solve | exact rfl | simp [Ones, Value.oneCell']); (try clear K); (try clear ww); intro ww K; (try simp [go_sem] at K)) | (refine wm_put (L' := ?_) (cs := ?_) (new := ?_) (t := ?_) K rfl _ _ _ rfl rfl rfl rfl ?_ ?_ ?_ ?_ rfl rfl ?_; rotate_left 4; (repeat (first | exact Put.hd | (refine Put.tl (L' := ?_) ?_; rotate_left))); (solve | (simp only [List.size_toArray, nums_length]; first | assumption | omega) | (simp only [List.size_toArray, nums_length, List.length_set]; first | assumption | omega) | simp | omega | (simp only [List.size_toArray, nums_length]; omega) | assumption); (solve | exact nums_set _ _ _ _ | simp only [List.setIfInBounds_toArray, List.set_cons_zero, List.set_cons_succ] | (simp only [List.setIfInBounds_toArray, List.set_cons_zero, List.set_cons_succ]; exact rfl) | exact rfl); (first | (with_reducible exact one2) | (with_reducible exact one3) | (with_reducible exact one4) | (with_reducible exact one76) | (with_reducible exact one116)); (try clear K); (try clear ww); intro ww K; (try simp [go_sem] at K))) | (first | ((fail_if_success (have _h := b1)); first | ((with_reducible refine at_box ?_); refine wm_box K rfl _ _ rfl rfl rfl ?_; (try clear K); (try clear ww); intro b1 ww K; (try simp [go_sem, Value.cells] at K)) | ((with_reducible refine at_alloc ?_); refine wm_alloc (v := ?_) (cs := ?_) K rfl _ rfl ?_ ?_ ?_; rotate_left; (first | (with_reducible exact zero2) | (with_reducible exact zero31) | (with_reducible exact zero33) | (with_reducible exact zero42) | (with_reducible exact zero45) | (with_reducible exact zero59) | (with_reducible exact zero69) | (with_reducible exact zero76) | (with_reducible exact zero78)); rotate_left; exact rfl; (try clear K); (try clear ww); intro b1 ww K; (try simp [go_sem, Value.cells] at K)))))
          go_ret
          exact ⟨by rw [E2.out]; rfl, K.below⟩
        · have t4 : decide (1800000000 ≤ b) = false := decide_eq_false h4
          have E : chkI a b = 0 := by unfold chkI chkB; rw [t1, t2, t3, t4]; rfl
          have E2 := Lib.hid E
          clear E
          go_enter Try.func25, Try.ntmps25
          go_wp2_with (first | go_big_skip | ((with_reducible refine at_load ?_); first | (refine wm_load (cs := ?_) (t := ?_) (n := ?_) K rfl _ _ rfl rfl ?_ ?_ ?_ ?_; rotate_left 2; (repeat (first | exact At.hd | refine At.tl ?_)); rotate_left; (first | (with_reducible exact row31) | (with_reducible exact row33) | (with_reducible exact row42) | (with_reducible exact row45) | (with_reducible exact row59) | (with_reducible exact row69) | (with_reducible exact row78)); (solve | exact rfl | simp)) | (refine wm_own (cs := ?_) (t := ?_) (v := ?_) K rfl _ _ rfl rfl ?_ ?_ ?_ ?_; rotate_left 2; (repeat (first | exact At.hd | refine At.tl ?_)); rotate_left; (first | exact rfl | assumption); (first | (with_reducible exact one2) | (with_reducible exact one3) | (with_reducible exact one4) | (with_reducible exact one76) | (with_reducible exact one116))) | (refine wm_cell (v := ?_) rfl _ _ rfl rfl ?_ ?_ ?_; rotate_left; (first | assumption | exact (K.below.cell (by assumption)).trans (by assumption)); (first | (with_reducible exact one2) | (with_reducible exact one3) | (with_reducible exact one4) | (with_reducible exact one76) | (with_reducible exact one116)))) | ((with_reducible refine at_store ?_); first | (refine wm_store (L' := ?_) (cs := ?_) (t := ?_) (n := ?_) K rfl _ _ _ rfl rfl rfl rfl ?_ ?_ ?_ ?_ ?_ ?_; rotate_left 3; (repeat (first | exact Put.hd | (refine Put.tl (L' := ?_) ?_; rotate_left))); rotate_left; (first | (with_reducible exact row31) | (with_reducible exact row33) | (with_reducible exact row42) | (with_reducible exact row45) | (with_reducible exact row59) | (with_reducible exact row69) | (with_reducible exact row78)); (solve | exact rfl | simp); (solve | exact rfl | simp); (solve | exact rfl | simp [Ones, Value.oneCell']); (try clear K); (try clear ww); intro ww K; (try simp [go_sem] at K)) | (refine wm_put (L' := ?_) (cs := ?_) (new := ?_) (t := ?_) K rfl _ _ _ rfl rfl rfl rfl ?_ ?_ ?_ ?_ rfl rfl ?_; rotate_left 4; (repeat (first | exact Put.hd | (refine Put.tl (L' := ?_) ?_; rotate_left))); (solve | (simp only [List.size_toArray, nums_length]; first | assumption | omega) | (simp only [List.size_toArray, nums_length, List.length_set]; first | assumption | omega) | simp | omega | (simp only [List.size_toArray, nums_length]; omega) | assumption); (solve | exact nums_set _ _ _ _ | simp only [List.setIfInBounds_toArray, List.set_cons_zero, List.set_cons_succ] | (simp only [List.setIfInBounds_toArray, List.set_cons_zero, List.set_cons_succ]; exact rfl) | exact rfl); (first | (with_reducible exact one2) | (with_reducible exact one3) | (with_reducible exact one4) | (with_reducible exact one76) | (with_reducible exact one116)); (try clear K); (try clear ww); intro ww K; (try simp [go_sem] at K))) | (first | ((fail_if_success (have _h := b1)); first | ((with_reducible refine at_box ?_); refine wm_box K rfl _ _ rfl rfl rfl ?_; (try clear K); (try clear ww); intro b1 ww K; (try simp [go_sem, Value.cells] at K)) | ((with_reducible refine at_alloc ?_); refine wm_alloc (v := ?_) (cs := ?_) K rfl _ rfl ?_ ?_ ?_; rotate_left; (first | (with_reducible exact zero2) | (with_reducible exact zero31) | (with_reducible exact zero33) | (with_reducible exact zero42) | (with_reducible exact zero45) | (with_reducible exact zero59) | (with_reducible exact zero69) | (with_reducible exact zero76) | (with_reducible exact zero78)); rotate_left; exact rfl; (try clear K); (try clear ww); intro b1 ww K; (try simp [go_sem, Value.cells] at K)))))
          go_ret
          exact ⟨by rw [E2.out]; rfl, K.below⟩
theorem RCheck32_any (a b : Int) (w : World) :
    Calls Try.prog 26 #[.agg #[.int .i64 a, .int .i64 b]] w fun e w' => e = .returned (.int .i64 (chkI a b)) ∧ Below w.heap.size w w' := by
  have K := St.start w
  by_cases h1 : a < -800000000
  · have E : chkI a b = 2 := by unfold chkI chkB; rw [decide_eq_true h1]; rfl
    have E2 := Lib.hid E
    have t2 : decide (800000000 < a) = false := decide_eq_false (by omega)
    clear E
    go_enter Try.func26, Try.ntmps26
    go_wp2_with (first | go_big_skip | ((with_reducible refine at_load ?_); first | (refine wm_load (cs := ?_) (t := ?_) (n := ?_) K rfl _ _ rfl rfl ?_ ?_ ?_ ?_; rotate_left 2; (repeat (first | exact At.hd | refine At.tl ?_)); rotate_left; (first | (with_reducible exact row31) | (with_reducible exact row33) | (with_reducible exact row42) | (with_reducible exact row45) | (with_reducible exact row59) | (with_reducible exact row69) | (with_reducible exact row78)); (solve | exact rfl | simp)) | (refine wm_own (cs := ?_) (t := ?_) (v := ?_) K rfl _ _ rfl rfl ?_ ?_ ?_ ?_; rotate_left 2; (repeat (first | exact At.hd | refine At.tl ?_)); rotate_left; (first | exact rfl | assumption); (first | (with_reducible exact one2) | (with_reducible exact one3) | (with_reducible exact one4) | (with_reducible exact one76) | (with_reducible exact one116))) | (refine wm_cell (v := ?_) rfl _ _ rfl rfl ?_ ?_ ?_; rotate_left; (first | assumption | exact (K.below.cell (by assumption)).trans (by assumption)); (first | (with_reducible exact one2) | (with_reducible exact one3) | (with_reducible exact one4) | (with_reducible exact one76) | (with_reducible exact one116)))) | ((with_reducible refine at_store ?_); first | (refine wm_store (L' := ?_) (cs := ?_) (t := ?_) (n := ?_) K rfl _ _ _ rfl rfl rfl rfl ?_ ?_ ?_ ?_ ?_ ?_; rotate_left 3; (repeat (first | exact Put.hd | (refine Put.tl (L' := ?_) ?_; rotate_left))); rotate_left; (first | (with_reducible exact row31) | (with_reducible exact row33) | (with_reducible exact row42) | (with_reducible exact row45) | (with_reducible exact row59) | (with_reducible exact row69) | (with_reducible exact row78)); (solve | exact rfl | simp); (solve | exact rfl | simp); (solve | exact rfl | simp [Ones, Value.oneCell']); (try clear K); (try clear ww); intro ww K; (try simp [go_sem] at K)) | (refine wm_put (L' := ?_) (cs := ?_) (new := ?_) (t := ?_) K rfl _ _ _ rfl rfl rfl rfl ?_ ?_ ?_ ?_ rfl rfl ?_; rotate_left 4; (repeat (first | exact Put.hd | (refine Put.tl (L' := ?_) ?_; rotate_left))); (solve | (simp only [List.size_toArray, nums_length]; first | assumption | omega) | (simp only [List.size_toArray, nums_length, List.length_set]; first | assumption | omega) | simp | omega | (simp only [List.size_toArray, nums_length]; omega) | assumption); (solve | exact nums_set _ _ _ _ | simp only [List.setIfInBounds_toArray, List.set_cons_zero, List.set_cons_succ] | (simp only [List.setIfInBounds_toArray, List.set_cons_zero, List.set_cons_succ]; exact rfl) | exact rfl); (first | (with_reducible exact one2) | (with_reducible exact one3) | (with_reducible exact one4) | (with_reducible exact one76) | (with_reducible exact one116)); (try clear K); (try clear ww); intro ww K; (try simp [go_sem] at K))) | (first | ((fail_if_success (have _h := b1)); first | ((with_reducible refine at_box ?_); refine wm_box K rfl _ _ rfl rfl rfl ?_; (try clear K); (try clear ww); intro b1 ww K; (try simp [go_sem, Value.cells] at K)) | ((with_reducible refine at_alloc ?_); refine wm_alloc (v := ?_) (cs := ?_) K rfl _ rfl ?_ ?_ ?_; rotate_left; (first | (with_reducible exact zero2) | (with_reducible exact zero31) | (with_reducible exact zero33) | (with_reducible exact zero42) | (with_reducible exact zero45) | (with_reducible exact zero59) | (with_reducible exact zero69) | (with_reducible exact zero76) | (with_reducible exact zero78)); rotate_left; exact rfl; (try clear K); (try clear ww); intro b1 ww K; (try simp [go_sem, Value.cells] at K)))))
    go_ret
    exact ⟨by rw [E2.out]; rfl, K.below⟩
  · have t1 : decide (a < -800000000) = false := decide_eq_false h1
    by_cases h2 : 800000000 < a
    · have E : chkI a b = 2 := by unfold chkI chkB; rw [t1, decide_eq_true h2]; rfl
      have E2 := Lib.hid E
      clear E
      go_enter Try.func26, Try.ntmps26
      go_wp2_with (first | go_big_skip | ((with_reducible refine at_load ?_); first | (refine wm_load (cs := ?_) (t := ?_) (n := ?_) K rfl _ _ rfl rfl ?_ ?_ ?_ ?_; rotate_left 2; (repeat (first | exact At.hd | refine At.tl ?_)); rotate_left; (first | (with_reducible exact row31) | (with_reducible exact row33) | (with_reducible exact row42) | (with_reducible exact row45) | (with_reducible exact row59) | (with_reducible exact row69) | (with_reducible exact row78)); (solve | exact rfl | simp)) | (refine wm_own (cs := ?_) (t := ?_) (v := ?_) K rfl _ _ rfl rfl ?_ ?_ ?_ ?_; rotate_left 2; (repeat (first | exact At.hd | refine At.tl ?_)); rotate_left; (first | exact rfl | assumption); (first | (with_reducible exact one2) | (with_reducible exact one3) | (with_reducible exact one4) | (with_reducible exact one76) | (with_reducible exact one116))) | (refine wm_cell (v := ?_) rfl _ _ rfl rfl ?_ ?_ ?_; rotate_left; (first | assumption | exact (K.below.cell (by assumption)).trans (by assumption)); (first | (with_reducible exact one2) | (with_reducible exact one3) | (with_reducible exact one4) | (with_reducible exact one76) | (with_reducible exact one116)))) | ((with_reducible refine at_store ?_); first | (refine wm_store (L' := ?_) (cs := ?_) (t := ?_) (n := ?_) K rfl _ _ _ rfl rfl rfl rfl ?_ ?_ ?_ ?_ ?_ ?_; rotate_left 3; (repeat (first | exact Put.hd | (refine Put.tl (L' := ?_) ?_; rotate_left))); rotate_left; (first | (with_reducible exact row31) | (with_reducible exact row33) | (with_reducible exact row42) | (with_reducible exact row45) | (with_reducible exact row59) | (with_reducible exact row69) | (with_reducible exact row78)); (solve | exact rfl | simp); (solve | exact rfl | simp); (solve | exact rfl | simp [Ones, Value.oneCell']); (try clear K); (try clear ww); intro ww K; (try simp [go_sem] at K)) | (refine wm_put (L' := ?_) (cs := ?_) (new := ?_) (t := ?_) K rfl _ _ _ rfl rfl rfl rfl ?_ ?_ ?_ ?_ rfl rfl ?_; rotate_left 4; (repeat (first | exact Put.hd | (refine Put.tl (L' := ?_) ?_; rotate_left))); (solve | (simp only [List.size_toArray, nums_length]; first | assumption | omega) | (simp only [List.size_toArray, nums_length, List.length_set]; first | assumption | omega) | simp | omega | (simp only [List.size_toArray, nums_length]; omega) | assumption); (solve | exact nums_set _ _ _ _ | simp only [List.setIfInBounds_toArray, List.set_cons_zero, List.set_cons_succ] | (simp only [List.setIfInBounds_toArray, List.set_cons_zero, List.set_cons_succ]; exact rfl) | exact rfl); (first | (with_reducible exact one2) | (with_reducible exact one3) | (with_reducible exact one4) | (with_reducible exact one76) | (with_reducible exact one116)); (try clear K); (try clear ww); intro ww K; (try simp [go_sem] at K))) | (first | ((fail_if_success (have _h := b1)); first | ((with_reducible refine at_box ?_); refine wm_box K rfl _ _ rfl rfl rfl ?_; (try clear K); (try clear ww); intro b1 ww K; (try simp [go_sem, Value.cells] at K)) | ((with_reducible refine at_alloc ?_); refine wm_alloc (v := ?_) (cs := ?_) K rfl _ rfl ?_ ?_ ?_; rotate_left; (first | (with_reducible exact zero2) | (with_reducible exact zero31) | (with_reducible exact zero33) | (with_reducible exact zero42) | (with_reducible exact zero45) | (with_reducible exact zero59) | (with_reducible exact zero69) | (with_reducible exact zero76) | (with_reducible exact zero78)); rotate_left; exact rfl; (try clear K); (try clear ww); intro b1 ww K; (try simp [go_sem, Value.cells] at K)))))
      go_ret
      exact ⟨by rw [E2.out]; rfl, K.below⟩
    · have t2 : decide (800000000 < a) = false := decide_eq_false h2
      by_cases h3 : b < -1800000000
      · have E : chkI a b = 2 := by unfold chkI chkB; rw [t1, t2, decide_eq_true h3]; rfl
        have E2 := Lib.hid E
        clear E
        go_enter Try.func26, Try.ntmps26
        go_wp2_with (first | go_big_skip | ((with_reducible refine at_load ?_); first | (refine wm_load (cs := ?_) (t := ?_) (n := ?_) K rfl _ _ rfl rfl ?_ ?_ ?_ ?_; rotate_left 2; (repeat (first | exact At.hd | refine At.tl ?_)); rotate_left; (first | (with_reducible exact row31) | (with_reducible exact row33) | (with_reducible exact row42) | (with_reducible exact row45) | (with_reducible exact row59) | (with_reducible exact row69) | (with_reducible exact row78)); (solve | exact rfl | simp)) | (refine wm_own (cs := ?_) (t := ?_) (v := ?_) K rfl _ _ rfl rfl ?_ ?_ ?_ ?_; rotate_left 2; (repeat (first | exact At.hd | refine At.tl ?_)); rotate_left; (first | exact rfl | assumption); (first | (with_reducible exact one2) | (with_reducible exact one3) | (with_reducible exact one4) | (with_reducible exact one76) | (with_reducible exact one116))) | (refine wm_cell (v := ?_) rfl _ _ rfl rfl ?_ ?_ ?_; rotate_left; (first | assumption | exact (K.below.cell (by assumption)).trans (by assumption)); (first | (with_reducible exact one2) | (with_reducible exact one3) | (with_reducible exact one4) | (with_reducible exact one76) | (with_reducible exact one116)))) | ((with_reducible refine at_store ?_); first | (refine wm_store (L' := ?_) (cs := ?_) (t := ?_) (n := ?_) K rfl _ _ _ rfl rfl rfl rfl ?_ ?_ ?_ ?_ ?_ ?_; rotate_left 3; (repeat (first | exact Put.hd | (refine Put.tl (L' := ?_) ?_; rotate_left))); rotate_left; (first | (with_reducible exact row31) | (with_reducible exact row33) | (with_reducible exact row42) | (with_reducible exact row45) | (with_reducible exact row59) | (with_reducible exact row69) | (with_reducible exact row78)); (solve | exact rfl | simp); (solve | exact rfl | simp); (solve | exact rfl | simp [Ones, Value.oneCell']); (try clear K); (try clear ww); intro ww K; (try simp [go_sem] at K)) | (refine wm_put (L' := ?_) (cs := ?_) (new := ?_) (t := ?_) K rfl _ _ _ rfl rfl rfl rfl ?_ ?_ ?_ ?_ rfl rfl ?_; rotate_left 4; (repeat (first | exact Put.hd | (refine Put.tl (L' := ?_) ?_; rotate_left))); (solve | (simp only [List.size_toArray, nums_length]; first | assumption | omega) | (simp only [List.size_toArray, nums_length, List.length_set]; first | assumption | omega) | simp | omega | (simp only [List.size_toArray, nums_length]; omega) | assumption); (solve | exact nums_set _ _ _ _ | simp only [List.setIfInBounds_toArray, List.set_cons_zero, List.set_cons_succ] | (simp only [List.setIfInBounds_toArray, List.set_cons_zero, List.set_cons_succ]; exact rfl) | exact rfl); (first | (with_reducible exact one2) | (with_reducible exact one3) | (with_reducible exact one4) | (with_reducible exact one76) | (with_reducible exact one116)); (try clear K); (try clear ww); intro ww K; (try simp [go_sem] at K))) | (first | ((fail_if_success (have _h := b1)); first | ((with_reducible refine at_box ?_); refine wm_box K rfl _ _ rfl rfl rfl ?_; (try clear K); (try clear ww); intro b1 ww K; (try simp [go_sem, Value.cells] at K)) | ((with_reducible refine at_alloc ?_); refine wm_alloc (v := ?_) (cs := ?_) K rfl _ rfl ?_ ?_ ?_; rotate_left; (first | (with_reducible exact zero2) | (with_reducible exact zero31) | (with_reducible exact zero33) | (with_reducible exact zero42) | (with_reducible exact zero45) | (with_reducible exact zero59) | (with_reducible exact zero69) | (with_reducible exact zero76) | (with_reducible exact zero78)); rotate_left; exact rfl; (try clear K); (try clear ww); intro b1 ww K; (try simp [go_sem, Value.cells] at K)))))
        go_ret
        exact ⟨by rw [E2.out]; rfl, K.below⟩
      · have t3 : decide (b < -1800000000) = false := decide_eq_false h3
        by_cases h4 : 1800000000 ≤ b
        · have E : chkI a b = 2 := by unfold chkI chkB; rw [t1, t2, t3, decide_eq_true h4]; rfl
          have E2 := Lib.hid E
          clear E
          go_enter Try.func26, Try.ntmps26
          go_wp2_with (first | go_big_skip | ((with_reducible refine at_load ?_); first | (refine wm_load (cs := ?_) (t := ?_) (n := ?_) K rfl _ _ rfl rfl ?_ ?_ ?_ ?_; rotate_left 2; (repeat (first | exact At.hd | refine At.tl ?_)); rotate_left; (first | (with_reducible exact row31) | (with_reducible exact row33) | (with_reducible exact row42) | (with_reducible exact row45) | (with_reducible exact row59) | (with_reducible exact row69) | (with_reducible exact row78)); (solve | exact rfl | simp)) | (refine wm_own (cs := ?_) (t := ?_) (v := ?_) K rfl _ _ rfl rfl ?_ ?_ ?_ ?_; rotate_left 2; (repeat (first | exact At.hd | refine At.tl ?_)); rotate_left; (first | exact rfl | assumption); (first | (with_reducible exact one2) | (with_reducible exact one3) | (with_reducible exact one4) | (with_reducible exact one76) | (with_reducible exact one116))) | (refine wm_cell (v := ?_) rfl _ _ rfl rfl ?_ ?_ ?_; rotate_left; (first | assumption | exact (K.below.cell (by assumption)).trans (by assumption)); (first | (with_reducible exact one2) | (with_reducible exact one3) | (with_reducible exact one4) | (with_reducible exact one76) | (with_reducible exact one116)))) | ((with_reducible refine at_store ?_); first | (refine wm_store (L' := ?_) (cs := ?_) (t := ?_) (n := ?_) K rfl _ _ _ rfl rfl rfl rfl ?_ ?_ ?_ ?_ ?_ ?_; rotate_left 3; (repeat (first | exact Put.hd | (refine Put.tl (L' := ?_) ?_; rotate_left))); rotate_left; (first | (with_reducible exact row31) | (with_reducible exact row33) | (with_reducible exact row42) | (with_reducible exact row45) | (with_reducible exact row59) | (with_reducible exact row69) | (with_reducible exact row78)); (solve | exact rfl | simp); (solve | exact rfl | simp); (solve | exact rfl | simp [Ones, Value.oneCell']); (try clear K); (try clear ww); intro ww K; (try simp [go_sem] at K)) | (refine wm_put (L' := ?_) (cs := ?_) (new := ?_) (t := ?_) K rfl _ _ _ rfl rfl rfl rfl ?_ ?_ ?_ ?_ rfl rfl ?_; rotate_left 4; (repeat (first | exact Put.hd | (refine Put.tl (L' := ?_) ?_; rotate_left))); (solve | (simp only [List.size_toArray, nums_length]; first | assumption | omega) | (simp only [List.size_toArray, nums_length, List.length_set]; first | assumption | omega) | simp | omega | (simp only [List.size_toArray, nums_length]; omega) | assumption); (solve | exact nums_set _ _ _ _ | simp only [List.setIfInBounds_toArray, List.set_cons_zero, List.set_cons_succ] | (simp only [List.setIfInBounds_toArray, List.set_cons_zero, List.set_cons_succ]; exact rfl) | exact rfl); (first | (with_reducible exact one2) | (with_reducible exact one3) | (with_reducible exact one4) | (with_reducible exact one76) | (with_reducible exact one116)); (try clear K); (try clear ww); intro ww K; (try simp [go_sem] at K))) | (first | ((fail_if_success (have _h := b1)); first | ((with_reducible refine at_box ?_); refine wm_box K rfl _ _ rfl rfl rfl ?_; (try clear K); (try clear ww); intro b1 ww K; (try simp [go_sem, Value.cells] at K)) | ((with_reducible refine at_alloc ?_); refine wm_alloc (v := ?_) (cs := ?_) K rfl _ rfl ?_ ?_ ?_; rotate_left; (first | (with_reducible exact zero2) | (with_reducible exact zero31) | (with_reducible exact zero33) | (with_reducible exact zero42) | (with_reducible exact zero45) | (with_reducible exact zero59) | (with_reducible exact zero69) | (with_reducible exact zero76) | (with_reducible exact zero78)); rotate_left; exact rfl; (try clear K); (try clear ww); intro b1 ww K; (try simp [go_sem, Value.cells] at K)))))
          go_ret
          exact ⟨by rw [E2.out]; rfl, K.below⟩
        · have t4 : decide (1800000000 ≤ b) = false := decide_eq_false h4
          have E : chkI a b = 0 := by unfold chkI chkB; rw [t1, t2, t3, t4]; rfl
          have E2 := Lib.hid E
          clear E
          go_enter Try.func26, Try.ntmps26
          go_wp2_with (first | go_big_skip | ((with_reducible refine at_load ?_); first | (refine wm_load (cs := ?_) (t := ?_) (n := ?_) K rfl _ _ rfl rfl ?_ ?_ ?_ ?_; rotate_left 2; (repeat (first | exact At.hd | refine At.tl ?_)); rotate_left; (first | (with_reducible exact row31) | (with_reducible exact row33) | (with_reducible exact row42) | (with_reducible exact row45) | (with_reducible exact row59) | (with_reducible exact row69) | (with_reducible exact row78)); (solve | exact rfl | simp)) | (refine wm_own (cs := ?_) (t := ?_) (v := ?_) K rfl _ _ rfl rfl ?_ ?_ ?_ ?_; rotate_left 2; (repeat (first | exact At.hd | refine At.tl ?_)); rotate_left; (first | exact rfl | assumption); (first | (with_reducible exact one2) | (with_reducible exact one3) | (with_reducible exact one4) | (with_reducible exact one76) | (with_reducible exact one116))) | (refine wm_cell (v := ?_) rfl _ _ rfl rfl ?_ ?_ ?_; rotate_left; (first | assumption | exact (K.below.cell (by assumption)).trans (by assumption)); (first | (with_reducible exact one2) | (with_reducible exact one3) | (with_reducible exact one4) | (with_reducible exact one76) | (with_reducible exact one116)))) | ((with_reducible refine at_store ?_); first | (refine wm_store (L' := ?_) (cs := ?_) (t := ?_) (n := ?_) K rfl _ _ _ rfl rfl rfl rfl ?_ ?_ ?_ ?_ ?_ ?_; rotate_left 3; (repeat (first | exact Put.hd | (refine Put.tl (L' := ?_) ?_; rotate_left))); rotate_left; (first | (with_reducible exact row31) | (with_reducible exact row33) | (with_reducible exact row42) | (with_reducible exact row45) | (with_reducible exact row59) | (with_reducible exact row69) | (with_reducible exact row78)); (solve | exact rfl | simp); (solve | exact rfl | simp); (solve | exact rfl | simp [Ones, Value.oneCell']); (try clear K); (try clear ww); intro ww K; (try simp [go_sem] at K)) | (refine wm_put (L' := ?_) (cs := ?_) (new := ?_) (t := ?_) K rfl _ _ _ rfl rfl rfl rfl ?_ ?_ ?_ ?_ rfl rfl ?_; rotate_left 4; (repeat (first | exact Put.hd | (refine Put.tl (L' := ?_) ?_; rotate_left))); (solve | (simp only [List.size_toArray, nums_length]; first | assumption | omega) | (simp only [List.size_toArray, nums_length, List.length_set]; first | assumption | omega) | simp | omega | (simp only [List.size_toArray, nums_length]; omega) | assumption); (solve | exact nums_set _ _ _ _ | simp only [List.setIfInBounds_toArray, List.set_cons_zero, List.set_cons_succ] | (simp only [List.setIfInBounds_toArray, List.set_cons_zero, List.set_cons_succ]; exact rfl) | exact rfl); (first | (with_reducible exact one2) | (with_reducible exact one3) | (with_reducible exact one4) | (with_reducible exact one76) | (with_reducible exact one116)); (try clear K); (try clear ww); intro ww K; (try simp [go_sem] at K))) | (first | ((fail_if_success (have _h := b1)); first | ((with_reducible refine at_box ?_); refine wm_box K rfl _ _ rfl rfl rfl ?_; (try clear K); (try clear ww); intro b1 ww K; (try simp [go_sem, Value.cells] at K)) | ((with_reducible refine at_alloc ?_); refine wm_alloc (v := ?_) (cs := ?_) K rfl _ rfl ?_ ?_ ?_; rotate_left; (first | (with_reducible exact zero2) | (with_reducible exact zero31) | (with_reducible exact zero33) | (with_reducible exact zero42) | (with_reducible exact zero45) | (with_reducible exact zero59) | (with_reducible exact zero69) | (with_reducible exact zero76) | (with_reducible exact zero78)); rotate_left; exact rfl; (try clear K); (try clear ww); intro b1 ww K; (try simp [go_sem, Value.cells] at K)))))
          go_ret
          exact ⟨by rw [E2.out]; rfl, K.below⟩
theorem GWrap_any (x : Int) (w : World) :
    Calls Try.prog 27 #[.int .i64 x] w fun e w' => e = .returned (.int .i64 (wrapL x)) ∧ w = w' := by
  obtain ⟨h1, h2, h3, h4⟩ := wrapL_trunc x
  by_cases c1 : x.tmod 3600000000 < -1800000000
  · have E := Lib.hid (h1 c1)
    clear h1 h2 h3
    go_enter Try.func27, Try.ntmps27
    go_wp2
    go_ret
    exact ⟨by rw [E.out]; rfl, rfl⟩
  · have t1 : decide (x.tmod 3600000000 < -1800000000) = false := decide_eq_false c1
    by_cases c2 : 1800000000 ≤ x.tmod 3600000000
    · have E := Lib.hid (h2 c2)
      clear h1 h2 h3
      go_enter Try.func27, Try.ntmps27
      go_wp2
      go_ret
      exact ⟨by rw [E.out]; rfl, rfl⟩
    · have t2 : decide (1800000000 ≤ x.tmod 3600000000) = false := decide_eq_false c2
      have E := Lib.hid (h3 (by omega) (by omega))
      clear h1 h2 h3
      go_enter Try.func27, Try.ntmps27
      go_wp2
      go_ret
      exact ⟨by rw [E.out]; rfl, rfl⟩
theorem RWrap_any (x : Int) (w : World) :
    Calls Try.prog 28 #[.int .i64 x] w fun e w' => e = .returned (.int .i64 (wrapL x)) ∧ w = w' := by
  obtain ⟨h1, h2, h3, h4⟩ := wrapL_trunc x
  by_cases c0 : x.tmod 3600000000 < 0
  · by_cases c2 : 1800000000 ≤ x.tmod 3600000000 + 3600000000
    · have E : Hid (wrapL x = x.tmod 3600000000 + 3600000000 - 3600000000) := Lib.hid (by rw [h3 (by omega) (by omega)]; omega)
      clear h1 h2 h3
      have e1 : x.tmod 3600000000 + 3600000000 - 3600000000 = x.tmod 3600000000 := by omega
      go_enter Try.func28, Try.ntmps28
      go_wp2
      go_ret
      exact ⟨by rw [E.out]; first | rfl | (rw [e1]; rfl), rfl⟩
    · have t2 : decide (1800000000 ≤ x.tmod 3600000000 + 3600000000) = false := decide_eq_false c2
      have E := Lib.hid (h1 (by omega))
      clear h1 h2 h3
      go_enter Try.func28, Try.ntmps28
      go_wp2
      go_ret
      exact ⟨by rw [E.out]; rfl, rfl⟩
  · have t0 : decide (x.tmod 3600000000 < 0) = false := decide_eq_false c0
    by_cases c2 : 1800000000 ≤ x.tmod 3600000000
    · have E := Lib.hid (h2 c2)
      clear h1 h2 h3
      go_enter Try.func28, Try.ntmps28
      go_wp2
      go_ret
      exact ⟨by rw [E.out]; rfl, rfl⟩
    · have t2 : decide (1800000000 ≤ x.tmod 3600000000) = false := decide_eq_false c2
      have E := Lib.hid (h3 (by omega) (by omega))
      clear h1 h2 h3
      go_enter Try.func28, Try.ntmps28
      go_wp2
      go_ret
      exact ⟨by rw [E.out]; rfl, rfl⟩
theorem Angle_any (x : Int) (w : World) :
    Calls Try.prog 73 #[.int .i64 x] w fun e w' => e = .returned (.int .u32 (angL x % 4294967296)) ∧ Below w.heap.size w w' := by
  have K := St.start w
  have W1 := Lib.hid (fun w => GWrap_any x w)
  have hb := wrapL_bd x
  have ha := angL_bd x
  have M1 := Lib.hid (fun w => MulDiv_any (wrapL x) 4294967296 3600000000 2 w (by omega) (by omega) (by decide) (by decide) (by decide) (by decide))
  rw [divM_nq (by decide) (show _ by have := ha; unfold angL at this; omega), show nq (wrapL x * 4294967296) 3600000000 = angL x from rfl] at M1
  generalize angL x = g at *
  generalize wrapL x = l at *
  go_enter Try.func73, Try.ntmps73
  go_wp2_with (first | (go_at_call 27; (with_reducible refine (W1.out _).mono ?_); rintro e w2 ⟨rfl, rfl⟩; (try dsimp only)) | (go_at_call 50; (with_reducible refine (M1.out _).mono ?_); rintro e w2 ⟨rfl, k1⟩; replace K := K.step k1; clear k1; (try clear ww); revert w2; intro ww K))
  go_ret
  exact ⟨rfl, K.below⟩
theorem narrow_any (x : Int) (w : World) :
    Calls Try.prog 69 #[.int .i64 x] w fun e w' => e = .returned (.int .i64 (narA x)) ∧ Below w.heap.size w w' := by
  have K := St.start w
  have A1 := Lib.hid (fun w => Angle_any x w)
  have S1 := Lib.hid (fun w => SinCos_any (angL x % 4294967296) w (by omega))
  have E : narA x = max (sinA (angL x % 4294967296)).2 1 := rfl
  rw [E]
  clear E
  generalize sinA (angL x % 4294967296) = sc at *
  obtain ⟨s, c⟩ := sc
  dsimp only at *
  generalize angL x % 4294967296 = g at *
  go_enter Try.func69, Try.ntmps69
  go_wp2_with (first | (go_at_call 73; (with_reducible refine (A1.out _).mono ?_); rintro e w2 ⟨rfl, k1⟩; replace K := K.step k1; clear k1; (try clear ww); revert w2; intro ww K) | (go_at_call 13; (with_reducible refine (S1.out _).mono ?_); rintro e w2 ⟨rfl, k1⟩; replace K := K.step k1; clear k1; (try clear ww); revert w2; intro ww K))
  go_ret
  exact ⟨rfl, K.below⟩
theorem quot32_any (a b c : Int) (w : World) (a0 : -9223372036854775808 ≤ a) (a1 : a ≤ 9223372036854775807) (b0 : -9223372036854775808 ≤ b) (b1 : b ≤ 9223372036854775807) (c0 : -9223372036854775808 ≤ c) (c1 : c ≤ 9223372036854775807) :
    Calls Try.prog 71 #[.int .i64 a, .int .i64 b, .int .i64 c] w fun e w' => e = .returned (.int .i64 (divM (a * b) c 2).1) ∧ Below w.heap.size w w' := by
  have K := St.start w
  have M1 := Lib.hid (fun w => Mul_any a b w a0 a1 b0 b1)
  have D1 := Lib.hid (fun w => RDiv_any (a * b) c 2 w (by have := mul_bd a0 a1 b0 b1; omega) c0 c1)
  clear a0 a1 b0 b1 c0 c1
  generalize a * b = z at *
  generalize divM z c 2 = d at *
  obtain ⟨q, k⟩ := d
  dsimp only at *
  go_enter Try.func71, Try.ntmps71
  go_wp2_with (first | (go_at_call 19; (with_reducible refine (M1.out _).mono ?_); rintro e w2 ⟨rfl, k1⟩; replace K := K.step k1; clear k1; (try clear ww); revert w2; intro ww K) | (go_at_call 21; (with_reducible refine (D1.out _).mono ?_); rintro e w2 ⟨rfl, k1⟩; replace K := K.step k1; clear k1; (try clear ww); revert w2; intro ww K))
  go_ret
  exact ⟨rfl, K.below⟩
theorem Rnarrow_any (x : Int) (w : World) :
    Calls Try.prog 72 #[.int .i64 x] w fun e w' => e = .returned (.int .i64 (narA x)) ∧ Below w.heap.size w w' := by
  have K := St.start w
  have W1 := Lib.hid (fun w => RWrap_any x w)
  have hb := wrapL_bd x
  have ha := angL_bd x
  have Q1 := Lib.hid (fun w => quot32_any (wrapL x) 4294967296 3600000000 w (by omega) (by omega) (by decide) (by decide) (by decide) (by decide))
  rw [divM_nq (by decide) (show _ by have := ha; unfold angL at this; omega), show nq (wrapL x * 4294967296) 3600000000 = angL x from rfl] at Q1
  have S1 := Lib.hid (fun w => RSinCos_any (angL x % 4294967296) w (by omega))
  have E : narA x = max (sinA (angL x % 4294967296)).2 1 := rfl
  rw [E]
  clear E
  generalize sinA (angL x % 4294967296) = sc at *
  obtain ⟨s, c⟩ := sc
  dsimp only at *
  generalize angL x = g at *
  generalize wrapL x = l at *
  have e1 : (g + 4294967296) % 4294967296 = g % 4294967296 := by omega
  have hg : 0 ≤ g + 4294967296 := by omega
  by_cases hc : c < 1
  · rw [show max c 1 = 1 by omega]
    go_enter Try.func72, Try.ntmps72
    go_wp2_with (first | (go_at_call 28; (with_reducible refine (W1.out _).mono ?_); rintro e w2 ⟨rfl, rfl⟩; (try dsimp only)) | (go_at_call 71; (with_reducible refine (Q1.out _).mono ?_); rintro e w2 ⟨rfl, k1⟩; replace K := K.step k1; clear k1; (try clear ww); revert w2; intro ww K) | (go_at_call 14; (with_reducible refine (S1.out _).mono ?_); rintro e w2 ⟨rfl, k1⟩; replace K := K.step k1; clear k1; (try clear ww); revert w2; intro ww K))
    go_ret
    exact ⟨rfl, K.below⟩
  · rw [show max c 1 = c by omega]
    have t1 : decide (c < 1) = false := decide_eq_false hc
    go_enter Try.func72, Try.ntmps72
    go_wp2_with (first | (go_at_call 28; (with_reducible refine (W1.out _).mono ?_); rintro e w2 ⟨rfl, rfl⟩; (try dsimp only)) | (go_at_call 71; (with_reducible refine (Q1.out _).mono ?_); rintro e w2 ⟨rfl, k1⟩; replace K := K.step k1; clear k1; (try clear ww); revert w2; intro ww K) | (go_at_call 14; (with_reducible refine (S1.out _).mono ?_); rintro e w2 ⟨rfl, k1⟩; replace K := K.step k1; clear k1; (try clear ww); revert w2; intro ww K))
    go_ret
    exact ⟨rfl, K.below⟩
theorem in32_any (x far : Int) (w : World) (h : 0 ≤ far ∧ far ≤ 1000000000) :
    Calls Try.prog 70 #[.int .i64 x, .int .i64 far] w fun e w' => e = .returned (.bool (farB x far)) ∧ w = w' := by
  unfold farB
  by_cases h1 : -far ≤ x
  · rw [decide_eq_true h1, Bool.true_and]
    go_enter Try.func70, Try.ntmps70
    go_wp2
    go_ret
    exact ⟨rfl, rfl⟩
  · have t1 : decide (-far ≤ x) = false := decide_eq_false h1
    rw [t1, Bool.false_and]
    go_enter Try.func70, Try.ntmps70
    go_wp2
    go_ret
    exact ⟨rfl, rfl⟩
end Go.Proofs.Ytnphpnkfdnnmbaa
