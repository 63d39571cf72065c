/-
  The walk of the arcs.
-/
import Derived.Test.YtogbnecgikbkmaaTs31
import Derived.Test.YtogbnecgikbkmaaTy
namespace Go.Proofs.Ytogbnecgikbkmaa
open Go.RowKit
attribute [local irreducible] wpHeld wpList
set_option linter.unusedVariables false
set_option maxRecDepth 100000 in
theorem builtA : Try.prog.built 158 (arcL.zipIdx.map fun p => (p.2, Value.int .i64 p.1)) = some arcV := by kernel_rfl
theorem arcV_ones : Ones arcV := by simp [Ones, arcV, Value.oneCell']
set_option maxRecDepth 100000 in
theorem arcs_any (w : World) : Calls Try.prog 82 #[] w fun e w' => e = .returned (.agg arcV) ∧ Below w.heap.size w w' := by
  have K := St.start w
  have hB := builtA
  have hsz := arcV_size
  have ho := arcV_ones
  generalize arcV = arr at *
  go_enter Try.func82, Try.ntmps82
  go_wp2_with (first | ((with_reducible refine wl_at_build 158 ?_); refine wl_build rfl 158 _ rfl rfl hB ?_) | ((with_reducible refine at_alloc ?_); refine wm_alloc K rfl _ rfl zero158 rfl ?_; intro b0 ww K) | go_big_skip | ((with_reducible refine at_load ?_); first | (refine wm_load (cs := ?_) (t := ?_) (n := ?_) K rfl _ _ rfl rfl ?_ ?_ ?_ ?_; rotate_left 2; (repeat (first | exact At.hd | refine At.tl ?_)); rotate_left; (first | (with_reducible exact row158)); (solve | (with_reducible exact hsz) | exact rfl | simp)) | (refine wm_own (cs := ?_) (t := ?_) (v := ?_) K rfl _ _ rfl rfl ?_ ?_ ?_ ?_; rotate_left 2; (repeat (first | exact At.hd | refine At.tl ?_)); rotate_left; (first | exact rfl | assumption); (first | fail)) | (refine wm_cell (v := ?_) rfl _ _ rfl rfl ?_ ?_ ?_; rotate_left; (first | assumption | exact (K.below.cell (by assumption)).trans (by assumption)); (first | fail))) | ((with_reducible refine at_store ?_); first | (refine wm_store (L' := ?_) (cs := ?_) (t := ?_) (n := ?_) K rfl _ _ _ rfl rfl rfl rfl ?_ ?_ ?_ ?_ ?_ ?_; rotate_left 3; (repeat (first | exact Put.hd | (refine Put.tl (L' := ?_) ?_; rotate_left))); rotate_left; (first | (with_reducible exact row158)); (solve | (with_reducible exact hsz) | exact rfl | simp); (solve | (with_reducible exact hsz) | exact rfl | simp); (solve | (with_reducible exact ho) | exact rfl | simp [Ones, Value.oneCell']); (try clear K); (try clear ww); intro ww K; (try simp [go_sem] at K)) | (refine wm_put (L' := ?_) (cs := ?_) (new := ?_) (t := ?_) K rfl _ _ _ rfl rfl rfl rfl ?_ ?_ ?_ ?_ rfl rfl ?_; rotate_left 4; (repeat (first | exact Put.hd | (refine Put.tl (L' := ?_) ?_; rotate_left))); (solve | decide | (simp only [List.size_toArray, nums_length]; first | assumption | omega) | (simp only [List.size_toArray, nums_length, List.length_set]; first | assumption | omega) | simp | omega | (simp only [List.size_toArray, nums_length]; omega) | assumption); (solve | exact nums_set _ _ _ _ | simp only [List.setIfInBounds_toArray, List.set_cons_zero] | simp only [List.setIfInBounds_toArray, List.set_cons_zero, List.set_cons_succ] | (simp only [List.setIfInBounds_toArray, List.set_cons_zero, List.set_cons_succ]; exact rfl) | exact rfl); (first | fail); (try clear K); (try clear ww); intro ww K; (try simp [go_sem] at K))))
  refine bodyPost_ret (K.res (cs := ?_) (t := ?_) (n := ?_) rfl _ rfl ?_ ?_ ?_) rfl ?_; rotate_left 2; (repeat (first | exact At.hd | refine At.tl ?_)); rotate_left; (first | (with_reducible exact row158)); (solve | (with_reducible exact hsz) | exact rfl | simp)
  exact ⟨rfl, K.below⟩
end Go.Proofs.Ytogbnecgikbkmaa
