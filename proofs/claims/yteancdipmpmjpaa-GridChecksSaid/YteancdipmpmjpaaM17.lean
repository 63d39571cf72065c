/-
  The walks of grids: one cut, as the document says.
  The walks of grids: one cut, as the program does it.
  The walks of grids: where a place lies; one that lies elsewhere; a place in a row.
  The walks of grids: one that may not be split.
  The walks of grids: one spread, as the document says.
  The walks of grids: one spread, as the program does it.
  The walks of grids: one spread, both ways.
  The walks of grids: one joined, as the program does it.
-/
import Derived.Test.YteancdipmpmjpaaM16
import Derived.Test.YteancdipmpmjpaaM5
namespace Go.Proofs.Yteancdipmpmjpaa
open Go.RowKit
attribute [local irreducible] wpHeld wpTree wpList
set_option linter.unusedVariables false
theorem w64 {x : Int} (h0 : -4611686018427387904 ≤ x) (h1 : x ≤ 4611686018427387904) : wrap64 x = x := by unfold wrap64; omega
theorem w64e {x y : Int} (h0 : -4611686018427387904 ≤ x) (h1 : x ≤ 4611686018427387904) (h : x = y) : wrap64 x = y := by rw [w64 h0 h1, h]
theorem RCut14_bad (W H X Y S x y cw ch : Int) (A : Option Addr) (n c : Nat) (w : World) (hs : cutok x y cw ch = false) :
    Calls Try.prog 48 #[.agg #[.int .i64 W, .int .i64 H, .int .i64 X, .int .i64 Y, .int .i64 S, .slice A n c], .int .i64 x, .int .i64 y, .int .i64 cw, .int .i64 ch] w fun e w' => e = .returned (.tuple #[.agg #[.int .i64 W, .int .i64 H, .int .i64 X, .int .i64 Y, .int .i64 S, .slice A n c], .int .i64 2]) ∧ Below w.heap.size w w' := by
  have K := St.start w
  obtain ⟨u1, u2, u3, u4, u5, u6, u7, u8, d1, d2, d3, d4, d5, d6, d7, d8, hu⟩ := cutok_not hs
  clear hs
  cases u1
  case' false => cases u2
  case' false.false => cases u3
  case' false.false.false => cases u4
  case' false.false.false.false => cases u5
  case' false.false.false.false.false => cases u6
  case' false.false.false.false.false.false => cases u7
  case' false.false.false.false.false.false.false => cases u8
  case false.false.false.false.false.false.false.false => cases hu
  all_goals
    clear hu
    go_enter Try.func48, Try.ntmps48
    go_wp2_with (first | go_big_skip | ((with_reducible refine at_load ?_); first | (refine wm_load (cs := ?_) (t := ?_) (n := ?_) K rfl _ _ rfl rfl ?_ ?_ ?_ ?_; rotate_left 2; (repeat (first | exact At.hd | refine At.tl ?_)); rotate_left; (first | (with_reducible exact row47)); (solve | exact rfl | simp)) | (refine wm_own (cs := ?_) (t := ?_) (v := ?_) K rfl _ _ rfl rfl ?_ ?_ ?_ ?_; rotate_left 2; (repeat (first | exact At.hd | refine At.tl ?_)); rotate_left; (first | exact rfl | assumption); (first | (with_reducible exact one2) | (with_reducible exact one3) | (with_reducible exact one45))) | (refine wm_cell (v := ?_) rfl _ _ rfl rfl ?_ ?_ ?_; rotate_left; (first | assumption | exact (K.below.cell (by assumption)).trans (by assumption)); (first | (with_reducible exact one2) | (with_reducible exact one3) | (with_reducible exact one45)))) | ((with_reducible refine at_store ?_); first | (refine wm_store (L' := ?_) (cs := ?_) (t := ?_) (n := ?_) K rfl _ _ _ rfl rfl rfl rfl ?_ ?_ ?_ ?_ ?_ ?_; rotate_left 3; (repeat (first | exact Put.hd | (refine Put.tl (L' := ?_) ?_; rotate_left))); rotate_left; (first | (with_reducible exact row47)); (solve | exact rfl | simp); (solve | exact rfl | simp); (solve | exact rfl | simp [Ones, Value.oneCell']); (try clear K); (try clear ww); intro ww K; (try simp [go_sem] at K)) | (refine wm_put (L' := ?_) (cs := ?_) (new := ?_) (t := ?_) K rfl _ _ _ rfl rfl rfl rfl ?_ ?_ ?_ ?_ rfl rfl ?_; rotate_left 4; (repeat (first | exact Put.hd | (refine Put.tl (L' := ?_) ?_; rotate_left))); (solve | exact Nat.le_of_ble_eq_true rfl | decide | (simp only [List.size_toArray, nums_length]; first | assumption | omega) | (simp only [List.size_toArray, nums_length, List.length_set]; first | assumption | omega) | simp | omega | (simp only [List.size_toArray, nums_length]; omega) | assumption); (solve | (simp only [List.setIfInBounds_toArray]; exact rfl) | exact nums_set _ _ _ _ | simp only [List.setIfInBounds_toArray, List.set_cons_zero] | simp only [List.setIfInBounds_toArray, List.set_cons_zero, List.set_cons_succ] | (simp only [List.setIfInBounds_toArray, List.set_cons_zero, List.set_cons_succ]; exact rfl) | exact rfl); (first | (with_reducible exact one2) | (with_reducible exact one3) | (with_reducible exact one45)); (try clear K); (try clear ww); intro ww K; (try simp [go_sem] at K))) | (first | ((with_reducible refine at_box ?_); refine wm_box K rfl _ _ rfl rfl rfl ?_; (try clear K); (try clear ww); (first | ((fail_if_success (have _h := b5)); intro b5 ww K) | ((fail_if_success (have _h := b10)); intro b10 ww K)); (try simp [go_sem, Value.cells] at K)) | ((with_reducible refine at_alloc ?_); refine wm_alloc (v := ?_) (cs := ?_) K rfl _ rfl ?_ ?_ ?_; rotate_left; (first | (with_reducible exact zero47)); rotate_left; exact rfl; (try clear K); (try clear ww); (first | ((fail_if_success (have _h := b5)); intro b5 ww K) | ((fail_if_success (have _h := b10)); intro b10 ww K)); (try simp [go_sem, Value.cells] at K))))
    refine bodyPost_ret (K.res2 rfl _ rfl At.hd (by (first | (with_reducible exact row47))) (by (solve | exact rfl | simp)) rfl) rfl ?_
    exact ⟨rfl, K.below⟩
theorem mulI_bd4 {x S : Int} (h1 : -64 ≤ x) (h2 : x ≤ 64) (h3 : 0 ≤ S) (h4 : S ≤ 4096) : -262144 ≤ x * S ∧ x * S ≤ 262144 := by
  have a := Int.mul_le_mul_of_nonneg_right h2 h3
  have b := Int.mul_le_mul_of_nonneg_right h1 h3
  omega
set_option maxRecDepth 100000 in
set_option maxHeartbeats 4000000 in
theorem RCut14 (W H X Y S x y cw ch : Int) (A : Option Addr) (n c m : Nat) (zs : List Int) (w : World) (h : Rd w A n (ints .i64 zs)) (hn : W * H = n) (hWH : (1 ≤ W ∧ W ≤ 64) ∧ 1 ≤ H ∧ H ≤ 64) (hX : -1125899906842624 ≤ X ∧ X ≤ 1125899906842624) (hY : -1125899906842624 ≤ Y ∧ Y ≤ 1125899906842624) (hS : 0 ≤ S ∧ S ≤ 4096) (hs : cutok x y cw ch = true) (hcm : cw * ch = m) :
    Calls Try.prog 48 #[.agg #[.int .i64 W, .int .i64 H, .int .i64 X, .int .i64 Y, .int .i64 S, .slice A n c], .int .i64 x, .int .i64 y, .int .i64 cw, .int .i64 ch] w fun e w' => ∃ A2 c2, e = .returned (.tuple #[.agg #[.int .i64 cw, .int .i64 ch, .int .i64 (X + x * S), .int .i64 (Y + y * S), .int .i64 S, .slice A2 m c2], .int .i64 0]) ∧ (Rd w' A2 m (ints .i64 (cut14 W H zs x y cw m)) ∧ Nw w.heap.size A2) ∧ Below w.heap.size w w' := by
  have K := St.start w
  have hl : zs.length = n := by rw [← h.1, ints_len]
  obtain ⟨⟨w0, w1⟩, ⟨h0, h1⟩, ⟨x0, x1⟩, y0, y1⟩ := cutok_iff.1 hs
  have d1 : decide (cw < 1) = false := decide_eq_false (by omega)
  have d2 : decide (64 < cw) = false := decide_eq_false (by omega)
  have d3 : decide (ch < 1) = false := decide_eq_false (by omega)
  have d4 : decide (64 < ch) = false := decide_eq_false (by omega)
  have d5 : decide (x < -64) = false := decide_eq_false (by omega)
  have d6 : decide (64 < x) = false := decide_eq_false (by omega)
  have d7 : decide (y < -64) = false := decide_eq_false (by omega)
  have d8 : decide (64 < y) = false := decide_eq_false (by omega)
  have hm : 1 ≤ m ∧ m ≤ 4096 := by
    have a1 := Int.mul_le_mul w1 h1 (by omega) (by omega)
    have a2 := Int.mul_le_mul w0 h0 (by omega) (by omega)
    omega
  have xs := mulI_bd4 x0 x1 (by omega) hS.2
  have ys := mulI_bd4 y0 y1 (by omega) hS.2
  have e1h : Hid (wrap64 (x * S) = x * S) := Lib.hid (by unfold wrap64; omega)
  have e2h : Hid (wrap64 (y * S) = y * S) := Lib.hid (by unfold wrap64; omega)
  have e3h : Hid (wrap64 (X + x * S) = X + x * S) := Lib.hid (by unfold wrap64; omega)
  have e4h : Hid (wrap64 (Y + y * S) = Y + y * S) := Lib.hid (by unfold wrap64; omega)
  have f1h : Hid (IntKind.i64.wrap (x * S) = x * S) := Lib.hid (IntWalk.i64_in _ (by omega))
  have f2h : Hid (IntKind.i64.wrap (y * S) = y * S) := Lib.hid (IntWalk.i64_in _ (by omega))
  have f3h : Hid (IntKind.i64.wrap (X + x * S) = X + x * S) := Lib.hid (IntWalk.i64_in _ (by omega))
  have f4h : Hid (IntKind.i64.wrap (Y + y * S) = Y + y * S) := Lib.hid (IntWalk.i64_in _ (by omega))
  have e5h : Hid (wrap64 (cw * ch) = m) := Lib.hid (by rw [hcm]; unfold wrap64; omega)
  have f5h : Hid (IntKind.i64.wrap (cw * ch) = m) := Lib.hid (by rw [hcm]; exact IntWalk.i64_in _ (by omega))
  have HR := Lib.hid h
  have HL := Lib.hid hl
  have HN := Lib.hid hn
  have HW := Lib.hid (And.intro w0 w1)
  have HGB := Lib.hid hWH
  have HXY := Lib.hid (And.intro (And.intro x0 x1) (And.intro y0 y1))
  have HM := Lib.hid hm
  have hm5 : m ≤ 5000 := by omega
  have HNB : Hid (n ≤ 4096) := Lib.hid (by
    have a1 := Int.mul_le_mul hWH.1.2 hWH.2.2 (by omega) (by omega)
    omega)
  clear h hl hn hWH hX hY hS hs hcm hm w0 w1 h0 h1 x0 x1 y0 y1 xs ys
  have e1 := e1h.out
  have e2 := e2h.out
  have e3 := e3h.out
  have e4 := e4h.out
  have f1 := f1h.out
  have f2 := f2h.out
  have f3 := f3h.out
  have f4 := f4h.out
  go_enter Try.func48, Try.ntmps48
  go_wp2_with (first | go_big_skip | ((with_reducible refine at_load ?_); first | (refine wm_load (cs := ?_) (t := ?_) (n := ?_) K rfl _ _ rfl rfl ?_ ?_ ?_ ?_; rotate_left 2; (repeat (first | exact At.hd | refine At.tl ?_)); rotate_left; (first | (with_reducible exact row47)); (solve | exact rfl | simp)) | (refine wm_own (cs := ?_) (t := ?_) (v := ?_) K rfl _ _ rfl rfl ?_ ?_ ?_ ?_; rotate_left 2; (repeat (first | exact At.hd | refine At.tl ?_)); rotate_left; (first | exact rfl | assumption); (first | (with_reducible exact one2) | (with_reducible exact one3) | (with_reducible exact one45))) | (refine wm_cell (v := ?_) rfl _ _ rfl rfl ?_ ?_ ?_; rotate_left; (first | assumption | exact (K.below.cell (by assumption)).trans (by assumption)); (first | (with_reducible exact one2) | (with_reducible exact one3) | (with_reducible exact one45)))) | ((with_reducible refine at_store ?_); first | (refine wm_store (L' := ?_) (cs := ?_) (t := ?_) (n := ?_) K rfl _ _ _ rfl rfl rfl rfl ?_ ?_ ?_ ?_ ?_ ?_; rotate_left 3; (repeat (first | exact Put.hd | (refine Put.tl (L' := ?_) ?_; rotate_left))); rotate_left; (first | (with_reducible exact row47)); (solve | exact rfl | simp); (solve | exact rfl | simp); (solve | exact rfl | simp [Ones, Value.oneCell']); (try clear K); (try clear ww); intro ww K; (try simp [go_sem] at K)) | (refine wm_put (L' := ?_) (cs := ?_) (new := ?_) (t := ?_) K rfl _ _ _ rfl rfl rfl rfl ?_ ?_ ?_ ?_ rfl rfl ?_; rotate_left 4; (repeat (first | exact Put.hd | (refine Put.tl (L' := ?_) ?_; rotate_left))); (solve | exact Nat.le_of_ble_eq_true rfl | decide | (simp only [List.size_toArray, nums_length]; first | assumption | omega) | (simp only [List.size_toArray, nums_length, List.length_set]; first | assumption | omega) | simp | omega | (simp only [List.size_toArray, nums_length]; omega) | assumption); (solve | (simp only [List.setIfInBounds_toArray]; exact rfl) | exact nums_set _ _ _ _ | simp only [List.setIfInBounds_toArray, List.set_cons_zero] | simp only [List.setIfInBounds_toArray, List.set_cons_zero, List.set_cons_succ] | (simp only [List.setIfInBounds_toArray, List.set_cons_zero, List.set_cons_succ]; exact rfl) | exact rfl); (first | (with_reducible exact one2) | (with_reducible exact one3) | (with_reducible exact one45)); (try clear K); (try clear ww); intro ww K; (try simp [go_sem] at K))) | (first | ((with_reducible refine at_box ?_); refine wm_box K rfl _ _ rfl rfl rfl ?_; (try clear K); (try clear ww); (first | ((fail_if_success (have _h := b5)); intro b5 ww K) | ((fail_if_success (have _h := b10)); intro b10 ww K) | ((fail_if_success (have _h := b12)); intro b12 ww K)); (try simp [go_sem, Value.cells] at K)) | ((with_reducible refine at_alloc ?_); refine wm_alloc (v := ?_) (cs := ?_) K rfl _ rfl ?_ ?_ ?_; rotate_left; (first | (with_reducible exact zero47)); rotate_left; exact rfl; (try clear K); (try clear ww); (first | ((fail_if_success (have _h := b5)); intro b5 ww K) | ((fail_if_success (have _h := b10)); intro b10 ww K) | ((fail_if_success (have _h := b12)); intro b12 ww K)); (try simp [go_sem, Value.cells] at K))))
  clear e1 e2 e3 e4 f1 f2 f3 f4 e1h e2h e3h e4h f1h f2h f3h f4h d1 d2 d3 d4 d5 d6 d7 d8
  obtain ⟨X2, hX2⟩ : ∃ X2, X + x * S = X2 := ⟨_, rfl⟩
  obtain ⟨Y2, hY2⟩ : ∃ Y2, Y + y * S = Y2 := ⟨_, rfl⟩
  rw [hX2, hY2] at K ⊢
  have HXX := Lib.hid (And.intro hX2 hY2)
  clear hX2 hY2
  go_loopw [13] (fun i wr => ∃ (k : Nat) (v : Value) (Lo : List Blk), k ≤ m ∧ i = .int .i64 k ∧ OwnT v 2 (ints .i64 ((cut14 W H zs x y cw m).take k)) Lo ∧ St w.heap.size w ((b12, #[.int .i64 cw, .int .i64 ch, .int .i64 X2, .int .i64 Y2, .int .i64 S, v], 47) :: (b10, #[.int .i64 0, .int .i64 0, .int .i64 0, .int .i64 0, .int .i64 0, .slice none 0 0], 47) :: (b5, #[.int .i64 W, .int .i64 H, .int .i64 X, .int .i64 Y, .int .i64 S, .slice A n c], 47) :: Lo) Any wr) (fun i _ => m - (intOf i).toNat)
  case atStart => exact ⟨0, _, _, Nat.zero_le _, rfl, OwnT.nil _, K⟩
  case round =>
    clear K
    obtain ⟨i, v, Lo, hi, rfl, hO, K⟩ := hrel
    by_cases hlt : i < m
    · have ht : decide ((i : Int) < m) = true := decide_eq_true (by omega)
      have hol : (ints .i64 ((cut14 W H zs x y cw m).take i)).length ≤ 5000 := by rw [ints_len, List.length_take]; have := HM.out; omega
      obtain ⟨p, hp⟩ : ∃ p, cutv W H zs x y cw i = p := ⟨_, rfl⟩
      have hsn : Hid ((cut14 W H zs x y cw m).take (i + 1) = (cut14 W H zs x y cw m).take i ++ [p]) := Lib.hid (by rw [← hp]; exact gen_snoc _ hlt)
      have hmod := Int.emod_nonneg (i : Int) (show cw ≠ 0 by have := HW.out; omega)
      have hmod2 := Int.emod_lt_of_pos (i : Int) (show 0 < cw by have := HW.out; omega)
      have hdiv := Int.ediv_nonneg (a := (i : Int)) (b := cw) (by omega) (by have := HW.out; omega)
      have hdiv2 := Int.ediv_le_self (a := (i : Int)) cw (by omega)
      have hxy := HXY.out
      have hmm := HM.out
      have hww := HW.out
      have g1h : Hid ((i : Int).tmod cw = (i : Int) % cw) := Lib.hid (Int.tmod_eq_emod_of_nonneg (by omega))
      have g2h : Hid ((i : Int).tdiv cw = (i : Int) / cw) := Lib.hid (Int.tdiv_eq_ediv_of_nonneg (by omega))
      have g3h : Hid ((cw = 0) = False) := Lib.hid (by have := HW.out; simp; omega)
      have g6h : Hid (wrap64 ((i : Int) / cw) = (i : Int) / cw) := Lib.hid (w64 (by omega) (by omega))
      have g7h : Hid (IntKind.i64.wrap ((i : Int) / cw) = (i : Int) / cw) := Lib.hid (IntWalk.i64_in _ (by omega))
      obtain ⟨a, ha⟩ : ∃ a, x + (i : Int) % cw = a := ⟨_, rfl⟩
      obtain ⟨b, hb⟩ : ∃ b, y + (i : Int) / cw = b := ⟨_, rfl⟩
      have g4h : Hid (wrap64 (x + (i : Int) % cw) = a) := Lib.hid (w64e (by omega) (by omega) ha)
      have g5h : Hid (wrap64 (y + (i : Int) / cw) = b) := Lib.hid (w64e (by omega) (by omega) hb)
      have hE : cutv W H zs x y cw i = if 0 ≤ a ∧ a < W ∧ 0 ≤ b ∧ b < H then zs.getD (b * W + a).toNat 0 else 0 := by unfold cutv; rw [ha, hb]
      rw [hp] at hE
      clear hp
      by_cases hin : 0 ≤ a ∧ a < W ∧ 0 ≤ b ∧ b < H
      · rw [if_pos hin] at hE
        obtain ⟨q0, q1⟩ := place_bd HN.out hin.1 hin.2.1 hin.2.2.1 hin.2.2.2
        obtain ⟨j, hj⟩ : ∃ j : Nat, b * W + a = j := ⟨(b * W + a).toNat, by omega⟩
        rw [hj, Int.toNat_natCast] at hE
        have hjn : j < n := by omega
        have hgb := HGB.out
        have hnb := HNB.out
        have hbw := Int.mul_nonneg hin.2.2.1 (show 0 ≤ W by omega)
        have t1 : decide (0 ≤ a) = true := decide_eq_true hin.1
        have t2 : decide (a < W) = true := decide_eq_true hin.2.1
        have t3 : decide (0 ≤ b) = true := decide_eq_true hin.2.2.1
        have t4 : decide (b < H) = true := decide_eq_true hin.2.2.2
        obtain ⟨bb0, off, rfl, hbb, hc⟩ := HR.out.get hjn
        have hv := hc j _ (ints_get .i64 zs j (by rw [HL.out]; exact hjn))
        rw [← hE] at hv
        have k1h : Hid (wrap64 (b * W) = b * W) := Lib.hid (w64 (by omega) (by omega))
        have k2h : Hid (wrap64 (b * W + a) = j) := Lib.hid (w64e (by omega) (by omega) hj)
        clear hc hmod hmod2 hdiv hdiv2 hxy hmm hww hnb ha hb hE hin q0 q1 hj hgb hbw
        have g1 := g1h.out
        have g2 := g2h.out
        have g3 := g3h.out
        have g4 := g4h.out
        have g5 := g5h.out
        have g6 := g6h.out
        have g7 := g7h.out
        have k1 := k1h.out
        have k2 := k2h.out
        have e5 := e5h.out
        go_wp2_with (first | go_big_skip | ((with_reducible refine at_load ?_); first | (refine wm_load (cs := ?_) (t := ?_) (n := ?_) K rfl _ _ rfl rfl ?_ ?_ ?_ ?_; rotate_left 2; (repeat (first | exact At.hd | refine At.tl ?_)); rotate_left; (first | (with_reducible exact row47)); (solve | exact rfl | simp)) | (refine wm_own (cs := ?_) (t := ?_) (v := ?_) K rfl _ _ rfl rfl ?_ ?_ ?_ ?_; rotate_left 2; (repeat (first | exact At.hd | refine At.tl ?_)); rotate_left; (first | exact rfl | assumption); (first | (with_reducible exact one2) | (with_reducible exact one3) | (with_reducible exact one45))) | (refine wm_cell (v := ?_) rfl _ _ rfl rfl ?_ ?_ ?_; rotate_left; (first | assumption | exact (K.below.cell (by assumption)).trans (by assumption)); (first | (with_reducible exact one2) | (with_reducible exact one3) | (with_reducible exact one45)))) | ((with_reducible refine at_store ?_); first | (refine wm_store (L' := ?_) (cs := ?_) (t := ?_) (n := ?_) K rfl _ _ _ rfl rfl rfl rfl ?_ ?_ ?_ ?_ ?_ ?_; rotate_left 3; (repeat (first | exact Put.hd | (refine Put.tl (L' := ?_) ?_; rotate_left))); rotate_left; (first | (with_reducible exact row47)); (solve | exact rfl | simp); (solve | exact rfl | simp); (solve | exact rfl | simp [Ones, Value.oneCell']); (try clear K); (try clear ww); intro ww K; (try simp [go_sem] at K)) | (refine wm_put (L' := ?_) (cs := ?_) (new := ?_) (t := ?_) K rfl _ _ _ rfl rfl rfl rfl ?_ ?_ ?_ ?_ rfl rfl ?_; rotate_left 4; (repeat (first | exact Put.hd | (refine Put.tl (L' := ?_) ?_; rotate_left))); (solve | exact Nat.le_of_ble_eq_true rfl | decide | (simp only [List.size_toArray, nums_length]; first | assumption | omega) | (simp only [List.size_toArray, nums_length, List.length_set]; first | assumption | omega) | simp | omega | (simp only [List.size_toArray, nums_length]; omega) | assumption); (solve | (simp only [List.setIfInBounds_toArray]; exact rfl) | exact nums_set _ _ _ _ | simp only [List.setIfInBounds_toArray, List.set_cons_zero] | simp only [List.setIfInBounds_toArray, List.set_cons_zero, List.set_cons_succ] | (simp only [List.setIfInBounds_toArray, List.set_cons_zero, List.set_cons_succ]; exact rfl) | exact rfl); (first | (with_reducible exact one2) | (with_reducible exact one3) | (with_reducible exact one45)); (try clear K); (try clear ww); intro ww K; (try simp [go_sem] at K))) | ((with_reducible refine at_bsl ?_); refine wm_one K rfl _ _ rfl Try.underlying45 num2 rfl ?_; (try clear K); (try clear ww); intro bb ww K; (try simp [go_sem] at K)) | ((with_reducible refine at_app ?_); refine wm_appT (L0 := ?_) K ?_ rfl _ _ _ rfl Try.underlying45 num2 rfl hO rfl rfl (by first | (simp only [nums_length, List.length_map]; omega) | omega) (by first | (simp only [nums_length, List.length_map]; unfold maxLen; omega) | (unfold maxLen; omega)) ?_; rotate_left; (repeat (first | exact Tl.nil | (refine Tl.cons (L0 := ?_) ?_; rotate_left))); (try clear K hO); (try clear ww); intro v ww Lo hO K; obtain ⟨_, _, _, rfl, _⟩ := hO.val; simp only [List.cons_append, List.nil_append] at K))
        clear g1 g2 g3 g4 g5 g6 g7 k1 k2 e5
        exact ⟨⟨i + 1, _, Lo, by omega, by go_num, by rw [hsn.out, ints_app]; exact hO, K⟩, by simp [intOf]; omega⟩
      · rw [if_neg hin] at hE
        obtain ⟨u1, u2, u3, u4, t1, t2, t3, t4, hu⟩ := four_not hin
        subst hE
        clear hmod hmod2 hdiv hdiv2 hxy hmm hww ha hb hin
        have g1 := g1h.out
        have g2 := g2h.out
        have g3 := g3h.out
        have g4 := g4h.out
        have g5 := g5h.out
        have g6 := g6h.out
        have g7 := g7h.out
        have e5 := e5h.out
        cases u1
        case' true => cases u2
        case' true.true => cases u3
        case' true.true.true => cases u4
        case true.true.true.true => cases hu
        all_goals
          clear hu
          go_wp2_with (first | go_big_skip | ((with_reducible refine at_load ?_); first | (refine wm_load (cs := ?_) (t := ?_) (n := ?_) K rfl _ _ rfl rfl ?_ ?_ ?_ ?_; rotate_left 2; (repeat (first | exact At.hd | refine At.tl ?_)); rotate_left; (first | (with_reducible exact row47)); (solve | exact rfl | simp)) | (refine wm_own (cs := ?_) (t := ?_) (v := ?_) K rfl _ _ rfl rfl ?_ ?_ ?_ ?_; rotate_left 2; (repeat (first | exact At.hd | refine At.tl ?_)); rotate_left; (first | exact rfl | assumption); (first | (with_reducible exact one2) | (with_reducible exact one3) | (with_reducible exact one45))) | (refine wm_cell (v := ?_) rfl _ _ rfl rfl ?_ ?_ ?_; rotate_left; (first | assumption | exact (K.below.cell (by assumption)).trans (by assumption)); (first | (with_reducible exact one2) | (with_reducible exact one3) | (with_reducible exact one45)))) | ((with_reducible refine at_store ?_); first | (refine wm_store (L' := ?_) (cs := ?_) (t := ?_) (n := ?_) K rfl _ _ _ rfl rfl rfl rfl ?_ ?_ ?_ ?_ ?_ ?_; rotate_left 3; (repeat (first | exact Put.hd | (refine Put.tl (L' := ?_) ?_; rotate_left))); rotate_left; (first | (with_reducible exact row47)); (solve | exact rfl | simp); (solve | exact rfl | simp); (solve | exact rfl | simp [Ones, Value.oneCell']); (try clear K); (try clear ww); intro ww K; (try simp [go_sem] at K)) | (refine wm_put (L' := ?_) (cs := ?_) (new := ?_) (t := ?_) K rfl _ _ _ rfl rfl rfl rfl ?_ ?_ ?_ ?_ rfl rfl ?_; rotate_left 4; (repeat (first | exact Put.hd | (refine Put.tl (L' := ?_) ?_; rotate_left))); (solve | exact Nat.le_of_ble_eq_true rfl | decide | (simp only [List.size_toArray, nums_length]; first | assumption | omega) | (simp only [List.size_toArray, nums_length, List.length_set]; first | assumption | omega) | simp | omega | (simp only [List.size_toArray, nums_length]; omega) | assumption); (solve | (simp only [List.setIfInBounds_toArray]; exact rfl) | exact nums_set _ _ _ _ | simp only [List.setIfInBounds_toArray, List.set_cons_zero] | simp only [List.setIfInBounds_toArray, List.set_cons_zero, List.set_cons_succ] | (simp only [List.setIfInBounds_toArray, List.set_cons_zero, List.set_cons_succ]; exact rfl) | exact rfl); (first | (with_reducible exact one2) | (with_reducible exact one3) | (with_reducible exact one45)); (try clear K); (try clear ww); intro ww K; (try simp [go_sem] at K))) | ((with_reducible refine at_bsl ?_); refine wm_one K rfl _ _ rfl Try.underlying45 num2 rfl ?_; (try clear K); (try clear ww); intro bb ww K; (try simp [go_sem] at K)) | ((with_reducible refine at_app ?_); refine wm_appT (L0 := ?_) K ?_ rfl _ _ _ rfl Try.underlying45 num2 rfl hO rfl rfl (by first | (simp only [nums_length, List.length_map]; omega) | omega) (by first | (simp only [nums_length, List.length_map]; unfold maxLen; omega) | (unfold maxLen; omega)) ?_; rotate_left; (repeat (first | exact Tl.nil | (refine Tl.cons (L0 := ?_) ?_; rotate_left))); (try clear K hO); (try clear ww); intro v ww Lo hO K; obtain ⟨_, _, _, rfl, _⟩ := hO.val; simp only [List.cons_append, List.nil_append] at K))
          clear g1 g2 g3 g4 g5 g6 g7 e5
          exact ⟨⟨i + 1, _, Lo, by omega, by go_num, by rw [hsn.out, ints_app]; exact hO, K⟩, by simp [intOf]; omega⟩
    · obtain rfl : m = i := by omega
      have ht : decide ((m : Int) < m) = false := decide_eq_false (by omega)
      rw [show (cut14 W H zs x y cw m).take m = cut14 W H zs x y cw m from gen_all _] at hO
      have hlen : (ints .i64 (cut14 W H zs x y cw m)).length = m := by rw [ints_len]; exact gen_len _ _
      obtain ⟨A2, c2, rfl, hc1, hc2, hA, K2⟩ := hO.fix (L0 := [(b12, #[.int .i64 cw, .int .i64 ch, .int .i64 X2, .int .i64 Y2, .int .i64 S, v], 47), (b10, #[.int .i64 0, .int .i64 0, .int .i64 0, .int .i64 0, .int .i64 0, .slice none 0 0], 47), (b5, #[.int .i64 W, .int .i64 H, .int .i64 X, .int .i64 Y, .int .i64 S, .slice A n c], 47)]) K
      rw [hlen] at K2
      have HA := Lib.hid hA
      clear K hO hc1 hc2 hlen hA
      replace K := K2
      clear K2
      have e5 := e5h.out
      go_wp2_with (first | go_big_skip | ((with_reducible refine at_load ?_); first | (refine wm_load (cs := ?_) (t := ?_) (n := ?_) K rfl _ _ rfl rfl ?_ ?_ ?_ ?_; rotate_left 2; (repeat (first | exact At.hd | refine At.tl ?_)); rotate_left; (first | (with_reducible exact row47)); (solve | exact rfl | simp)) | (refine wm_own (cs := ?_) (t := ?_) (v := ?_) K rfl _ _ rfl rfl ?_ ?_ ?_ ?_; rotate_left 2; (repeat (first | exact At.hd | refine At.tl ?_)); rotate_left; (first | exact rfl | assumption); (first | (with_reducible exact one2) | (with_reducible exact one3) | (with_reducible exact one45))) | (refine wm_cell (v := ?_) rfl _ _ rfl rfl ?_ ?_ ?_; rotate_left; (first | assumption | exact (K.below.cell (by assumption)).trans (by assumption)); (first | (with_reducible exact one2) | (with_reducible exact one3) | (with_reducible exact one45)))) | ((with_reducible refine at_store ?_); first | (refine wm_store (L' := ?_) (cs := ?_) (t := ?_) (n := ?_) K rfl _ _ _ rfl rfl rfl rfl ?_ ?_ ?_ ?_ ?_ ?_; rotate_left 3; (repeat (first | exact Put.hd | (refine Put.tl (L' := ?_) ?_; rotate_left))); rotate_left; (first | (with_reducible exact row47)); (solve | exact rfl | simp); (solve | exact rfl | simp); (solve | exact rfl | simp [Ones, Value.oneCell']); (try clear K); (try clear ww); intro ww K; (try simp [go_sem] at K)) | (refine wm_put (L' := ?_) (cs := ?_) (new := ?_) (t := ?_) K rfl _ _ _ rfl rfl rfl rfl ?_ ?_ ?_ ?_ rfl rfl ?_; rotate_left 4; (repeat (first | exact Put.hd | (refine Put.tl (L' := ?_) ?_; rotate_left))); (solve | exact Nat.le_of_ble_eq_true rfl | decide | (simp only [List.size_toArray, nums_length]; first | assumption | omega) | (simp only [List.size_toArray, nums_length, List.length_set]; first | assumption | omega) | simp | omega | (simp only [List.size_toArray, nums_length]; omega) | assumption); (solve | (simp only [List.setIfInBounds_toArray]; exact rfl) | exact nums_set _ _ _ _ | simp only [List.setIfInBounds_toArray, List.set_cons_zero] | simp only [List.setIfInBounds_toArray, List.set_cons_zero, List.set_cons_succ] | (simp only [List.setIfInBounds_toArray, List.set_cons_zero, List.set_cons_succ]; exact rfl) | exact rfl); (first | (with_reducible exact one2) | (with_reducible exact one3) | (with_reducible exact one45)); (try clear K); (try clear ww); intro ww K; (try simp [go_sem] at K))))
      clear e5
      refine bodyPost_ret (K.res2 rfl _ rfl (At.tl At.hd) (by (first | (with_reducible exact row47))) (by (solve | exact rfl | simp)) rfl) rfl ?_
      exact ⟨A2, c2, by rw [HXX.out.1, HXX.out.2]; rfl, ⟨K.fact.1, HA.out⟩, K.below⟩
end Go.Proofs.Yteancdipmpmjpaa
namespace Go.Proofs.Yteancdipmpmjpaa
open Go.RowKit
attribute [local irreducible] wpHeld wpTree wpList
set_option linter.unusedVariables false
set_option maxRecDepth 100000 in
theorem GCut14_bad (W H X Y S x y cw ch : Int) (A : Option Addr) (n c : Nat) (w : World) (hs : cutok x y cw ch = false) :
    Calls Try.prog 47 #[.agg #[.int .i64 W, .int .i64 H, .int .i64 X, .int .i64 Y, .int .i64 S, .slice A n c], .int .i64 x, .int .i64 y, .int .i64 cw, .int .i64 ch] w fun e w' => e = .returned (.tuple #[.agg #[.int .i64 W, .int .i64 H, .int .i64 X, .int .i64 Y, .int .i64 S, .slice A n c], .int .i64 2]) ∧ Below w.heap.size w w' := by
  have K := St.start w
  obtain ⟨u1, u2, u3, u4, u5, u6, u7, u8, d1, d2, d3, d4, d5, d6, d7, d8, hu⟩ := cutok_not hs
  clear hs
  cases u1
  case' false => cases u3
  case' false.false => cases u2
  case' false.false.false => cases u4
  case' false.false.false.false => cases u5
  case' false.false.false.false.false => cases u7
  case' false.false.false.false.false.false => cases u6
  case' false.false.false.false.false.false.false => cases u8
  case false.false.false.false.false.false.false.false => cases hu
  all_goals
    clear hu
    go_enter Try.func47, Try.ntmps47
    go_wp2_with (first | go_big_skip | ((with_reducible refine at_load ?_); first | (refine wm_load (cs := ?_) (t := ?_) (n := ?_) K rfl _ _ rfl rfl ?_ ?_ ?_ ?_; rotate_left 2; (repeat (first | exact At.hd | refine At.tl ?_)); rotate_left; (first | (with_reducible exact row47)); (solve | exact rfl | simp)) | (refine wm_own (cs := ?_) (t := ?_) (v := ?_) K rfl _ _ rfl rfl ?_ ?_ ?_ ?_; rotate_left 2; (repeat (first | exact At.hd | refine At.tl ?_)); rotate_left; (first | exact rfl | assumption); (first | (with_reducible exact one2) | (with_reducible exact one3) | (with_reducible exact one45))) | (refine wm_cell (v := ?_) rfl _ _ rfl rfl ?_ ?_ ?_; rotate_left; (first | assumption | exact (K.below.cell (by assumption)).trans (by assumption)); (first | (with_reducible exact one2) | (with_reducible exact one3) | (with_reducible exact one45)))) | ((with_reducible refine at_store ?_); first | (refine wm_store (L' := ?_) (cs := ?_) (t := ?_) (n := ?_) K rfl _ _ _ rfl rfl rfl rfl ?_ ?_ ?_ ?_ ?_ ?_; rotate_left 3; (repeat (first | exact Put.hd | (refine Put.tl (L' := ?_) ?_; rotate_left))); rotate_left; (first | (with_reducible exact row47)); (solve | exact rfl | simp); (solve | exact rfl | simp); (solve | exact rfl | simp [Ones, Value.oneCell']); (try clear K); (try clear ww); intro ww K; (try simp [go_sem] at K)) | (refine wm_put (L' := ?_) (cs := ?_) (new := ?_) (t := ?_) K rfl _ _ _ rfl rfl rfl rfl ?_ ?_ ?_ ?_ rfl rfl ?_; rotate_left 4; (repeat (first | exact Put.hd | (refine Put.tl (L' := ?_) ?_; rotate_left))); (solve | exact Nat.le_of_ble_eq_true rfl | decide | (simp only [List.size_toArray, nums_length]; first | assumption | omega) | (simp only [List.size_toArray, nums_length, List.length_set]; first | assumption | omega) | simp | omega | (simp only [List.size_toArray, nums_length]; omega) | assumption); (solve | (simp only [List.setIfInBounds_toArray]; exact rfl) | exact nums_set _ _ _ _ | simp only [List.setIfInBounds_toArray, List.set_cons_zero] | simp only [List.setIfInBounds_toArray, List.set_cons_zero, List.set_cons_succ] | (simp only [List.setIfInBounds_toArray, List.set_cons_zero, List.set_cons_succ]; exact rfl) | exact rfl); (first | (with_reducible exact one2) | (with_reducible exact one3) | (with_reducible exact one45)); (try clear K); (try clear ww); intro ww K; (try simp [go_sem] at K))) | (first | ((with_reducible refine at_box ?_); refine wm_box K rfl _ _ rfl rfl rfl ?_; (try clear K); (try clear ww); (first | ((fail_if_success (have _h := b5)); intro b5 ww K) | ((fail_if_success (have _h := b10)); intro b10 ww K)); (try simp [go_sem, Value.cells] at K)) | ((with_reducible refine at_alloc ?_); refine wm_alloc (v := ?_) (cs := ?_) K rfl _ rfl ?_ ?_ ?_; rotate_left; (first | (with_reducible exact zero47)); rotate_left; exact rfl; (try clear K); (try clear ww); (first | ((fail_if_success (have _h := b5)); intro b5 ww K) | ((fail_if_success (have _h := b10)); intro b10 ww K)); (try simp [go_sem, Value.cells] at K))))
    refine bodyPost_ret (K.res2 rfl _ rfl At.hd (by (first | (with_reducible exact row47))) (by (solve | exact rfl | simp)) rfl) rfl ?_
    exact ⟨rfl, K.below⟩
theorem mix_keep {T Z : List Int} {n k : Nat} (hT : T.length = n) (hZ : Z.length = n) (hk : k < n) (h : T.getD k 0 = Z.getD k 0) : T.take (k + 1) ++ Z.drop (k + 1) = T.take k ++ Z.drop k := by
  rw [← mix_set hT hZ hk, h]
  apply List.ext_getElem?
  intro j
  by_cases hj : k = j
  · subst hj
    have h1 := mix_get (T := T) (Z := Z) hT hZ hk
    have h2 := mix_len (T := T) (Z := Z) hT hZ (Nat.le_of_lt hk)
    rw [List.getElem?_set_self (by omega), ← h1, List.getD, List.getElem?_eq_getElem (by omega)]
    rfl
  · rw [List.getElem?_set_ne hj]
theorem at_div {r q c : Nat} (hq : q < c) : (((r * c + q : Nat) : Int) % (c : Int) = q) ∧ ((r * c + q : Nat) : Int) / (c : Int) = r := by
  have h1 : (r * c + q) % c = q := by rw [Nat.mul_comm, Nat.mul_add_mod]; exact Nat.mod_eq_of_lt hq
  have h2 : (r * c + q) / c = r := by rw [Nat.mul_comm, Nat.mul_add_div (by omega), Nat.div_eq_of_lt hq, Nat.add_zero]
  constructor
  · rw [← Int.natCast_emod, h1]
  · rw [← Int.natCast_ediv, h2]
set_option maxRecDepth 100000 in
set_option maxHeartbeats 4000000 in
theorem GCut14 (W H X Y S x y cw ch : Int) (A : Option Addr) (n c m : Nat) (zs : List Int) (w : World) (h : Rd w A n (ints .i64 zs)) (hn : W * H = n) (hWH : (1 ≤ W ∧ W ≤ 64) ∧ 1 ≤ H ∧ H ≤ 64) (hX : -1125899906842624 ≤ X ∧ X ≤ 1125899906842624) (hY : -1125899906842624 ≤ Y ∧ Y ≤ 1125899906842624) (hS : 0 ≤ S ∧ S ≤ 4096) (hs : cutok x y cw ch = true) (hcm : cw * ch = m) :
    Calls Try.prog 47 #[.agg #[.int .i64 W, .int .i64 H, .int .i64 X, .int .i64 Y, .int .i64 S, .slice A n c], .int .i64 x, .int .i64 y, .int .i64 cw, .int .i64 ch] w fun e w' => ∃ A2 c2, e = .returned (.tuple #[.agg #[.int .i64 cw, .int .i64 ch, .int .i64 (X + x * S), .int .i64 (Y + y * S), .int .i64 S, .slice A2 m c2], .int .i64 0]) ∧ (Rd w' A2 m (ints .i64 (cut14 W H zs x y cw m)) ∧ Nw w.heap.size A2) ∧ Below w.heap.size w w' := by
  have K := St.start w
  have hl : zs.length = n := by rw [← h.1, ints_len]
  obtain ⟨⟨w0, w1⟩, ⟨h0, h1⟩, ⟨x0, x1⟩, y0, y1⟩ := cutok_iff.1 hs
  have d1 : decide (cw < 1) = false := decide_eq_false (by omega)
  have d2 : decide (64 < cw) = false := decide_eq_false (by omega)
  have d3 : decide (ch < 1) = false := decide_eq_false (by omega)
  have d4 : decide (64 < ch) = false := decide_eq_false (by omega)
  have d5 : decide (x < -64) = false := decide_eq_false (by omega)
  have d6 : decide (64 < x) = false := decide_eq_false (by omega)
  have d7 : decide (y < -64) = false := decide_eq_false (by omega)
  have d8 : decide (64 < y) = false := decide_eq_false (by omega)
  have hm : 1 ≤ m ∧ m ≤ 4096 := by
    have a1 := Int.mul_le_mul w1 h1 (by omega) (by omega)
    have a2 := Int.mul_le_mul w0 h0 (by omega) (by omega)
    omega
  have xs := mulI_bd4 x0 x1 (by omega) hS.2
  have ys := mulI_bd4 y0 y1 (by omega) hS.2
  have e1h : Hid (wrap64 (x * S) = x * S) := Lib.hid (by unfold wrap64; omega)
  have e2h : Hid (wrap64 (y * S) = y * S) := Lib.hid (by unfold wrap64; omega)
  have e3h : Hid (wrap64 (X + x * S) = X + x * S) := Lib.hid (by unfold wrap64; omega)
  have e4h : Hid (wrap64 (Y + y * S) = Y + y * S) := Lib.hid (by unfold wrap64; omega)
  have f1h : Hid (IntKind.i64.wrap (x * S) = x * S) := Lib.hid (IntWalk.i64_in _ (by omega))
  have f2h : Hid (IntKind.i64.wrap (y * S) = y * S) := Lib.hid (IntWalk.i64_in _ (by omega))
  have f3h : Hid (IntKind.i64.wrap (X + x * S) = X + x * S) := Lib.hid (IntWalk.i64_in _ (by omega))
  have f4h : Hid (IntKind.i64.wrap (Y + y * S) = Y + y * S) := Lib.hid (IntWalk.i64_in _ (by omega))
  have e5h : Hid (wrap64 (cw * ch) = m) := Lib.hid (by rw [hcm]; unfold wrap64; omega)
  have f5h : Hid (IntKind.i64.wrap (cw * ch) = m) := Lib.hid (by rw [hcm]; exact IntWalk.i64_in _ (by omega))
  have HR := Lib.hid h
  have HL := Lib.hid hl
  have HN := Lib.hid hn
  have HW := Lib.hid (And.intro w0 w1)
  have HGB := Lib.hid hWH
  have HXY := Lib.hid (And.intro (And.intro x0 x1) (And.intro y0 y1))
  have HM := Lib.hid hm
  have hm5 : m ≤ 5000 := by omega
  have HNB : Hid (n ≤ 4096) := Lib.hid (by
    have a1 := Int.mul_le_mul hWH.1.2 hWH.2.2 (by omega) (by omega)
    omega)
  have m1 : 8 * m ≤ 281474976710656 := by omega
  have m2 : m ≤ 4611686018427387904 := by omega
  obtain ⟨p, hp⟩ : ∃ p : Nat, cw = p := ⟨cw.toNat, by omega⟩
  obtain ⟨q, hq⟩ : ∃ q : Nat, ch = q := ⟨ch.toNat, by omega⟩
  have HPQ : Hid (p * q = m) := Lib.hid (by rw [hp, hq, ← Int.natCast_mul] at hcm; exact Int.ofNat.inj hcm)
  subst hp hq
  have hp64 : p ≤ 64 := by omega
  have hq64 : q ≤ 64 := by omega
  clear h hl hn hWH hX hY hS hs hcm hm w0 w1 h0 h1 x0 x1 y0 y1 xs ys
  have e1 := e1h.out
  have e2 := e2h.out
  have e3 := e3h.out
  have e4 := e4h.out
  have f1 := f1h.out
  have f2 := f2h.out
  have f3 := f3h.out
  have f4 := f4h.out
  have e5 := e5h.out
  have f5 := f5h.out
  go_enter Try.func47, Try.ntmps47
  go_wp2_with (first | go_big_skip | ((with_reducible refine at_load ?_); first | (refine wm_load (cs := ?_) (t := ?_) (n := ?_) K rfl _ _ rfl rfl ?_ ?_ ?_ ?_; rotate_left 2; (repeat (first | exact At.hd | refine At.tl ?_)); rotate_left; (first | (with_reducible exact row47)); (solve | exact rfl | simp)) | (refine wm_own (cs := ?_) (t := ?_) (v := ?_) K rfl _ _ rfl rfl ?_ ?_ ?_ ?_; rotate_left 2; (repeat (first | exact At.hd | refine At.tl ?_)); rotate_left; (first | exact rfl | assumption); (first | (with_reducible exact one2) | (with_reducible exact one3) | (with_reducible exact one45))) | (refine wm_cell (v := ?_) rfl _ _ rfl rfl ?_ ?_ ?_; rotate_left; (first | assumption | exact (K.below.cell (by assumption)).trans (by assumption)); (first | (with_reducible exact one2) | (with_reducible exact one3) | (with_reducible exact one45)))) | ((with_reducible refine at_store ?_); first | (refine wm_store (L' := ?_) (cs := ?_) (t := ?_) (n := ?_) K rfl _ _ _ rfl rfl rfl rfl ?_ ?_ ?_ ?_ ?_ ?_; rotate_left 3; (repeat (first | exact Put.hd | (refine Put.tl (L' := ?_) ?_; rotate_left))); rotate_left; (first | (with_reducible exact row47)); (solve | exact rfl | simp); (solve | exact rfl | simp); (solve | exact rfl | simp [Ones, Value.oneCell']); (try clear K); (try clear ww); intro ww K; (try simp [go_sem] at K)) | (refine wm_put (L' := ?_) (cs := ?_) (new := ?_) (t := ?_) K rfl _ _ _ rfl rfl rfl rfl ?_ ?_ ?_ ?_ rfl rfl ?_; rotate_left 4; (repeat (first | exact Put.hd | (refine Put.tl (L' := ?_) ?_; rotate_left))); (solve | exact Nat.le_of_ble_eq_true rfl | decide | (simp only [List.size_toArray, nums_length]; first | assumption | omega) | (simp only [List.size_toArray, nums_length, List.length_set]; first | assumption | omega) | simp | omega | (simp only [List.size_toArray, nums_length]; omega) | assumption); (solve | (simp only [List.setIfInBounds_toArray]; exact rfl) | exact nums_set _ _ _ _ | simp only [List.setIfInBounds_toArray, List.set_cons_zero] | simp only [List.setIfInBounds_toArray, List.set_cons_zero, List.set_cons_succ] | (simp only [List.setIfInBounds_toArray, List.set_cons_zero, List.set_cons_succ]; exact rfl) | exact rfl); (first | (with_reducible exact one2) | (with_reducible exact one3) | (with_reducible exact one45)); (try clear K); (try clear ww); intro ww K; (try simp [go_sem] at K))) | (first | ((with_reducible refine at_box ?_); refine wm_box K rfl _ _ rfl rfl rfl ?_; (try clear K); (try clear ww); (first | ((fail_if_success (have _h := b5)); intro b5 ww K) | ((fail_if_success (have _h := b10)); intro b10 ww K)); (try simp [go_sem, Value.cells] at K)) | ((with_reducible refine at_alloc ?_); refine wm_alloc (v := ?_) (cs := ?_) K rfl _ rfl ?_ ?_ ?_; rotate_left; (first | (with_reducible exact zero47)); rotate_left; exact rfl; (try clear K); (try clear ww); (first | ((fail_if_success (have _h := b5)); intro b5 ww K) | ((fail_if_success (have _h := b10)); intro b10 ww K)); (try simp [go_sem, Value.cells] at K))))
  (try simp only [Act.put, List.setIfInBounds_toArray, List.set_cons_zero, List.set_cons_succ])
  go_cut [12] from 48 to 70 (fun p12 wc => ∃ b12 g : Nat, p12 = .pointer (some ⟨b12, 0, none⟩) ∧ St w.heap.size w [(b12, #[.int .i64 p, .int .i64 q, .int .i64 (X + x * S), .int .i64 (Y + y * S), .int .i64 S, .slice (some ⟨g, 0, none⟩) m m], 47), (g, (nums .i64 (List.replicate m 0)).toArray, 2), (b10, #[.int .i64 0, .int .i64 0, .int .i64 0, .int .i64 0, .int .i64 0, .slice none 0 0], 47), (b5, #[.int .i64 W, .int .i64 H, .int .i64 X, .int .i64 Y, .int .i64 S, .slice A n c], 47)] Any wc)
  case first =>
    refine wm_tree _ (.take 0 (.take 1 (.take 2 (.take 3 (.take 4 (.take 5 (.take 6 (.take 7 (.take 8 (.take 9 (.take 10 (.take 11 (.take 12 (.take 13 (.take 14 (.take 15 (.take 16 (.take 17 (.take 18 (.take 19 (.take 20 (.alt 21 (.take 22 (.alt 23 (.alt 24 .done .stop) .stop)) (.alt 23 (.alt 21 (.take 22 (.alt 24 .done .stop)) .stop) .stop))))))))))))))))))))))) K (List.Sublist.refl _) (by kernel_rfl) (by kernel_rfl) ?_; (try clear K); (try clear ww); intro ww K; (try simp [go_sem] at K)
    repeat' (first | exact tree_stop | (refine tm_own (cs := ?_) (t0 := ?_) (v := ?_) rfl rfl _ _ rfl rfl ?_ ?_ ?_ ?_; rotate_left 2; (repeat (first | exact At.hd | refine At.tl ?_)); rotate_left; (first | exact rfl | assumption); (first | (with_reducible exact one2) | (with_reducible exact one3) | (with_reducible exact one45))) | (refine tree_take (fun K' hK' => ?_); simp only [opAt, List.getElem?_toArray, List.getElem?_cons_succ, List.getElem?_cons_zero, Option.getD_some]; go_simp; first | (refine hK' _ ?_; clear hK' K') | (apply Exists.intro; refine ⟨?_, hK' _ ?_⟩; (intro _ _; rfl); clear hK' K')) | (refine tree_list rfl ?_ ?_; refine wm_make K rfl _ _ _ rfl Try.underlying45 num2 m rfl rfl rfl rfl m1 m2 ?_; intro g ww2 K2; refine wl_nil ⟨(by first | exact (K2).sub (List.Sublist.refl _) | exact (K2.tail).sub (List.Sublist.refl _) | exact (K2.tail.tail).sub (List.Sublist.refl _) | exact (K2.tail.tail.tail).sub (List.Sublist.refl _) | exact (K2.weak fun _ h => h.2).sub (List.Sublist.refl _) | exact (K2.tail.weak fun _ h => h.2).sub (List.Sublist.refl _) | exact (K2.tail.tail.weak fun _ h => h.2).sub (List.Sublist.refl _) | exact (K2.tail.tail.tail.weak fun _ h => h.2).sub (List.Sublist.refl _) | exact (K2.weak fun _ h => h.2.2).sub (List.Sublist.refl _) | exact (K2.tail.weak fun _ h => h.2.2).sub (List.Sublist.refl _) | exact (K2.tail.tail.weak fun _ h => h.2.2).sub (List.Sublist.refl _) | exact (K2.tail.tail.tail.weak fun _ h => h.2.2).sub (List.Sublist.refl _) | exact (K2.weak fun _ h => h.2.2.2).sub (List.Sublist.refl _) | exact (K2.tail.weak fun _ h => h.2.2.2).sub (List.Sublist.refl _) | exact (K2.tail.tail.weak fun _ h => h.2.2.2).sub (List.Sublist.refl _) | exact (K2.tail.tail.tail.weak fun _ h => h.2.2.2).sub (List.Sublist.refl _) | exact (K2.weak fun _ h => h.2.2.2.2).sub (List.Sublist.refl _) | exact (K2.tail.weak fun _ h => h.2.2.2.2).sub (List.Sublist.refl _) | exact (K2.tail.tail.weak fun _ h => h.2.2.2.2).sub (List.Sublist.refl _) | exact (K2.tail.tail.tail.weak fun _ h => h.2.2.2.2).sub (List.Sublist.refl _) | exact (K2.weak fun _ h => h.2.2.2.2.2).sub (List.Sublist.refl _) | exact (K2.tail.weak fun _ h => h.2.2.2.2.2).sub (List.Sublist.refl _) | exact (K2.tail.tail.weak fun _ h => h.2.2.2.2.2).sub (List.Sublist.refl _) | exact (K2.tail.tail.tail.weak fun _ h => h.2.2.2.2.2).sub (List.Sublist.refl _)), ?_⟩; replace K := K2; clear K2; (try clear ww); revert ww2; intro ww K) | (first | ((fail_if_success (have _h := b12)); refine tm_alloc (v := ?_) (cs := ?_) K rfl rfl _ rfl ?_ ?_ ?_ ?_; rotate_left; (first | (with_reducible exact zero47)); rotate_left; exact rfl; intro b12 ww2 K2; (try simp [go_sem, Value.cells] at K2); refine ⟨(by first | exact (K2).sub (List.Sublist.refl _) | exact (K2.tail).sub (List.Sublist.refl _) | exact (K2.tail.tail).sub (List.Sublist.refl _) | exact (K2.tail.tail.tail).sub (List.Sublist.refl _) | exact (K2.weak fun _ h => h.2).sub (List.Sublist.refl _) | exact (K2.tail.weak fun _ h => h.2).sub (List.Sublist.refl _) | exact (K2.tail.tail.weak fun _ h => h.2).sub (List.Sublist.refl _) | exact (K2.tail.tail.tail.weak fun _ h => h.2).sub (List.Sublist.refl _) | exact (K2.weak fun _ h => h.2.2).sub (List.Sublist.refl _) | exact (K2.tail.weak fun _ h => h.2.2).sub (List.Sublist.refl _) | exact (K2.tail.tail.weak fun _ h => h.2.2).sub (List.Sublist.refl _) | exact (K2.tail.tail.tail.weak fun _ h => h.2.2).sub (List.Sublist.refl _) | exact (K2.weak fun _ h => h.2.2.2).sub (List.Sublist.refl _) | exact (K2.tail.weak fun _ h => h.2.2.2).sub (List.Sublist.refl _) | exact (K2.tail.tail.weak fun _ h => h.2.2.2).sub (List.Sublist.refl _) | exact (K2.tail.tail.tail.weak fun _ h => h.2.2.2).sub (List.Sublist.refl _) | exact (K2.weak fun _ h => h.2.2.2.2).sub (List.Sublist.refl _) | exact (K2.tail.weak fun _ h => h.2.2.2.2).sub (List.Sublist.refl _) | exact (K2.tail.tail.weak fun _ h => h.2.2.2.2).sub (List.Sublist.refl _) | exact (K2.tail.tail.tail.weak fun _ h => h.2.2.2.2).sub (List.Sublist.refl _) | exact (K2.weak fun _ h => h.2.2.2.2.2).sub (List.Sublist.refl _) | exact (K2.tail.weak fun _ h => h.2.2.2.2.2).sub (List.Sublist.refl _) | exact (K2.tail.tail.weak fun _ h => h.2.2.2.2.2).sub (List.Sublist.refl _) | exact (K2.tail.tail.tail.weak fun _ h => h.2.2.2.2.2).sub (List.Sublist.refl _)), ?_⟩; replace K := K2; clear K2; (try clear ww); revert ww2; intro ww K)) | (refine tm_store (L' := ?_) (cs := ?_) (t0 := ?_) (n := ?_) K rfl rfl _ _ _ rfl rfl rfl rfl ?_ ?_ ?_ ?_ ?_ ?_ ?_; rotate_left 3; (repeat (first | exact Put.hd | (refine Put.tl (L' := ?_) ?_; rotate_left))); rotate_left; (first | (with_reducible exact row47)); (solve | exact rfl | simp); (solve | exact rfl | simp); (solve | exact rfl | simp [Ones, Value.oneCell']); intro ww2 K2; (try simp [go_sem] at K2); refine ⟨(by first | exact (K2).sub (List.Sublist.refl _) | exact (K2.tail).sub (List.Sublist.refl _) | exact (K2.tail.tail).sub (List.Sublist.refl _) | exact (K2.tail.tail.tail).sub (List.Sublist.refl _) | exact (K2.weak fun _ h => h.2).sub (List.Sublist.refl _) | exact (K2.tail.weak fun _ h => h.2).sub (List.Sublist.refl _) | exact (K2.tail.tail.weak fun _ h => h.2).sub (List.Sublist.refl _) | exact (K2.tail.tail.tail.weak fun _ h => h.2).sub (List.Sublist.refl _) | exact (K2.weak fun _ h => h.2.2).sub (List.Sublist.refl _) | exact (K2.tail.weak fun _ h => h.2.2).sub (List.Sublist.refl _) | exact (K2.tail.tail.weak fun _ h => h.2.2).sub (List.Sublist.refl _) | exact (K2.tail.tail.tail.weak fun _ h => h.2.2).sub (List.Sublist.refl _) | exact (K2.weak fun _ h => h.2.2.2).sub (List.Sublist.refl _) | exact (K2.tail.weak fun _ h => h.2.2.2).sub (List.Sublist.refl _) | exact (K2.tail.tail.weak fun _ h => h.2.2.2).sub (List.Sublist.refl _) | exact (K2.tail.tail.tail.weak fun _ h => h.2.2.2).sub (List.Sublist.refl _) | exact (K2.weak fun _ h => h.2.2.2.2).sub (List.Sublist.refl _) | exact (K2.tail.weak fun _ h => h.2.2.2.2).sub (List.Sublist.refl _) | exact (K2.tail.tail.weak fun _ h => h.2.2.2.2).sub (List.Sublist.refl _) | exact (K2.tail.tail.tail.weak fun _ h => h.2.2.2.2).sub (List.Sublist.refl _) | exact (K2.weak fun _ h => h.2.2.2.2.2).sub (List.Sublist.refl _) | exact (K2.tail.weak fun _ h => h.2.2.2.2.2).sub (List.Sublist.refl _) | exact (K2.tail.tail.weak fun _ h => h.2.2.2.2.2).sub (List.Sublist.refl _) | exact (K2.tail.tail.tail.weak fun _ h => h.2.2.2.2.2).sub (List.Sublist.refl _)), ?_⟩; replace K := K2; clear K2; (try clear ww); revert ww2; intro ww K))
    all_goals refine tree_done ?_
    all_goals (try simp only [opAt, List.getElem?_toArray, List.getElem?_cons_succ, List.getElem?_cons_zero, Option.getD_some])
    all_goals (try go_simp)
    all_goals (try go_wp2_with (fail))
    all_goals (try go_meet)
    all_goals first | exact ⟨_, _, rfl, K⟩ | exact ⟨_, _, rfl, K.perm (List.Perm.swap _ _ _)⟩
  case rest =>
    clear K
    obtain ⟨b12, g, rfl, K⟩ := hcut
    clear e1 e2 e3 e4 f1 f2 f3 f4 e5 f5 e1h e2h e3h e4h f1h f2h f3h f4h e5h f5h d1 d2 d3 d4 d5 d6 d7 d8 m1 m2
    obtain ⟨X2, hX2⟩ : ∃ X2, X + x * S = X2 := ⟨_, rfl⟩
    obtain ⟨Y2, hY2⟩ : ∃ Y2, Y + y * S = Y2 := ⟨_, rfl⟩
    rw [hX2, hY2] at K
    have HXX := Lib.hid (And.intro hX2 hY2)
    clear hX2 hY2
    obtain ⟨T, hT⟩ : ∃ T, cut14 W H zs x y (p : Int) m = T := ⟨_, rfl⟩
    have HTE := Lib.hid hT
    have HTL : Hid (T.length = m) := Lib.hid (by rw [← hT]; exact gen_len _ _)
    have HTG : Hid (∀ k, k < m → T.getD k 0 = cutv W H zs x y p k) := Lib.hid (fun k hk => by rw [← hT]; exact gen_get _ hk)
    clear hT
    obtain ⟨Z, hZ⟩ : ∃ Z : List Int, List.replicate m 0 = Z := ⟨_, rfl⟩
    have HZL : Hid (Z.length = m) := Lib.hid (by rw [← hZ]; simp)
    have HZG : Hid (∀ k, k < m → Z.getD k 0 = 0) := Lib.hid (fun k hk => by rw [← hZ]; simp [List.getD, hk])
    have HZ0 : Hid (((nums .i64 (List.replicate m 0)).toArray : Array Value).size = m ∧ ((nums .i64 (List.replicate m 0)).toArray : Array Value).toList.take m = ints .i64 (T.take (0 * p) ++ Z.drop (0 * p))) := Lib.hid (by
      rw [Nat.zero_mul, List.take_zero, List.drop_zero, List.nil_append, ← hZ]; exact zeros_at m)
    generalize (nums .i64 (List.replicate m 0)).toArray = cur0 at *
    clear hZ
    go_wp2_with fail
    go_loopw [72] (fun i wr => ∃ (r : Nat) (cur : Array Value), r ≤ q ∧ i = .int .i64 r ∧ Hid (cur.size = m ∧ cur.toList.take m = ints .i64 (T.take (r * p) ++ Z.drop (r * p))) ∧ St w.heap.size w [(b12, #[.int .i64 p, .int .i64 q, .int .i64 X2, .int .i64 Y2, .int .i64 S, .slice (some ⟨g, 0, none⟩) m m], 47), (g, cur, 2), (b10, #[.int .i64 0, .int .i64 0, .int .i64 0, .int .i64 0, .int .i64 0, .slice none 0 0], 47), (b5, #[.int .i64 W, .int .i64 H, .int .i64 X, .int .i64 Y, .int .i64 S, .slice A n c], 47)] Any wr) (fun i _ => q - (intOf i).toNat)
    case atStart => exact ⟨0, cur0, Nat.zero_le _, rfl, HZ0, K⟩
    case round =>
      clear K HZ0
      obtain ⟨r, cur, hr, rfl, HU, K⟩ := hrel
      by_cases hrq : r < q
      · have ht : decide ((r : Int) < q) = true := decide_eq_true (by omega)
        go_wp2_with fail
        go_loopw [76] (fun i wr => ∃ (cc : Nat) (cur : Array Value), cc ≤ p ∧ i = .int .i64 cc ∧ Hid (cur.size = m ∧ cur.toList.take m = ints .i64 (T.take (r * p + cc) ++ Z.drop (r * p + cc))) ∧ St w.heap.size w [(b12, #[.int .i64 p, .int .i64 q, .int .i64 X2, .int .i64 Y2, .int .i64 S, .slice (some ⟨g, 0, none⟩) m m], 47), (g, cur, 2), (b10, #[.int .i64 0, .int .i64 0, .int .i64 0, .int .i64 0, .int .i64 0, .slice none 0 0], 47), (b5, #[.int .i64 W, .int .i64 H, .int .i64 X, .int .i64 Y, .int .i64 S, .slice A n c], 47)] Any wr) (fun i _ => p - (intOf i).toNat)
        case atStart => exact ⟨0, cur, Nat.zero_le _, rfl, HU, K⟩
        case round =>
          clear K HU
          obtain ⟨cc, cur, hcc, rfl, HU, K⟩ := hrel
          by_cases hcp : cc < p
          · have ht2 : decide ((cc : Int) < p) = true := decide_eq_true (by omega)
            have hkm0 : r * p + cc < m := by
              have h1 := Nat.mul_le_mul_right p (show r + 1 ≤ q by omega)
              rw [Nat.succ_mul, Nat.mul_comm q p, HPQ.out] at h1
              omega
            obtain ⟨hmd, hdv⟩ := at_div (r := r) (q := cc) (c := p) hcp
            obtain ⟨R, hR⟩ : ∃ R : Nat, r * p = R := ⟨_, rfl⟩
            rw [hR] at hkm0 hmd hdv
            obtain ⟨k, hk⟩ : ∃ k : Nat, R + cc = k := ⟨_, rfl⟩
            rw [hk] at hkm0 hmd hdv
            have HK : Hid (r * p + cc = k ∧ r * p + (cc + 1) = k + 1) := Lib.hid (by rw [hR]; omega)
            have HU2 : Hid (cur.size = m ∧ cur.toList.take m = ints .i64 (T.take k ++ Z.drop k)) := Lib.hid (by have := HU.out; rw [HK.out.1] at this; exact this)
            have hxy := HXY.out
            have s1h : Hid (wrap64 ((r : Int) * (p : Int)) = (R : Int)) := Lib.hid (by rw [← Int.natCast_mul, hR]; exact w64 (by omega) (by omega))
            have s2h : Hid (wrap64 ((R : Int) + (cc : Int)) = (k : Int)) := Lib.hid (w64e (by omega) (by omega) (by omega))
            obtain ⟨a, ha⟩ : ∃ a, x + (cc : Int) = a := ⟨_, rfl⟩
            obtain ⟨b, hb⟩ : ∃ b, y + (r : Int) = b := ⟨_, rfl⟩
            have g4h : Hid (wrap64 (x + (cc : Int)) = a) := Lib.hid (w64e (by omega) (by omega) ha)
            have g5h : Hid (wrap64 (y + (r : Int)) = b) := Lib.hid (w64e (by omega) (by omega) hb)
            have hE : T.getD k 0 = if 0 ≤ a ∧ a < W ∧ 0 ≤ b ∧ b < H then zs.getD (b * W + a).toNat 0 else 0 := by rw [HTG.out k hkm0]; unfold cutv; rw [hmd, hdv, ha, hb]
            by_cases hin : 0 ≤ a ∧ a < W ∧ 0 ≤ b ∧ b < H
            · rw [if_pos hin] at hE
              obtain ⟨q0, q1⟩ := place_bd HN.out hin.1 hin.2.1 hin.2.2.1 hin.2.2.2
              obtain ⟨j, hj⟩ : ∃ j : Nat, b * W + a = j := ⟨(b * W + a).toNat, by omega⟩
              rw [hj, Int.toNat_natCast] at hE
              have hjn : j < n := by omega
              have hgb := HGB.out
              have hnb := HNB.out
              have hbw := Int.mul_nonneg hin.2.2.1 (show 0 ≤ W by omega)
              have t1 : decide (0 ≤ a) = true := decide_eq_true hin.1
              have t2 : decide (a < W) = true := decide_eq_true hin.2.1
              have t3 : decide (0 ≤ b) = true := decide_eq_true hin.2.2.1
              have t4 : decide (b < H) = true := decide_eq_true hin.2.2.2
              obtain ⟨bb0, off, rfl, hbb, hc⟩ := HR.out.get hjn
              have hv := hc j _ (ints_get .i64 zs j (by rw [HL.out]; exact hjn))
              rw [← hE] at hv
              have hnew := mix_set HTL.out HZL.out hkm0
              generalize T.getD k 0 = v at *
              have hput := row_put (i := k) (x := v) HU2.out.2
              rw [hnew] at hput
              have HN2 : Hid ((cur.setIfInBounds k (.int .i64 v)).size = m ∧ (cur.setIfInBounds k (.int .i64 v)).toList.take m = ints .i64 (T.take (r * p + (cc + 1)) ++ Z.drop (r * p + (cc + 1)))) := Lib.hid (by rw [HK.out.2]; exact ⟨by rw [Array.size_setIfInBounds]; exact HU2.out.1, hput⟩)
              have hink : k < cur.size := by rw [HU2.out.1]; exact hkm0
              have k1h : Hid (wrap64 (b * W) = b * W) := Lib.hid (w64 (by omega) (by omega))
              have k2h : Hid (wrap64 (b * W + a) = j) := Lib.hid (w64e (by omega) (by omega) hj)
              have l1h : Hid (IntKind.i64.wrap (b * W) = b * W) := Lib.hid (IntWalk.i64_in _ (by omega))
              have l2h : Hid (IntKind.i64.wrap (b * W + a) = j) := Lib.hid ((IntWalk.i64_in _ (by omega)).trans hj)
              have l3h : Hid (IntKind.i64.wrap ((r : Int) * (p : Int)) = (R : Int)) := Lib.hid (by rw [← Int.natCast_mul, hR]; exact IntWalk.i64_in _ (by omega))
              have l4h : Hid (IntKind.i64.wrap ((R : Int) + (cc : Int)) = (k : Int)) := Lib.hid ((IntWalk.i64_in _ (by omega)).trans (by omega))
              clear hc hmd hdv hR hk hxy hnb ha hb hE hin q0 q1 hj hgb hbw hnew hput
              have s1 := s1h.out
              have s2 := s2h.out
              have g4 := g4h.out
              have g5 := g5h.out
              have k1 := k1h.out
              have k2 := k2h.out
              have l1 := l1h.out
              have l2 := l2h.out
              have l3 := l3h.out
              have l4 := l4h.out
              go_wp2_with (first | go_big_skip | ((with_reducible refine at_load ?_); first | (refine wm_load (cs := ?_) (t := ?_) (n := ?_) K rfl _ _ rfl rfl ?_ ?_ ?_ ?_; rotate_left 2; (repeat (first | exact At.hd | refine At.tl ?_)); rotate_left; (first | (with_reducible exact row47)); (solve | exact rfl | simp)) | (refine wm_own (cs := ?_) (t := ?_) (v := ?_) K rfl _ _ rfl rfl ?_ ?_ ?_ ?_; rotate_left 2; (repeat (first | exact At.hd | refine At.tl ?_)); rotate_left; (first | exact rfl | assumption); (first | (with_reducible exact one2) | (with_reducible exact one3) | (with_reducible exact one45))) | (refine wm_cell (v := ?_) rfl _ _ rfl rfl ?_ ?_ ?_; rotate_left; (first | assumption | exact (K.below.cell (by assumption)).trans (by assumption)); (first | (with_reducible exact one2) | (with_reducible exact one3) | (with_reducible exact one45)))) | ((with_reducible refine at_store ?_); first | (refine wm_store (L' := ?_) (cs := ?_) (t := ?_) (n := ?_) K rfl _ _ _ rfl rfl rfl rfl ?_ ?_ ?_ ?_ ?_ ?_; rotate_left 3; (repeat (first | exact Put.hd | (refine Put.tl (L' := ?_) ?_; rotate_left))); rotate_left; (first | (with_reducible exact row47)); (solve | exact rfl | simp); (solve | exact rfl | simp); (solve | exact rfl | simp [Ones, Value.oneCell']); (try clear K); (try clear ww); intro ww K; (try simp [go_sem] at K)) | (refine wm_put (L' := ?_) (cs := ?_) (new := ?_) (t := ?_) K rfl _ _ _ rfl rfl rfl rfl ?_ ?_ ?_ ?_ rfl rfl ?_; rotate_left 4; (repeat (first | exact Put.hd | (refine Put.tl (L' := ?_) ?_; rotate_left))); (solve | exact Nat.le_of_ble_eq_true rfl | decide | (simp only [List.size_toArray, nums_length]; first | assumption | omega) | (simp only [List.size_toArray, nums_length, List.length_set]; first | assumption | omega) | simp | omega | (simp only [List.size_toArray, nums_length]; omega) | assumption); (solve | (simp only [List.setIfInBounds_toArray]; exact rfl) | exact nums_set _ _ _ _ | simp only [List.setIfInBounds_toArray, List.set_cons_zero] | simp only [List.setIfInBounds_toArray, List.set_cons_zero, List.set_cons_succ] | (simp only [List.setIfInBounds_toArray, List.set_cons_zero, List.set_cons_succ]; exact rfl) | exact rfl); (first | (with_reducible exact one2) | (with_reducible exact one3) | (with_reducible exact one45)); (try clear K); (try clear ww); intro ww K; (try simp [go_sem] at K))) | (first | ((with_reducible refine at_box ?_); refine wm_box K rfl _ _ rfl rfl rfl ?_; (try clear K); (try clear ww); ((fail_if_success (have _h := b99)); intro b99 ww K); (try simp [go_sem, Value.cells] at K)) | ((with_reducible refine at_alloc ?_); refine wm_alloc (v := ?_) (cs := ?_) K rfl _ rfl ?_ ?_ ?_; rotate_left; (first | (with_reducible exact zero47)); rotate_left; exact rfl; (try clear K); (try clear ww); ((fail_if_success (have _h := b99)); intro b99 ww K); (try simp [go_sem, Value.cells] at K))))
              refine wm_held _ [(true, 0), (true, 1), (true, 2), (true, 3), (true, 4), (true, 5), (true, 6), (true, 7), (true, 8), (true, 9), (true, 10), (true, 11), (true, 12), (true, 13), (true, 14), (true, 15), (true, 16), (true, 17), (false, 18)] K (List.Sublist.cons_cons _ (List.Sublist.cons _ (List.Sublist.refl _))) (by kernel_rfl) (by kernel_rfl) ?_; (try clear K); (try clear ww); intro ww K; (try simp [go_sem] at K); simp only [pick, List.getElem?_toArray, List.getElem?_cons_succ, List.getElem?_cons_zero]
              repeat (first | ((with_reducible refine ht_load ?_); first | (refine hm_load (cs := ?_) (t := ?_) (n := ?_) rfl _ _ rfl rfl ?_ ?_ ?_ ?_; rotate_left 2; (repeat (first | exact At.hd | refine At.tl ?_)); rotate_left; (first | (with_reducible exact row47)); (solve | exact rfl | simp)) | (refine hm_own (cs := ?_) (t := ?_) (v := ?_) rfl _ _ rfl rfl ?_ ?_ ?_ ?_; rotate_left 2; (repeat (first | exact At.hd | refine At.tl ?_)); rotate_left; (first | exact rfl | assumption); (first | (with_reducible exact one2) | (with_reducible exact one3) | (with_reducible exact one45))) | (refine hm_cell (v := ?_) rfl _ _ rfl rfl (fun ww K => ?_) ?_ ?_; rotate_left; (first | assumption | exact (K.below.cell (by assumption)).trans (by assumption)); (first | (with_reducible exact one2) | (with_reducible exact one3) | (with_reducible exact one45)))) | (refine held_take (fun K' hK' => ?_); go_simp; first | (refine hK' _ ?_; clear hK' K') | (apply Exists.intro; refine ⟨?_, hK' _ ?_⟩; (intro _ _; rfl); clear hK' K')) | ((with_reducible refine ht_store ?_); first | (refine hm_store (L' := ?_) (cs := ?_) (t := ?_) (n := ?_) K rfl _ _ _ rfl rfl rfl rfl ?_ ?_ ?_ ?_ ?_ ?_; rotate_left 3; (repeat (first | exact Put.hd | (refine Put.tl (L' := ?_) ?_; rotate_left))); rotate_left; (first | (with_reducible exact row47)); (solve | exact rfl | simp); (solve | exact rfl | simp); (solve | exact rfl | simp [Ones, Value.oneCell']); (try clear K); (try clear ww); intro ww K; (try simp [go_sem] at K); refine ⟨(by first | exact (K).sub (List.Sublist.cons_cons _ (List.Sublist.cons _ (List.Sublist.refl _))) | exact (K.weak fun _ h => h.2).sub (List.Sublist.cons_cons _ (List.Sublist.cons _ (List.Sublist.refl _))) | exact (K.weak fun _ h => h.2.2).sub (List.Sublist.cons_cons _ (List.Sublist.cons _ (List.Sublist.refl _))) | exact (K.weak fun _ h => h.2.2.2).sub (List.Sublist.cons_cons _ (List.Sublist.cons _ (List.Sublist.refl _))) | exact (K.weak fun _ h => h.2.2.2.2).sub (List.Sublist.cons_cons _ (List.Sublist.cons _ (List.Sublist.refl _))) | exact (K.weak fun _ h => h.2.2.2.2.2).sub (List.Sublist.cons_cons _ (List.Sublist.cons _ (List.Sublist.refl _)))), ?_⟩) | (refine hm_put (L' := ?_) (cs := ?_) (new := ?_) (t := ?_) K rfl _ _ _ rfl rfl rfl rfl ?_ ?_ ?_ ?_ rfl rfl ?_; rotate_left 4; (repeat (first | exact Put.hd | (refine Put.tl (L' := ?_) ?_; rotate_left))); (solve | exact Nat.le_of_ble_eq_true rfl | decide | (simp only [List.size_toArray, nums_length]; first | assumption | omega) | (simp only [List.size_toArray, nums_length, List.length_set]; first | assumption | omega) | simp | omega | (simp only [List.size_toArray, nums_length]; omega) | assumption); (solve | (simp only [List.setIfInBounds_toArray]; exact rfl) | exact nums_set _ _ _ _ | simp only [List.setIfInBounds_toArray, List.set_cons_zero] | simp only [List.setIfInBounds_toArray, List.set_cons_zero, List.set_cons_succ] | (simp only [List.setIfInBounds_toArray, List.set_cons_zero, List.set_cons_succ]; exact rfl) | exact rfl); (first | (with_reducible exact one2) | (with_reducible exact one3) | (with_reducible exact one45)); (try clear K); (try clear ww); intro ww K; (try simp [go_sem] at K); refine ⟨(by first | exact (K).sub (List.Sublist.cons_cons _ (List.Sublist.cons _ (List.Sublist.refl _))) | exact (K.weak fun _ h => h.2).sub (List.Sublist.cons_cons _ (List.Sublist.cons _ (List.Sublist.refl _))) | exact (K.weak fun _ h => h.2.2).sub (List.Sublist.cons_cons _ (List.Sublist.cons _ (List.Sublist.refl _))) | exact (K.weak fun _ h => h.2.2.2).sub (List.Sublist.cons_cons _ (List.Sublist.cons _ (List.Sublist.refl _))) | exact (K.weak fun _ h => h.2.2.2.2).sub (List.Sublist.cons_cons _ (List.Sublist.cons _ (List.Sublist.refl _))) | exact (K.weak fun _ h => h.2.2.2.2.2).sub (List.Sublist.cons_cons _ (List.Sublist.cons _ (List.Sublist.refl _)))), ?_⟩)))
              refine held_nil ?_
              go_wp2_with fail
              clear s1 s2 g4 g5 k1 k2 l1 l2 l3 l4
              exact ⟨⟨cc + 1, _, by omega, by go_num, HN2, K⟩, by simp [intOf]; omega⟩
            · rw [if_neg hin] at hE
              obtain ⟨u1, u2, u3, u4, t1, t2, t3, t4, hu⟩ := four_not hin
              have HN2 : Hid (cur.size = m ∧ cur.toList.take m = ints .i64 (T.take (r * p + (cc + 1)) ++ Z.drop (r * p + (cc + 1)))) := Lib.hid (by rw [HK.out.2, mix_keep HTL.out HZL.out hkm0 (by rw [hE, HZG.out k hkm0])]; exact HU2.out)
              clear hmd hdv hR hk hxy ha hb hE hin
              have g4 := g4h.out
              have g5 := g5h.out
              cases u1
              case' true => cases u3
              case' true.true => cases u2
              case' true.true.true => cases u4
              case true.true.true.true => cases hu
              all_goals
                clear hu
                go_wp2_with (first | go_big_skip | ((with_reducible refine at_load ?_); first | (refine wm_load (cs := ?_) (t := ?_) (n := ?_) K rfl _ _ rfl rfl ?_ ?_ ?_ ?_; rotate_left 2; (repeat (first | exact At.hd | refine At.tl ?_)); rotate_left; (first | (with_reducible exact row47)); (solve | exact rfl | simp)) | (refine wm_own (cs := ?_) (t := ?_) (v := ?_) K rfl _ _ rfl rfl ?_ ?_ ?_ ?_; rotate_left 2; (repeat (first | exact At.hd | refine At.tl ?_)); rotate_left; (first | exact rfl | assumption); (first | (with_reducible exact one2) | (with_reducible exact one3) | (with_reducible exact one45))) | (refine wm_cell (v := ?_) rfl _ _ rfl rfl ?_ ?_ ?_; rotate_left; (first | assumption | exact (K.below.cell (by assumption)).trans (by assumption)); (first | (with_reducible exact one2) | (with_reducible exact one3) | (with_reducible exact one45)))) | ((with_reducible refine at_store ?_); first | (refine wm_store (L' := ?_) (cs := ?_) (t := ?_) (n := ?_) K rfl _ _ _ rfl rfl rfl rfl ?_ ?_ ?_ ?_ ?_ ?_; rotate_left 3; (repeat (first | exact Put.hd | (refine Put.tl (L' := ?_) ?_; rotate_left))); rotate_left; (first | (with_reducible exact row47)); (solve | exact rfl | simp); (solve | exact rfl | simp); (solve | exact rfl | simp [Ones, Value.oneCell']); (try clear K); (try clear ww); intro ww K; (try simp [go_sem] at K)) | (refine wm_put (L' := ?_) (cs := ?_) (new := ?_) (t := ?_) K rfl _ _ _ rfl rfl rfl rfl ?_ ?_ ?_ ?_ rfl rfl ?_; rotate_left 4; (repeat (first | exact Put.hd | (refine Put.tl (L' := ?_) ?_; rotate_left))); (solve | exact Nat.le_of_ble_eq_true rfl | decide | (simp only [List.size_toArray, nums_length]; first | assumption | omega) | (simp only [List.size_toArray, nums_length, List.length_set]; first | assumption | omega) | simp | omega | (simp only [List.size_toArray, nums_length]; omega) | assumption); (solve | (simp only [List.setIfInBounds_toArray]; exact rfl) | exact nums_set _ _ _ _ | simp only [List.setIfInBounds_toArray, List.set_cons_zero] | simp only [List.setIfInBounds_toArray, List.set_cons_zero, List.set_cons_succ] | (simp only [List.setIfInBounds_toArray, List.set_cons_zero, List.set_cons_succ]; exact rfl) | exact rfl); (first | (with_reducible exact one2) | (with_reducible exact one3) | (with_reducible exact one45)); (try clear K); (try clear ww); intro ww K; (try simp [go_sem] at K))) | (first | ((with_reducible refine at_box ?_); refine wm_box K rfl _ _ rfl rfl rfl ?_; (try clear K); (try clear ww); ((fail_if_success (have _h := b99)); intro b99 ww K); (try simp [go_sem, Value.cells] at K)) | ((with_reducible refine at_alloc ?_); refine wm_alloc (v := ?_) (cs := ?_) K rfl _ rfl ?_ ?_ ?_; rotate_left; (first | (with_reducible exact zero47)); rotate_left; exact rfl; (try clear K); (try clear ww); ((fail_if_success (have _h := b99)); intro b99 ww K); (try simp [go_sem, Value.cells] at K))))
                clear g4 g5
                exact ⟨⟨cc + 1, cur, by omega, by go_num, HN2, K⟩, by simp [intOf]; omega⟩
          · obtain rfl : cc = p := by omega
            have ht2 : decide ((cc : Int) < cc) = false := decide_eq_false (by omega)
            have HU2 : Hid (cur.size = m ∧ cur.toList.take m = ints .i64 (T.take ((r + 1) * cc) ++ Z.drop ((r + 1) * cc))) := Lib.hid (by rw [Nat.succ_mul]; exact HU.out)
            go_wp2_with fail
            exact ⟨⟨r + 1, cur, by omega, by go_num, HU2, K⟩, by simp [intOf]; omega⟩
      · obtain rfl : r = q := by omega
        have ht : decide ((r : Int) < r) = false := decide_eq_false (by omega)
        have hlast : cur.toList.take m = ints .i64 T := by
          have h1 := HU.out.2
          rw [show r * p = m by rw [Nat.mul_comm]; exact HPQ.out, show T.take m = T from List.take_of_length_le (by rw [HTL.out]; omega), show Z.drop m = [] from List.drop_of_length_le (by rw [HZL.out]; omega), List.append_nil] at h1
          exact h1
        have HX := Lib.hid (And.intro hlast (show m ≤ cur.size by rw [HU.out.1]; exact Nat.le_refl _))
        clear hlast
        go_wp2_with (first | go_big_skip | ((with_reducible refine at_load ?_); first | (refine wm_load (cs := ?_) (t := ?_) (n := ?_) K rfl _ _ rfl rfl ?_ ?_ ?_ ?_; rotate_left 2; (repeat (first | exact At.hd | refine At.tl ?_)); rotate_left; (first | (with_reducible exact row47)); (solve | exact rfl | simp)) | (refine wm_own (cs := ?_) (t := ?_) (v := ?_) K rfl _ _ rfl rfl ?_ ?_ ?_ ?_; rotate_left 2; (repeat (first | exact At.hd | refine At.tl ?_)); rotate_left; (first | exact rfl | assumption); (first | (with_reducible exact one2) | (with_reducible exact one3) | (with_reducible exact one45))) | (refine wm_cell (v := ?_) rfl _ _ rfl rfl ?_ ?_ ?_; rotate_left; (first | assumption | exact (K.below.cell (by assumption)).trans (by assumption)); (first | (with_reducible exact one2) | (with_reducible exact one3) | (with_reducible exact one45)))) | ((with_reducible refine at_store ?_); first | (refine wm_store (L' := ?_) (cs := ?_) (t := ?_) (n := ?_) K rfl _ _ _ rfl rfl rfl rfl ?_ ?_ ?_ ?_ ?_ ?_; rotate_left 3; (repeat (first | exact Put.hd | (refine Put.tl (L' := ?_) ?_; rotate_left))); rotate_left; (first | (with_reducible exact row47)); (solve | exact rfl | simp); (solve | exact rfl | simp); (solve | exact rfl | simp [Ones, Value.oneCell']); (try clear K); (try clear ww); intro ww K; (try simp [go_sem] at K)) | (refine wm_put (L' := ?_) (cs := ?_) (new := ?_) (t := ?_) K rfl _ _ _ rfl rfl rfl rfl ?_ ?_ ?_ ?_ rfl rfl ?_; rotate_left 4; (repeat (first | exact Put.hd | (refine Put.tl (L' := ?_) ?_; rotate_left))); (solve | exact Nat.le_of_ble_eq_true rfl | decide | (simp only [List.size_toArray, nums_length]; first | assumption | omega) | (simp only [List.size_toArray, nums_length, List.length_set]; first | assumption | omega) | simp | omega | (simp only [List.size_toArray, nums_length]; omega) | assumption); (solve | (simp only [List.setIfInBounds_toArray]; exact rfl) | exact nums_set _ _ _ _ | simp only [List.setIfInBounds_toArray, List.set_cons_zero] | simp only [List.setIfInBounds_toArray, List.set_cons_zero, List.set_cons_succ] | (simp only [List.setIfInBounds_toArray, List.set_cons_zero, List.set_cons_succ]; exact rfl) | exact rfl); (first | (with_reducible exact one2) | (with_reducible exact one3) | (with_reducible exact one45)); (try clear K); (try clear ww); intro ww K; (try simp [go_sem] at K))) | (first | ((with_reducible refine at_box ?_); refine wm_box K rfl _ _ rfl rfl rfl ?_; (try clear K); (try clear ww); ((fail_if_success (have _h := b99)); intro b99 ww K); (try simp [go_sem, Value.cells] at K)) | ((with_reducible refine at_alloc ?_); refine wm_alloc (v := ?_) (cs := ?_) K rfl _ rfl ?_ ?_ ?_; rotate_left; (first | (with_reducible exact zero47)); rotate_left; exact rfl; (try clear K); (try clear ww); ((fail_if_success (have _h := b99)); intro b99 ww K); (try simp [go_sem, Value.cells] at K))))
        refine bodyPost_ret (K.res2 rfl _ rfl (At.tl (At.tl At.hd)) (by (first | (with_reducible exact row47))) (by (solve | exact rfl | simp)) rfl) rfl ?_
        exact ⟨some ⟨g, 0, none⟩, m, by rw [HXX.out.1, HXX.out.2]; rfl, ⟨by rw [HTE.out]; exact (sl_take (K.get (.tl .hd)) HX.out.1 HX.out.2).rd, Nw.mk _ _ _ (K.ge (.tl .hd))⟩, K.below⟩
end Go.Proofs.Yteancdipmpmjpaa
namespace Go.Proofs.Yteancdipmpmjpaa
open Go.RowKit
attribute [local irreducible] wpHeld wpTree wpList
set_option linter.unusedVariables false
theorem At14_out (W H X Y S i : Int) (A : Option Addr) (n c : Nat) (w : World) (h : i < 0 ∨ (n : Int) ≤ i) :
    Calls Try.prog 53 #[.agg #[.int .i64 W, .int .i64 H, .int .i64 X, .int .i64 Y, .int .i64 S, .slice A n c], .int .i64 i] w fun e w' => e = .returned (.tuple #[.agg #[.int .i64 0, .int .i64 0], .bool false]) ∧ Below w.heap.size w w' := by
  have K := St.start w
  by_cases h1 : i < 0
  · have t1 : decide (i < 0) = true := decide_eq_true h1
    clear h h1
    go_enter Try.func53, Try.ntmps53
    go_wp2_with (first | go_big_skip | ((with_reducible refine at_load ?_); first | (refine wm_load (cs := ?_) (t := ?_) (n := ?_) K rfl _ _ rfl rfl ?_ ?_ ?_ ?_; rotate_left 2; (repeat (first | exact At.hd | refine At.tl ?_)); rotate_left; (first | (with_reducible exact row47) | (with_reducible exact row81)); (solve | exact rfl | simp)) | (refine wm_own (cs := ?_) (t := ?_) (v := ?_) K rfl _ _ rfl rfl ?_ ?_ ?_ ?_; rotate_left 2; (repeat (first | exact At.hd | refine At.tl ?_)); rotate_left; (first | exact rfl | assumption); (first | (with_reducible exact one2) | (with_reducible exact one3) | (with_reducible exact one45))) | (refine wm_cell (v := ?_) rfl _ _ rfl rfl ?_ ?_ ?_; rotate_left; (first | assumption | exact (K.below.cell (by assumption)).trans (by assumption)); (first | (with_reducible exact one2) | (with_reducible exact one3) | (with_reducible exact one45)))) | ((with_reducible refine at_store ?_); first | (refine wm_store (L' := ?_) (cs := ?_) (t := ?_) (n := ?_) K rfl _ _ _ rfl rfl rfl rfl ?_ ?_ ?_ ?_ ?_ ?_; rotate_left 3; (repeat (first | exact Put.hd | (refine Put.tl (L' := ?_) ?_; rotate_left))); rotate_left; (first | (with_reducible exact row47) | (with_reducible exact row81)); (solve | exact rfl | simp); (solve | exact rfl | simp); (solve | exact rfl | simp [Ones, Value.oneCell']); (try clear K); (try clear ww); intro ww K; (try simp [go_sem] at K)) | (refine wm_put (L' := ?_) (cs := ?_) (new := ?_) (t := ?_) K rfl _ _ _ rfl rfl rfl rfl ?_ ?_ ?_ ?_ rfl rfl ?_; rotate_left 4; (repeat (first | exact Put.hd | (refine Put.tl (L' := ?_) ?_; rotate_left))); (solve | exact Nat.le_of_ble_eq_true rfl | decide | (simp only [List.size_toArray, nums_length]; first | assumption | omega) | (simp only [List.size_toArray, nums_length, List.length_set]; first | assumption | omega) | simp | omega | (simp only [List.size_toArray, nums_length]; omega) | assumption); (solve | (simp only [List.setIfInBounds_toArray]; exact rfl) | exact nums_set _ _ _ _ | simp only [List.setIfInBounds_toArray, List.set_cons_zero] | simp only [List.setIfInBounds_toArray, List.set_cons_zero, List.set_cons_succ] | (simp only [List.setIfInBounds_toArray, List.set_cons_zero, List.set_cons_succ]; exact rfl) | exact rfl); (first | (with_reducible exact one2) | (with_reducible exact one3) | (with_reducible exact one45)); (try clear K); (try clear ww); intro ww K; (try simp [go_sem] at K))) | (first | ((with_reducible refine at_box ?_); refine wm_box K rfl _ _ rfl rfl rfl ?_; (try clear K); (try clear ww); (first | ((fail_if_success (have _h := b2)); intro b2 ww K) | ((fail_if_success (have _h := b4)); intro b4 ww K)); (try simp [go_sem, Value.cells] at K)) | ((with_reducible refine at_alloc ?_); refine wm_alloc (v := ?_) (cs := ?_) K rfl _ rfl ?_ ?_ ?_; rotate_left; (first | (with_reducible exact zero47) | (with_reducible exact zero81)); rotate_left; exact rfl; (try clear K); (try clear ww); (first | ((fail_if_success (have _h := b2)); intro b2 ww K) | ((fail_if_success (have _h := b4)); intro b4 ww K)); (try simp [go_sem, Value.cells] at K))))
    refine bodyPost_ret (K.res2 rfl _ rfl At.hd (by (first | (with_reducible exact row47) | (with_reducible exact row81))) (by (solve | exact rfl | simp)) rfl) rfl ?_
    exact ⟨rfl, K.below⟩
  · have t1 : decide (i < 0) = false := decide_eq_false h1
    have t2 : decide ((n : Int) ≤ i) = true := decide_eq_true (by omega)
    clear h h1
    go_enter Try.func53, Try.ntmps53
    go_wp2_with (first | go_big_skip | ((with_reducible refine at_load ?_); first | (refine wm_load (cs := ?_) (t := ?_) (n := ?_) K rfl _ _ rfl rfl ?_ ?_ ?_ ?_; rotate_left 2; (repeat (first | exact At.hd | refine At.tl ?_)); rotate_left; (first | (with_reducible exact row47) | (with_reducible exact row81)); (solve | exact rfl | simp)) | (refine wm_own (cs := ?_) (t := ?_) (v := ?_) K rfl _ _ rfl rfl ?_ ?_ ?_ ?_; rotate_left 2; (repeat (first | exact At.hd | refine At.tl ?_)); rotate_left; (first | exact rfl | assumption); (first | (with_reducible exact one2) | (with_reducible exact one3) | (with_reducible exact one45))) | (refine wm_cell (v := ?_) rfl _ _ rfl rfl ?_ ?_ ?_; rotate_left; (first | assumption | exact (K.below.cell (by assumption)).trans (by assumption)); (first | (with_reducible exact one2) | (with_reducible exact one3) | (with_reducible exact one45)))) | ((with_reducible refine at_store ?_); first | (refine wm_store (L' := ?_) (cs := ?_) (t := ?_) (n := ?_) K rfl _ _ _ rfl rfl rfl rfl ?_ ?_ ?_ ?_ ?_ ?_; rotate_left 3; (repeat (first | exact Put.hd | (refine Put.tl (L' := ?_) ?_; rotate_left))); rotate_left; (first | (with_reducible exact row47) | (with_reducible exact row81)); (solve | exact rfl | simp); (solve | exact rfl | simp); (solve | exact rfl | simp [Ones, Value.oneCell']); (try clear K); (try clear ww); intro ww K; (try simp [go_sem] at K)) | (refine wm_put (L' := ?_) (cs := ?_) (new := ?_) (t := ?_) K rfl _ _ _ rfl rfl rfl rfl ?_ ?_ ?_ ?_ rfl rfl ?_; rotate_left 4; (repeat (first | exact Put.hd | (refine Put.tl (L' := ?_) ?_; rotate_left))); (solve | exact Nat.le_of_ble_eq_true rfl | decide | (simp only [List.size_toArray, nums_length]; first | assumption | omega) | (simp only [List.size_toArray, nums_length, List.length_set]; first | assumption | omega) | simp | omega | (simp only [List.size_toArray, nums_length]; omega) | assumption); (solve | (simp only [List.setIfInBounds_toArray]; exact rfl) | exact nums_set _ _ _ _ | simp only [List.setIfInBounds_toArray, List.set_cons_zero] | simp only [List.setIfInBounds_toArray, List.set_cons_zero, List.set_cons_succ] | (simp only [List.setIfInBounds_toArray, List.set_cons_zero, List.set_cons_succ]; exact rfl) | exact rfl); (first | (with_reducible exact one2) | (with_reducible exact one3) | (with_reducible exact one45)); (try clear K); (try clear ww); intro ww K; (try simp [go_sem] at K))) | (first | ((with_reducible refine at_box ?_); refine wm_box K rfl _ _ rfl rfl rfl ?_; (try clear K); (try clear ww); (first | ((fail_if_success (have _h := b2)); intro b2 ww K) | ((fail_if_success (have _h := b4)); intro b4 ww K)); (try simp [go_sem, Value.cells] at K)) | ((with_reducible refine at_alloc ?_); refine wm_alloc (v := ?_) (cs := ?_) K rfl _ rfl ?_ ?_ ?_; rotate_left; (first | (with_reducible exact zero47) | (with_reducible exact zero81)); rotate_left; exact rfl; (try clear K); (try clear ww); (first | ((fail_if_success (have _h := b2)); intro b2 ww K) | ((fail_if_success (have _h := b4)); intro b4 ww K)); (try simp [go_sem, Value.cells] at K))))
    refine bodyPost_ret (K.res2 rfl _ rfl At.hd (by (first | (with_reducible exact row47) | (with_reducible exact row81))) (by (solve | exact rfl | simp)) rfl) rfl ?_
    exact ⟨rfl, K.below⟩
theorem At14_in (W H X Y S : Int) (i : Nat) (A : Option Addr) (n c : Nat) (w : World) (hi : i < n) (hn : n ≤ 4096) (hW : 1 ≤ W) (hS : 0 ≤ S ∧ S ≤ 4096) (hX : -1125899906842624 ≤ X ∧ X ≤ 1125899906842624) (hY : -1125899906842624 ≤ Y ∧ Y ≤ 1125899906842624) :
    Calls Try.prog 53 #[.agg #[.int .i64 W, .int .i64 H, .int .i64 X, .int .i64 Y, .int .i64 S, .slice A n c], .int .i64 i] w fun e w' => e = .returned (.tuple #[.agg #[.int .i64 (X + (i : Int) % W * S), .int .i64 (Y + (i : Int) / W * S)], .bool true]) ∧ Below w.heap.size w w' := by
  have K := St.start w
  have hm0 := Int.emod_nonneg (i : Int) (show W ≠ 0 by omega)
  have hm1 : (i : Int) % W ≤ i := by
    by_cases hl : (i : Int) < W
    · rw [Int.emod_eq_of_lt (by omega) hl]; exact Int.le_refl _
    · have := Int.emod_lt_of_pos (i : Int) (show 0 < W by omega); omega
  have hd0 := Int.ediv_nonneg (a := (i : Int)) (b := W) (by omega) (by omega)
  have hd1 := Int.ediv_le_self (a := (i : Int)) W (by omega)
  have g1h : Hid ((i : Int).tmod W = (i : Int) % W) := Lib.hid (Int.tmod_eq_emod_of_nonneg (by omega))
  have g2h : Hid ((i : Int).tdiv W = (i : Int) / W) := Lib.hid (Int.tdiv_eq_ediv_of_nonneg (by omega))
  generalize (i : Int) % W = u at *
  generalize (i : Int) / W = v at *
  have x1 := Int.mul_nonneg hm0 hS.1
  have x2 := Int.mul_le_mul (show u ≤ 4096 by omega) hS.2 hS.1 (by omega)
  have x3 := Int.mul_nonneg hd0 hS.1
  have x4 := Int.mul_le_mul (show v ≤ 4096 by omega) hS.2 hS.1 (by omega)
  have a1h : Hid (IntKind.i64.wrap (u * S) = u * S) := Lib.hid (IntWalk.i64_in _ (by omega))
  have a2h : Hid (IntKind.i64.wrap (v * S) = v * S) := Lib.hid (IntWalk.i64_in _ (by omega))
  have a3h : Hid (IntKind.i64.wrap (X + u * S) = X + u * S) := Lib.hid (IntWalk.i64_in _ (by omega))
  have a4h : Hid (IntKind.i64.wrap (Y + v * S) = Y + v * S) := Lib.hid (IntWalk.i64_in _ (by omega))
  have a5h : Hid (IntKind.i64.wrap v = v) := Lib.hid (IntWalk.i64_in _ (by omega))
  have a6h : Hid (IntKind.i64.wrap u = u) := Lib.hid (IntWalk.i64_in _ (by omega))
  have t0 : (W = 0) = False := by simp; omega
  have t1 : decide ((i : Int) < 0) = false := decide_eq_false (by omega)
  have t2 : decide (n ≤ i) = false := decide_eq_false (by omega)
  have t3 : decide (W < 1) = false := decide_eq_false (by omega)
  clear hm0 hm1 hd0 hd1 x1 x2 x3 x4 hW hS hX hY
  have g1 := g1h.out
  have g2 := g2h.out
  have a1 := a1h.out
  have a2 := a2h.out
  have a3 := a3h.out
  have a4 := a4h.out
  have a5 := a5h.out
  have a6 := a6h.out
  go_enter Try.func53, Try.ntmps53
  go_wp2_with (first | go_big_skip | ((with_reducible refine at_load ?_); first | (refine wm_load (cs := ?_) (t := ?_) (n := ?_) K rfl _ _ rfl rfl ?_ ?_ ?_ ?_; rotate_left 2; (repeat (first | exact At.hd | refine At.tl ?_)); rotate_left; (first | (with_reducible exact row47) | (with_reducible exact row81)); (solve | exact rfl | simp)) | (refine wm_own (cs := ?_) (t := ?_) (v := ?_) K rfl _ _ rfl rfl ?_ ?_ ?_ ?_; rotate_left 2; (repeat (first | exact At.hd | refine At.tl ?_)); rotate_left; (first | exact rfl | assumption); (first | (with_reducible exact one2) | (with_reducible exact one3) | (with_reducible exact one45))) | (refine wm_cell (v := ?_) rfl _ _ rfl rfl ?_ ?_ ?_; rotate_left; (first | assumption | exact (K.below.cell (by assumption)).trans (by assumption)); (first | (with_reducible exact one2) | (with_reducible exact one3) | (with_reducible exact one45)))) | ((with_reducible refine at_store ?_); first | (refine wm_store (L' := ?_) (cs := ?_) (t := ?_) (n := ?_) K rfl _ _ _ rfl rfl rfl rfl ?_ ?_ ?_ ?_ ?_ ?_; rotate_left 3; (repeat (first | exact Put.hd | (refine Put.tl (L' := ?_) ?_; rotate_left))); rotate_left; (first | (with_reducible exact row47) | (with_reducible exact row81)); (solve | exact rfl | simp); (solve | exact rfl | simp); (solve | exact rfl | simp [Ones, Value.oneCell']); (try clear K); (try clear ww); intro ww K; (try simp [go_sem] at K)) | (refine wm_put (L' := ?_) (cs := ?_) (new := ?_) (t := ?_) K rfl _ _ _ rfl rfl rfl rfl ?_ ?_ ?_ ?_ rfl rfl ?_; rotate_left 4; (repeat (first | exact Put.hd | (refine Put.tl (L' := ?_) ?_; rotate_left))); (solve | exact Nat.le_of_ble_eq_true rfl | decide | (simp only [List.size_toArray, nums_length]; first | assumption | omega) | (simp only [List.size_toArray, nums_length, List.length_set]; first | assumption | omega) | simp | omega | (simp only [List.size_toArray, nums_length]; omega) | assumption); (solve | (simp only [List.setIfInBounds_toArray]; exact rfl) | exact nums_set _ _ _ _ | simp only [List.setIfInBounds_toArray, List.set_cons_zero] | simp only [List.setIfInBounds_toArray, List.set_cons_zero, List.set_cons_succ] | (simp only [List.setIfInBounds_toArray, List.set_cons_zero, List.set_cons_succ]; exact rfl) | exact rfl); (first | (with_reducible exact one2) | (with_reducible exact one3) | (with_reducible exact one45)); (try clear K); (try clear ww); intro ww K; (try simp [go_sem] at K))) | (first | ((with_reducible refine at_box ?_); refine wm_box K rfl _ _ rfl rfl rfl ?_; (try clear K); (try clear ww); (first | ((fail_if_success (have _h := b2)); intro b2 ww K) | ((fail_if_success (have _h := b4)); intro b4 ww K)); (try simp [go_sem, Value.cells] at K)) | ((with_reducible refine at_alloc ?_); refine wm_alloc (v := ?_) (cs := ?_) K rfl _ rfl ?_ ?_ ?_; rotate_left; (first | (with_reducible exact zero47) | (with_reducible exact zero81)); rotate_left; exact rfl; (try clear K); (try clear ww); (first | ((fail_if_success (have _h := b2)); intro b2 ww K) | ((fail_if_success (have _h := b4)); intro b4 ww K)); (try simp [go_sem, Value.cells] at K))))
  refine wm_held _ [(true, 0), (true, 1), (true, 2), (true, 3), (true, 4), (true, 5), (true, 6), (true, 7), (true, 8), (true, 9), (true, 10), (true, 11), (true, 12), (true, 13), (true, 14), (true, 15), (true, 16), (true, 17), (true, 18), (true, 19), (true, 20), (false, 21), (true, 22)] K (List.Sublist.cons _ (List.Sublist.refl _)) (by kernel_rfl) (by kernel_rfl) ?_; (try clear K); (try clear ww); intro ww K; (try simp [go_sem] at K); simp only [pick, List.getElem?_toArray, List.getElem?_cons_succ, List.getElem?_cons_zero]
  repeat (first | ((with_reducible refine ht_load ?_); first | (refine hm_load (cs := ?_) (t := ?_) (n := ?_) rfl _ _ rfl rfl ?_ ?_ ?_ ?_; rotate_left 2; (repeat (first | exact At.hd | refine At.tl ?_)); rotate_left; (first | (with_reducible exact row47) | (with_reducible exact row81)); (solve | exact rfl | simp)) | (refine hm_own (cs := ?_) (t := ?_) (v := ?_) rfl _ _ rfl rfl ?_ ?_ ?_ ?_; rotate_left 2; (repeat (first | exact At.hd | refine At.tl ?_)); rotate_left; (first | exact rfl | assumption); (first | (with_reducible exact one2) | (with_reducible exact one3) | (with_reducible exact one45))) | (refine hm_cell (v := ?_) rfl _ _ rfl rfl (fun ww K => ?_) ?_ ?_; rotate_left; (first | assumption | exact (K.below.cell (by assumption)).trans (by assumption)); (first | (with_reducible exact one2) | (with_reducible exact one3) | (with_reducible exact one45)))) | (refine held_take (fun K' hK' => ?_); go_simp; first | (refine hK' _ ?_; clear hK' K') | (apply Exists.intro; refine ⟨?_, hK' _ ?_⟩; (intro _ _; rfl); clear hK' K')) | ((with_reducible refine ht_store ?_); first | (refine hm_store (L' := ?_) (cs := ?_) (t := ?_) (n := ?_) K rfl _ _ _ rfl rfl rfl rfl ?_ ?_ ?_ ?_ ?_ ?_; rotate_left 3; (repeat (first | exact Put.hd | (refine Put.tl (L' := ?_) ?_; rotate_left))); rotate_left; (first | (with_reducible exact row47) | (with_reducible exact row81)); (solve | exact rfl | simp); (solve | exact rfl | simp); (solve | exact rfl | simp [Ones, Value.oneCell']); (try clear K); (try clear ww); intro ww K; (try simp [go_sem] at K); refine ⟨(by first | exact (K).sub (List.Sublist.cons _ (List.Sublist.refl _)) | exact (K.weak fun _ h => h.2).sub (List.Sublist.cons _ (List.Sublist.refl _)) | exact (K.weak fun _ h => h.2.2).sub (List.Sublist.cons _ (List.Sublist.refl _)) | exact (K.weak fun _ h => h.2.2.2).sub (List.Sublist.cons _ (List.Sublist.refl _)) | exact (K.weak fun _ h => h.2.2.2.2).sub (List.Sublist.cons _ (List.Sublist.refl _)) | exact (K.weak fun _ h => h.2.2.2.2.2).sub (List.Sublist.cons _ (List.Sublist.refl _))), ?_⟩) | (refine hm_put (L' := ?_) (cs := ?_) (new := ?_) (t := ?_) K rfl _ _ _ rfl rfl rfl rfl ?_ ?_ ?_ ?_ rfl rfl ?_; rotate_left 4; (repeat (first | exact Put.hd | (refine Put.tl (L' := ?_) ?_; rotate_left))); (solve | exact Nat.le_of_ble_eq_true rfl | decide | (simp only [List.size_toArray, nums_length]; first | assumption | omega) | (simp only [List.size_toArray, nums_length, List.length_set]; first | assumption | omega) | simp | omega | (simp only [List.size_toArray, nums_length]; omega) | assumption); (solve | (simp only [List.setIfInBounds_toArray]; exact rfl) | exact nums_set _ _ _ _ | simp only [List.setIfInBounds_toArray, List.set_cons_zero] | simp only [List.setIfInBounds_toArray, List.set_cons_zero, List.set_cons_succ] | (simp only [List.setIfInBounds_toArray, List.set_cons_zero, List.set_cons_succ]; exact rfl) | exact rfl); (first | (with_reducible exact one2) | (with_reducible exact one3) | (with_reducible exact one45)); (try clear K); (try clear ww); intro ww K; (try simp [go_sem] at K); refine ⟨(by first | exact (K).sub (List.Sublist.cons _ (List.Sublist.refl _)) | exact (K.weak fun _ h => h.2).sub (List.Sublist.cons _ (List.Sublist.refl _)) | exact (K.weak fun _ h => h.2.2).sub (List.Sublist.cons _ (List.Sublist.refl _)) | exact (K.weak fun _ h => h.2.2.2).sub (List.Sublist.cons _ (List.Sublist.refl _)) | exact (K.weak fun _ h => h.2.2.2.2).sub (List.Sublist.cons _ (List.Sublist.refl _)) | exact (K.weak fun _ h => h.2.2.2.2.2).sub (List.Sublist.cons _ (List.Sublist.refl _))), ?_⟩)))
  refine held_nil ?_
  go_wp2_with fail
  clear g1 g2 a1 a2 a3 a4 a5 a6
  refine bodyPost_ret (K.res2 rfl _ rfl At.hd (by (first | (with_reducible exact row47) | (with_reducible exact row81))) (by (solve | exact rfl | simp)) rfl) rfl ?_
  exact ⟨rfl, K.below⟩
theorem Move14 (W H X Y S dx dy X2 Y2 : Int) (A : Option Addr) (n c : Nat) (w : World) (hx : X + dx = X2) (hy : Y + dy = Y2) (hX : -1125899906842624 ≤ X2 ∧ X2 ≤ 1125899906842624) (hY : -1125899906842624 ≤ Y2 ∧ Y2 ≤ 1125899906842624) :
    Calls Try.prog 82 #[.agg #[.int .i64 W, .int .i64 H, .int .i64 X, .int .i64 Y, .int .i64 S, .slice A n c], .int .i64 dx, .int .i64 dy] w fun e w' => e = .returned (.agg #[.int .i64 W, .int .i64 H, .int .i64 X2, .int .i64 Y2, .int .i64 S, .slice A n c]) ∧ Below w.heap.size w w' := by
  have K := St.start w
  have e1 : wrap64 (X + dx) = X2 := w64e (by omega) (by omega) hx
  have e2 : wrap64 (Y + dy) = Y2 := w64e (by omega) (by omega) hy
  clear hx hy hX hY
  go_enter Try.func82, Try.ntmps82
  go_wp2_with (first | go_big_skip | ((with_reducible refine at_load ?_); first | (refine wm_load (cs := ?_) (t := ?_) (n := ?_) K rfl _ _ rfl rfl ?_ ?_ ?_ ?_; rotate_left 2; (repeat (first | exact At.hd | refine At.tl ?_)); rotate_left; (first | (with_reducible exact row47) | (with_reducible exact row81)); (solve | exact rfl | simp)) | (refine wm_own (cs := ?_) (t := ?_) (v := ?_) K rfl _ _ rfl rfl ?_ ?_ ?_ ?_; rotate_left 2; (repeat (first | exact At.hd | refine At.tl ?_)); rotate_left; (first | exact rfl | assumption); (first | (with_reducible exact one2) | (with_reducible exact one3) | (with_reducible exact one45))) | (refine wm_cell (v := ?_) rfl _ _ rfl rfl ?_ ?_ ?_; rotate_left; (first | assumption | exact (K.below.cell (by assumption)).trans (by assumption)); (first | (with_reducible exact one2) | (with_reducible exact one3) | (with_reducible exact one45)))) | ((with_reducible refine at_store ?_); first | (refine wm_store (L' := ?_) (cs := ?_) (t := ?_) (n := ?_) K rfl _ _ _ rfl rfl rfl rfl ?_ ?_ ?_ ?_ ?_ ?_; rotate_left 3; (repeat (first | exact Put.hd | (refine Put.tl (L' := ?_) ?_; rotate_left))); rotate_left; (first | (with_reducible exact row47) | (with_reducible exact row81)); (solve | exact rfl | simp); (solve | exact rfl | simp); (solve | exact rfl | simp [Ones, Value.oneCell']); (try clear K); (try clear ww); intro ww K; (try simp [go_sem] at K)) | (refine wm_put (L' := ?_) (cs := ?_) (new := ?_) (t := ?_) K rfl _ _ _ rfl rfl rfl rfl ?_ ?_ ?_ ?_ rfl rfl ?_; rotate_left 4; (repeat (first | exact Put.hd | (refine Put.tl (L' := ?_) ?_; rotate_left))); (solve | exact Nat.le_of_ble_eq_true rfl | decide | (simp only [List.size_toArray, nums_length]; first | assumption | omega) | (simp only [List.size_toArray, nums_length, List.length_set]; first | assumption | omega) | simp | omega | (simp only [List.size_toArray, nums_length]; omega) | assumption); (solve | (simp only [List.setIfInBounds_toArray]; exact rfl) | exact nums_set _ _ _ _ | simp only [List.setIfInBounds_toArray, List.set_cons_zero] | simp only [List.setIfInBounds_toArray, List.set_cons_zero, List.set_cons_succ] | (simp only [List.setIfInBounds_toArray, List.set_cons_zero, List.set_cons_succ]; exact rfl) | exact rfl); (first | (with_reducible exact one2) | (with_reducible exact one3) | (with_reducible exact one45)); (try clear K); (try clear ww); intro ww K; (try simp [go_sem] at K))) | (first | ((with_reducible refine at_box ?_); refine wm_box K rfl _ _ rfl rfl rfl ?_; (try clear K); (try clear ww); (first | ((fail_if_success (have _h := b3)); intro b3 ww K) | ((fail_if_success (have _h := b6)); intro b6 ww K)); (try simp [go_sem, Value.cells] at K)) | ((with_reducible refine at_alloc ?_); refine wm_alloc (v := ?_) (cs := ?_) K rfl _ rfl ?_ ?_ ?_; rotate_left; (first | (with_reducible exact zero47) | (with_reducible exact zero81)); rotate_left; exact rfl; (try clear K); (try clear ww); (first | ((fail_if_success (have _h := b3)); intro b3 ww K) | ((fail_if_success (have _h := b6)); intro b6 ww K)); (try simp [go_sem, Value.cells] at K))))
  refine bodyPost_ret (K.res rfl _ rfl At.hd (by (first | (with_reducible exact row47) | (with_reducible exact row81))) (by (solve | exact rfl | simp))) rfl ?_
  exact ⟨by rw [e1, e2], K.below⟩
def clI (i n : Int) : Int := min (max i 0) (n - 1)
theorem clamp14 (i n : Int) (w : World) (h : -1000000 ≤ n ∧ n ≤ 1000000) :
    Calls Try.prog 88 #[.int .i64 i, .int .i64 n] w fun e w' => e = .returned (.int .i64 (clI i n)) ∧ w = w' := by
  unfold clI
  obtain ⟨m, hm⟩ : ∃ m, max i 0 = m := ⟨_, rfl⟩
  obtain ⟨k, hk⟩ : ∃ k, n - 1 = k := ⟨_, rfl⟩
  rw [hm, hk]
  obtain ⟨r, hr⟩ : ∃ r, min m k = r := ⟨_, rfl⟩
  rw [hr]
  have e1 : wrap64 (n - 1) = k := w64e (by omega) (by omega) hk
  clear hk h
  go_enter Try.func88, Try.ntmps88
  go_wp2
  go_ret
  exact ⟨rfl, rfl⟩
end Go.Proofs.Yteancdipmpmjpaa
namespace Go.Proofs.Yteancdipmpmjpaa
open Go.RowKit
attribute [local irreducible] wpHeld wpTree wpList
set_option linter.unusedVariables false
theorem splok_not {W H S : Int} (hs : splok W H S = false) : ∃ (u1 u2 u3 u4 : Bool), decide (32 < W) = u1 ∧ decide (32 < H) = u2 ∧ decide (S < 32) = u3 ∧ (S % 4 != 0) = u4 ∧ (u1 || u2 || u3 || u4) = true := by
  refine ⟨_, _, _, _, rfl, rfl, rfl, rfl, ?_⟩
  unfold splok at hs
  rw [Bool.eq_iff_iff] at hs ⊢
  simp only [Bool.and_eq_true, Bool.or_eq_true, decide_eq_true_eq, Bool.false_eq_true, iff_false, iff_true, bne_iff_ne, ne_eq] at hs ⊢
  omega
set_option maxRecDepth 100000 in
theorem RSplit14_bad (W H X Y S : Int) (A : Option Addr) (n c : Nat) (w : World) (hS : 0 ≤ S) (hs : splok W H S = false) :
    Calls Try.prog 50 #[.agg #[.int .i64 W, .int .i64 H, .int .i64 X, .int .i64 Y, .int .i64 S, .slice A n c]] w fun e w' => e = .returned (.tuple #[.agg #[.int .i64 W, .int .i64 H, .int .i64 X, .int .i64 Y, .int .i64 S, .slice A n c], .int .i64 12]) ∧ Below w.heap.size w w' := by
  have K := St.start w
  obtain ⟨u1, u2, u3, u4, d1, d2, d3, d4, hu⟩ := splok_not hs
  have hm : S.tmod 4 = S % 4 := Int.tmod_eq_emod_of_nonneg hS
  obtain ⟨v, hv⟩ : ∃ v, S % 4 = v := ⟨_, rfl⟩
  rw [hv] at hm d4
  clear hs hv hS
  cases u1
  case' false => cases u2
  case' false.false => cases u3
  case' false.false.false => cases u4
  case false.false.false.false => cases hu
  all_goals
    clear hu
    go_enter Try.func50, Try.ntmps50
    go_wp2_with (first | go_big_skip | ((with_reducible refine at_load ?_); first | (refine wm_load (cs := ?_) (t := ?_) (n := ?_) K rfl _ _ rfl rfl ?_ ?_ ?_ ?_; rotate_left 2; (repeat (first | exact At.hd | refine At.tl ?_)); rotate_left; (first | (with_reducible exact row47)); (solve | exact rfl | simp)) | (refine wm_own (cs := ?_) (t := ?_) (v := ?_) K rfl _ _ rfl rfl ?_ ?_ ?_ ?_; rotate_left 2; (repeat (first | exact At.hd | refine At.tl ?_)); rotate_left; (first | exact rfl | assumption); (first | (with_reducible exact one2) | (with_reducible exact one3) | (with_reducible exact one45))) | (refine wm_cell (v := ?_) rfl _ _ rfl rfl ?_ ?_ ?_; rotate_left; (first | assumption | exact (K.below.cell (by assumption)).trans (by assumption)); (first | (with_reducible exact one2) | (with_reducible exact one3) | (with_reducible exact one45)))) | ((with_reducible refine at_store ?_); first | (refine wm_store (L' := ?_) (cs := ?_) (t := ?_) (n := ?_) K rfl _ _ _ rfl rfl rfl rfl ?_ ?_ ?_ ?_ ?_ ?_; rotate_left 3; (repeat (first | exact Put.hd | (refine Put.tl (L' := ?_) ?_; rotate_left))); rotate_left; (first | (with_reducible exact row47)); (solve | exact rfl | simp); (solve | exact rfl | simp); (solve | exact rfl | simp [Ones, Value.oneCell']); (try clear K); (try clear ww); intro ww K; (try simp [go_sem] at K)) | (refine wm_put (L' := ?_) (cs := ?_) (new := ?_) (t := ?_) K rfl _ _ _ rfl rfl rfl rfl ?_ ?_ ?_ ?_ rfl rfl ?_; rotate_left 4; (repeat (first | exact Put.hd | (refine Put.tl (L' := ?_) ?_; rotate_left))); (solve | exact Nat.le_of_ble_eq_true rfl | decide | (simp only [List.size_toArray, nums_length]; first | assumption | omega) | (simp only [List.size_toArray, nums_length, List.length_set]; first | assumption | omega) | simp | omega | (simp only [List.size_toArray, nums_length]; omega) | assumption); (solve | (simp only [List.setIfInBounds_toArray]; exact rfl) | exact nums_set _ _ _ _ | simp only [List.setIfInBounds_toArray, List.set_cons_zero] | simp only [List.setIfInBounds_toArray, List.set_cons_zero, List.set_cons_succ] | (simp only [List.setIfInBounds_toArray, List.set_cons_zero, List.set_cons_succ]; exact rfl) | exact rfl); (first | (with_reducible exact one2) | (with_reducible exact one3) | (with_reducible exact one45)); (try clear K); (try clear ww); intro ww K; (try simp [go_sem] at K))) | (first | ((with_reducible refine at_box ?_); refine wm_box K rfl _ _ rfl rfl rfl ?_; (try clear K); (try clear ww); (first | ((fail_if_success (have _h := r1)); intro r1 ww K) | ((fail_if_success (have _h := r2)); intro r2 ww K)); (try simp [go_sem, Value.cells] at K)) | ((with_reducible refine at_alloc ?_); refine wm_alloc (v := ?_) (cs := ?_) K rfl _ rfl ?_ ?_ ?_; rotate_left; (first | (with_reducible exact zero47)); rotate_left; exact rfl; (try clear K); (try clear ww); (first | ((fail_if_success (have _h := r1)); intro r1 ww K) | ((fail_if_success (have _h := r2)); intro r2 ww K)); (try simp [go_sem, Value.cells] at K))))
    refine bodyPost_ret (K.res2 rfl _ rfl At.hd (by (first | (with_reducible exact row47))) (by (solve | exact rfl | simp)) rfl) rfl ?_
    exact ⟨rfl, K.below⟩
set_option maxRecDepth 100000 in
theorem GSplit14_bad (W H X Y S : Int) (A : Option Addr) (n c : Nat) (w : World) (hS : 0 ≤ S) (hW : 0 ≤ W ∧ W ≤ 1000000) (hH : 0 ≤ H ∧ H ≤ 1000000) (hs : splok W H S = false) :
    Calls Try.prog 49 #[.agg #[.int .i64 W, .int .i64 H, .int .i64 X, .int .i64 Y, .int .i64 S, .slice A n c]] w fun e w' => e = .returned (.tuple #[.agg #[.int .i64 W, .int .i64 H, .int .i64 X, .int .i64 Y, .int .i64 S, .slice A n c], .int .i64 12]) ∧ Below w.heap.size w w' := by
  have K := St.start w
  obtain ⟨u1, u2, u3, u4, d1, d2, d3, d4, hu⟩ := splok_not hs
  have hm : S.tmod 4 = S % 4 := Int.tmod_eq_emod_of_nonneg hS
  obtain ⟨v, hv⟩ : ∃ v, S % 4 = v := ⟨_, rfl⟩
  rw [hv] at hm d4
  obtain ⟨W2, hW2⟩ : ∃ W2, 2 * W = W2 := ⟨_, rfl⟩
  obtain ⟨H2, hH2⟩ : ∃ H2, 2 * H = H2 := ⟨_, rfl⟩
  have f1 : decide (64 < W2) = u1 := by rw [← d1, decide_eq_decide]; omega
  have f2 : decide (64 < H2) = u2 := by rw [← d2, decide_eq_decide]; omega
  have e1h : Hid (wrap64 (2 * W) = W2) := Lib.hid (w64e (by omega) (by omega) hW2)
  have e2h : Hid (wrap64 (2 * H) = H2) := Lib.hid (w64e (by omega) (by omega) hH2)
  clear hs hv hS hW hH hW2 hH2 d1 d2
  have e1 := e1h.out
  have e2 := e2h.out
  cases u1
  case' false => cases u2
  case' false.false => cases u3
  case' false.false.false => cases u4
  case false.false.false.false => cases hu
  all_goals
    clear hu
    go_enter Try.func49, Try.ntmps49
    go_wp2_with (first | go_big_skip | ((with_reducible refine at_load ?_); first | (refine wm_load (cs := ?_) (t := ?_) (n := ?_) K rfl _ _ rfl rfl ?_ ?_ ?_ ?_; rotate_left 2; (repeat (first | exact At.hd | refine At.tl ?_)); rotate_left; (first | (with_reducible exact row47)); (solve | exact rfl | simp)) | (refine wm_own (cs := ?_) (t := ?_) (v := ?_) K rfl _ _ rfl rfl ?_ ?_ ?_ ?_; rotate_left 2; (repeat (first | exact At.hd | refine At.tl ?_)); rotate_left; (first | exact rfl | assumption); (first | (with_reducible exact one2) | (with_reducible exact one3) | (with_reducible exact one45))) | (refine wm_cell (v := ?_) rfl _ _ rfl rfl ?_ ?_ ?_; rotate_left; (first | assumption | exact (K.below.cell (by assumption)).trans (by assumption)); (first | (with_reducible exact one2) | (with_reducible exact one3) | (with_reducible exact one45)))) | ((with_reducible refine at_store ?_); first | (refine wm_store (L' := ?_) (cs := ?_) (t := ?_) (n := ?_) K rfl _ _ _ rfl rfl rfl rfl ?_ ?_ ?_ ?_ ?_ ?_; rotate_left 3; (repeat (first | exact Put.hd | (refine Put.tl (L' := ?_) ?_; rotate_left))); rotate_left; (first | (with_reducible exact row47)); (solve | exact rfl | simp); (solve | exact rfl | simp); (solve | exact rfl | simp [Ones, Value.oneCell']); (try clear K); (try clear ww); intro ww K; (try simp [go_sem] at K)) | (refine wm_put (L' := ?_) (cs := ?_) (new := ?_) (t := ?_) K rfl _ _ _ rfl rfl rfl rfl ?_ ?_ ?_ ?_ rfl rfl ?_; rotate_left 4; (repeat (first | exact Put.hd | (refine Put.tl (L' := ?_) ?_; rotate_left))); (solve | exact Nat.le_of_ble_eq_true rfl | decide | (simp only [List.size_toArray, nums_length]; first | assumption | omega) | (simp only [List.size_toArray, nums_length, List.length_set]; first | assumption | omega) | simp | omega | (simp only [List.size_toArray, nums_length]; omega) | assumption); (solve | (simp only [List.setIfInBounds_toArray]; exact rfl) | exact nums_set _ _ _ _ | simp only [List.setIfInBounds_toArray, List.set_cons_zero] | simp only [List.setIfInBounds_toArray, List.set_cons_zero, List.set_cons_succ] | (simp only [List.setIfInBounds_toArray, List.set_cons_zero, List.set_cons_succ]; exact rfl) | exact rfl); (first | (with_reducible exact one2) | (with_reducible exact one3) | (with_reducible exact one45)); (try clear K); (try clear ww); intro ww K; (try simp [go_sem] at K))) | (first | ((with_reducible refine at_box ?_); refine wm_box K rfl _ _ rfl rfl rfl ?_; (try clear K); (try clear ww); (first | ((fail_if_success (have _h := r1)); intro r1 ww K) | ((fail_if_success (have _h := r2)); intro r2 ww K)); (try simp [go_sem, Value.cells] at K)) | ((with_reducible refine at_alloc ?_); refine wm_alloc (v := ?_) (cs := ?_) K rfl _ rfl ?_ ?_ ?_; rotate_left; (first | (with_reducible exact zero47)); rotate_left; exact rfl; (try clear K); (try clear ww); (first | ((fail_if_success (have _h := r1)); intro r1 ww K) | ((fail_if_success (have _h := r2)); intro r2 ww K)); (try simp [go_sem, Value.cells] at K))))
    clear e1 e2
    refine bodyPost_ret (K.res2 rfl _ rfl At.hd (by (first | (with_reducible exact row47))) (by (solve | exact rfl | simp)) rfl) rfl ?_
    exact ⟨rfl, K.below⟩
end Go.Proofs.Yteancdipmpmjpaa
namespace Go.Proofs.Yteancdipmpmjpaa
open Go.RowKit
attribute [local irreducible] wpHeld wpTree wpList
set_option linter.unusedVariables false
set_option maxRecDepth 100000 in
set_option maxHeartbeats 4000000 in
theorem RBeside14 (X Y S x y : Int) (p q j : Nat) (A : Option Addr) (n c : Nat) (zs : List Int) (w : World) (h : Rd w A n (ints .i64 zs)) (hp : 1 ≤ p ∧ p ≤ 64) (hq : 1 ≤ q ∧ q ≤ 64) (hx : -1 ≤ x ∧ x ≤ 64) (hy : -1 ≤ y ∧ y ≤ 64) (hj : clI y q * p + clI x p = j) (hjn : j < n) :
    Calls Try.prog 120 #[.agg #[.int .i64 p, .int .i64 q, .int .i64 X, .int .i64 Y, .int .i64 S, .slice A n c], .int .i64 x, .int .i64 y] w fun e w' => e = .returned (.int .i64 (zs.getD j 0)) ∧ Below w.heap.size w w' := by
  have K := St.start w
  have hl : zs.length = n := by rw [← h.1, ints_len]
  obtain ⟨r0, off, rfl, hbb, hc⟩ := h.get hjn
  have hv := hc j _ (ints_get .i64 zs j (by rw [hl]; exact hjn))
  obtain ⟨z, hz⟩ : ∃ z, zs.getD j 0 = z := ⟨_, rfl⟩
  rw [hz] at hv ⊢
  clear hc hz hl h
  obtain ⟨p1, hp1⟩ : ∃ p1 : Int, (p : Int) - 1 = p1 := ⟨_, rfl⟩
  obtain ⟨q1, hq1⟩ : ∃ q1 : Int, (q : Int) - 1 = q1 := ⟨_, rfl⟩
  have e1h : Hid (wrap64 ((p : Int) - 1) = p1) := Lib.hid (w64e (by omega) (by omega) hp1)
  have e2h : Hid (wrap64 ((q : Int) - 1) = q1) := Lib.hid (w64e (by omega) (by omega) hq1)
  have d1 : decide (p1 < 0) = false := decide_eq_false (by omega)
  have d2 : decide (q1 < 0) = false := decide_eq_false (by omega)
  unfold clI at hj
  rw [hp1, hq1] at hj
  have HX : Hid (∃ i : Int, min (max x 0) p1 = i ∧ 0 ≤ i ∧ i ≤ 64 ∧ ((decide (x < 0) = true ∧ i = 0) ∨ (decide (x < 0) = false ∧ decide (p1 < x) = true ∧ i = p1) ∨ (decide (x < 0) = false ∧ decide (p1 < x) = false ∧ i = x))) := Lib.hid ⟨_, rfl, by omega, by omega, by
    rcases (by omega : x < 0 ∨ (0 ≤ x ∧ p1 < x) ∨ (0 ≤ x ∧ x ≤ p1)) with h | h | h
    · exact .inl ⟨decide_eq_true h, by omega⟩
    · exact .inr (.inl ⟨decide_eq_false (by omega), decide_eq_true h.2, by omega⟩)
    · exact .inr (.inr ⟨decide_eq_false (by omega), decide_eq_false (by omega), by omega⟩)⟩
  have HY : Hid (∃ k : Int, min (max y 0) q1 = k ∧ 0 ≤ k ∧ k ≤ 64 ∧ ((decide (y < 0) = true ∧ k = 0) ∨ (decide (y < 0) = false ∧ decide (q1 < y) = true ∧ k = q1) ∨ (decide (y < 0) = false ∧ decide (q1 < y) = false ∧ k = y))) := Lib.hid ⟨_, rfl, by omega, by omega, by
    rcases (by omega : y < 0 ∨ (0 ≤ y ∧ q1 < y) ∨ (0 ≤ y ∧ y ≤ q1)) with h | h | h
    · exact .inl ⟨decide_eq_true h, by omega⟩
    · exact .inr (.inl ⟨decide_eq_false (by omega), decide_eq_true h.2, by omega⟩)
    · exact .inr (.inr ⟨decide_eq_false (by omega), decide_eq_false (by omega), by omega⟩)⟩
  obtain ⟨i, hi, i0, i1, HX⟩ := HX.out
  obtain ⟨k, hk, k0, k1, HY⟩ := HY.out
  rw [hi, hk] at hj
  clear hi hk hp1 hq1
  obtain ⟨R, hR⟩ : ∃ R, k * (p : Int) = R := ⟨_, rfl⟩
  rw [hR] at hj
  have hR0 : 0 ≤ R := by rw [← hR]; exact Int.mul_nonneg k0 (by omega)
  have hR1 : R ≤ 4096 := by rw [← hR]; have := Int.mul_le_mul k1 (show (p : Int) ≤ 64 by omega) (by omega) (by omega); omega
  have e3h : Hid (wrap64 (k * (p : Int)) = R) := Lib.hid (w64e (by omega) (by omega) hR)
  have e4h : Hid (wrap64 (R + i) = (j : Int)) := Lib.hid (w64e (by omega) (by omega) hj)
  have e5h : k = 0 → Hid (wrap64 i = (j : Int)) := fun h => Lib.hid (w64e (by omega) (by omega) (by rw [← hj, ← hR, h]; omega))
  have e7h : i = 0 → Hid (wrap64 R = (j : Int)) := fun h => Lib.hid (w64e (by omega) (by omega) (by omega))
  have e6h : k = 0 → i = 0 → j = 0 := fun h h2 => by rw [h, Int.zero_mul] at hR; omega
  clear hj hR hR0 hR1 i0 i1 k0 k1 hx hy hp hq
  rcases HX with ⟨t1, rfl⟩ | ⟨t1, t2, rfl⟩ | ⟨t1, t2, rfl⟩ <;> rcases HY with ⟨s1, rfl⟩ | ⟨s1, s2, rfl⟩ | ⟨s1, s2, rfl⟩
  case inl.inl => 
    obtain rfl : j = 0 := e6h rfl rfl
    clear e3h e4h e5h e6h e7h
    have e1 := e1h.out
    have e2 := e2h.out
    go_enter Try.func120, Try.ntmps120
    go_wp2_with (first | go_big_skip | ((with_reducible refine at_load ?_); first | (refine wm_load (cs := ?_) (t := ?_) (n := ?_) K rfl _ _ rfl rfl ?_ ?_ ?_ ?_; rotate_left 2; (repeat (first | exact At.hd | refine At.tl ?_)); rotate_left; (first | (with_reducible exact row47)); (solve | exact rfl | simp)) | (refine wm_own (cs := ?_) (t := ?_) (v := ?_) K rfl _ _ rfl rfl ?_ ?_ ?_ ?_; rotate_left 2; (repeat (first | exact At.hd | refine At.tl ?_)); rotate_left; (first | exact rfl | assumption); (first | (with_reducible exact one2) | (with_reducible exact one3) | (with_reducible exact one45))) | (refine wm_cell (v := ?_) rfl _ _ rfl rfl ?_ ?_ ?_; rotate_left; (first | assumption | exact (K.below.cell (by assumption)).trans (by assumption)); (first | (with_reducible exact one2) | (with_reducible exact one3) | (with_reducible exact one45)))) | ((with_reducible refine at_store ?_); first | (refine wm_store (L' := ?_) (cs := ?_) (t := ?_) (n := ?_) K rfl _ _ _ rfl rfl rfl rfl ?_ ?_ ?_ ?_ ?_ ?_; rotate_left 3; (repeat (first | exact Put.hd | (refine Put.tl (L' := ?_) ?_; rotate_left))); rotate_left; (first | (with_reducible exact row47)); (solve | exact rfl | simp); (solve | exact rfl | simp); (solve | exact rfl | simp [Ones, Value.oneCell']); (try clear K); (try clear ww); intro ww K; (try simp [go_sem] at K)) | (refine wm_put (L' := ?_) (cs := ?_) (new := ?_) (t := ?_) K rfl _ _ _ rfl rfl rfl rfl ?_ ?_ ?_ ?_ rfl rfl ?_; rotate_left 4; (repeat (first | exact Put.hd | (refine Put.tl (L' := ?_) ?_; rotate_left))); (solve | exact Nat.le_of_ble_eq_true rfl | decide | (simp only [List.size_toArray, nums_length]; first | assumption | omega) | (simp only [List.size_toArray, nums_length, List.length_set]; first | assumption | omega) | simp | omega | (simp only [List.size_toArray, nums_length]; omega) | assumption); (solve | (simp only [List.setIfInBounds_toArray]; exact rfl) | exact nums_set _ _ _ _ | simp only [List.setIfInBounds_toArray, List.set_cons_zero] | simp only [List.setIfInBounds_toArray, List.set_cons_zero, List.set_cons_succ] | (simp only [List.setIfInBounds_toArray, List.set_cons_zero, List.set_cons_succ]; exact rfl) | exact rfl); (first | (with_reducible exact one2) | (with_reducible exact one3) | (with_reducible exact one45)); (try clear K); (try clear ww); intro ww K; (try simp [go_sem] at K))) | (first | ((with_reducible refine at_box ?_); refine wm_box K rfl _ _ rfl rfl rfl ?_; (try clear K); (try clear ww); ((fail_if_success (have _h := b3)); intro b3 ww K); (try simp [go_sem, Value.cells] at K)) | ((with_reducible refine at_alloc ?_); refine wm_alloc (v := ?_) (cs := ?_) K rfl _ rfl ?_ ?_ ?_; rotate_left; (first | (with_reducible exact zero47)); rotate_left; exact rfl; (try clear K); (try clear ww); ((fail_if_success (have _h := b3)); intro b3 ww K); (try simp [go_sem, Value.cells] at K))))
    go_ret
    exact ⟨rfl, K.below⟩
  case inr.inl.inl | inr.inr.inl =>
    have e5 := (e5h rfl).out
    clear e3h e4h e5h e6h e7h
    have e1 := e1h.out
    have e2 := e2h.out
    go_enter Try.func120, Try.ntmps120
    go_wp2_with (first | go_big_skip | ((with_reducible refine at_load ?_); first | (refine wm_load (cs := ?_) (t := ?_) (n := ?_) K rfl _ _ rfl rfl ?_ ?_ ?_ ?_; rotate_left 2; (repeat (first | exact At.hd | refine At.tl ?_)); rotate_left; (first | (with_reducible exact row47)); (solve | exact rfl | simp)) | (refine wm_own (cs := ?_) (t := ?_) (v := ?_) K rfl _ _ rfl rfl ?_ ?_ ?_ ?_; rotate_left 2; (repeat (first | exact At.hd | refine At.tl ?_)); rotate_left; (first | exact rfl | assumption); (first | (with_reducible exact one2) | (with_reducible exact one3) | (with_reducible exact one45))) | (refine wm_cell (v := ?_) rfl _ _ rfl rfl ?_ ?_ ?_; rotate_left; (first | assumption | exact (K.below.cell (by assumption)).trans (by assumption)); (first | (with_reducible exact one2) | (with_reducible exact one3) | (with_reducible exact one45)))) | ((with_reducible refine at_store ?_); first | (refine wm_store (L' := ?_) (cs := ?_) (t := ?_) (n := ?_) K rfl _ _ _ rfl rfl rfl rfl ?_ ?_ ?_ ?_ ?_ ?_; rotate_left 3; (repeat (first | exact Put.hd | (refine Put.tl (L' := ?_) ?_; rotate_left))); rotate_left; (first | (with_reducible exact row47)); (solve | exact rfl | simp); (solve | exact rfl | simp); (solve | exact rfl | simp [Ones, Value.oneCell']); (try clear K); (try clear ww); intro ww K; (try simp [go_sem] at K)) | (refine wm_put (L' := ?_) (cs := ?_) (new := ?_) (t := ?_) K rfl _ _ _ rfl rfl rfl rfl ?_ ?_ ?_ ?_ rfl rfl ?_; rotate_left 4; (repeat (first | exact Put.hd | (refine Put.tl (L' := ?_) ?_; rotate_left))); (solve | exact Nat.le_of_ble_eq_true rfl | decide | (simp only [List.size_toArray, nums_length]; first | assumption | omega) | (simp only [List.size_toArray, nums_length, List.length_set]; first | assumption | omega) | simp | omega | (simp only [List.size_toArray, nums_length]; omega) | assumption); (solve | (simp only [List.setIfInBounds_toArray]; exact rfl) | exact nums_set _ _ _ _ | simp only [List.setIfInBounds_toArray, List.set_cons_zero] | simp only [List.setIfInBounds_toArray, List.set_cons_zero, List.set_cons_succ] | (simp only [List.setIfInBounds_toArray, List.set_cons_zero, List.set_cons_succ]; exact rfl) | exact rfl); (first | (with_reducible exact one2) | (with_reducible exact one3) | (with_reducible exact one45)); (try clear K); (try clear ww); intro ww K; (try simp [go_sem] at K))) | (first | ((with_reducible refine at_box ?_); refine wm_box K rfl _ _ rfl rfl rfl ?_; (try clear K); (try clear ww); ((fail_if_success (have _h := b3)); intro b3 ww K); (try simp [go_sem, Value.cells] at K)) | ((with_reducible refine at_alloc ?_); refine wm_alloc (v := ?_) (cs := ?_) K rfl _ rfl ?_ ?_ ?_; rotate_left; (first | (with_reducible exact zero47)); rotate_left; exact rfl; (try clear K); (try clear ww); ((fail_if_success (have _h := b3)); intro b3 ww K); (try simp [go_sem, Value.cells] at K))))
    go_ret
    exact ⟨rfl, K.below⟩
  case inl.inr.inl | inl.inr.inr =>
    have e7 := (e7h rfl).out
    have e3 := e3h.out
    clear e3h e4h e5h e6h e7h
    have e1 := e1h.out
    have e2 := e2h.out
    go_enter Try.func120, Try.ntmps120
    go_wp2_with (first | go_big_skip | ((with_reducible refine at_load ?_); first | (refine wm_load (cs := ?_) (t := ?_) (n := ?_) K rfl _ _ rfl rfl ?_ ?_ ?_ ?_; rotate_left 2; (repeat (first | exact At.hd | refine At.tl ?_)); rotate_left; (first | (with_reducible exact row47)); (solve | exact rfl | simp)) | (refine wm_own (cs := ?_) (t := ?_) (v := ?_) K rfl _ _ rfl rfl ?_ ?_ ?_ ?_; rotate_left 2; (repeat (first | exact At.hd | refine At.tl ?_)); rotate_left; (first | exact rfl | assumption); (first | (with_reducible exact one2) | (with_reducible exact one3) | (with_reducible exact one45))) | (refine wm_cell (v := ?_) rfl _ _ rfl rfl ?_ ?_ ?_; rotate_left; (first | assumption | exact (K.below.cell (by assumption)).trans (by assumption)); (first | (with_reducible exact one2) | (with_reducible exact one3) | (with_reducible exact one45)))) | ((with_reducible refine at_store ?_); first | (refine wm_store (L' := ?_) (cs := ?_) (t := ?_) (n := ?_) K rfl _ _ _ rfl rfl rfl rfl ?_ ?_ ?_ ?_ ?_ ?_; rotate_left 3; (repeat (first | exact Put.hd | (refine Put.tl (L' := ?_) ?_; rotate_left))); rotate_left; (first | (with_reducible exact row47)); (solve | exact rfl | simp); (solve | exact rfl | simp); (solve | exact rfl | simp [Ones, Value.oneCell']); (try clear K); (try clear ww); intro ww K; (try simp [go_sem] at K)) | (refine wm_put (L' := ?_) (cs := ?_) (new := ?_) (t := ?_) K rfl _ _ _ rfl rfl rfl rfl ?_ ?_ ?_ ?_ rfl rfl ?_; rotate_left 4; (repeat (first | exact Put.hd | (refine Put.tl (L' := ?_) ?_; rotate_left))); (solve | exact Nat.le_of_ble_eq_true rfl | decide | (simp only [List.size_toArray, nums_length]; first | assumption | omega) | (simp only [List.size_toArray, nums_length, List.length_set]; first | assumption | omega) | simp | omega | (simp only [List.size_toArray, nums_length]; omega) | assumption); (solve | (simp only [List.setIfInBounds_toArray]; exact rfl) | exact nums_set _ _ _ _ | simp only [List.setIfInBounds_toArray, List.set_cons_zero] | simp only [List.setIfInBounds_toArray, List.set_cons_zero, List.set_cons_succ] | (simp only [List.setIfInBounds_toArray, List.set_cons_zero, List.set_cons_succ]; exact rfl) | exact rfl); (first | (with_reducible exact one2) | (with_reducible exact one3) | (with_reducible exact one45)); (try clear K); (try clear ww); intro ww K; (try simp [go_sem] at K))) | (first | ((with_reducible refine at_box ?_); refine wm_box K rfl _ _ rfl rfl rfl ?_; (try clear K); (try clear ww); ((fail_if_success (have _h := b3)); intro b3 ww K); (try simp [go_sem, Value.cells] at K)) | ((with_reducible refine at_alloc ?_); refine wm_alloc (v := ?_) (cs := ?_) K rfl _ rfl ?_ ?_ ?_; rotate_left; (first | (with_reducible exact zero47)); rotate_left; exact rfl; (try clear K); (try clear ww); ((fail_if_success (have _h := b3)); intro b3 ww K); (try simp [go_sem, Value.cells] at K))))
    go_ret
    exact ⟨rfl, K.below⟩
  all_goals
    have e3 := e3h.out
    have e4 := e4h.out
    clear e3h e4h e5h e6h e7h
    have e1 := e1h.out
    have e2 := e2h.out
    go_enter Try.func120, Try.ntmps120
    go_wp2_with (first | go_big_skip | ((with_reducible refine at_load ?_); first | (refine wm_load (cs := ?_) (t := ?_) (n := ?_) K rfl _ _ rfl rfl ?_ ?_ ?_ ?_; rotate_left 2; (repeat (first | exact At.hd | refine At.tl ?_)); rotate_left; (first | (with_reducible exact row47)); (solve | exact rfl | simp)) | (refine wm_own (cs := ?_) (t := ?_) (v := ?_) K rfl _ _ rfl rfl ?_ ?_ ?_ ?_; rotate_left 2; (repeat (first | exact At.hd | refine At.tl ?_)); rotate_left; (first | exact rfl | assumption); (first | (with_reducible exact one2) | (with_reducible exact one3) | (with_reducible exact one45))) | (refine wm_cell (v := ?_) rfl _ _ rfl rfl ?_ ?_ ?_; rotate_left; (first | assumption | exact (K.below.cell (by assumption)).trans (by assumption)); (first | (with_reducible exact one2) | (with_reducible exact one3) | (with_reducible exact one45)))) | ((with_reducible refine at_store ?_); first | (refine wm_store (L' := ?_) (cs := ?_) (t := ?_) (n := ?_) K rfl _ _ _ rfl rfl rfl rfl ?_ ?_ ?_ ?_ ?_ ?_; rotate_left 3; (repeat (first | exact Put.hd | (refine Put.tl (L' := ?_) ?_; rotate_left))); rotate_left; (first | (with_reducible exact row47)); (solve | exact rfl | simp); (solve | exact rfl | simp); (solve | exact rfl | simp [Ones, Value.oneCell']); (try clear K); (try clear ww); intro ww K; (try simp [go_sem] at K)) | (refine wm_put (L' := ?_) (cs := ?_) (new := ?_) (t := ?_) K rfl _ _ _ rfl rfl rfl rfl ?_ ?_ ?_ ?_ rfl rfl ?_; rotate_left 4; (repeat (first | exact Put.hd | (refine Put.tl (L' := ?_) ?_; rotate_left))); (solve | exact Nat.le_of_ble_eq_true rfl | decide | (simp only [List.size_toArray, nums_length]; first | assumption | omega) | (simp only [List.size_toArray, nums_length, List.length_set]; first | assumption | omega) | simp | omega | (simp only [List.size_toArray, nums_length]; omega) | assumption); (solve | (simp only [List.setIfInBounds_toArray]; exact rfl) | exact nums_set _ _ _ _ | simp only [List.setIfInBounds_toArray, List.set_cons_zero] | simp only [List.setIfInBounds_toArray, List.set_cons_zero, List.set_cons_succ] | (simp only [List.setIfInBounds_toArray, List.set_cons_zero, List.set_cons_succ]; exact rfl) | exact rfl); (first | (with_reducible exact one2) | (with_reducible exact one3) | (with_reducible exact one45)); (try clear K); (try clear ww); intro ww K; (try simp [go_sem] at K))) | (first | ((with_reducible refine at_box ?_); refine wm_box K rfl _ _ rfl rfl rfl ?_; (try clear K); (try clear ww); ((fail_if_success (have _h := b3)); intro b3 ww K); (try simp [go_sem, Value.cells] at K)) | ((with_reducible refine at_alloc ?_); refine wm_alloc (v := ?_) (cs := ?_) K rfl _ rfl ?_ ?_ ?_; rotate_left; (first | (with_reducible exact zero47)); rotate_left; exact rfl; (try clear K); (try clear ww); ((fail_if_success (have _h := b3)); intro b3 ww K); (try simp [go_sem, Value.cells] at K))))
    go_ret
    exact ⟨rfl, K.below⟩
set_option maxRecDepth 100000 in
set_option maxHeartbeats 4000000 in
theorem RPass14 (X Y S qq dx dy : Int) (p q : Nat) (L R : Nat → Nat) (A : Option Addr) (n c : Nat) (zs : List Int) (w : World) (h : Rd w A n (ints .i64 zs)) (hb : ∀ z ∈ zs, 0 ≤ z ∧ z ≤ 1073741824) (hn : q * p = n) (hp : 1 ≤ p ∧ p ≤ 64) (hq : 1 ≤ q ∧ q ≤ 64) (hqq : 0 ≤ qq ∧ qq ≤ 85) (hdx : 0 ≤ dx ∧ dx ≤ 1) (hdy : 0 ≤ dy ∧ dy ≤ 1)
    (hLR : ∀ k, k < n → (clI (((k / p : Nat) : Int) - dy) q * p + clI (((k % p : Nat) : Int) - dx) p = (L k : Int) ∧ L k < n) ∧ (clI (((k / p : Nat) : Int) + dy) q * p + clI (((k % p : Nat) : Int) + dx) p = (R k : Int) ∧ R k < n)) :
    Calls Try.prog 90 #[.agg #[.int .i64 p, .int .i64 q, .int .i64 X, .int .i64 Y, .int .i64 S, .slice A n c], .int .i64 qq, .int .i64 dx, .int .i64 dy] w fun e w' => ∃ A2 c2, e = .returned (.agg #[.int .i64 p, .int .i64 q, .int .i64 X, .int .i64 Y, .int .i64 S, .slice A2 n c2]) ∧ (Rd w' A2 n (ints .i64 (spr14 n qq L R zs)) ∧ Nw w.heap.size A2) ∧ Below w.heap.size w w' := by
  have K := St.start w
  have hl : zs.length = n := by rw [← h.1, ints_len]
  have hn4 : n ≤ 4096 := by
    have := Nat.mul_le_mul hq.2 hp.2
    omega
  have HR := Lib.hid h
  have HL := Lib.hid hl
  have HZ := Lib.hid hb
  have HN := Lib.hid (And.intro hn (And.intro hp (And.intro hq (And.intro hqq (And.intro hdx (And.intro hdy hn4))))))
  have HLR := Lib.hid hLR
  obtain ⟨T, hT⟩ : ∃ T, spr14 n qq L R zs = T := ⟨_, rfl⟩
  have HTE := Lib.hid hT
  have HTL : Hid (T.length = n) := Lib.hid (by rw [← hT]; exact spr_len _ _ _ _ _)
  have HTG : Hid (∀ k, k < n → T.take (k + 1) = T.take k ++ [sprv qq L R zs k]) := Lib.hid (fun k hk => by rw [← hT]; exact gen_snoc _ hk)
  clear h hl hb hn hp hq hqq hdx hdy hLR hT hn4
  go_enter Try.func90, Try.ntmps90
  go_wp2_with (first | go_big_skip | ((with_reducible refine at_load ?_); first | (refine wm_load (cs := ?_) (t := ?_) (n := ?_) K rfl _ _ rfl rfl ?_ ?_ ?_ ?_; rotate_left 2; (repeat (first | exact At.hd | refine At.tl ?_)); rotate_left; (first | (with_reducible exact row47)); (solve | exact rfl | simp)) | (refine wm_own (cs := ?_) (t := ?_) (v := ?_) K rfl _ _ rfl rfl ?_ ?_ ?_ ?_; rotate_left 2; (repeat (first | exact At.hd | refine At.tl ?_)); rotate_left; (first | exact rfl | assumption); (first | (with_reducible exact one2) | (with_reducible exact one3) | (with_reducible exact one45))) | (refine wm_cell (v := ?_) rfl _ _ rfl rfl ?_ ?_ ?_; rotate_left; (first | assumption | exact (K.below.cell (by assumption)).trans (by assumption)); (first | (with_reducible exact one2) | (with_reducible exact one3) | (with_reducible exact one45)))) | ((with_reducible refine at_store ?_); first | (refine wm_store (L' := ?_) (cs := ?_) (t := ?_) (n := ?_) K rfl _ _ _ rfl rfl rfl rfl ?_ ?_ ?_ ?_ ?_ ?_; rotate_left 3; (repeat (first | exact Put.hd | (refine Put.tl (L' := ?_) ?_; rotate_left))); rotate_left; (first | (with_reducible exact row47)); (solve | exact rfl | simp); (solve | exact rfl | simp); (solve | exact rfl | simp [Ones, Value.oneCell']); (try clear K); (try clear ww); intro ww K; (try simp [go_sem] at K)) | (refine wm_put (L' := ?_) (cs := ?_) (new := ?_) (t := ?_) K rfl _ _ _ rfl rfl rfl rfl ?_ ?_ ?_ ?_ rfl rfl ?_; rotate_left 4; (repeat (first | exact Put.hd | (refine Put.tl (L' := ?_) ?_; rotate_left))); (solve | exact Nat.le_of_ble_eq_true rfl | decide | (simp only [List.size_toArray, nums_length]; first | assumption | omega) | (simp only [List.size_toArray, nums_length, List.length_set]; first | assumption | omega) | simp | omega | (simp only [List.size_toArray, nums_length]; omega) | assumption); (solve | (simp only [List.setIfInBounds_toArray]; exact rfl) | exact nums_set _ _ _ _ | simp only [List.setIfInBounds_toArray, List.set_cons_zero] | simp only [List.setIfInBounds_toArray, List.set_cons_zero, List.set_cons_succ] | (simp only [List.setIfInBounds_toArray, List.set_cons_zero, List.set_cons_succ]; exact rfl) | exact rfl); (first | (with_reducible exact one2) | (with_reducible exact one3) | (with_reducible exact one45)); (try clear K); (try clear ww); intro ww K; (try simp [go_sem] at K))) | (first | ((with_reducible refine at_box ?_); refine wm_box K rfl _ _ rfl rfl rfl ?_; (try clear K); (try clear ww); (first | ((fail_if_success (have _h := b4)); intro b4 ww K) | ((fail_if_success (have _h := b8)); intro b8 ww K)); (try simp [go_sem, Value.cells] at K)) | ((with_reducible refine at_alloc ?_); refine wm_alloc (v := ?_) (cs := ?_) K rfl _ rfl ?_ ?_ ?_; rotate_left; (first | (with_reducible exact zero47)); rotate_left; exact rfl; (try clear K); (try clear ww); (first | ((fail_if_success (have _h := b4)); intro b4 ww K) | ((fail_if_success (have _h := b8)); intro b8 ww K)); (try simp [go_sem, Value.cells] at K))))
  go_loopw [9, 10] (fun v i wr => ∃ (k : Nat) (Lo : List Blk), k ≤ n ∧ i = .int .i64 k ∧ OwnT v 2 (ints .i64 (T.take k)) Lo ∧ St w.heap.size w ((b8, #[.int .i64 0, .int .i64 0, .int .i64 0, .int .i64 0, .int .i64 0, .slice none 0 0], 47) :: (b4, #[.int .i64 p, .int .i64 q, .int .i64 X, .int .i64 Y, .int .i64 S, .slice A n c], 47) :: Lo) Any wr) (fun _ i _ => n - (intOf i).toNat)
  case atStart => exact ⟨0, _, Nat.zero_le _, rfl, OwnT.nil _, K⟩
  case round =>
    clear K
    obtain ⟨i, Lo, hi, rfl, hO, K⟩ := hrel
    by_cases hlt : i < n
    · have ht : decide ((i : Int) < n) = true := decide_eq_true (by omega)
      obtain ⟨hn, hp, hq, hqq, hdx, hdy, hn4⟩ := HN.out
      obtain ⟨⟨hla, hlb⟩, hra, hrb⟩ := HLR.out i hlt
      obtain ⟨e, he⟩ : ∃ e, i % p = e := ⟨_, rfl⟩
      obtain ⟨d, hd⟩ : ∃ d, i / p = d := ⟨_, rfl⟩
      have he2 : e < p := by rw [← he]; exact Nat.mod_lt _ (by omega)
      have hd2 : d < q := by rw [← hd]; exact Nat.div_lt_of_lt_mul (by rw [Nat.mul_comm, hn]; exact hlt)
      have c1h : Hid ((i : Int).tmod (p : Int) = (e : Int)) := Lib.hid (by rw [Int.tmod_eq_emod_of_nonneg (by omega), ← Int.natCast_emod, he])
      have c2h : Hid (wrap64 ((i : Int) / (p : Int)) = (d : Int)) := Lib.hid (by rw [← Int.natCast_ediv, hd]; exact w64 (by omega) (by omega))
      have c0 : (p = 0) = False := by simp; omega
      rw [he, hd] at hla hra
      obtain ⟨ea, hea⟩ : ∃ ea, (e : Int) - dx = ea := ⟨_, rfl⟩
      obtain ⟨da, hda⟩ : ∃ da, (d : Int) - dy = da := ⟨_, rfl⟩
      obtain ⟨eb, heb⟩ : ∃ eb, (e : Int) + dx = eb := ⟨_, rfl⟩
      obtain ⟨db, hdb⟩ : ∃ db, (d : Int) + dy = db := ⟨_, rfl⟩
      rw [hea, hda] at hla
      rw [heb, hdb] at hra
      have BA := Lib.hid (fun w (h : Rd w A n (ints .i64 zs)) => RBeside14 X Y S ea da p q (L i) A n c zs w h hp hq (by omega) (by omega) hla hlb)
      have BB := Lib.hid (fun w (h : Rd w A n (ints .i64 zs)) => RBeside14 X Y S eb db p q (R i) A n c zs w h hp hq (by omega) (by omega) hra hrb)
      have g := getD_all (P := fun z => 0 ≤ z ∧ z ≤ 1073741824) (by omega) HZ.out
      have hbd := sprn_bd hqq (g (L i)) (g i) (g (R i))
      have hsn0 := HTG.out i hlt
      unfold sprv sprn at hsn0
      dsimp only at hsn0
      obtain ⟨b, off, rfl, hbb, hc⟩ := HR.out.get hlt
      have hil : i < zs.length := by rw [HL.out]; exact hlt
      have hv := hc i _ (ints_get .i64 zs i hil)
      clear hla hlb hra hrb
      generalize zs.getD (L i) 0 = z1 at *
      generalize zs.getD (R i) 0 = z2 at *
      generalize zs.getD i 0 = z0 at *
      obtain ⟨t2, ht2⟩ : ∃ t2, 2 * qq = t2 := ⟨_, rfl⟩
      rw [ht2] at hbd hsn0
      obtain ⟨t3, ht3⟩ : ∃ t3, 256 - t2 = t3 := ⟨_, rfl⟩
      rw [ht3] at hbd hsn0
      obtain ⟨m1, hm1⟩ : ∃ m1, qq * z1 = m1 := ⟨_, rfl⟩
      obtain ⟨m2, hm2⟩ : ∃ m2, t3 * z0 = m2 := ⟨_, rfl⟩
      obtain ⟨m3, hm3⟩ : ∃ m3, qq * z2 = m3 := ⟨_, rfl⟩
      rw [hm1, hm2, hm3] at hbd hsn0
      obtain ⟨s1, hs1⟩ : ∃ s1, m1 + m2 = s1 := ⟨_, rfl⟩
      rw [hs1] at hbd hsn0
      obtain ⟨s2, hs2⟩ : ∃ s2, s1 + m3 = s2 := ⟨_, rfl⟩
      rw [hs2] at hbd hsn0
      obtain ⟨v0, hv0⟩ : ∃ v0, s2 / 256 = v0 := ⟨_, rfl⟩
      rw [hv0] at hbd hsn0
      have f1h : Hid (IntKind.i64.wrap ((e : Int) - dx) = ea) := Lib.hid ((IntWalk.i64_in _ (by omega)).trans hea)
      have f2h : Hid (IntKind.i64.wrap ((d : Int) - dy) = da) := Lib.hid ((IntWalk.i64_in _ (by omega)).trans hda)
      have f3h : Hid (IntKind.i64.wrap ((e : Int) + dx) = eb) := Lib.hid ((IntWalk.i64_in _ (by omega)).trans heb)
      have f4h : Hid (IntKind.i64.wrap ((d : Int) + dy) = db) := Lib.hid ((IntWalk.i64_in _ (by omega)).trans hdb)
      have f5h : Hid (IntKind.i64.wrap (2 * qq) = t2) := Lib.hid ((IntWalk.i64_in _ (by omega)).trans ht2)
      have f6h : Hid (IntKind.i64.wrap (256 - t2) = t3) := Lib.hid ((IntWalk.i64_in _ (by omega)).trans ht3)
      have f7h : Hid (IntKind.i64.wrap (qq * z1) = m1) := Lib.hid ((IntWalk.i64_in _ (by omega)).trans hm1)
      have f8h : Hid (IntKind.i64.wrap (t3 * z0) = m2) := Lib.hid ((IntWalk.i64_in _ (by omega)).trans hm2)
      have f9h : Hid (IntKind.i64.wrap (qq * z2) = m3) := Lib.hid ((IntWalk.i64_in _ (by omega)).trans hm3)
      have f10h : Hid (IntKind.i64.wrap (m1 + m2) = s1) := Lib.hid ((IntWalk.i64_in _ (by omega)).trans hs1)
      have f11h : Hid (IntKind.i64.wrap (s1 + m3) = s2) := Lib.hid ((IntWalk.i64_in _ (by omega)).trans hs2)
      have f12h : Hid (s2.tdiv 256 = v0) := Lib.hid (by rw [Int.tdiv_eq_ediv_of_nonneg (by omega)]; exact hv0)
      have f13h : Hid (IntKind.i64.wrap v0 = v0) := Lib.hid (IntWalk.i64_in _ (by omega))
      have hsn := Lib.hid hsn0
      have hb1 : ((ints .i64 (T.take i)).length + 1) * 8 ≤ 140737488355328 := by rw [ints_len, List.length_take]; omega
      have hb2 : (ints .i64 (T.take i)).length + 1 ≤ maxLen := by rw [ints_len, List.length_take]; unfold maxLen; omega
      clear hn hp hq hqq hdx hdy he hd he2 hd2 hea heb hda hdb g hbd hsn0 hc hil ht2 ht3 hm1 hm2 hm3 hs1 hs2 hv0
      have c1 := c1h.out
      have c2 := c2h.out
      go_wp2_with (first | go_big_skip | ((with_reducible refine at_load ?_); first | (refine wm_load (cs := ?_) (t := ?_) (n := ?_) K rfl _ _ rfl rfl ?_ ?_ ?_ ?_; rotate_left 2; (repeat (first | exact At.hd | refine At.tl ?_)); rotate_left; (first | (with_reducible exact row47)); (solve | exact rfl | simp)) | (refine wm_own (cs := ?_) (t := ?_) (v := ?_) K rfl _ _ rfl rfl ?_ ?_ ?_ ?_; rotate_left 2; (repeat (first | exact At.hd | refine At.tl ?_)); rotate_left; (first | exact rfl | assumption); (first | (with_reducible exact one2) | (with_reducible exact one3) | (with_reducible exact one45))) | (refine wm_cell (v := ?_) rfl _ _ rfl rfl ?_ ?_ ?_; rotate_left; (first | assumption | exact (K.below.cell (by assumption)).trans (by assumption)); (first | (with_reducible exact one2) | (with_reducible exact one3) | (with_reducible exact one45)))) | ((with_reducible refine at_store ?_); first | (refine wm_store (L' := ?_) (cs := ?_) (t := ?_) (n := ?_) K rfl _ _ _ rfl rfl rfl rfl ?_ ?_ ?_ ?_ ?_ ?_; rotate_left 3; (repeat (first | exact Put.hd | (refine Put.tl (L' := ?_) ?_; rotate_left))); rotate_left; (first | (with_reducible exact row47)); (solve | exact rfl | simp); (solve | exact rfl | simp); (solve | exact rfl | simp [Ones, Value.oneCell']); (try clear K); (try clear ww); intro ww K; (try simp [go_sem] at K)) | (refine wm_put (L' := ?_) (cs := ?_) (new := ?_) (t := ?_) K rfl _ _ _ rfl rfl rfl rfl ?_ ?_ ?_ ?_ rfl rfl ?_; rotate_left 4; (repeat (first | exact Put.hd | (refine Put.tl (L' := ?_) ?_; rotate_left))); (solve | exact Nat.le_of_ble_eq_true rfl | decide | (simp only [List.size_toArray, nums_length]; first | assumption | omega) | (simp only [List.size_toArray, nums_length, List.length_set]; first | assumption | omega) | simp | omega | (simp only [List.size_toArray, nums_length]; omega) | assumption); (solve | (simp only [List.setIfInBounds_toArray]; exact rfl) | exact nums_set _ _ _ _ | simp only [List.setIfInBounds_toArray, List.set_cons_zero] | simp only [List.setIfInBounds_toArray, List.set_cons_zero, List.set_cons_succ] | (simp only [List.setIfInBounds_toArray, List.set_cons_zero, List.set_cons_succ]; exact rfl) | exact rfl); (first | (with_reducible exact one2) | (with_reducible exact one3) | (with_reducible exact one45)); (try clear K); (try clear ww); intro ww K; (try simp [go_sem] at K))) | (first | ((with_reducible refine at_box ?_); refine wm_box K rfl _ _ rfl rfl rfl ?_; (try clear K); (try clear ww); ((fail_if_success (have _h := b99)); intro b99 ww K); (try simp [go_sem, Value.cells] at K)) | ((with_reducible refine at_alloc ?_); refine wm_alloc (v := ?_) (cs := ?_) K rfl _ rfl ?_ ?_ ?_; rotate_left; (first | (with_reducible exact zero47)); rotate_left; exact rfl; (try clear K); (try clear ww); ((fail_if_success (have _h := b99)); intro b99 ww K); (try simp [go_sem, Value.cells] at K))))
      rw [c2]
      clear c1 c2 c0
      have f1 := f1h.out
      have f2 := f2h.out
      have f3 := f3h.out
      have f4 := f4h.out
      have f5 := f5h.out
      have f6 := f6h.out
      have f7 := f7h.out
      have f8 := f8h.out
      have f9 := f9h.out
      have f10 := f10h.out
      have f11 := f11h.out
      have f12 := f12h.out
      have f13 := f13h.out
      refine wm_held _ [(true, 0), (true, 1), (true, 2), (true, 3), (true, 4), (true, 5), (true, 6), (true, 7), (true, 8), (true, 11), (true, 12), (true, 13), (true, 14), (true, 15), (true, 16), (true, 17), (true, 18), (true, 19), (true, 21), (true, 22), (true, 23), (true, 24), (true, 25), (true, 26), (true, 27), (true, 28), (false, 9), (true, 10), (true, 20), (false, 29), (true, 30), (true, 31), (true, 32), (false, 33), (false, 34), (true, 35)] K (List.Sublist.cons_cons _ (List.Sublist.cons_cons _ (List.nil_sublist _))) (by kernel_rfl) (by kernel_rfl) ?_; (try clear K); (try clear ww); intro ww K; (try simp [go_sem] at K); simp only [pick, List.getElem?_toArray, List.getElem?_cons_succ, List.getElem?_cons_zero]
      repeat (first | ((with_reducible refine ht_load ?_); first | (refine hm_load (cs := ?_) (t := ?_) (n := ?_) rfl _ _ rfl rfl ?_ ?_ ?_ ?_; rotate_left 2; (repeat (first | exact At.hd | refine At.tl ?_)); rotate_left; (first | (with_reducible exact row47)); (solve | exact rfl | simp)) | (refine hm_own (cs := ?_) (t := ?_) (v := ?_) rfl _ _ rfl rfl ?_ ?_ ?_ ?_; rotate_left 2; (repeat (first | exact At.hd | refine At.tl ?_)); rotate_left; (first | exact rfl | assumption); (first | (with_reducible exact one2) | (with_reducible exact one3) | (with_reducible exact one45))) | (refine hm_cell (v := ?_) rfl _ _ rfl rfl (fun ww K => ?_) ?_ ?_; rotate_left; (first | assumption | exact (K.below.cell (by assumption)).trans (by assumption)); (first | (with_reducible exact one2) | (with_reducible exact one3) | (with_reducible exact one45)))) | (refine held_take (fun K' hK' => ?_); go_simp; first | (refine hK' _ ?_; clear hK' K') | (apply Exists.intro; refine ⟨?_, hK' _ ?_⟩; (intro _ _; rfl); clear hK' K')) | ((with_reducible refine ht_store ?_); first | (refine hm_store (L' := ?_) (cs := ?_) (t := ?_) (n := ?_) K rfl _ _ _ rfl rfl rfl rfl ?_ ?_ ?_ ?_ ?_ ?_; rotate_left 3; (repeat (first | exact Put.hd | (refine Put.tl (L' := ?_) ?_; rotate_left))); rotate_left; (first | (with_reducible exact row47)); (solve | exact rfl | simp); (solve | exact rfl | simp); (solve | exact rfl | simp [Ones, Value.oneCell']); (try clear K); (try clear ww); intro ww K; (try simp [go_sem] at K); refine ⟨(by first | exact (K).sub (List.Sublist.cons_cons _ (List.Sublist.cons_cons _ (List.nil_sublist _))) | exact (K.weak fun _ h => h.2).sub (List.Sublist.cons_cons _ (List.Sublist.cons_cons _ (List.nil_sublist _))) | exact (K.weak fun _ h => h.2.2).sub (List.Sublist.cons_cons _ (List.Sublist.cons_cons _ (List.nil_sublist _))) | exact (K.weak fun _ h => h.2.2.2).sub (List.Sublist.cons_cons _ (List.Sublist.cons_cons _ (List.nil_sublist _))) | exact (K.weak fun _ h => h.2.2.2.2).sub (List.Sublist.cons_cons _ (List.Sublist.cons_cons _ (List.nil_sublist _))) | exact (K.weak fun _ h => h.2.2.2.2.2).sub (List.Sublist.cons_cons _ (List.Sublist.cons_cons _ (List.nil_sublist _)))), ?_⟩) | (refine hm_put (L' := ?_) (cs := ?_) (new := ?_) (t := ?_) K rfl _ _ _ rfl rfl rfl rfl ?_ ?_ ?_ ?_ rfl rfl ?_; rotate_left 4; (repeat (first | exact Put.hd | (refine Put.tl (L' := ?_) ?_; rotate_left))); (solve | exact Nat.le_of_ble_eq_true rfl | decide | (simp only [List.size_toArray, nums_length]; first | assumption | omega) | (simp only [List.size_toArray, nums_length, List.length_set]; first | assumption | omega) | simp | omega | (simp only [List.size_toArray, nums_length]; omega) | assumption); (solve | (simp only [List.setIfInBounds_toArray]; exact rfl) | exact nums_set _ _ _ _ | simp only [List.setIfInBounds_toArray, List.set_cons_zero] | simp only [List.setIfInBounds_toArray, List.set_cons_zero, List.set_cons_succ] | (simp only [List.setIfInBounds_toArray, List.set_cons_zero, List.set_cons_succ]; exact rfl) | exact rfl); (first | (with_reducible exact one2) | (with_reducible exact one3) | (with_reducible exact one45)); (try clear K); (try clear ww); intro ww K; (try simp [go_sem] at K); refine ⟨(by first | exact (K).sub (List.Sublist.cons_cons _ (List.Sublist.cons_cons _ (List.nil_sublist _))) | exact (K.weak fun _ h => h.2).sub (List.Sublist.cons_cons _ (List.Sublist.cons_cons _ (List.nil_sublist _))) | exact (K.weak fun _ h => h.2.2).sub (List.Sublist.cons_cons _ (List.Sublist.cons_cons _ (List.nil_sublist _))) | exact (K.weak fun _ h => h.2.2.2).sub (List.Sublist.cons_cons _ (List.Sublist.cons_cons _ (List.nil_sublist _))) | exact (K.weak fun _ h => h.2.2.2.2).sub (List.Sublist.cons_cons _ (List.Sublist.cons_cons _ (List.nil_sublist _))) | exact (K.weak fun _ h => h.2.2.2.2.2).sub (List.Sublist.cons_cons _ (List.Sublist.cons_cons _ (List.nil_sublist _)))), ?_⟩)) | (refine held_do (fun K' hK' => ?_); go_simp; go_at_call 120; (with_reducible refine (BA.out _ (HR.out.below K.below)).mono ?_); rintro e w2 ⟨rfl, k1⟩; replace K := K.step k1; clear k1; (try clear ww); revert w2; intro ww K; (try dsimp only); refine hK' _ _ (by first | exact (K).sub (List.Sublist.cons_cons _ (List.Sublist.cons_cons _ (List.nil_sublist _))) | exact (K.weak fun _ h => h.2).sub (List.Sublist.cons_cons _ (List.Sublist.cons_cons _ (List.nil_sublist _))) | exact (K.weak fun _ h => h.2.2).sub (List.Sublist.cons_cons _ (List.Sublist.cons_cons _ (List.nil_sublist _))) | exact (K.weak fun _ h => h.2.2.2).sub (List.Sublist.cons_cons _ (List.Sublist.cons_cons _ (List.nil_sublist _))) | exact (K.weak fun _ h => h.2.2.2.2).sub (List.Sublist.cons_cons _ (List.Sublist.cons_cons _ (List.nil_sublist _))) | exact (K.weak fun _ h => h.2.2.2.2.2).sub (List.Sublist.cons_cons _ (List.Sublist.cons_cons _ (List.nil_sublist _)))) ?_; clear hK' K') | (refine held_do (fun K' hK' => ?_); go_simp; go_at_call 120; (with_reducible refine (BB.out _ (HR.out.below K.below)).mono ?_); rintro e w2 ⟨rfl, k1⟩; replace K := K.step k1; clear k1; (try clear ww); revert w2; intro ww K; (try dsimp only); refine hK' _ _ (by first | exact (K).sub (List.Sublist.cons_cons _ (List.Sublist.cons_cons _ (List.nil_sublist _))) | exact (K.weak fun _ h => h.2).sub (List.Sublist.cons_cons _ (List.Sublist.cons_cons _ (List.nil_sublist _))) | exact (K.weak fun _ h => h.2.2).sub (List.Sublist.cons_cons _ (List.Sublist.cons_cons _ (List.nil_sublist _))) | exact (K.weak fun _ h => h.2.2.2).sub (List.Sublist.cons_cons _ (List.Sublist.cons_cons _ (List.nil_sublist _))) | exact (K.weak fun _ h => h.2.2.2.2).sub (List.Sublist.cons_cons _ (List.Sublist.cons_cons _ (List.nil_sublist _))) | exact (K.weak fun _ h => h.2.2.2.2.2).sub (List.Sublist.cons_cons _ (List.Sublist.cons_cons _ (List.nil_sublist _)))) ?_; clear hK' K') | ((with_reducible refine ht_bsl ?_); refine held_list rfl ?_; refine wm_one K rfl _ _ rfl Try.underlying45 num2 rfl ?_; intro bb ww2 K2; (try simp [go_sem] at K2); refine wl_nil ⟨(by first | exact (K2.tail).sub (List.Sublist.cons_cons _ (List.Sublist.cons_cons _ (List.nil_sublist _))) | exact (K2.tail.weak fun _ h => h.2).sub (List.Sublist.cons_cons _ (List.Sublist.cons_cons _ (List.nil_sublist _))) | exact (K2.tail.weak fun _ h => h.2.2).sub (List.Sublist.cons_cons _ (List.Sublist.cons_cons _ (List.nil_sublist _))) | exact (K2.tail.weak fun _ h => h.2.2.2).sub (List.Sublist.cons_cons _ (List.Sublist.cons_cons _ (List.nil_sublist _))) | exact (K2.tail.weak fun _ h => h.2.2.2.2).sub (List.Sublist.cons_cons _ (List.Sublist.cons_cons _ (List.nil_sublist _))) | exact (K2.tail.weak fun _ h => h.2.2.2.2.2).sub (List.Sublist.cons_cons _ (List.Sublist.cons_cons _ (List.nil_sublist _)))), ?_⟩; replace K := K2; clear K2; (try clear ww); revert ww2; intro ww K) | ((with_reducible refine ht_app ?_); refine held_list rfl ?_; refine wm_appT (L0 := ?_) K ?_ rfl _ _ _ rfl Try.underlying45 num2 rfl hO rfl rfl (by first | assumption | omega) (by first | assumption | (unfold maxLen; omega)) ?_; rotate_left; (repeat (first | exact Tl.nil | (refine Tl.cons (L0 := ?_) ?_; rotate_left))); intro v ww2 Lo2 hO2 K2; obtain ⟨_, _, _, rfl, _⟩ := hO2.val; (try simp only [List.cons_append, List.nil_append] at K2); refine wl_nil ⟨(by first | exact (K2).sub (List.Sublist.cons_cons _ (List.Sublist.cons_cons _ (List.nil_sublist _))) | exact (K2.weak fun _ h => h.2).sub (List.Sublist.cons_cons _ (List.Sublist.cons_cons _ (List.nil_sublist _))) | exact (K2.weak fun _ h => h.2.2).sub (List.Sublist.cons_cons _ (List.Sublist.cons_cons _ (List.nil_sublist _))) | exact (K2.weak fun _ h => h.2.2.2).sub (List.Sublist.cons_cons _ (List.Sublist.cons_cons _ (List.nil_sublist _))) | exact (K2.weak fun _ h => h.2.2.2.2).sub (List.Sublist.cons_cons _ (List.Sublist.cons_cons _ (List.nil_sublist _))) | exact (K2.weak fun _ h => h.2.2.2.2.2).sub (List.Sublist.cons_cons _ (List.Sublist.cons_cons _ (List.nil_sublist _)))), ?_⟩; replace K := K2; replace hO := hO2; clear K2 hO2; (try clear ww); revert ww2; intro ww K))
      refine held_nil ?_
      clear f1 f2 f3 f4 f5 f6 f7 f8 f9 f10 f11 f12 f13
      go_wp2_with fail
      exact ⟨⟨i + 1, _, by omega, by go_num, by rw [hsn.out, ints_app]; exact hO, K⟩, by simp [intOf]; omega⟩
    · obtain rfl : n = i := by omega
      have ht : decide ((n : Int) < n) = false := decide_eq_false (by omega)
      have hz : T.take n = T := List.take_of_length_le (by rw [HTL.out]; omega)
      rw [hz] at hO
      obtain ⟨A3, c3, rfl, hc1, hc2, hA, K2⟩ := hO.fix (L0 := [(b8, #[.int .i64 0, .int .i64 0, .int .i64 0, .int .i64 0, .int .i64 0, .slice none 0 0], 47), (b4, #[.int .i64 p, .int .i64 q, .int .i64 X, .int .i64 Y, .int .i64 S, .slice A n c], 47)]) K
      have hlen : (ints .i64 T).length = n := by rw [ints_len, HTL.out]
      rw [hlen] at K2 ⊢
      clear K hO hz hc1 hc2 hlen
      replace K := K2
      clear K2
      have HA := Lib.hid hA
      clear hA
      have WI := Lib.hid (fun w => With14 p q X Y S A A3 n c n c3 w)
      revert wr
      intro ww K
      go_wp2_with (first | go_big_skip | ((with_reducible refine at_load ?_); first | (refine wm_load (cs := ?_) (t := ?_) (n := ?_) K rfl _ _ rfl rfl ?_ ?_ ?_ ?_; rotate_left 2; (repeat (first | exact At.hd | refine At.tl ?_)); rotate_left; (first | (with_reducible exact row47)); (solve | exact rfl | simp)) | (refine wm_own (cs := ?_) (t := ?_) (v := ?_) K rfl _ _ rfl rfl ?_ ?_ ?_ ?_; rotate_left 2; (repeat (first | exact At.hd | refine At.tl ?_)); rotate_left; (first | exact rfl | assumption); (first | (with_reducible exact one2) | (with_reducible exact one3) | (with_reducible exact one45))) | (refine wm_cell (v := ?_) rfl _ _ rfl rfl ?_ ?_ ?_; rotate_left; (first | assumption | exact (K.below.cell (by assumption)).trans (by assumption)); (first | (with_reducible exact one2) | (with_reducible exact one3) | (with_reducible exact one45)))) | ((with_reducible refine at_store ?_); first | (refine wm_store (L' := ?_) (cs := ?_) (t := ?_) (n := ?_) K rfl _ _ _ rfl rfl rfl rfl ?_ ?_ ?_ ?_ ?_ ?_; rotate_left 3; (repeat (first | exact Put.hd | (refine Put.tl (L' := ?_) ?_; rotate_left))); rotate_left; (first | (with_reducible exact row47)); (solve | exact rfl | simp); (solve | exact rfl | simp); (solve | exact rfl | simp [Ones, Value.oneCell']); (try clear K); (try clear ww); intro ww K; (try simp [go_sem] at K)) | (refine wm_put (L' := ?_) (cs := ?_) (new := ?_) (t := ?_) K rfl _ _ _ rfl rfl rfl rfl ?_ ?_ ?_ ?_ rfl rfl ?_; rotate_left 4; (repeat (first | exact Put.hd | (refine Put.tl (L' := ?_) ?_; rotate_left))); (solve | exact Nat.le_of_ble_eq_true rfl | decide | (simp only [List.size_toArray, nums_length]; first | assumption | omega) | (simp only [List.size_toArray, nums_length, List.length_set]; first | assumption | omega) | simp | omega | (simp only [List.size_toArray, nums_length]; omega) | assumption); (solve | (simp only [List.setIfInBounds_toArray]; exact rfl) | exact nums_set _ _ _ _ | simp only [List.setIfInBounds_toArray, List.set_cons_zero] | simp only [List.setIfInBounds_toArray, List.set_cons_zero, List.set_cons_succ] | (simp only [List.setIfInBounds_toArray, List.set_cons_zero, List.set_cons_succ]; exact rfl) | exact rfl); (first | (with_reducible exact one2) | (with_reducible exact one3) | (with_reducible exact one45)); (try clear K); (try clear ww); intro ww K; (try simp [go_sem] at K))) | (go_at_call 85; (with_reducible refine (WI.out _).mono ?_); rintro e w2 ⟨rfl, k1⟩; replace K := K.step k1; clear k1; (try clear ww); revert w2; intro ww K))
      refine bodyPost_ret (K.res rfl _ rfl At.hd (by (first | (with_reducible exact row47))) (by (solve | exact rfl | simp))) rfl ?_
      exact ⟨A3, c3, rfl, ⟨by rw [HTE.out]; exact K.fact.1, HA.out⟩, K.below⟩
theorem cl_in {i : Int} {n : Nat} (h : 0 ≤ i) (h2 : i < n) : clI i n = i := by unfold clI; omega
theorem cl_down {i n : Nat} (h2 : i < n) : clI ((i : Int) - 1) n = ((i - 1 : Nat) : Int) := by unfold clI; omega
theorem cl_up {i n : Nat} (h2 : i < n) : clI ((i : Int) + 1) n = ((min (i + 1) (n - 1) : Nat) : Int) := by unfold clI; omega
theorem cl_zero {i n : Nat} (h2 : i < n) : clI ((i : Int) - 0) n = (i : Int) ∧ clI ((i : Int) + 0) n = (i : Int) := by unfold clI; omega
theorem near_ix {p q n : Nat} (hn : q * p = n) (hp : 1 ≤ p) (hq : 1 ≤ q) {k : Nat} (hk : k < n) :
    ((clI (((k / p : Nat) : Int) - 0) q * p + clI (((k % p : Nat) : Int) - 1) p = (rowA p k : Int) ∧ rowA p k < n) ∧ (clI (((k / p : Nat) : Int) + 0) q * p + clI (((k % p : Nat) : Int) + 1) p = (rowB p k : Int) ∧ rowB p k < n))
    ∧ ((clI (((k / p : Nat) : Int) - 1) q * p + clI (((k % p : Nat) : Int) - 0) p = (colA p k : Int) ∧ colA p k < n) ∧ (clI (((k / p : Nat) : Int) + 1) q * p + clI (((k % p : Nat) : Int) + 0) p = (colB p q k : Int) ∧ colB p q k < n)) := by
  have hd : k / p < q := Nat.div_lt_of_lt_mul (by rw [Nat.mul_comm, hn]; exact hk)
  have hm : k % p < p := Nat.mod_lt _ (by omega)
  obtain ⟨l1, l2, l3, l4⟩ := near_lt (W := p) (H := q) (k := k) (by omega) (by omega) (by omega)
  rw [hn] at l1 l2 l3 l4
  rw [(cl_zero hd).1, (cl_zero hd).2, (cl_zero hm).1, (cl_zero hm).2, cl_down hd, cl_up hd, cl_down hm, cl_up hm]
  refine ⟨⟨⟨?_, l1⟩, ?_, l2⟩, ⟨?_, l3⟩, ?_, l4⟩
  · unfold rowA; push_cast; rfl
  · unfold rowB; push_cast; rfl
  · unfold colA; push_cast; rfl
  · unfold colB; push_cast; rfl
theorem RSpread14_bad (W H X Y S qq : Int) (A : Option Addr) (n c : Nat) (w : World) (hs : (decide (0 ≤ qq) && decide (qq ≤ 85)) = false) :
    Calls Try.prog 41 #[.agg #[.int .i64 W, .int .i64 H, .int .i64 X, .int .i64 Y, .int .i64 S, .slice A n c], .int .i64 qq] w fun e w' => e = .returned (.tuple #[.agg #[.int .i64 W, .int .i64 H, .int .i64 X, .int .i64 Y, .int .i64 S, .slice A n c], .int .i64 2]) ∧ Below w.heap.size w w' := by
  have K := St.start w
  rcases (by simp at hs; omega : qq < 0 ∨ (0 ≤ qq ∧ 85 < qq)) with h | h
  · have d1 : decide (qq < 0) = true := decide_eq_true h
    clear hs h
    go_enter Try.func41, Try.ntmps41
    go_wp2_with (first | go_big_skip | ((with_reducible refine at_load ?_); first | (refine wm_load (cs := ?_) (t := ?_) (n := ?_) K rfl _ _ rfl rfl ?_ ?_ ?_ ?_; rotate_left 2; (repeat (first | exact At.hd | refine At.tl ?_)); rotate_left; (first | (with_reducible exact row47)); (solve | exact rfl | simp)) | (refine wm_own (cs := ?_) (t := ?_) (v := ?_) K rfl _ _ rfl rfl ?_ ?_ ?_ ?_; rotate_left 2; (repeat (first | exact At.hd | refine At.tl ?_)); rotate_left; (first | exact rfl | assumption); (first | (with_reducible exact one2) | (with_reducible exact one3) | (with_reducible exact one45))) | (refine wm_cell (v := ?_) rfl _ _ rfl rfl ?_ ?_ ?_; rotate_left; (first | assumption | exact (K.below.cell (by assumption)).trans (by assumption)); (first | (with_reducible exact one2) | (with_reducible exact one3) | (with_reducible exact one45)))) | ((with_reducible refine at_store ?_); first | (refine wm_store (L' := ?_) (cs := ?_) (t := ?_) (n := ?_) K rfl _ _ _ rfl rfl rfl rfl ?_ ?_ ?_ ?_ ?_ ?_; rotate_left 3; (repeat (first | exact Put.hd | (refine Put.tl (L' := ?_) ?_; rotate_left))); rotate_left; (first | (with_reducible exact row47)); (solve | exact rfl | simp); (solve | exact rfl | simp); (solve | exact rfl | simp [Ones, Value.oneCell']); (try clear K); (try clear ww); intro ww K; (try simp [go_sem] at K)) | (refine wm_put (L' := ?_) (cs := ?_) (new := ?_) (t := ?_) K rfl _ _ _ rfl rfl rfl rfl ?_ ?_ ?_ ?_ rfl rfl ?_; rotate_left 4; (repeat (first | exact Put.hd | (refine Put.tl (L' := ?_) ?_; rotate_left))); (solve | exact Nat.le_of_ble_eq_true rfl | decide | (simp only [List.size_toArray, nums_length]; first | assumption | omega) | (simp only [List.size_toArray, nums_length, List.length_set]; first | assumption | omega) | simp | omega | (simp only [List.size_toArray, nums_length]; omega) | assumption); (solve | (simp only [List.setIfInBounds_toArray]; exact rfl) | exact nums_set _ _ _ _ | simp only [List.setIfInBounds_toArray, List.set_cons_zero] | simp only [List.setIfInBounds_toArray, List.set_cons_zero, List.set_cons_succ] | (simp only [List.setIfInBounds_toArray, List.set_cons_zero, List.set_cons_succ]; exact rfl) | exact rfl); (first | (with_reducible exact one2) | (with_reducible exact one3) | (with_reducible exact one45)); (try clear K); (try clear ww); intro ww K; (try simp [go_sem] at K))) | (first | ((with_reducible refine at_box ?_); refine wm_box K rfl _ _ rfl rfl rfl ?_; (try clear K); (try clear ww); (first | ((fail_if_success (have _h := r1)); intro r1 ww K) | ((fail_if_success (have _h := r2)); intro r2 ww K)); (try simp [go_sem, Value.cells] at K)) | ((with_reducible refine at_alloc ?_); refine wm_alloc (v := ?_) (cs := ?_) K rfl _ rfl ?_ ?_ ?_; rotate_left; (first | (with_reducible exact zero47)); rotate_left; exact rfl; (try clear K); (try clear ww); (first | ((fail_if_success (have _h := r1)); intro r1 ww K) | ((fail_if_success (have _h := r2)); intro r2 ww K)); (try simp [go_sem, Value.cells] at K))))
    refine bodyPost_ret (K.res2 rfl _ rfl At.hd (by (first | (with_reducible exact row47))) (by (solve | exact rfl | simp)) rfl) rfl ?_
    exact ⟨rfl, K.below⟩
  · have d1 : decide (qq < 0) = false := decide_eq_false (by omega)
    have d2 : decide (85 < qq) = true := decide_eq_true h.2
    clear hs h
    go_enter Try.func41, Try.ntmps41
    go_wp2_with (first | go_big_skip | ((with_reducible refine at_load ?_); first | (refine wm_load (cs := ?_) (t := ?_) (n := ?_) K rfl _ _ rfl rfl ?_ ?_ ?_ ?_; rotate_left 2; (repeat (first | exact At.hd | refine At.tl ?_)); rotate_left; (first | (with_reducible exact row47)); (solve | exact rfl | simp)) | (refine wm_own (cs := ?_) (t := ?_) (v := ?_) K rfl _ _ rfl rfl ?_ ?_ ?_ ?_; rotate_left 2; (repeat (first | exact At.hd | refine At.tl ?_)); rotate_left; (first | exact rfl | assumption); (first | (with_reducible exact one2) | (with_reducible exact one3) | (with_reducible exact one45))) | (refine wm_cell (v := ?_) rfl _ _ rfl rfl ?_ ?_ ?_; rotate_left; (first | assumption | exact (K.below.cell (by assumption)).trans (by assumption)); (first | (with_reducible exact one2) | (with_reducible exact one3) | (with_reducible exact one45)))) | ((with_reducible refine at_store ?_); first | (refine wm_store (L' := ?_) (cs := ?_) (t := ?_) (n := ?_) K rfl _ _ _ rfl rfl rfl rfl ?_ ?_ ?_ ?_ ?_ ?_; rotate_left 3; (repeat (first | exact Put.hd | (refine Put.tl (L' := ?_) ?_; rotate_left))); rotate_left; (first | (with_reducible exact row47)); (solve | exact rfl | simp); (solve | exact rfl | simp); (solve | exact rfl | simp [Ones, Value.oneCell']); (try clear K); (try clear ww); intro ww K; (try simp [go_sem] at K)) | (refine wm_put (L' := ?_) (cs := ?_) (new := ?_) (t := ?_) K rfl _ _ _ rfl rfl rfl rfl ?_ ?_ ?_ ?_ rfl rfl ?_; rotate_left 4; (repeat (first | exact Put.hd | (refine Put.tl (L' := ?_) ?_; rotate_left))); (solve | exact Nat.le_of_ble_eq_true rfl | decide | (simp only [List.size_toArray, nums_length]; first | assumption | omega) | (simp only [List.size_toArray, nums_length, List.length_set]; first | assumption | omega) | simp | omega | (simp only [List.size_toArray, nums_length]; omega) | assumption); (solve | (simp only [List.setIfInBounds_toArray]; exact rfl) | exact nums_set _ _ _ _ | simp only [List.setIfInBounds_toArray, List.set_cons_zero] | simp only [List.setIfInBounds_toArray, List.set_cons_zero, List.set_cons_succ] | (simp only [List.setIfInBounds_toArray, List.set_cons_zero, List.set_cons_succ]; exact rfl) | exact rfl); (first | (with_reducible exact one2) | (with_reducible exact one3) | (with_reducible exact one45)); (try clear K); (try clear ww); intro ww K; (try simp [go_sem] at K))) | (first | ((with_reducible refine at_box ?_); refine wm_box K rfl _ _ rfl rfl rfl ?_; (try clear K); (try clear ww); (first | ((fail_if_success (have _h := r1)); intro r1 ww K) | ((fail_if_success (have _h := r2)); intro r2 ww K)); (try simp [go_sem, Value.cells] at K)) | ((with_reducible refine at_alloc ?_); refine wm_alloc (v := ?_) (cs := ?_) K rfl _ rfl ?_ ?_ ?_; rotate_left; (first | (with_reducible exact zero47)); rotate_left; exact rfl; (try clear K); (try clear ww); (first | ((fail_if_success (have _h := r1)); intro r1 ww K) | ((fail_if_success (have _h := r2)); intro r2 ww K)); (try simp [go_sem, Value.cells] at K))))
    refine bodyPost_ret (K.res2 rfl _ rfl At.hd (by (first | (with_reducible exact row47))) (by (solve | exact rfl | simp)) rfl) rfl ?_
    exact ⟨rfl, K.below⟩
section
variable {B : Nat} {w0 : World} {Lb : List Blk} {F : World → Prop}
theorem St.pass {w : World} {X Y S qq dx dy : Int} {p q : Nat} {L R : Nat → Nat} {A : Option Addr} {n c : Nat} {zs : List Int} (K : St B w0 Lb F w) (h : Rd w A n (ints .i64 zs)) (hb : ∀ z ∈ zs, 0 ≤ z ∧ z ≤ 1073741824) (hn : q * p = n) (hp : 1 ≤ p ∧ p ≤ 64) (hq : 1 ≤ q ∧ q ≤ 64) (hqq : 0 ≤ qq ∧ qq ≤ 85) (hdx : 0 ≤ dx ∧ dx ≤ 1) (hdy : 0 ≤ dy ∧ dy ≤ 1)
    (hLR : ∀ k, k < n → (clI (((k / p : Nat) : Int) - dy) q * p + clI (((k % p : Nat) : Int) - dx) p = (L k : Int) ∧ L k < n) ∧ (clI (((k / p : Nat) : Int) + dy) q * p + clI (((k % p : Nat) : Int) + dx) p = (R k : Int) ∧ R k < n)) :
    Calls Try.prog 90 #[.agg #[.int .i64 p, .int .i64 q, .int .i64 X, .int .i64 Y, .int .i64 S, .slice A n c], .int .i64 qq, .int .i64 dx, .int .i64 dy] w fun e w' => ∃ A2 c2, e = .returned (.agg #[.int .i64 p, .int .i64 q, .int .i64 X, .int .i64 Y, .int .i64 S, .slice A2 n c2]) ∧ Nw B A2 ∧ St B w0 Lb (fun w => Rd w A2 n (ints .i64 (spr14 n qq L R zs)) ∧ F w) w' := by
  refine (RPass14 X Y S qq dx dy p q L R A n c zs w h hb hn hp hq hqq hdx hdy hLR).mono ?_
  rintro e w' ⟨A2, c2, rfl, ⟨h2, hA⟩, hbel⟩
  exact ⟨A2, c2, rfl, hA.mono K.size, K.madeRd hbel h2 hA⟩
end
end Go.Proofs.Yteancdipmpmjpaa
namespace Go.Proofs.Yteancdipmpmjpaa
open Go.RowKit
attribute [local irreducible] wpHeld wpTree wpList
set_option linter.unusedVariables false
theorem GAtX14 (x y d r : Int) (p gb : Nat) (w : World) (hgb : gb < w.heap.size) (hc0 : w.cell? ⟨gb, 0, none⟩ = some (.int .i64 p)) (hp : 1 ≤ p ∧ p ≤ 64) (hx : 0 ≤ x ∧ x ≤ 64) (hy : 0 ≤ y ∧ y ≤ 64) (hd : -1 ≤ d ∧ d ≤ 1) (hr : y * p + clI (x + d) p = r) :
    Calls Try.prog 87 #[.int .i64 x, .int .i64 y, .int .i64 d, .pointer (some ⟨gb, 0, none⟩)] w fun e w' => e = .returned (.int .i64 r) ∧ Below w.heap.size w w' := by
  have K := St.start w
  obtain ⟨xd, hxd⟩ : ∃ xd, x + d = xd := ⟨_, rfl⟩
  rw [hxd] at hr
  have CL := Lib.hid (fun w => clamp14 xd p w (by omega))
  have hcl : 0 ≤ clI xd p ∧ clI xd p ≤ 64 := by unfold clI; omega
  generalize clI xd p = cl at *
  have hR0 := Int.mul_nonneg hy.1 (show 0 ≤ (p : Int) by omega)
  have hR1 := Int.mul_le_mul hy.2 (show (p : Int) ≤ 64 by omega) (by omega) (by omega)
  obtain ⟨R, hR⟩ : ∃ R, y * (p : Int) = R := ⟨_, rfl⟩
  rw [hR] at hr hR0 hR1
  have e1h : Hid (IntKind.i64.wrap (y * (p : Int)) = R) := Lib.hid ((IntWalk.i64_in _ (by omega)).trans hR)
  have e2h : Hid (IntKind.i64.wrap (x + d) = xd) := Lib.hid ((IntWalk.i64_in _ (by omega)).trans hxd)
  have e3h : Hid (IntKind.i64.wrap (R + cl) = r) := Lib.hid ((IntWalk.i64_in _ (by omega)).trans hr)
  clear hr hR hR0 hR1 hxd hcl hd hx hy hp
  have e1 := e1h.out
  have e2 := e2h.out
  have e3 := e3h.out
  go_enter Try.func87, Try.ntmps87
  go_wp2_with fail
  refine wm_held _ [(true, 0), (true, 1), (true, 2), (true, 3), (true, 4), (true, 5), (true, 6), (true, 7), (true, 8), (false, 9), (true, 10), (true, 11)] K (List.nil_sublist _) (by kernel_rfl) (by kernel_rfl) ?_; (try clear K); (try clear ww); intro ww K; (try simp [go_sem] at K); simp only [pick, List.getElem?_toArray, List.getElem?_cons_succ, List.getElem?_cons_zero]
  repeat (first | ((with_reducible refine ht_load ?_); first | (refine hm_load (cs := ?_) (t := ?_) (n := ?_) rfl _ _ rfl rfl ?_ ?_ ?_ ?_; rotate_left 2; (repeat (first | exact At.hd | refine At.tl ?_)); rotate_left; (first | fail); (solve | exact rfl | simp)) | (refine hm_own (cs := ?_) (t := ?_) (v := ?_) rfl _ _ rfl rfl ?_ ?_ ?_ ?_; rotate_left 2; (repeat (first | exact At.hd | refine At.tl ?_)); rotate_left; (first | exact rfl | assumption); (first | (with_reducible exact one2) | (with_reducible exact one3))) | (refine hm_cell (v := ?_) rfl _ _ rfl rfl (fun ww K => ?_) ?_ ?_; rotate_left; (first | assumption | exact (K.below.cell (by assumption)).trans (by assumption)); (first | (with_reducible exact one2) | (with_reducible exact one3)))) | (refine held_take (fun K' hK' => ?_); go_simp; first | (refine hK' _ ?_; clear hK' K') | (apply Exists.intro; refine ⟨?_, hK' _ ?_⟩; (intro _ _; rfl); clear hK' K')) | ((with_reducible refine ht_store ?_); first | (refine hm_store (L' := ?_) (cs := ?_) (t := ?_) (n := ?_) K rfl _ _ _ rfl rfl rfl rfl ?_ ?_ ?_ ?_ ?_ ?_; rotate_left 3; (repeat (first | exact Put.hd | (refine Put.tl (L' := ?_) ?_; rotate_left))); rotate_left; (first | fail); (solve | exact rfl | simp); (solve | exact rfl | simp); (solve | exact rfl | simp [Ones, Value.oneCell']); (try clear K); (try clear ww); intro ww K; (try simp [go_sem] at K); refine ⟨(by first | exact (K).sub (List.nil_sublist _) | exact (K.weak fun _ h => h.2).sub (List.nil_sublist _) | exact (K.weak fun _ h => h.2.2).sub (List.nil_sublist _) | exact (K.weak fun _ h => h.2.2.2).sub (List.nil_sublist _) | exact (K.weak fun _ h => h.2.2.2.2).sub (List.nil_sublist _) | exact (K.weak fun _ h => h.2.2.2.2.2).sub (List.nil_sublist _)), ?_⟩) | (refine hm_put (L' := ?_) (cs := ?_) (new := ?_) (t := ?_) K rfl _ _ _ rfl rfl rfl rfl ?_ ?_ ?_ ?_ rfl rfl ?_; rotate_left 4; (repeat (first | exact Put.hd | (refine Put.tl (L' := ?_) ?_; rotate_left))); (solve | exact Nat.le_of_ble_eq_true rfl | decide | (simp only [List.size_toArray, nums_length]; first | assumption | omega) | (simp only [List.size_toArray, nums_length, List.length_set]; first | assumption | omega) | simp | omega | (simp only [List.size_toArray, nums_length]; omega) | assumption); (solve | (simp only [List.setIfInBounds_toArray]; exact rfl) | exact nums_set _ _ _ _ | simp only [List.setIfInBounds_toArray, List.set_cons_zero] | simp only [List.setIfInBounds_toArray, List.set_cons_zero, List.set_cons_succ] | (simp only [List.setIfInBounds_toArray, List.set_cons_zero, List.set_cons_succ]; exact rfl) | exact rfl); (first | (with_reducible exact one2) | (with_reducible exact one3)); (try clear K); (try clear ww); intro ww K; (try simp [go_sem] at K); refine ⟨(by first | exact (K).sub (List.nil_sublist _) | exact (K.weak fun _ h => h.2).sub (List.nil_sublist _) | exact (K.weak fun _ h => h.2.2).sub (List.nil_sublist _) | exact (K.weak fun _ h => h.2.2.2).sub (List.nil_sublist _) | exact (K.weak fun _ h => h.2.2.2.2).sub (List.nil_sublist _) | exact (K.weak fun _ h => h.2.2.2.2.2).sub (List.nil_sublist _)), ?_⟩)) | (refine held_do (fun K' hK' => ?_); go_simp; go_at_call 88; (with_reducible refine (CL.out _).mono ?_); rintro e w2 ⟨rfl, k1⟩; replace K := K.step (by first | exact below_of_eq k1 | exact below_of_eq k1.symm); clear k1; (try clear ww); revert w2; intro ww K; (try dsimp only); refine hK' _ _ (by first | exact (K).sub (List.nil_sublist _) | exact (K.weak fun _ h => h.2).sub (List.nil_sublist _) | exact (K.weak fun _ h => h.2.2).sub (List.nil_sublist _) | exact (K.weak fun _ h => h.2.2.2).sub (List.nil_sublist _) | exact (K.weak fun _ h => h.2.2.2.2).sub (List.nil_sublist _) | exact (K.weak fun _ h => h.2.2.2.2.2).sub (List.nil_sublist _)) ?_; clear hK' K'))
  refine held_nil ?_
  go_wp2_with fail
  go_ret
  exact ⟨rfl, K.below⟩
theorem GAtY14 (x y d r : Int) (p q gb : Nat) (w : World) (hgb : gb < w.heap.size) (hc0 : w.cell? ⟨gb, 0, none⟩ = some (.int .i64 p)) (hc1 : w.cell? ⟨gb, 1, none⟩ = some (.int .i64 q)) (hp : 1 ≤ p ∧ p ≤ 64) (hq : 1 ≤ q ∧ q ≤ 64) (hx : 0 ≤ x ∧ x ≤ 64) (hy : 0 ≤ y ∧ y ≤ 64) (hd : -1 ≤ d ∧ d ≤ 1) (hr : clI (y + d) q * p + x = r) :
    Calls Try.prog 89 #[.int .i64 x, .int .i64 y, .int .i64 d, .pointer (some ⟨gb, 0, none⟩)] w fun e w' => e = .returned (.int .i64 r) ∧ Below w.heap.size w w' := by
  have K := St.start w
  obtain ⟨yd, hyd⟩ : ∃ yd, y + d = yd := ⟨_, rfl⟩
  rw [hyd] at hr
  have CL := Lib.hid (fun w => clamp14 yd q w (by omega))
  have hcl : 0 ≤ clI yd q ∧ clI yd q ≤ 64 := by unfold clI; omega
  generalize clI yd q = cl at *
  have hR0 := Int.mul_nonneg hcl.1 (show 0 ≤ (p : Int) by omega)
  have hR1 := Int.mul_le_mul hcl.2 (show (p : Int) ≤ 64 by omega) (by omega) (by omega)
  obtain ⟨R, hR⟩ : ∃ R, cl * (p : Int) = R := ⟨_, rfl⟩
  rw [hR] at hr hR0 hR1
  have e1h : Hid (IntKind.i64.wrap (cl * (p : Int)) = R) := Lib.hid ((IntWalk.i64_in _ (by omega)).trans hR)
  have e2h : Hid (IntKind.i64.wrap (y + d) = yd) := Lib.hid ((IntWalk.i64_in _ (by omega)).trans hyd)
  have e3h : Hid (IntKind.i64.wrap (R + x) = r) := Lib.hid ((IntWalk.i64_in _ (by omega)).trans hr)
  clear hr hR hR0 hR1 hyd hcl hd hx hy hp hq
  have e1 := e1h.out
  have e2 := e2h.out
  have e3 := e3h.out
  go_enter Try.func89, Try.ntmps89
  go_wp2_with fail
  refine wm_held _ [(true, 0), (true, 1), (true, 2), (true, 3), (true, 4), (true, 6), (true, 7), (true, 9), (false, 5), (true, 8), (true, 10), (true, 11)] K (List.nil_sublist _) (by kernel_rfl) (by kernel_rfl) ?_; (try clear K); (try clear ww); intro ww K; (try simp [go_sem] at K); simp only [pick, List.getElem?_toArray, List.getElem?_cons_succ, List.getElem?_cons_zero]
  repeat (first | ((with_reducible refine ht_load ?_); first | (refine hm_load (cs := ?_) (t := ?_) (n := ?_) rfl _ _ rfl rfl ?_ ?_ ?_ ?_; rotate_left 2; (repeat (first | exact At.hd | refine At.tl ?_)); rotate_left; (first | fail); (solve | exact rfl | simp)) | (refine hm_own (cs := ?_) (t := ?_) (v := ?_) rfl _ _ rfl rfl ?_ ?_ ?_ ?_; rotate_left 2; (repeat (first | exact At.hd | refine At.tl ?_)); rotate_left; (first | exact rfl | assumption); (first | (with_reducible exact one2) | (with_reducible exact one3))) | (refine hm_cell (v := ?_) rfl _ _ rfl rfl (fun ww K => ?_) ?_ ?_; rotate_left; (first | assumption | exact (K.below.cell (by assumption)).trans (by assumption)); (first | (with_reducible exact one2) | (with_reducible exact one3)))) | (refine held_take (fun K' hK' => ?_); go_simp; first | (refine hK' _ ?_; clear hK' K') | (apply Exists.intro; refine ⟨?_, hK' _ ?_⟩; (intro _ _; rfl); clear hK' K')) | ((with_reducible refine ht_store ?_); first | (refine hm_store (L' := ?_) (cs := ?_) (t := ?_) (n := ?_) K rfl _ _ _ rfl rfl rfl rfl ?_ ?_ ?_ ?_ ?_ ?_; rotate_left 3; (repeat (first | exact Put.hd | (refine Put.tl (L' := ?_) ?_; rotate_left))); rotate_left; (first | fail); (solve | exact rfl | simp); (solve | exact rfl | simp); (solve | exact rfl | simp [Ones, Value.oneCell']); (try clear K); (try clear ww); intro ww K; (try simp [go_sem] at K); refine ⟨(by first | exact (K).sub (List.nil_sublist _) | exact (K.weak fun _ h => h.2).sub (List.nil_sublist _) | exact (K.weak fun _ h => h.2.2).sub (List.nil_sublist _) | exact (K.weak fun _ h => h.2.2.2).sub (List.nil_sublist _) | exact (K.weak fun _ h => h.2.2.2.2).sub (List.nil_sublist _) | exact (K.weak fun _ h => h.2.2.2.2.2).sub (List.nil_sublist _)), ?_⟩) | (refine hm_put (L' := ?_) (cs := ?_) (new := ?_) (t := ?_) K rfl _ _ _ rfl rfl rfl rfl ?_ ?_ ?_ ?_ rfl rfl ?_; rotate_left 4; (repeat (first | exact Put.hd | (refine Put.tl (L' := ?_) ?_; rotate_left))); (solve | exact Nat.le_of_ble_eq_true rfl | decide | (simp only [List.size_toArray, nums_length]; first | assumption | omega) | (simp only [List.size_toArray, nums_length, List.length_set]; first | assumption | omega) | simp | omega | (simp only [List.size_toArray, nums_length]; omega) | assumption); (solve | (simp only [List.setIfInBounds_toArray]; exact rfl) | exact nums_set _ _ _ _ | simp only [List.setIfInBounds_toArray, List.set_cons_zero] | simp only [List.setIfInBounds_toArray, List.set_cons_zero, List.set_cons_succ] | (simp only [List.setIfInBounds_toArray, List.set_cons_zero, List.set_cons_succ]; exact rfl) | exact rfl); (first | (with_reducible exact one2) | (with_reducible exact one3)); (try clear K); (try clear ww); intro ww K; (try simp [go_sem] at K); refine ⟨(by first | exact (K).sub (List.nil_sublist _) | exact (K.weak fun _ h => h.2).sub (List.nil_sublist _) | exact (K.weak fun _ h => h.2.2).sub (List.nil_sublist _) | exact (K.weak fun _ h => h.2.2.2).sub (List.nil_sublist _) | exact (K.weak fun _ h => h.2.2.2.2).sub (List.nil_sublist _) | exact (K.weak fun _ h => h.2.2.2.2.2).sub (List.nil_sublist _)), ?_⟩)) | (refine held_do (fun K' hK' => ?_); go_simp; go_at_call 88; (with_reducible refine (CL.out _).mono ?_); rintro e w2 ⟨rfl, k1⟩; replace K := K.step (by first | exact below_of_eq k1 | exact below_of_eq k1.symm); clear k1; (try clear ww); revert w2; intro ww K; (try dsimp only); refine hK' _ _ (by first | exact (K).sub (List.nil_sublist _) | exact (K.weak fun _ h => h.2).sub (List.nil_sublist _) | exact (K.weak fun _ h => h.2.2).sub (List.nil_sublist _) | exact (K.weak fun _ h => h.2.2.2).sub (List.nil_sublist _) | exact (K.weak fun _ h => h.2.2.2.2).sub (List.nil_sublist _) | exact (K.weak fun _ h => h.2.2.2.2.2).sub (List.nil_sublist _)) ?_; clear hK' K'))
  refine held_nil ?_
  go_wp2_with fail
  go_ret
  exact ⟨rfl, K.below⟩
theorem clD {i n : Nat} (h2 : i < n) : clI ((i : Int) + -1) n = ((i - 1 : Nat) : Int) := by unfold clI; omega
theorem clZ {i n : Nat} (h2 : i < n) : clI ((i : Int) + 0) n = (i : Int) := by unfold clI; omega
theorem clU {i n : Nat} (h2 : i < n) : clI ((i : Int) + 1) n = ((min (i + 1) (n - 1) : Nat) : Int) := by unfold clI; omega
theorem row_ix {p q r e : Nat} (he : e < p) (hr : r < q) : (r : Int) * p + clI ((e : Int) + -1) p = (rowA p (r * p + e) : Int) ∧ (r : Int) * p + clI ((e : Int) + 0) p = ((r * p + e : Nat) : Int) ∧ (r : Int) * p + clI ((e : Int) + 1) p = (rowB p (r * p + e) : Int) := by
  rw [clD he, clZ he, clU he]
  unfold rowA rowB
  rw [(div_at he).1, (div_at he).2]
  push_cast
  exact ⟨rfl, rfl, rfl⟩
theorem col_ix {p q r e : Nat} (he : e < p) (hr : r < q) : clI ((r : Int) + -1) q * p + e = (colA p (r * p + e) : Int) ∧ clI ((r : Int) + 0) q * p + e = ((r * p + e : Nat) : Int) ∧ clI ((r : Int) + 1) q * p + e = (colB p q (r * p + e) : Int) := by
  rw [clD hr, clZ hr, clU hr]
  unfold colA colB
  rw [(div_at he).1, (div_at he).2]
  push_cast
  exact ⟨rfl, rfl, rfl⟩
set_option maxRecDepth 100000 in
set_option maxHeartbeats 4000000 in
theorem GPassX14 (qq : Int) (p q gb qb : Nat) (A : Option Addr) (n c : Nat) (zs : List Int) (w : World) (h : Rd w A n (ints .i64 zs)) (hb : ∀ z ∈ zs, 0 ≤ z ∧ z ≤ 1073741824) (hn : q * p = n) (hp : 1 ≤ p ∧ p ≤ 64) (hq : 1 ≤ q ∧ q ≤ 64) (hqq : 0 ≤ qq ∧ qq ≤ 85)
    (hgb : gb < w.heap.size) (hqb : qb < w.heap.size) (hc0 : w.cell? ⟨gb, 0, none⟩ = some (.int .i64 p)) (hc1 : w.cell? ⟨gb, 1, none⟩ = some (.int .i64 q)) (hcq : w.cell? ⟨qb, 0, none⟩ = some (.int .i64 qq)) :
    Calls Try.prog 86 #[.slice A n c, .func (.func 87) #[] #[.pointer (some ⟨gb, 0, none⟩)], .pointer (some ⟨gb, 0, none⟩), .pointer (some ⟨qb, 0, none⟩)] w fun e w' => ∃ A2 c2, e = .returned (.slice A2 n c2) ∧ (Rd w' A2 n (ints .i64 (spr14 n qq (rowA p) (rowB p) zs)) ∧ Nw w.heap.size A2) ∧ Below w.heap.size w w' := by
    have K := St.start w
    have hl : zs.length = n := by rw [← h.1, ints_len]
    have hn4 : n ≤ 4096 := by
      have := Nat.mul_le_mul hq.2 hp.2
      omega
    have m1' : 8 * n ≤ 281474976710656 := by omega
    have m2' : n ≤ 4611686018427387904 := by omega
    have HR := Lib.hid h
    have HL := Lib.hid hl
    have HZ := Lib.hid hb
    have HN := Lib.hid (And.intro hn (And.intro hp (And.intro hq (And.intro hqq hn4))))
    have hp64 : p ≤ 64 := hp.2
    have hq64 : q ≤ 64 := hq.2
    have AT := Lib.hid (fun (x y d r : Int) (hx : 0 ≤ x ∧ x ≤ 64) (hy : 0 ≤ y ∧ y ≤ 64) (hd : -1 ≤ d ∧ d ≤ 1) (w' : World) (hbel : Below w.heap.size w w') => fun hr => GAtX14 x y d r p gb w' (Nat.lt_of_lt_of_le hgb hbel.size) ((hbel.cell hgb).trans hc0) hp hx hy hd hr)
    obtain ⟨T, hT⟩ : ∃ T, spr14 n qq (rowA p) (rowB p) zs = T := ⟨_, rfl⟩
    have HTE := Lib.hid hT
    have HTL : Hid (T.length = n) := Lib.hid (by rw [← hT]; exact spr_len _ _ _ _ _)
    have HTG : Hid (∀ k, k < n → T.getD k 0 = sprv qq (rowA p) (rowB p) zs k) := Lib.hid (fun k hk => by rw [← hT]; exact gen_get _ hk)
    clear hT
    obtain ⟨Z, hZ⟩ : ∃ Z : List Int, List.replicate n 0 = Z := ⟨_, rfl⟩
    have HZL : Hid (Z.length = n) := Lib.hid (by rw [← hZ]; simp)
    have HZE := Lib.hid hZ
    clear h hl hb hn hp hq hqq hZ hn4
    go_enter Try.func86, Try.ntmps86
    go_wp2_with (first | ((with_reducible refine at_makeSl ?_); refine wm_make K rfl _ _ _ rfl Try.underlying45 num2 n rfl rfl (by omega) (by omega) (by omega) (by omega) ?_; (try clear K); (try clear ww); intro g ww K) | go_big_skip | ((with_reducible refine at_load ?_); first | (refine wm_load (cs := ?_) (t := ?_) (n := ?_) K rfl _ _ rfl rfl ?_ ?_ ?_ ?_; rotate_left 2; (repeat (first | exact At.hd | refine At.tl ?_)); rotate_left; (first | fail); (solve | exact rfl | simp)) | (refine wm_own (cs := ?_) (t := ?_) (v := ?_) K rfl _ _ rfl rfl ?_ ?_ ?_ ?_; rotate_left 2; (repeat (first | exact At.hd | refine At.tl ?_)); rotate_left; (first | exact rfl | assumption); (first | (with_reducible exact one2) | (with_reducible exact one3))) | (refine wm_cell (v := ?_) rfl _ _ rfl rfl ?_ ?_ ?_; rotate_left; (first | assumption | exact (K.below.cell (by assumption)).trans (by assumption)); (first | (with_reducible exact one2) | (with_reducible exact one3)))) | ((with_reducible refine at_store ?_); first | (refine wm_store (L' := ?_) (cs := ?_) (t := ?_) (n := ?_) K rfl _ _ _ rfl rfl rfl rfl ?_ ?_ ?_ ?_ ?_ ?_; rotate_left 3; (repeat (first | exact Put.hd | (refine Put.tl (L' := ?_) ?_; rotate_left))); rotate_left; (first | fail); (solve | exact rfl | simp); (solve | exact rfl | simp); (solve | exact rfl | simp [Ones, Value.oneCell']); (try clear K); (try clear ww); intro ww K; (try simp [go_sem] at K)) | (refine wm_put (L' := ?_) (cs := ?_) (new := ?_) (t := ?_) K rfl _ _ _ rfl rfl rfl rfl ?_ ?_ ?_ ?_ rfl rfl ?_; rotate_left 4; (repeat (first | exact Put.hd | (refine Put.tl (L' := ?_) ?_; rotate_left))); (solve | exact Nat.le_of_ble_eq_true rfl | decide | (simp only [List.size_toArray, nums_length]; first | assumption | omega) | (simp only [List.size_toArray, nums_length, List.length_set]; first | assumption | omega) | simp | omega | (simp only [List.size_toArray, nums_length]; omega) | assumption); (solve | (simp only [List.setIfInBounds_toArray]; exact rfl) | exact nums_set _ _ _ _ | simp only [List.setIfInBounds_toArray, List.set_cons_zero] | simp only [List.setIfInBounds_toArray, List.set_cons_zero, List.set_cons_succ] | (simp only [List.setIfInBounds_toArray, List.set_cons_zero, List.set_cons_succ]; exact rfl) | exact rfl); (first | (with_reducible exact one2) | (with_reducible exact one3)); (try clear K); (try clear ww); intro ww K; (try simp [go_sem] at K))) | (first | ((with_reducible refine at_box ?_); refine wm_box K rfl _ _ rfl rfl rfl ?_; (try clear K); (try clear ww); ((fail_if_success (have _h := b99)); intro b99 ww K); (try simp [go_sem, Value.cells] at K)) | ((with_reducible refine at_alloc ?_); refine wm_alloc (v := ?_) (cs := ?_) K rfl _ rfl ?_ ?_ ?_; rotate_left; (first | fail); rotate_left; exact rfl; (try clear K); (try clear ww); ((fail_if_success (have _h := b99)); intro b99 ww K); (try simp [go_sem, Value.cells] at K))))
    have HZ0 : Hid (((nums .i64 (List.replicate n 0)).toArray : Array Value).size = n ∧ ((nums .i64 (List.replicate n 0)).toArray : Array Value).toList.take n = ints .i64 (T.take (0 * p) ++ Z.drop (0 * p))) := Lib.hid (by
      rw [Nat.zero_mul, List.take_zero, List.drop_zero, List.nil_append, ← HZE.out]; exact zeros_at n)
    generalize (nums .i64 (List.replicate n 0)).toArray = cur0 at *
    go_loopw [16] (fun i wr => ∃ (r : Nat) (cur : Array Value), r ≤ q ∧ i = .int .i64 r ∧ Hid (cur.size = n ∧ cur.toList.take n = ints .i64 (T.take (r * p) ++ Z.drop (r * p))) ∧ St w.heap.size w [(g, cur, 2)] Any wr) (fun i _ => q - (intOf i).toNat)
    case atStart => exact ⟨0, cur0, Nat.zero_le _, rfl, HZ0, K⟩
    case round =>
      clear K HZ0
      obtain ⟨r, cur, hr, rfl, HU, K⟩ := hrel
      by_cases hrq : r < q
      · have ht : decide ((r : Int) < q) = true := decide_eq_true (by omega)
        go_wp2_with (first | go_big_skip | ((with_reducible refine at_load ?_); first | (refine wm_load (cs := ?_) (t := ?_) (n := ?_) K rfl _ _ rfl rfl ?_ ?_ ?_ ?_; rotate_left 2; (repeat (first | exact At.hd | refine At.tl ?_)); rotate_left; (first | fail); (solve | exact rfl | simp)) | (refine wm_own (cs := ?_) (t := ?_) (v := ?_) K rfl _ _ rfl rfl ?_ ?_ ?_ ?_; rotate_left 2; (repeat (first | exact At.hd | refine At.tl ?_)); rotate_left; (first | exact rfl | assumption); (first | (with_reducible exact one2) | (with_reducible exact one3))) | (refine wm_cell (v := ?_) rfl _ _ rfl rfl ?_ ?_ ?_; rotate_left; (first | assumption | exact (K.below.cell (by assumption)).trans (by assumption)); (first | (with_reducible exact one2) | (with_reducible exact one3)))) | ((with_reducible refine at_store ?_); first | (refine wm_store (L' := ?_) (cs := ?_) (t := ?_) (n := ?_) K rfl _ _ _ rfl rfl rfl rfl ?_ ?_ ?_ ?_ ?_ ?_; rotate_left 3; (repeat (first | exact Put.hd | (refine Put.tl (L' := ?_) ?_; rotate_left))); rotate_left; (first | fail); (solve | exact rfl | simp); (solve | exact rfl | simp); (solve | exact rfl | simp [Ones, Value.oneCell']); (try clear K); (try clear ww); intro ww K; (try simp [go_sem] at K)) | (refine wm_put (L' := ?_) (cs := ?_) (new := ?_) (t := ?_) K rfl _ _ _ rfl rfl rfl rfl ?_ ?_ ?_ ?_ rfl rfl ?_; rotate_left 4; (repeat (first | exact Put.hd | (refine Put.tl (L' := ?_) ?_; rotate_left))); (solve | exact Nat.le_of_ble_eq_true rfl | decide | (simp only [List.size_toArray, nums_length]; first | assumption | omega) | (simp only [List.size_toArray, nums_length, List.length_set]; first | assumption | omega) | simp | omega | (simp only [List.size_toArray, nums_length]; omega) | assumption); (solve | (simp only [List.setIfInBounds_toArray]; exact rfl) | exact nums_set _ _ _ _ | simp only [List.setIfInBounds_toArray, List.set_cons_zero] | simp only [List.setIfInBounds_toArray, List.set_cons_zero, List.set_cons_succ] | (simp only [List.setIfInBounds_toArray, List.set_cons_zero, List.set_cons_succ]; exact rfl) | exact rfl); (first | (with_reducible exact one2) | (with_reducible exact one3)); (try clear K); (try clear ww); intro ww K; (try simp [go_sem] at K))) | (first | ((with_reducible refine at_box ?_); refine wm_box K rfl _ _ rfl rfl rfl ?_; (try clear K); (try clear ww); ((fail_if_success (have _h := b99)); intro b99 ww K); (try simp [go_sem, Value.cells] at K)) | ((with_reducible refine at_alloc ?_); refine wm_alloc (v := ?_) (cs := ?_) K rfl _ rfl ?_ ?_ ?_; rotate_left; (first | fail); rotate_left; exact rfl; (try clear K); (try clear ww); ((fail_if_success (have _h := b99)); intro b99 ww K); (try simp [go_sem, Value.cells] at K))))
        go_loopw [21] (fun i wr => ∃ (e : Nat) (cur : Array Value), e ≤ p ∧ i = .int .i64 e ∧ Hid (cur.size = n ∧ cur.toList.take n = ints .i64 (T.take (r * p + e) ++ Z.drop (r * p + e))) ∧ St w.heap.size w [(g, cur, 2)] Any wr) (fun i _ => p - (intOf i).toNat)
        case atStart => exact ⟨0, cur, Nat.zero_le _, rfl, HU, K⟩
        case round =>
          clear K HU
          obtain ⟨e, cur, he, rfl, HU, K⟩ := hrel
          by_cases hep : e < p
          · have ht2 : decide ((e : Int) < p) = true := decide_eq_true (by omega)
            obtain ⟨hn, hp, hq, hqq, hn4⟩ := HN.out
            obtain ⟨i1, i2, i3⟩ := row_ix (p := p) (q := q) hep hrq
            have hkn : r * p + e < n := by
              have h1 := Nat.mul_le_mul_right p (show r + 1 ≤ q by omega)
              rw [Nat.succ_mul, hn] at h1; omega
            obtain ⟨l1, l2, l3, l4⟩ := near_lt (W := p) (H := q) (k := r * p + e) (by omega) (by omega) (by omega)
            rw [hn] at l1 l2 l3 l4
            have hl1 : rowA p (r * p + e) < n := by first | exact l1 | exact l3
            have hl2 : rowB p (r * p + e) < n := by first | exact l2 | exact l4
            have A1 := Lib.hid (fun (w' : World) (hb : Below w.heap.size w w') => AT.out (e : Int) (r : Int) (-1) _ (by omega) (by omega) (by omega) w' hb i1)
            have A2 := Lib.hid (fun (w' : World) (hb : Below w.heap.size w w') => AT.out (e : Int) (r : Int) 0 _ (by omega) (by omega) (by omega) w' hb i2)
            have A3 := Lib.hid (fun (w' : World) (hb : Below w.heap.size w w') => AT.out (e : Int) (r : Int) 1 _ (by omega) (by omega) (by omega) w' hb i3)
            clear i1 i2 i3 l1 l2 l3 l4
            have hE := HTG.out _ hkn
            unfold sprv sprn at hE
            dsimp only at hE
            have gg := getD_all (P := fun z => 0 ≤ z ∧ z ≤ 1073741824) (by omega) HZ.out
            obtain ⟨jl, hjl⟩ : ∃ j, rowA p (r * p + e) = j := ⟨_, rfl⟩
            obtain ⟨jr, hjr⟩ : ∃ j, rowB p (r * p + e) = j := ⟨_, rfl⟩
            rw [hjl] at hl1 hE A1
            rw [hjr] at hl2 hE A3
            clear hjl hjr
            obtain ⟨R, hR⟩ : ∃ R, r * p = R := ⟨_, rfl⟩
            obtain ⟨k, hk⟩ : ∃ k, R + e = k := ⟨_, rfl⟩
            rw [hR, hk] at hkn hE A2
            have HK : Hid (r * p + e = k ∧ r * p + (e + 1) = k + 1) := Lib.hid (by rw [hR]; omega)
            have HU2 : Hid (cur.size = n ∧ cur.toList.take n = ints .i64 (T.take k ++ Z.drop k)) := Lib.hid (by have := HU.out; rw [HK.out.1] at this; exact this)
            have hbd := sprn_bd hqq (gg jl) (gg k) (gg jr)
            obtain ⟨b0, off, rfl, hbb, hc⟩ := HR.out.get hkn
            have hv0 := hc k _ (ints_get .i64 zs k (by rw [HL.out]; exact hkn))
            have hv1 := hc jl _ (ints_get .i64 zs jl (by rw [HL.out]; exact hl1))
            have hv2 := hc jr _ (ints_get .i64 zs jr (by rw [HL.out]; exact hl2))
            generalize zs.getD jl 0 = z1 at *
            generalize zs.getD jr 0 = z2 at *
            generalize zs.getD k 0 = z0 at *
            obtain ⟨t2, ht2'⟩ : ∃ t2, 2 * qq = t2 := ⟨_, rfl⟩
            rw [ht2'] at hbd hE
            obtain ⟨t3, ht3⟩ : ∃ t3, 256 - t2 = t3 := ⟨_, rfl⟩
            rw [ht3] at hbd hE
            obtain ⟨m1, hm1⟩ : ∃ m1, qq * z1 = m1 := ⟨_, rfl⟩
            obtain ⟨m2, hm2⟩ : ∃ m2, t3 * z0 = m2 := ⟨_, rfl⟩
            obtain ⟨m3, hm3⟩ : ∃ m3, qq * z2 = m3 := ⟨_, rfl⟩
            rw [hm1, hm2, hm3] at hbd hE
            obtain ⟨s1, hs1⟩ : ∃ s1, m1 + m2 = s1 := ⟨_, rfl⟩
            rw [hs1] at hbd hE
            obtain ⟨s2, hs2⟩ : ∃ s2, s1 + m3 = s2 := ⟨_, rfl⟩
            rw [hs2] at hbd hE
            obtain ⟨v, hv⟩ : ∃ v, s2 / 256 = v := ⟨_, rfl⟩
            rw [hv] at hbd hE
            have hnew := mix_set HTL.out HZL.out hkn
            rw [hE] at hnew
            have hput := row_put (i := k) (x := v) HU2.out.2
            rw [hnew] at hput
            have HN2 : Hid ((cur.setIfInBounds k (.int .i64 v)).size = n ∧ (cur.setIfInBounds k (.int .i64 v)).toList.take n = ints .i64 (T.take (r * p + (e + 1)) ++ Z.drop (r * p + (e + 1)))) := Lib.hid (by rw [HK.out.2]; exact ⟨by rw [Array.size_setIfInBounds]; exact HU2.out.1, hput⟩)
            have hink : k < cur.size := by rw [HU2.out.1]; exact hkn
            have f5h : Hid (IntKind.i64.wrap (2 * qq) = t2) := Lib.hid ((IntWalk.i64_in _ (by omega)).trans ht2')
            have f6h : Hid (IntKind.i64.wrap (256 - t2) = t3) := Lib.hid ((IntWalk.i64_in _ (by omega)).trans ht3)
            have f7h : Hid (IntKind.i64.wrap (qq * z1) = m1) := Lib.hid ((IntWalk.i64_in _ (by omega)).trans hm1)
            have f8h : Hid (IntKind.i64.wrap (t3 * z0) = m2) := Lib.hid ((IntWalk.i64_in _ (by omega)).trans hm2)
            have f9h : Hid (IntKind.i64.wrap (qq * z2) = m3) := Lib.hid ((IntWalk.i64_in _ (by omega)).trans hm3)
            have f10h : Hid (IntKind.i64.wrap (m1 + m2) = s1) := Lib.hid ((IntWalk.i64_in _ (by omega)).trans hs1)
            have f11h : Hid (IntKind.i64.wrap (s1 + m3) = s2) := Lib.hid ((IntWalk.i64_in _ (by omega)).trans hs2)
            have f12h : Hid (s2.tdiv 256 = v) := Lib.hid (by rw [Int.tdiv_eq_ediv_of_nonneg (by omega)]; exact hv)
            have f13h : Hid (wrap64 v = v) := Lib.hid (w64 (by omega) (by omega))
            have s1h : Hid (wrap64 ((r : Int) * (p : Int)) = (R : Int)) := Lib.hid (by rw [← Int.natCast_mul, hR]; exact w64 (by omega) (by omega))
            have s2h : Hid (wrap64 ((R : Int) + (e : Int)) = (k : Int)) := Lib.hid (w64e (by omega) (by omega) (by omega))
            clear hn hp hq hqq hn4 gg hbd hE hc ht2' ht3 hm1 hm2 hm3 hs1 hs2 hv hnew hput hR hk
            have f5 := f5h.out
            have f6 := f6h.out
            have f7 := f7h.out
            have f8 := f8h.out
            have f9 := f9h.out
            have f10 := f10h.out
            have f11 := f11h.out
            go_wp2_with (first | go_big_skip | ((with_reducible refine at_load ?_); first | (refine wm_load (cs := ?_) (t := ?_) (n := ?_) K rfl _ _ rfl rfl ?_ ?_ ?_ ?_; rotate_left 2; (repeat (first | exact At.hd | refine At.tl ?_)); rotate_left; (first | fail); (solve | exact rfl | simp)) | (refine wm_own (cs := ?_) (t := ?_) (v := ?_) K rfl _ _ rfl rfl ?_ ?_ ?_ ?_; rotate_left 2; (repeat (first | exact At.hd | refine At.tl ?_)); rotate_left; (first | exact rfl | assumption); (first | (with_reducible exact one2) | (with_reducible exact one3))) | (refine wm_cell (v := ?_) rfl _ _ rfl rfl ?_ ?_ ?_; rotate_left; (first | assumption | exact (K.below.cell (by assumption)).trans (by assumption)); (first | (with_reducible exact one2) | (with_reducible exact one3)))) | ((with_reducible refine at_store ?_); first | (refine wm_store (L' := ?_) (cs := ?_) (t := ?_) (n := ?_) K rfl _ _ _ rfl rfl rfl rfl ?_ ?_ ?_ ?_ ?_ ?_; rotate_left 3; (repeat (first | exact Put.hd | (refine Put.tl (L' := ?_) ?_; rotate_left))); rotate_left; (first | fail); (solve | exact rfl | simp); (solve | exact rfl | simp); (solve | exact rfl | simp [Ones, Value.oneCell']); (try clear K); (try clear ww); intro ww K; (try simp [go_sem] at K)) | (refine wm_put (L' := ?_) (cs := ?_) (new := ?_) (t := ?_) K rfl _ _ _ rfl rfl rfl rfl ?_ ?_ ?_ ?_ rfl rfl ?_; rotate_left 4; (repeat (first | exact Put.hd | (refine Put.tl (L' := ?_) ?_; rotate_left))); (solve | exact Nat.le_of_ble_eq_true rfl | decide | (simp only [List.size_toArray, nums_length]; first | assumption | omega) | (simp only [List.size_toArray, nums_length, List.length_set]; first | assumption | omega) | simp | omega | (simp only [List.size_toArray, nums_length]; omega) | assumption); (solve | (simp only [List.setIfInBounds_toArray]; exact rfl) | exact nums_set _ _ _ _ | simp only [List.setIfInBounds_toArray, List.set_cons_zero] | simp only [List.setIfInBounds_toArray, List.set_cons_zero, List.set_cons_succ] | (simp only [List.setIfInBounds_toArray, List.set_cons_zero, List.set_cons_succ]; exact rfl) | exact rfl); (first | (with_reducible exact one2) | (with_reducible exact one3)); (try clear K); (try clear ww); intro ww K; (try simp [go_sem] at K))) | (first | ((with_reducible refine at_box ?_); refine wm_box K rfl _ _ rfl rfl rfl ?_; (try clear K); (try clear ww); ((fail_if_success (have _h := b99)); intro b99 ww K); (try simp [go_sem, Value.cells] at K)) | ((with_reducible refine at_alloc ?_); refine wm_alloc (v := ?_) (cs := ?_) K rfl _ rfl ?_ ?_ ?_; rotate_left; (first | fail); rotate_left; exact rfl; (try clear K); (try clear ww); ((fail_if_success (have _h := b99)); intro b99 ww K); (try simp [go_sem, Value.cells] at K))))
            refine wm_held _ [(true, 0), (true, 1), (true, 2), (true, 3), (true, 4), (true, 9), (true, 10), (true, 11), (true, 12), (true, 13), (true, 14), (true, 15), (true, 21), (true, 22), (true, 23), (true, 24), (true, 25), (false, 5), (true, 6), (true, 7), (true, 8), (false, 16), (true, 17), (true, 18), (true, 19), (true, 20), (false, 26), (true, 27), (true, 28), (true, 29), (true, 30), (true, 31)] K (List.Sublist.refl _) (by kernel_rfl) (by kernel_rfl) ?_; (try clear K); (try clear ww); intro ww K; (try simp [go_sem] at K); simp only [pick, List.getElem?_toArray, List.getElem?_cons_succ, List.getElem?_cons_zero]
            repeat (first | ((with_reducible refine ht_load ?_); first | (refine hm_load (cs := ?_) (t := ?_) (n := ?_) rfl _ _ rfl rfl ?_ ?_ ?_ ?_; rotate_left 2; (repeat (first | exact At.hd | refine At.tl ?_)); rotate_left; (first | fail); (solve | exact rfl | simp)) | (refine hm_own (cs := ?_) (t := ?_) (v := ?_) rfl _ _ rfl rfl ?_ ?_ ?_ ?_; rotate_left 2; (repeat (first | exact At.hd | refine At.tl ?_)); rotate_left; (first | exact rfl | assumption); (first | (with_reducible exact one2) | (with_reducible exact one3))) | (refine hm_cell (v := ?_) rfl _ _ rfl rfl (fun ww K => ?_) ?_ ?_; rotate_left; (first | assumption | exact (K.below.cell (by assumption)).trans (by assumption)); (first | (with_reducible exact one2) | (with_reducible exact one3)))) | (refine held_take (fun K' hK' => ?_); go_simp; first | (refine hK' _ ?_; clear hK' K') | (apply Exists.intro; refine ⟨?_, hK' _ ?_⟩; (intro _ _; rfl); clear hK' K')) | ((with_reducible refine ht_store ?_); first | (refine hm_store (L' := ?_) (cs := ?_) (t := ?_) (n := ?_) K rfl _ _ _ rfl rfl rfl rfl ?_ ?_ ?_ ?_ ?_ ?_; rotate_left 3; (repeat (first | exact Put.hd | (refine Put.tl (L' := ?_) ?_; rotate_left))); rotate_left; (first | fail); (solve | exact rfl | simp); (solve | exact rfl | simp); (solve | exact rfl | simp [Ones, Value.oneCell']); (try clear K); (try clear ww); intro ww K; (try simp [go_sem] at K); refine ⟨(by first | exact (K).sub (List.Sublist.refl _) | exact (K.weak fun _ h => h.2).sub (List.Sublist.refl _) | exact (K.weak fun _ h => h.2.2).sub (List.Sublist.refl _) | exact (K.weak fun _ h => h.2.2.2).sub (List.Sublist.refl _) | exact (K.weak fun _ h => h.2.2.2.2).sub (List.Sublist.refl _) | exact (K.weak fun _ h => h.2.2.2.2.2).sub (List.Sublist.refl _)), ?_⟩) | (refine hm_put (L' := ?_) (cs := ?_) (new := ?_) (t := ?_) K rfl _ _ _ rfl rfl rfl rfl ?_ ?_ ?_ ?_ rfl rfl ?_; rotate_left 4; (repeat (first | exact Put.hd | (refine Put.tl (L' := ?_) ?_; rotate_left))); (solve | exact Nat.le_of_ble_eq_true rfl | decide | (simp only [List.size_toArray, nums_length]; first | assumption | omega) | (simp only [List.size_toArray, nums_length, List.length_set]; first | assumption | omega) | simp | omega | (simp only [List.size_toArray, nums_length]; omega) | assumption); (solve | (simp only [List.setIfInBounds_toArray]; exact rfl) | exact nums_set _ _ _ _ | simp only [List.setIfInBounds_toArray, List.set_cons_zero] | simp only [List.setIfInBounds_toArray, List.set_cons_zero, List.set_cons_succ] | (simp only [List.setIfInBounds_toArray, List.set_cons_zero, List.set_cons_succ]; exact rfl) | exact rfl); (first | (with_reducible exact one2) | (with_reducible exact one3)); (try clear K); (try clear ww); intro ww K; (try simp [go_sem] at K); refine ⟨(by first | exact (K).sub (List.Sublist.refl _) | exact (K.weak fun _ h => h.2).sub (List.Sublist.refl _) | exact (K.weak fun _ h => h.2.2).sub (List.Sublist.refl _) | exact (K.weak fun _ h => h.2.2.2).sub (List.Sublist.refl _) | exact (K.weak fun _ h => h.2.2.2.2).sub (List.Sublist.refl _) | exact (K.weak fun _ h => h.2.2.2.2.2).sub (List.Sublist.refl _)), ?_⟩)) | (refine held_do (fun K' hK' => ?_); go_simp; go_at_call 87; (with_reducible refine (A1.out _ K.below).mono ?_); rintro e w2 ⟨rfl, k1⟩; replace K := K.step k1; clear k1; (try clear ww); revert w2; intro ww K; (try dsimp only); refine hK' _ _ (by first | exact (K).sub (List.Sublist.refl _) | exact (K.weak fun _ h => h.2).sub (List.Sublist.refl _) | exact (K.weak fun _ h => h.2.2).sub (List.Sublist.refl _) | exact (K.weak fun _ h => h.2.2.2).sub (List.Sublist.refl _) | exact (K.weak fun _ h => h.2.2.2.2).sub (List.Sublist.refl _) | exact (K.weak fun _ h => h.2.2.2.2.2).sub (List.Sublist.refl _)) ?_; clear hK' K') | (refine held_do (fun K' hK' => ?_); go_simp; go_at_call 87; (with_reducible refine (A2.out _ K.below).mono ?_); rintro e w2 ⟨rfl, k1⟩; replace K := K.step k1; clear k1; (try clear ww); revert w2; intro ww K; (try dsimp only); refine hK' _ _ (by first | exact (K).sub (List.Sublist.refl _) | exact (K.weak fun _ h => h.2).sub (List.Sublist.refl _) | exact (K.weak fun _ h => h.2.2).sub (List.Sublist.refl _) | exact (K.weak fun _ h => h.2.2.2).sub (List.Sublist.refl _) | exact (K.weak fun _ h => h.2.2.2.2).sub (List.Sublist.refl _) | exact (K.weak fun _ h => h.2.2.2.2.2).sub (List.Sublist.refl _)) ?_; clear hK' K') | (refine held_do (fun K' hK' => ?_); go_simp; go_at_call 87; (with_reducible refine (A3.out _ K.below).mono ?_); rintro e w2 ⟨rfl, k1⟩; replace K := K.step k1; clear k1; (try clear ww); revert w2; intro ww K; (try dsimp only); refine hK' _ _ (by first | exact (K).sub (List.Sublist.refl _) | exact (K.weak fun _ h => h.2).sub (List.Sublist.refl _) | exact (K.weak fun _ h => h.2.2).sub (List.Sublist.refl _) | exact (K.weak fun _ h => h.2.2.2).sub (List.Sublist.refl _) | exact (K.weak fun _ h => h.2.2.2.2).sub (List.Sublist.refl _) | exact (K.weak fun _ h => h.2.2.2.2.2).sub (List.Sublist.refl _)) ?_; clear hK' K'))
            refine held_nil ?_
            clear f5 f6 f7 f8 f9 f10 f11
            have f12 := f12h.out
            have f13 := f13h.out
            have s1' := s1h.out
            have s2' := s2h.out
            go_wp2_with (first | go_big_skip | ((with_reducible refine at_load ?_); first | (refine wm_load (cs := ?_) (t := ?_) (n := ?_) K rfl _ _ rfl rfl ?_ ?_ ?_ ?_; rotate_left 2; (repeat (first | exact At.hd | refine At.tl ?_)); rotate_left; (first | fail); (solve | exact rfl | simp)) | (refine wm_own (cs := ?_) (t := ?_) (v := ?_) K rfl _ _ rfl rfl ?_ ?_ ?_ ?_; rotate_left 2; (repeat (first | exact At.hd | refine At.tl ?_)); rotate_left; (first | exact rfl | assumption); (first | (with_reducible exact one2) | (with_reducible exact one3))) | (refine wm_cell (v := ?_) rfl _ _ rfl rfl ?_ ?_ ?_; rotate_left; (first | assumption | exact (K.below.cell (by assumption)).trans (by assumption)); (first | (with_reducible exact one2) | (with_reducible exact one3)))) | ((with_reducible refine at_store ?_); first | (refine wm_store (L' := ?_) (cs := ?_) (t := ?_) (n := ?_) K rfl _ _ _ rfl rfl rfl rfl ?_ ?_ ?_ ?_ ?_ ?_; rotate_left 3; (repeat (first | exact Put.hd | (refine Put.tl (L' := ?_) ?_; rotate_left))); rotate_left; (first | fail); (solve | exact rfl | simp); (solve | exact rfl | simp); (solve | exact rfl | simp [Ones, Value.oneCell']); (try clear K); (try clear ww); intro ww K; (try simp [go_sem] at K)) | (refine wm_put (L' := ?_) (cs := ?_) (new := ?_) (t := ?_) K rfl _ _ _ rfl rfl rfl rfl ?_ ?_ ?_ ?_ rfl rfl ?_; rotate_left 4; (repeat (first | exact Put.hd | (refine Put.tl (L' := ?_) ?_; rotate_left))); (solve | exact Nat.le_of_ble_eq_true rfl | decide | (simp only [List.size_toArray, nums_length]; first | assumption | omega) | (simp only [List.size_toArray, nums_length, List.length_set]; first | assumption | omega) | simp | omega | (simp only [List.size_toArray, nums_length]; omega) | assumption); (solve | (simp only [List.setIfInBounds_toArray]; exact rfl) | exact nums_set _ _ _ _ | simp only [List.setIfInBounds_toArray, List.set_cons_zero] | simp only [List.setIfInBounds_toArray, List.set_cons_zero, List.set_cons_succ] | (simp only [List.setIfInBounds_toArray, List.set_cons_zero, List.set_cons_succ]; exact rfl) | exact rfl); (first | (with_reducible exact one2) | (with_reducible exact one3)); (try clear K); (try clear ww); intro ww K; (try simp [go_sem] at K))) | (first | ((with_reducible refine at_box ?_); refine wm_box K rfl _ _ rfl rfl rfl ?_; (try clear K); (try clear ww); ((fail_if_success (have _h := b99)); intro b99 ww K); (try simp [go_sem, Value.cells] at K)) | ((with_reducible refine at_alloc ?_); refine wm_alloc (v := ?_) (cs := ?_) K rfl _ rfl ?_ ?_ ?_; rotate_left; (first | fail); rotate_left; exact rfl; (try clear K); (try clear ww); ((fail_if_success (have _h := b99)); intro b99 ww K); (try simp [go_sem, Value.cells] at K))))
            rw [f13] at K
            clear f12 f13 s1' s2'
            exact ⟨⟨e + 1, _, by omega, by go_num, HN2, K⟩, by simp [intOf]; omega⟩
          · obtain rfl : e = p := by omega
            have ht2 : decide ((e : Int) < e) = false := decide_eq_false (by omega)
            have HU2 : Hid (cur.size = n ∧ cur.toList.take n = ints .i64 (T.take ((r + 1) * e) ++ Z.drop ((r + 1) * e))) := Lib.hid (by rw [Nat.succ_mul]; exact HU.out)
            go_wp2_with fail
            exact ⟨⟨r + 1, cur, by omega, by go_num, HU2, K⟩, by simp [intOf]; omega⟩
      · obtain rfl : r = q := by omega
        have ht : decide ((r : Int) < r) = false := decide_eq_false (by omega)
        have hlast : cur.toList.take n = ints .i64 T := by
          have h1 := HU.out.2
          rw [show r * p = n from HN.out.1, show T.take n = T from List.take_of_length_le (by rw [HTL.out]; omega), show Z.drop n = [] from List.drop_of_length_le (by rw [HZL.out]; omega), List.append_nil] at h1
          exact h1
        have HX := Lib.hid (And.intro hlast (show n ≤ cur.size by rw [HU.out.1]; exact Nat.le_refl _))
        clear hlast
        go_wp2_with (first | go_big_skip | ((with_reducible refine at_load ?_); first | (refine wm_load (cs := ?_) (t := ?_) (n := ?_) K rfl _ _ rfl rfl ?_ ?_ ?_ ?_; rotate_left 2; (repeat (first | exact At.hd | refine At.tl ?_)); rotate_left; (first | fail); (solve | exact rfl | simp)) | (refine wm_own (cs := ?_) (t := ?_) (v := ?_) K rfl _ _ rfl rfl ?_ ?_ ?_ ?_; rotate_left 2; (repeat (first | exact At.hd | refine At.tl ?_)); rotate_left; (first | exact rfl | assumption); (first | (with_reducible exact one2) | (with_reducible exact one3))) | (refine wm_cell (v := ?_) rfl _ _ rfl rfl ?_ ?_ ?_; rotate_left; (first | assumption | exact (K.below.cell (by assumption)).trans (by assumption)); (first | (with_reducible exact one2) | (with_reducible exact one3)))) | ((with_reducible refine at_store ?_); first | (refine wm_store (L' := ?_) (cs := ?_) (t := ?_) (n := ?_) K rfl _ _ _ rfl rfl rfl rfl ?_ ?_ ?_ ?_ ?_ ?_; rotate_left 3; (repeat (first | exact Put.hd | (refine Put.tl (L' := ?_) ?_; rotate_left))); rotate_left; (first | fail); (solve | exact rfl | simp); (solve | exact rfl | simp); (solve | exact rfl | simp [Ones, Value.oneCell']); (try clear K); (try clear ww); intro ww K; (try simp [go_sem] at K)) | (refine wm_put (L' := ?_) (cs := ?_) (new := ?_) (t := ?_) K rfl _ _ _ rfl rfl rfl rfl ?_ ?_ ?_ ?_ rfl rfl ?_; rotate_left 4; (repeat (first | exact Put.hd | (refine Put.tl (L' := ?_) ?_; rotate_left))); (solve | exact Nat.le_of_ble_eq_true rfl | decide | (simp only [List.size_toArray, nums_length]; first | assumption | omega) | (simp only [List.size_toArray, nums_length, List.length_set]; first | assumption | omega) | simp | omega | (simp only [List.size_toArray, nums_length]; omega) | assumption); (solve | (simp only [List.setIfInBounds_toArray]; exact rfl) | exact nums_set _ _ _ _ | simp only [List.setIfInBounds_toArray, List.set_cons_zero] | simp only [List.setIfInBounds_toArray, List.set_cons_zero, List.set_cons_succ] | (simp only [List.setIfInBounds_toArray, List.set_cons_zero, List.set_cons_succ]; exact rfl) | exact rfl); (first | (with_reducible exact one2) | (with_reducible exact one3)); (try clear K); (try clear ww); intro ww K; (try simp [go_sem] at K))) | (first | ((with_reducible refine at_box ?_); refine wm_box K rfl _ _ rfl rfl rfl ?_; (try clear K); (try clear ww); ((fail_if_success (have _h := b99)); intro b99 ww K); (try simp [go_sem, Value.cells] at K)) | ((with_reducible refine at_alloc ?_); refine wm_alloc (v := ?_) (cs := ?_) K rfl _ rfl ?_ ?_ ?_; rotate_left; (first | fail); rotate_left; exact rfl; (try clear K); (try clear ww); ((fail_if_success (have _h := b99)); intro b99 ww K); (try simp [go_sem, Value.cells] at K))))
        go_ret
        exact ⟨some ⟨g, 0, none⟩, n, rfl, ⟨by rw [HTE.out]; exact (sl_take (K.get .hd) HX.out.1 HX.out.2).rd, Nw.mk _ _ _ (K.ge .hd)⟩, K.below⟩
set_option maxRecDepth 100000 in
set_option maxHeartbeats 4000000 in
theorem GPassY14 (qq : Int) (p q gb qb : Nat) (A : Option Addr) (n c : Nat) (zs : List Int) (w : World) (h : Rd w A n (ints .i64 zs)) (hb : ∀ z ∈ zs, 0 ≤ z ∧ z ≤ 1073741824) (hn : q * p = n) (hp : 1 ≤ p ∧ p ≤ 64) (hq : 1 ≤ q ∧ q ≤ 64) (hqq : 0 ≤ qq ∧ qq ≤ 85)
    (hgb : gb < w.heap.size) (hqb : qb < w.heap.size) (hc0 : w.cell? ⟨gb, 0, none⟩ = some (.int .i64 p)) (hc1 : w.cell? ⟨gb, 1, none⟩ = some (.int .i64 q)) (hcq : w.cell? ⟨qb, 0, none⟩ = some (.int .i64 qq)) :
    Calls Try.prog 86 #[.slice A n c, .func (.func 89) #[] #[.pointer (some ⟨gb, 0, none⟩)], .pointer (some ⟨gb, 0, none⟩), .pointer (some ⟨qb, 0, none⟩)] w fun e w' => ∃ A2 c2, e = .returned (.slice A2 n c2) ∧ (Rd w' A2 n (ints .i64 (spr14 n qq (colA p) (colB p q) zs)) ∧ Nw w.heap.size A2) ∧ Below w.heap.size w w' := by
    have K := St.start w
    have hl : zs.length = n := by rw [← h.1, ints_len]
    have hn4 : n ≤ 4096 := by
      have := Nat.mul_le_mul hq.2 hp.2
      omega
    have m1' : 8 * n ≤ 281474976710656 := by omega
    have m2' : n ≤ 4611686018427387904 := by omega
    have HR := Lib.hid h
    have HL := Lib.hid hl
    have HZ := Lib.hid hb
    have HN := Lib.hid (And.intro hn (And.intro hp (And.intro hq (And.intro hqq hn4))))
    have hp64 : p ≤ 64 := hp.2
    have hq64 : q ≤ 64 := hq.2
    have AT := Lib.hid (fun (x y d r : Int) (hx : 0 ≤ x ∧ x ≤ 64) (hy : 0 ≤ y ∧ y ≤ 64) (hd : -1 ≤ d ∧ d ≤ 1) (w' : World) (hbel : Below w.heap.size w w') => fun hr => GAtY14 x y d r p q gb w' (Nat.lt_of_lt_of_le hgb hbel.size) ((hbel.cell hgb).trans hc0) ((hbel.cell hgb).trans hc1) hp hq hx hy hd hr)
    obtain ⟨T, hT⟩ : ∃ T, spr14 n qq (colA p) (colB p q) zs = T := ⟨_, rfl⟩
    have HTE := Lib.hid hT
    have HTL : Hid (T.length = n) := Lib.hid (by rw [← hT]; exact spr_len _ _ _ _ _)
    have HTG : Hid (∀ k, k < n → T.getD k 0 = sprv qq (colA p) (colB p q) zs k) := Lib.hid (fun k hk => by rw [← hT]; exact gen_get _ hk)
    clear hT
    obtain ⟨Z, hZ⟩ : ∃ Z : List Int, List.replicate n 0 = Z := ⟨_, rfl⟩
    have HZL : Hid (Z.length = n) := Lib.hid (by rw [← hZ]; simp)
    have HZE := Lib.hid hZ
    clear h hl hb hn hp hq hqq hZ hn4
    go_enter Try.func86, Try.ntmps86
    go_wp2_with (first | ((with_reducible refine at_makeSl ?_); refine wm_make K rfl _ _ _ rfl Try.underlying45 num2 n rfl rfl (by omega) (by omega) (by omega) (by omega) ?_; (try clear K); (try clear ww); intro g ww K) | go_big_skip | ((with_reducible refine at_load ?_); first | (refine wm_load (cs := ?_) (t := ?_) (n := ?_) K rfl _ _ rfl rfl ?_ ?_ ?_ ?_; rotate_left 2; (repeat (first | exact At.hd | refine At.tl ?_)); rotate_left; (first | fail); (solve | exact rfl | simp)) | (refine wm_own (cs := ?_) (t := ?_) (v := ?_) K rfl _ _ rfl rfl ?_ ?_ ?_ ?_; rotate_left 2; (repeat (first | exact At.hd | refine At.tl ?_)); rotate_left; (first | exact rfl | assumption); (first | (with_reducible exact one2) | (with_reducible exact one3))) | (refine wm_cell (v := ?_) rfl _ _ rfl rfl ?_ ?_ ?_; rotate_left; (first | assumption | exact (K.below.cell (by assumption)).trans (by assumption)); (first | (with_reducible exact one2) | (with_reducible exact one3)))) | ((with_reducible refine at_store ?_); first | (refine wm_store (L' := ?_) (cs := ?_) (t := ?_) (n := ?_) K rfl _ _ _ rfl rfl rfl rfl ?_ ?_ ?_ ?_ ?_ ?_; rotate_left 3; (repeat (first | exact Put.hd | (refine Put.tl (L' := ?_) ?_; rotate_left))); rotate_left; (first | fail); (solve | exact rfl | simp); (solve | exact rfl | simp); (solve | exact rfl | simp [Ones, Value.oneCell']); (try clear K); (try clear ww); intro ww K; (try simp [go_sem] at K)) | (refine wm_put (L' := ?_) (cs := ?_) (new := ?_) (t := ?_) K rfl _ _ _ rfl rfl rfl rfl ?_ ?_ ?_ ?_ rfl rfl ?_; rotate_left 4; (repeat (first | exact Put.hd | (refine Put.tl (L' := ?_) ?_; rotate_left))); (solve | exact Nat.le_of_ble_eq_true rfl | decide | (simp only [List.size_toArray, nums_length]; first | assumption | omega) | (simp only [List.size_toArray, nums_length, List.length_set]; first | assumption | omega) | simp | omega | (simp only [List.size_toArray, nums_length]; omega) | assumption); (solve | (simp only [List.setIfInBounds_toArray]; exact rfl) | exact nums_set _ _ _ _ | simp only [List.setIfInBounds_toArray, List.set_cons_zero] | simp only [List.setIfInBounds_toArray, List.set_cons_zero, List.set_cons_succ] | (simp only [List.setIfInBounds_toArray, List.set_cons_zero, List.set_cons_succ]; exact rfl) | exact rfl); (first | (with_reducible exact one2) | (with_reducible exact one3)); (try clear K); (try clear ww); intro ww K; (try simp [go_sem] at K))) | (first | ((with_reducible refine at_box ?_); refine wm_box K rfl _ _ rfl rfl rfl ?_; (try clear K); (try clear ww); ((fail_if_success (have _h := b99)); intro b99 ww K); (try simp [go_sem, Value.cells] at K)) | ((with_reducible refine at_alloc ?_); refine wm_alloc (v := ?_) (cs := ?_) K rfl _ rfl ?_ ?_ ?_; rotate_left; (first | fail); rotate_left; exact rfl; (try clear K); (try clear ww); ((fail_if_success (have _h := b99)); intro b99 ww K); (try simp [go_sem, Value.cells] at K))))
    have HZ0 : Hid (((nums .i64 (List.replicate n 0)).toArray : Array Value).size = n ∧ ((nums .i64 (List.replicate n 0)).toArray : Array Value).toList.take n = ints .i64 (T.take (0 * p) ++ Z.drop (0 * p))) := Lib.hid (by
      rw [Nat.zero_mul, List.take_zero, List.drop_zero, List.nil_append, ← HZE.out]; exact zeros_at n)
    generalize (nums .i64 (List.replicate n 0)).toArray = cur0 at *
    go_loopw [16] (fun i wr => ∃ (r : Nat) (cur : Array Value), r ≤ q ∧ i = .int .i64 r ∧ Hid (cur.size = n ∧ cur.toList.take n = ints .i64 (T.take (r * p) ++ Z.drop (r * p))) ∧ St w.heap.size w [(g, cur, 2)] Any wr) (fun i _ => q - (intOf i).toNat)
    case atStart => exact ⟨0, cur0, Nat.zero_le _, rfl, HZ0, K⟩
    case round =>
      clear K HZ0
      obtain ⟨r, cur, hr, rfl, HU, K⟩ := hrel
      by_cases hrq : r < q
      · have ht : decide ((r : Int) < q) = true := decide_eq_true (by omega)
        go_wp2_with (first | go_big_skip | ((with_reducible refine at_load ?_); first | (refine wm_load (cs := ?_) (t := ?_) (n := ?_) K rfl _ _ rfl rfl ?_ ?_ ?_ ?_; rotate_left 2; (repeat (first | exact At.hd | refine At.tl ?_)); rotate_left; (first | fail); (solve | exact rfl | simp)) | (refine wm_own (cs := ?_) (t := ?_) (v := ?_) K rfl _ _ rfl rfl ?_ ?_ ?_ ?_; rotate_left 2; (repeat (first | exact At.hd | refine At.tl ?_)); rotate_left; (first | exact rfl | assumption); (first | (with_reducible exact one2) | (with_reducible exact one3))) | (refine wm_cell (v := ?_) rfl _ _ rfl rfl ?_ ?_ ?_; rotate_left; (first | assumption | exact (K.below.cell (by assumption)).trans (by assumption)); (first | (with_reducible exact one2) | (with_reducible exact one3)))) | ((with_reducible refine at_store ?_); first | (refine wm_store (L' := ?_) (cs := ?_) (t := ?_) (n := ?_) K rfl _ _ _ rfl rfl rfl rfl ?_ ?_ ?_ ?_ ?_ ?_; rotate_left 3; (repeat (first | exact Put.hd | (refine Put.tl (L' := ?_) ?_; rotate_left))); rotate_left; (first | fail); (solve | exact rfl | simp); (solve | exact rfl | simp); (solve | exact rfl | simp [Ones, Value.oneCell']); (try clear K); (try clear ww); intro ww K; (try simp [go_sem] at K)) | (refine wm_put (L' := ?_) (cs := ?_) (new := ?_) (t := ?_) K rfl _ _ _ rfl rfl rfl rfl ?_ ?_ ?_ ?_ rfl rfl ?_; rotate_left 4; (repeat (first | exact Put.hd | (refine Put.tl (L' := ?_) ?_; rotate_left))); (solve | exact Nat.le_of_ble_eq_true rfl | decide | (simp only [List.size_toArray, nums_length]; first | assumption | omega) | (simp only [List.size_toArray, nums_length, List.length_set]; first | assumption | omega) | simp | omega | (simp only [List.size_toArray, nums_length]; omega) | assumption); (solve | (simp only [List.setIfInBounds_toArray]; exact rfl) | exact nums_set _ _ _ _ | simp only [List.setIfInBounds_toArray, List.set_cons_zero] | simp only [List.setIfInBounds_toArray, List.set_cons_zero, List.set_cons_succ] | (simp only [List.setIfInBounds_toArray, List.set_cons_zero, List.set_cons_succ]; exact rfl) | exact rfl); (first | (with_reducible exact one2) | (with_reducible exact one3)); (try clear K); (try clear ww); intro ww K; (try simp [go_sem] at K))) | (first | ((with_reducible refine at_box ?_); refine wm_box K rfl _ _ rfl rfl rfl ?_; (try clear K); (try clear ww); ((fail_if_success (have _h := b99)); intro b99 ww K); (try simp [go_sem, Value.cells] at K)) | ((with_reducible refine at_alloc ?_); refine wm_alloc (v := ?_) (cs := ?_) K rfl _ rfl ?_ ?_ ?_; rotate_left; (first | fail); rotate_left; exact rfl; (try clear K); (try clear ww); ((fail_if_success (have _h := b99)); intro b99 ww K); (try simp [go_sem, Value.cells] at K))))
        go_loopw [21] (fun i wr => ∃ (e : Nat) (cur : Array Value), e ≤ p ∧ i = .int .i64 e ∧ Hid (cur.size = n ∧ cur.toList.take n = ints .i64 (T.take (r * p + e) ++ Z.drop (r * p + e))) ∧ St w.heap.size w [(g, cur, 2)] Any wr) (fun i _ => p - (intOf i).toNat)
        case atStart => exact ⟨0, cur, Nat.zero_le _, rfl, HU, K⟩
        case round =>
          clear K HU
          obtain ⟨e, cur, he, rfl, HU, K⟩ := hrel
          by_cases hep : e < p
          · have ht2 : decide ((e : Int) < p) = true := decide_eq_true (by omega)
            obtain ⟨hn, hp, hq, hqq, hn4⟩ := HN.out
            obtain ⟨i1, i2, i3⟩ := col_ix (p := p) (q := q) hep hrq
            have hkn : r * p + e < n := by
              have h1 := Nat.mul_le_mul_right p (show r + 1 ≤ q by omega)
              rw [Nat.succ_mul, hn] at h1; omega
            obtain ⟨l1, l2, l3, l4⟩ := near_lt (W := p) (H := q) (k := r * p + e) (by omega) (by omega) (by omega)
            rw [hn] at l1 l2 l3 l4
            have hl1 : colA p (r * p + e) < n := by first | exact l1 | exact l3
            have hl2 : colB p q (r * p + e) < n := by first | exact l2 | exact l4
            have A1 := Lib.hid (fun (w' : World) (hb : Below w.heap.size w w') => AT.out (e : Int) (r : Int) (-1) _ (by omega) (by omega) (by omega) w' hb i1)
            have A2 := Lib.hid (fun (w' : World) (hb : Below w.heap.size w w') => AT.out (e : Int) (r : Int) 0 _ (by omega) (by omega) (by omega) w' hb i2)
            have A3 := Lib.hid (fun (w' : World) (hb : Below w.heap.size w w') => AT.out (e : Int) (r : Int) 1 _ (by omega) (by omega) (by omega) w' hb i3)
            clear i1 i2 i3 l1 l2 l3 l4
            have hE := HTG.out _ hkn
            unfold sprv sprn at hE
            dsimp only at hE
            have gg := getD_all (P := fun z => 0 ≤ z ∧ z ≤ 1073741824) (by omega) HZ.out
            obtain ⟨jl, hjl⟩ : ∃ j, colA p (r * p + e) = j := ⟨_, rfl⟩
            obtain ⟨jr, hjr⟩ : ∃ j, colB p q (r * p + e) = j := ⟨_, rfl⟩
            rw [hjl] at hl1 hE A1
            rw [hjr] at hl2 hE A3
            clear hjl hjr
            obtain ⟨R, hR⟩ : ∃ R, r * p = R := ⟨_, rfl⟩
            obtain ⟨k, hk⟩ : ∃ k, R + e = k := ⟨_, rfl⟩
            rw [hR, hk] at hkn hE A2
            have HK : Hid (r * p + e = k ∧ r * p + (e + 1) = k + 1) := Lib.hid (by rw [hR]; omega)
            have HU2 : Hid (cur.size = n ∧ cur.toList.take n = ints .i64 (T.take k ++ Z.drop k)) := Lib.hid (by have := HU.out; rw [HK.out.1] at this; exact this)
            have hbd := sprn_bd hqq (gg jl) (gg k) (gg jr)
            obtain ⟨b0, off, rfl, hbb, hc⟩ := HR.out.get hkn
            have hv0 := hc k _ (ints_get .i64 zs k (by rw [HL.out]; exact hkn))
            have hv1 := hc jl _ (ints_get .i64 zs jl (by rw [HL.out]; exact hl1))
            have hv2 := hc jr _ (ints_get .i64 zs jr (by rw [HL.out]; exact hl2))
            generalize zs.getD jl 0 = z1 at *
            generalize zs.getD jr 0 = z2 at *
            generalize zs.getD k 0 = z0 at *
            obtain ⟨t2, ht2'⟩ : ∃ t2, 2 * qq = t2 := ⟨_, rfl⟩
            rw [ht2'] at hbd hE
            obtain ⟨t3, ht3⟩ : ∃ t3, 256 - t2 = t3 := ⟨_, rfl⟩
            rw [ht3] at hbd hE
            obtain ⟨m1, hm1⟩ : ∃ m1, qq * z1 = m1 := ⟨_, rfl⟩
            obtain ⟨m2, hm2⟩ : ∃ m2, t3 * z0 = m2 := ⟨_, rfl⟩
            obtain ⟨m3, hm3⟩ : ∃ m3, qq * z2 = m3 := ⟨_, rfl⟩
            rw [hm1, hm2, hm3] at hbd hE
            obtain ⟨s1, hs1⟩ : ∃ s1, m1 + m2 = s1 := ⟨_, rfl⟩
            rw [hs1] at hbd hE
            obtain ⟨s2, hs2⟩ : ∃ s2, s1 + m3 = s2 := ⟨_, rfl⟩
            rw [hs2] at hbd hE
            obtain ⟨v, hv⟩ : ∃ v, s2 / 256 = v := ⟨_, rfl⟩
            rw [hv] at hbd hE
            have hnew := mix_set HTL.out HZL.out hkn
            rw [hE] at hnew
            have hput := row_put (i := k) (x := v) HU2.out.2
            rw [hnew] at hput
            have HN2 : Hid ((cur.setIfInBounds k (.int .i64 v)).size = n ∧ (cur.setIfInBounds k (.int .i64 v)).toList.take n = ints .i64 (T.take (r * p + (e + 1)) ++ Z.drop (r * p + (e + 1)))) := Lib.hid (by rw [HK.out.2]; exact ⟨by rw [Array.size_setIfInBounds]; exact HU2.out.1, hput⟩)
            have hink : k < cur.size := by rw [HU2.out.1]; exact hkn
            have f5h : Hid (IntKind.i64.wrap (2 * qq) = t2) := Lib.hid ((IntWalk.i64_in _ (by omega)).trans ht2')
            have f6h : Hid (IntKind.i64.wrap (256 - t2) = t3) := Lib.hid ((IntWalk.i64_in _ (by omega)).trans ht3)
            have f7h : Hid (IntKind.i64.wrap (qq * z1) = m1) := Lib.hid ((IntWalk.i64_in _ (by omega)).trans hm1)
            have f8h : Hid (IntKind.i64.wrap (t3 * z0) = m2) := Lib.hid ((IntWalk.i64_in _ (by omega)).trans hm2)
            have f9h : Hid (IntKind.i64.wrap (qq * z2) = m3) := Lib.hid ((IntWalk.i64_in _ (by omega)).trans hm3)
            have f10h : Hid (IntKind.i64.wrap (m1 + m2) = s1) := Lib.hid ((IntWalk.i64_in _ (by omega)).trans hs1)
            have f11h : Hid (IntKind.i64.wrap (s1 + m3) = s2) := Lib.hid ((IntWalk.i64_in _ (by omega)).trans hs2)
            have f12h : Hid (s2.tdiv 256 = v) := Lib.hid (by rw [Int.tdiv_eq_ediv_of_nonneg (by omega)]; exact hv)
            have f13h : Hid (wrap64 v = v) := Lib.hid (w64 (by omega) (by omega))
            have s1h : Hid (wrap64 ((r : Int) * (p : Int)) = (R : Int)) := Lib.hid (by rw [← Int.natCast_mul, hR]; exact w64 (by omega) (by omega))
            have s2h : Hid (wrap64 ((R : Int) + (e : Int)) = (k : Int)) := Lib.hid (w64e (by omega) (by omega) (by omega))
            clear hn hp hq hqq hn4 gg hbd hE hc ht2' ht3 hm1 hm2 hm3 hs1 hs2 hv hnew hput hR hk
            have f5 := f5h.out
            have f6 := f6h.out
            have f7 := f7h.out
            have f8 := f8h.out
            have f9 := f9h.out
            have f10 := f10h.out
            have f11 := f11h.out
            go_wp2_with (first | go_big_skip | ((with_reducible refine at_load ?_); first | (refine wm_load (cs := ?_) (t := ?_) (n := ?_) K rfl _ _ rfl rfl ?_ ?_ ?_ ?_; rotate_left 2; (repeat (first | exact At.hd | refine At.tl ?_)); rotate_left; (first | fail); (solve | exact rfl | simp)) | (refine wm_own (cs := ?_) (t := ?_) (v := ?_) K rfl _ _ rfl rfl ?_ ?_ ?_ ?_; rotate_left 2; (repeat (first | exact At.hd | refine At.tl ?_)); rotate_left; (first | exact rfl | assumption); (first | (with_reducible exact one2) | (with_reducible exact one3))) | (refine wm_cell (v := ?_) rfl _ _ rfl rfl ?_ ?_ ?_; rotate_left; (first | assumption | exact (K.below.cell (by assumption)).trans (by assumption)); (first | (with_reducible exact one2) | (with_reducible exact one3)))) | ((with_reducible refine at_store ?_); first | (refine wm_store (L' := ?_) (cs := ?_) (t := ?_) (n := ?_) K rfl _ _ _ rfl rfl rfl rfl ?_ ?_ ?_ ?_ ?_ ?_; rotate_left 3; (repeat (first | exact Put.hd | (refine Put.tl (L' := ?_) ?_; rotate_left))); rotate_left; (first | fail); (solve | exact rfl | simp); (solve | exact rfl | simp); (solve | exact rfl | simp [Ones, Value.oneCell']); (try clear K); (try clear ww); intro ww K; (try simp [go_sem] at K)) | (refine wm_put (L' := ?_) (cs := ?_) (new := ?_) (t := ?_) K rfl _ _ _ rfl rfl rfl rfl ?_ ?_ ?_ ?_ rfl rfl ?_; rotate_left 4; (repeat (first | exact Put.hd | (refine Put.tl (L' := ?_) ?_; rotate_left))); (solve | exact Nat.le_of_ble_eq_true rfl | decide | (simp only [List.size_toArray, nums_length]; first | assumption | omega) | (simp only [List.size_toArray, nums_length, List.length_set]; first | assumption | omega) | simp | omega | (simp only [List.size_toArray, nums_length]; omega) | assumption); (solve | (simp only [List.setIfInBounds_toArray]; exact rfl) | exact nums_set _ _ _ _ | simp only [List.setIfInBounds_toArray, List.set_cons_zero] | simp only [List.setIfInBounds_toArray, List.set_cons_zero, List.set_cons_succ] | (simp only [List.setIfInBounds_toArray, List.set_cons_zero, List.set_cons_succ]; exact rfl) | exact rfl); (first | (with_reducible exact one2) | (with_reducible exact one3)); (try clear K); (try clear ww); intro ww K; (try simp [go_sem] at K))) | (first | ((with_reducible refine at_box ?_); refine wm_box K rfl _ _ rfl rfl rfl ?_; (try clear K); (try clear ww); ((fail_if_success (have _h := b99)); intro b99 ww K); (try simp [go_sem, Value.cells] at K)) | ((with_reducible refine at_alloc ?_); refine wm_alloc (v := ?_) (cs := ?_) K rfl _ rfl ?_ ?_ ?_; rotate_left; (first | fail); rotate_left; exact rfl; (try clear K); (try clear ww); ((fail_if_success (have _h := b99)); intro b99 ww K); (try simp [go_sem, Value.cells] at K))))
            refine wm_held _ [(true, 0), (true, 1), (true, 2), (true, 3), (true, 4), (true, 9), (true, 10), (true, 11), (true, 12), (true, 13), (true, 14), (true, 15), (true, 21), (true, 22), (true, 23), (true, 24), (true, 25), (false, 5), (true, 6), (true, 7), (true, 8), (false, 16), (true, 17), (true, 18), (true, 19), (true, 20), (false, 26), (true, 27), (true, 28), (true, 29), (true, 30), (true, 31)] K (List.Sublist.refl _) (by kernel_rfl) (by kernel_rfl) ?_; (try clear K); (try clear ww); intro ww K; (try simp [go_sem] at K); simp only [pick, List.getElem?_toArray, List.getElem?_cons_succ, List.getElem?_cons_zero]
            repeat (first | ((with_reducible refine ht_load ?_); first | (refine hm_load (cs := ?_) (t := ?_) (n := ?_) rfl _ _ rfl rfl ?_ ?_ ?_ ?_; rotate_left 2; (repeat (first | exact At.hd | refine At.tl ?_)); rotate_left; (first | fail); (solve | exact rfl | simp)) | (refine hm_own (cs := ?_) (t := ?_) (v := ?_) rfl _ _ rfl rfl ?_ ?_ ?_ ?_; rotate_left 2; (repeat (first | exact At.hd | refine At.tl ?_)); rotate_left; (first | exact rfl | assumption); (first | (with_reducible exact one2) | (with_reducible exact one3))) | (refine hm_cell (v := ?_) rfl _ _ rfl rfl (fun ww K => ?_) ?_ ?_; rotate_left; (first | assumption | exact (K.below.cell (by assumption)).trans (by assumption)); (first | (with_reducible exact one2) | (with_reducible exact one3)))) | (refine held_take (fun K' hK' => ?_); go_simp; first | (refine hK' _ ?_; clear hK' K') | (apply Exists.intro; refine ⟨?_, hK' _ ?_⟩; (intro _ _; rfl); clear hK' K')) | ((with_reducible refine ht_store ?_); first | (refine hm_store (L' := ?_) (cs := ?_) (t := ?_) (n := ?_) K rfl _ _ _ rfl rfl rfl rfl ?_ ?_ ?_ ?_ ?_ ?_; rotate_left 3; (repeat (first | exact Put.hd | (refine Put.tl (L' := ?_) ?_; rotate_left))); rotate_left; (first | fail); (solve | exact rfl | simp); (solve | exact rfl | simp); (solve | exact rfl | simp [Ones, Value.oneCell']); (try clear K); (try clear ww); intro ww K; (try simp [go_sem] at K); refine ⟨(by first | exact (K).sub (List.Sublist.refl _) | exact (K.weak fun _ h => h.2).sub (List.Sublist.refl _) | exact (K.weak fun _ h => h.2.2).sub (List.Sublist.refl _) | exact (K.weak fun _ h => h.2.2.2).sub (List.Sublist.refl _) | exact (K.weak fun _ h => h.2.2.2.2).sub (List.Sublist.refl _) | exact (K.weak fun _ h => h.2.2.2.2.2).sub (List.Sublist.refl _)), ?_⟩) | (refine hm_put (L' := ?_) (cs := ?_) (new := ?_) (t := ?_) K rfl _ _ _ rfl rfl rfl rfl ?_ ?_ ?_ ?_ rfl rfl ?_; rotate_left 4; (repeat (first | exact Put.hd | (refine Put.tl (L' := ?_) ?_; rotate_left))); (solve | exact Nat.le_of_ble_eq_true rfl | decide | (simp only [List.size_toArray, nums_length]; first | assumption | omega) | (simp only [List.size_toArray, nums_length, List.length_set]; first | assumption | omega) | simp | omega | (simp only [List.size_toArray, nums_length]; omega) | assumption); (solve | (simp only [List.setIfInBounds_toArray]; exact rfl) | exact nums_set _ _ _ _ | simp only [List.setIfInBounds_toArray, List.set_cons_zero] | simp only [List.setIfInBounds_toArray, List.set_cons_zero, List.set_cons_succ] | (simp only [List.setIfInBounds_toArray, List.set_cons_zero, List.set_cons_succ]; exact rfl) | exact rfl); (first | (with_reducible exact one2) | (with_reducible exact one3)); (try clear K); (try clear ww); intro ww K; (try simp [go_sem] at K); refine ⟨(by first | exact (K).sub (List.Sublist.refl _) | exact (K.weak fun _ h => h.2).sub (List.Sublist.refl _) | exact (K.weak fun _ h => h.2.2).sub (List.Sublist.refl _) | exact (K.weak fun _ h => h.2.2.2).sub (List.Sublist.refl _) | exact (K.weak fun _ h => h.2.2.2.2).sub (List.Sublist.refl _) | exact (K.weak fun _ h => h.2.2.2.2.2).sub (List.Sublist.refl _)), ?_⟩)) | (refine held_do (fun K' hK' => ?_); go_simp; go_at_call 89; (with_reducible refine (A1.out _ K.below).mono ?_); rintro e w2 ⟨rfl, k1⟩; replace K := K.step k1; clear k1; (try clear ww); revert w2; intro ww K; (try dsimp only); refine hK' _ _ (by first | exact (K).sub (List.Sublist.refl _) | exact (K.weak fun _ h => h.2).sub (List.Sublist.refl _) | exact (K.weak fun _ h => h.2.2).sub (List.Sublist.refl _) | exact (K.weak fun _ h => h.2.2.2).sub (List.Sublist.refl _) | exact (K.weak fun _ h => h.2.2.2.2).sub (List.Sublist.refl _) | exact (K.weak fun _ h => h.2.2.2.2.2).sub (List.Sublist.refl _)) ?_; clear hK' K') | (refine held_do (fun K' hK' => ?_); go_simp; go_at_call 89; (with_reducible refine (A2.out _ K.below).mono ?_); rintro e w2 ⟨rfl, k1⟩; replace K := K.step k1; clear k1; (try clear ww); revert w2; intro ww K; (try dsimp only); refine hK' _ _ (by first | exact (K).sub (List.Sublist.refl _) | exact (K.weak fun _ h => h.2).sub (List.Sublist.refl _) | exact (K.weak fun _ h => h.2.2).sub (List.Sublist.refl _) | exact (K.weak fun _ h => h.2.2.2).sub (List.Sublist.refl _) | exact (K.weak fun _ h => h.2.2.2.2).sub (List.Sublist.refl _) | exact (K.weak fun _ h => h.2.2.2.2.2).sub (List.Sublist.refl _)) ?_; clear hK' K') | (refine held_do (fun K' hK' => ?_); go_simp; go_at_call 89; (with_reducible refine (A3.out _ K.below).mono ?_); rintro e w2 ⟨rfl, k1⟩; replace K := K.step k1; clear k1; (try clear ww); revert w2; intro ww K; (try dsimp only); refine hK' _ _ (by first | exact (K).sub (List.Sublist.refl _) | exact (K.weak fun _ h => h.2).sub (List.Sublist.refl _) | exact (K.weak fun _ h => h.2.2).sub (List.Sublist.refl _) | exact (K.weak fun _ h => h.2.2.2).sub (List.Sublist.refl _) | exact (K.weak fun _ h => h.2.2.2.2).sub (List.Sublist.refl _) | exact (K.weak fun _ h => h.2.2.2.2.2).sub (List.Sublist.refl _)) ?_; clear hK' K'))
            refine held_nil ?_
            clear f5 f6 f7 f8 f9 f10 f11
            have f12 := f12h.out
            have f13 := f13h.out
            have s1' := s1h.out
            have s2' := s2h.out
            go_wp2_with (first | go_big_skip | ((with_reducible refine at_load ?_); first | (refine wm_load (cs := ?_) (t := ?_) (n := ?_) K rfl _ _ rfl rfl ?_ ?_ ?_ ?_; rotate_left 2; (repeat (first | exact At.hd | refine At.tl ?_)); rotate_left; (first | fail); (solve | exact rfl | simp)) | (refine wm_own (cs := ?_) (t := ?_) (v := ?_) K rfl _ _ rfl rfl ?_ ?_ ?_ ?_; rotate_left 2; (repeat (first | exact At.hd | refine At.tl ?_)); rotate_left; (first | exact rfl | assumption); (first | (with_reducible exact one2) | (with_reducible exact one3))) | (refine wm_cell (v := ?_) rfl _ _ rfl rfl ?_ ?_ ?_; rotate_left; (first | assumption | exact (K.below.cell (by assumption)).trans (by assumption)); (first | (with_reducible exact one2) | (with_reducible exact one3)))) | ((with_reducible refine at_store ?_); first | (refine wm_store (L' := ?_) (cs := ?_) (t := ?_) (n := ?_) K rfl _ _ _ rfl rfl rfl rfl ?_ ?_ ?_ ?_ ?_ ?_; rotate_left 3; (repeat (first | exact Put.hd | (refine Put.tl (L' := ?_) ?_; rotate_left))); rotate_left; (first | fail); (solve | exact rfl | simp); (solve | exact rfl | simp); (solve | exact rfl | simp [Ones, Value.oneCell']); (try clear K); (try clear ww); intro ww K; (try simp [go_sem] at K)) | (refine wm_put (L' := ?_) (cs := ?_) (new := ?_) (t := ?_) K rfl _ _ _ rfl rfl rfl rfl ?_ ?_ ?_ ?_ rfl rfl ?_; rotate_left 4; (repeat (first | exact Put.hd | (refine Put.tl (L' := ?_) ?_; rotate_left))); (solve | exact Nat.le_of_ble_eq_true rfl | decide | (simp only [List.size_toArray, nums_length]; first | assumption | omega) | (simp only [List.size_toArray, nums_length, List.length_set]; first | assumption | omega) | simp | omega | (simp only [List.size_toArray, nums_length]; omega) | assumption); (solve | (simp only [List.setIfInBounds_toArray]; exact rfl) | exact nums_set _ _ _ _ | simp only [List.setIfInBounds_toArray, List.set_cons_zero] | simp only [List.setIfInBounds_toArray, List.set_cons_zero, List.set_cons_succ] | (simp only [List.setIfInBounds_toArray, List.set_cons_zero, List.set_cons_succ]; exact rfl) | exact rfl); (first | (with_reducible exact one2) | (with_reducible exact one3)); (try clear K); (try clear ww); intro ww K; (try simp [go_sem] at K))) | (first | ((with_reducible refine at_box ?_); refine wm_box K rfl _ _ rfl rfl rfl ?_; (try clear K); (try clear ww); ((fail_if_success (have _h := b99)); intro b99 ww K); (try simp [go_sem, Value.cells] at K)) | ((with_reducible refine at_alloc ?_); refine wm_alloc (v := ?_) (cs := ?_) K rfl _ rfl ?_ ?_ ?_; rotate_left; (first | fail); rotate_left; exact rfl; (try clear K); (try clear ww); ((fail_if_success (have _h := b99)); intro b99 ww K); (try simp [go_sem, Value.cells] at K))))
            rw [f13] at K
            clear f12 f13 s1' s2'
            exact ⟨⟨e + 1, _, by omega, by go_num, HN2, K⟩, by simp [intOf]; omega⟩
          · obtain rfl : e = p := by omega
            have ht2 : decide ((e : Int) < e) = false := decide_eq_false (by omega)
            have HU2 : Hid (cur.size = n ∧ cur.toList.take n = ints .i64 (T.take ((r + 1) * e) ++ Z.drop ((r + 1) * e))) := Lib.hid (by rw [Nat.succ_mul]; exact HU.out)
            go_wp2_with fail
            exact ⟨⟨r + 1, cur, by omega, by go_num, HU2, K⟩, by simp [intOf]; omega⟩
      · obtain rfl : r = q := by omega
        have ht : decide ((r : Int) < r) = false := decide_eq_false (by omega)
        have hlast : cur.toList.take n = ints .i64 T := by
          have h1 := HU.out.2
          rw [show r * p = n from HN.out.1, show T.take n = T from List.take_of_length_le (by rw [HTL.out]; omega), show Z.drop n = [] from List.drop_of_length_le (by rw [HZL.out]; omega), List.append_nil] at h1
          exact h1
        have HX := Lib.hid (And.intro hlast (show n ≤ cur.size by rw [HU.out.1]; exact Nat.le_refl _))
        clear hlast
        go_wp2_with (first | go_big_skip | ((with_reducible refine at_load ?_); first | (refine wm_load (cs := ?_) (t := ?_) (n := ?_) K rfl _ _ rfl rfl ?_ ?_ ?_ ?_; rotate_left 2; (repeat (first | exact At.hd | refine At.tl ?_)); rotate_left; (first | fail); (solve | exact rfl | simp)) | (refine wm_own (cs := ?_) (t := ?_) (v := ?_) K rfl _ _ rfl rfl ?_ ?_ ?_ ?_; rotate_left 2; (repeat (first | exact At.hd | refine At.tl ?_)); rotate_left; (first | exact rfl | assumption); (first | (with_reducible exact one2) | (with_reducible exact one3))) | (refine wm_cell (v := ?_) rfl _ _ rfl rfl ?_ ?_ ?_; rotate_left; (first | assumption | exact (K.below.cell (by assumption)).trans (by assumption)); (first | (with_reducible exact one2) | (with_reducible exact one3)))) | ((with_reducible refine at_store ?_); first | (refine wm_store (L' := ?_) (cs := ?_) (t := ?_) (n := ?_) K rfl _ _ _ rfl rfl rfl rfl ?_ ?_ ?_ ?_ ?_ ?_; rotate_left 3; (repeat (first | exact Put.hd | (refine Put.tl (L' := ?_) ?_; rotate_left))); rotate_left; (first | fail); (solve | exact rfl | simp); (solve | exact rfl | simp); (solve | exact rfl | simp [Ones, Value.oneCell']); (try clear K); (try clear ww); intro ww K; (try simp [go_sem] at K)) | (refine wm_put (L' := ?_) (cs := ?_) (new := ?_) (t := ?_) K rfl _ _ _ rfl rfl rfl rfl ?_ ?_ ?_ ?_ rfl rfl ?_; rotate_left 4; (repeat (first | exact Put.hd | (refine Put.tl (L' := ?_) ?_; rotate_left))); (solve | exact Nat.le_of_ble_eq_true rfl | decide | (simp only [List.size_toArray, nums_length]; first | assumption | omega) | (simp only [List.size_toArray, nums_length, List.length_set]; first | assumption | omega) | simp | omega | (simp only [List.size_toArray, nums_length]; omega) | assumption); (solve | (simp only [List.setIfInBounds_toArray]; exact rfl) | exact nums_set _ _ _ _ | simp only [List.setIfInBounds_toArray, List.set_cons_zero] | simp only [List.setIfInBounds_toArray, List.set_cons_zero, List.set_cons_succ] | (simp only [List.setIfInBounds_toArray, List.set_cons_zero, List.set_cons_succ]; exact rfl) | exact rfl); (first | (with_reducible exact one2) | (with_reducible exact one3)); (try clear K); (try clear ww); intro ww K; (try simp [go_sem] at K))) | (first | ((with_reducible refine at_box ?_); refine wm_box K rfl _ _ rfl rfl rfl ?_; (try clear K); (try clear ww); ((fail_if_success (have _h := b99)); intro b99 ww K); (try simp [go_sem, Value.cells] at K)) | ((with_reducible refine at_alloc ?_); refine wm_alloc (v := ?_) (cs := ?_) K rfl _ rfl ?_ ?_ ?_; rotate_left; (first | fail); rotate_left; exact rfl; (try clear K); (try clear ww); ((fail_if_success (have _h := b99)); intro b99 ww K); (try simp [go_sem, Value.cells] at K))))
        go_ret
        exact ⟨some ⟨g, 0, none⟩, n, rfl, ⟨by rw [HTE.out]; exact (sl_take (K.get .hd) HX.out.1 HX.out.2).rd, Nw.mk _ _ _ (K.ge .hd)⟩, K.below⟩
end Go.Proofs.Yteancdipmpmjpaa
namespace Go.Proofs.Yteancdipmpmjpaa
open Go.RowKit
attribute [local irreducible] wpHeld wpTree wpList
set_option linter.unusedVariables false
set_option maxRecDepth 100000 in
theorem RSpread14 (X Y S qq : Int) (p q : Nat) (A : Option Addr) (n c : Nat) (zs : List Int) (w : World) (h : Rd w A n (ints .i64 zs)) (hb : ∀ z ∈ zs, 0 ≤ z ∧ z ≤ 1073741824) (hn : q * p = n) (hp : 1 ≤ p ∧ p ≤ 64) (hq : 1 ≤ q ∧ q ≤ 64) (hqq : 0 ≤ qq ∧ qq ≤ 85) :
    Calls Try.prog 41 #[.agg #[.int .i64 p, .int .i64 q, .int .i64 X, .int .i64 Y, .int .i64 S, .slice A n c], .int .i64 qq] w fun e w' => ∃ A2 c2, e = .returned (.tuple #[.agg #[.int .i64 p, .int .i64 q, .int .i64 X, .int .i64 Y, .int .i64 S, .slice A2 n c2], .int .i64 0]) ∧ (Rd w' A2 n (ints .i64 (sprd14 p q qq zs)) ∧ Nw w.heap.size A2) ∧ Below w.heap.size w w' := by
  have K := St.start w
  have d1 : decide (qq < 0) = false := decide_eq_false (by omega)
  have d2 : decide (85 < qq) = false := decide_eq_false (by omega)
  unfold sprd14
  rw [hn]
  have HR := Lib.hid h
  have P1 := Lib.hid (fun (B : Nat) (w0 : World) (L : List Blk) (F : World → Prop) (w : World) (K : St B w0 L F w) (h : Rd w A n (ints .i64 zs)) => K.pass (X := X) (Y := Y) (S := S) (qq := qq) (dx := 1) (dy := 0) (c := c) (L := rowA p) (R := rowB p) h hb hn hp hq hqq (by omega) (by omega) (fun k hk => (near_ix hn hp.1 hq.1 hk).1))
  have P2 := Lib.hid (fun (B : Nat) (w0 : World) (L : List Blk) (F : World → Prop) (A : Option Addr) (c : Nat) (w : World) (K : St B w0 L F w) (h : Rd w A n (ints .i64 (spr14 n qq (rowA p) (rowB p) zs))) => K.pass (X := X) (Y := Y) (S := S) (qq := qq) (dx := 0) (dy := 1) (c := c) (L := colA p) (R := colB p q) h (spr_bd hqq hb) hn hp hq hqq (by omega) (by omega) (fun k hk => (near_ix hn hp.1 hq.1 hk).2))
  clear h hb hn hp hq hqq
  go_enter Try.func41, Try.ntmps41
  go_wp2_with (first | go_big_skip | ((with_reducible refine at_load ?_); first | (refine wm_load (cs := ?_) (t := ?_) (n := ?_) K rfl _ _ rfl rfl ?_ ?_ ?_ ?_; rotate_left 2; (repeat (first | exact At.hd | refine At.tl ?_)); rotate_left; (first | (with_reducible exact row47)); (solve | exact rfl | simp)) | (refine wm_own (cs := ?_) (t := ?_) (v := ?_) K rfl _ _ rfl rfl ?_ ?_ ?_ ?_; rotate_left 2; (repeat (first | exact At.hd | refine At.tl ?_)); rotate_left; (first | exact rfl | assumption); (first | (with_reducible exact one2) | (with_reducible exact one45))) | (refine wm_cell (v := ?_) rfl _ _ rfl rfl ?_ ?_ ?_; rotate_left; (first | assumption | exact (K.below.cell (by assumption)).trans (by assumption)); (first | (with_reducible exact one2) | (with_reducible exact one45)))) | ((with_reducible refine at_store ?_); first | (refine wm_store (L' := ?_) (cs := ?_) (t := ?_) (n := ?_) K rfl _ _ _ rfl rfl rfl rfl ?_ ?_ ?_ ?_ ?_ ?_; rotate_left 3; (repeat (first | exact Put.hd | (refine Put.tl (L' := ?_) ?_; rotate_left))); rotate_left; (first | (with_reducible exact row47)); (solve | exact rfl | simp); (solve | exact rfl | simp); (solve | exact rfl | simp [Ones, Value.oneCell']); (try clear K); (try clear ww); intro ww K; (try simp [go_sem] at K)) | (refine wm_put (L' := ?_) (cs := ?_) (new := ?_) (t := ?_) K rfl _ _ _ rfl rfl rfl rfl ?_ ?_ ?_ ?_ rfl rfl ?_; rotate_left 4; (repeat (first | exact Put.hd | (refine Put.tl (L' := ?_) ?_; rotate_left))); (solve | exact Nat.le_of_ble_eq_true rfl | decide | (simp only [List.size_toArray, nums_length]; first | assumption | omega) | (simp only [List.size_toArray, nums_length, List.length_set]; first | assumption | omega) | simp | omega | (simp only [List.size_toArray, nums_length]; omega) | assumption); (solve | (simp only [List.setIfInBounds_toArray]; exact rfl) | exact nums_set _ _ _ _ | simp only [List.setIfInBounds_toArray, List.set_cons_zero] | simp only [List.setIfInBounds_toArray, List.set_cons_zero, List.set_cons_succ] | (simp only [List.setIfInBounds_toArray, List.set_cons_zero, List.set_cons_succ]; exact rfl) | exact rfl); (first | (with_reducible exact one2) | (with_reducible exact one45)); (try clear K); (try clear ww); intro ww K; (try simp [go_sem] at K))) | (first | ((with_reducible refine at_box ?_); refine wm_box K rfl _ _ rfl rfl rfl ?_; (try clear K); (try clear ww); (first | ((fail_if_success (have _h := r1)); intro r1 ww K) | ((fail_if_success (have _h := r2)); intro r2 ww K)); (try simp [go_sem, Value.cells] at K)) | ((with_reducible refine at_alloc ?_); refine wm_alloc (v := ?_) (cs := ?_) K rfl _ rfl ?_ ?_ ?_; rotate_left; (first | (with_reducible exact zero47)); rotate_left; exact rfl; (try clear K); (try clear ww); (first | ((fail_if_success (have _h := r1)); intro r1 ww K) | ((fail_if_success (have _h := r2)); intro r2 ww K)); (try simp [go_sem, Value.cells] at K))) | (go_at_call 90; (first | (have zz := P1.out _ _ _ _ _ K (HR.out.below K.below); (with_reducible refine zz.mono ?_); clear zz; rintro e w2 ⟨A2, c2, rfl, hA2, K2⟩) | (have zz := (fun c => P2.out _ _ _ _ _ c _ K K.fact.1); (with_reducible refine (zz _).mono ?_); clear zz; rintro e w2 ⟨A3, c3, rfl, hA3, K2⟩)); (try dsimp only); replace K := K2; clear K2; (try clear ww); revert w2; intro ww K))
  refine bodyPost_ret (K.res2 rfl _ rfl At.hd (by (first | (with_reducible exact row47))) (by (solve | exact rfl | simp)) rfl) rfl ?_
  exact ⟨A3, c3, rfl, ⟨K.fact.1, hA3⟩, K.below⟩
section
variable {B : Nat} {w0 w : World} {Lb : List Blk} {F : World → Prop}
theorem St.passX {qq : Int} {p q gb qb : Nat} {A : Option Addr} {n c : Nat} {zs : List Int} {cs : Array Value} {t t2 : TypeId} (K : St B w0 Lb F w) (h : Rd w A n (ints .i64 zs)) (hb : ∀ z ∈ zs, 0 ≤ z ∧ z ≤ 1073741824) (hn : q * p = n) (hp : 1 ≤ p ∧ p ≤ 64) (hq : 1 ≤ q ∧ q ≤ 64) (hqq : 0 ≤ qq ∧ qq ≤ 85) (hg : At Lb gb cs t) (hgq : At Lb qb #[.int .i64 qq] t2) (h0 : cs[0]? = some (.int .i64 p)) (h1 : cs[1]? = some (.int .i64 q)) :
    Calls Try.prog 86 #[.slice A n c, .func (.func 87) #[] #[.pointer (some ⟨gb, 0, none⟩)], .pointer (some ⟨gb, 0, none⟩), .pointer (some ⟨qb, 0, none⟩)] w fun e w' => ∃ A2 c2, e = .returned (.slice A2 n c2) ∧ Nw B A2 ∧ St B w0 Lb (fun w => Rd w A2 n (ints .i64 (spr14 n qq (rowA p) (rowB p) zs)) ∧ F w) w' := by
    refine (GPassX14 qq p q gb qb A n c zs w h hb hn hp hq hqq (K.lt hg) (K.lt hgq) ((K.get hg).cell h0) ((K.get hg).cell h1) ((K.get hgq).cell rfl)).mono ?_
    rintro e w' ⟨A2, c2, rfl, ⟨h2, hA⟩, hbel⟩
    exact ⟨A2, c2, rfl, hA.mono K.size, K.madeRd hbel h2 hA⟩
theorem St.passY {qq : Int} {p q gb qb : Nat} {A : Option Addr} {n c : Nat} {zs : List Int} {cs : Array Value} {t t2 : TypeId} (K : St B w0 Lb F w) (h : Rd w A n (ints .i64 zs)) (hb : ∀ z ∈ zs, 0 ≤ z ∧ z ≤ 1073741824) (hn : q * p = n) (hp : 1 ≤ p ∧ p ≤ 64) (hq : 1 ≤ q ∧ q ≤ 64) (hqq : 0 ≤ qq ∧ qq ≤ 85) (hg : At Lb gb cs t) (hgq : At Lb qb #[.int .i64 qq] t2) (h0 : cs[0]? = some (.int .i64 p)) (h1 : cs[1]? = some (.int .i64 q)) :
    Calls Try.prog 86 #[.slice A n c, .func (.func 89) #[] #[.pointer (some ⟨gb, 0, none⟩)], .pointer (some ⟨gb, 0, none⟩), .pointer (some ⟨qb, 0, none⟩)] w fun e w' => ∃ A2 c2, e = .returned (.slice A2 n c2) ∧ Nw B A2 ∧ St B w0 Lb (fun w => Rd w A2 n (ints .i64 (spr14 n qq (colA p) (colB p q) zs)) ∧ F w) w' := by
    refine (GPassY14 qq p q gb qb A n c zs w h hb hn hp hq hqq (K.lt hg) (K.lt hgq) ((K.get hg).cell h0) ((K.get hg).cell h1) ((K.get hgq).cell rfl)).mono ?_
    rintro e w' ⟨A2, c2, rfl, ⟨h2, hA⟩, hbel⟩
    exact ⟨A2, c2, rfl, hA.mono K.size, K.madeRd hbel h2 hA⟩
end
theorem GSpread14_bad (W H X Y S qq : Int) (A : Option Addr) (n c : Nat) (w : World) (hs : (decide (0 ≤ qq) && decide (qq ≤ 85)) = false) :
    Calls Try.prog 40 #[.agg #[.int .i64 W, .int .i64 H, .int .i64 X, .int .i64 Y, .int .i64 S, .slice A n c], .int .i64 qq] w fun e w' => e = .returned (.tuple #[.agg #[.int .i64 W, .int .i64 H, .int .i64 X, .int .i64 Y, .int .i64 S, .slice A n c], .int .i64 2]) ∧ Below w.heap.size w w' := by
  have K := St.start w
  rcases (by simp at hs; omega : qq < 0 ∨ (0 ≤ qq ∧ 85 < qq)) with h | h
  · have d1 : decide (qq < 0) = true := decide_eq_true h
    clear hs h
    go_enter Try.func40, Try.ntmps40
    go_wp2_with (first | go_big_skip | ((with_reducible refine at_load ?_); first | (refine wm_load (cs := ?_) (t := ?_) (n := ?_) K rfl _ _ rfl rfl ?_ ?_ ?_ ?_; rotate_left 2; (repeat (first | exact At.hd | refine At.tl ?_)); rotate_left; (first | (with_reducible exact row47)); (solve | exact rfl | simp)) | (refine wm_own (cs := ?_) (t := ?_) (v := ?_) K rfl _ _ rfl rfl ?_ ?_ ?_ ?_; rotate_left 2; (repeat (first | exact At.hd | refine At.tl ?_)); rotate_left; (first | exact rfl | assumption); (first | (with_reducible exact one2) | (with_reducible exact one45))) | (refine wm_cell (v := ?_) rfl _ _ rfl rfl ?_ ?_ ?_; rotate_left; (first | assumption | exact (K.below.cell (by assumption)).trans (by assumption)); (first | (with_reducible exact one2) | (with_reducible exact one45)))) | ((with_reducible refine at_store ?_); first | (refine wm_store (L' := ?_) (cs := ?_) (t := ?_) (n := ?_) K rfl _ _ _ rfl rfl rfl rfl ?_ ?_ ?_ ?_ ?_ ?_; rotate_left 3; (repeat (first | exact Put.hd | (refine Put.tl (L' := ?_) ?_; rotate_left))); rotate_left; (first | (with_reducible exact row47)); (solve | exact rfl | simp); (solve | exact rfl | simp); (solve | exact rfl | simp [Ones, Value.oneCell']); (try clear K); (try clear ww); intro ww K; (try simp [go_sem] at K)) | (refine wm_put (L' := ?_) (cs := ?_) (new := ?_) (t := ?_) K rfl _ _ _ rfl rfl rfl rfl ?_ ?_ ?_ ?_ rfl rfl ?_; rotate_left 4; (repeat (first | exact Put.hd | (refine Put.tl (L' := ?_) ?_; rotate_left))); (solve | exact Nat.le_of_ble_eq_true rfl | decide | (simp only [List.size_toArray, nums_length]; first | assumption | omega) | (simp only [List.size_toArray, nums_length, List.length_set]; first | assumption | omega) | simp | omega | (simp only [List.size_toArray, nums_length]; omega) | assumption); (solve | (simp only [List.setIfInBounds_toArray]; exact rfl) | exact nums_set _ _ _ _ | simp only [List.setIfInBounds_toArray, List.set_cons_zero] | simp only [List.setIfInBounds_toArray, List.set_cons_zero, List.set_cons_succ] | (simp only [List.setIfInBounds_toArray, List.set_cons_zero, List.set_cons_succ]; exact rfl) | exact rfl); (first | (with_reducible exact one2) | (with_reducible exact one45)); (try clear K); (try clear ww); intro ww K; (try simp [go_sem] at K))) | (first | ((with_reducible refine at_box ?_); refine wm_box K rfl _ _ rfl rfl rfl ?_; (try clear K); (try clear ww); (first | ((fail_if_success (have _h := r1)); intro r1 ww K) | ((fail_if_success (have _h := r2)); intro r2 ww K) | ((fail_if_success (have _h := r3)); intro r3 ww K)); (try simp [go_sem, Value.cells] at K)) | ((with_reducible refine at_alloc ?_); refine wm_alloc (v := ?_) (cs := ?_) K rfl _ rfl ?_ ?_ ?_; rotate_left; (first | (with_reducible exact zero47)); rotate_left; exact rfl; (try clear K); (try clear ww); (first | ((fail_if_success (have _h := r1)); intro r1 ww K) | ((fail_if_success (have _h := r2)); intro r2 ww K) | ((fail_if_success (have _h := r3)); intro r3 ww K)); (try simp [go_sem, Value.cells] at K))))
    refine bodyPost_ret (K.res2 rfl _ rfl At.hd (by (first | (with_reducible exact row47))) (by (solve | exact rfl | simp)) rfl) rfl ?_
    exact ⟨rfl, K.below⟩
  · have d1 : decide (qq < 0) = false := decide_eq_false (by omega)
    have d2 : decide (85 < qq) = true := decide_eq_true h.2
    clear hs h
    go_enter Try.func40, Try.ntmps40
    go_wp2_with (first | go_big_skip | ((with_reducible refine at_load ?_); first | (refine wm_load (cs := ?_) (t := ?_) (n := ?_) K rfl _ _ rfl rfl ?_ ?_ ?_ ?_; rotate_left 2; (repeat (first | exact At.hd | refine At.tl ?_)); rotate_left; (first | (with_reducible exact row47)); (solve | exact rfl | simp)) | (refine wm_own (cs := ?_) (t := ?_) (v := ?_) K rfl _ _ rfl rfl ?_ ?_ ?_ ?_; rotate_left 2; (repeat (first | exact At.hd | refine At.tl ?_)); rotate_left; (first | exact rfl | assumption); (first | (with_reducible exact one2) | (with_reducible exact one45))) | (refine wm_cell (v := ?_) rfl _ _ rfl rfl ?_ ?_ ?_; rotate_left; (first | assumption | exact (K.below.cell (by assumption)).trans (by assumption)); (first | (with_reducible exact one2) | (with_reducible exact one45)))) | ((with_reducible refine at_store ?_); first | (refine wm_store (L' := ?_) (cs := ?_) (t := ?_) (n := ?_) K rfl _ _ _ rfl rfl rfl rfl ?_ ?_ ?_ ?_ ?_ ?_; rotate_left 3; (repeat (first | exact Put.hd | (refine Put.tl (L' := ?_) ?_; rotate_left))); rotate_left; (first | (with_reducible exact row47)); (solve | exact rfl | simp); (solve | exact rfl | simp); (solve | exact rfl | simp [Ones, Value.oneCell']); (try clear K); (try clear ww); intro ww K; (try simp [go_sem] at K)) | (refine wm_put (L' := ?_) (cs := ?_) (new := ?_) (t := ?_) K rfl _ _ _ rfl rfl rfl rfl ?_ ?_ ?_ ?_ rfl rfl ?_; rotate_left 4; (repeat (first | exact Put.hd | (refine Put.tl (L' := ?_) ?_; rotate_left))); (solve | exact Nat.le_of_ble_eq_true rfl | decide | (simp only [List.size_toArray, nums_length]; first | assumption | omega) | (simp only [List.size_toArray, nums_length, List.length_set]; first | assumption | omega) | simp | omega | (simp only [List.size_toArray, nums_length]; omega) | assumption); (solve | (simp only [List.setIfInBounds_toArray]; exact rfl) | exact nums_set _ _ _ _ | simp only [List.setIfInBounds_toArray, List.set_cons_zero] | simp only [List.setIfInBounds_toArray, List.set_cons_zero, List.set_cons_succ] | (simp only [List.setIfInBounds_toArray, List.set_cons_zero, List.set_cons_succ]; exact rfl) | exact rfl); (first | (with_reducible exact one2) | (with_reducible exact one45)); (try clear K); (try clear ww); intro ww K; (try simp [go_sem] at K))) | (first | ((with_reducible refine at_box ?_); refine wm_box K rfl _ _ rfl rfl rfl ?_; (try clear K); (try clear ww); (first | ((fail_if_success (have _h := r1)); intro r1 ww K) | ((fail_if_success (have _h := r2)); intro r2 ww K) | ((fail_if_success (have _h := r3)); intro r3 ww K)); (try simp [go_sem, Value.cells] at K)) | ((with_reducible refine at_alloc ?_); refine wm_alloc (v := ?_) (cs := ?_) K rfl _ rfl ?_ ?_ ?_; rotate_left; (first | (with_reducible exact zero47)); rotate_left; exact rfl; (try clear K); (try clear ww); (first | ((fail_if_success (have _h := r1)); intro r1 ww K) | ((fail_if_success (have _h := r2)); intro r2 ww K) | ((fail_if_success (have _h := r3)); intro r3 ww K)); (try simp [go_sem, Value.cells] at K))))
    refine bodyPost_ret (K.res2 rfl _ rfl At.hd (by (first | (with_reducible exact row47))) (by (solve | exact rfl | simp)) rfl) rfl ?_
    exact ⟨rfl, K.below⟩
set_option maxRecDepth 100000 in
theorem GSpread14 (X Y S qq : Int) (p q : Nat) (A : Option Addr) (n c : Nat) (zs : List Int) (w : World) (h : Rd w A n (ints .i64 zs)) (hb : ∀ z ∈ zs, 0 ≤ z ∧ z ≤ 1073741824) (hn : q * p = n) (hp : 1 ≤ p ∧ p ≤ 64) (hq : 1 ≤ q ∧ q ≤ 64) (hqq : 0 ≤ qq ∧ qq ≤ 85) :
    Calls Try.prog 40 #[.agg #[.int .i64 p, .int .i64 q, .int .i64 X, .int .i64 Y, .int .i64 S, .slice A n c], .int .i64 qq] w fun e w' => ∃ A2 c2, e = .returned (.tuple #[.agg #[.int .i64 p, .int .i64 q, .int .i64 X, .int .i64 Y, .int .i64 S, .slice A2 n c2], .int .i64 0]) ∧ (Rd w' A2 n (ints .i64 (sprd14 p q qq zs)) ∧ Nw w.heap.size A2) ∧ Below w.heap.size w w' := by
  have K := St.start w
  have d1 : decide (qq < 0) = false := decide_eq_false (by omega)
  have d2 : decide (85 < qq) = false := decide_eq_false (by omega)
  unfold sprd14
  rw [hn]
  have HR := Lib.hid h
  have P1 := Lib.hid (fun (B : Nat) (w0 : World) (L : List Blk) (F : World → Prop) (w : World) (gb qb : Nat) (cs : Array Value) (t t2 : TypeId) (K : St B w0 L F w) (h : Rd w A n (ints .i64 zs)) hg hgq h0 h1 => K.passX (qq := qq) (p := p) (q := q) (gb := gb) (qb := qb) (c := c) (cs := cs) (t := t) (t2 := t2) h hb hn hp hq hqq hg hgq h0 h1)
  have P2 := Lib.hid (fun (B : Nat) (w0 : World) (L : List Blk) (F : World → Prop) (w : World) (gb qb : Nat) (cs : Array Value) (t t2 : TypeId) (A : Option Addr) (c : Nat) (K : St B w0 L F w) (h : Rd w A n (ints .i64 (spr14 n qq (rowA p) (rowB p) zs))) hg hgq h0 h1 => K.passY (qq := qq) (p := p) (q := q) (gb := gb) (qb := qb) (c := c) (cs := cs) (t := t) (t2 := t2) h (spr_bd hqq hb) hn hp hq hqq hg hgq h0 h1)
  clear h hb hn hp hq hqq
  go_enter Try.func40, Try.ntmps40
  go_wp2_with (first | go_big_skip | ((with_reducible refine at_load ?_); first | (refine wm_load (cs := ?_) (t := ?_) (n := ?_) K rfl _ _ rfl rfl ?_ ?_ ?_ ?_; rotate_left 2; (repeat (first | exact At.hd | refine At.tl ?_)); rotate_left; (first | (with_reducible exact row47)); (solve | exact rfl | simp)) | (refine wm_own (cs := ?_) (t := ?_) (v := ?_) K rfl _ _ rfl rfl ?_ ?_ ?_ ?_; rotate_left 2; (repeat (first | exact At.hd | refine At.tl ?_)); rotate_left; (first | exact rfl | assumption); (first | (with_reducible exact one2) | (with_reducible exact one45))) | (refine wm_cell (v := ?_) rfl _ _ rfl rfl ?_ ?_ ?_; rotate_left; (first | assumption | exact (K.below.cell (by assumption)).trans (by assumption)); (first | (with_reducible exact one2) | (with_reducible exact one45)))) | ((with_reducible refine at_store ?_); first | (refine wm_store (L' := ?_) (cs := ?_) (t := ?_) (n := ?_) K rfl _ _ _ rfl rfl rfl rfl ?_ ?_ ?_ ?_ ?_ ?_; rotate_left 3; (repeat (first | exact Put.hd | (refine Put.tl (L' := ?_) ?_; rotate_left))); rotate_left; (first | (with_reducible exact row47)); (solve | exact rfl | simp); (solve | exact rfl | simp); (solve | exact rfl | simp [Ones, Value.oneCell']); (try clear K); (try clear ww); intro ww K; (try simp [go_sem] at K)) | (refine wm_put (L' := ?_) (cs := ?_) (new := ?_) (t := ?_) K rfl _ _ _ rfl rfl rfl rfl ?_ ?_ ?_ ?_ rfl rfl ?_; rotate_left 4; (repeat (first | exact Put.hd | (refine Put.tl (L' := ?_) ?_; rotate_left))); (solve | exact Nat.le_of_ble_eq_true rfl | decide | (simp only [List.size_toArray, nums_length]; first | assumption | omega) | (simp only [List.size_toArray, nums_length, List.length_set]; first | assumption | omega) | simp | omega | (simp only [List.size_toArray, nums_length]; omega) | assumption); (solve | (simp only [List.setIfInBounds_toArray]; exact rfl) | exact nums_set _ _ _ _ | simp only [List.setIfInBounds_toArray, List.set_cons_zero] | simp only [List.setIfInBounds_toArray, List.set_cons_zero, List.set_cons_succ] | (simp only [List.setIfInBounds_toArray, List.set_cons_zero, List.set_cons_succ]; exact rfl) | exact rfl); (first | (with_reducible exact one2) | (with_reducible exact one45)); (try clear K); (try clear ww); intro ww K; (try simp [go_sem] at K))) | (first | ((with_reducible refine at_box ?_); refine wm_box K rfl _ _ rfl rfl rfl ?_; (try clear K); (try clear ww); (first | ((fail_if_success (have _h := r1)); intro r1 ww K) | ((fail_if_success (have _h := r2)); intro r2 ww K) | ((fail_if_success (have _h := r3)); intro r3 ww K)); (try simp [go_sem, Value.cells] at K)) | ((with_reducible refine at_alloc ?_); refine wm_alloc (v := ?_) (cs := ?_) K rfl _ rfl ?_ ?_ ?_; rotate_left; (first | (with_reducible exact zero47)); rotate_left; exact rfl; (try clear K); (try clear ww); (first | ((fail_if_success (have _h := r1)); intro r1 ww K) | ((fail_if_success (have _h := r2)); intro r2 ww K) | ((fail_if_success (have _h := r3)); intro r3 ww K)); (try simp [go_sem, Value.cells] at K))) | (go_at_call 86; (first | (have zz := P1.out _ _ _ _ _ _ _ _ _ _ K (HR.out.below K.below) (At.tl (At.tl At.hd)) (At.tl At.hd) rfl rfl; (with_reducible refine zz.mono ?_); clear zz; rintro e w2 ⟨A2, c2, rfl, hA2, K2⟩) | (have zz := (fun c => P2.out _ _ _ _ _ _ _ _ _ _ _ c K K.fact.1 (At.tl (At.tl At.hd)) (At.tl At.hd) rfl rfl); (with_reducible refine (zz _).mono ?_); clear zz; rintro e w2 ⟨A3, c3, rfl, hA3, K2⟩)); (try dsimp only); replace K := K2; clear K2; (try clear ww); revert w2; intro ww K))
  refine bodyPost_ret (K.res2 rfl _ rfl At.hd (by (first | (with_reducible exact row47))) (by (solve | exact rfl | simp)) rfl) rfl ?_
  exact ⟨A3, c3, rfl, ⟨K.fact.1, hA3⟩, K.below⟩
end Go.Proofs.Yteancdipmpmjpaa
namespace Go.Proofs.Yteancdipmpmjpaa
open Go.RowKit
attribute [local irreducible] wpHeld wpTree wpList
set_option linter.unusedVariables false
theorem gen_zero {p m n4 : Nat} {zs : List Int} : gen14 n4 (pjoin p m zs 0) = List.replicate n4 0 := by
  apply List.ext_getElem?
  intro k
  by_cases hk : k < n4
  · simp [gen14, hk, pjoin_zero]
  · rw [List.getElem?_eq_none (by rw [gen_len]; omega), List.getElem?_eq_none (by simp; omega)]
theorem pjoin_bd {p m i k : Nat} {zs : List Int} (h : ∀ z ∈ zs, 0 ≤ z ∧ z ≤ 1073741824) : 0 ≤ pjoin p m zs i k ∧ pjoin p m zs i k ≤ 4294967296 := by
  have b : ∀ (P : Prop) [Decidable P] (j : Nat), 0 ≤ (if P then zs.getD j 0 else 0) ∧ (if P then zs.getD j 0 else 0) ≤ 1073741824 := by
    intro P _ j
    split
    · by_cases hj : j < zs.length
      · exact h _ (getD_mem hj)
      · rw [List.getD, List.getElem?_eq_none (by omega)]; simp
    · omega
  unfold pjoin
  have b1 := b (base14 p m k < i) (base14 p m k)
  have b2 := b (base14 p m k + 1 < i) (base14 p m k + 1)
  have b3 := b (base14 p m k + p < i) (base14 p m k + p)
  have b4 := b (base14 p m k + p + 1 < i) (base14 p m k + p + 1)
  omega
theorem gen_join {p m q1 : Nat} {zs : List Int} (hp : p = 2 * m) (hm : 0 < m) : gen14 (m * q1) (pjoin p m zs (p * (2 * q1))) = join14 p m zs (m * q1) := by
  apply List.ext_getElem?
  intro k
  unfold join14
  by_cases hk : k < m * q1
  · simp [gen14, hk, pjoin_all hp hm hk]
  · rw [List.getElem?_eq_none (by rw [gen_len]; omega), List.getElem?_eq_none (by rw [gen_len]; omega)]
set_option maxRecDepth 100000 in
set_option maxHeartbeats 4000000 in
theorem GJoin14 (X Y S : Int) (p q m1 q1 : Nat) (A : Option Addr) (n c n4 : Nat) (zs : List Int) (w : World) (h : Rd w A n (ints .i64 zs)) (hb : ∀ z ∈ zs, 0 ≤ z ∧ z ≤ 1073741824) (hn : p * q = n) (hp : p = 2 * m1) (hq : q = 2 * q1) (hm : 1 ≤ m1 ∧ m1 ≤ 32) (hq1 : 1 ≤ q1 ∧ q1 ≤ 32) (hX : -1125899906842624 ≤ X ∧ X ≤ 1125899906842624) (hY : -1125899906842624 ≤ Y ∧ Y ≤ 1125899906842624) (hS : 16 ≤ S ∧ S ≤ 2048) (hm4 : m1 * q1 = n4) :
    Calls Try.prog 51 #[.agg #[.int .i64 p, .int .i64 q, .int .i64 X, .int .i64 Y, .int .i64 S, .slice A n c]] w fun e w' => ∃ A2 c2, e = .returned (.tuple #[.agg #[.int .i64 m1, .int .i64 q1, .int .i64 (X + S / 2), .int .i64 (Y + S / 2), .int .i64 (2 * S), .slice A2 n4 c2], .int .i64 0]) ∧ (Rd w' A2 n4 (ints .i64 (join14 p m1 zs n4)) ∧ Nw w.heap.size A2) ∧ Below w.heap.size w w' := by
  have K := St.start w
  have hl : zs.length = n := by rw [← h.1, ints_len]
  have h4 : 4 * n4 = n := by rw [← hn, hp, hq, Nat.mul_mul_mul_comm, hm4]
  have hn1 : 1 ≤ n4 ∧ n4 ≤ 1024 := by
    have a1 := Nat.mul_le_mul hm.2 hq1.2
    have a2 := Nat.mul_le_mul hm.1 hq1.1
    omega
  have hn5 : n ≤ 5000 := by omega
  have m1' : 8 * n4 ≤ 281474976710656 := by omega
  have m2' : n4 ≤ 4611686018427387904 := by omega
  obtain ⟨S4, hS4⟩ : ∃ S4, S / 2 = S4 := ⟨_, rfl⟩
  obtain ⟨S2, hS2⟩ : ∃ S2, 2 * S = S2 := ⟨_, rfl⟩
  obtain ⟨X2, hX2⟩ : ∃ X2, X + S4 = X2 := ⟨_, rfl⟩
  obtain ⟨Y2, hY2⟩ : ∃ Y2, Y + S4 = Y2 := ⟨_, rfl⟩
  rw [hS4, hS2, hX2, hY2]
  have d3 : decide (4096 < S2) = false := decide_eq_false (by omega)
  have c1h : Hid ((p : Int).tmod 2 = 0) := Lib.hid (by rw [Int.tmod_eq_emod_of_nonneg (by omega)]; omega)
  have c2h : Hid ((q : Int).tmod 2 = 0) := Lib.hid (by rw [Int.tmod_eq_emod_of_nonneg (by omega)]; omega)
  have c3h : Hid ((p : Int).tdiv 2 = (m1 : Int)) := Lib.hid (by rw [Int.tdiv_eq_ediv_of_nonneg (by omega)]; omega)
  have c4h : Hid ((q : Int).tdiv 2 = (q1 : Int)) := Lib.hid (by rw [Int.tdiv_eq_ediv_of_nonneg (by omega)]; omega)
  have c5h : Hid (S.tdiv 2 = S4) := Lib.hid (by rw [Int.tdiv_eq_ediv_of_nonneg (by omega)]; exact hS4)
  have c6h : Hid (wrap64 (2 * S) = S2) := Lib.hid (w64e (by omega) (by omega) hS2)
  have c7h : Hid ((n : Int).tdiv 4 = (n4 : Int)) := Lib.hid (by rw [Int.tdiv_eq_ediv_of_nonneg (by omega)]; omega)
  have e1h : Hid (IntKind.i64.wrap (m1 : Int) = m1) := Lib.hid (IntWalk.i64_in _ (by omega))
  have e2h : Hid (IntKind.i64.wrap (q1 : Int) = q1) := Lib.hid (IntWalk.i64_in _ (by omega))
  have e3h : Hid (IntKind.i64.wrap S4 = S4) := Lib.hid (IntWalk.i64_in _ (by omega))
  have e4h : Hid (IntKind.i64.wrap (2 * S) = S2) := Lib.hid ((IntWalk.i64_in _ (by omega)).trans hS2)
  have e5h : Hid (IntKind.i64.wrap (X + S4) = X2) := Lib.hid ((IntWalk.i64_in _ (by omega)).trans hX2)
  have e6h : Hid (IntKind.i64.wrap (Y + S4) = Y2) := Lib.hid ((IntWalk.i64_in _ (by omega)).trans hY2)
  have e7h : Hid (IntKind.i64.wrap (n4 : Int) = n4) := Lib.hid (IntWalk.i64_in _ (by omega))
  have HR := Lib.hid h
  have HL := Lib.hid hl
  have HZ := Lib.hid hb
  have HN := Lib.hid (And.intro hn (And.intro hp (And.intro hq (And.intro hm (And.intro hm4 (And.intro h4 (And.intro hq1 hn1)))))))
  clear h hl hb hn hp hq hm hq1 hX hY hS hm4 h4 hn1 hS4 hS2 hX2 hY2
  have c1 := c1h.out
  have c2 := c2h.out
  have c3 := c3h.out
  have c4 := c4h.out
  have c5 := c5h.out
  have c6 := c6h.out
  have c7 := c7h.out
  have e1 := e1h.out
  have e2 := e2h.out
  have e3 := e3h.out
  have e4 := e4h.out
  have e5 := e5h.out
  have e6 := e6h.out
  have e7 := e7h.out
  go_enter Try.func51, Try.ntmps51
  go_wp2_with (first | go_big_skip | ((with_reducible refine at_load ?_); first | (refine wm_load (cs := ?_) (t := ?_) (n := ?_) K rfl _ _ rfl rfl ?_ ?_ ?_ ?_; rotate_left 2; (repeat (first | exact At.hd | refine At.tl ?_)); rotate_left; (first | (with_reducible exact row47)); (solve | exact rfl | simp)) | (refine wm_own (cs := ?_) (t := ?_) (v := ?_) K rfl _ _ rfl rfl ?_ ?_ ?_ ?_; rotate_left 2; (repeat (first | exact At.hd | refine At.tl ?_)); rotate_left; (first | exact rfl | assumption); (first | (with_reducible exact one2) | (with_reducible exact one3) | (with_reducible exact one45))) | (refine wm_cell (v := ?_) rfl _ _ rfl rfl ?_ ?_ ?_; rotate_left; (first | assumption | exact (K.below.cell (by assumption)).trans (by assumption)); (first | (with_reducible exact one2) | (with_reducible exact one3) | (with_reducible exact one45)))) | ((with_reducible refine at_store ?_); first | (refine wm_store (L' := ?_) (cs := ?_) (t := ?_) (n := ?_) K rfl _ _ _ rfl rfl rfl rfl ?_ ?_ ?_ ?_ ?_ ?_; rotate_left 3; (repeat (first | exact Put.hd | (refine Put.tl (L' := ?_) ?_; rotate_left))); rotate_left; (first | (with_reducible exact row47)); (solve | exact rfl | simp); (solve | exact rfl | simp); (solve | exact rfl | simp [Ones, Value.oneCell']); (try clear K); (try clear ww); intro ww K; (try simp [go_sem] at K)) | (refine wm_put (L' := ?_) (cs := ?_) (new := ?_) (t := ?_) K rfl _ _ _ rfl rfl rfl rfl ?_ ?_ ?_ ?_ rfl rfl ?_; rotate_left 4; (repeat (first | exact Put.hd | (refine Put.tl (L' := ?_) ?_; rotate_left))); (solve | exact Nat.le_of_ble_eq_true rfl | decide | (simp only [List.size_toArray, nums_length]; first | assumption | omega) | (simp only [List.size_toArray, nums_length, List.length_set]; first | assumption | omega) | simp | omega | (simp only [List.size_toArray, nums_length]; omega) | assumption); (solve | (simp only [List.setIfInBounds_toArray]; exact rfl) | exact nums_set _ _ _ _ | simp only [List.setIfInBounds_toArray, List.set_cons_zero] | simp only [List.setIfInBounds_toArray, List.set_cons_zero, List.set_cons_succ] | (simp only [List.setIfInBounds_toArray, List.set_cons_zero, List.set_cons_succ]; exact rfl) | exact rfl); (first | (with_reducible exact one2) | (with_reducible exact one3) | (with_reducible exact one45)); (try clear K); (try clear ww); intro ww K; (try simp [go_sem] at K))) | (first | ((with_reducible refine at_box ?_); refine wm_box K rfl _ _ rfl rfl rfl ?_; (try clear K); (try clear ww); (first | ((fail_if_success (have _h := r1)); intro r1 ww K) | ((fail_if_success (have _h := r2)); intro r2 ww K)); (try simp [go_sem, Value.cells] at K)) | ((with_reducible refine at_alloc ?_); refine wm_alloc (v := ?_) (cs := ?_) K rfl _ rfl ?_ ?_ ?_; rotate_left; (first | (with_reducible exact zero47)); rotate_left; exact rfl; (try clear K); (try clear ww); (first | ((fail_if_success (have _h := r1)); intro r1 ww K) | ((fail_if_success (have _h := r2)); intro r2 ww K)); (try simp [go_sem, Value.cells] at K))))
  (try simp only [Act.put, List.setIfInBounds_toArray, List.set_cons_zero, List.set_cons_succ])
  go_cut [4] from 24 to 50 (fun p4 wc => ∃ r4 g : Nat, p4 = .pointer (some ⟨r4, 0, none⟩) ∧ St w.heap.size w [(r4, #[.int .i64 m1, .int .i64 q1, .int .i64 X2, .int .i64 Y2, .int .i64 S2, .slice (some ⟨g, 0, none⟩) n4 n4], 47), (g, (nums .i64 (List.replicate n4 0)).toArray, 2), (r2, #[.int .i64 0, .int .i64 0, .int .i64 0, .int .i64 0, .int .i64 0, .slice none 0 0], 47), (r1, #[.int .i64 p, .int .i64 q, .int .i64 X, .int .i64 Y, .int .i64 S, .slice A n c], 47)] Any wc)
  case first =>
    refine wm_tree _ (.take 0 (.take 1 (.take 2 (.take 3 (.take 4 (.take 5 (.take 6 (.take 7 (.take 8 (.take 9 (.take 10 (.take 11 (.take 12 (.take 13 (.take 14 (.take 15 (.take 16 (.take 17 (.take 18 (.take 19 (.take 20 (.take 21 (.take 22 (.take 23 (.take 24 (.alt 25 (.take 26 (.alt 27 (.alt 28 .done .stop) .stop)) (.alt 27 (.alt 25 (.take 26 (.alt 28 .done .stop)) .stop) .stop))))))))))))))))))))))))))) K (List.Sublist.refl _) (by kernel_rfl) (by kernel_rfl) ?_; (try clear K); (try clear ww); intro ww K; (try simp [go_sem] at K)
    repeat' (first | exact tree_stop | (refine tm_own (cs := ?_) (t0 := ?_) (v := ?_) rfl rfl _ _ rfl rfl ?_ ?_ ?_ ?_; rotate_left 2; (repeat (first | exact At.hd | refine At.tl ?_)); rotate_left; (first | exact rfl | assumption); (first | (with_reducible exact one2) | (with_reducible exact one3) | (with_reducible exact one45))) | (refine tree_take (fun K' hK' => ?_); simp only [opAt, List.getElem?_toArray, List.getElem?_cons_succ, List.getElem?_cons_zero, Option.getD_some]; go_simp; first | (refine hK' _ ?_; clear hK' K') | (apply Exists.intro; refine ⟨?_, hK' _ ?_⟩; (intro _ _; rfl); clear hK' K')) | (refine tree_list rfl ?_ ?_; refine wm_make K rfl _ _ _ rfl Try.underlying45 num2 n4 rfl rfl rfl rfl m1' m2' ?_; intro g ww2 K2; refine wl_nil ⟨(by first | exact (K2).sub (List.Sublist.refl _) | exact (K2.tail).sub (List.Sublist.refl _) | exact (K2.tail.tail).sub (List.Sublist.refl _) | exact (K2.tail.tail.tail).sub (List.Sublist.refl _) | exact (K2.weak fun _ h => h.2).sub (List.Sublist.refl _) | exact (K2.tail.weak fun _ h => h.2).sub (List.Sublist.refl _) | exact (K2.tail.tail.weak fun _ h => h.2).sub (List.Sublist.refl _) | exact (K2.tail.tail.tail.weak fun _ h => h.2).sub (List.Sublist.refl _) | exact (K2.weak fun _ h => h.2.2).sub (List.Sublist.refl _) | exact (K2.tail.weak fun _ h => h.2.2).sub (List.Sublist.refl _) | exact (K2.tail.tail.weak fun _ h => h.2.2).sub (List.Sublist.refl _) | exact (K2.tail.tail.tail.weak fun _ h => h.2.2).sub (List.Sublist.refl _) | exact (K2.weak fun _ h => h.2.2.2).sub (List.Sublist.refl _) | exact (K2.tail.weak fun _ h => h.2.2.2).sub (List.Sublist.refl _) | exact (K2.tail.tail.weak fun _ h => h.2.2.2).sub (List.Sublist.refl _) | exact (K2.tail.tail.tail.weak fun _ h => h.2.2.2).sub (List.Sublist.refl _) | exact (K2.weak fun _ h => h.2.2.2.2).sub (List.Sublist.refl _) | exact (K2.tail.weak fun _ h => h.2.2.2.2).sub (List.Sublist.refl _) | exact (K2.tail.tail.weak fun _ h => h.2.2.2.2).sub (List.Sublist.refl _) | exact (K2.tail.tail.tail.weak fun _ h => h.2.2.2.2).sub (List.Sublist.refl _) | exact (K2.weak fun _ h => h.2.2.2.2.2).sub (List.Sublist.refl _) | exact (K2.tail.weak fun _ h => h.2.2.2.2.2).sub (List.Sublist.refl _) | exact (K2.tail.tail.weak fun _ h => h.2.2.2.2.2).sub (List.Sublist.refl _) | exact (K2.tail.tail.tail.weak fun _ h => h.2.2.2.2.2).sub (List.Sublist.refl _)), ?_⟩; replace K := K2; clear K2; (try clear ww); revert ww2; intro ww K) | (first | ((fail_if_success (have _h := r4)); refine tm_alloc (v := ?_) (cs := ?_) K rfl rfl _ rfl ?_ ?_ ?_ ?_; rotate_left; (first | (with_reducible exact zero47)); rotate_left; exact rfl; intro r4 ww2 K2; (try simp [go_sem, Value.cells] at K2); refine ⟨(by first | exact (K2).sub (List.Sublist.refl _) | exact (K2.tail).sub (List.Sublist.refl _) | exact (K2.tail.tail).sub (List.Sublist.refl _) | exact (K2.tail.tail.tail).sub (List.Sublist.refl _) | exact (K2.weak fun _ h => h.2).sub (List.Sublist.refl _) | exact (K2.tail.weak fun _ h => h.2).sub (List.Sublist.refl _) | exact (K2.tail.tail.weak fun _ h => h.2).sub (List.Sublist.refl _) | exact (K2.tail.tail.tail.weak fun _ h => h.2).sub (List.Sublist.refl _) | exact (K2.weak fun _ h => h.2.2).sub (List.Sublist.refl _) | exact (K2.tail.weak fun _ h => h.2.2).sub (List.Sublist.refl _) | exact (K2.tail.tail.weak fun _ h => h.2.2).sub (List.Sublist.refl _) | exact (K2.tail.tail.tail.weak fun _ h => h.2.2).sub (List.Sublist.refl _) | exact (K2.weak fun _ h => h.2.2.2).sub (List.Sublist.refl _) | exact (K2.tail.weak fun _ h => h.2.2.2).sub (List.Sublist.refl _) | exact (K2.tail.tail.weak fun _ h => h.2.2.2).sub (List.Sublist.refl _) | exact (K2.tail.tail.tail.weak fun _ h => h.2.2.2).sub (List.Sublist.refl _) | exact (K2.weak fun _ h => h.2.2.2.2).sub (List.Sublist.refl _) | exact (K2.tail.weak fun _ h => h.2.2.2.2).sub (List.Sublist.refl _) | exact (K2.tail.tail.weak fun _ h => h.2.2.2.2).sub (List.Sublist.refl _) | exact (K2.tail.tail.tail.weak fun _ h => h.2.2.2.2).sub (List.Sublist.refl _) | exact (K2.weak fun _ h => h.2.2.2.2.2).sub (List.Sublist.refl _) | exact (K2.tail.weak fun _ h => h.2.2.2.2.2).sub (List.Sublist.refl _) | exact (K2.tail.tail.weak fun _ h => h.2.2.2.2.2).sub (List.Sublist.refl _) | exact (K2.tail.tail.tail.weak fun _ h => h.2.2.2.2.2).sub (List.Sublist.refl _)), ?_⟩; replace K := K2; clear K2; (try clear ww); revert ww2; intro ww K)) | (refine tm_store (L' := ?_) (cs := ?_) (t0 := ?_) (n := ?_) K rfl rfl _ _ _ rfl rfl rfl rfl ?_ ?_ ?_ ?_ ?_ ?_ ?_; rotate_left 3; (repeat (first | exact Put.hd | (refine Put.tl (L' := ?_) ?_; rotate_left))); rotate_left; (first | (with_reducible exact row47)); (solve | exact rfl | simp); (solve | exact rfl | simp); (solve | exact rfl | simp [Ones, Value.oneCell']); intro ww2 K2; (try simp [go_sem] at K2); refine ⟨(by first | exact (K2).sub (List.Sublist.refl _) | exact (K2.tail).sub (List.Sublist.refl _) | exact (K2.tail.tail).sub (List.Sublist.refl _) | exact (K2.tail.tail.tail).sub (List.Sublist.refl _) | exact (K2.weak fun _ h => h.2).sub (List.Sublist.refl _) | exact (K2.tail.weak fun _ h => h.2).sub (List.Sublist.refl _) | exact (K2.tail.tail.weak fun _ h => h.2).sub (List.Sublist.refl _) | exact (K2.tail.tail.tail.weak fun _ h => h.2).sub (List.Sublist.refl _) | exact (K2.weak fun _ h => h.2.2).sub (List.Sublist.refl _) | exact (K2.tail.weak fun _ h => h.2.2).sub (List.Sublist.refl _) | exact (K2.tail.tail.weak fun _ h => h.2.2).sub (List.Sublist.refl _) | exact (K2.tail.tail.tail.weak fun _ h => h.2.2).sub (List.Sublist.refl _) | exact (K2.weak fun _ h => h.2.2.2).sub (List.Sublist.refl _) | exact (K2.tail.weak fun _ h => h.2.2.2).sub (List.Sublist.refl _) | exact (K2.tail.tail.weak fun _ h => h.2.2.2).sub (List.Sublist.refl _) | exact (K2.tail.tail.tail.weak fun _ h => h.2.2.2).sub (List.Sublist.refl _) | exact (K2.weak fun _ h => h.2.2.2.2).sub (List.Sublist.refl _) | exact (K2.tail.weak fun _ h => h.2.2.2.2).sub (List.Sublist.refl _) | exact (K2.tail.tail.weak fun _ h => h.2.2.2.2).sub (List.Sublist.refl _) | exact (K2.tail.tail.tail.weak fun _ h => h.2.2.2.2).sub (List.Sublist.refl _) | exact (K2.weak fun _ h => h.2.2.2.2.2).sub (List.Sublist.refl _) | exact (K2.tail.weak fun _ h => h.2.2.2.2.2).sub (List.Sublist.refl _) | exact (K2.tail.tail.weak fun _ h => h.2.2.2.2.2).sub (List.Sublist.refl _) | exact (K2.tail.tail.tail.weak fun _ h => h.2.2.2.2.2).sub (List.Sublist.refl _)), ?_⟩; replace K := K2; clear K2; (try clear ww); revert ww2; intro ww K))
    all_goals refine tree_done ?_
    all_goals (try simp only [opAt, List.getElem?_toArray, List.getElem?_cons_succ, List.getElem?_cons_zero, Option.getD_some])
    all_goals (try go_simp)
    all_goals (try go_wp2_with (fail))
    all_goals (try go_meet)
    all_goals first | exact ⟨_, _, rfl, K⟩ | exact ⟨_, _, rfl, K.perm (List.Perm.swap _ _ _)⟩
  case rest =>
    clear K
    obtain ⟨r4, g, rfl, K⟩ := hcut
    clear c1 c2 c3 c4 c5 c6 c7 e1 e2 e3 e4 e5 e6 e7 c1h c2h c3h c4h c5h c6h c7h e1h e2h e3h e4h e5h e6h e7h d3 m1' m2'
    have HZ0 : Hid (((nums .i64 (List.replicate n4 0)).toArray : Array Value).size = n4 ∧ ((nums .i64 (List.replicate n4 0)).toArray : Array Value).toList.take n4 = ints .i64 (gen14 n4 (pjoin p m1 zs 0))) := Lib.hid (by
      rw [gen_zero]; exact zeros_at n4)
    generalize (nums .i64 (List.replicate n4 0)).toArray = cur0 at *
    go_wp2_with (first | go_big_skip | ((with_reducible refine at_load ?_); first | (refine wm_load (cs := ?_) (t := ?_) (n := ?_) K rfl _ _ rfl rfl ?_ ?_ ?_ ?_; rotate_left 2; (repeat (first | exact At.hd | refine At.tl ?_)); rotate_left; (first | (with_reducible exact row47)); (solve | exact rfl | simp)) | (refine wm_own (cs := ?_) (t := ?_) (v := ?_) K rfl _ _ rfl rfl ?_ ?_ ?_ ?_; rotate_left 2; (repeat (first | exact At.hd | refine At.tl ?_)); rotate_left; (first | exact rfl | assumption); (first | (with_reducible exact one2) | (with_reducible exact one3) | (with_reducible exact one45))) | (refine wm_cell (v := ?_) rfl _ _ rfl rfl ?_ ?_ ?_; rotate_left; (first | assumption | exact (K.below.cell (by assumption)).trans (by assumption)); (first | (with_reducible exact one2) | (with_reducible exact one3) | (with_reducible exact one45)))) | ((with_reducible refine at_store ?_); first | (refine wm_store (L' := ?_) (cs := ?_) (t := ?_) (n := ?_) K rfl _ _ _ rfl rfl rfl rfl ?_ ?_ ?_ ?_ ?_ ?_; rotate_left 3; (repeat (first | exact Put.hd | (refine Put.tl (L' := ?_) ?_; rotate_left))); rotate_left; (first | (with_reducible exact row47)); (solve | exact rfl | simp); (solve | exact rfl | simp); (solve | exact rfl | simp [Ones, Value.oneCell']); (try clear K); (try clear ww); intro ww K; (try simp [go_sem] at K)) | (refine wm_put (L' := ?_) (cs := ?_) (new := ?_) (t := ?_) K rfl _ _ _ rfl rfl rfl rfl ?_ ?_ ?_ ?_ rfl rfl ?_; rotate_left 4; (repeat (first | exact Put.hd | (refine Put.tl (L' := ?_) ?_; rotate_left))); (solve | exact Nat.le_of_ble_eq_true rfl | decide | (simp only [List.size_toArray, nums_length]; first | assumption | omega) | (simp only [List.size_toArray, nums_length, List.length_set]; first | assumption | omega) | simp | omega | (simp only [List.size_toArray, nums_length]; omega) | assumption); (solve | (simp only [List.setIfInBounds_toArray]; exact rfl) | exact nums_set _ _ _ _ | simp only [List.setIfInBounds_toArray, List.set_cons_zero] | simp only [List.setIfInBounds_toArray, List.set_cons_zero, List.set_cons_succ] | (simp only [List.setIfInBounds_toArray, List.set_cons_zero, List.set_cons_succ]; exact rfl) | exact rfl); (first | (with_reducible exact one2) | (with_reducible exact one3) | (with_reducible exact one45)); (try clear K); (try clear ww); intro ww K; (try simp [go_sem] at K))) | (first | ((with_reducible refine at_box ?_); refine wm_box K rfl _ _ rfl rfl rfl ?_; (try clear K); (try clear ww); ((fail_if_success (have _h := b99)); intro b99 ww K); (try simp [go_sem, Value.cells] at K)) | ((with_reducible refine at_alloc ?_); refine wm_alloc (v := ?_) (cs := ?_) K rfl _ rfl ?_ ?_ ?_; rotate_left; (first | (with_reducible exact zero47)); rotate_left; exact rfl; (try clear K); (try clear ww); ((fail_if_success (have _h := b99)); intro b99 ww K); (try simp [go_sem, Value.cells] at K))))
    go_loopw [54] (fun i wr => ∃ (k : Nat) (cur : Array Value), k ≤ n ∧ i = .int .i64 k ∧ Hid (cur.size = n4 ∧ cur.toList.take n4 = ints .i64 (gen14 n4 (pjoin p m1 zs k))) ∧ St w.heap.size w [(r4, #[.int .i64 m1, .int .i64 q1, .int .i64 X2, .int .i64 Y2, .int .i64 S2, .slice (some ⟨g, 0, none⟩) n4 n4], 47), (g, cur, 2), (r2, #[.int .i64 0, .int .i64 0, .int .i64 0, .int .i64 0, .int .i64 0, .slice none 0 0], 47), (r1, #[.int .i64 p, .int .i64 q, .int .i64 X, .int .i64 Y, .int .i64 S, .slice A n c], 47)] Any wr) (fun i _ => n - (intOf i).toNat)
    case atStart => exact ⟨0, cur0, Nat.zero_le _, rfl, HZ0, K⟩
    case round =>
      clear K HZ0
      obtain ⟨i, cur, hi, rfl, HU, K⟩ := hrel
      by_cases hlt : i < n
      · have ht : decide ((i : Int) < n) = true := decide_eq_true (by omega)
        obtain ⟨hn, hp, hq, hm, hm4, h4, hq1, hn1⟩ := HN.out
        have hd := dest_lt (p := p) (m := m1) (q2 := q1) (i := i) hp (by omega) (by rw [← hq, hn]; exact hlt)
        rw [hm4] at hd
        have hsc := scatter_step (n4 := n4) (zs := zs) hp (by omega) hd
        have hcell := row_at HU.out.2 (gen_len _ _) hd
        have hob := pjoin_bd (p := p) (m := m1) (i := i) (k := dest14 p m1 i) HZ.out
        rw [gen_get _ hd] at hsc hcell
        obtain ⟨j, hj⟩ : ∃ j, dest14 p m1 i = j := ⟨_, rfl⟩
        rw [hj] at hd hsc hcell hob
        unfold dest14 at hj
        obtain ⟨d, hdd⟩ : ∃ d, i / p = d := ⟨_, rfl⟩
        obtain ⟨e, he⟩ : ∃ e, i % p = e := ⟨_, rfl⟩
        rw [hdd, he] at hj
        obtain ⟨yy, hyy⟩ : ∃ yy, d / 2 = yy := ⟨_, rfl⟩
        obtain ⟨xx, hxx⟩ : ∃ xx, e / 2 = xx := ⟨_, rfl⟩
        rw [hyy, hxx] at hj
        obtain ⟨R, hR⟩ : ∃ R, yy * m1 = R := ⟨_, rfl⟩
        rw [hR] at hj
        have hd2 : d ≤ i := by rw [← hdd]; exact Nat.div_le_self _ _
        have c1h : Hid ((i : Int).tmod (p : Int) = (e : Int)) := Lib.hid (by rw [Int.tmod_eq_emod_of_nonneg (by omega), ← Int.natCast_emod, he])
        have c2h : Hid ((e : Int).tdiv 2 = (xx : Int)) := Lib.hid (by rw [Int.tdiv_eq_ediv_of_nonneg (by omega)]; omega)
        have c3h : Hid ((i : Int).tdiv (p : Int) = (d : Int)) := Lib.hid (by rw [Int.tdiv_eq_ediv_of_nonneg (by omega), ← Int.natCast_ediv, hdd])
        have c4h : Hid ((d : Int).tdiv 2 = (yy : Int)) := Lib.hid (by rw [Int.tdiv_eq_ediv_of_nonneg (by omega)]; omega)
        have c5h : Hid (IntKind.i64.wrap (xx : Int) = xx) := Lib.hid (IntWalk.i64_in _ (by omega))
        have c6h : Hid (IntKind.i64.wrap (yy : Int) = yy) := Lib.hid (IntWalk.i64_in _ (by omega))
        have c7h : Hid (IntKind.i64.wrap (d : Int) = d) := Lib.hid (IntWalk.i64_in _ (by omega))
        have c8h : Hid (IntKind.i64.wrap ((yy : Int) * (m1 : Int)) = (R : Int)) := Lib.hid (by rw [← Int.natCast_mul, hR]; exact IntWalk.i64_in _ (by omega))
        have c9h : Hid (IntKind.i64.wrap ((R : Int) + (xx : Int)) = (j : Int)) := Lib.hid ((IntWalk.i64_in _ (by omega)).trans (by omega))
        have c0 : (p = 0) = False := by simp; omega
        have hil : i < zs.length := by rw [HL.out]; exact hlt
        have hz := HZ.out _ (getD_mem hil)
        obtain ⟨r0, off, rfl, hbb, hc⟩ := HR.out.get hlt
        have hv := hc i _ (ints_get .i64 zs i hil)
        generalize zs.getD i 0 = z at *
        generalize pjoin p m1 zs i j = o at *
        have z1h : Hid (IntKind.i64.wrap (o + z) = o + z) := Lib.hid (IntWalk.i64_in _ (by omega))
        have hput := row_put (i := j) (x := o + z) HU.out.2
        rw [hsc] at hput
        have HN2 : Hid ((cur.setIfInBounds j (.int .i64 (o + z))).size = n4 ∧ (cur.setIfInBounds j (.int .i64 (o + z))).toList.take n4 = ints .i64 (gen14 n4 (pjoin p m1 zs (i + 1)))) := Lib.hid ⟨by rw [Array.size_setIfInBounds]; exact HU.out.1, hput⟩
        have hink : j < cur.size := by rw [HU.out.1]; exact hd
        clear hn hp hq hm hm4 h4 hq1 hn1 hsc hob hj hdd he hyy hxx hR hd2 hil hz hc hput
        have c1 := c1h.out
        have c2 := c2h.out
        have c3 := c3h.out
        have c4 := c4h.out
        have c5 := c5h.out
        have c6 := c6h.out
        have c7 := c7h.out
        have c8 := c8h.out
        have c9 := c9h.out
        have z1 := z1h.out
        go_wp2_with (first | go_big_skip | ((with_reducible refine at_load ?_); first | (refine wm_load (cs := ?_) (t := ?_) (n := ?_) K rfl _ _ rfl rfl ?_ ?_ ?_ ?_; rotate_left 2; (repeat (first | exact At.hd | refine At.tl ?_)); rotate_left; (first | (with_reducible exact row47)); (solve | exact rfl | simp)) | (refine wm_own (cs := ?_) (t := ?_) (v := ?_) K rfl _ _ rfl rfl ?_ ?_ ?_ ?_; rotate_left 2; (repeat (first | exact At.hd | refine At.tl ?_)); rotate_left; (first | exact rfl | assumption); (first | (with_reducible exact one2) | (with_reducible exact one3) | (with_reducible exact one45))) | (refine wm_cell (v := ?_) rfl _ _ rfl rfl ?_ ?_ ?_; rotate_left; (first | assumption | exact (K.below.cell (by assumption)).trans (by assumption)); (first | (with_reducible exact one2) | (with_reducible exact one3) | (with_reducible exact one45)))) | ((with_reducible refine at_store ?_); first | (refine wm_store (L' := ?_) (cs := ?_) (t := ?_) (n := ?_) K rfl _ _ _ rfl rfl rfl rfl ?_ ?_ ?_ ?_ ?_ ?_; rotate_left 3; (repeat (first | exact Put.hd | (refine Put.tl (L' := ?_) ?_; rotate_left))); rotate_left; (first | (with_reducible exact row47)); (solve | exact rfl | simp); (solve | exact rfl | simp); (solve | exact rfl | simp [Ones, Value.oneCell']); (try clear K); (try clear ww); intro ww K; (try simp [go_sem] at K)) | (refine wm_put (L' := ?_) (cs := ?_) (new := ?_) (t := ?_) K rfl _ _ _ rfl rfl rfl rfl ?_ ?_ ?_ ?_ rfl rfl ?_; rotate_left 4; (repeat (first | exact Put.hd | (refine Put.tl (L' := ?_) ?_; rotate_left))); (solve | exact Nat.le_of_ble_eq_true rfl | decide | (simp only [List.size_toArray, nums_length]; first | assumption | omega) | (simp only [List.size_toArray, nums_length, List.length_set]; first | assumption | omega) | simp | omega | (simp only [List.size_toArray, nums_length]; omega) | assumption); (solve | (simp only [List.setIfInBounds_toArray]; exact rfl) | exact nums_set _ _ _ _ | simp only [List.setIfInBounds_toArray, List.set_cons_zero] | simp only [List.setIfInBounds_toArray, List.set_cons_zero, List.set_cons_succ] | (simp only [List.setIfInBounds_toArray, List.set_cons_zero, List.set_cons_succ]; exact rfl) | exact rfl); (first | (with_reducible exact one2) | (with_reducible exact one3) | (with_reducible exact one45)); (try clear K); (try clear ww); intro ww K; (try simp [go_sem] at K))) | (first | ((with_reducible refine at_box ?_); refine wm_box K rfl _ _ rfl rfl rfl ?_; (try clear K); (try clear ww); ((fail_if_success (have _h := b99)); intro b99 ww K); (try simp [go_sem, Value.cells] at K)) | ((with_reducible refine at_alloc ?_); refine wm_alloc (v := ?_) (cs := ?_) K rfl _ rfl ?_ ?_ ?_; rotate_left; (first | (with_reducible exact zero47)); rotate_left; exact rfl; (try clear K); (try clear ww); ((fail_if_success (have _h := b99)); intro b99 ww K); (try simp [go_sem, Value.cells] at K))))
        refine wm_held _ [(true, 0), (true, 1), (true, 2), (true, 3), (true, 4), (true, 5), (true, 6), (true, 7), (true, 8), (true, 9), (true, 10), (true, 11), (true, 12), (true, 13), (true, 14), (true, 15), (true, 16), (true, 18), (false, 17), (true, 19), (true, 20), (false, 21)] K (List.Sublist.cons_cons _ (List.Sublist.cons _ (List.Sublist.refl _))) (by kernel_rfl) (by kernel_rfl) ?_; (try clear K); (try clear ww); intro ww K; (try simp [go_sem] at K); simp only [pick, List.getElem?_toArray, List.getElem?_cons_succ, List.getElem?_cons_zero]
        have hnow := (K.get (At.tl At.hd)).cell hcell
        repeat (first | ((with_reducible refine ht_load ?_); first | (refine hm_load (cs := ?_) (t := ?_) (n := ?_) rfl _ _ rfl rfl ?_ ?_ ?_ ?_; rotate_left 2; (repeat (first | exact At.hd | refine At.tl ?_)); rotate_left; (first | (with_reducible exact row47)); (solve | exact rfl | simp)) | (refine hm_own (cs := ?_) (t := ?_) (v := ?_) rfl _ _ rfl rfl ?_ ?_ ?_ ?_; rotate_left 2; (repeat (first | exact At.hd | refine At.tl ?_)); rotate_left; (first | exact rfl | assumption); (first | (with_reducible exact one2) | (with_reducible exact one3) | (with_reducible exact one45))) | (refine hm_cell (v := ?_) rfl _ _ rfl rfl (fun ww K => ?_) ?_ ?_; rotate_left; (first | assumption | exact (K.below.cell (by assumption)).trans (by assumption)); (first | (with_reducible exact one2) | (with_reducible exact one3) | (with_reducible exact one45)))) | (refine held_take (fun K' hK' => ?_); go_simp; first | (refine hK' _ ?_; clear hK' K') | (apply Exists.intro; refine ⟨?_, hK' _ ?_⟩; (intro _ _; rfl); clear hK' K')) | ((with_reducible refine ht_store ?_); first | (refine hm_store (L' := ?_) (cs := ?_) (t := ?_) (n := ?_) K rfl _ _ _ rfl rfl rfl rfl ?_ ?_ ?_ ?_ ?_ ?_; rotate_left 3; (repeat (first | exact Put.hd | (refine Put.tl (L' := ?_) ?_; rotate_left))); rotate_left; (first | (with_reducible exact row47)); (solve | exact rfl | simp); (solve | exact rfl | simp); (solve | exact rfl | simp [Ones, Value.oneCell']); (try clear K); (try clear ww); intro ww K; (try simp [go_sem] at K); refine ⟨(by first | exact (K).sub (List.Sublist.cons_cons _ (List.Sublist.cons _ (List.Sublist.refl _))) | exact (K.weak fun _ h => h.2).sub (List.Sublist.cons_cons _ (List.Sublist.cons _ (List.Sublist.refl _))) | exact (K.weak fun _ h => h.2.2).sub (List.Sublist.cons_cons _ (List.Sublist.cons _ (List.Sublist.refl _))) | exact (K.weak fun _ h => h.2.2.2).sub (List.Sublist.cons_cons _ (List.Sublist.cons _ (List.Sublist.refl _))) | exact (K.weak fun _ h => h.2.2.2.2).sub (List.Sublist.cons_cons _ (List.Sublist.cons _ (List.Sublist.refl _))) | exact (K.weak fun _ h => h.2.2.2.2.2).sub (List.Sublist.cons_cons _ (List.Sublist.cons _ (List.Sublist.refl _)))), ?_⟩) | (refine hm_put (L' := ?_) (cs := ?_) (new := ?_) (t := ?_) K rfl _ _ _ rfl rfl rfl rfl ?_ ?_ ?_ ?_ rfl rfl ?_; rotate_left 4; (repeat (first | exact Put.hd | (refine Put.tl (L' := ?_) ?_; rotate_left))); (solve | exact Nat.le_of_ble_eq_true rfl | decide | (simp only [List.size_toArray, nums_length]; first | assumption | omega) | (simp only [List.size_toArray, nums_length, List.length_set]; first | assumption | omega) | simp | omega | (simp only [List.size_toArray, nums_length]; omega) | assumption); (solve | (simp only [List.setIfInBounds_toArray]; exact rfl) | exact nums_set _ _ _ _ | simp only [List.setIfInBounds_toArray, List.set_cons_zero] | simp only [List.setIfInBounds_toArray, List.set_cons_zero, List.set_cons_succ] | (simp only [List.setIfInBounds_toArray, List.set_cons_zero, List.set_cons_succ]; exact rfl) | exact rfl); (first | (with_reducible exact one2) | (with_reducible exact one3) | (with_reducible exact one45)); (try clear K); (try clear ww); intro ww K; (try simp [go_sem] at K); refine ⟨(by first | exact (K).sub (List.Sublist.cons_cons _ (List.Sublist.cons _ (List.Sublist.refl _))) | exact (K.weak fun _ h => h.2).sub (List.Sublist.cons_cons _ (List.Sublist.cons _ (List.Sublist.refl _))) | exact (K.weak fun _ h => h.2.2).sub (List.Sublist.cons_cons _ (List.Sublist.cons _ (List.Sublist.refl _))) | exact (K.weak fun _ h => h.2.2.2).sub (List.Sublist.cons_cons _ (List.Sublist.cons _ (List.Sublist.refl _))) | exact (K.weak fun _ h => h.2.2.2.2).sub (List.Sublist.cons_cons _ (List.Sublist.cons _ (List.Sublist.refl _))) | exact (K.weak fun _ h => h.2.2.2.2.2).sub (List.Sublist.cons_cons _ (List.Sublist.cons _ (List.Sublist.refl _)))), ?_⟩)) | ((with_reducible refine ht_load ?_); refine hm_now (v := ?_) rfl _ _ rfl rfl ?_ ?_ (by first | exact (K).sub (List.Sublist.cons_cons _ (List.Sublist.cons _ (List.Sublist.refl _))) | exact (K.weak fun _ h => h.2).sub (List.Sublist.cons_cons _ (List.Sublist.cons _ (List.Sublist.refl _))) | exact (K.weak fun _ h => h.2.2).sub (List.Sublist.cons_cons _ (List.Sublist.cons _ (List.Sublist.refl _))) | exact (K.weak fun _ h => h.2.2.2).sub (List.Sublist.cons_cons _ (List.Sublist.cons _ (List.Sublist.refl _))) | exact (K.weak fun _ h => h.2.2.2.2).sub (List.Sublist.cons_cons _ (List.Sublist.cons _ (List.Sublist.refl _))) | exact (K.weak fun _ h => h.2.2.2.2.2).sub (List.Sublist.cons_cons _ (List.Sublist.cons _ (List.Sublist.refl _)))) ?_; rotate_left; (first | assumption | exact (K.get (by (repeat (first | exact At.hd | refine At.tl ?_)))).cell (by (first | exact rfl | assumption))); (first | (with_reducible exact one2) | (with_reducible exact one3) | (with_reducible exact one45))))
        refine held_nil ?_
        clear c1 c2 c3 c4 c5 c6 c7 c8 c9 z1
        go_wp2_with fail
        exact ⟨⟨i + 1, _, by omega, by go_num, HN2, K⟩, by simp [intOf]; omega⟩
      · obtain rfl : n = i := by omega
        have ht : decide ((n : Int) < n) = false := decide_eq_false (by omega)
        have hlast : cur.toList.take n4 = ints .i64 (join14 p m1 zs n4) := by
          obtain ⟨hn, hp, hq, hm, hm4, h4, hq1, hn1⟩ := HN.out
          have hg := gen_join (zs := zs) (q1 := q1) hp (by omega)
          rw [← hq, hn, hm4] at hg
          rw [HU.out.2, hg]
        have HX := Lib.hid (And.intro hlast (show n4 ≤ cur.size by rw [HU.out.1]; exact Nat.le_refl _))
        clear hlast
        go_wp2_with (first | go_big_skip | ((with_reducible refine at_load ?_); first | (refine wm_load (cs := ?_) (t := ?_) (n := ?_) K rfl _ _ rfl rfl ?_ ?_ ?_ ?_; rotate_left 2; (repeat (first | exact At.hd | refine At.tl ?_)); rotate_left; (first | (with_reducible exact row47)); (solve | exact rfl | simp)) | (refine wm_own (cs := ?_) (t := ?_) (v := ?_) K rfl _ _ rfl rfl ?_ ?_ ?_ ?_; rotate_left 2; (repeat (first | exact At.hd | refine At.tl ?_)); rotate_left; (first | exact rfl | assumption); (first | (with_reducible exact one2) | (with_reducible exact one3) | (with_reducible exact one45))) | (refine wm_cell (v := ?_) rfl _ _ rfl rfl ?_ ?_ ?_; rotate_left; (first | assumption | exact (K.below.cell (by assumption)).trans (by assumption)); (first | (with_reducible exact one2) | (with_reducible exact one3) | (with_reducible exact one45)))) | ((with_reducible refine at_store ?_); first | (refine wm_store (L' := ?_) (cs := ?_) (t := ?_) (n := ?_) K rfl _ _ _ rfl rfl rfl rfl ?_ ?_ ?_ ?_ ?_ ?_; rotate_left 3; (repeat (first | exact Put.hd | (refine Put.tl (L' := ?_) ?_; rotate_left))); rotate_left; (first | (with_reducible exact row47)); (solve | exact rfl | simp); (solve | exact rfl | simp); (solve | exact rfl | simp [Ones, Value.oneCell']); (try clear K); (try clear ww); intro ww K; (try simp [go_sem] at K)) | (refine wm_put (L' := ?_) (cs := ?_) (new := ?_) (t := ?_) K rfl _ _ _ rfl rfl rfl rfl ?_ ?_ ?_ ?_ rfl rfl ?_; rotate_left 4; (repeat (first | exact Put.hd | (refine Put.tl (L' := ?_) ?_; rotate_left))); (solve | exact Nat.le_of_ble_eq_true rfl | decide | (simp only [List.size_toArray, nums_length]; first | assumption | omega) | (simp only [List.size_toArray, nums_length, List.length_set]; first | assumption | omega) | simp | omega | (simp only [List.size_toArray, nums_length]; omega) | assumption); (solve | (simp only [List.setIfInBounds_toArray]; exact rfl) | exact nums_set _ _ _ _ | simp only [List.setIfInBounds_toArray, List.set_cons_zero] | simp only [List.setIfInBounds_toArray, List.set_cons_zero, List.set_cons_succ] | (simp only [List.setIfInBounds_toArray, List.set_cons_zero, List.set_cons_succ]; exact rfl) | exact rfl); (first | (with_reducible exact one2) | (with_reducible exact one3) | (with_reducible exact one45)); (try clear K); (try clear ww); intro ww K; (try simp [go_sem] at K))) | (first | ((with_reducible refine at_box ?_); refine wm_box K rfl _ _ rfl rfl rfl ?_; (try clear K); (try clear ww); ((fail_if_success (have _h := b99)); intro b99 ww K); (try simp [go_sem, Value.cells] at K)) | ((with_reducible refine at_alloc ?_); refine wm_alloc (v := ?_) (cs := ?_) K rfl _ rfl ?_ ?_ ?_; rotate_left; (first | (with_reducible exact zero47)); rotate_left; exact rfl; (try clear K); (try clear ww); ((fail_if_success (have _h := b99)); intro b99 ww K); (try simp [go_sem, Value.cells] at K))))
        refine bodyPost_ret (K.res2 rfl _ rfl (At.tl (At.tl At.hd)) (by (first | (with_reducible exact row47))) (by (solve | exact rfl | simp)) rfl) rfl ?_
        exact ⟨some ⟨g, 0, none⟩, n4, rfl, ⟨(sl_take (K.get (.tl .hd)) HX.out.1 HX.out.2).rd, Nw.mk _ _ _ (K.ge (.tl .hd))⟩, K.below⟩
end Go.Proofs.Yteancdipmpmjpaa
