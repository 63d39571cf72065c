/-
  The walks of the reference: comparing, equality, powers of two, digits of parts.
-/
import Derived.Test.YteancdipmpmjpaaRa16
namespace Go.Proofs.Yteancdipmpmjpaa
open Go.RowKit
set_option maxRecDepth 100000
set_option linter.unusedVariables false

theorem Rf.at {w : World} {A : Option Addr} {n c X k : Nat} (h : Rf w A n c X) (hk : k < n) : ∃ b off, A = some ⟨b, off, none⟩ ∧ b < w.heap.size ∧ w.cell? ⟨b, off + k, none⟩ = some (.int .i64 (X / 256 ^ k % 256 : Nat)) := by
  obtain ⟨b, off, e, hb, hc⟩ := h.1.rd.get hk
  have hv := hc k _ (nums_get .i64 _ k (by rw [← h.len]; exact hk))
  rw [digs_get (by omega)] at hv
  exact ⟨b, off, e, hb, hv⟩
theorem Rf.lim {w : World} {A : Option Addr} {n c X : Nat} (h : Rf w A n c X) : X < 256 ^ n := by
  have a1 := digs_le (b := 256) (by omega) X
  rwa [← h.len] at a1
theorem Rf.ne_len {w : World} {A A2 : Option Addr} {n c X m d Y : Nat} (hx : Rf w A n c X) (hy : Rf w A2 m d Y) (hne : n ≠ m) : decide (n < m) = decide (X < Y) ∧ X ≠ Y := by
  have h1 := hx.len
  have h2 := hy.len
  rcases Nat.lt_or_gt_of_ne hne with h | h
  · have : X < 256 ^ (m - 1) := (digs_len (by omega) X (m - 1)).1 (by omega)
    have h3 : 256 ^ (m - 1) ≤ Y := by
      rcases Nat.lt_or_ge Y (256 ^ (m - 1)) with h4 | h4
      · have := (digs_len (by omega) Y (m - 1)).2 h4; omega
      · exact h4
    rw [decide_eq_true h, decide_eq_true (by omega)]
    exact ⟨rfl, by omega⟩
  · have : Y < 256 ^ (n - 1) := (digs_len (by omega) Y (n - 1)).1 (by omega)
    have h3 : 256 ^ (n - 1) ≤ X := by
      rcases Nat.lt_or_ge X (256 ^ (n - 1)) with h4 | h4
      · have := (digs_len (by omega) X (n - 1)).2 h4; omega
      · exact h4
    rw [decide_eq_false (by omega), decide_eq_false (by omega)]
    exact ⟨rfl, by omega⟩


set_option maxHeartbeats 2000000 in
theorem LessR (A A2 : Option Addr) (n c m d X Y : Nat) (w : World) (hx : Rf w A n c X) (hy : Rf w A2 m d Y) (h1 : n ≤ 1000000) (h2 : m ≤ 1000000) :
    Calls Try.prog 108 #[.slice A n c, .slice A2 m d] w fun e w' => e = .returned (.bool (decide (X < Y))) ∧ Below w.heap.size w w' := by
  have K := St.start w
  have HX := Lib.hid hx
  have HY := Lib.hid hy
  by_cases hne : n = m
  · subst hne
    have t0 : ((n : Int) != (n : Int)) = false := by simp
    have hE : Hid (X / 256 ^ n = Y / 256 ^ n) := Lib.hid (by rw [Nat.div_eq_of_lt hx.lim, Nat.div_eq_of_lt hy.lim])
    clear hx hy
    go_enter Try.func108, Try.ntmps108
    go_wp2
    go_loopw [5] (fun i wr => ∃ (j : Nat) (z : Int), j ≤ n ∧ z = (j : Int) - 1 ∧ i = .int .i64 z ∧ Hid (X / 256 ^ j = Y / 256 ^ j) ∧ St w.heap.size w [] Any wr) (fun i _ => (intOf i + 1).toNat)
    case atStart => exact ⟨n, _, Nat.le_refl _, rfl, by go_num, hE, K⟩
    case round =>
      clear K
      obtain ⟨j, z, hj, hz, rfl, he, K⟩ := hrel
      rcases j with _ | k
      · have ht : decide ((0 : Int) ≤ z) = false := decide_eq_false (by omega)
        have e : Hid (decide (X < Y) = false) := Lib.hid (decide_eq_false (by have := he.out; simp at this; omega))
        clear hz
        go_wp2
        go_ret
        exact ⟨by rw [e.out]; rfl, K.below⟩
      · have hzk : z = (k : Int) := by omega
        subst hzk
        have hkn : k < n := by omega
        obtain ⟨b, off, rfl, hb, hv⟩ := HX.out.at hkn
        obtain ⟨b', off', rfl, hb', hv'⟩ := HY.out.at hkn
        have L1 := Lib.hid (cmp_lt 256 X Y k (by omega) he.out)
        have L2 := Lib.hid (cmp_lt 256 Y X k (by omega) he.out.symm)
        have L3 := Lib.hid (cmp_eq 256 X Y k (by omega) he.out)
        have x1 := Nat.mod_lt (X / 256 ^ k) (show 0 < 256 by omega)
        have y1 := Nat.mod_lt (Y / 256 ^ k) (show 0 < 256 by omega)
        generalize X / 256 ^ k % 256 = x at *
        generalize Y / 256 ^ k % 256 = y at *
        have tz : decide ((0 : Int) ≤ (k : Int)) = true := decide_eq_true (by omega)
        clear he hz hE
        rcases Nat.lt_trichotomy x y with hlt | heq | hgt
        · have E : Hid (decide (X < Y) = true) := Lib.hid (decide_eq_true (L1.out hlt))
          have t3 : decide (x < y) = true := decide_eq_true hlt
          have t2 : ((x : Int) != (y : Int)) = true := by simp; omega
          clear L1 L2 L3
          have e1 : IntKind.i64.wrap (k : Int) = (k : Int) := IntWalk.i64_in _ (by omega)
          go_wp2_with fail
          refine wm_region K (by kernel_rfl) (by kernel_rfl) ?_
          repeat (first | ((with_reducible refine qt_load ?_); first | (refine wn_load (cs := ?_) (t := ?_) (n := ?_) rfl _ _ rfl rfl ?_ ?_ ?_ ?_; rotate_left 2; (repeat (first | exact At.hd | refine At.tl ?_)); rotate_left; (first | fail); (solve | exact rfl | simp)) | (refine wn_own (cs := ?_) (t := ?_) (v := ?_) rfl _ _ rfl rfl ?_ ?_ ?_ ?_; rotate_left 2; (repeat (first | exact At.hd | refine At.tl ?_)); rotate_left; (first | exact rfl | assumption); (first | (with_reducible exact one3))) | (refine wn_cell (v := ?_) rfl _ _ rfl rfl (fun ww K => ?_) ?_ ?_; rotate_left; (first | assumption | exact (K.below.cell (by assumption)).trans (by assumption)); (first | (with_reducible exact one3)))) | (quiet_step ((intro _; rfl))))
          refine wpQuiet_nil ?_; (try clear K); (try clear ww); intro ww K; (try simp [go_sem] at K)
          go_wp2_with fail
          refine wm_region K (by kernel_rfl) (by kernel_rfl) ?_
          repeat (first | ((with_reducible refine qt_load ?_); first | (refine wn_load (cs := ?_) (t := ?_) (n := ?_) rfl _ _ rfl rfl ?_ ?_ ?_ ?_; rotate_left 2; (repeat (first | exact At.hd | refine At.tl ?_)); rotate_left; (first | fail); (solve | exact rfl | simp)) | (refine wn_own (cs := ?_) (t := ?_) (v := ?_) rfl _ _ rfl rfl ?_ ?_ ?_ ?_; rotate_left 2; (repeat (first | exact At.hd | refine At.tl ?_)); rotate_left; (first | exact rfl | assumption); (first | (with_reducible exact one3))) | (refine wn_cell (v := ?_) rfl _ _ rfl rfl (fun ww K => ?_) ?_ ?_; rotate_left; (first | assumption | exact (K.below.cell (by assumption)).trans (by assumption)); (first | (with_reducible exact one3)))) | (quiet_step ((intro _; rfl))))
          refine wpQuiet_nil ?_; (try clear K); (try clear ww); intro ww K; (try simp [go_sem] at K)
          go_wp2
          go_ret
          exact ⟨by rw [E.out]; rfl, K.below⟩
        · have E := Lib.hid (L3.out heq)
          clear L1 L2 L3
          subst heq
          have e1 : IntKind.i64.wrap (k : Int) = (k : Int) := IntWalk.i64_in _ (by omega)
          go_wp2_with fail
          refine wm_region K (by kernel_rfl) (by kernel_rfl) ?_
          repeat (first | ((with_reducible refine qt_load ?_); first | (refine wn_load (cs := ?_) (t := ?_) (n := ?_) rfl _ _ rfl rfl ?_ ?_ ?_ ?_; rotate_left 2; (repeat (first | exact At.hd | refine At.tl ?_)); rotate_left; (first | fail); (solve | exact rfl | simp)) | (refine wn_own (cs := ?_) (t := ?_) (v := ?_) rfl _ _ rfl rfl ?_ ?_ ?_ ?_; rotate_left 2; (repeat (first | exact At.hd | refine At.tl ?_)); rotate_left; (first | exact rfl | assumption); (first | (with_reducible exact one3))) | (refine wn_cell (v := ?_) rfl _ _ rfl rfl (fun ww K => ?_) ?_ ?_; rotate_left; (first | assumption | exact (K.below.cell (by assumption)).trans (by assumption)); (first | (with_reducible exact one3)))) | (quiet_step ((intro _; rfl))))
          refine wpQuiet_nil ?_; (try clear K); (try clear ww); intro ww K; (try simp [go_sem] at K)
          go_wp2
          exact ⟨⟨k, _, by omega, rfl, by go_num, E, K⟩, by simp [intOf]⟩
        · have E : Hid (decide (X < Y) = false) := Lib.hid (decide_eq_false (by have := L2.out hgt; omega))
          have t3 : decide (x < y) = false := decide_eq_false (by omega)
          have t2 : ((x : Int) != (y : Int)) = true := by simp; omega
          clear L1 L2 L3
          have e1 : IntKind.i64.wrap (k : Int) = (k : Int) := IntWalk.i64_in _ (by omega)
          go_wp2_with fail
          refine wm_region K (by kernel_rfl) (by kernel_rfl) ?_
          repeat (first | ((with_reducible refine qt_load ?_); first | (refine wn_load (cs := ?_) (t := ?_) (n := ?_) rfl _ _ rfl rfl ?_ ?_ ?_ ?_; rotate_left 2; (repeat (first | exact At.hd | refine At.tl ?_)); rotate_left; (first | fail); (solve | exact rfl | simp)) | (refine wn_own (cs := ?_) (t := ?_) (v := ?_) rfl _ _ rfl rfl ?_ ?_ ?_ ?_; rotate_left 2; (repeat (first | exact At.hd | refine At.tl ?_)); rotate_left; (first | exact rfl | assumption); (first | (with_reducible exact one3))) | (refine wn_cell (v := ?_) rfl _ _ rfl rfl (fun ww K => ?_) ?_ ?_; rotate_left; (first | assumption | exact (K.below.cell (by assumption)).trans (by assumption)); (first | (with_reducible exact one3)))) | (quiet_step ((intro _; rfl))))
          refine wpQuiet_nil ?_; (try clear K); (try clear ww); intro ww K; (try simp [go_sem] at K)
          go_wp2_with fail
          refine wm_region K (by kernel_rfl) (by kernel_rfl) ?_
          repeat (first | ((with_reducible refine qt_load ?_); first | (refine wn_load (cs := ?_) (t := ?_) (n := ?_) rfl _ _ rfl rfl ?_ ?_ ?_ ?_; rotate_left 2; (repeat (first | exact At.hd | refine At.tl ?_)); rotate_left; (first | fail); (solve | exact rfl | simp)) | (refine wn_own (cs := ?_) (t := ?_) (v := ?_) rfl _ _ rfl rfl ?_ ?_ ?_ ?_; rotate_left 2; (repeat (first | exact At.hd | refine At.tl ?_)); rotate_left; (first | exact rfl | assumption); (first | (with_reducible exact one3))) | (refine wn_cell (v := ?_) rfl _ _ rfl rfl (fun ww K => ?_) ?_ ?_; rotate_left; (first | assumption | exact (K.below.cell (by assumption)).trans (by assumption)); (first | (with_reducible exact one3)))) | (quiet_step ((intro _; rfl))))
          refine wpQuiet_nil ?_; (try clear K); (try clear ww); intro ww K; (try simp [go_sem] at K)
          go_wp2
          go_ret
          exact ⟨by rw [E.out]; rfl, K.below⟩
  · have t0 : ((n : Int) != (m : Int)) = true := by simp; omega
    have E := Lib.hid (hx.ne_len hy hne).1
    clear hx hy hne
    go_enter Try.func108, Try.ntmps108
    go_wp2
    go_ret
    exact ⟨by rw [← E.out]; simp, K.below⟩
end Go.Proofs.Yteancdipmpmjpaa
