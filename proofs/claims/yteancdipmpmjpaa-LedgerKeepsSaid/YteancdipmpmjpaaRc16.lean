/-
  The walks of the reference: equality, powers of two, digits of parts.
-/
import Derived.Test.YteancdipmpmjpaaRb16
namespace Go.Proofs.Yteancdipmpmjpaa
open Go.RowKit
set_option maxRecDepth 100000
set_option linter.unusedVariables false

set_option maxHeartbeats 2000000 in
theorem SameR (A A2 : Option Addr) (n c m d X Y : Nat) (w : World) (hx : Rf w A n c X) (hy : Rf w A2 m d Y) (h1 : n ≤ 1000000) (h2 : m ≤ 1000000) :
    Calls Try.prog 127 #[.slice A n c, .slice A2 m d] w fun e w' => e = .returned (.bool (decide (X = Y))) ∧ Below w.heap.size w w' := by
  have K := St.start w
  have HX := Lib.hid hx
  have HY := Lib.hid hy
  by_cases hne : n = m
  · subst hne
    have t0 : ((n : Int) != (n : Int)) = false := by simp
    have hlx := Lib.hid hx.lim
    have hly := Lib.hid hy.lim
    clear hx hy
    go_enter Try.func127, Try.ntmps127
    go_wp2
    go_loopw [5] (fun i wr => ∃ (k : Nat), k ≤ n ∧ i = .int .i64 k ∧ Hid (X % 256 ^ k = Y % 256 ^ k) ∧ St w.heap.size w [] Any wr) (fun i _ => n - (intOf i).toNat)
    case atStart => exact ⟨0, Nat.zero_le _, rfl, Lib.hid (by simp [Nat.mod_one]), K⟩
    case round =>
      clear K
      obtain ⟨k, hk, rfl, he, K⟩ := hrel
      by_cases hkn : k < n
      · obtain ⟨b, off, rfl, hb, hv⟩ := HX.out.at hkn
        obtain ⟨b', off', rfl, hb', hv'⟩ := HY.out.at hkn
        have ex := mod_pow_step 256 X k
        have ey := mod_pow_step 256 Y k
        have L1 : X / 256 ^ k % 256 = Y / 256 ^ k % 256 → X % 256 ^ (k + 1) = Y % 256 ^ (k + 1) := fun h => by rw [ex, ey, h, he.out]
        have L2 : X / 256 ^ k % 256 ≠ Y / 256 ^ k % 256 → X ≠ Y := fun h e => h (by rw [e])
        generalize X / 256 ^ k % 256 = x at *
        generalize Y / 256 ^ k % 256 = y at *
        have tz : decide (k < n) = true := decide_eq_true hkn
        clear he ex ey
        by_cases hxy : x = y
        · have E := Lib.hid (L1 hxy)
          subst hxy
          clear L1 L2
          have e1 : IntKind.i64.wrap (k : Int) = (k : Int) := IntWalk.i64_in _ (by omega)
          go_wp2_with fail
          refine wm_region K (by kernel_rfl) (by kernel_rfl) ?_
          repeat (first | ((with_reducible refine qt_load ?_); first | (refine wn_load (cs := ?_) (t := ?_) (n := ?_) rfl _ _ rfl rfl ?_ ?_ ?_ ?_; rotate_left 2; (repeat (first | exact At.hd | refine At.tl ?_)); rotate_left; (first | fail); (solve | exact rfl | simp)) | (refine wn_own (cs := ?_) (t := ?_) (v := ?_) rfl _ _ rfl rfl ?_ ?_ ?_ ?_; rotate_left 2; (repeat (first | exact At.hd | refine At.tl ?_)); rotate_left; (first | exact rfl | assumption); (first | (with_reducible exact one3))) | (refine wn_cell (v := ?_) rfl _ _ rfl rfl (fun ww K => ?_) ?_ ?_; rotate_left; (first | assumption | exact (K.below.cell (by assumption)).trans (by assumption)); (first | (with_reducible exact one3)))) | (quiet_step ((intro _; rfl))))
          refine wpQuiet_nil ?_; (try clear K); (try clear ww); intro ww K; (try simp [go_sem] at K)
          go_wp2
          exact ⟨⟨k + 1, by omega, by go_num, E, K⟩, by simp [intOf]; omega⟩
        · have E : Hid (decide (X = Y) = false) := Lib.hid (decide_eq_false (L2 hxy))
          have t2 : ((x : Int) != (y : Int)) = true := by simp; omega
          clear L1 L2
          have e1 : IntKind.i64.wrap (k : Int) = (k : Int) := IntWalk.i64_in _ (by omega)
          go_wp2_with fail
          refine wm_region K (by kernel_rfl) (by kernel_rfl) ?_
          repeat (first | ((with_reducible refine qt_load ?_); first | (refine wn_load (cs := ?_) (t := ?_) (n := ?_) rfl _ _ rfl rfl ?_ ?_ ?_ ?_; rotate_left 2; (repeat (first | exact At.hd | refine At.tl ?_)); rotate_left; (first | fail); (solve | exact rfl | simp)) | (refine wn_own (cs := ?_) (t := ?_) (v := ?_) rfl _ _ rfl rfl ?_ ?_ ?_ ?_; rotate_left 2; (repeat (first | exact At.hd | refine At.tl ?_)); rotate_left; (first | exact rfl | assumption); (first | (with_reducible exact one3))) | (refine wn_cell (v := ?_) rfl _ _ rfl rfl (fun ww K => ?_) ?_ ?_; rotate_left; (first | assumption | exact (K.below.cell (by assumption)).trans (by assumption)); (first | (with_reducible exact one3)))) | (quiet_step ((intro _; rfl))))
          refine wpQuiet_nil ?_; (try clear K); (try clear ww); intro ww K; (try simp [go_sem] at K)
          go_wp2
          go_ret
          exact ⟨by rw [E.out]; rfl, K.below⟩
      · obtain rfl : n = k := by omega
        have E : Hid (decide (X = Y) = true) := Lib.hid (decide_eq_true (by have := he.out; rwa [Nat.mod_eq_of_lt hlx.out, Nat.mod_eq_of_lt hly.out] at this))
        clear he
        go_wp2
        go_ret
        exact ⟨by rw [E.out]; rfl, K.below⟩
  · have t0 : ((n : Int) != (m : Int)) = true := by simp; omega
    have E : Hid (decide (X = Y) = false) := Lib.hid (decide_eq_false (hx.ne_len hy hne).2)
    clear hx hy hne
    go_enter Try.func127, Try.ntmps127
    go_wp2
    go_ret
    exact ⟨by rw [E.out]; rfl, K.below⟩

theorem rlen {w : World} {A : Option Addr} {n c X k : Nat} (h : Rf w A n c X) (hX : X < 256 ^ k) : n ≤ k := Nat.le_trans (Nat.le_of_eq h.len) ((digs_len (by omega) X k).2 hX)
section
variable {B : Nat} {w0 w : World} {L : List Blk} {F : World → Prop}
theorem St.addR {A A2 : Option Addr} {n c X n2 c2 Y : Nat} (K : St B w0 L F w) (h1 : Rf w A n c X) (h2 : Rf w A2 n2 c2 Y) (b1 : n ≤ 1000000) (b2 : n2 ≤ 1000000) :
    Calls Try.prog 109 #[.slice A n c, .slice A2 n2 c2] w fun e w' => ∃ A k c, e = .returned (.slice A k c) ∧ St B w0 L (fun w => (Rf w A k c (X + Y) ∧ Nw B A) ∧ F w) w' := by
  refine (AddR _ _ _ _ _ _ _ _ w h1 h2 b1 b2).mono ?_
  rintro e w' ⟨A', k, c', rfl, ⟨hn, hA⟩, hb⟩
  exact ⟨A', k, c', rfl, K.madeRf hb hn hA⟩
end

end Go.Proofs.Yteancdipmpmjpaa
