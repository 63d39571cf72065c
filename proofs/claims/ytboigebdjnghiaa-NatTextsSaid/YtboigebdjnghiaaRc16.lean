/-
  The walks of the reference: equality, powers of two, digits of parts.
-/
import Derived.Test.YtboigebdjnghiaaRb16
namespace Go.Proofs.Ytboigebdjnghiaa
open Go.RowKit
set_option linter.unusedVariables false

set_option maxHeartbeats 2000000 in
theorem SameR (A A2 : Option Addr) (n c m d X Y : Nat) (w : World) (hx : Rf w A n c X) (hy : Rf w A2 m d Y) (h1 : n ≤ 1000000) (h2 : m ≤ 1000000) :
    Calls Try.prog 18 #[.slice A n c, .slice A2 m d] w fun e w' => e = .returned (.bool (decide (X = Y))) ∧ Below w.heap.size w w' := by
  have K := St.start w
  have HX := Lib.hid hx
  have HY := Lib.hid hy
  by_cases hne : n = m
  · subst hne
    have t0 : ((n : Int) != (n : Int)) = false := by simp
    have hlx := Lib.hid hx.lim
    have hly := Lib.hid hy.lim
    clear hx hy
    go_enter Try.func18, Try.ntmps18
    go_wp2
    go_loopw [5] (fun i wr => ∃ (k : Nat), k ≤ n ∧ i = .int .i64 k ∧ Hid (X % 256 ^ k = Y % 256 ^ k) ∧ St w.heap.size w [] Any wr) (fun i _ => n - (intOf i).toNat)
    case atStart => exact ⟨0, Nat.zero_le _, rfl, Lib.hid (by simp [Nat.mod_one]), K⟩
    case round =>
      clear K
      obtain ⟨k, hk, rfl, he, K⟩ := hrel
      by_cases hkn : k < n
      · obtain ⟨b, off, rfl, hb, hv⟩ := HX.out.at hkn
        obtain ⟨b', off', rfl, hb', hv'⟩ := HY.out.at hkn
        have ex := mod_pow_step 256 X k
        have ey := mod_pow_step 256 Y k
        have L1 : X / 256 ^ k % 256 = Y / 256 ^ k % 256 → X % 256 ^ (k + 1) = Y % 256 ^ (k + 1) := fun h => by rw [ex, ey, h, he.out]
        have L2 : X / 256 ^ k % 256 ≠ Y / 256 ^ k % 256 → X ≠ Y := fun h e => h (by rw [e])
        generalize X / 256 ^ k % 256 = x at *
        generalize Y / 256 ^ k % 256 = y at *
        have tz : decide (k < n) = true := decide_eq_true hkn
        clear he ex ey
        by_cases hxy : x = y
        · have E := Lib.hid (L1 hxy)
          subst hxy
          clear L1 L2
          have e1 : IntKind.i64.wrap (k : Int) = (k : Int) := IntWalk.i64_in _ (by omega)
          go_wp2_with fail
          refine wm_region K (by kernel_rfl) (by kernel_rfl) ?_
          repeat (first | ((with_reducible refine qt_load ?_); first | (refine wn_load (cs := ?_) (t := ?_) (n := ?_) rfl _ _ rfl rfl ?_ ?_ ?_ ?_; rotate_left 2; (repeat (first | exact At.hd | refine At.tl ?_)); rotate_left; (first | exact row25 | exact row26); (solve | exact rfl | simp)) | (refine wn_own (cs := ?_) (t := ?_) (v := ?_) rfl _ _ rfl rfl ?_ ?_ ?_ ?_; rotate_left 2; (repeat (first | exact At.hd | refine At.tl ?_)); rotate_left; (first | exact rfl | assumption); (first | exact one2 | exact one3 | exact one4 | exact one5 | exact one9 | exact one12 | exact one21 | exact one22 | exact one28 | exact one37 | exact one38 | exact one39 | exact one48 | exact one53 | exact one63 | exact one73 | exact one78)) | (refine wn_cell (v := ?_) rfl _ _ rfl rfl (fun ww K => ?_) ?_ ?_; rotate_left; (first | assumption | exact (K.below.cell (by assumption)).trans (by assumption)); (first | exact one2 | exact one3 | exact one4 | exact one5 | exact one9 | exact one12 | exact one21 | exact one22 | exact one28 | exact one37 | exact one38 | exact one39 | exact one48 | exact one53 | exact one63 | exact one73 | exact one78))) | (quiet_step ((intro _; rfl))))
          refine wpQuiet_nil ?_; (try clear K); (try clear ww); intro ww K; (try simp [go_sem] at K)
          go_wp2
          exact ⟨⟨k + 1, by omega, by go_num, E, K⟩, by simp [intOf]; omega⟩
        · have E : Hid (decide (X = Y) = false) := Lib.hid (decide_eq_false (L2 hxy))
          have t2 : ((x : Int) != (y : Int)) = true := by simp; omega
          clear L1 L2
          have e1 : IntKind.i64.wrap (k : Int) = (k : Int) := IntWalk.i64_in _ (by omega)
          go_wp2_with fail
          refine wm_region K (by kernel_rfl) (by kernel_rfl) ?_
          repeat (first | ((with_reducible refine qt_load ?_); first | (refine wn_load (cs := ?_) (t := ?_) (n := ?_) rfl _ _ rfl rfl ?_ ?_ ?_ ?_; rotate_left 2; (repeat (first | exact At.hd | refine At.tl ?_)); rotate_left; (first | exact row25 | exact row26); (solve | exact rfl | simp)) | (refine wn_own (cs := ?_) (t := ?_) (v := ?_) rfl _ _ rfl rfl ?_ ?_ ?_ ?_; rotate_left 2; (repeat (first | exact At.hd | refine At.tl ?_)); rotate_left; (first | exact rfl | assumption); (first | exact one2 | exact one3 | exact one4 | exact one5 | exact one9 | exact one12 | exact one21 | exact one22 | exact one28 | exact one37 | exact one38 | exact one39 | exact one48 | exact one53 | exact one63 | exact one73 | exact one78)) | (refine wn_cell (v := ?_) rfl _ _ rfl rfl (fun ww K => ?_) ?_ ?_; rotate_left; (first | assumption | exact (K.below.cell (by assumption)).trans (by assumption)); (first | exact one2 | exact one3 | exact one4 | exact one5 | exact one9 | exact one12 | exact one21 | exact one22 | exact one28 | exact one37 | exact one38 | exact one39 | exact one48 | exact one53 | exact one63 | exact one73 | exact one78))) | (quiet_step ((intro _; rfl))))
          refine wpQuiet_nil ?_; (try clear K); (try clear ww); intro ww K; (try simp [go_sem] at K)
          go_wp2
          go_ret
          exact ⟨by rw [E.out]; rfl, K.below⟩
      · obtain rfl : n = k := by omega
        have E : Hid (decide (X = Y) = true) := Lib.hid (decide_eq_true (by have := he.out; rwa [Nat.mod_eq_of_lt hlx.out, Nat.mod_eq_of_lt hly.out] at this))
        clear he
        go_wp2
        go_ret
        exact ⟨by rw [E.out]; rfl, K.below⟩
  · have t0 : ((n : Int) != (m : Int)) = true := by simp; omega
    have E : Hid (decide (X = Y) = false) := Lib.hid (decide_eq_false (hx.ne_len hy hne).2)
    clear hx hy hne
    go_enter Try.func18, Try.ntmps18
    go_wp2
    go_ret
    exact ⟨by rw [E.out]; rfl, K.below⟩

theorem rlen {w : World} {A : Option Addr} {n c X k : Nat} (h : Rf w A n c X) (hX : X < 256 ^ k) : n ≤ k := Nat.le_trans (Nat.le_of_eq h.len) ((digs_len (by omega) X k).2 hX)
section
variable {B : Nat} {w0 w : World} {L : List Blk} {F : World → Prop}
theorem St.addR {A A2 : Option Addr} {n c X n2 c2 Y : Nat} (K : St B w0 L F w) (h1 : Rf w A n c X) (h2 : Rf w A2 n2 c2 Y) (b1 : n ≤ 1000000) (b2 : n2 ≤ 1000000) :
    Calls Try.prog 14 #[.slice A n c, .slice A2 n2 c2] w fun e w' => ∃ A k c, e = .returned (.slice A k c) ∧ St B w0 L (fun w => (Rf w A k c (X + Y) ∧ Nw B A) ∧ F w) w' := by
  refine (AddR _ _ _ _ _ _ _ _ w h1 h2 b1 b2).mono ?_
  rintro e w' ⟨A', k, c', rfl, ⟨hn, hA⟩, hb⟩
  exact ⟨A', k, c', rfl, K.madeRf hb hn hA⟩
end

set_option maxHeartbeats 2000000 in
theorem PowR (n : Nat) (w : World) (hn : n ≤ 100000) :
    Calls Try.prog 26 #[.int .i64 n] w fun e w' => ∃ A' k c', e = .returned (.slice A' k c') ∧ (Rf w' A' k c' (2 ^ n) ∧ Nw w.heap.size A') ∧ Below w.heap.size w w' := by
  have K := St.start w
  go_enter Try.func26, Try.ntmps26
  go_wp2_with (first | ((with_reducible refine at_bsl ?_); refine wm_one K rfl _ _ rfl Try.underlying28 num3 rfl ?_; (try clear K); (try clear ww); intro b1 ww K; (try simp [go_sem] at K)))
  go_loopw [3, 4] (fun v i wr => ∃ (k : Nat) (A : Option Addr) (l c : Nat), k ≤ n ∧ i = .int .i64 k ∧ v = .slice A l c ∧ St w.heap.size w [] (fun W => Rf W A l c (2 ^ k) ∧ Nw w.heap.size A) wr) (fun _ i _ => n - (intOf i).toNat)
  case atStart =>
    refine ⟨0, _, 1, 1, Nat.zero_le _, rfl, rfl, ?_⟩
    have h1 : Rf ww (some ⟨b1, 0, none⟩) 1 1 (2 ^ 0) := ⟨by
      have := Sl.of_has (K.get .hd)
      have e : digs 256 (2 ^ 0) = [1] := by decide +kernel
      rw [e]
      simpa [nums] using this, Nat.le_refl _, by omega⟩
    exact (K.freezeRf h1).weak fun _ h => h.1
  case round =>
    clear K
    obtain ⟨k, A, l, c, hk, rfl, rfl, K⟩ := hrel
    by_cases hlt : k < n
    · have ht : decide (k < n) = true := decide_eq_true hlt
      have hl : l ≤ 1000000 := Nat.le_trans (rlen (k := n) K.fact.1 (Nat.lt_of_lt_of_le (Nat.pow_lt_pow_right (by omega) hlt) (Nat.pow_le_pow_left (by omega) n))) (by omega)
      go_wp2_with fail
      refine (K.addR K.fact.1 K.fact.1 hl hl).mono ?_
      rintro e w2 ⟨A2, l2, c2, rfl, K2⟩
      rw [← Nat.two_mul, Nat.mul_comm, ← Nat.pow_succ] at K2
      clear K
      dsimp only
      go_wp2
      exact ⟨⟨k + 1, _, _, _, by omega, by go_num, rfl, K2.weak fun _ h => h.1⟩, by simp [intOf]; omega⟩
    · obtain rfl : n = k := by omega
      have R := Lib.hid K.fact
      have G := Lib.hid K.below
      clear K
      go_wp2
      go_ret
      exact ⟨_, _, _, rfl, R.out, G.out⟩
end Go.Proofs.Ytboigebdjnghiaa
