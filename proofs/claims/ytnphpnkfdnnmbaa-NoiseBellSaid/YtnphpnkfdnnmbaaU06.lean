/-
  The walks of the reference's Exp and LogSum.
-/
import Derived.Test.YtnphpnkfdnnmbaaT06
namespace Go.Proofs.Ytnphpnkfdnnmbaa
open Go.RowKit
set_option linter.unusedVariables false

theorem part_bit (x k : Nat) (hk : k < 16) : x % 65536 / 2 ^ (15 - k) % 2 = x / 2 ^ (15 - k) % 2 := by
  have e : (65536 : Nat) = 2 ^ (15 - k) * 2 ^ (k + 1) := by rw [← Nat.pow_add, show 15 - k + (k + 1) = 16 by omega]
  rw [e, Nat.mod_mul_right_div_self, Nat.mod_mod_of_dvd _ (by rw [Nat.pow_succ]; exact Nat.dvd_mul_left 2 _)]

theorem RExp_neg (x : Int) (w : World) (h0 : x < 0) : Calls Try.prog 75 #[.int .i64 x] w fun e w' => e = .returned (.tuple #[.int .u64 0, .int .i64 2]) ∧ w = w' := by
  go_enter Try.func75, Try.ntmps75
  go_wp2
  go_ret2
  exact ⟨rfl, rfl⟩

set_option maxHeartbeats 4000000 in
set_option maxRecDepth 100000 in
theorem RExp_some (x : Nat) (w : World) (h1 : x < 9223372036854775808) :
    Calls Try.prog 75 #[.int .i64 x] w fun e w' => e = .returned (.tuple #[.int .u64 (ex x), .int .i64 0]) ∧ Below w.heap.size w w' := by
  obtain ⟨wh, hwh⟩ : ∃ wh : Nat, wh = x / 65536 := ⟨_, rfl⟩
  obtain ⟨pt, hpt⟩ : ∃ pt : Nat, pt = x % 65536 := ⟨_, rfl⟩
  have ew : (x : Int) / 65536 = (wh : Int) := by omega
  have ep : (x : Int) % 65536 = (pt : Int) := by omega
  have bpt : pt < 65536 := by omega
  have hbits := Lib.hid (fun k hk => part_bit x k hk)
  rw [← hpt] at hbits
  by_cases hbig : 40 < wh
  · have T : decide ((40 : Int) < (wh : Int)) = true := decide_eq_true (by omega)
    have E : Hid (ex x = 0) := Lib.hid (by unfold ex; rw [← hwh, if_pos hbig])
    clear hwh hpt hbig hbits
    go_enter Try.func75, Try.ntmps75
    go_wp2
    go_ret2
    exact ⟨by rw [E.out]; rfl, Below.refl _ _⟩
  · have T : decide ((40 : Int) < (wh : Int)) = false := decide_eq_false (by omega)
    have E : Hid (ex x = exRun x 16 / 1073741824 / 2 ^ wh) := Lib.hid (by unfold ex; rw [← hwh, if_neg hbig])
    have C62 : Hid (∀ w : World, Calls Try.prog 89 #[.int .i64 62] w fun e w' => e = .returned (.int .i64 4611686018427387904) ∧ w = w') := Lib.hid (fun w => pow_any 62 w (by omega))
    have C61 : Hid (∀ w : World, Calls Try.prog 89 #[.int .i64 61] w fun e w' => e = .returned (.int .i64 2305843009213693952) ∧ w = w') := Lib.hid (fun w => pow_any 61 w (by omega))
    have C30 : Hid (∀ w : World, Calls Try.prog 89 #[.int .i64 30] w fun e w' => e = .returned (.int .i64 1073741824) ∧ w = w') := Lib.hid (fun w => pow_any 30 w (by omega))
    have bwh : wh ≤ 40 := by omega
    clear hwh hpt hbig
    go_enter Try.func75, Try.ntmps75
    go_wp2_with fail
    refine (C62.out _).mono ?_; rintro e w1 ⟨rfl, rfl⟩; dsimp only
    go_wp2_with fail
    refine (C61.out _).mono ?_; rintro e w1 ⟨rfl, rfl⟩; dsimp only
    go_wp2
    go_loopw [6, 7, 8] (fun m h i wr => ∃ k : Nat, k ≤ 16 ∧ i = .int .i64 k ∧ m = .int .u64 (exRun x k) ∧ h = .int .u64 (hv k) ∧ Below w.heap.size w wr) (fun _ _ i _ => 16 - (intOf i).toNat)
    case atStart => exact ⟨0, by omega, rfl, rfl, rfl, Below.refl _ _⟩
    case round =>
      obtain ⟨k, hk, rfl, rfl, rfl, g⟩ := hrel
      by_cases hlt : k < 16
      · have CR := Lib.hid (fun w => Root_any (hv k) w (hv_bd k))
        have eh : Hid (isq (hv k * 4611686018427387904) = hv (k + 1)) := Lib.hid rfl
        have hb1 := hv_bd (k + 1)
        have hm := exRun_bd x k
        have hs : Hid (exRun x (k + 1) = if x / 2 ^ (15 - k) % 2 = 1 then exRun x k * hv (k + 1) / 4611686018427387904 else exRun x k) := Lib.hid rfl
        have hbk := hbits.out k hlt
        have CP : Hid (∀ w : World, Calls Try.prog 89 #[.int .i64 (15 - (k : Int))] w fun e w' => e = .returned (.int .i64 ((2 ^ (15 - k) : Nat) : Int)) ∧ w = w') := Lib.hid (fun w => by
          have := pow_any (15 - k) w (by omega)
          rw [show (((15 - k : Nat)) : Int) = 15 - (k : Int) by omega] at this
          exact this)
        have CT := Lib.hid (fun w => times_any (exRun x k) (hv (k + 1)) w hm hb1)
        have hp1 := Nat.two_pow_pos (15 - k)
        rw [eh.out] at CR
        obtain ⟨h, hh⟩ : ∃ h, h = hv (k + 1) := ⟨_, rfl⟩
        obtain ⟨m, hmm⟩ : ∃ m, m = exRun x k := ⟨_, rfl⟩
        obtain ⟨p, hp⟩ : ∃ p, p = 2 ^ (15 - k) := ⟨_, rfl⟩
        rw [← hh] at CR CT hs
        rw [← hmm] at CT hs ⊢
        rw [← hp] at CP hs hbk hp1
        have EH := Lib.hid hh
        clear hh hmm hp eh hm hb1
        have hdiv : (pt : Int) / (p : Int) = ((pt / p : Nat) : Int) := rfl
        have hq : pt / p < 65536 := Nat.lt_of_le_of_lt (Nat.div_le_self _ _) bpt
        obtain ⟨q, hqq⟩ : ∃ q, q = pt / p := ⟨_, rfl⟩
        rw [← hqq] at hdiv hbk hq
        clear hqq
        go_wp2_with fail
        refine (CR.out _).mono ?_; rintro e w1 ⟨rfl, k1⟩; dsimp only
        replace g := below_step g k1 g.size
        clear k1
        go_wp2_with fail
        refine (CP.out _).mono ?_; rintro e w2 ⟨rfl, rfl⟩; dsimp only
        by_cases hb : q % 2 = 1
        · have TB : ((q : Int) % 2 == 1) = true := by rw [show ((q : Int) % 2) = ((q % 2 : Nat) : Int) by omega, hb]; rfl
          rw [if_pos (by rw [← hbk]; exact hb)] at hs
          clear hb hbk
          go_wp2_with fail
          refine (CT.out _).mono ?_; rintro e w3 ⟨rfl, k3⟩; dsimp only
          replace g := below_step g k3 g.size
          go_wp2
          refine ⟨⟨k + 1, by omega, by go_num, by rw [hs.out], by rw [← EH.out], g⟩, by simp [intOf]; omega⟩
        · have TB : ((q : Int) % 2 == 1) = false := by simp; omega
          rw [if_neg (by rw [← hbk]; exact hb)] at hs
          clear hb hbk
          go_wp2
          refine ⟨⟨k + 1, by omega, by go_num, by rw [hs.out], by rw [← EH.out], g⟩, by simp [intOf]; omega⟩
      · have hk9 : Hid (k = 16) := Lib.hid (by omega)
        have hm := exRun_bd x k
        have E2 : Hid (ex x = exRun x k / 1073741824 / 2 ^ wh) := Lib.hid (by rw [E.out, hk9.out])
        generalize exRun x k = m at *
        go_wp2_with fail
        refine (C30.out _).mono ?_; rintro e w1 ⟨rfl, rfl⟩; dsimp only
        have bm : m / 1073741824 ≤ 4294967296 := by omega
        obtain ⟨y0, hy0⟩ : ∃ y0, y0 = m / 1073741824 := ⟨_, rfl⟩
        have em : (m : Int) / 1073741824 = (y0 : Int) := by omega
        rw [← hy0] at bm E2
        clear hy0
        go_wp2
        go_loop [6, 9] (fun o i => ∃ j : Nat, j ≤ wh ∧ i = .int .i64 j ∧ o = .int .u64 ((y0 / 2 ^ j : Nat) : Int)) (fun _ i => wh - (intOf i).toNat)
        case atStart => exact ⟨0, by omega, rfl, by simp⟩
        case round =>
          obtain ⟨j, hj, rfl, rfl⟩ := hrel
          by_cases hjl : j < wh
          · have hs : Hid (y0 / 2 ^ (j + 1) = y0 / 2 ^ j / 2) := Lib.hid (by rw [Nat.pow_succ, ← Nat.div_div_eq_div_mul])
            have hb : y0 / 2 ^ j ≤ 4294967296 := Nat.le_trans (Nat.div_le_self _ _) bm
            generalize y0 / 2 ^ j = y at *
            go_wp2
            refine ⟨⟨j + 1, by omega, by go_num, by rw [hs.out]; first | rfl | go_num⟩, by simp [intOf]; omega⟩
          · obtain rfl : j = wh := by omega
            go_wp2
            go_ret2
            exact ⟨by rw [E2.out]; rfl, g⟩

end Go.Proofs.Ytnphpnkfdnnmbaa
