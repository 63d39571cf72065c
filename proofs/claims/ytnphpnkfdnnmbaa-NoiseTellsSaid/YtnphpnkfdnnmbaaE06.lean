/-
  The walks of expo: logarithms and powers of two.
-/
import Derived.Test.YtnphpnkfdnnmbaaRw03
namespace Go.Proofs.Ytnphpnkfdnnmbaa
open Go.RowKit

theorem Bits_any (x n : Nat) (w : World) (h1 : x < 18446744073709551616) (hn : Lib.bitLen x = n) :
    Calls Try.prog 92 #[.int .u64 x] w fun e w' => e = .returned (.int .i64 n) ∧ w = w' := by
  have Hn := Lib.hid hn; clear hn
  go_enter Try.func92, Try.ntmps92
  go_wp2_with (go_at_call 101; refine (Try.bits_Len64 _ _ (by omega) (by omega)).mono ?_; rintro e w' ⟨rfl, rfl⟩)
  go_ret
  exact ⟨by rw [← Hn.out]; simp, rfl⟩

/-! ### The logarithm -/
theorem bitLen_log2 (x : Nat) (h0 : x ≠ 0) (h : x < 2 ^ 64) : Lib.bitLen x = Nat.log2 x + 1 := by
  have key : ∀ n x : Nat, x ≤ n → x ≠ 0 → x < 2 ^ 64 → Lib.bitLen x = Nat.log2 x + 1 := by
    intro n
    induction n with
    | zero => intro x hx h0; omega
    | succ n ih =>
      intro x hx h0 h
      rw [Lib.bitLen_half x h0 h, Nat.log2_def]
      split
      · rename_i h2
        rw [ih (x / 2) (by omega) (by omega) (by omega)]; omega
      · have : x = 1 := by omega
        subst this; rfl
  exact key x x (Nat.le_refl _) h0 h
/-- The mantissa of a number from 1 on, with 62 bits behind the point. -/
def mant (x : Nat) : Nat := x * 2 ^ (63 - Nat.log2 x) / 2
/-- One bit of the logarithm: what has been found, and the mantissa. -/
def lgStep (p : Nat × Nat) : Nat × Nat := if 9223372036854775808 ≤ p.2 * p.2 / 4611686018427387904 then (2 * p.1 + 1, p.2 * p.2 / 4611686018427387904 / 2) else (2 * p.1, p.2 * p.2 / 4611686018427387904)
def lgRun : Nat → Nat × Nat → Nat × Nat
  | 0, p => p
  | k + 1, p => lgStep (lgRun k p)
def lg (x : Nat) : Nat := (lgRun 16 (Nat.log2 x, mant x)).1
theorem mant_bd (x : Nat) (h0 : x ≠ 0) (h : x < 2 ^ 64) : 4611686018427387904 ≤ mant x ∧ mant x < 9223372036854775808 ∧ x * 2 ^ (63 - Nat.log2 x) < 18446744073709551616 := by
  have h1 := Nat.log2_self_le h0
  have h2 : x < 2 ^ (Nat.log2 x + 1) := Nat.lt_log2_self
  have h3 : Nat.log2 x < 64 := (Nat.log2_lt h0).2 h
  have e1 : 2 ^ Nat.log2 x * 2 ^ (63 - Nat.log2 x) = 9223372036854775808 := by rw [← Nat.pow_add, show Nat.log2 x + (63 - Nat.log2 x) = 63 by omega]
  have e2 : 2 ^ (Nat.log2 x + 1) * 2 ^ (63 - Nat.log2 x) = 18446744073709551616 := by rw [← Nat.pow_add, show Nat.log2 x + 1 + (63 - Nat.log2 x) = 64 by omega]
  have a1 := Nat.mul_le_mul_right (2 ^ (63 - Nat.log2 x)) h1
  have a2 := Nat.mul_lt_mul_of_pos_right h2 (Nat.two_pow_pos (63 - Nat.log2 x))
  unfold mant
  omega
theorem sq_bd {m : Nat} (h1 : 4611686018427387904 ≤ m) (h2 : m < 9223372036854775808) : 4611686018427387904 ≤ m * m / 4611686018427387904 ∧ m * m / 4611686018427387904 < 18446744073709551616 := by
  have a1 := Nat.mul_le_mul h1 h1
  have a2 : m * m ≤ 9223372036854775807 * 9223372036854775807 := Nat.mul_le_mul (by omega) (by omega)
  omega
/-- What stands there behind k bits: the mantissa is from 1 on, and below 2; what was found begins with the whole part. -/
def LgAt (n k : Nat) (p : Nat × Nat) : Prop := n * 2 ^ k ≤ p.1 ∧ p.1 < (n + 1) * 2 ^ k ∧ 4611686018427387904 ≤ p.2 ∧ p.2 < 9223372036854775808
theorem lgStep_at {n k : Nat} {p : Nat × Nat} (h : LgAt n k p) : LgAt n (k + 1) (lgStep p) := by
  obtain ⟨h1, h2, h3, h4⟩ := h
  have := sq_bd h3 h4
  have e1 : n * 2 ^ (k + 1) = 2 * (n * 2 ^ k) := by rw [Nat.pow_succ, ← Nat.mul_assoc]; omega
  have e2 : (n + 1) * 2 ^ (k + 1) = 2 * ((n + 1) * 2 ^ k) := by rw [Nat.pow_succ, ← Nat.mul_assoc]; omega
  unfold LgAt lgStep
  rw [e1, e2]
  split <;> (simp only []; omega)
theorem lgRun_at {n : Nat} {p : Nat × Nat} (h : LgAt n 0 p) : ∀ k, LgAt n k (lgRun k p)
  | 0 => h
  | k + 1 => lgStep_at (lgRun_at h k)
theorem lg_start (x : Nat) (h0 : x ≠ 0) (h : x < 2 ^ 64) : LgAt (Nat.log2 x) 0 (Nat.log2 x, mant x) := by
  have := mant_bd x h0 h
  exact ⟨by simp, by simp, this.1, this.2.1⟩

/-- The upper part times four, and the two highest bits of the lower part. -/
theorem or_low (hi lo s : Nat) (h1 : hi < 4611686018427387904) (h2 : lo < 18446744073709551616) (h3 : s = hi * 4 + lo / 4611686018427387904) : bits .or .u64 ((hi : Int) * 4) ((lo : Int) / 4611686018427387904) = (s : Int) := by
  rw [show ((hi : Int) * 4) = ((hi * 4 : Nat) : Int) by omega, show ((lo : Int) / 4611686018427387904) = ((lo / 4611686018427387904 : Nat) : Int) by omega, bits_or_u64_nat _ _ (by omega) (by omega)]
  rw [h3]
  have := Nat.two_pow_add_eq_or_of_lt (i := 2) (show lo / 4611686018427387904 < 2 ^ 2 by omega) hi
  rw [show hi * 4 = 2 ^ 2 * hi by omega, this]
theorem or_one (o : Nat) (h : o < 4611686018427387904) : bits .or .i64 ((o : Int) * 2) 1 = ((2 * o + 1 : Nat) : Int) := by
  have e := (bits_nat .i64 63 (by decide) (fun n h0 h1 => by rw [IntKind.wrap_i64]; omega) (o * 2) 1 (by omega) (by omega)).2
  have := Nat.two_pow_add_eq_or_of_lt (i := 1) (show 1 < 2 ^ 1 by omega) o
  rw [show (2 : Nat) ^ 1 * o = o * 2 by omega] at this
  rw [← this] at e
  rw [show ((o : Int) * 2) = ((o * 2 : Nat) : Int) by omega, show (2 * o + 1) = o * 2 + 1 by omega]
  exact e
theorem Log_none (w : World) : Calls Try.prog 77 #[.int .u64 0] w fun e w' => e = .returned (.tuple #[.int .i64 0, .int .i64 2]) ∧ w = w' := by
  go_enter Try.func77, Try.ntmps77
  go_wp2
  go_ret2
  exact ⟨rfl, rfl⟩

set_option maxHeartbeats 1000000 in
set_option maxRecDepth 100000 in
theorem Log_some (x : Nat) (w : World) (hx0 : x ≠ 0) (h1 : x < 18446744073709551616) :
    Calls Try.prog 77 #[.int .u64 x] w fun e w' => e = .returned (.tuple #[.int .i64 (lg x), .int .i64 0]) ∧ w = w' := by
  have hb := bitLen_log2 x hx0 (by omega)
  have h63 : Nat.log2 x ≤ 63 := by have := (Nat.log2_lt hx0).2 (show x < 2 ^ 64 by omega); omega
  have hm := mant_bd x hx0 (by omega)
  have R := Lib.hid (lgRun_at (lg_start x hx0 (by omega)))
  have em : Hid (lg x = (lgRun 16 (Nat.log2 x, mant x)).1) := Lib.hid rfl
  obtain ⟨m0, hm0⟩ : ∃ m0, m0 = mant x := ⟨_, rfl⟩
  obtain ⟨n, hn⟩ : ∃ n, n = Nat.log2 x := ⟨_, rfl⟩
  have ew : IntKind.u64.wrap ((x : Int) * 2 ^ (63 - n)) / 2 = (m0 : Int) := by
    rw [show ((x : Int) * 2 ^ (63 - n)) = ((x * 2 ^ (63 - n) : Nat) : Int) by simp, hn, IntWalk.u64_in _ (by omega), hm0]; rfl
  rw [← hn] at hb h63 R em hm
  rw [← hm0] at R em hm
  have hx : ((x : Int) == 0) = false := by simpa using hx0
  have HB := Lib.hid hb
  clear hb hn hm0 hx0
  go_enter Try.func77, Try.ntmps77
  go_wp2_with (go_at_call 92; refine (Bits_any _ (n + 1) _ (by omega) HB.out).mono ?_; rintro e w' ⟨rfl, rfl⟩)
  go_loop [5, 6, 20] (fun m o i => ∃ k : Nat, k ≤ 16 ∧ i = .int .i64 k ∧ m = .int .u64 (lgRun k (n, m0)).2 ∧ o = .int .i64 (lgRun k (n, m0)).1) (fun _ _ i => 16 - (intOf i).toNat)
  case atStart => exact ⟨0, by omega, rfl, rfl, rfl⟩
  case round =>
    obtain ⟨k, hk, rfl, rfl, rfl⟩ := hrel
    by_cases hlt : k < 16
    · have A := R.out k
      have hs : lgRun (k + 1) (n, m0) = lgStep (lgRun k (n, m0)) := rfl
      generalize lgRun k (n, m0) = p at *
      obtain ⟨o, m⟩ := p
      obtain ⟨-, a2, a3, a4⟩ := A
      simp only [] at a2 a3 a4
      have bo : o < 4194304 := by
        have e1 : (n + 1) * 2 ^ k ≤ 64 * 2 ^ k := Nat.mul_le_mul_right _ (by omega)
        have e2 : 2 ^ k ≤ 2 ^ 16 := Nat.pow_le_pow_right (by omega) (by omega)
        omega
      have bs := sq_bd a3 a4
      obtain ⟨hi, hhi⟩ : ∃ hi, hi = m * m / 18446744073709551616 := ⟨_, rfl⟩
      obtain ⟨lo, hlo⟩ : ∃ lo, lo = m * m % 18446744073709551616 := ⟨_, rfl⟩
      have M := Lib.hid (show m * m = hi * 18446744073709551616 + lo ∧ lo < 18446744073709551616 by omega)
      have bhi : hi < 4611686018427387904 := by omega
      obtain ⟨s, hs2⟩ : ∃ s, s = m * m / 4611686018427387904 := ⟨_, rfl⟩
      rw [← hs2] at bs
      have hst : lgRun (k + 1) (n, m0) = if 9223372036854775808 ≤ s then (2 * o + 1, s / 2) else (2 * o, s) := by rw [hs, lgStep]; simp only [← hs2]
      have HS := Lib.hid hst
      have eo : bits .or .u64 ((hi : Int) * 4) ((lo : Int) / 4611686018427387904) = (s : Int) := or_low hi lo s (by omega) (by omega) (by omega)
      clear hst hs a2 hhi hlo hs2
      have HB2 := Lib.hid bs
      clear bs
      by_cases hge : 9223372036854775808 ≤ s
      · have P : decide ((9223372036854775808 : Int) ≤ (s : Int)) = true := decide_eq_true (by omega)
        rw [if_pos hge] at HS
        clear hge
        have eo2 : bits .or .i64 ((o : Int) * 2) 1 = ((2 * o + 1 : Nat) : Int) := or_one o (by omega)
        go_wp2_with (go_at_call 81; refine (mul64_any m m hi lo _ (by omega) (by omega) M.out.1 M.out.2).mono ?_; rintro e w' ⟨rfl, rfl⟩)
        refine ⟨⟨k + 1, by omega, by go_num, by rw [HS.out]; rfl, by rw [HS.out]; rfl⟩, by simp [intOf]; omega⟩
      · have P : decide ((9223372036854775808 : Int) ≤ (s : Int)) = false := decide_eq_false (by omega)
        rw [if_neg hge] at HS
        clear hge
        go_wp2_with (go_at_call 81; refine (mul64_any m m hi lo _ (by omega) (by omega) M.out.1 M.out.2).mono ?_; rintro e w' ⟨rfl, rfl⟩)
        refine ⟨⟨k + 1, by omega, by go_num, by rw [HS.out], by rw [HS.out]; simp only []; go_num⟩, by simp [intOf]; omega⟩
    · have hk9 : Hid (k = 16) := Lib.hid (by omega)
      go_wp2
      go_ret2
      exact ⟨by rw [em.out, hk9.out]; rfl, rfl⟩

/-! ### One divided by a power of two -/
/-- One divided by the root of two, the root of that, and so on. -/
def hv : Nat → Nat
  | 0 => 2305843009213693952
  | i + 1 => isq (hv i * 4611686018427387904)
theorem hv_bd : ∀ i, hv i < 4611686018427387904
  | 0 => by decide
  | i + 1 => by
    have h := isq_spec (A := hv i * 4611686018427387904) (by have := hv_bd i; omega)
    have hb := hv_bd i
    have e : hv (i + 1) = isq (hv i * 4611686018427387904) := rfl
    rw [e]
    rcases Nat.lt_or_ge (isq (hv i * 4611686018427387904)) 4611686018427387904 with h' | h'
    · exact h'
    · have := Nat.mul_le_mul h' h'; omega
def exStep (x k m : Nat) : Nat := if x / 2 ^ (15 - k) % 2 = 1 then m * hv (k + 1) / 4611686018427387904 else m
def exRun (x : Nat) : Nat → Nat
  | 0 => 4611686018427387904
  | k + 1 => exStep x k (exRun x k)
theorem exRun_bd (x : Nat) : ∀ k, exRun x k ≤ 4611686018427387904
  | 0 => Nat.le_refl _
  | k + 1 => by
    have h := exRun_bd x k
    have e : exRun x (k + 1) = exStep x k (exRun x k) := rfl
    rw [e]; unfold exStep
    split
    · have := Nat.mul_le_mul h (Nat.le_of_lt (hv_bd (k + 1))); omega
    · exact h
/-- One divided by a power of two, with 32 bits behind the point. -/
def ex (x : Nat) : Nat := if 40 < x / 65536 then 0 else exRun x 16 / 1073741824 / 2 ^ (x / 65536)

theorem and_one (x j : Nat) (h : x < 9223372036854775808) : (bits .and .i64 ((x : Int) / 2 ^ j) 1 == 1) = decide (x / 2 ^ j % 2 = 1) := by
  have hq : x / 2 ^ j ≤ x := Nat.div_le_self _ _
  have e := (bits_nat .i64 63 (by decide) (fun n h0 h1 => by rw [IntKind.wrap_i64]; omega) (x / 2 ^ j) 1 (by omega) (by omega)).1
  rw [Nat.and_one_is_mod] at e
  rw [show ((x : Int) / 2 ^ j) = ((x / 2 ^ j : Nat) : Int) by simp]
  rw [show ((1 : Int) = ((1 : Nat) : Int)) from rfl, e]
  rcases Nat.mod_two_eq_zero_or_one (x / 2 ^ j) with h | h <;> rw [h] <;> rfl
theorem halves_any (w : World) :
    Calls Try.prog 88 #[] w fun e w' => e = .returned (.func (.func 95) #[] #[.pointer (some ⟨w.heap.size, 0, none⟩)]) ∧ w' = w.alloc (.cells #[.int .u64 2305843009213693952] 76) := by
  go_enter Try.func88, Try.ntmps88
  go_wp2
  go_ret
  exact ⟨rfl, rfl⟩

theorem Shl_half (h : Nat) (w : World) (hh : h < 4611686018427387904) :
    Calls Try.prog 96 #[.agg (wI h), .int .i64 62] w fun e w' => e = .returned (.tuple #[.agg (wI ((h * 4611686018427387904 : Nat) : Int)), .bool true]) ∧ Below w.heap.size w w' := by
  have e : ((h : Int) * 2 ^ 62) = ((h * 4611686018427387904 : Nat) : Int) := by rw [show ((2 : Int) ^ 62) = 4611686018427387904 by rfl]; omega
  have f : fits128 ((h : Int) * 2 ^ 62) = true := by rw [e]; unfold fits128; simp; omega
  refine Calls.mono (Shl_in h 62 w (by unfold fits128; simp; omega) (by omega)) ?_
  rintro e' w' ⟨rfl, hb⟩
  rw [f, if_pos rfl, e]
  exact ⟨rfl, hb⟩

/-- What the closure leaves: its variable holds what it hands back; what lay below that is as it was. -/
def HalfPost (b h' : Nat) (w : World) (e : Ending) (w' : World) : Prop := e = .returned (.int .u64 h') ∧ Has w' b #[.int .u64 h'] 76 ∧ Below b w w'
set_option maxHeartbeats 1000000 in
theorem half_any (b h : Nat) (w : World) (hb : Has w b #[.int .u64 h] 76) (hh : h < 4611686018427387904) :
    Calls Try.prog 95 #[.pointer (some ⟨b, 0, none⟩)] w (HalfPost b (isq (h * 4611686018427387904)) w) := by
  have c := hb.cell (i := 0) (v := .int .u64 h) rfl
  have hzw := zeroW'
  have lt := hb.lt
  have b0 := Below.refl b w
  have HH := Lib.hid hh
  go_enter Try.func95, Try.ntmps95
  go_wp2_with fail
  refine (Of_wide h _ (by omega) (by omega)).mono ?_
  rintro e w1 ⟨rfl, k⟩
  dsimp only
  replace b0 := below_step b0 k (by omega)
  replace hb := hb.below k
  replace lt := hb.lt
  clear k c
  go_wp2_with fail
  refine (Shl_half h _ HH.out).mono ?_
  rintro e w2 ⟨rfl, k⟩
  dsimp only
  replace b0 := below_step b0 k (by omega)
  replace hb := hb.below k
  replace lt := hb.lt
  clear k hh
  obtain ⟨A, hA⟩ : ∃ A, A = h * 4611686018427387904 := ⟨_, rfl⟩
  rw [← hA]
  have bA : A < 170141183460469231731687303715884105728 := by have := HH.out; omega
  have HA := Lib.hid bA
  have EA := Lib.hid hA
  clear bA hA
  have h2 := Has.new w2 (wI A) 78
  replace hb := hb.alloc (.cells (wI A) 78)
  replace b0 := b0.alloc (by omega) (.cells (wI A) 78)
  go_wp2_with (first | ((with_reducible refine wl_at_store 78 ?_); refine wl_store_new rfl 78 _ _ rfl _ _ rfl rfl (by first | (with_reducible exact rfl) | simp only [World.size_alloc]) infoW (wI_size _) (wI_size _) (wI_ones _) rfl ?_) | ((with_reducible refine wl_at_load 78 ?_); refine wl_load rfl 78 _ rfl _ rfl h2 Try.underlying78 rfl infoW (wI_size _) ?_))
  refine (Wide_any A _ HA.out).mono ?_
  rintro e w3 ⟨rfl, k⟩
  dsimp only
  replace b0 := below_step b0 k (by simp only [World.size_alloc]; omega)
  replace hb := hb.below k
  clear k h2
  have c := hb.cell (i := 0) (v := .int .u64 h) rfl
  have f := hb.free 0
  have hset := hb.set 0 (.int .u64 (isq A))
  replace b0 := b0.setCell (p := ⟨b, 0, none⟩) (Nat.le_refl _) (.int .u64 (isq A))
  have c2 := hset.cell (i := 0) (v := .int .u64 (isq A)) rfl
  go_wp2
  go_ret
  unfold HalfPost
  rw [← EA.out]
  exact ⟨rfl, hset, b0⟩

theorem Exp_neg (x : Int) (w : World) (h0 : x < 0) : Calls Try.prog 74 #[.int .i64 x] w fun e w' => e = .returned (.tuple #[.int .u64 0, .int .i64 2]) ∧ w = w' := by
  go_enter Try.func74, Try.ntmps74
  go_wp2
  go_ret2
  exact ⟨rfl, rfl⟩

set_option maxHeartbeats 1000000 in
set_option maxRecDepth 100000 in
theorem Exp_some (x : Nat) (w : World) (h1 : x < 9223372036854775808) :
    Calls Try.prog 74 #[.int .i64 x] w fun e w' => e = .returned (.tuple #[.int .u64 (ex x), .int .i64 0]) ∧ Below w.heap.size w w' := by
  obtain ⟨wh, hwh⟩ : ∃ wh : Nat, wh = x / 65536 := ⟨_, rfl⟩
  have ew : (x : Int) / 65536 = (wh : Int) := by omega
  by_cases hbig : 40 < wh
  · have E : Hid (ex x = 0) := Lib.hid (by unfold ex; rw [← hwh, if_pos hbig])
    clear hwh
    go_enter Try.func74, Try.ntmps74
    go_wp2
    go_ret2
    exact ⟨by rw [E.out]; rfl, Below.refl _ _⟩
  · have E : Hid (ex x = exRun x 16 / 1073741824 / 2 ^ wh) := Lib.hid (by unfold ex; rw [← hwh, if_neg hbig])
    clear hwh
    go_enter Try.func74, Try.ntmps74
    go_wp2_with (go_at_call 88; refine (halves_any _).mono ?_; rintro e w' ⟨rfl, rfl⟩)
    go_loopw [5, 18] (fun m i wr => ∃ k : Nat, k ≤ 16 ∧ i = .int .i64 k ∧ m = .int .u64 (exRun x k) ∧ Has wr w.heap.size #[.int .u64 (hv k)] 76 ∧ Below w.heap.size w wr) (fun _ i _ => 16 - (intOf i).toNat)
    case atStart =>
      refine ⟨0, by omega, rfl, rfl, Has.new _ _ _, ?_⟩
      repeat' (first | exact Below.refl _ _ | refine Below.alloc ?_ ?_ _ | exact Nat.le_refl _ | (simp only [World.size_alloc]; omega))
    case round =>
      obtain ⟨k, hk, rfl, rfl, g1, g2⟩ := hrel
      by_cases hlt : k < 16
      · have hh := hv_bd k
        have hh2 := hv_bd (k + 1)
        have hm := exRun_bd x k
        have hs : Hid (exRun x (k + 1) = if x / 2 ^ (15 - k) % 2 = 1 then exRun x k * hv (k + 1) / 4611686018427387904 else exRun x k) := Lib.hid rfl
        have eh : Hid (isq (hv k * 4611686018427387904) = hv (k + 1)) := Lib.hid rfl
        generalize exRun x k = m at *
        go_wp2_with fail
        refine (half_any w.heap.size (hv k) _ g1 hh).mono ?_
        rintro e w1 ⟨rfl, g3, g4⟩
        dsimp only
        rw [eh.out] at g3
        rw [eh.out]
        replace g2 := g2.trans g4
        clear g1 g4 hh
        have et : (bits .and .i64 ((x : Int) / 2 ^ (15 - k)) 1 == 1) = decide (x / 2 ^ (15 - k) % 2 = 1) := and_one x (15 - k) h1
        obtain ⟨h, hh3⟩ : ∃ h, h = hv (k + 1) := ⟨_, rfl⟩
        rw [← hh3] at g3 hh2 hs ⊢
        have EH := Lib.hid hh3
        clear hh3 eh
        by_cases hbit : x / 2 ^ (15 - k) % 2 = 1
        · rw [if_pos hbit] at hs
          rw [decide_eq_true hbit] at et
          clear hbit
          have bq : m * h ≤ 4611686018427387904 * 4611686018427387904 := Nat.mul_le_mul hm (Nat.le_of_lt hh2)
          obtain ⟨hi, hhi⟩ : ∃ hi, hi = m * h / 18446744073709551616 := ⟨_, rfl⟩
          obtain ⟨lo, hlo⟩ : ∃ lo, lo = m * h % 18446744073709551616 := ⟨_, rfl⟩
          have M := Lib.hid (show m * h = hi * 18446744073709551616 + lo ∧ lo < 18446744073709551616 by omega)
          have bhi : hi < 4611686018427387904 := by omega
          obtain ⟨s, hs2⟩ : ∃ s, s = m * h / 4611686018427387904 := ⟨_, rfl⟩
          have eo : bits .or .u64 ((hi : Int) * 4) ((lo : Int) / 4611686018427387904) = (s : Int) := or_low hi lo s (by omega) (by omega) (by omega)
          rw [← hs2] at hs
          clear bq hhi hlo hs2
          go_wp2_with (go_at_call 81; refine (mul64_any m h hi lo _ (by omega) (by omega) M.out.1 M.out.2).mono ?_; rintro e w' ⟨rfl, rfl⟩)
          refine ⟨⟨k + 1, by omega, by go_num, by rw [hs.out], by rw [← EH.out]; exact g3, g2⟩, by simp [intOf]; omega⟩
        · rw [if_neg hbit] at hs
          rw [decide_eq_false hbit] at et
          clear hbit
          go_wp2
          refine ⟨⟨k + 1, by omega, by go_num, by rw [hs.out], by rw [← EH.out]; exact g3, g2⟩, by simp [intOf]; omega⟩
      · have hk9 : Hid (k = 16) := Lib.hid (by omega)
        have hm := exRun_bd x k
        go_wp2
        go_ret2
        exact ⟨by rw [E.out, hk9.out]; simp, g2⟩
end Go.Proofs.Ytnphpnkfdnnmbaa
