/-
  The walks of expo.LogSum and expo.LogSums, and of the law's own examples.
-/
import Derived.Test.YtaibopgoigcbjaaE06
import Derived.Lib.MinMax
namespace Go.Proofs.Ytaibopgoigcbjaa
open Go.RowKit
set_option linter.unusedVariables false

theorem ex_bd (x : Nat) : ex x ≤ 4294967296 := by
  unfold ex
  split
  · omega
  · have h := exRun_bd x 16
    have := Nat.div_le_self (exRun x 16 / 1073741824) (2 ^ (x / 65536))
    omega
theorem lg_at (x : Nat) (h0 : x ≠ 0) (h : x < 2 ^ 64) : Nat.log2 x * 65536 ≤ lg x ∧ lg x < (Nat.log2 x + 1) * 65536 := by
  have := lgRun_at (lg_start x h0 h) 16
  exact ⟨this.1, this.2.1⟩
/-- How much the logarithm of a sum is more than that of the greater number. -/
def more (d : Nat) : Int := (lg (4294967296 + ex d) : Int) - 2097152
theorem more_bd (d : Nat) : 0 ≤ more d ∧ more d < 131072 := by
  have hb := ex_bd d
  have h0 : 4294967296 + ex d ≠ 0 := by omega
  have h := lg_at (4294967296 + ex d) h0 (by omega)
  have l1 : 32 ≤ Nat.log2 (4294967296 + ex d) := (Nat.le_log2 h0).2 (by omega)
  have l2 : Nat.log2 (4294967296 + ex d) < 34 := (Nat.log2_lt h0).2 (by omega)
  unfold more
  omega
/-- The logarithm of a sum: of the greater number 'x', and the lesser one 'y'. -/
def lsOf (x y : Int) : Int := if 9223372036854775808 ≤ x - y then x else if 9223372036854775807 - more (x - y).toNat < x then 9223372036854775807 else x + more (x - y).toNat
def ls (a b : Int) : Int := if a < b then lsOf b a else lsOf a b

theorem d_small (x y : Int) (x0 : -9223372036854775808 ≤ x) (x1 : x ≤ 9223372036854775807) (y0 : -9223372036854775808 ≤ y) (y1 : y ≤ 9223372036854775807) (h : y ≤ x) (hd : x - y < 9223372036854775808) :
    wrap64 (IntKind.u64.wrap (IntKind.u64.wrap x - IntKind.u64.wrap y)) = x - y := by
  rw [IntKind.wrap_u64, IntKind.wrap_u64, IntKind.wrap_u64]; unfold wrap64; omega
theorem d_great (x y : Int) (x0 : -9223372036854775808 ≤ x) (x1 : x ≤ 9223372036854775807) (y0 : -9223372036854775808 ≤ y) (y1 : y ≤ 9223372036854775807) (h : y ≤ x) (hd : 9223372036854775808 ≤ x - y) :
    wrap64 (IntKind.u64.wrap (IntKind.u64.wrap x - IntKind.u64.wrap y)) = x - y - 18446744073709551616 := by
  rw [IntKind.wrap_u64, IntKind.wrap_u64, IntKind.wrap_u64]; unfold wrap64; omega

set_option maxHeartbeats 1000000 in
theorem LogSum_any (a b : Int) (w : World) (x0 : -9223372036854775808 ≤ a) (x1 : a ≤ 9223372036854775807) (y0 : -9223372036854775808 ≤ b) (y1 : b ≤ 9223372036854775807) :
    Calls Try.prog 13 #[.int .i64 a, .int .i64 b] w fun e w' => e = .returned (.int .i64 (ls a b)) ∧ Below w.heap.size w w' := by
  -- x: the greater one, y: the lesser one
  obtain ⟨x, y, hxy⟩ : ∃ x y, (a < b ∧ x = b ∧ y = a) ∨ (¬ a < b ∧ x = a ∧ y = b) := by
    by_cases h : a < b
    · exact ⟨b, a, .inl ⟨h, rfl, rfl⟩⟩
    · exact ⟨a, b, .inr ⟨h, rfl, rfl⟩⟩
  have E : Hid (ls a b = lsOf x y) := Lib.hid (by unfold ls; rcases hxy with ⟨h, rfl, rfl⟩ | ⟨h, rfl, rfl⟩ <;> simp [h])
  have hle : y ≤ x := by rcases hxy with ⟨h, rfl, rfl⟩ | ⟨h, rfl, rfl⟩ <;> omega
  have b0 : -9223372036854775808 ≤ x := by rcases hxy with ⟨h, rfl, rfl⟩ | ⟨h, rfl, rfl⟩ <;> omega
  have b1 : x ≤ 9223372036854775807 := by rcases hxy with ⟨h, rfl, rfl⟩ | ⟨h, rfl, rfl⟩ <;> omega
  have b2 : -9223372036854775808 ≤ y := by rcases hxy with ⟨h, rfl, rfl⟩ | ⟨h, rfl, rfl⟩ <;> omega
  have b3 : y ≤ 9223372036854775807 := by rcases hxy with ⟨h, rfl, rfl⟩ | ⟨h, rfl, rfl⟩ <;> omega
  by_cases hd : 9223372036854775808 ≤ x - y
  · have ed := d_great x y b0 b1 b2 b3 hle hd
    have E2 : Hid (lsOf x y = x) := Lib.hid (by unfold lsOf; rw [if_pos hd])
    have hneg : x - y - 18446744073709551616 < 0 := by omega
    obtain ⟨d, hdd⟩ : ∃ d, d = x - y - 18446744073709551616 := ⟨_, rfl⟩
    rw [← hdd] at ed hneg
    clear hdd hd b0 b1 b2 b3 x0 x1 y0 y1 hle
    rcases hxy with ⟨h, rfl, rfl⟩ | ⟨h, rfl, rfl⟩
    all_goals
      go_enter Try.func13, Try.ntmps13
      go_wp2
      go_ret
      exact ⟨by rw [E.out, E2.out]; rfl, Below.refl _ _⟩
  · obtain ⟨D, hD⟩ : ∃ D : Nat, x - y = (D : Int) := ⟨(x - y).toNat, by omega⟩
    have ed : wrap64 (IntKind.u64.wrap (IntKind.u64.wrap x - IntKind.u64.wrap y)) = (D : Int) := by rw [d_small x y b0 b1 b2 b3 hle (by omega), hD]
    have hm := more_bd D
    have E2 : Hid (lsOf x y = if 9223372036854775807 - more D < x then 9223372036854775807 else x + more D) := Lib.hid (by
      unfold lsOf; rw [if_neg hd, hD]; rfl)
    have be := ex_bd D
    have em : Hid (more D = (lg (4294967296 + ex D) : Int) - 2097152) := Lib.hid rfl
    have bD : D < 9223372036854775808 := by omega
    obtain ⟨e, he⟩ : ∃ e, e = ex D := ⟨_, rfl⟩
    obtain ⟨M, hM⟩ : ∃ M, M = more D := ⟨_, rfl⟩
    obtain ⟨L, hL⟩ : ∃ L, L = lg (4294967296 + e) := ⟨_, rfl⟩
    rw [← he, ← hL] at em
    rw [← hM] at em E2 hm
    rw [← he] at be
    have hLM : (L : Int) - 2097152 = M := em.out.symm
    have X := Lib.hid (And.intro he (And.intro hL bD))
    clear em he hM hL hD hd hle b2 b3 x0 x1 y0 y1 bD
    have bL : L < 2228224 := by omega
    by_cases ht : 9223372036854775807 - M < x
    · have T : decide (9223372036854775807 - M < x) = true := decide_eq_true ht
      have E3 : Hid (ls a b = 9223372036854775807) := Lib.hid (by rw [E.out, E2.out, if_pos ht])
      clear ht E2 E
      rcases hxy with ⟨h, rfl, rfl⟩ | ⟨h, rfl, rfl⟩
      all_goals
        go_enter Try.func13, Try.ntmps13
        go_wp2_with fail
        refine (Exp_some D _ X.out.2.2).mono ?_
        rintro e1 w1 ⟨rfl, hb⟩
        dsimp only
        rw [← X.out.1]
        go_wp2_with fail
        rw [show (4294967296 + (e : Int)) = ((4294967296 + e : Nat) : Int) by omega]
        refine (Log_some (4294967296 + e) _ (by omega) (by omega)).mono ?_
        rintro e1 w2 ⟨rfl, rfl⟩
        dsimp only
        rw [← X.out.2.1]
        go_wp2
        go_ret
        exact ⟨by rw [E3.out]; rfl, hb⟩
    · have T : decide (9223372036854775807 - M < x) = false := decide_eq_false ht
      have E3 : Hid (ls a b = x + M) := Lib.hid (by rw [E.out, E2.out, if_neg ht])
      have hs : x + M ≤ 9223372036854775807 := by omega
      clear E2 E
      rcases hxy with ⟨h, rfl, rfl⟩ | ⟨h, rfl, rfl⟩
      all_goals
        go_enter Try.func13, Try.ntmps13
        go_wp2_with fail
        refine (Exp_some D _ X.out.2.2).mono ?_
        rintro e1 w1 ⟨rfl, hb⟩
        dsimp only
        rw [← X.out.1]
        go_wp2_with fail
        rw [show (4294967296 + (e : Int)) = ((4294967296 + e : Nat) : Int) by omega]
        refine (Log_some (4294967296 + e) _ (by omega) (by omega)).mono ?_
        rintro e1 w2 ⟨rfl, rfl⟩
        dsimp only
        rw [← X.out.2.1]
        go_wp2
        go_ret
        exact ⟨by rw [E3.out]; rfl, hb⟩

theorem ls_bd (a b : Int) (x0 : -9223372036854775808 ≤ a) (x1 : a ≤ 9223372036854775807) (y0 : -9223372036854775808 ≤ b) (y1 : b ≤ 9223372036854775807) : -9223372036854775808 ≤ ls a b ∧ ls a b ≤ 9223372036854775807 := by
  have key : ∀ x y : Int, -9223372036854775808 ≤ x → x ≤ 9223372036854775807 → -9223372036854775808 ≤ lsOf x y ∧ lsOf x y ≤ 9223372036854775807 := by
    intro x y h0 h1
    have := more_bd (x - y).toNat
    unfold lsOf
    split
    · omega
    · split <;> omega
  unfold ls
  split
  · exact key b a y0 y1
  · exact key a b x0 x1
/-- The sum of all, one by one. -/
def lsAll (zs : List Int) : Int := zs.foldl ls (-9223372036854775808)
theorem lsAll_bd (zs : List Int) (h : ∀ z ∈ zs, -9223372036854775808 ≤ z ∧ z ≤ 9223372036854775807) : -9223372036854775808 ≤ lsAll zs ∧ lsAll zs ≤ 9223372036854775807 := by
  unfold lsAll
  have key : ∀ (zs : List Int) (s : Int), -9223372036854775808 ≤ s → s ≤ 9223372036854775807 → (∀ z ∈ zs, -9223372036854775808 ≤ z ∧ z ≤ 9223372036854775807) → -9223372036854775808 ≤ zs.foldl ls s ∧ zs.foldl ls s ≤ 9223372036854775807 := by
    intro zs
    induction zs with
    | nil => intro s h0 h1 _; exact ⟨h0, h1⟩
    | cons z r ih =>
      intro s h0 h1 hz
      have hz0 := hz z (by simp)
      have := ls_bd s z h0 h1 hz0.1 hz0.2
      exact ih _ this.1 this.2 (fun y hy => hz y (by simp [hy]))
  exact key zs _ (by omega) (by omega) h
theorem lsAll_take (zs : List Int) (k : Nat) (h : k < zs.length) : lsAll (zs.take (k + 1)) = ls (lsAll (zs.take k)) (zs.getD k 0) := by
  unfold lsAll
  rw [List.take_succ_eq_append_getElem h, List.foldl_append]
  simp [List.getD, h]

theorem LogSums_nil (w : World) : Calls Try.prog 15 #[.slice none 0 0] w fun e w' => e = .returned (.int .i64 (-9223372036854775808)) ∧ Below w.heap.size w w' := by
  go_enter Try.func15, Try.ntmps15
  go_wp2
  go_loopw [3, 8] (fun s i wr => s = .int .i64 (-9223372036854775808) ∧ i = .int .i64 0 ∧ wr = w) (fun _ _ _ => 0)
  case atStart => exact ⟨rfl, rfl, rfl⟩
  case round =>
    obtain ⟨rfl, rfl, rfl⟩ := hrel
    go_wp2
    go_ret
    exact ⟨rfl, Below.refl _ _⟩

set_option maxHeartbeats 1000000 in
theorem LogSums_any (b off len cap : Nat) (zs : List Int) (w : World) (hl : zs.length = len) (hm : len ≤ 9223372036854775807) (hb : b < w.heap.size)
    (hc : ∀ i, i < len → w.cell? ⟨b, off + i, none⟩ = some (.int .i64 (zs.getD i 0))) (hz : ∀ z ∈ zs, -9223372036854775808 ≤ z ∧ z ≤ 9223372036854775807) :
    Calls Try.prog 15 #[.slice (some ⟨b, off, none⟩) len cap] w fun e w' => e = .returned (.int .i64 (lsAll zs)) ∧ Below w.heap.size w w' := by
  have HC := Lib.hid hc
  have HZ := Lib.hid hz
  have HL := Lib.hid hl
  clear hc hz hl
  go_enter Try.func15, Try.ntmps15
  go_wp2
  go_loopw [3, 8] (fun s i wr => ∃ k : Nat, k ≤ len ∧ i = .int .i64 k ∧ s = .int .i64 (lsAll (zs.take k)) ∧ Below w.heap.size w wr) (fun _ i _ => len - (intOf i).toNat)
  case atStart => exact ⟨0, by omega, rfl, rfl, Below.refl _ _⟩
  case round =>
    obtain ⟨k, hk, rfl, rfl, g⟩ := hrel
    by_cases hlt : k < len
    · have hc : wr.cell? ⟨b, off + k, none⟩ = some (.int .i64 (zs.getD k 0)) := by rw [g.cell (p := ⟨b, off + k, none⟩) hb]; exact HC.out k hlt
      have hs := Lib.hid (lsAll_take zs k (by rw [HL.out]; exact hlt))
      have bs := lsAll_bd (zs.take k) (fun z h => HZ.out z (List.mem_of_mem_take h))
      have bz : -9223372036854775808 ≤ zs.getD k 0 ∧ zs.getD k 0 ≤ 9223372036854775807 := by
        have : k < zs.length := by rw [HL.out]; exact hlt
        have := HZ.out (zs.getD k 0) (by simp [List.getD, this])
        exact this
      generalize lsAll (zs.take k) = s at *
      generalize zs.getD k 0 = z at *
      have B1 := Lib.hid bs
      have B2 := Lib.hid bz
      clear bs bz
      go_wp2_with fail
      refine (LogSum_any s z _ B1.out.1 B1.out.2 B2.out.1 B2.out.2).mono ?_
      rintro e1 w1 ⟨rfl, k1⟩
      dsimp only
      replace g := below_step g k1 g.size
      clear k1 hc
      go_wp2
      refine ⟨⟨k + 1, by omega, by go_num, by rw [hs.out], g⟩, by simp [intOf]; omega⟩
    · have E : Hid (lsAll (zs.take k) = lsAll zs) := Lib.hid (by rw [List.take_of_length_le (by rw [HL.out]; omega)])
      go_wp2
      go_ret
      exact ⟨by rw [← E.out]; rfl, g⟩

/-! ### The law's own examples -/
theorem log8 (w : World) : Calls Try.prog 8 #[.int .u64 8] w fun e w' => e = .returned (.tuple #[.int .i64 196608, .int .i64 0]) ∧ w = w' := by
  have h := Log_some 8 w (by omega) (by omega)
  rw [show lg 8 = 196608 by decide +kernel] at h; exact h
theorem log3 (w : World) : Calls Try.prog 8 #[.int .u64 3] w fun e w' => e = .returned (.tuple #[.int .i64 103872, .int .i64 0]) ∧ w = w' := by
  have h := Log_some 3 w (by omega) (by omega)
  rw [show lg 3 = 103872 by decide +kernel] at h; exact h
theorem exp1 (w : World) : Calls Try.prog 11 #[.int .i64 65536] w fun e w' => e = .returned (.tuple #[.int .u64 2147483648, .int .i64 0]) ∧ Below w.heap.size w w' := by
  have h := Exp_some 65536 w (by omega)
  rw [show ex 65536 = 2147483648 by decide +kernel] at h; exact h
theorem exp2 (w : World) : Calls Try.prog 11 #[.int .i64 32768] w fun e w' => e = .returned (.tuple #[.int .u64 3037000499, .int .i64 0]) ∧ Below w.heap.size w w' := by
  have h := Exp_some 32768 w (by omega)
  rw [show ex 32768 = 3037000499 by decide +kernel] at h; exact h
theorem exp3 (w : World) : Calls Try.prog 11 #[.int .i64 1099511627776] w fun e w' => e = .returned (.tuple #[.int .u64 0, .int .i64 0]) ∧ Below w.heap.size w w' := by
  have h := Exp_some 1099511627776 w (by omega)
  rw [show ex 1099511627776 = 0 by decide +kernel] at h; exact h
theorem sum5 (w : World) : Calls Try.prog 13 #[.int .i64 327680, .int .i64 327680] w fun e w' => e = .returned (.int .i64 393216) ∧ Below w.heap.size w w' := by
  have h := LogSum_any 327680 327680 w (by omega) (by omega) (by omega) (by omega)
  rw [show ls 327680 327680 = 393216 by decide +kernel] at h; exact h
theorem sumTop (w : World) : Calls Try.prog 13 #[.int .i64 9223372036854775807, .int .i64 9223372036854775807] w fun e w' => e = .returned (.int .i64 9223372036854775807) ∧ Below w.heap.size w w' := by
  have h := LogSum_any 9223372036854775807 9223372036854775807 w (by omega) (by omega) (by omega) (by omega)
  rw [show ls 9223372036854775807 9223372036854775807 = 9223372036854775807 by decide +kernel] at h; exact h
theorem sums7 (w : World) : Calls Try.prog 15 #[.slice (some ⟨w.heap.size, 0, none⟩) 1 1] (w.alloc (.cells #[.int .i64 7] 2)) fun e w' => e = .returned (.int .i64 7) ∧ Below (w.heap.size + 1) (w.alloc (.cells #[.int .i64 7] 2)) w' := by
  have h := LogSums_any w.heap.size 0 1 1 [7] (w.alloc (.cells #[.int .i64 7] 2)) rfl (by omega) (by simp) (fun i hi => by
    obtain rfl : i = 0 := by omega
    exact (Has.new w #[.int .i64 7] 2).cell (i := 0) (v := .int .i64 7) rfl) (by simp)
  rw [show lsAll [7] = 7 by decide +kernel] at h
  simpa using h

set_option maxHeartbeats 2000000 in
set_option maxRecDepth 100000 in
theorem works_any (w : World) : Calls Try.prog 10 #[] w fun e w' => e = .returned (.bool true) ∧ Below w.heap.size w w' := by
  go_enter Try.func10, Try.ntmps10
  go_wp2_with fail
  refine (log8 _).mono ?_; rintro e w1 ⟨rfl, rfl⟩; dsimp only
  go_wp2_with fail
  refine (log3 _).mono ?_; rintro e w1 ⟨rfl, rfl⟩; dsimp only
  go_wp2_with fail
  refine (Log_none _).mono ?_; rintro e w1 ⟨rfl, rfl⟩; dsimp only
  go_wp2_with fail
  refine (exp1 _).mono ?_; rintro e w1 ⟨rfl, k1⟩; dsimp only
  go_wp2_with fail
  refine (exp2 _).mono ?_; rintro e w2 ⟨rfl, k2⟩; dsimp only
  go_wp2_with fail
  refine (Exp_neg (-1) _ (by omega)).mono ?_; rintro e w3 ⟨rfl, rfl⟩; dsimp only
  go_wp2_with fail
  refine (exp3 _).mono ?_; rintro e w3 ⟨rfl, k3⟩; dsimp only
  replace k2 := below_step k1 k2 k1.size
  replace k3 := below_step k2 k3 k2.size
  clear k1 k2
  go_wp2_with fail
  refine (sum5 _).mono ?_; rintro e w4 ⟨rfl, k4⟩; dsimp only
  replace k4 := below_step k3 k4 k3.size
  clear k3
  go_wp2_with fail
  refine (LogSums_nil _).mono ?_; rintro e w5 ⟨rfl, k5⟩; dsimp only
  replace k5 := below_step k4 k5 k4.size
  clear k4
  go_wp2_with fail
  refine (sums7 _).mono ?_; rintro e w6 ⟨rfl, k6⟩; dsimp only
  replace k6 := (k5.alloc k5.size (.cells #[.int .i64 7] 2)).trans (k6.mono (by have := k5.size; omega))
  clear k5
  go_wp2_with fail
  refine (sumTop _).mono ?_; rintro e w7 ⟨rfl, k7⟩; dsimp only
  replace k7 := below_step k6 k7 k6.size
  clear k6
  go_wp2
  go_ret
  exact ⟨rfl, k7⟩
end Go.Proofs.Ytaibopgoigcbjaa
