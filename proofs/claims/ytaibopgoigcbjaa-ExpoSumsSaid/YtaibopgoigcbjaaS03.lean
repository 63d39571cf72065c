/-
  The walks of wide.Shl and root.Wide.
-/
import Derived.Test.YtaibopgoigcbjaaW03
import Derived.Test.YtaibopgoigcbjaaBig
namespace Go.Proofs.Ytaibopgoigcbjaa
open Go.RowKit

/-- One doubling after the other: what stands there behind k of them. -/
def ShlAt (z : Int) (ok0 : Bool) (k : Nat) (ok : Bool) (a : Int) : Prop :=
  ok = (ok0 && fits128 (z * 2 ^ k)) ∧ (fits128 (z * 2 ^ k) = true → a = z * 2 ^ k) ∧ -170141183460469231731687303715884105728 ≤ a ∧ a < 170141183460469231731687303715884105728
theorem ShlAt_zero {z : Int} (h : fits128 z = true) (ok0 : Bool) : ShlAt z ok0 0 ok0 z := by
  have e : z * 2 ^ 0 = z := by simp
  unfold ShlAt
  rw [e, h, Bool.and_true]
  unfold fits128 at h
  simp at h
  exact ⟨rfl, fun _ => rfl, h⟩
theorem wrap128_bd (z : Int) : -170141183460469231731687303715884105728 ≤ wrap128 z ∧ wrap128 z < 170141183460469231731687303715884105728 := by unfold wrap128; omega
theorem wrap128_in {z : Int} (h : fits128 z = true) : wrap128 z = z := by
  unfold fits128 at h
  simp at h
  unfold wrap128; omega
theorem ShlAt_succ {z : Int} {ok0 ok : Bool} {k : Nat} {a : Int} (h : ShlAt z ok0 k ok a) : ShlAt z ok0 (k + 1) (ok && fits128 (a + a)) (wrap128 (a + a)) := by
  obtain ⟨h1, h2, h3, h4⟩ := h
  have e : z * 2 ^ (k + 1) = z * 2 ^ k + z * 2 ^ k := by rw [Int.pow_succ, ← Int.mul_assoc]; omega
  unfold ShlAt
  rw [e]
  generalize z * 2 ^ k = y at *
  cases hf : fits128 y
  · rw [hf] at h1
    have hn : fits128 (y + y) = false := by
      cases hy : fits128 (y + y)
      · rfl
      · unfold fits128 at hf hy
        simp at hf hy
        omega
    rw [hn, h1]
    simp
    exact wrap128_bd _
  · have := h2 hf
    subst this
    rw [h1, hf, Bool.and_true]
    refine ⟨rfl, fun hy => wrap128_in hy, wrap128_bd _⟩

theorem zeroW' (w : World) : (zeroValue 52).run Try.prog w = .ok (.agg (wI 0)) w := by kernel_rfl

theorem builtW0 : Try.prog.built 52 [] = some (wI 0) := by kernel_rfl
def ShlPost (z : Int) (n : Nat) (w : World) (e : Ending) (w' : World) : Prop := e = .returned (.tuple #[.agg (wI (if fits128 (z * 2 ^ n) then z * 2 ^ n else 0)), .bool (fits128 (z * 2 ^ n))]) ∧ Below w.heap.size w w'
set_option maxHeartbeats 1000000 in
set_option maxRecDepth 100000 in
/-- A number times a power of two up to 63, where it may be asked. -/
theorem Shl_in (z : Int) (n : Nat) (w : World) (hz : fits128 z = true) (hn : n ≤ 63) :
    Calls Try.prog 27 #[.agg (wI z), .int .i64 n] w (ShlPost z n w) := by
  have hzw := zeroW'
  have hn1 : decide ((n : Int) ≤ 63) = true := decide_eq_true (by omega)
  have hn2 : min (n : Int) 63 = n := by omega
  have g0 := ShlAt_zero hz true
  have HZ := Lib.hid hz
  clear hz
  have G0 := Lib.hid g0
  clear g0
  go_enter Try.func27, Try.ntmps27
  go_wp2
  go_loopw [6, 18] (fun o i wr => ∃ (k : Nat) (ok : Bool) (a : Int), k ≤ n ∧ i = .int .i64 k ∧ o = .bool ok ∧ Hid (ShlAt z true k ok a) ∧ Has wr w.heap.size (wI a) 52 ∧ Has wr (w.heap.size + 1) (wI 0) 52 ∧ Below w.heap.size w wr) (fun _ i _ => n - (intOf i).toNat)
  case atStart =>
    refine ⟨0, true, z, by omega, rfl, rfl, G0, (Has.new _ _ _).alloc _, ?_, ?_⟩
    · have := Has.new (w.alloc (.cells (wI z) 52)) (wI 0) 52
      simpa only [World.size_alloc] using this
    · repeat' (first | exact Below.refl _ _ | refine Below.alloc ?_ ?_ _ | exact Nat.le_refl _ | (simp only [World.size_alloc]; omega))
  case round =>
    obtain ⟨k, ok, a, hk, rfl, rfl, G, g1, g2, g3⟩ := hrel
    have bd := Lib.hid (And.intro G.out.2.2.1 G.out.2.2.2)
    by_cases hlt : k < n
    · have G' := Lib.hid (ShlAt_succ G.out)
      go_wp2_with (first | ((with_reducible refine wl_at_load 52 ?_); refine wl_load rfl 52 _ rfl _ rfl g1 Try.underlying52 rfl infoW (wI_size _) ?_))
      refine (Add_any a a _ bd.out.1 bd.out.2 bd.out.1 bd.out.2).mono ?_
      rintro e w1 ⟨rfl, hb⟩
      dsimp only
      replace g3 := below_step g3 hb (by have := g1.lt; omega)
      replace g1 := g1.below hb; replace g2 := g2.below hb
      clear hb
      have h7 := Has.new w1 (wI (wrap128 (a + a))) 52
      have h1 := g1.alloc (.cells (wI (wrap128 (a + a))) 52)
      have h2 := g2.alloc (.cells (wI (wrap128 (a + a))) 52)
      replace g3 := g3.alloc (by have := g1.lt; omega) (.cells (wI (wrap128 (a + a))) 52)
      clear g1 g2
      generalize wrap128 (a + a) = s at *
      generalize fits128 (a + a) = f at *
      cases ok
      all_goals
        go_wp2_with (first | ((with_reducible refine wl_at_store 52 ?_); refine wl_store_new rfl 52 _ _ rfl _ _ rfl rfl (by first | (with_reducible rfl) | simp only [World.size_alloc]) infoW (wI_size _) (wI_size _) (wI_ones _) rfl ?_) | ((with_reducible refine wl_at_load 52 ?_); refine wl_load rfl 52 _ rfl _ rfl h7 Try.underlying52 rfl infoW (wI_size _) ?_) | ((with_reducible refine wl_at_store 52 ?_); refine wl_store rfl 52 _ _ rfl _ _ rfl rfl h1 infoW (wI_size _) (wI_size _) (wI_ones _) rfl ?_))
        refine ⟨⟨k + 1, _, s, by omega, by go_num, rfl, G', h1.row _, h2.rowKeep (by omega) _, below_setRow g3 (by omega) _⟩, by simp [intOf]; omega⟩
    · obtain rfl : k = n := by omega
      cases ok
      · go_wp2_with (first | ((with_reducible refine wl_at_build 52 ?_); refine wl_build rfl 52 _ rfl rfl builtW0 ?_) | ((with_reducible refine wl_at_store 52 ?_); refine wl_store rfl 52 _ _ rfl _ _ rfl rfl g2 infoW (wI_size _) (wI_size _) (wI_ones _) rfl ?_))
        refine bodyPost_ret (results_has2 rfl _ rfl (g2.row _) Try.underlying52 rfl infoW (wI_size _)) rfl ⟨?_, below_setRow g3 (by omega) _⟩
        have h1 : fits128 (z * 2 ^ k) = false := by have := G.out.1; simpa using this.symm
        rw [h1]; rfl
      · go_wp2_with (first | ((with_reducible refine wl_at_load 52 ?_); refine wl_load rfl 52 _ rfl _ rfl g1 Try.underlying52 rfl infoW (wI_size _) ?_) | ((with_reducible refine wl_at_store 52 ?_); refine wl_store rfl 52 _ _ rfl _ _ rfl rfl g2 infoW (wI_size _) (wI_size _) (wI_ones _) rfl ?_))
        refine bodyPost_ret (results_has2 rfl _ rfl (g2.row _) Try.underlying52 rfl infoW (wI_size _)) rfl ⟨?_, below_setRow g3 (by omega) _⟩
        have h1 : fits128 (z * 2 ^ k) = true := by have := G.out.1; simpa using this.symm
        rw [h1, if_pos rfl, ← G.out.2.1 h1]; rfl

/-! ### The root of a number of 128 bits, bit by bit -/
/-- The greatest number whose square is no more, its bits below the k-th still to be found. -/
def wroot (A : Nat) : Nat → Nat → Nat
  | 0, r => r
  | k + 1, r => wroot A k (if (r + 2 ^ k) * (r + 2 ^ k) ≤ A then r + 2 ^ k else r)
/-- What holds while the bits are found. -/
def RootAt (A k r : Nat) : Prop := r % 2 ^ k = 0 ∧ r < 2 ^ 64 ∧ r * r ≤ A ∧ A < (r + 2 ^ k) * (r + 2 ^ k)
theorem RootAt_start {A : Nat} (h : A < 2 ^ 128) : RootAt A 64 0 := ⟨rfl, by omega, by omega, by simpa using h⟩
theorem RootAt_fit {A k r : Nat} (h : RootAt A (k + 1) r) (hk : k < 64) : r + 2 ^ k < 2 ^ 64 := by
  obtain ⟨h1, h2, _, _⟩ := h
  have hp := Nat.two_pow_pos k
  have e : (2 : Nat) ^ 64 = 2 ^ (k + 1) * 2 ^ (63 - k) := by rw [← Nat.pow_add]; congr 1; omega
  obtain ⟨q, hq⟩ := Nat.dvd_of_mod_eq_zero h1
  rw [e, hq] at h2
  have hlt : q < 2 ^ (63 - k) := Nat.lt_of_mul_lt_mul_left h2
  have : 2 ^ (k + 1) * (q + 1) ≤ 2 ^ (k + 1) * 2 ^ (63 - k) := Nat.mul_le_mul_left _ hlt
  rw [← e, Nat.mul_add, ← hq, Nat.mul_one, Nat.pow_succ] at this
  omega
theorem RootAt_succ {A k r : Nat} (h : RootAt A (k + 1) r) (hk : k < 64) : RootAt A k (if (r + 2 ^ k) * (r + 2 ^ k) ≤ A then r + 2 ^ k else r) := by
  have hf := RootAt_fit h hk
  obtain ⟨h1, h2, h3, h4⟩ := h
  have hm : r % 2 ^ k = 0 := by
    have := Nat.mod_mod_of_dvd r (Nat.pow_dvd_pow 2 (Nat.le_succ k))
    rw [h1] at this; simpa using this.symm
  split
  · rename_i hle
    refine ⟨by rw [Nat.add_mod_right]; exact hm, hf, hle, ?_⟩
    rw [Nat.add_assoc, ← Nat.mul_two, ← Nat.pow_succ]; exact h4
  · rename_i hle
    exact ⟨hm, h2, h3, by omega⟩
theorem wroot_spec {A : Nat} : ∀ (k r : Nat), k ≤ 64 → RootAt A k r → RootAt A 0 (wroot A k r)
  | 0, _, _, h => h
  | k + 1, r, hk, h => wroot_spec k _ (by omega) (RootAt_succ h (by omega))
/-- The root of A, rounded down. -/
def isq (A : Nat) : Nat := wroot A 64 0
theorem isq_spec {A : Nat} (h : A < 2 ^ 128) : isq A * isq A ≤ A ∧ A < (isq A + 1) * (isq A + 1) ∧ isq A < 2 ^ 64 := by
  have := wroot_spec 64 0 (by omega) (RootAt_start h)
  exact ⟨this.2.2.1, by simpa [isq] using this.2.2.2, this.2.1⟩
theorem root_unique {A r s : Nat} (h1 : r * r ≤ A) (h2 : A < (r + 1) * (r + 1)) (h3 : s * s ≤ A) (h4 : A < (s + 1) * (s + 1)) : r = s := by
  rcases Nat.lt_trichotomy r s with h | h | h
  · have := Nat.mul_le_mul (show r + 1 ≤ s from h) (show r + 1 ≤ s from h); omega
  · exact h
  · have := Nat.mul_le_mul (show s + 1 ≤ r from h) (show s + 1 ≤ r from h); omega
theorem root_or {r k : Nat} (h : r % 2 ^ (k + 1) = 0) : r ||| 2 ^ k = r + 2 ^ k := by
  obtain ⟨q, rfl⟩ := Nat.dvd_of_mod_eq_zero h
  rw [Nat.two_pow_add_eq_or_of_lt (Nat.pow_lt_pow_right (by omega) (by omega))]

set_option maxHeartbeats 2000000 in
set_option maxRecDepth 100000 in
theorem Wide_any (A : Nat) (w : World) (hA : A < 170141183460469231731687303715884105728) :
    Calls Try.prog 29 #[.agg (wI A)] w fun e w' => e = .returned (.int .u64 (isq A)) ∧ Below w.heap.size w w' := by
  have hs := Lib.hid (RootAt_start (A := A) (by omega))
  obtain ⟨H, hH⟩ : ∃ H : Nat, H = A / 18446744073709551616 := ⟨_, rfl⟩
  obtain ⟨L, hL⟩ : ∃ L : Nat, L = A % 18446744073709551616 := ⟨_, rfl⟩
  have ew : wI A = #[.int .i64 H, .int .u64 L] := by unfold wI; rw [hH, hL]; simp
  have bH : H < 9223372036854775808 := by omega
  have bL : L < 18446744073709551616 := by omega
  rw [ew]
  have F := Lib.hid (And.intro hH hL)
  clear hH hL ew hA
  go_enter Try.func29, Try.ntmps29
  go_wp2
  go_loopw [3, 4] (fun v i wr => ∃ (j : Nat) (z : Int) (r : Nat), j ≤ 64 ∧ z = (j : Int) - 1 ∧ i = .int .i64 z ∧ v = .int .u64 r ∧ Hid (RootAt A j r ∧ wroot A j r = isq A) ∧ Has wr w.heap.size #[.int .i64 H, .int .u64 L] 52 ∧ Below w.heap.size w wr) (fun _ i _ => (intOf i + 1).toNat)
  case atStart =>
    exact ⟨64, 63, 0, by omega, by omega, rfl, rfl, Lib.hid ⟨hs.out, rfl⟩, Has.new _ _ _, by repeat' (first | exact Below.refl _ _ | refine Below.alloc ?_ ?_ _ | exact Nat.le_refl _ | (simp only [World.size_alloc]; omega))⟩
  case round =>
    obtain ⟨j, z, r, hj, hz, rfl, rfl, G, g1, g2⟩ := hrel
    have br : r < 18446744073709551616 := by have := G.out.1.2.1; omega
    have c0 := g1.cell (i := 0) (v := .int .i64 H) rfl
    have c1 := g1.cell (i := 1) (v := .int .u64 L) rfl
    rcases j with _ | j
    · have E : Hid (isq A = r) := Lib.hid G.out.2.symm
      obtain rfl : z = -1 := by omega
      clear hz G
      go_wp2
      go_ret
      exact ⟨by rw [E.out]; rfl, g2⟩
    · obtain rfl : z = (j : Int) := by omega
      clear hz
      obtain ⟨nx, hnx⟩ : ∃ nx : Nat, nx = r + 2 ^ j := ⟨_, rfl⟩
      have hfit : nx < 18446744073709551616 := by have := RootAt_fit G.out.1 (by omega); omega
      have eo : bits .or .u64 (r : Int) (IntKind.u64.wrap (2 ^ j)) = (nx : Int) := by
        have h2 : 2 ^ j < 18446744073709551616 := by omega
        have e2 : IntKind.u64.wrap (2 ^ j) = ((2 ^ j : Nat) : Int) := by
          rw [show ((2 : Int) ^ j) = ((2 ^ j : Nat) : Int) by simp]
          generalize 2 ^ j = p at *
          exact IntWalk.u64_in _ (by omega)
        rw [e2, bits_or_u64_nat r (2 ^ j) br h2, root_or G.out.1.1, hnx]
      have G' : Hid (RootAt A j (if nx * nx ≤ A then nx else r) ∧ wroot A j (if nx * nx ≤ A then nx else r) = isq A) := Lib.hid (by
        rw [hnx]; exact ⟨RootAt_succ G.out.1 (by omega), by rw [← G.out.2]; rfl⟩)
      clear G hnx
      obtain ⟨ph, hph⟩ : ∃ ph : Nat, ph = nx * nx / 18446744073709551616 := ⟨_, rfl⟩
      obtain ⟨pl, hpl⟩ : ∃ pl : Nat, pl = nx * nx % 18446744073709551616 := ⟨_, rfl⟩
      have M := Lib.hid (show nx * nx = ph * 18446744073709551616 + pl ∧ pl < 18446744073709551616 by omega)
      clear hph hpl
      have hle : Hid (nx * nx ≤ A ↔ ph < H ∨ (ph = H ∧ pl ≤ L)) := Lib.hid (by
        have := M.out; have := F.out; omega)
      have hj : j ≤ 64 := by omega
      by_cases p1 : ph < H
      · have P1 : decide (ph < H) = true := decide_eq_true p1
        rw [if_pos (hle.out.2 (.inl p1))] at G'
        go_wp2_with (go_at_call 17; refine (mul64_any nx nx ph pl _ hfit hfit M.out.1 M.out.2).mono ?_; rintro e w' ⟨rfl, rfl⟩)
        refine ⟨⟨j, _, nx, hj, rfl, rfl, rfl, G', g1, g2⟩, by simp [intOf]⟩
      · have P1 : decide (ph < H) = false := decide_eq_false p1
        by_cases p2 : ph = H
        · by_cases p3 : pl ≤ L
          · have P3 : decide (pl ≤ L) = true := decide_eq_true p3
            rw [if_pos (hle.out.2 (.inr ⟨p2, p3⟩))] at G'
            clear hle
            subst p2
            clear P1
            go_wp2_with (go_at_call 17; refine (mul64_any nx nx ph pl _ hfit hfit M.out.1 M.out.2).mono ?_; rintro e w' ⟨rfl, rfl⟩)
            refine ⟨⟨j, _, nx, hj, rfl, rfl, rfl, G', g1, g2⟩, by simp [intOf]⟩
          · have P3 : decide (pl ≤ L) = false := decide_eq_false p3
            rw [if_neg (fun h => by rcases hle.out.1 h with h | h; exact p1 h; exact p3 h.2)] at G'
            clear hle
            subst p2
            clear P1
            go_wp2_with (go_at_call 17; refine (mul64_any nx nx ph pl _ hfit hfit M.out.1 M.out.2).mono ?_; rintro e w' ⟨rfl, rfl⟩)
            refine ⟨⟨j, _, r, hj, rfl, rfl, rfl, G', g1, g2⟩, by simp [intOf]⟩
        · have P2 : ((ph : Int) == (H : Int)) = false := by simp; omega
          rw [if_neg (fun h => by rcases hle.out.1 h with h | h; exact p1 h; exact p2 h.1)] at G'
          clear hle
          go_wp2_with (go_at_call 17; refine (mul64_any nx nx ph pl _ hfit hfit M.out.1 M.out.2).mono ?_; rintro e w' ⟨rfl, rfl⟩)
          refine ⟨⟨j, _, r, hj, rfl, rfl, rfl, G', g1, g2⟩, by simp [intOf]⟩
end Go.Proofs.Ytaibopgoigcbjaa
