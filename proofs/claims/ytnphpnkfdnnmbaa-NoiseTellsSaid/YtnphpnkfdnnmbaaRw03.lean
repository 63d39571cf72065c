/-
  The walk of root.Wide.
-/
import Derived.Test.YtnphpnkfdnnmbaaS03
namespace Go.Proofs.Ytnphpnkfdnnmbaa
open Go.RowKit

/-! ### The root of a number of 128 bits, bit by bit -/
/-- The greatest number whose square is no more, its bits below the k-th still to be found. -/
def wroot (A : Nat) : Nat → Nat → Nat
  | 0, r => r
  | k + 1, r => wroot A k (if (r + 2 ^ k) * (r + 2 ^ k) ≤ A then r + 2 ^ k else r)
/-- What holds while the bits are found. -/
def RootAt (A k r : Nat) : Prop := r % 2 ^ k = 0 ∧ r < 2 ^ 64 ∧ r * r ≤ A ∧ A < (r + 2 ^ k) * (r + 2 ^ k)
theorem RootAt_start {A : Nat} (h : A < 2 ^ 128) : RootAt A 64 0 := ⟨rfl, by omega, by omega, by simpa using h⟩
theorem RootAt_fit {A k r : Nat} (h : RootAt A (k + 1) r) (hk : k < 64) : r + 2 ^ k < 2 ^ 64 := by
  obtain ⟨h1, h2, _, _⟩ := h
  have hp := Nat.two_pow_pos k
  have e : (2 : Nat) ^ 64 = 2 ^ (k + 1) * 2 ^ (63 - k) := by rw [← Nat.pow_add]; congr 1; omega
  obtain ⟨q, hq⟩ := Nat.dvd_of_mod_eq_zero h1
  rw [e, hq] at h2
  have hlt : q < 2 ^ (63 - k) := Nat.lt_of_mul_lt_mul_left h2
  have : 2 ^ (k + 1) * (q + 1) ≤ 2 ^ (k + 1) * 2 ^ (63 - k) := Nat.mul_le_mul_left _ hlt
  rw [← e, Nat.mul_add, ← hq, Nat.mul_one, Nat.pow_succ] at this
  omega
theorem RootAt_succ {A k r : Nat} (h : RootAt A (k + 1) r) (hk : k < 64) : RootAt A k (if (r + 2 ^ k) * (r + 2 ^ k) ≤ A then r + 2 ^ k else r) := by
  have hf := RootAt_fit h hk
  obtain ⟨h1, h2, h3, h4⟩ := h
  have hm : r % 2 ^ k = 0 := by
    have := Nat.mod_mod_of_dvd r (Nat.pow_dvd_pow 2 (Nat.le_succ k))
    rw [h1] at this; simpa using this.symm
  split
  · rename_i hle
    refine ⟨by rw [Nat.add_mod_right]; exact hm, hf, hle, ?_⟩
    rw [Nat.add_assoc, ← Nat.mul_two, ← Nat.pow_succ]; exact h4
  · rename_i hle
    exact ⟨hm, h2, h3, by omega⟩
theorem wroot_spec {A : Nat} : ∀ (k r : Nat), k ≤ 64 → RootAt A k r → RootAt A 0 (wroot A k r)
  | 0, _, _, h => h
  | k + 1, r, hk, h => wroot_spec k _ (by omega) (RootAt_succ h (by omega))
/-- The root of A, rounded down. -/
def isq (A : Nat) : Nat := wroot A 64 0
theorem isq_spec {A : Nat} (h : A < 2 ^ 128) : isq A * isq A ≤ A ∧ A < (isq A + 1) * (isq A + 1) ∧ isq A < 2 ^ 64 := by
  have := wroot_spec 64 0 (by omega) (RootAt_start h)
  exact ⟨this.2.2.1, by simpa [isq] using this.2.2.2, this.2.1⟩
theorem root_unique {A r s : Nat} (h1 : r * r ≤ A) (h2 : A < (r + 1) * (r + 1)) (h3 : s * s ≤ A) (h4 : A < (s + 1) * (s + 1)) : r = s := by
  rcases Nat.lt_trichotomy r s with h | h | h
  · have := Nat.mul_le_mul (show r + 1 ≤ s from h) (show r + 1 ≤ s from h); omega
  · exact h
  · have := Nat.mul_le_mul (show s + 1 ≤ r from h) (show s + 1 ≤ r from h); omega
theorem root_or {r k : Nat} (h : r % 2 ^ (k + 1) = 0) : r ||| 2 ^ k = r + 2 ^ k := by
  obtain ⟨q, rfl⟩ := Nat.dvd_of_mod_eq_zero h
  rw [Nat.two_pow_add_eq_or_of_lt (Nat.pow_lt_pow_right (by omega) (by omega))]

set_option maxHeartbeats 2000000 in
set_option maxRecDepth 100000 in
theorem Wide_any (A : Nat) (w : World) (hA : A < 170141183460469231731687303715884105728) :
    Calls Try.prog 98 #[.agg (wI A)] w fun e w' => e = .returned (.int .u64 (isq A)) ∧ Below w.heap.size w w' := by
  have hs := Lib.hid (RootAt_start (A := A) (by omega))
  obtain ⟨H, hH⟩ : ∃ H : Nat, H = A / 18446744073709551616 := ⟨_, rfl⟩
  obtain ⟨L, hL⟩ : ∃ L : Nat, L = A % 18446744073709551616 := ⟨_, rfl⟩
  have ew : wI A = #[.int .i64 H, .int .u64 L] := by unfold wI; rw [hH, hL]; simp
  have bH : H < 9223372036854775808 := by omega
  have bL : L < 18446744073709551616 := by omega
  rw [ew]
  have F := Lib.hid (And.intro hH hL)
  clear hH hL ew hA
  go_enter Try.func98, Try.ntmps98
  go_wp2
  go_loopw [3, 4] (fun v i wr => ∃ (j : Nat) (z : Int) (r : Nat), j ≤ 64 ∧ z = (j : Int) - 1 ∧ i = .int .i64 z ∧ v = .int .u64 r ∧ Hid (RootAt A j r ∧ wroot A j r = isq A) ∧ Has wr w.heap.size #[.int .i64 H, .int .u64 L] 78 ∧ Below w.heap.size w wr) (fun _ i _ => (intOf i + 1).toNat)
  case atStart =>
    exact ⟨64, 63, 0, by omega, by omega, rfl, rfl, Lib.hid ⟨hs.out, rfl⟩, Has.new _ _ _, by repeat' (first | exact Below.refl _ _ | refine Below.alloc ?_ ?_ _ | exact Nat.le_refl _ | (simp only [World.size_alloc]; omega))⟩
  case round =>
    obtain ⟨j, z, r, hj, hz, rfl, rfl, G, g1, g2⟩ := hrel
    have br : r < 18446744073709551616 := by have := G.out.1.2.1; omega
    have c0 := g1.cell (i := 0) (v := .int .i64 H) rfl
    have c1 := g1.cell (i := 1) (v := .int .u64 L) rfl
    rcases j with _ | j
    · have E : Hid (isq A = r) := Lib.hid G.out.2.symm
      obtain rfl : z = -1 := by omega
      clear hz G
      go_wp2
      go_ret
      exact ⟨by rw [E.out]; rfl, g2⟩
    · obtain rfl : z = (j : Int) := by omega
      clear hz
      obtain ⟨nx, hnx⟩ : ∃ nx : Nat, nx = r + 2 ^ j := ⟨_, rfl⟩
      have hfit : nx < 18446744073709551616 := by have := RootAt_fit G.out.1 (by omega); omega
      have eo : bits .or .u64 (r : Int) (IntKind.u64.wrap (2 ^ j)) = (nx : Int) := by
        have h2 : 2 ^ j < 18446744073709551616 := by omega
        have e2 : IntKind.u64.wrap (2 ^ j) = ((2 ^ j : Nat) : Int) := by
          rw [show ((2 : Int) ^ j) = ((2 ^ j : Nat) : Int) by simp]
          generalize 2 ^ j = p at *
          exact IntWalk.u64_in _ (by omega)
        rw [e2, bits_or_u64_nat r (2 ^ j) br h2, root_or G.out.1.1, hnx]
      have G' : Hid (RootAt A j (if nx * nx ≤ A then nx else r) ∧ wroot A j (if nx * nx ≤ A then nx else r) = isq A) := Lib.hid (by
        rw [hnx]; exact ⟨RootAt_succ G.out.1 (by omega), by rw [← G.out.2]; rfl⟩)
      clear G hnx
      obtain ⟨ph, hph⟩ : ∃ ph : Nat, ph = nx * nx / 18446744073709551616 := ⟨_, rfl⟩
      obtain ⟨pl, hpl⟩ : ∃ pl : Nat, pl = nx * nx % 18446744073709551616 := ⟨_, rfl⟩
      have M := Lib.hid (show nx * nx = ph * 18446744073709551616 + pl ∧ pl < 18446744073709551616 by omega)
      clear hph hpl
      have hle : Hid (nx * nx ≤ A ↔ ph < H ∨ (ph = H ∧ pl ≤ L)) := Lib.hid (by
        have := M.out; have := F.out; omega)
      have hj : j ≤ 64 := by omega
      by_cases p1 : ph < H
      · have P1 : decide (ph < H) = true := decide_eq_true p1
        rw [if_pos (hle.out.2 (.inl p1))] at G'
        go_wp2_with (go_at_call 81; refine (mul64_any nx nx ph pl _ hfit hfit M.out.1 M.out.2).mono ?_; rintro e w' ⟨rfl, rfl⟩)
        refine ⟨⟨j, _, nx, hj, rfl, rfl, rfl, G', g1, g2⟩, by simp [intOf]⟩
      · have P1 : decide (ph < H) = false := decide_eq_false p1
        by_cases p2 : ph = H
        · by_cases p3 : pl ≤ L
          · have P3 : decide (pl ≤ L) = true := decide_eq_true p3
            rw [if_pos (hle.out.2 (.inr ⟨p2, p3⟩))] at G'
            clear hle
            subst p2
            clear P1
            go_wp2_with (go_at_call 81; refine (mul64_any nx nx ph pl _ hfit hfit M.out.1 M.out.2).mono ?_; rintro e w' ⟨rfl, rfl⟩)
            refine ⟨⟨j, _, nx, hj, rfl, rfl, rfl, G', g1, g2⟩, by simp [intOf]⟩
          · have P3 : decide (pl ≤ L) = false := decide_eq_false p3
            rw [if_neg (fun h => by rcases hle.out.1 h with h | h; exact p1 h; exact p3 h.2)] at G'
            clear hle
            subst p2
            clear P1
            go_wp2_with (go_at_call 81; refine (mul64_any nx nx ph pl _ hfit hfit M.out.1 M.out.2).mono ?_; rintro e w' ⟨rfl, rfl⟩)
            refine ⟨⟨j, _, r, hj, rfl, rfl, rfl, G', g1, g2⟩, by simp [intOf]⟩
        · have P2 : ((ph : Int) == (H : Int)) = false := by simp; omega
          rw [if_neg (fun h => by rcases hle.out.1 h with h | h; exact p1 h; exact p2 h.1)] at G'
          clear hle
          go_wp2_with (go_at_call 81; refine (mul64_any nx nx ph pl _ hfit hfit M.out.1 M.out.2).mono ?_; rintro e w' ⟨rfl, rfl⟩)
          refine ⟨⟨j, _, r, hj, rfl, rfl, rfl, G', g1, g2⟩, by simp [intOf]⟩
end Go.Proofs.Ytnphpnkfdnnmbaa
