/-
  The walks of nat: comparing, differences, products.
-/
import Derived.Test.YteancdipmpmjpaaN16
namespace Go.Proofs.Yteancdipmpmjpaa
open Go.RowKit
set_option maxRecDepth 100000
set_option linter.unusedVariables false

/-- -1, 0 or 1: less, the same, greater. -/
def cmpN (X Y : Nat) : Int := if X < Y then -1 else if Y < X then 1 else 0
theorem cmp_lt (b X Y j : Nat) (hb : 2 ≤ b) (h : X / b ^ (j + 1) = Y / b ^ (j + 1)) (hlt : X / b ^ j % b < Y / b ^ j % b) : X < Y := by
  rw [Nat.pow_succ, ← Nat.div_div_eq_div_mul, ← Nat.div_div_eq_div_mul] at h
  have h1 := Nat.mod_add_div (X / b ^ j) b
  have h2 := Nat.mod_add_div (Y / b ^ j) b
  rw [h] at h1
  have h3 : X / b ^ j < Y / b ^ j := by omega
  have h4 : ¬ Y ≤ X := fun h => by have := Nat.div_le_div_right (c := b ^ j) h; omega
  omega
theorem cmp_eq (b X Y j : Nat) (hb : 2 ≤ b) (h : X / b ^ (j + 1) = Y / b ^ (j + 1)) (he : X / b ^ j % b = Y / b ^ j % b) : X / b ^ j = Y / b ^ j := by
  rw [Nat.pow_succ, ← Nat.div_div_eq_div_mul, ← Nat.div_div_eq_div_mul] at h
  have h1 := Nat.mod_add_div (X / b ^ j) b
  have h2 := Nat.mod_add_div (Y / b ^ j) b
  rw [h] at h1
  omega

set_option maxHeartbeats 2000000 in
theorem Cmp_nat (A B : Option Addr) (n c m d X Y : Nat) (w : World) (hx : Nt w A n c X) (hy : Nt w B m d Y) (h1 : n ≤ 1000000) (h2 : m ≤ 1000000) :
    Calls Try.prog 79 #[.agg #[.slice A n c], .agg #[.slice B m d]] w fun e w' => e = .returned (.int .i64 (cmpN X Y)) ∧ Below w.heap.size w w' := by
  obtain ⟨N, hN⟩ : ∃ N, max n m = N := ⟨_, rfl⟩
  have hlx : X < 4294967296 ^ N := by
    have a1 := digs_le (b := 4294967296) (by omega) X
    rw [← hx.len] at a1
    have a3 : 4294967296 ^ n ≤ 4294967296 ^ N := Nat.pow_le_pow_right (by omega) (by omega)
    omega
  have hly : Y < 4294967296 ^ N := by
    have a1 := digs_le (b := 4294967296) (by omega) Y
    rw [← hy.len] at a1
    have a3 : 4294967296 ^ m ≤ 4294967296 ^ N := Nat.pow_le_pow_right (by omega) (by omega)
    omega
  have hE : Hid (X / 4294967296 ^ N = Y / 4294967296 ^ N) := Lib.hid (by rw [Nat.div_eq_of_lt hlx, Nat.div_eq_of_lt hly])
  clear hlx hly
  have a1 := Has.new w #[.slice A n c] 108
  have a2 := Has.new (w.alloc (.cells #[.slice A n c] 108)) #[.slice B m d] 108
  simp only [World.size_alloc] at a2
  have hb0 : Below w.heap.size w ((w.alloc (.cells #[.slice A n c] 108)).alloc (.cells #[.slice B m d] 108)) := by repeat' (first | exact Below.refl _ _ | refine Below.alloc ?_ ?_ _ | exact Nat.le_refl _ | (simp only [World.size_alloc]; omega))
  have hN1 : N ≤ 1000000 := by omega
  go_enter Try.func79, Try.ntmps79
  go_wp2
  all_goals
    go_loopw [5, 6, 7] (fun i _ _ wr => ∃ (j : Nat) (z : Int), j ≤ N ∧ z = (j : Int) - 1 ∧ i = .int .i64 z ∧ Hid (X / 4294967296 ^ j = Y / 4294967296 ^ j) ∧ Has wr w.heap.size #[.slice A n c] 108 ∧ Has wr (w.heap.size + 1) #[.slice B m d] 108 ∧ Below w.heap.size w wr) (fun i _ _ _ => (intOf i + 1).toNat)
    case atStart => exact ⟨N, _, Nat.le_refl _, rfl, by go_num, hE, a1.alloc _, a2, hb0⟩
    case round =>
      obtain ⟨j, z, hj, hz, rfl, he, b1, b2, g⟩ := hrel
      rcases j with _ | k
      · have ht : decide ((0 : Int) ≤ z) = false := decide_eq_false (by omega)
        have e : X = Y := by have := he.out; simpa using this
        have ec : cmpN X Y = 0 := by unfold cmpN; rw [if_neg (by omega), if_neg (by omega)]
        have EC := Lib.hid ec
        clear ec e he hz
        go_wp2
        go_ret
        exact ⟨by rw [EC.out]; rfl, g⟩
      · have hzk : z = (k : Int) := by omega
        subst hzk
        have K0 := Keeps.cons b1 (Keeps.cons b2 (Keeps.nil g g.size))
        have PX : ∀ w', Nt w' A n c X → _ := fun w' h => part_any A n c X k w' h (by omega)
        have PY : ∀ w', Nt w' B m d Y → _ := fun w' h => part_any B m d Y k w' h (by omega)
        have L1 := Lib.hid (cmp_lt 4294967296 X Y k (by omega) he.out)
        have L2 := Lib.hid (cmp_lt 4294967296 Y X k (by omega) he.out.symm)
        have L3 := Lib.hid (cmp_eq 4294967296 X Y k (by omega) he.out)
        have x1 := Nat.mod_lt (X / 4294967296 ^ k) (show 0 < 4294967296 by omega)
        have y1 := Nat.mod_lt (Y / 4294967296 ^ k) (show 0 < 4294967296 by omega)
        generalize X / 4294967296 ^ k % 4294967296 = x at *
        generalize Y / 4294967296 ^ k % 4294967296 = y at *
        have PX' := Lib.hid PX
        have PY' := Lib.hid PY
        clear b1 b2 g PX PY he hz hE a1 a2 hb0
        go_wp2_with fail
        refine wp_region_keeps (by kernel_rfl) (by kernel_rfl) K0 ?_
        ((with_reducible refine wq_at_load 108 ?_); refine wq_load rfl 108 _ rfl _ rfl (fun w h => h.has0) Try.underlying108 rfl infoT rfl ?_)
        quiet_step ((intro _; rfl))
        quiet_step ((intro s; refine (PX'.out _ (hx.below (s.1))).mono ?_; rintro e w2 ⟨rfl, k1⟩; exact ⟨rfl, s.below k1⟩))
        ((with_reducible refine wq_at_load 108 ?_); refine wq_load rfl 108 _ rfl _ rfl (fun w h => h.tail.has0) Try.underlying108 rfl infoT rfl ?_)
        quiet_step ((intro _; rfl))
        quiet_step ((intro s; refine (PY'.out _ (hy.below (s.1))).mono ?_; rintro e w2 ⟨rfl, k1⟩; exact ⟨rfl, s.below k1⟩))
        quiet_step ((intro _; rfl))
        quiet_step ((intro _; rfl))
        refine wpQuiet_nil ?_
        intro w2 K1
        clear K0 PX' PY'
        by_cases hlt : x < y
        · have ec : cmpN X Y = -1 := by unfold cmpN; rw [if_pos (L1.out hlt)]
          have EC := Lib.hid ec
          clear ec L1 L2 L3
          have t1 : decide (x < y) = true := decide_eq_true hlt
          have t2 : ((x : Int) != (y : Int)) = true := by simp; omega
          go_wp2
          go_ret
          exact ⟨by rw [EC.out]; rfl, K1.1⟩
        · by_cases hgt : y < x
          · have ec : cmpN X Y = 1 := by unfold cmpN; rw [if_neg (by have := L2.out hgt; omega), if_pos (L2.out hgt)]
            have EC := Lib.hid ec
            clear ec L1 L2 L3
            have t1 : decide (x < y) = false := decide_eq_false hlt
            have t2 : ((x : Int) != (y : Int)) = true := by simp; omega
            go_wp2
            go_ret
            exact ⟨by rw [EC.out]; rfl, K1.1⟩
          · have hxy : x = y := by omega
            have E := Lib.hid (L3.out hxy)
            clear L1 L2 L3
            subst hxy
            go_wp2
            exact ⟨⟨k, _, by omega, rfl, by go_num, E, K1.has0, K1.tail.has0, K1.1⟩, by simp [intOf]⟩
end Go.Proofs.Yteancdipmpmjpaa
