/-
  The walk of wide.Shl.
-/
import Derived.Test.YtnphpnkfdnnmbaaW03
import Derived.Test.YtnphpnkfdnnmbaaBig
namespace Go.Proofs.Ytnphpnkfdnnmbaa
open Go.RowKit

/-- One doubling after the other: what stands there behind k of them. -/
def ShlAt (z : Int) (ok0 : Bool) (k : Nat) (ok : Bool) (a : Int) : Prop :=
  ok = (ok0 && fits128 (z * 2 ^ k)) ∧ (fits128 (z * 2 ^ k) = true → a = z * 2 ^ k) ∧ -170141183460469231731687303715884105728 ≤ a ∧ a < 170141183460469231731687303715884105728
theorem ShlAt_zero {z : Int} (h : fits128 z = true) (ok0 : Bool) : ShlAt z ok0 0 ok0 z := by
  have e : z * 2 ^ 0 = z := by simp
  unfold ShlAt
  rw [e, h, Bool.and_true]
  unfold fits128 at h
  simp at h
  exact ⟨rfl, fun _ => rfl, h⟩
theorem wrap128_bd (z : Int) : -170141183460469231731687303715884105728 ≤ wrap128 z ∧ wrap128 z < 170141183460469231731687303715884105728 := by unfold wrap128; omega
theorem wrap128_in {z : Int} (h : fits128 z = true) : wrap128 z = z := by
  unfold fits128 at h
  simp at h
  unfold wrap128; omega
theorem ShlAt_succ {z : Int} {ok0 ok : Bool} {k : Nat} {a : Int} (h : ShlAt z ok0 k ok a) : ShlAt z ok0 (k + 1) (ok && fits128 (a + a)) (wrap128 (a + a)) := by
  obtain ⟨h1, h2, h3, h4⟩ := h
  have e : z * 2 ^ (k + 1) = z * 2 ^ k + z * 2 ^ k := by rw [Int.pow_succ, ← Int.mul_assoc]; omega
  unfold ShlAt
  rw [e]
  generalize z * 2 ^ k = y at *
  cases hf : fits128 y
  · rw [hf] at h1
    have hn : fits128 (y + y) = false := by
      cases hy : fits128 (y + y)
      · rfl
      · unfold fits128 at hf hy
        simp at hf hy
        omega
    rw [hn, h1]
    simp
    exact wrap128_bd _
  · have := h2 hf
    subst this
    rw [h1, hf, Bool.and_true]
    refine ⟨rfl, fun hy => wrap128_in hy, wrap128_bd _⟩

theorem zeroW' (w : World) : (zeroValue 78).run Try.prog w = .ok (.agg (wI 0)) w := by kernel_rfl

theorem builtW0 : Try.prog.built 78 [] = some (wI 0) := by kernel_rfl
def ShlPost (z : Int) (n : Nat) (w : World) (e : Ending) (w' : World) : Prop := e = .returned (.tuple #[.agg (wI (if fits128 (z * 2 ^ n) then z * 2 ^ n else 0)), .bool (fits128 (z * 2 ^ n))]) ∧ Below w.heap.size w w'
set_option maxHeartbeats 1000000 in
set_option maxRecDepth 100000 in
/-- A number times a power of two up to 63, where it may be asked. -/
theorem Shl_in (z : Int) (n : Nat) (w : World) (hz : fits128 z = true) (hn : n ≤ 63) :
    Calls Try.prog 96 #[.agg (wI z), .int .i64 n] w (ShlPost z n w) := by
  have hzw := zeroW'
  have hn1 : decide ((n : Int) ≤ 63) = true := decide_eq_true (by omega)
  have hn2 : min (n : Int) 63 = n := by omega
  have g0 := ShlAt_zero hz true
  have HZ := Lib.hid hz
  clear hz
  have G0 := Lib.hid g0
  clear g0
  go_enter Try.func96, Try.ntmps96
  go_wp2
  go_loopw [6, 18] (fun o i wr => ∃ (k : Nat) (ok : Bool) (a : Int), k ≤ n ∧ i = .int .i64 k ∧ o = .bool ok ∧ Hid (ShlAt z true k ok a) ∧ Has wr w.heap.size (wI a) 78 ∧ Has wr (w.heap.size + 1) (wI 0) 78 ∧ Below w.heap.size w wr) (fun _ i _ => n - (intOf i).toNat)
  case atStart =>
    refine ⟨0, true, z, by omega, rfl, rfl, G0, (Has.new _ _ _).alloc _, ?_, ?_⟩
    · have := Has.new (w.alloc (.cells (wI z) 78)) (wI 0) 78
      simpa only [World.size_alloc] using this
    · repeat' (first | exact Below.refl _ _ | refine Below.alloc ?_ ?_ _ | exact Nat.le_refl _ | (simp only [World.size_alloc]; omega))
  case round =>
    obtain ⟨k, ok, a, hk, rfl, rfl, G, g1, g2, g3⟩ := hrel
    have bd := Lib.hid (And.intro G.out.2.2.1 G.out.2.2.2)
    by_cases hlt : k < n
    · have G' := Lib.hid (ShlAt_succ G.out)
      go_wp2_with (first | ((with_reducible refine wl_at_load 78 ?_); refine wl_load rfl 78 _ rfl _ rfl g1 Try.underlying78 rfl infoW (wI_size _) ?_))
      refine (Add_any a a _ bd.out.1 bd.out.2 bd.out.1 bd.out.2).mono ?_
      rintro e w1 ⟨rfl, hb⟩
      dsimp only
      replace g3 := below_step g3 hb (by have := g1.lt; omega)
      replace g1 := g1.below hb; replace g2 := g2.below hb
      clear hb
      have h7 := Has.new w1 (wI (wrap128 (a + a))) 78
      have h1 := g1.alloc (.cells (wI (wrap128 (a + a))) 78)
      have h2 := g2.alloc (.cells (wI (wrap128 (a + a))) 78)
      replace g3 := g3.alloc (by have := g1.lt; omega) (.cells (wI (wrap128 (a + a))) 78)
      clear g1 g2
      generalize wrap128 (a + a) = s at *
      generalize fits128 (a + a) = f at *
      cases ok
      all_goals
        go_wp2_with (first | ((with_reducible refine wl_at_store 78 ?_); refine wl_store_new rfl 78 _ _ rfl _ _ rfl rfl (by first | (with_reducible exact rfl) | simp only [World.size_alloc]) infoW (wI_size _) (wI_size _) (wI_ones _) rfl ?_) | ((with_reducible refine wl_at_load 78 ?_); refine wl_load rfl 78 _ rfl _ rfl h7 Try.underlying78 rfl infoW (wI_size _) ?_) | ((with_reducible refine wl_at_store 78 ?_); refine wl_store rfl 78 _ _ rfl _ _ rfl rfl h1 infoW (wI_size _) (wI_size _) (wI_ones _) rfl ?_))
        refine ⟨⟨k + 1, _, s, by omega, by go_num, rfl, G', h1.row _, h2.rowKeep (by omega) _, below_setRow g3 (by omega) _⟩, by simp [intOf]; omega⟩
    · obtain rfl : k = n := by omega
      cases ok
      · go_wp2_with (first | ((with_reducible refine wl_at_build 78 ?_); refine wl_build rfl 78 _ rfl rfl builtW0 ?_) | ((with_reducible refine wl_at_store 78 ?_); refine wl_store rfl 78 _ _ rfl _ _ rfl rfl g2 infoW (wI_size _) (wI_size _) (wI_ones _) rfl ?_))
        refine bodyPost_ret (results_has2 rfl _ rfl (g2.row _) Try.underlying78 rfl infoW (wI_size _)) rfl ⟨?_, below_setRow g3 (by omega) _⟩
        have h1 : fits128 (z * 2 ^ k) = false := by have := G.out.1; simpa using this.symm
        rw [h1]; rfl
      · go_wp2_with (first | ((with_reducible refine wl_at_load 78 ?_); refine wl_load rfl 78 _ rfl _ rfl g1 Try.underlying78 rfl infoW (wI_size _) ?_) | ((with_reducible refine wl_at_store 78 ?_); refine wl_store rfl 78 _ _ rfl _ _ rfl rfl g2 infoW (wI_size _) (wI_size _) (wI_ones _) rfl ?_))
        refine bodyPost_ret (results_has2 rfl _ rfl (g2.row _) Try.underlying78 rfl infoW (wI_size _)) rfl ⟨?_, below_setRow g3 (by omega) _⟩
        have h1 : fits128 (z * 2 ^ k) = true := by have := G.out.1; simpa using this.symm
        rw [h1, if_pos rfl, ← G.out.2.1 h1]; rfl

end Go.Proofs.Ytnphpnkfdnnmbaa
