/-
  The walk of the reference's LogSum.
-/
import Derived.Test.YtaibopgoigcbjaaU06
namespace Go.Proofs.Ytaibopgoigcbjaa
open Go.RowKit
set_option linter.unusedVariables false

set_option maxHeartbeats 4000000 in
theorem RLogSum_any (a b : Int) (w : World) (x0 : -9223372036854775808 ≤ a) (x1 : a ≤ 9223372036854775807) (y0 : -9223372036854775808 ≤ b) (y1 : b ≤ 9223372036854775807) :
    Calls Try.prog 14 #[.int .i64 a, .int .i64 b] w fun e w' => e = .returned (.int .i64 (ls a b)) ∧ Below w.heap.size w w' := by
  obtain ⟨x, y, hxy⟩ : ∃ x y, (a < b ∧ x = b ∧ y = a) ∨ (¬ a < b ∧ x = a ∧ y = b) := by
    by_cases h : a < b
    · exact ⟨b, a, .inl ⟨h, rfl, rfl⟩⟩
    · exact ⟨a, b, .inr ⟨h, rfl, rfl⟩⟩
  have E : Hid (ls a b = lsOf x y) := Lib.hid (by unfold ls; rcases hxy with ⟨h, rfl, rfl⟩ | ⟨h, rfl, rfl⟩ <;> simp [h])
  have hle : y ≤ x := by rcases hxy with ⟨h, rfl, rfl⟩ | ⟨h, rfl, rfl⟩ <;> omega
  have b0 : -9223372036854775808 ≤ x := by rcases hxy with ⟨h, rfl, rfl⟩ | ⟨h, rfl, rfl⟩ <;> omega
  have b1 : x ≤ 9223372036854775807 := by rcases hxy with ⟨h, rfl, rfl⟩ | ⟨h, rfl, rfl⟩ <;> omega
  have b2 : -9223372036854775808 ≤ y := by rcases hxy with ⟨h, rfl, rfl⟩ | ⟨h, rfl, rfl⟩ <;> omega
  have b3 : y ≤ 9223372036854775807 := by rcases hxy with ⟨h, rfl, rfl⟩ | ⟨h, rfl, rfl⟩ <;> omega
  have eT : IntKind.i64.wrap (9223372036854775807 + y) = 9223372036854775807 + y ∨ 0 ≤ y := by
    by_cases h : y < 0
    · exact .inl (IntWalk.i64_in _ (by omega))
    · exact .inr (by omega)
  by_cases hd : 9223372036854775808 ≤ x - y
  · have T1 : decide (y < 0) = true := decide_eq_true (by omega)
    have T2 : decide (9223372036854775807 + y < x) = true := decide_eq_true (by omega)
    have hyneg : y < 0 := by omega
    have E2 : Hid (lsOf x y = x) := Lib.hid (by unfold lsOf; rw [if_pos hd])
    clear hd x0 x1 y0 y1 hle b0 b1 eT
    rcases hxy with ⟨h, rfl, rfl⟩ | ⟨h, rfl, rfl⟩
    all_goals
      go_enter Try.func14, Try.ntmps14
      go_wp2
      go_ret
      exact ⟨by rw [E.out, E2.out]; rfl, Below.refl _ _⟩
  · obtain ⟨D, hD⟩ : ∃ D : Nat, x - y = (D : Int) := ⟨(x - y).toNat, by omega⟩
    have hm := more_bd D
    have E2 : Hid (lsOf x y = if 9223372036854775807 - more D < x then 9223372036854775807 else x + more D) := Lib.hid (by
      unfold lsOf; rw [if_neg hd, hD]; rfl)
    have be := ex_bd D
    have em : Hid (more D = (lg (4294967296 + ex D) : Int) - 2097152) := Lib.hid rfl
    have bD : D < 9223372036854775808 := by omega
    obtain ⟨e, he⟩ : ∃ e, e = ex D := ⟨_, rfl⟩
    obtain ⟨M, hM⟩ : ∃ M, M = more D := ⟨_, rfl⟩
    obtain ⟨L, hL⟩ : ∃ L, L = lg (4294967296 + e) := ⟨_, rfl⟩
    rw [← he, ← hL] at em
    rw [← hM] at em E2 hm
    rw [← he] at be
    have hLM : (L : Int) - 2097152 = M := em.out.symm
    have X := Lib.hid (And.intro he (And.intro hL bD))
    have bD2 : (D : Int) ≤ 9223372036854775807 := by omega
    have T2 : decide (9223372036854775807 + y < x) = false := decide_eq_false (by omega)
    have bL : L < 2228224 := by omega
    have hys : y < 0 ∨ ¬ y < 0 := by omega
    clear em he hM hL hd hle x0 x1 y0 y1 bD eT
    rcases hys with hy | hy
    · have T1 : decide (y < 0) = true := decide_eq_true hy
      by_cases ht : 9223372036854775807 - M < x
      · have T : decide (9223372036854775807 - M < x) = true := decide_eq_true ht
        have E3 : Hid (ls a b = 9223372036854775807) := Lib.hid (by rw [E.out, E2.out, if_pos ht])
        clear ht E2 E
        rcases hxy with ⟨h, rfl, rfl⟩ | ⟨h, rfl, rfl⟩
        · go_enter Try.func14, Try.ntmps14
          go_wp2_with fail
          refine (RExp_some D _ X.out.2.2).mono ?_
          rintro e1 w1 ⟨rfl, hb⟩
          dsimp only
          rw [← X.out.1]
          go_wp2_with fail
          rw [show (4294967296 + (e : Int)) = ((4294967296 + e : Nat) : Int) by omega]
          refine (RLog_some (4294967296 + e) _ (by omega) (by omega)).mono ?_
          rintro e1 w2 ⟨rfl, hb2⟩
          dsimp only
          rw [← X.out.2.1]
          replace hb2 := below_step hb hb2 hb.size
          go_wp2
          go_ret
          exact ⟨by rw [E3.out]; rfl, hb2⟩
        · go_enter Try.func14, Try.ntmps14
          go_wp2_with fail
          refine (RExp_some D _ X.out.2.2).mono ?_
          rintro e1 w1 ⟨rfl, hb⟩
          dsimp only
          rw [← X.out.1]
          go_wp2_with fail
          rw [show (4294967296 + (e : Int)) = ((4294967296 + e : Nat) : Int) by omega]
          refine (RLog_some (4294967296 + e) _ (by omega) (by omega)).mono ?_
          rintro e1 w2 ⟨rfl, hb2⟩
          dsimp only
          rw [← X.out.2.1]
          replace hb2 := below_step hb hb2 hb.size
          go_wp2
          go_ret
          exact ⟨by rw [E3.out]; rfl, hb2⟩
      · have T : decide (9223372036854775807 - M < x) = false := decide_eq_false ht
        have E3 : Hid (ls a b = x + M) := Lib.hid (by rw [E.out, E2.out, if_neg ht])
        have hs : x + M ≤ 9223372036854775807 := by omega
        clear E2 E
        rcases hxy with ⟨h, rfl, rfl⟩ | ⟨h, rfl, rfl⟩
        · go_enter Try.func14, Try.ntmps14
          go_wp2_with fail
          refine (RExp_some D _ X.out.2.2).mono ?_
          rintro e1 w1 ⟨rfl, hb⟩
          dsimp only
          rw [← X.out.1]
          go_wp2_with fail
          rw [show (4294967296 + (e : Int)) = ((4294967296 + e : Nat) : Int) by omega]
          refine (RLog_some (4294967296 + e) _ (by omega) (by omega)).mono ?_
          rintro e1 w2 ⟨rfl, hb2⟩
          dsimp only
          rw [← X.out.2.1]
          replace hb2 := below_step hb hb2 hb.size
          go_wp2
          go_ret
          exact ⟨by rw [E3.out]; rfl, hb2⟩
        · go_enter Try.func14, Try.ntmps14
          go_wp2_with fail
          refine (RExp_some D _ X.out.2.2).mono ?_
          rintro e1 w1 ⟨rfl, hb⟩
          dsimp only
          rw [← X.out.1]
          go_wp2_with fail
          rw [show (4294967296 + (e : Int)) = ((4294967296 + e : Nat) : Int) by omega]
          refine (RLog_some (4294967296 + e) _ (by omega) (by omega)).mono ?_
          rintro e1 w2 ⟨rfl, hb2⟩
          dsimp only
          rw [← X.out.2.1]
          replace hb2 := below_step hb hb2 hb.size
          go_wp2
          go_ret
          exact ⟨by rw [E3.out]; rfl, hb2⟩
    · have T1 : decide (y < 0) = false := decide_eq_false hy
      clear T2
      by_cases ht : 9223372036854775807 - M < x
      · have T : decide (9223372036854775807 - M < x) = true := decide_eq_true ht
        have E3 : Hid (ls a b = 9223372036854775807) := Lib.hid (by rw [E.out, E2.out, if_pos ht])
        clear ht E2 E
        rcases hxy with ⟨h, rfl, rfl⟩ | ⟨h, rfl, rfl⟩
        · go_enter Try.func14, Try.ntmps14
          go_wp2_with fail
          refine (RExp_some D _ X.out.2.2).mono ?_
          rintro e1 w1 ⟨rfl, hb⟩
          dsimp only
          rw [← X.out.1]
          go_wp2_with fail
          rw [show (4294967296 + (e : Int)) = ((4294967296 + e : Nat) : Int) by omega]
          refine (RLog_some (4294967296 + e) _ (by omega) (by omega)).mono ?_
          rintro e1 w2 ⟨rfl, hb2⟩
          dsimp only
          rw [← X.out.2.1]
          replace hb2 := below_step hb hb2 hb.size
          go_wp2
          go_ret
          exact ⟨by rw [E3.out]; rfl, hb2⟩
        · go_enter Try.func14, Try.ntmps14
          go_wp2_with fail
          refine (RExp_some D _ X.out.2.2).mono ?_
          rintro e1 w1 ⟨rfl, hb⟩
          dsimp only
          rw [← X.out.1]
          go_wp2_with fail
          rw [show (4294967296 + (e : Int)) = ((4294967296 + e : Nat) : Int) by omega]
          refine (RLog_some (4294967296 + e) _ (by omega) (by omega)).mono ?_
          rintro e1 w2 ⟨rfl, hb2⟩
          dsimp only
          rw [← X.out.2.1]
          replace hb2 := below_step hb hb2 hb.size
          go_wp2
          go_ret
          exact ⟨by rw [E3.out]; rfl, hb2⟩
      · have T : decide (9223372036854775807 - M < x) = false := decide_eq_false ht
        have E3 : Hid (ls a b = x + M) := Lib.hid (by rw [E.out, E2.out, if_neg ht])
        have hs : x + M ≤ 9223372036854775807 := by omega
        clear E2 E
        rcases hxy with ⟨h, rfl, rfl⟩ | ⟨h, rfl, rfl⟩
        · go_enter Try.func14, Try.ntmps14
          go_wp2_with fail
          refine (RExp_some D _ X.out.2.2).mono ?_
          rintro e1 w1 ⟨rfl, hb⟩
          dsimp only
          rw [← X.out.1]
          go_wp2_with fail
          rw [show (4294967296 + (e : Int)) = ((4294967296 + e : Nat) : Int) by omega]
          refine (RLog_some (4294967296 + e) _ (by omega) (by omega)).mono ?_
          rintro e1 w2 ⟨rfl, hb2⟩
          dsimp only
          rw [← X.out.2.1]
          replace hb2 := below_step hb hb2 hb.size
          go_wp2
          go_ret
          exact ⟨by rw [E3.out]; rfl, hb2⟩
        · go_enter Try.func14, Try.ntmps14
          go_wp2_with fail
          refine (RExp_some D _ X.out.2.2).mono ?_
          rintro e1 w1 ⟨rfl, hb⟩
          dsimp only
          rw [← X.out.1]
          go_wp2_with fail
          rw [show (4294967296 + (e : Int)) = ((4294967296 + e : Nat) : Int) by omega]
          refine (RLog_some (4294967296 + e) _ (by omega) (by omega)).mono ?_
          rintro e1 w2 ⟨rfl, hb2⟩
          dsimp only
          rw [← X.out.2.1]
          replace hb2 := below_step hb hb2 hb.size
          go_wp2
          go_ret
          exact ⟨by rw [E3.out]; rfl, hb2⟩
end Go.Proofs.Ytaibopgoigcbjaa
