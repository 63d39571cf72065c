/-
  The walk of the law LedgerTells.
-/
import Derived.Test.YteancdipmpmjpaaLc18
namespace Go.Proofs.Yteancdipmpmjpaa
open Go.RowKit
attribute [local irreducible] wpHeld wpTree wpList
set_option linter.unusedVariables false
theorem tmod_nat {x : Int} {m : Nat} (h0 : 0 ≤ x) (hm : 0 < m) : ∃ N : Nat, x.tmod m = N ∧ N < m := by
  refine ⟨(x.tmod m).toNat, ?_, ?_⟩
  · rw [Int.tmod_eq_emod_of_nonneg h0]
    have := Int.emod_nonneg x (show (m : Int) ≠ 0 by omega)
    omega
  · rw [Int.tmod_eq_emod_of_nonneg h0]
    have := Int.emod_lt_of_pos x (show 0 < (m : Int) by omega)
    omega
set_option maxRecDepth 100000 in
set_option maxHeartbeats 4000000 in
theorem walk_LedgerTells (a0 a1 a2 a3 a4 : Int) (w : World) (h0 : (Lit.int .u16 a0).wf = true) (h1 : (Lit.int .u64 a1).wf = true) (h2 : (Lit.int .u32 a2).wf = true) (h3 : (Lit.int .u32 a3).wf = true) (h4 : (Lit.int .i64 a4).wf = true) :
    Calls Try.prog 3 #[.int .u16 a0, .int .u64 a1, .int .u32 a2, .int .u32 a3, .int .i64 a4] w fun e w' => e = .returned (.bool true) ∧ Below w.heap.size w w' := by
  have K := St.start w
  have WK := Lib.hid works18_any
  unfold Lit.wf at h0 h1 h2 h3 h4
  simp [IntKind.min, IntKind.max, IntKind.bits, IntKind.signed] at h0 h1 h2 h3 h4
  obtain ⟨N, hN, bN⟩ := tmod_nat (x := a0) (m := 4097) (by omega) (by omega)
  have HNh := Lib.hid hN
  clear hN
  obtain ⟨B, hB, bB⟩ := tmod_nat (x := a1) (m := 1099511627777) (by omega) (by omega)
  have HBh := Lib.hid hB
  clear hB
  obtain ⟨M, hM, bM⟩ := tmod_nat (x := a2) (m := 65537) (by omega) (by omega)
  have HMh := Lib.hid hM
  clear hM
  obtain ⟨S, hS, bS⟩ := tmod_nat (x := a3) (m := 1073741825) (by omega) (by omega)
  have HSh := Lib.hid hS
  clear hS
  have e0h : Hid (wrap64 a0 = a0) := Lib.hid (by unfold wrap64; omega)
  have e1h : Hid (wrap64 (B : Int) = B) := Lib.hid (by unfold wrap64; omega)
  have e2h : Hid (wrap64 (M : Int) = M) := Lib.hid (by unfold wrap64; omega)
  have e3h : Hid (wrap64 (S : Int) = S) := Lib.hid (by unfold wrap64; omega)
  have e4h : Hid (wrap64 (N : Int) = N) := Lib.hid (by unfold wrap64; omega)
  have C1 := Lib.hid (fun w => Cost18_any N w (by omega) (by omega))
  have C2 := Lib.hid (fun w => RCost18 N w (by omega))
  by_cases hz : a4 < 0
  · have t1 : decide (a4 < 0) = true := decide_eq_true hz
    obtain ⟨Z, hZ, bZ⟩ := tmod_nat (x := -(a4 + 1)) (m := 70368744177664) (by omega) (by omega)
    have HZh := Lib.hid hZ
    clear hZ
    have f1h : Hid (wrap64 (a4 + 1) = a4 + 1) := Lib.hid (by unfold wrap64; omega)
    have f2h : Hid (wrap64 (-(a4 + 1)) = -(a4 + 1)) := Lib.hid (by unfold wrap64; omega)
    have f3h : Hid (wrap64 (Z : Int) = Z) := Lib.hid (by unfold wrap64; omega)
    have O1 := Lib.hid (fun w => OfS Z w (by omega) (by omega))
    have S1 := Lib.hid (fun w => Scaled18_any B M S Z w (by omega) (by omega) (by omega) (by omega) (by omega) (by omega) (by omega) (by omega))
    have S2 := Lib.hid (fun w => RScaled18 B M S Z w (by omega) (by omega) (by omega) (by omega))
    generalize scal18 B M S Z = x at *
    generalize cost18 N = c at *
    clear h0 h1 h2 h3 h4 bN bB bM bS bZ hz
    have q1 : a0.tmod 4097 = N := HNh.out
    have q2 : a1.tmod 1099511627777 = B := HBh.out
    have q3 : a2.tmod 65537 = M := HMh.out
    have q4 : a3.tmod 1073741825 = S := HSh.out
    have q5 : (-(a4 + 1)).tmod 70368744177664 = Z := HZh.out
    clear HNh HBh HMh HSh HZh
    have e0 := e0h.out
    have e1 := e1h.out
    have e2 := e2h.out
    have e3 := e3h.out
    have e4 := e4h.out
    have f1 := f1h.out
    have f2 := f2h.out
    have f3 := f3h.out
    go_enter Try.func3, Try.ntmps3
    go_wp2_with (first | (go_at_call 19; (with_reducible refine (WK.out _).mono ?_); rintro e w2 ⟨rfl, k1⟩; replace K := K.step k1; clear k1; (try clear ww); revert w2; intro ww K) | (go_at_call 15; (with_reducible refine (O1.out _).mono ?_); rintro e w2 ⟨rfl, k1⟩; replace K := K.step k1; clear k1; (try clear ww); revert w2; intro ww K) | (go_at_call 14; (with_reducible refine (S1.out _).mono ?_); rintro e w2 ⟨rfl, k1⟩; replace K := K.step k1; clear k1; (try clear ww); revert w2; intro ww K) | (go_at_call 17; (with_reducible refine (C1.out _).mono ?_); rintro e w2 ⟨rfl, k1⟩; replace K := K.step k1; clear k1; (try clear ww); revert w2; intro ww K) | (go_at_call 16; (with_reducible refine (C2.out _).mono ?_); rintro e w2 ⟨rfl, k1⟩; replace K := K.step k1; clear k1; (try clear ww); revert w2; intro ww K) | (go_at_call 18; (with_reducible refine (S2.out _).mono ?_); rintro e w2 ⟨rfl, k1⟩; replace K := K.step k1; clear k1; (try clear ww); revert w2; intro ww K))
    go_ret
    exact ⟨rfl, K.below⟩
  · have t1 : decide (a4 < 0) = false := decide_eq_false hz
    obtain ⟨Z, hZ, bZ⟩ := tmod_nat (x := a4) (m := 70368744177664) (by omega) (by omega)
    have HZh := Lib.hid hZ
    clear hZ
    have f3h : Hid (wrap64 (Z : Int) = Z) := Lib.hid (by unfold wrap64; omega)
    have O1 := Lib.hid (fun w => OfS Z w (by omega) (by omega))
    have S1 := Lib.hid (fun w => Scaled18_any B M S Z w (by omega) (by omega) (by omega) (by omega) (by omega) (by omega) (by omega) (by omega))
    have S2 := Lib.hid (fun w => RScaled18 B M S Z w (by omega) (by omega) (by omega) (by omega))
    generalize scal18 B M S Z = x at *
    generalize cost18 N = c at *
    clear h0 h1 h2 h3 h4 bN bB bM bS bZ hz
    have q1 : a0.tmod 4097 = N := HNh.out
    have q2 : a1.tmod 1099511627777 = B := HBh.out
    have q3 : a2.tmod 65537 = M := HMh.out
    have q4 : a3.tmod 1073741825 = S := HSh.out
    have q5 : a4.tmod 70368744177664 = Z := HZh.out
    clear HNh HBh HMh HSh HZh
    have e0 := e0h.out
    have e1 := e1h.out
    have e2 := e2h.out
    have e3 := e3h.out
    have e4 := e4h.out
    have f3 := f3h.out
    go_enter Try.func3, Try.ntmps3
    go_wp2_with (first | (go_at_call 19; (with_reducible refine (WK.out _).mono ?_); rintro e w2 ⟨rfl, k1⟩; replace K := K.step k1; clear k1; (try clear ww); revert w2; intro ww K) | (go_at_call 15; (with_reducible refine (O1.out _).mono ?_); rintro e w2 ⟨rfl, k1⟩; replace K := K.step k1; clear k1; (try clear ww); revert w2; intro ww K) | (go_at_call 14; (with_reducible refine (S1.out _).mono ?_); rintro e w2 ⟨rfl, k1⟩; replace K := K.step k1; clear k1; (try clear ww); revert w2; intro ww K) | (go_at_call 17; (with_reducible refine (C1.out _).mono ?_); rintro e w2 ⟨rfl, k1⟩; replace K := K.step k1; clear k1; (try clear ww); revert w2; intro ww K) | (go_at_call 16; (with_reducible refine (C2.out _).mono ?_); rintro e w2 ⟨rfl, k1⟩; replace K := K.step k1; clear k1; (try clear ww); revert w2; intro ww K) | (go_at_call 18; (with_reducible refine (S2.out _).mono ?_); rintro e w2 ⟨rfl, k1⟩; replace K := K.step k1; clear k1; (try clear ww); revert w2; intro ww K))
    go_ret
    exact ⟨rfl, K.below⟩
end Go.Proofs.Yteancdipmpmjpaa
