/-
  Lemmas and walks of this claim (the texts Lb18 of the work; what no proof here uses is left out). No claim of their own.
-/
import Derived.Test.YteancdipmpmjpaaMD9
import Derived.Test.YteancdipmpmjpaaMD8
import Derived.Test.YteancdipmpmjpaaMD1
import Derived.Test.YteancdipmpmjpaaMD23
import Derived.Lib.MinMax
set_option linter.all false
set_option linter.unusedSimpArgs false
set_option linter.unusedVariables false
namespace Go.Proofs.Yteancdipmpmjpaa
open Go.RowKit
attribute [local irreducible] wpHeld wpTree wpList
set_option linter.unusedVariables false
theorem Cost18_any (n : Int) (w : World) (h0 : 0 ≤ n) (h1 : n ≤ 4096) :
    Calls Try.prog 17 #[.int .i64 n] w fun e w' => e = .returned (.int .i64 (cost18 n)) ∧ Below w.heap.size w w' := by
  have K := St.start w
  have hc := cost_bd h0 h1
  have e1 : max n 0 = n := by omega
  have e2 : min n 4096 = n := by omega
  have e3 : wrap64 (4 * n) = 4 * n := by unfold wrap64; omega
  have e4 : wrap64 (1073741824 - 4 * n) = 1073741824 - 4 * n := by unfold wrap64; omega
  have f3 : IntKind.i64.wrap (4 * n) = 4 * n := IntWalk.i64_in _ (by omega)
  have f4 : IntKind.i64.wrap (1073741824 - 4 * n) = 1073741824 - 4 * n := IntWalk.i64_in _ (by omega)
  have MD : Hid (∀ w, Calls Try.prog 60 #[.int .i64 n, .int .i64 1099511627776, .int .i64 (1073741824 - 4 * n), .int .i64 1] w fun e w' => e = .returned (.tuple #[.int .i64 (cost18 n), .int .i64 0]) ∧ Below w.heap.size w w') := Lib.hid (fun w => by
    have := MulDiv_any n 1099511627776 (1073741824 - 4 * n) 1 w (by omega) (by omega) (by omega) (by omega) (by omega) (by omega)
    rwa [hc.1] at this)
  generalize cost18 n = c at *
  clear hc h0 h1
  go_enter Try.func17, Try.ntmps17
  go_wp2_with (first|(go_at_call 60;(with_reducible refine (MD.out _).mono ?_);rintro e w2 ⟨rfl, k1⟩;replace K := K.step k1;clear k1;(try clear ww);revert w2;intro ww K))
  go_ret
  exact ⟨rfl, K.below⟩
theorem plus18_any (b S a m : Int) (w : World) (b0 : 0 ≤ a) (b1 : a ≤ 1099511627776) (m0 : 0 ≤ m) (m1 : m ≤ 1099511627776) (s0 : 0 ≤ S) (s1 : S ≤ 4611686018427387904) :
    Calls Try.prog 64 #[.agg #[.int .i64 b, .int .i64 S], .int .i64 a, .int .i64 m] w fun e w' => e = .returned (.agg #[.int .i64 (plus18 a m), .int .i64 (S + 1)]) ∧ Below w.heap.size w w' := by
  have K := St.start w
  have hp := plus_min (a := a) m0 m1
  obtain ⟨M, hM⟩ : ∃ M, M = min m 1099511627776 := ⟨_, rfl⟩
  obtain ⟨N, hN⟩ : ∃ N, N = min a (1099511627776 - M) := ⟨_, rfl⟩
  rw [← hM, ← hN] at hp
  have e1 : min m 1099511627776 = M := hM.symm
  have e2 : min a (1099511627776 - M) = N := hN.symm
  have e3 : wrap64 (1099511627776 - M) = 1099511627776 - M := by unfold wrap64; omega
  have e4 : wrap64 (N + M) = plus18 a m := by rw [← hp]; unfold wrap64; omega
  have e5 : wrap64 (S + 1) = S + 1 := by unfold wrap64; omega
  have f3 : IntKind.i64.wrap (1099511627776 - M) = 1099511627776 - M := IntWalk.i64_in _ (by omega)
  have f4 : IntKind.i64.wrap (N + M) = plus18 a m := by rw [← hp]; exact IntWalk.i64_in _ (by omega)
  have f5 : IntKind.i64.wrap (S + 1) = S + 1 := IntWalk.i64_in _ (by omega)
  clear hp hM hN b0 b1 m0 m1 s0 s1
  generalize plus18 a m = p at *
  go_enter Try.func64, Try.ntmps64
  go_wp2_with (first|((with_reducible refine at_load ?_);first|(refine wm_own (cs := ?_) (t := ?_) (v := ?_) K rfl _ _ rfl rfl ?_ ?_ ?_ ?_;rotate_left 2;(repeat (first|exact At.hd|refine At.tl ?_));rotate_left;(exact rfl);(with_reducible first|exact one3)))|((with_reducible refine at_store ?_);(first|(refine wm_store (L' := ?_) (cs := ?_) (t := ?_) (n := ?_) K rfl _ _ _ rfl rfl rfl rfl ?_ ?_ ?_ ?_ ?_ ?_;rotate_left 3;(repeat (exact Put.hd));rotate_left;(with_reducible first|exact row35);(exact rfl);(exact rfl);(simp [Ones, Value.oneCell'])));(try clear K);(try clear ww);intro ww K;(try simp [go_sem] at K))|((first|((with_reducible refine at_box ?_);refine wm_box K rfl _ _ rfl rfl rfl ?_)|((with_reducible refine at_alloc ?_);refine wm_alloc (v := ?_) (cs := ?_) K rfl _ rfl ?_ ?_ ?_;rotate_left;(with_reducible first|exact zero35);rotate_left;exact rfl));(try clear K);(try clear ww);(first|((fail_if_success (have _h := b3));intro b3 ww K)|((fail_if_success (have _h := b6));intro b6 ww K));(try simp [go_sem, Value.cells] at K)))
  refine bodyPost_ret (K.res rfl _ rfl (by (repeat (exact At.hd))) (by (with_reducible first|exact row35)) (by (exact rfl))) rfl ?_
  exact ⟨rfl, K.below⟩
theorem Scaled18_any (b most s z : Int) (w : World) (b0 : 0 ≤ b) (b1 : b ≤ 1099511627776) (m0 : 0 ≤ most) (m1 : most ≤ 65536) (s0 : 0 ≤ s) (s1 : s ≤ 1073741824) (z0 : 0 ≤ z) (z1 : z ≤ 4611686018427387904) :
    Calls Try.prog 14 #[.int .i64 b, .int .i64 most, .int .i64 s, .agg #[.int .i64 0, .int .u64 z]] w fun e w' => e = .returned (.int .i64 (scal18 b most s z)) ∧ Below w.heap.size w w' := by
  have K := St.start w
  have ez : wI z = #[.int .i64 0, .int .u64 z] := by
    unfold wI
    rw [show z / 18446744073709551616 = 0 by omega, show z % 18446744073709551616 = z by omega]
  have hp := prod_bd b0 b1 m0 m1 s0 s1
  by_cases h0 : z = 0
  · subst h0
    have SG : Hid (∀ w, Calls Try.prog 59 #[.agg #[.int .i64 0, .int .u64 0]] w fun e w' => e = .returned (.int .i64 0) ∧ Below w.heap.size w w') := Lib.hid (fun w => by
      have := Sign_any 0 w
      rwa [ez] at this)
    have er : scal18 b most s 0 = 1099511627776 := rfl
    rw [er]
    clear hp er
    go_enter Try.func14, Try.ntmps14
    go_wp2_with (first|((with_reducible refine at_load ?_);first|(refine wm_load (cs := ?_) (t := ?_) (n := ?_) K rfl _ _ rfl rfl ?_ ?_ ?_ ?_;rotate_left 2;(repeat (exact At.hd));rotate_left;(with_reducible first|exact row27);(exact rfl)))|((first|((with_reducible refine at_box ?_);refine wm_box K rfl _ _ rfl rfl rfl ?_));(try clear K);(try clear ww);((fail_if_success (have _h := b7));intro b7 ww K);(try simp [go_sem, Value.cells] at K))|(go_at_call 59;(with_reducible refine (SG.out _).mono ?_);rintro e w2 ⟨rfl, k1⟩;replace K := K.step k1;clear k1;(try clear ww);revert w2;intro ww K))
    go_ret
    exact ⟨rfl, K.below⟩
  · have SG : Hid (∀ w, Calls Try.prog 59 #[.agg #[.int .i64 0, .int .u64 z]] w fun e w' => e = .returned (.int .i64 1) ∧ Below w.heap.size w w') := Lib.hid (fun w => by
      have := Sign_any z w
      rwa [ez, show cmpI z 0 = 1 by unfold cmpI; rw [if_neg (by omega), if_neg (by omega)]] at this)
    have M1 : Hid (∀ w, Calls Try.prog 60 #[.int .i64 most, .int .i64 s, .int .i64 1, .int .i64 1] w fun e w' => e = .returned (.tuple #[.int .i64 (most * s), .int .i64 0]) ∧ Below w.heap.size w w') := Lib.hid (fun w => by
      have := MulDiv_any most s 1 1 w (by omega) (by omega) (by omega) (by omega) (by omega) (by omega)
      have h1 : divM (most * s) 1 1 = (most * s, 0) := by
        have := divM_up (z := most * s) (b := 1) (by omega) (by omega) (by omega)
        rwa [Int.ediv_one, Int.neg_neg] at this
      rwa [h1] at this)
    have M2 := fun w => MulDiv_any b (most * s) z 1 w (by omega) (by omega) (by omega) (by omega) (by omega) (by omega)
    have t1 : decide (9223372036854775808 ≤ z) = false := decide_eq_false (by omega)
    have e1 : wrap64 z = z := by unfold wrap64; omega
    have f1 : IntKind.i64.wrap z = z := IntWalk.i64_in _ (by omega)
    have er : scal18 b most s z = min (cdiv (b * (most * s)) z) 1099511627776 := by unfold scal18 ups; rw [if_neg h0]
    rw [er]
    rcases divM_ups (a := b * (most * s)) (b := z) (by omega) (by omega) with ⟨hd, hd0, hd1⟩ | ⟨⟨y, c, hd, hc⟩, hd0⟩
    · rw [hd] at M2
      have MM := Lib.hid M2
      obtain ⟨Y, hY⟩ : ∃ Y, Y = min (cdiv (b * (most * s)) z) 1099511627776 := ⟨_, rfl⟩
      have e2 : min (cdiv (b * (most * s)) z) 1099511627776 = Y := hY.symm
      rw [e2]
      clear M2 hd hd0 hd1 er hp ez hY
      generalize cdiv (b * (most * s)) z = C at *
      generalize most * s = q at *
      go_enter Try.func14, Try.ntmps14
      go_wp2_with (first|((with_reducible refine at_load ?_);first|(refine wm_load (cs := ?_) (t := ?_) (n := ?_) K rfl _ _ rfl rfl ?_ ?_ ?_ ?_;rotate_left 2;(repeat (exact At.hd));rotate_left;(with_reducible first|exact row27);(exact rfl))|(refine wm_own (cs := ?_) (t := ?_) (v := ?_) K rfl _ _ rfl rfl ?_ ?_ ?_ ?_;rotate_left 2;(repeat (exact At.hd));rotate_left;(exact rfl);(with_reducible first|exact one2|exact one23)))|((first|((with_reducible refine at_box ?_);refine wm_box K rfl _ _ rfl rfl rfl ?_));(try clear K);(try clear ww);((fail_if_success (have _h := b7));intro b7 ww K);(try simp [go_sem, Value.cells] at K))|(go_at_call 59;(with_reducible refine (SG.out _).mono ?_);rintro e w2 ⟨rfl, k1⟩;replace K := K.step k1;clear k1;(try clear ww);revert w2;intro ww K)|(go_at_call 60;(with_reducible refine (M1.out _).mono ?_);rintro e w2 ⟨rfl, k1⟩;replace K := K.step k1;clear k1;(try clear ww);revert w2;intro ww K)|(go_at_call 60;(with_reducible refine (MM.out _).mono ?_);rintro e w2 ⟨rfl, k1⟩;replace K := K.step k1;clear k1;(try clear ww);revert w2;intro ww K))
      go_ret
      exact ⟨rfl, K.below⟩
    · rw [hd] at M2
      have MM := Lib.hid M2
      rw [show min (cdiv (b * (most * s)) z) 1099511627776 = 1099511627776 by omega]
      clear M2 hd hd0 er hp ez
      generalize most * s = q at *
      go_enter Try.func14, Try.ntmps14
      go_wp2_with (first|((with_reducible refine at_load ?_);first|(refine wm_load (cs := ?_) (t := ?_) (n := ?_) K rfl _ _ rfl rfl ?_ ?_ ?_ ?_;rotate_left 2;(repeat (exact At.hd));rotate_left;(with_reducible first|exact row27);(exact rfl))|(refine wm_own (cs := ?_) (t := ?_) (v := ?_) K rfl _ _ rfl rfl ?_ ?_ ?_ ?_;rotate_left 2;(repeat (exact At.hd));rotate_left;(exact rfl);(with_reducible first|exact one2|exact one23)))|((first|((with_reducible refine at_box ?_);refine wm_box K rfl _ _ rfl rfl rfl ?_));(try clear K);(try clear ww);((fail_if_success (have _h := b7));intro b7 ww K);(try simp [go_sem, Value.cells] at K))|(go_at_call 59;(with_reducible refine (SG.out _).mono ?_);rintro e w2 ⟨rfl, k1⟩;replace K := K.step k1;clear k1;(try clear ww);revert w2;intro ww K)|(go_at_call 60;(with_reducible refine (M1.out _).mono ?_);rintro e w2 ⟨rfl, k1⟩;replace K := K.step k1;clear k1;(try clear ww);revert w2;intro ww K)|(go_at_call 60;(with_reducible refine (MM.out _).mono ?_);rintro e w2 ⟨rfl, k1⟩;replace K := K.step k1;clear k1;(try clear ww);revert w2;intro ww K))
      go_ret
      exact ⟨rfl, K.below⟩
theorem Spread18_any (b S n : Int) (w : World) (b0 : 0 ≤ b) (b1 : b ≤ 1099511627776) (s0 : 0 ≤ S) (s1 : S ≤ 4611686018427387904) (h0 : 0 ≤ n) (h1 : n ≤ 4096) :
    Calls Try.prog 20 #[.agg #[.int .i64 b, .int .i64 S], .int .i64 n] w fun e w' => e = .returned (.agg #[.int .i64 (plus18 b (3 * cost18 n)), .int .i64 (S + 1)]) ∧ Below w.heap.size w w' := by
  have K := St.start w
  have hc := cost_bd h0 h1
  have C1 := Lib.hid (fun w => Cost18_any n w h0 h1)
  have e3 : wrap64 (3 * cost18 n) = 3 * cost18 n := by unfold wrap64; omega
  have f3 : IntKind.i64.wrap (3 * cost18 n) = 3 * cost18 n := IntWalk.i64_in _ (by omega)
  have P1 := Lib.hid (fun w => plus18_any b S b (3 * cost18 n) w b0 b1 (by omega) (by omega) s0 s1)
  generalize plus18 b (3 * cost18 n) = p at *
  generalize cost18 n = c at *
  clear hc h0 h1 b0 b1 s0 s1
  go_enter Try.func20, Try.ntmps20
  go_wp2_with (first|((first|((with_reducible refine at_box ?_);refine wm_box K rfl _ _ rfl rfl rfl ?_)|((with_reducible refine at_alloc ?_);refine wm_alloc (v := ?_) (cs := ?_) K rfl _ rfl ?_ ?_ ?_;rotate_left;(with_reducible first|exact zero35);rotate_left;exact rfl));(try clear K);(try clear ww);(first|((fail_if_success (have _h := b2));intro b2 ww K)|((fail_if_success (have _h := b4));intro b4 ww K));(try simp [go_sem, Value.cells] at K)))
  refine wm_held _ [(true, 0), (true, 1), (true, 2), (true, 3), (false, 4), (true, 5), (false, 6), (false, 7)] K sbc1 (by kernel_rfl) (by kernel_rfl) ?_; (try clear K); (try clear ww); intro ww K; (try simp [go_sem] at K); simp only [pick, List.getElem?_toArray, List.getElem?_cons_succ, List.getElem?_cons_zero]
  repeat (first|((with_reducible refine ht_load ?_);first|(refine hm_load (cs := ?_) (t := ?_) (n := ?_) rfl _ _ rfl rfl ?_ ?_ ?_ ?_;rotate_left 2;(repeat (exact At.hd));rotate_left;(with_reducible first|exact row35);(exact rfl))|(refine hm_own (cs := ?_) (t := ?_) (v := ?_) rfl _ _ rfl rfl ?_ ?_ ?_ ?_;rotate_left 2;(repeat (exact At.hd));rotate_left;(exact rfl);(with_reducible first|exact one2)))|(refine held_take (fun K' hK' => ?_);go_simp;first|(apply Exists.intro;refine ⟨?_, hK' _ ?_⟩;(intro _ _;rfl);clear hK' K'))|((with_reducible refine ht_store ?_);first|(refine hm_store (L' := ?_) (cs := ?_) (t := ?_) (n := ?_) K rfl _ _ _ rfl rfl rfl rfl ?_ ?_ ?_ ?_ ?_ ?_;rotate_left 3;(repeat (exact Put.hd));rotate_left;(with_reducible first|exact row35);(exact rfl);(exact rfl);(simp [Ones, Value.oneCell']);(try clear K);(try clear ww);intro ww K;(try simp [go_sem] at K);refine ⟨(by apply via sbc1;first|exact K), ?_⟩))|(refine held_do (fun K' hK' => ?_);go_simp;go_at_call 17;(with_reducible refine (C1.out _).mono ?_);rintro e w2 ⟨rfl, k1⟩;replace K := K.step k1;clear k1;(try clear ww);revert w2;intro ww K;(try dsimp only);refine hK' _ _ (by apply via sbc1;first|exact K) ?_;clear hK' K')|(refine held_do (fun K' hK' => ?_);go_simp;go_at_call 64;(with_reducible refine (P1.out _).mono ?_);rintro e w2 ⟨rfl, k1⟩;replace K := K.step k1;clear k1;(try clear ww);revert w2;intro ww K;(try dsimp only);refine hK' _ _ (by apply via sbc1;first|exact K) ?_;clear hK' K'))
  refine held_nil ?_
  go_wp2_with fail
  refine bodyPost_ret (K.res rfl _ rfl (by (repeat (exact At.hd))) (by (with_reducible first|exact row35)) (by (exact rfl))) rfl ?_
  exact ⟨rfl, K.below⟩
theorem Split18_any (b S n : Int) (w : World) (b0 : 0 ≤ b) (b1 : b ≤ 1099511627776) (s0 : 0 ≤ S) (s1 : S ≤ 4611686018427387904) (h0 : 0 ≤ n) (h1 : n ≤ 4096) :
    Calls Try.prog 23 #[.agg #[.int .i64 b, .int .i64 S], .int .i64 n] w fun e w' => e = .returned (.agg #[.int .i64 (plus18 b (2 * cost18 n)), .int .i64 (S + 1)]) ∧ Below w.heap.size w w' := by
  have K := St.start w
  have hc := cost_bd h0 h1
  have C1 := Lib.hid (fun w => Cost18_any n w h0 h1)
  have e3 : wrap64 (2 * cost18 n) = 2 * cost18 n := by unfold wrap64; omega
  have f3 : IntKind.i64.wrap (2 * cost18 n) = 2 * cost18 n := IntWalk.i64_in _ (by omega)
  have P1 := Lib.hid (fun w => plus18_any b S b (2 * cost18 n) w b0 b1 (by omega) (by omega) s0 s1)
  generalize plus18 b (2 * cost18 n) = p at *
  generalize cost18 n = c at *
  clear hc h0 h1 b0 b1 s0 s1
  go_enter Try.func23, Try.ntmps23
  go_wp2_with (first|((first|((with_reducible refine at_box ?_);refine wm_box K rfl _ _ rfl rfl rfl ?_)|((with_reducible refine at_alloc ?_);refine wm_alloc (v := ?_) (cs := ?_) K rfl _ rfl ?_ ?_ ?_;rotate_left;(with_reducible first|exact zero35);rotate_left;exact rfl));(try clear K);(try clear ww);(first|((fail_if_success (have _h := b2));intro b2 ww K)|((fail_if_success (have _h := b4));intro b4 ww K));(try simp [go_sem, Value.cells] at K)))
  refine wm_held _ [(true, 0), (true, 1), (true, 2), (true, 3), (false, 4), (true, 5), (false, 6), (false, 7)] K sbc1 (by kernel_rfl) (by kernel_rfl) ?_; (try clear K); (try clear ww); intro ww K; (try simp [go_sem] at K); simp only [pick, List.getElem?_toArray, List.getElem?_cons_succ, List.getElem?_cons_zero]
  repeat (first|((with_reducible refine ht_load ?_);first|(refine hm_load (cs := ?_) (t := ?_) (n := ?_) rfl _ _ rfl rfl ?_ ?_ ?_ ?_;rotate_left 2;(repeat (exact At.hd));rotate_left;(with_reducible first|exact row35);(exact rfl))|(refine hm_own (cs := ?_) (t := ?_) (v := ?_) rfl _ _ rfl rfl ?_ ?_ ?_ ?_;rotate_left 2;(repeat (exact At.hd));rotate_left;(exact rfl);(with_reducible first|exact one2)))|(refine held_take (fun K' hK' => ?_);go_simp;first|(apply Exists.intro;refine ⟨?_, hK' _ ?_⟩;(intro _ _;rfl);clear hK' K'))|((with_reducible refine ht_store ?_);first|(refine hm_store (L' := ?_) (cs := ?_) (t := ?_) (n := ?_) K rfl _ _ _ rfl rfl rfl rfl ?_ ?_ ?_ ?_ ?_ ?_;rotate_left 3;(repeat (exact Put.hd));rotate_left;(with_reducible first|exact row35);(exact rfl);(exact rfl);(simp [Ones, Value.oneCell']);(try clear K);(try clear ww);intro ww K;(try simp [go_sem] at K);refine ⟨(by apply via sbc1;first|exact K), ?_⟩))|(refine held_do (fun K' hK' => ?_);go_simp;go_at_call 17;(with_reducible refine (C1.out _).mono ?_);rintro e w2 ⟨rfl, k1⟩;replace K := K.step k1;clear k1;(try clear ww);revert w2;intro ww K;(try dsimp only);refine hK' _ _ (by apply via sbc1;first|exact K) ?_;clear hK' K')|(refine held_do (fun K' hK' => ?_);go_simp;go_at_call 64;(with_reducible refine (P1.out _).mono ?_);rintro e w2 ⟨rfl, k1⟩;replace K := K.step k1;clear k1;(try clear ww);revert w2;intro ww K;(try dsimp only);refine hK' _ _ (by apply via sbc1;first|exact K) ?_;clear hK' K'))
  refine held_nil ?_
  go_wp2_with fail
  refine bodyPost_ret (K.res rfl _ rfl (by (repeat (exact At.hd))) (by (with_reducible first|exact row35)) (by (exact rfl))) rfl ?_
  exact ⟨rfl, K.below⟩
theorem Join18_any (b S n : Int) (w : World) (b0 : 0 ≤ b) (b1 : b ≤ 1099511627776) (s0 : 0 ≤ S) (s1 : S ≤ 4611686018427387904) (h0 : 0 ≤ n) (h1 : n ≤ 4096) :
    Calls Try.prog 24 #[.agg #[.int .i64 b, .int .i64 S], .int .i64 n] w fun e w' => e = .returned (.agg #[.int .i64 (plus18 b (cost18 n)), .int .i64 (S + 1)]) ∧ Below w.heap.size w w' := by
  have K := St.start w
  have hc := cost_bd h0 h1
  have C1 := Lib.hid (fun w => Cost18_any n w h0 h1)
  have P1 := Lib.hid (fun w => plus18_any b S b (cost18 n) w b0 b1 (by omega) (by omega) s0 s1)
  generalize plus18 b (cost18 n) = p at *
  generalize cost18 n = c at *
  clear hc h0 h1 b0 b1 s0 s1
  go_enter Try.func24, Try.ntmps24
  go_wp2_with (first|((first|((with_reducible refine at_box ?_);refine wm_box K rfl _ _ rfl rfl rfl ?_)|((with_reducible refine at_alloc ?_);refine wm_alloc (v := ?_) (cs := ?_) K rfl _ rfl ?_ ?_ ?_;rotate_left;(with_reducible first|exact zero35);rotate_left;exact rfl));(try clear K);(try clear ww);(first|((fail_if_success (have _h := b2));intro b2 ww K)|((fail_if_success (have _h := b4));intro b4 ww K));(try simp [go_sem, Value.cells] at K)))
  refine wm_held _ [(true, 0), (true, 1), (true, 2), (true, 3), (false, 4), (false, 5), (false, 6)] K sbc1 (by kernel_rfl) (by kernel_rfl) ?_; (try clear K); (try clear ww); intro ww K; (try simp [go_sem] at K); simp only [pick, List.getElem?_toArray, List.getElem?_cons_succ, List.getElem?_cons_zero]
  repeat (first|((with_reducible refine ht_load ?_);first|(refine hm_load (cs := ?_) (t := ?_) (n := ?_) rfl _ _ rfl rfl ?_ ?_ ?_ ?_;rotate_left 2;(repeat (exact At.hd));rotate_left;(with_reducible first|exact row35);(exact rfl))|(refine hm_own (cs := ?_) (t := ?_) (v := ?_) rfl _ _ rfl rfl ?_ ?_ ?_ ?_;rotate_left 2;(repeat (exact At.hd));rotate_left;(exact rfl);(with_reducible first|exact one2)))|(refine held_take (fun K' hK' => ?_);go_simp;first|(apply Exists.intro;refine ⟨?_, hK' _ ?_⟩;(intro _ _;rfl);clear hK' K'))|((with_reducible refine ht_store ?_);first|(refine hm_store (L' := ?_) (cs := ?_) (t := ?_) (n := ?_) K rfl _ _ _ rfl rfl rfl rfl ?_ ?_ ?_ ?_ ?_ ?_;rotate_left 3;(repeat (exact Put.hd));rotate_left;(with_reducible first|exact row35);(exact rfl);(exact rfl);(simp [Ones, Value.oneCell']);(try clear K);(try clear ww);intro ww K;(try simp [go_sem] at K);refine ⟨(by apply via sbc1;first|exact K), ?_⟩))|(refine held_do (fun K' hK' => ?_);go_simp;go_at_call 17;(with_reducible refine (C1.out _).mono ?_);rintro e w2 ⟨rfl, k1⟩;replace K := K.step k1;clear k1;(try clear ww);revert w2;intro ww K;(try dsimp only);refine hK' _ _ (by apply via sbc1;first|exact K) ?_;clear hK' K')|(refine held_do (fun K' hK' => ?_);go_simp;go_at_call 64;(with_reducible refine (P1.out _).mono ?_);rintro e w2 ⟨rfl, k1⟩;replace K := K.step k1;clear k1;(try clear ww);revert w2;intro ww K;(try dsimp only);refine hK' _ _ (by apply via sbc1;first|exact K) ?_;clear hK' K'))
  refine held_nil ?_
  go_wp2_with fail
  refine bodyPost_ret (K.res rfl _ rfl (by (repeat (exact At.hd))) (by (with_reducible first|exact row35)) (by (exact rfl))) rfl ?_
  exact ⟨rfl, K.below⟩
theorem wI_small {z : Int} (z0 : 0 ≤ z) (z1 : z ≤ 4611686018427387904) : wI z = #[.int .i64 0, .int .u64 z] := by
  unfold wI
  rw [show z / 18446744073709551616 = 0 by omega, show z % 18446744073709551616 = z by omega]
theorem OfS (z : Int) (w : World) (z0 : 0 ≤ z) (z1 : z ≤ 4611686018427387904) :
    Calls Try.prog 15 #[.int .i64 z] w fun e w' => e = .returned (.agg #[.int .i64 0, .int .u64 z]) ∧ Below w.heap.size w w' := by
  have := Of_wide z w (by omega) (by omega)
  rwa [wI_small z0 z1] at this
theorem Weigh18_any (b S n most s z : Int) (w : World) (b0 : 0 ≤ b) (b1 : b ≤ 1099511627776) (s0 : 0 ≤ S) (s1 : S ≤ 4611686018427387904) (h0 : 0 ≤ n) (h1 : n ≤ 4096) (m0 : 0 ≤ most) (m1 : most ≤ 65536) (u0 : 0 ≤ s) (u1 : s ≤ 1073741824) (z0 : 0 ≤ z) (z1 : z ≤ 4611686018427387904) :
    Calls Try.prog 21 #[.agg #[.int .i64 b, .int .i64 S], .int .i64 n, .int .i64 most, .int .i64 s, .agg #[.int .i64 0, .int .u64 z]] w fun e w' => e = .returned (.agg #[.int .i64 (plus18 (scal18 b most s z) (cost18 n)), .int .i64 (S + 1)]) ∧ Below w.heap.size w w' := by
  have K := St.start w
  have hc := cost_bd h0 h1
  have hs : 0 ≤ scal18 b most s z ∧ scal18 b most s z ≤ 1099511627776 := ups_bd (prod_bd b0 b1 m0 m1 u0 u1).2.1 z0
  have C1 := Lib.hid (fun w => Cost18_any n w h0 h1)
  have S1 := Lib.hid (fun w => Scaled18_any b most s z w b0 b1 m0 m1 u0 u1 z0 z1)
  have P1 := Lib.hid (fun w => plus18_any b S (scal18 b most s z) (cost18 n) w hs.1 hs.2 (by omega) (by omega) s0 s1)
  generalize plus18 (scal18 b most s z) (cost18 n) = p at *
  generalize scal18 b most s z = r at *
  generalize cost18 n = c at *
  clear hc hs h0 h1 b0 b1 s0 s1 m0 m1 u0 u1 z0 z1
  go_enter Try.func21, Try.ntmps21
  go_wp2_with (first|((first|((with_reducible refine at_box ?_);refine wm_box K rfl _ _ rfl rfl rfl ?_)|((with_reducible refine at_alloc ?_);refine wm_alloc (v := ?_) (cs := ?_) K rfl _ rfl ?_ ?_ ?_;rotate_left;(with_reducible first|exact zero35);rotate_left;exact rfl));(try clear K);(try clear ww);(first|((fail_if_success (have _h := b5));intro b5 ww K)|((fail_if_success (have _h := b9));intro b9 ww K)|((fail_if_success (have _h := b10));intro b10 ww K));(try simp [go_sem, Value.cells] at K)))
  refine wm_tree _ (.take 0 (.take 1 (.take 2 (.take 3 (.take 4 (.take 5 (.take 7 (.alt 6 (.alt 8 (.alt 9 (.alt 10 .done .stop) .stop) .stop) .stop)))))))) K sbc1 (by kernel_rfl) (by kernel_rfl) ?_; (try clear K); (try clear ww); intro ww K; (try simp [go_sem] at K)
  repeat' (first|exact tree_stop|(refine tm_own (cs := ?_) (t0 := ?_) (v := ?_) rfl rfl _ _ rfl rfl ?_ ?_ ?_ ?_;rotate_left 2;(repeat (first|exact At.hd|refine At.tl ?_));rotate_left;(exact rfl);(with_reducible first|exact one2))|(refine tm_load (cs := ?_) (t0 := ?_) (n := ?_) rfl rfl _ _ rfl rfl ?_ ?_ ?_ ?_;rotate_left 2;(repeat (first|exact At.hd|refine At.tl ?_));rotate_left;(with_reducible first|exact row27|exact row35);(exact rfl))|(refine tree_take (fun K' hK' => ?_);simp only [opAt, List.getElem?_toArray, List.getElem?_cons_succ, List.getElem?_cons_zero, Option.getD_some];go_simp;first|(apply Exists.intro;refine ⟨?_, hK' _ ?_⟩;(intro _ _;rfl);clear hK' K'))|(refine tree_alt (fun K' hK' => ?_) ?_;simp only [opAt, List.getElem?_toArray, List.getElem?_cons_succ, List.getElem?_cons_zero, Option.getD_some];go_simp;go_at_call 14;(with_reducible refine (S1.out _).mono ?_);rintro e w2 ⟨rfl, k1⟩;replace K := K.step k1;clear k1;(try clear ww);revert w2;intro ww K;(try dsimp only);refine hK' _ _ (by apply via sbc1;first|exact K) ?_;clear hK' K')|(refine tree_alt (fun K' hK' => ?_) ?_;simp only [opAt, List.getElem?_toArray, List.getElem?_cons_succ, List.getElem?_cons_zero, Option.getD_some];go_simp;go_at_call 17;(with_reducible refine (C1.out _).mono ?_);rintro e w2 ⟨rfl, k1⟩;replace K := K.step k1;clear k1;(try clear ww);revert w2;intro ww K;(try dsimp only);refine hK' _ _ (by apply via sbc1;first|exact K) ?_;clear hK' K')|(refine tree_alt (fun K' hK' => ?_) ?_;simp only [opAt, List.getElem?_toArray, List.getElem?_cons_succ, List.getElem?_cons_zero, Option.getD_some];go_simp;go_at_call 64;(with_reducible refine (P1.out _).mono ?_);rintro e w2 ⟨rfl, k1⟩;replace K := K.step k1;clear k1;(try clear ww);revert w2;intro ww K;(try dsimp only);refine hK' _ _ (by apply via sbc1;first|exact K) ?_;clear hK' K')|(refine tm_store (L' := ?_) (cs := ?_) (t0 := ?_) (n := ?_) K rfl rfl _ _ _ rfl rfl rfl rfl ?_ ?_ ?_ ?_ ?_ ?_ ?_;rotate_left 3;(repeat (exact Put.hd));rotate_left;(with_reducible first|exact row35);(exact rfl);(exact rfl);(simp [Ones, Value.oneCell']);intro ww2 K2;(try simp [go_sem] at K2);refine ⟨(by apply via sbc1;first|exact K2), ?_⟩;replace K := K2;clear K2;(try clear ww);revert ww2;intro ww K))
  all_goals refine tree_done ?_
  all_goals (try simp only [opAt, List.getElem?_toArray, List.getElem?_cons_succ, List.getElem?_cons_zero, Option.getD_some])
  all_goals (try go_simp)
  all_goals go_wp2_with fail
  all_goals refine bodyPost_ret (K.res rfl _ rfl (by (repeat (exact At.hd))) (by (with_reducible first|exact row35)) (by (exact rfl))) rfl ?_
  all_goals exact ⟨rfl, K.below⟩
theorem Cut18_any (b S n s z : Int) (w : World) (b0 : 0 ≤ b) (b1 : b ≤ 1099511627776) (s0 : 0 ≤ S) (s1 : S ≤ 4611686018427387904) (h0 : 0 ≤ n) (h1 : n ≤ 4096) (u0 : 0 ≤ s) (u1 : s ≤ 1073741824) (z0 : 0 ≤ z) (z1 : z ≤ 4611686018427387904) :
    Calls Try.prog 22 #[.agg #[.int .i64 b, .int .i64 S], .int .i64 n, .int .i64 s, .int .i64 z] w fun e w' => e = .returned (.agg #[.int .i64 (plus18 (scal18 b 1 s z) (cost18 n)), .int .i64 (S + 1)]) ∧ Below w.heap.size w w' := by
  have K := St.start w
  have hc := cost_bd h0 h1
  have hs : 0 ≤ scal18 b 1 s z ∧ scal18 b 1 s z ≤ 1099511627776 := ups_bd (prod_bd b0 b1 (by omega) (by omega) u0 u1).2.1 z0
  have O1 := Lib.hid (fun w => OfS z w z0 z1)
  have C1 := Lib.hid (fun w => Cost18_any n w h0 h1)
  have S1 := Lib.hid (fun w => Scaled18_any b 1 s z w b0 b1 (by omega) (by omega) u0 u1 z0 z1)
  have P1 := Lib.hid (fun w => plus18_any b S (scal18 b 1 s z) (cost18 n) w hs.1 hs.2 (by omega) (by omega) s0 s1)
  generalize plus18 (scal18 b 1 s z) (cost18 n) = p at *
  generalize scal18 b 1 s z = r at *
  generalize cost18 n = c at *
  clear hc hs h0 h1 b0 b1 s0 s1 u0 u1 z0 z1
  go_enter Try.func22, Try.ntmps22
  go_wp2_with (first|((first|((with_reducible refine at_box ?_);refine wm_box K rfl _ _ rfl rfl rfl ?_)|((with_reducible refine at_alloc ?_);refine wm_alloc (v := ?_) (cs := ?_) K rfl _ rfl ?_ ?_ ?_;rotate_left;(with_reducible first|exact zero35);rotate_left;exact rfl));(try clear K);(try clear ww);(first|((fail_if_success (have _h := b4));intro b4 ww K)|((fail_if_success (have _h := b8));intro b8 ww K));(try simp [go_sem, Value.cells] at K)))
  refine wm_tree _ (.take 0 (.take 1 (.take 2 (.take 3 (.take 4 (.take 7 (.alt 5 (.alt 6 (.alt 8 (.alt 9 (.alt 10 .done .stop) .stop) .stop) .stop) .stop))))))) K sbc1 (by kernel_rfl) (by kernel_rfl) ?_; (try clear K); (try clear ww); intro ww K; (try simp [go_sem] at K)
  repeat' (first|exact tree_stop|(refine tm_own (cs := ?_) (t0 := ?_) (v := ?_) rfl rfl _ _ rfl rfl ?_ ?_ ?_ ?_;rotate_left 2;(repeat (exact At.hd));rotate_left;(exact rfl);(with_reducible first|exact one2))|(refine tm_load (cs := ?_) (t0 := ?_) (n := ?_) rfl rfl _ _ rfl rfl ?_ ?_ ?_ ?_;rotate_left 2;(repeat (exact At.hd));rotate_left;(with_reducible first|exact row35);(exact rfl))|(refine tree_take (fun K' hK' => ?_);simp only [opAt, List.getElem?_toArray, List.getElem?_cons_succ, List.getElem?_cons_zero, Option.getD_some];go_simp;first|(apply Exists.intro;refine ⟨?_, hK' _ ?_⟩;(intro _ _;rfl);clear hK' K'))|(refine tree_alt (fun K' hK' => ?_) ?_;simp only [opAt, List.getElem?_toArray, List.getElem?_cons_succ, List.getElem?_cons_zero, Option.getD_some];go_simp;go_at_call 15;(with_reducible refine (O1.out _).mono ?_);rintro e w2 ⟨rfl, k1⟩;replace K := K.step k1;clear k1;(try clear ww);revert w2;intro ww K;(try dsimp only);refine hK' _ _ (by apply via sbc1;first|exact K) ?_;clear hK' K')|(refine tree_alt (fun K' hK' => ?_) ?_;simp only [opAt, List.getElem?_toArray, List.getElem?_cons_succ, List.getElem?_cons_zero, Option.getD_some];go_simp;go_at_call 14;(with_reducible refine (S1.out _).mono ?_);rintro e w2 ⟨rfl, k1⟩;replace K := K.step k1;clear k1;(try clear ww);revert w2;intro ww K;(try dsimp only);refine hK' _ _ (by apply via sbc1;first|exact K) ?_;clear hK' K')|(refine tree_alt (fun K' hK' => ?_) ?_;simp only [opAt, List.getElem?_toArray, List.getElem?_cons_succ, List.getElem?_cons_zero, Option.getD_some];go_simp;go_at_call 17;(with_reducible refine (C1.out _).mono ?_);rintro e w2 ⟨rfl, k1⟩;replace K := K.step k1;clear k1;(try clear ww);revert w2;intro ww K;(try dsimp only);refine hK' _ _ (by apply via sbc1;first|exact K) ?_;clear hK' K')|(refine tree_alt (fun K' hK' => ?_) ?_;simp only [opAt, List.getElem?_toArray, List.getElem?_cons_succ, List.getElem?_cons_zero, Option.getD_some];go_simp;go_at_call 64;(with_reducible refine (P1.out _).mono ?_);rintro e w2 ⟨rfl, k1⟩;replace K := K.step k1;clear k1;(try clear ww);revert w2;intro ww K;(try dsimp only);refine hK' _ _ (by apply via sbc1;first|exact K) ?_;clear hK' K')|(refine tm_store (L' := ?_) (cs := ?_) (t0 := ?_) (n := ?_) K rfl rfl _ _ _ rfl rfl rfl rfl ?_ ?_ ?_ ?_ ?_ ?_ ?_;rotate_left 3;(repeat (exact Put.hd));rotate_left;(with_reducible first|exact row35);(exact rfl);(exact rfl);(simp [Ones, Value.oneCell']);intro ww2 K2;(try simp [go_sem] at K2);refine ⟨(by apply via sbc1;first|exact K2), ?_⟩;replace K := K2;clear K2;(try clear ww);revert ww2;intro ww K))
  all_goals refine tree_done ?_
  all_goals (try simp only [opAt, List.getElem?_toArray, List.getElem?_cons_succ, List.getElem?_cons_zero, Option.getD_some])
  all_goals (try go_simp)
  all_goals go_wp2_with fail
  all_goals refine bodyPost_ret (K.res rfl _ rfl (by (repeat (exact At.hd))) (by (with_reducible first|exact row35)) (by (exact rfl))) rfl ?_
  all_goals exact ⟨rfl, K.below⟩
end Go.Proofs.Yteancdipmpmjpaa
