/-
  Lemmas and walks of this claim (the texts Lc18 of the work; what no proof here uses is left out). No claim of their own.
-/
import Derived.Test.YteancdipmpmjpaaMD25
import Derived.Test.YteancdipmpmjpaaMD12
import Derived.Test.YteancdipmpmjpaaMD24
import Derived.Test.YteancdipmpmjpaaMD8
import Derived.Test.YteancdipmpmjpaaMD1
import Derived.Test.YteancdipmpmjpaaMD4
import Derived.OpenShut
set_option linter.all false
set_option linter.unusedSimpArgs false
set_option linter.unusedVariables false
namespace Go.Proofs.Yteancdipmpmjpaa
open Go.RowKit
attribute [local irreducible] wpHeld wpTree wpList
set_option linter.unusedVariables false
def over18 (b p : Int) : Bool := decide (p < 0) || decide (40 < p) || decide (1099511627776 / 2 ^ p.toNat < b)
theorem Over18_any (b S p : Int) (w : World) :
    Calls Try.prog 26 #[.agg #[.int .i64 b, .int .i64 S], .int .i64 p] w fun e w' => e = .returned (.bool (over18 b p)) ∧ Below w.heap.size w w' := by
  have K := St.start w
  by_cases h1 : p < 0
  · have t1 : decide (p < 0) = true := decide_eq_true h1
    have E : over18 b p = true := by unfold over18; rw [t1]; rfl
    rw [E]
    go_enter Try.func26, Try.ntmps26
    go_wp2_with (first|((first|((with_reducible refine at_box ?_);refine wm_box K rfl _ _ rfl rfl rfl ?_));(try clear K);(try clear ww);((fail_if_success (have _h := b2));intro b2 ww K);(try simp [go_sem, Value.cells] at K)))
    refine wm_held _ [(true, 0), (true, 1), (true, 2), (true, 3), (true, 4), (true, 5), (true, 6), (true, 7), (true, 8), (true, 9), (true, 10), (true, 11), (true, 12), (true, 13)] K sbr (by kernel_rfl) (by kernel_rfl) ?_; (try clear K); (try clear ww); intro ww K; (try simp [go_sem] at K); simp only [pick, List.getElem?_toArray, List.getElem?_cons_succ, List.getElem?_cons_zero]
    repeat (first|(refine held_take (fun K' hK' => ?_);go_simp;first|(refine hK' _ ?_;clear hK' K')|(apply Exists.intro;refine ⟨?_, hK' _ ?_⟩;(intro _ _;rfl);clear hK' K')))
    refine held_nil ?_
    go_wp2_with fail
    go_ret
    exact ⟨rfl, K.below⟩
  · have t1 : decide (p < 0) = false := decide_eq_false h1
    by_cases h2 : 40 < p
    · have t2 : decide (40 < p) = true := decide_eq_true h2
      have E : over18 b p = true := by unfold over18; rw [t1, t2]; rfl
      rw [E]
      go_enter Try.func26, Try.ntmps26
      go_wp2_with (first|((first|((with_reducible refine at_box ?_);refine wm_box K rfl _ _ rfl rfl rfl ?_));(try clear K);(try clear ww);((fail_if_success (have _h := b2));intro b2 ww K);(try simp [go_sem, Value.cells] at K)))
      refine wm_held _ [(true, 0), (true, 1), (true, 2), (true, 3), (true, 4), (true, 5), (true, 6), (true, 7), (true, 8), (true, 9), (true, 10), (true, 11), (true, 12), (true, 13)] K sbr (by kernel_rfl) (by kernel_rfl) ?_; (try clear K); (try clear ww); intro ww K; (try simp [go_sem] at K); simp only [pick, List.getElem?_toArray, List.getElem?_cons_succ, List.getElem?_cons_zero]
      repeat (first|(refine held_take (fun K' hK' => ?_);go_simp;first|(refine hK' _ ?_;clear hK' K')|(apply Exists.intro;refine ⟨?_, hK' _ ?_⟩;(intro _ _;rfl);clear hK' K')))
      refine held_nil ?_
      go_wp2_with fail
      go_ret
      exact ⟨rfl, K.below⟩
    · have t2 : decide (40 < p) = false := decide_eq_false h2
      obtain ⟨n, rfl⟩ : ∃ n : Nat, p = n := ⟨p.toNat, by omega⟩
      have hn : n ≤ 40 := by omega
      have E : over18 b n = decide (1099511627776 / 2 ^ n < b) := by unfold over18; rw [t1, t2]; rfl
      rw [E]
      have m1 : min n 64 = n := by omega
      have h3 : (1 : Int) ≤ 2 ^ n := by have := Nat.one_le_two_pow (n := n); exact_mod_cast this
      have f1 : IntKind.i64.wrap ((1099511627776 : Int) / 2 ^ n) = 1099511627776 / 2 ^ n := IntWalk.i64_in _ (by
        have a1 := Int.ediv_nonneg (a := 1099511627776) (b := 2 ^ n) (by decide) (by omega)
        have a2 := Int.ediv_le_self (a := 1099511627776) (2 ^ n) (by decide)
        omega)
      clear h1 h2 h3 E
      go_enter Try.func26, Try.ntmps26
      go_wp2_with (first|((first|((with_reducible refine at_box ?_);refine wm_box K rfl _ _ rfl rfl rfl ?_));(try clear K);(try clear ww);((fail_if_success (have _h := b2));intro b2 ww K);(try simp [go_sem, Value.cells] at K)))
      refine wm_held _ [(true, 0), (true, 1), (true, 2), (true, 3), (true, 4), (true, 5), (true, 6), (true, 7), (true, 8), (true, 9), (true, 10), (true, 11), (true, 12), (true, 13)] K sbr (by kernel_rfl) (by kernel_rfl) ?_; (try clear K); (try clear ww); intro ww K; (try simp [go_sem] at K); simp only [pick, List.getElem?_toArray, List.getElem?_cons_succ, List.getElem?_cons_zero]
      repeat (first|((with_reducible refine ht_load ?_);first|(refine hm_own (cs := ?_) (t := ?_) (v := ?_) rfl _ _ rfl rfl ?_ ?_ ?_ ?_;rotate_left 2;(repeat (exact At.hd));rotate_left;(exact rfl);(with_reducible first|exact one2)))|(refine held_take (fun K' hK' => ?_);go_simp;first|(apply Exists.intro;refine ⟨?_, hK' _ ?_⟩;(intro _ _;rfl);clear hK' K')))
      refine held_nil ?_
      go_wp2_with fail
      go_ret
      exact ⟨rfl, K.below⟩
theorem guardBook (x y : Operand) (xs ys : Array Value) (w : World) : (eqGuard .neq 35 x y (.agg xs) (.agg ys)).run Try.prog w = .ok () w :=
  run_eqGuard_agg w .neq 35 x y xs ys (by kernel_rfl)
theorem eqBook (a b c d : Int) (w : World) : (Op.equalIn 10000 35 (.agg #[.int .i64 a, .int .i64 b]) (.agg #[.int .i64 c, .int .i64 d])).run Try.prog w = .ok (sameL [.int .i64 a, .int .i64 b] [.int .i64 c, .int .i64 d]) w :=
  equal_flat [some .i64, some .i64] (by kernel_rfl) (by kernel_rfl) (by kernel_rfl) [.int .i64 a, .int .i64 b] [.int .i64 c, .int .i64 d] ⟨⟨_, rfl⟩, ⟨_, rfl⟩, trivial⟩ ⟨⟨_, rfl⟩, ⟨_, rfl⟩, trivial⟩ w
set_option maxRecDepth 100000 in
set_option maxHeartbeats 8000000 in
theorem works18_any (w : World) :
    Calls Try.prog 19 #[] w fun e w' => e = .returned (.bool true) ∧ Below w.heap.size w w' := by
  have K := St.start w
  have c1 : Hid (∀ w, Calls Try.prog 17 #[.int .i64 64] w fun e w' => e = .returned (.int .i64 65537) ∧ Below w.heap.size w w') := Lib.hid (fun w => by
    have h := Cost18_any 64 w (by decide) (by decide)
    rwa [show cost18 64 = 65537 by decide +kernel] at h)
  have c2 : Hid (∀ w, Calls Try.prog 17 #[.int .i64 4] w fun e w' => e = .returned (.int .i64 4097) ∧ Below w.heap.size w w') := Lib.hid (fun w => by
    have h := Cost18_any 4 w (by decide) (by decide)
    rwa [show cost18 4 = 4097 by decide +kernel] at h)
  have s1 : Hid (∀ w, Calls Try.prog 20 #[.agg #[.int .i64 0, .int .i64 0], .int .i64 64] w fun e w' => e = .returned (.agg #[.int .i64 196611, .int .i64 1]) ∧ Below w.heap.size w w') := Lib.hid (fun w => by
    have h := Spread18_any 0 0 64 w (by decide) (by decide) (by decide) (by decide) (by decide) (by decide)
    rwa [show plus18 0 (3 * cost18 64) = 196611 by decide +kernel, show (0 : Int) + 1 = 1 from rfl] at h)
  have o0 := Lib.hid (fun w => OfS 35184372088832 w (by decide) (by decide))
  have w1 : Hid (∀ w, Calls Try.prog 21 #[.agg #[.int .i64 196611, .int .i64 1], .int .i64 64, .int .i64 65536, .int .i64 1073741824, .agg #[.int .i64 0, .int .u64 35184372088832]] w fun e w' => e = .returned (.agg #[.int .i64 458759, .int .i64 2]) ∧ Below w.heap.size w w') := Lib.hid (fun w => by
    have h := Weigh18_any 196611 1 64 65536 1073741824 35184372088832 w (by decide) (by decide) (by decide) (by decide) (by decide) (by decide) (by decide) (by decide) (by decide) (by decide) (by decide) (by decide)
    rwa [show plus18 (scal18 196611 65536 1073741824 35184372088832) (cost18 64) = 458759 by decide +kernel, show (1 : Int) + 1 = 2 from rfl] at h)
  have j1 : Hid (∀ w, Calls Try.prog 24 #[.agg #[.int .i64 458759, .int .i64 2], .int .i64 64] w fun e w' => e = .returned (.agg #[.int .i64 524296, .int .i64 3]) ∧ Below w.heap.size w w') := Lib.hid (fun w => by
    have h := Join18_any 458759 2 64 w (by decide) (by decide) (by decide) (by decide) (by decide) (by decide)
    rwa [show plus18 458759 (cost18 64) = 524296 by decide +kernel, show (2 : Int) + 1 = 3 from rfl] at h)
  have o1 : Hid (∀ w, Calls Try.prog 26 #[.agg #[.int .i64 524296, .int .i64 3], .int .i64 20] w fun e w' => e = .returned (.bool false) ∧ Below w.heap.size w w') := Lib.hid (fun w => by
    have h := Over18_any 524296 3 20 w
    rwa [show over18 524296 20 = false by decide +kernel] at h)
  have o2 : Hid (∀ w, Calls Try.prog 26 #[.agg #[.int .i64 524296, .int .i64 3], .int .i64 30] w fun e w' => e = .returned (.bool true) ∧ Below w.heap.size w w') := Lib.hid (fun w => by
    have h := Over18_any 524296 3 30 w
    rwa [show over18 524296 30 = true by decide +kernel] at h)
  have p1 : Hid (∀ w, Calls Try.prog 23 #[.agg #[.int .i64 1099511627776, .int .i64 0], .int .i64 4] w fun e w' => e = .returned (.agg #[.int .i64 1099511627776, .int .i64 1]) ∧ Below w.heap.size w w') := Lib.hid (fun w => by
    have h := Split18_any 1099511627776 0 4 w (by decide) (by decide) (by decide) (by decide) (by decide) (by decide)
    rwa [show plus18 1099511627776 (2 * cost18 4) = 1099511627776 by decide +kernel, show (0 : Int) + 1 = 1 from rfl] at h)
  have k1 : Hid (∀ w, Calls Try.prog 22 #[.agg #[.int .i64 0, .int .i64 0], .int .i64 4, .int .i64 4, .int .i64 2] w fun e w' => e = .returned (.agg #[.int .i64 4097, .int .i64 1]) ∧ Below w.heap.size w w') := Lib.hid (fun w => by
    have h := Cut18_any 0 0 4 4 2 w (by decide) (by decide) (by decide) (by decide) (by decide) (by decide) (by decide) (by decide) (by decide) (by decide)
    rwa [show plus18 (scal18 0 1 4 2) (cost18 4) = 4097 by decide +kernel, show (0 : Int) + 1 = 1 from rfl] at h)
  have d1 : Hid (∀ w, Calls Try.prog 14 #[.int .i64 5, .int .i64 1, .int .i64 1, .agg #[.int .i64 0, .int .u64 0]] w fun e w' => e = .returned (.int .i64 1099511627776) ∧ Below w.heap.size w w') := Lib.hid (fun w => by
    have h := Scaled18_any 5 1 1 0 w (by decide) (by decide) (by decide) (by decide) (by decide) (by decide) (by decide) (by decide)
    rwa [show scal18 5 1 1 0 = 1099511627776 by decide +kernel] at h)
  have eg := fun x y xs ys w => guardBook x y xs ys w
  have q1 : ∀ w, (Instr.field 35 (.agg #[.int .i64 1099511627776, .int .i64 1]) 0).run Try.prog w = .ok (.int .i64 1099511627776) w := fun w => by kernel_rfl
  have q2 : ∀ w, (Instr.field 35 (.agg #[.int .i64 4097, .int .i64 1]) 0).run Try.prog w = .ok (.int .i64 4097) w := fun w => by kernel_rfl
  have eq1 : ∀ w, (Op.equalIn 10000 35 (.agg #[.int .i64 524296, .int .i64 3]) (.agg #[.int .i64 196611, .int .i64 1])).run Try.prog w = .ok false w := fun w => by
    rw [eqBook]
    rfl
  go_enter Try.func19, Try.ntmps19
  go_wp2_with (first|((with_reducible refine at_load ?_);first|(refine wm_load (cs := ?_) (t := ?_) (n := ?_) K rfl _ _ rfl rfl ?_ ?_ ?_ ?_;rotate_left 2;(repeat (exact At.hd));rotate_left;(with_reducible first|exact row35);(exact rfl)))|((with_reducible refine at_store ?_);(first|(refine wm_store (L' := ?_) (cs := ?_) (t := ?_) (n := ?_) K rfl _ _ _ rfl rfl rfl rfl ?_ ?_ ?_ ?_ ?_ ?_;rotate_left 3;(repeat (exact Put.hd));rotate_left;(with_reducible first|exact row35);(exact rfl);(exact rfl);(simp [Ones, Value.oneCell'])));(try clear K);(try clear ww);intro ww K;(try simp [go_sem] at K))|((first|((with_reducible refine at_alloc ?_);refine wm_alloc (v := ?_) (cs := ?_) K rfl _ rfl ?_ ?_ ?_;rotate_left;(with_reducible first|exact zero35);rotate_left;exact rfl));(try clear K);(try clear ww);(first|((fail_if_success (have _h := b1));intro b1 ww K)|((fail_if_success (have _h := b2));intro b2 ww K));(try simp [go_sem, Value.cells] at K))|(go_at_call 20;(with_reducible refine (s1.out _).mono ?_);rintro e w2 ⟨rfl, k1⟩;replace K := K.step k1;clear k1;(try clear ww);revert w2;intro ww K))
  (try simp only [Act.put, List.setIfInBounds_toArray, List.set_cons_zero, List.set_cons_succ])
  go_cut [3] from 8 to 10 (fun p3 wc => ∃ b3 : Nat, p3 = .pointer (some ⟨b3, 0, none⟩) ∧ St w.heap.size w [(b3, #[.int .i64 458759, .int .i64 2], 35), (b2, #[.int .i64 196611, .int .i64 1], 35), (b1, #[.int .i64 0, .int .i64 0], 35)] Any wc)
  case first =>
    refine wm_tree _ (.take 0 (.alt 1 (.alt 2 (.alt 3 (.alt 4 .done .stop) .stop) (.alt 3 (.alt 2 (.alt 4 .done .stop) .stop) .stop)) (.alt 3 (.alt 1 (.alt 2 (.alt 4 .done .stop) .stop) .stop) .stop))) K sbr (by kernel_rfl) (by kernel_rfl) ?_; (try clear K); (try clear ww); intro ww K; (try simp [go_sem] at K)
    repeat' (first|exact tree_stop|(refine tm_load (cs := ?_) (t0 := ?_) (n := ?_) rfl rfl _ _ rfl rfl ?_ ?_ ?_ ?_;rotate_left 2;(repeat (exact At.hd));rotate_left;(with_reducible first|exact row35);(exact rfl))|(refine tree_alt (fun K' hK' => ?_) ?_;simp only [opAt, List.getElem?_toArray, List.getElem?_cons_succ, List.getElem?_cons_zero, Option.getD_some];go_simp;go_at_call 15;(with_reducible refine (o0.out _).mono ?_);rintro e w2 ⟨rfl, k1⟩;replace K := K.step k1;clear k1;(try clear ww);revert w2;intro ww K;(try dsimp only);refine hK' _ _ (by apply via sbr;first|exact K|exact K.tail) ?_;clear hK' K')|(refine tree_alt (fun K' hK' => ?_) ?_;simp only [opAt, List.getElem?_toArray, List.getElem?_cons_succ, List.getElem?_cons_zero, Option.getD_some];go_simp;go_at_call 21;(with_reducible refine (w1.out _).mono ?_);rintro e w2 ⟨rfl, k1⟩;replace K := K.step k1;clear k1;(try clear ww);revert w2;intro ww K;(try dsimp only);refine hK' _ _ (by apply via sbr;first|exact K|exact K.tail) ?_;clear hK' K')|(first|((fail_if_success (have _h := b3));refine tm_alloc (v := ?_) (cs := ?_) K rfl rfl _ rfl ?_ ?_ ?_ ?_;rotate_left;(with_reducible first|exact zero35);rotate_left;exact rfl;intro b3 ww2 K2;(try simp [go_sem, Value.cells] at K2);refine ⟨(by apply via sbr;first|exact K2.tail), ?_⟩;replace K := K2;clear K2;(try clear ww);revert ww2;intro ww K))|(refine tm_store (L' := ?_) (cs := ?_) (t0 := ?_) (n := ?_) K rfl rfl _ _ _ rfl rfl rfl rfl ?_ ?_ ?_ ?_ ?_ ?_ ?_;rotate_left 3;(repeat (exact Put.hd));rotate_left;(with_reducible first|exact row35);(exact rfl);(exact rfl);(simp [Ones, Value.oneCell']);intro ww2 K2;(try simp [go_sem] at K2);refine ⟨(by apply via sbr;first|exact K2.tail), ?_⟩;replace K := K2;clear K2;(try clear ww);revert ww2;intro ww K))
    all_goals refine tree_done ?_
    all_goals (try simp only [opAt, List.getElem?_toArray, List.getElem?_cons_succ, List.getElem?_cons_zero, Option.getD_some])
    all_goals (try go_simp)
    all_goals (try go_wp2_with (fail))
    all_goals (try go_meet)
    all_goals exact ⟨_, rfl, K⟩
  case rest =>
    clear K
    obtain ⟨b3, rfl, K⟩ := hcut
    revert wc
    intro ww K
    go_wp2_with (first|((with_reducible refine at_load ?_);first|(refine wm_load (cs := ?_) (t := ?_) (n := ?_) K rfl _ _ rfl rfl ?_ ?_ ?_ ?_;rotate_left 2;(repeat (first|exact At.hd|refine At.tl ?_));rotate_left;(with_reducible first|exact row35);(exact rfl))|(refine wm_own (cs := ?_) (t := ?_) (v := ?_) K rfl _ _ rfl rfl ?_ ?_ ?_ ?_;rotate_left 2;(repeat (first|exact At.hd|refine At.tl ?_));rotate_left;(exact rfl);(with_reducible first|exact one2|exact one3)))|((with_reducible refine at_store ?_);(first|(refine wm_store (L' := ?_) (cs := ?_) (t := ?_) (n := ?_) K rfl _ _ _ rfl rfl rfl rfl ?_ ?_ ?_ ?_ ?_ ?_;rotate_left 3;(repeat (exact Put.hd));rotate_left;(with_reducible first|exact row35);(exact rfl);(exact rfl);(simp [Ones, Value.oneCell'])));(try clear K);(try clear ww);intro ww K;(try simp [go_sem] at K))|((first|((with_reducible refine at_alloc ?_);refine wm_alloc (v := ?_) (cs := ?_) K rfl _ rfl ?_ ?_ ?_;rotate_left;(with_reducible first|exact zero35);rotate_left;exact rfl));(try clear K);(try clear ww);(first|((fail_if_success (have _h := b4));intro b4 ww K));(try simp [go_sem, Value.cells] at K))|(go_at_call 17;(with_reducible refine (c1.out _).mono ?_);rintro e w2 ⟨rfl, k1⟩;replace K := K.step k1;clear k1;(try clear ww);revert w2;intro ww K)|(go_at_call 17;(with_reducible refine (c2.out _).mono ?_);rintro e w2 ⟨rfl, k1⟩;replace K := K.step k1;clear k1;(try clear ww);revert w2;intro ww K)|(go_at_call 24;(with_reducible refine (j1.out _).mono ?_);rintro e w2 ⟨rfl, k1⟩;replace K := K.step k1;clear k1;(try clear ww);revert w2;intro ww K)|(go_at_call 26;(with_reducible refine (o1.out _).mono ?_);rintro e w2 ⟨rfl, k1⟩;replace K := K.step k1;clear k1;(try clear ww);revert w2;intro ww K)|(go_at_call 26;(with_reducible refine (o2.out _).mono ?_);rintro e w2 ⟨rfl, k1⟩;replace K := K.step k1;clear k1;(try clear ww);revert w2;intro ww K)|(go_at_call 23;(with_reducible refine (p1.out _).mono ?_);rintro e w2 ⟨rfl, k1⟩;replace K := K.step k1;clear k1;(try clear ww);revert w2;intro ww K)|(go_at_call 22;(with_reducible refine (k1.out _).mono ?_);rintro e w2 ⟨rfl, k1⟩;replace K := K.step k1;clear k1;(try clear ww);revert w2;intro ww K)|(go_at_call 14;(with_reducible refine (d1.out _).mono ?_);rintro e w2 ⟨rfl, k1⟩;replace K := K.step k1;clear k1;(try clear ww);revert w2;intro ww K))
    go_ret
    exact ⟨rfl, K.below⟩
end Go.Proofs.Yteancdipmpmjpaa
