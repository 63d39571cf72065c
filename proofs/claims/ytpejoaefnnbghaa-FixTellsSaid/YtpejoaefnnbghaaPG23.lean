/-
  Lemmas and walks of this claim (the texts Wx26 of the work; what no proof here uses is left out). No claim of their own.
-/
import Derived.Test.YtpejoaefnnbghaaPG22
import Derived.Test.YtpejoaefnnbghaaPG20
import Derived.Test.YtpejoaefnnbghaaPG18
import Derived.Test.YtpejoaefnnbghaaPG3
import Derived.Test.YtpejoaefnnbghaaPG7
import Derived.Test.YtpejoaefnnbghaaPG8
import Derived.Test.YtpejoaefnnbghaaPG1
import Derived.Test.YtpejoaefnnbghaaPG14
import Derived.Test.YtpejoaefnnbghaaPG17
import Derived.Test.YtpejoaefnnbghaaPG21
import Derived.Test.YtpejoaefnnbghaaPG19
import Derived.Lib.MinMax
import Derived.OpenShut
import Derived.Test.YtpejoaefnnbghaaProg
import Derived.Deep.QuietTactic
import Derived.BigQuiet
import Derived.Deep.Cut
import Derived.Deep.LoopGhost
import Derived.WalkLawsBesides
import Derived.WalkSpells
import Derived.Laws.StructEq
import Derived.Lib.RabinKarpLaws
set_option linter.all false
set_option linter.unusedSimpArgs false
set_option linter.unusedVariables false
namespace Go.Proofs.Ytpejoaefnnbghaa
open Go.RowKit
attribute [local irreducible] wpHeld wpTree wpList
set_option linter.unusedVariables false
theorem guardFrm (x y : Operand) (xs ys : Array Value) (w : World) : (eqGuard .eql 76 x y (.agg xs) (.agg ys)).run Try.prog w = .ok () w :=
  run_eqGuard_agg w .eql 76 x y xs ys (by kernel_rfl)
theorem guardFrmN (x y : Operand) (xs ys : Array Value) (w : World) : (eqGuard .neq 76 x y (.agg xs) (.agg ys)).run Try.prog w = .ok () w :=
  run_eqGuard_agg w .neq 76 x y xs ys (by kernel_rfl)
theorem eqFrm (a1 a2 a3 a4 a5 a6 b1 b2 b3 b4 b5 b6 : Int) (w : World) : (Op.equalIn 10000 76 (.agg #[.int .i64 a1, .int .u16 a2, .int .u32 a3, .int .i32 a4, .int .i32 a5, .int .i32 a6]) (.agg #[.int .i64 b1, .int .u16 b2, .int .u32 b3, .int .i32 b4, .int .i32 b5, .int .i32 b6])).run Try.prog w = .ok (sameL [.int .i64 a1, .int .u16 a2, .int .u32 a3, .int .i32 a4, .int .i32 a5, .int .i32 a6] [.int .i64 b1, .int .u16 b2, .int .u32 b3, .int .i32 b4, .int .i32 b5, .int .i32 b6]) w :=
  equal_flat [some .i64, some .u16, some .u32, some .i32, some .i32, some .i32] (by kernel_rfl) (by kernel_rfl) (by kernel_rfl) [.int .i64 a1, .int .u16 a2, .int .u32 a3, .int .i32 a4, .int .i32 a5, .int .i32 a6] [.int .i64 b1, .int .u16 b2, .int .u32 b3, .int .i32 b4, .int .i32 b5, .int .i32 b6] ⟨⟨_, rfl⟩, ⟨_, rfl⟩, ⟨_, rfl⟩, ⟨_, rfl⟩, ⟨_, rfl⟩, ⟨_, rfl⟩, trivial⟩ ⟨⟨_, rfl⟩, ⟨_, rfl⟩, ⟨_, rfl⟩, ⟨_, rfl⟩, ⟨_, rfl⟩, ⟨_, rfl⟩, trivial⟩ w
def zw26 : List Int := [536870912, 0, 536870912]
theorem zw26_gr : Gr 3 1 zw26 := ⟨by decide, by decide, by decide, by decide, rfl, by decide, by decide⟩
set_option maxRecDepth 100000 in
set_option maxHeartbeats 8000000 in
theorem works26_any (w : World) :
    Calls Try.prog 44 #[] w fun e w' => e = .returned (.bool true) ∧ Below w.heap.size w w' := by
  have K := St.start w
  have c1 : Hid (∀ (A : Option Addr) (c : Nat) (w : World), Rd w A 3 (ints .i64 [536870912, 0, 536870912]) → Calls Try.prog 47 #[.agg #[.int .i64 3, .int .i64 1, .int .i64 100, .int .i64 50, .int .i64 64, .slice A 3 c], .agg #[.int .i64 150, .int .i64 60], .int .u16 7, .int .u32 9] w fun e w' => e = .returned (.tuple #[.agg #[.int .i64 6, .int .u16 7, .int .u32 9, .int .i32 14, .int .i32 (-10), .int .i32 64], .bool true]) ∧ Below w.heap.size w w') := Lib.hid (fun A c w h => by
    have h := Correct26 3 1 1 100 50 64 150 60 7 9 A 3 c zw26 w zw26_gr rfl h (by decide) (by decide) (by decide) (by decide)
    rw [show 100 + mean15 (sm zw26 3 1 0) 64 (isum zw26) = 164 by decide +kernel, show 50 + mean15 (sm zw26 3 0 1) 64 (isum zw26) = 50 by decide +kernel, show sureN (xx15 zw26 3) (yy15 zw26 3) 64 = 64 by decide +kernel] at h
    rw [show corrV 164 50 ((64 : Nat) : Int) 150 60 7 9 = .tuple #[.agg #[.int .i64 6, .int .u16 7, .int .u32 9, .int .i32 14, .int .i32 (-10), .int .i32 64], .bool true] by kernel_rfl] at h
    exact h)
  have c2 : Hid (∀ (A : Option Addr) (c : Nat) (w : World), Rd w A 3 (ints .i64 [536870912, 0, 536870912]) → Calls Try.prog 47 #[.agg #[.int .i64 3, .int .i64 1, .int .i64 100, .int .i64 50, .int .i64 64, .slice A 3 c], .agg #[.int .i64 1099511627776, .int .i64 0], .int .u16 7, .int .u32 9] w fun e w' => e = .returned (.tuple #[.agg #[.int .i64 0, .int .u16 0, .int .u32 0, .int .i32 0, .int .i32 0, .int .i32 0], .bool false]) ∧ Below w.heap.size w w') := Lib.hid (fun A c w h => by
    have h := Correct26 3 1 1 100 50 64 1099511627776 0 7 9 A 3 c zw26 w zw26_gr rfl h (by decide) (by decide) (by decide) (by decide)
    rw [show 100 + mean15 (sm zw26 3 1 0) 64 (isum zw26) = 164 by decide +kernel, show 50 + mean15 (sm zw26 3 0 1) 64 (isum zw26) = 50 by decide +kernel, show sureN (xx15 zw26 3) (yy15 zw26 3) 64 = 64 by decide +kernel] at h
    rw [show corrV 164 50 ((64 : Nat) : Int) 1099511627776 0 7 9 = .tuple #[.agg #[.int .i64 0, .int .u16 0, .int .u32 0, .int .i32 0, .int .i32 0, .int .i32 0], .bool false] by kernel_rfl] at h
    exact h)
  have c3 : Hid (∀ (A : Option Addr) (c : Nat) (w : World), Rd w A 3 (ints .i64 [536870912, 0, 536870912]) → Calls Try.prog 45 #[.agg #[.int .i64 3, .int .i64 1, .int .i64 100, .int .i64 50, .int .i64 64, .slice A 3 c]] w fun e w' => e = .returned (.tuple #[.int .i64 64, .bool true]) ∧ Below w.heap.size w w') := Lib.hid (fun A c w h => by
    have h := Sure26 3 1 1 100 50 64 A 3 c zw26 w zw26_gr rfl h (by decide) (by decide)
    rw [show sureN (xx15 zw26 3) (yy15 zw26 3) 64 = 64 by decide +kernel] at h
    exact h)
  have c4 : Hid (∀ w : World, Calls Try.prog 51 #[.agg #[.int .i64 150, .int .i64 60], .agg #[.int .i64 6, .int .u16 7, .int .u32 9, .int .i32 14, .int .i32 (-10), .int .i32 64]] w fun e w' => e = .returned (.tuple #[.agg #[.int .i64 164, .int .i64 50], .bool true]) ∧ Below w.heap.size w w') := Lib.hid (fun w => by
    have h := Apply26 150 60 6 7 9 14 (-10) 64 w (by decide) (by decide)
    rw [show applV 150 60 6 14 (-10) = .tuple #[.agg #[.int .i64 164, .int .i64 50], .bool true] by kernel_rfl] at h
    exact h)
  have c5 := Lib.hid (fun w => Tell26 3 3 8 1 2 w (by rfl))
  have c6 : Hid (∀ w : World, Calls Try.prog 53 #[.bool true, .bool false, .bool true, .bool false, .bool false] w fun e w' => e = .returned (.int .i32 5) ∧ Below w.heap.size w w') := Lib.hid (fun w => Flags26 true false true false false w)
  have c7 : Hid (∀ w : World, Calls Try.prog 55 #[.int .i64 2, .int .i32 0] w fun e w' => e = .returned (.bool true) ∧ Below w.heap.size w w') := Lib.hid (fun w => Valid26 2 0 w)
  have c8 : Hid (∀ w : World, Calls Try.prog 55 #[.int .i64 3, .int .i32 0] w fun e w' => e = .returned (.bool false) ∧ Below w.heap.size w w') := Lib.hid (fun w => Valid26 3 0 w)
  have c9 : Hid (∀ w : World, Calls Try.prog 55 #[.int .i64 2, .int .i32 1] w fun e w' => e = .returned (.bool false) ∧ Below w.heap.size w w') := Lib.hid (fun w => Valid26 2 1 w)
  have eg1 := fun x y xs ys w => guardFrm x y xs ys w
  have eg2 := fun x y xs ys w => guardSpot x y xs ys w
  have eq1 : ∀ w, (Op.equalIn 10000 76 (.agg #[.int .i64 6, .int .u16 7, .int .u32 9, .int .i32 14, .int .i32 (-10), .int .i32 64]) (.agg #[.int .i64 6, .int .u16 7, .int .u32 9, .int .i32 14, .int .i32 (-10), .int .i32 64])).run Try.prog w = .ok true w := fun w => by
    rw [eqFrm]
    rfl
  have eq2 : ∀ w, (Op.equalIn 10000 29 (.agg #[.int .i64 164, .int .i64 50]) (.agg #[.int .i64 164, .int .i64 50])).run Try.prog w = .ok true w := fun w => by
    rw [eqSpot]
    rfl
  go_enter Try.func44, Try.ntmps44
  go_wp2_with (first|go_big_skip|((with_reducible refine at_load ?_);first|(refine wm_load (cs := ?_) (t := ?_) (n := ?_) K rfl _ _ rfl rfl ?_ ?_ ?_ ?_;rotate_left 2;(repeat (first|exact At.hd|refine At.tl ?_));rotate_left;(with_reducible first|exact row26|exact row29|exact row76);(solve|exact rfl|simp))|(refine wm_own (cs := ?_) (t := ?_) (v := ?_) K rfl _ _ rfl rfl ?_ ?_ ?_ ?_;rotate_left 2;(repeat (first|exact At.hd|refine At.tl ?_));rotate_left;(first|exact rfl|assumption);(with_reducible first|exact one3|exact one21))|(refine wm_cell (v := ?_) rfl _ _ rfl rfl ?_ ?_ ?_;rotate_left;(first|assumption|exact (K.below.cell (by assumption)).trans (by assumption));(with_reducible first|exact one3|exact one21)))|((with_reducible refine at_store ?_);(first|(refine wm_store (L' := ?_) (cs := ?_) (t := ?_) (n := ?_) K rfl _ _ _ rfl rfl rfl rfl ?_ ?_ ?_ ?_ ?_ ?_;rotate_left 3;(repeat (first|exact Put.hd|(refine Put.tl (L' := ?_) ?_;rotate_left)));rotate_left;(with_reducible first|exact row26|exact row29|exact row76);(solve|exact rfl|simp);(solve|exact rfl|simp);(solve|exact rfl|simp [Ones, Value.oneCell']))|(refine wm_put (L' := ?_) (cs := ?_) (new := ?_) (t := ?_) K rfl _ _ _ rfl rfl rfl rfl ?_ ?_ ?_ ?_ rfl rfl ?_;rotate_left 4;(repeat (first|exact Put.hd|(refine Put.tl (L' := ?_) ?_;rotate_left)));(solve|exact Nat.le_of_ble_eq_true rfl|decide|(simp only [List.size_toArray, nums_length];first|assumption|omega)|(simp only [List.size_toArray, nums_length, List.length_set];first|assumption|omega)|simp|omega|(simp only [List.size_toArray, nums_length];omega)|assumption);(solve|(simp only [List.setIfInBounds_toArray];exact rfl)|exact nums_set _ _ _ _|simp only [List.setIfInBounds_toArray, List.set_cons_zero]|simp only [List.setIfInBounds_toArray, List.set_cons_zero, List.set_cons_succ]|(simp only [List.setIfInBounds_toArray, List.set_cons_zero, List.set_cons_succ];exact rfl)|exact rfl);(with_reducible first|exact one3|exact one21)));(try clear K);(try clear ww);intro ww K;(try simp [go_sem] at K))|((first|((with_reducible refine at_box ?_);refine wm_box K rfl _ _ rfl rfl rfl ?_)|((with_reducible refine at_alloc ?_);refine wm_alloc (v := ?_) (cs := ?_) K rfl _ rfl ?_ ?_ ?_;rotate_left;(with_reducible first|exact zero26|exact zero29|exact zero76);rotate_left;exact rfl));(try clear K);(try clear ww);(first|((fail_if_success (have _h := b1));intro b1 ww K)|((fail_if_success (have _h := b2));intro b2 ww K)|((fail_if_success (have _h := b6));intro b6 ww K)|((fail_if_success (have _h := b8));intro b8 ww K)|((fail_if_success (have _h := b10));intro b10 ww K));(try simp [go_sem, Value.cells] at K))|((with_reducible refine at_bsl4 ?_);refine wm_ints4 K rfl _ _ _ rfl Try.underlying24 [536870912, 0, 536870912] num2 rfl rfl (by decide) ?_;(try clear K);(try clear ww);intro bi1 ww K)|(go_at_call 47;(with_reducible refine (c1.out _ _ _ (by first|exact K.fact.1.1|exact K.fact.2.1.1|exact K.fact.2.2.1.1|exact K.fact.2.2.2.1.1|exact K.fact.2.2.2.2.1.1|exact K.fact.2.2.2.2.2.1.1|exact K.fact.2.2.2.2.2.2.1.1|exact K.fact.2.2.2.2.2.2.2.1.1|exact K.fact.2.2.2.2.2.2.2.2.1.1|exact K.fact.2.2.2.2.2.2.2.2.2.1.1|exact K.fact.2.2.2.2.2.2.2.2.2.2.1.1|exact K.fact.2.2.2.2.2.2.2.2.2.2.2.1.1|exact K.fact.1|exact K.fact.2.1|exact K.fact.2.2.1|exact K.fact.2.2.2.1|exact K.fact.2.2.2.2.1|exact K.fact.2.2.2.2.2.1|exact K.fact.2.2.2.2.2.2.1|exact K.fact.2.2.2.2.2.2.2.1|exact K.fact.2.2.2.2.2.2.2.2.1|exact K.fact.2.2.2.2.2.2.2.2.2.1|exact K.fact.2.2.2.2.2.2.2.2.2.2.1|exact K.fact.2.2.2.2.2.2.2.2.2.2.2.1|exact K.fact|exact K.fact.2|exact K.fact.2.2|exact K.fact.2.2.2|exact K.fact.2.2.2.2|exact K.fact.2.2.2.2.2|exact K.fact.2.2.2.2.2.2|exact K.fact.2.2.2.2.2.2.2|exact K.fact.2.2.2.2.2.2.2.2|exact K.fact.2.2.2.2.2.2.2.2.2|exact K.fact.2.2.2.2.2.2.2.2.2.2|exact K.fact.2.2.2.2.2.2.2.2.2.2.2)).mono ?_);rintro e w2 ⟨rfl, k1⟩;replace K := K.step k1;clear k1;(try clear ww);revert w2;intro ww K)|(go_at_call 47;(with_reducible refine (c2.out _ _ _ (by first|exact K.fact.1.1|exact K.fact.2.1.1|exact K.fact.2.2.1.1|exact K.fact.2.2.2.1.1|exact K.fact.2.2.2.2.1.1|exact K.fact.2.2.2.2.2.1.1|exact K.fact.2.2.2.2.2.2.1.1|exact K.fact.2.2.2.2.2.2.2.1.1|exact K.fact.2.2.2.2.2.2.2.2.1.1|exact K.fact.2.2.2.2.2.2.2.2.2.1.1|exact K.fact.2.2.2.2.2.2.2.2.2.2.1.1|exact K.fact.2.2.2.2.2.2.2.2.2.2.2.1.1|exact K.fact.1|exact K.fact.2.1|exact K.fact.2.2.1|exact K.fact.2.2.2.1|exact K.fact.2.2.2.2.1|exact K.fact.2.2.2.2.2.1|exact K.fact.2.2.2.2.2.2.1|exact K.fact.2.2.2.2.2.2.2.1|exact K.fact.2.2.2.2.2.2.2.2.1|exact K.fact.2.2.2.2.2.2.2.2.2.1|exact K.fact.2.2.2.2.2.2.2.2.2.2.1|exact K.fact.2.2.2.2.2.2.2.2.2.2.2.1|exact K.fact|exact K.fact.2|exact K.fact.2.2|exact K.fact.2.2.2|exact K.fact.2.2.2.2|exact K.fact.2.2.2.2.2|exact K.fact.2.2.2.2.2.2|exact K.fact.2.2.2.2.2.2.2|exact K.fact.2.2.2.2.2.2.2.2|exact K.fact.2.2.2.2.2.2.2.2.2|exact K.fact.2.2.2.2.2.2.2.2.2.2|exact K.fact.2.2.2.2.2.2.2.2.2.2.2)).mono ?_);rintro e w2 ⟨rfl, k1⟩;replace K := K.step k1;clear k1;(try clear ww);revert w2;intro ww K)|(go_at_call 45;(with_reducible refine (c3.out _ _ _ (by first|exact K.fact.1.1|exact K.fact.2.1.1|exact K.fact.2.2.1.1|exact K.fact.2.2.2.1.1|exact K.fact.2.2.2.2.1.1|exact K.fact.2.2.2.2.2.1.1|exact K.fact.2.2.2.2.2.2.1.1|exact K.fact.2.2.2.2.2.2.2.1.1|exact K.fact.2.2.2.2.2.2.2.2.1.1|exact K.fact.2.2.2.2.2.2.2.2.2.1.1|exact K.fact.2.2.2.2.2.2.2.2.2.2.1.1|exact K.fact.2.2.2.2.2.2.2.2.2.2.2.1.1|exact K.fact.1|exact K.fact.2.1|exact K.fact.2.2.1|exact K.fact.2.2.2.1|exact K.fact.2.2.2.2.1|exact K.fact.2.2.2.2.2.1|exact K.fact.2.2.2.2.2.2.1|exact K.fact.2.2.2.2.2.2.2.1|exact K.fact.2.2.2.2.2.2.2.2.1|exact K.fact.2.2.2.2.2.2.2.2.2.1|exact K.fact.2.2.2.2.2.2.2.2.2.2.1|exact K.fact.2.2.2.2.2.2.2.2.2.2.2.1|exact K.fact|exact K.fact.2|exact K.fact.2.2|exact K.fact.2.2.2|exact K.fact.2.2.2.2|exact K.fact.2.2.2.2.2|exact K.fact.2.2.2.2.2.2|exact K.fact.2.2.2.2.2.2.2|exact K.fact.2.2.2.2.2.2.2.2|exact K.fact.2.2.2.2.2.2.2.2.2|exact K.fact.2.2.2.2.2.2.2.2.2.2|exact K.fact.2.2.2.2.2.2.2.2.2.2.2)).mono ?_);rintro e w2 ⟨rfl, k1⟩;replace K := K.step k1;clear k1;(try clear ww);revert w2;intro ww K)|(go_at_call 51;(with_reducible refine (c4.out _).mono ?_);rintro e w2 ⟨rfl, k1⟩;replace K := K.step k1;clear k1;(try clear ww);revert w2;intro ww K)|(go_at_call 52;(with_reducible refine (c5.out _).mono ?_);rintro e w2 ⟨rfl, k1⟩;replace K := K.step k1;clear k1;(try clear ww);revert w2;intro ww K)|(go_at_call 53;(with_reducible refine (c6.out _).mono ?_);rintro e w2 ⟨rfl, k1⟩;replace K := K.step k1;clear k1;(try clear ww);revert w2;intro ww K)|(go_at_call 55;(with_reducible refine (c7.out _).mono ?_);rintro e w2 ⟨rfl, k1⟩;replace K := K.step k1;clear k1;(try clear ww);revert w2;intro ww K)|(go_at_call 55;(with_reducible refine (c8.out _).mono ?_);rintro e w2 ⟨rfl, k1⟩;replace K := K.step k1;clear k1;(try clear ww);revert w2;intro ww K)|(go_at_call 55;(with_reducible refine (c9.out _).mono ?_);rintro e w2 ⟨rfl, k1⟩;replace K := K.step k1;clear k1;(try clear ww);revert w2;intro ww K))
  go_ret
  exact ⟨rfl, K.below⟩
end Go.Proofs.Ytpejoaefnnbghaa
