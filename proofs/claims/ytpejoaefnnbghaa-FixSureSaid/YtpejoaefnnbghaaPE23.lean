/-
  Lemmas and walks of this claim (the texts Wx26 La15 La26 of the work; what no proof here uses is left out). No claim of their own.
-/
import Derived.Test.YtpejoaefnnbghaaPE22
import Derived.Test.YtpejoaefnnbghaaPE20
import Derived.Test.YtpejoaefnnbghaaPE17
import Derived.Test.YtpejoaefnnbghaaPE3
import Derived.Test.YtpejoaefnnbghaaPE7
import Derived.Test.YtpejoaefnnbghaaPE8
import Derived.Test.YtpejoaefnnbghaaPE1
import Derived.Test.YtpejoaefnnbghaaPE13
import Derived.Test.YtpejoaefnnbghaaPE16
import Derived.Test.YtpejoaefnnbghaaPE21
import Derived.Test.YtpejoaefnnbghaaPE19
import Derived.Lib.MinMax
import Derived.OpenShut
import Derived.Test.YtpejoaefnnbghaaProg
import Derived.Deep.QuietTactic
import Derived.BigQuiet
import Derived.Deep.Cut
import Derived.Deep.LoopGhost
import Derived.WalkLawsBesides
import Derived.WalkSpells
import Derived.Laws.StructEq
import Derived.Lib.RabinKarpLaws
import Derived.Test.YtpejoaefnnbghaaPE18
set_option linter.all false
set_option linter.unusedSimpArgs false
set_option linter.unusedVariables false
namespace Go.Proofs.Ytpejoaefnnbghaa
open Go.RowKit
attribute [local irreducible] wpHeld wpTree wpList
set_option linter.unusedVariables false
theorem guardFrm (x y : Operand) (xs ys : Array Value) (w : World) : (eqGuard .eql 76 x y (.agg xs) (.agg ys)).run Try.prog w = .ok () w :=
  run_eqGuard_agg w .eql 76 x y xs ys (by kernel_rfl)
theorem eqFrm (a1 a2 a3 a4 a5 a6 b1 b2 b3 b4 b5 b6 : Int) (w : World) : (Op.equalIn 10000 76 (.agg #[.int .i64 a1, .int .u16 a2, .int .u32 a3, .int .i32 a4, .int .i32 a5, .int .i32 a6]) (.agg #[.int .i64 b1, .int .u16 b2, .int .u32 b3, .int .i32 b4, .int .i32 b5, .int .i32 b6])).run Try.prog w = .ok (sameL [.int .i64 a1, .int .u16 a2, .int .u32 a3, .int .i32 a4, .int .i32 a5, .int .i32 a6] [.int .i64 b1, .int .u16 b2, .int .u32 b3, .int .i32 b4, .int .i32 b5, .int .i32 b6]) w :=
  equal_flat [some .i64, some .u16, some .u32, some .i32, some .i32, some .i32] (by kernel_rfl) (by kernel_rfl) (by kernel_rfl) [.int .i64 a1, .int .u16 a2, .int .u32 a3, .int .i32 a4, .int .i32 a5, .int .i32 a6] [.int .i64 b1, .int .u16 b2, .int .u32 b3, .int .i32 b4, .int .i32 b5, .int .i32 b6] ⟨⟨_, rfl⟩, ⟨_, rfl⟩, ⟨_, rfl⟩, ⟨_, rfl⟩, ⟨_, rfl⟩, ⟨_, rfl⟩, trivial⟩ ⟨⟨_, rfl⟩, ⟨_, rfl⟩, ⟨_, rfl⟩, ⟨_, rfl⟩, ⟨_, rfl⟩, ⟨_, rfl⟩, trivial⟩ w
def zw26 : List Int := [536870912, 0, 536870912]
theorem zw26_gr : Gr 3 1 zw26 := ⟨by decide, by decide, by decide, by decide, rfl, by decide, by decide⟩
set_option maxRecDepth 100000 in
set_option maxHeartbeats 8000000 in
theorem works26_any (w : World) :
    Calls Try.prog 44 #[] w fun e w' => e = .returned (.bool true) ∧ Below w.heap.size w w' := by
  have K := St.start w
  have c1 : Hid (∀ (A : Option Addr) (c : Nat) (w : World), Rd w A 3 (ints .i64 [536870912, 0, 536870912]) → Calls Try.prog 47 #[.agg #[.int .i64 3, .int .i64 1, .int .i64 100, .int .i64 50, .int .i64 64, .slice A 3 c], .agg #[.int .i64 150, .int .i64 60], .int .u16 7, .int .u32 9] w fun e w' => e = .returned (.tuple #[.agg #[.int .i64 6, .int .u16 7, .int .u32 9, .int .i32 14, .int .i32 (-10), .int .i32 64], .bool true]) ∧ Below w.heap.size w w') := Lib.hid (fun A c w h => by
    have h := Correct26 3 1 1 100 50 64 150 60 7 9 A 3 c zw26 w zw26_gr rfl h (by decide) (by decide) (by decide) (by decide)
    rw [show 100 + mean15 (sm zw26 3 1 0) 64 (isum zw26) = 164 by decide +kernel, show 50 + mean15 (sm zw26 3 0 1) 64 (isum zw26) = 50 by decide +kernel, show sureN (xx15 zw26 3) (yy15 zw26 3) 64 = 64 by decide +kernel] at h
    rw [show corrV 164 50 ((64 : Nat) : Int) 150 60 7 9 = .tuple #[.agg #[.int .i64 6, .int .u16 7, .int .u32 9, .int .i32 14, .int .i32 (-10), .int .i32 64], .bool true] by kernel_rfl] at h
    exact h)
  have c2 : Hid (∀ (A : Option Addr) (c : Nat) (w : World), Rd w A 3 (ints .i64 [536870912, 0, 536870912]) → Calls Try.prog 47 #[.agg #[.int .i64 3, .int .i64 1, .int .i64 100, .int .i64 50, .int .i64 64, .slice A 3 c], .agg #[.int .i64 1099511627776, .int .i64 0], .int .u16 7, .int .u32 9] w fun e w' => e = .returned (.tuple #[.agg #[.int .i64 0, .int .u16 0, .int .u32 0, .int .i32 0, .int .i32 0, .int .i32 0], .bool false]) ∧ Below w.heap.size w w') := Lib.hid (fun A c w h => by
    have h := Correct26 3 1 1 100 50 64 1099511627776 0 7 9 A 3 c zw26 w zw26_gr rfl h (by decide) (by decide) (by decide) (by decide)
    rw [show 100 + mean15 (sm zw26 3 1 0) 64 (isum zw26) = 164 by decide +kernel, show 50 + mean15 (sm zw26 3 0 1) 64 (isum zw26) = 50 by decide +kernel, show sureN (xx15 zw26 3) (yy15 zw26 3) 64 = 64 by decide +kernel] at h
    rw [show corrV 164 50 ((64 : Nat) : Int) 1099511627776 0 7 9 = .tuple #[.agg #[.int .i64 0, .int .u16 0, .int .u32 0, .int .i32 0, .int .i32 0, .int .i32 0], .bool false] by kernel_rfl] at h
    exact h)
  have c3 : Hid (∀ (A : Option Addr) (c : Nat) (w : World), Rd w A 3 (ints .i64 [536870912, 0, 536870912]) → Calls Try.prog 45 #[.agg #[.int .i64 3, .int .i64 1, .int .i64 100, .int .i64 50, .int .i64 64, .slice A 3 c]] w fun e w' => e = .returned (.tuple #[.int .i64 64, .bool true]) ∧ Below w.heap.size w w') := Lib.hid (fun A c w h => by
    have h := Sure26 3 1 1 100 50 64 A 3 c zw26 w zw26_gr rfl h (by decide) (by decide)
    rw [show sureN (xx15 zw26 3) (yy15 zw26 3) 64 = 64 by decide +kernel] at h
    exact h)
  have c4 : Hid (∀ w : World, Calls Try.prog 51 #[.agg #[.int .i64 150, .int .i64 60], .agg #[.int .i64 6, .int .u16 7, .int .u32 9, .int .i32 14, .int .i32 (-10), .int .i32 64]] w fun e w' => e = .returned (.tuple #[.agg #[.int .i64 164, .int .i64 50], .bool true]) ∧ Below w.heap.size w w') := Lib.hid (fun w => by
    have h := Apply26 150 60 6 7 9 14 (-10) 64 w (by decide) (by decide)
    rw [show applV 150 60 6 14 (-10) = .tuple #[.agg #[.int .i64 164, .int .i64 50], .bool true] by kernel_rfl] at h
    exact h)
  have c5 := Lib.hid (fun w => Tell26 3 3 8 1 2 w (by rfl))
  have c6 : Hid (∀ w : World, Calls Try.prog 53 #[.bool true, .bool false, .bool true, .bool false, .bool false] w fun e w' => e = .returned (.int .i32 5) ∧ Below w.heap.size w w') := Lib.hid (fun w => Flags26 true false true false false w)
  have c7 : Hid (∀ w : World, Calls Try.prog 55 #[.int .i64 2, .int .i32 0] w fun e w' => e = .returned (.bool true) ∧ Below w.heap.size w w') := Lib.hid (fun w => Valid26 2 0 w)
  have c8 : Hid (∀ w : World, Calls Try.prog 55 #[.int .i64 3, .int .i32 0] w fun e w' => e = .returned (.bool false) ∧ Below w.heap.size w w') := Lib.hid (fun w => Valid26 3 0 w)
  have c9 : Hid (∀ w : World, Calls Try.prog 55 #[.int .i64 2, .int .i32 1] w fun e w' => e = .returned (.bool false) ∧ Below w.heap.size w w') := Lib.hid (fun w => Valid26 2 1 w)
  have eg1 := fun x y xs ys w => guardFrm x y xs ys w
  have eg2 := fun x y xs ys w => guardSpot x y xs ys w
  have eq1 : ∀ w, (Op.equalIn 10000 76 (.agg #[.int .i64 6, .int .u16 7, .int .u32 9, .int .i32 14, .int .i32 (-10), .int .i32 64]) (.agg #[.int .i64 6, .int .u16 7, .int .u32 9, .int .i32 14, .int .i32 (-10), .int .i32 64])).run Try.prog w = .ok true w := fun w => by
    rw [eqFrm]
    rfl
  have eq2 : ∀ w, (Op.equalIn 10000 29 (.agg #[.int .i64 164, .int .i64 50]) (.agg #[.int .i64 164, .int .i64 50])).run Try.prog w = .ok true w := fun w => by
    rw [eqSpot]
    rfl
  go_enter Try.func44, Try.ntmps44
  go_wp2_with (first|go_big_skip|((with_reducible refine at_load ?_);first|(refine wm_load (cs := ?_) (t := ?_) (n := ?_) K rfl _ _ rfl rfl ?_ ?_ ?_ ?_;rotate_left 2;(repeat (first|exact At.hd|refine At.tl ?_));rotate_left;(with_reducible first|exact row26|exact row29|exact row76);(solve|exact rfl|simp))|(refine wm_own (cs := ?_) (t := ?_) (v := ?_) K rfl _ _ rfl rfl ?_ ?_ ?_ ?_;rotate_left 2;(repeat (first|exact At.hd|refine At.tl ?_));rotate_left;(first|exact rfl|assumption);(with_reducible first|exact one3|exact one21))|(refine wm_cell (v := ?_) rfl _ _ rfl rfl ?_ ?_ ?_;rotate_left;(first|assumption|exact (K.below.cell (by assumption)).trans (by assumption));(with_reducible first|exact one3|exact one21)))|((with_reducible refine at_store ?_);(first|(refine wm_store (L' := ?_) (cs := ?_) (t := ?_) (n := ?_) K rfl _ _ _ rfl rfl rfl rfl ?_ ?_ ?_ ?_ ?_ ?_;rotate_left 3;(repeat (first|exact Put.hd|(refine Put.tl (L' := ?_) ?_;rotate_left)));rotate_left;(with_reducible first|exact row26|exact row29|exact row76);(solve|exact rfl|simp);(solve|exact rfl|simp);(solve|exact rfl|simp [Ones, Value.oneCell']))|(refine wm_put (L' := ?_) (cs := ?_) (new := ?_) (t := ?_) K rfl _ _ _ rfl rfl rfl rfl ?_ ?_ ?_ ?_ rfl rfl ?_;rotate_left 4;(repeat (first|exact Put.hd|(refine Put.tl (L' := ?_) ?_;rotate_left)));(solve|exact Nat.le_of_ble_eq_true rfl|decide|(simp only [List.size_toArray, nums_length];first|assumption|omega)|(simp only [List.size_toArray, nums_length, List.length_set];first|assumption|omega)|simp|omega|(simp only [List.size_toArray, nums_length];omega)|assumption);(solve|(simp only [List.setIfInBounds_toArray];exact rfl)|exact nums_set _ _ _ _|simp only [List.setIfInBounds_toArray, List.set_cons_zero]|simp only [List.setIfInBounds_toArray, List.set_cons_zero, List.set_cons_succ]|(simp only [List.setIfInBounds_toArray, List.set_cons_zero, List.set_cons_succ];exact rfl)|exact rfl);(with_reducible first|exact one3|exact one21)));(try clear K);(try clear ww);intro ww K;(try simp [go_sem] at K))|((first|((with_reducible refine at_box ?_);refine wm_box K rfl _ _ rfl rfl rfl ?_)|((with_reducible refine at_alloc ?_);refine wm_alloc (v := ?_) (cs := ?_) K rfl _ rfl ?_ ?_ ?_;rotate_left;(with_reducible first|exact zero26|exact zero29|exact zero76);rotate_left;exact rfl));(try clear K);(try clear ww);(first|((fail_if_success (have _h := b1));intro b1 ww K)|((fail_if_success (have _h := b2));intro b2 ww K)|((fail_if_success (have _h := b6));intro b6 ww K)|((fail_if_success (have _h := b8));intro b8 ww K)|((fail_if_success (have _h := b10));intro b10 ww K));(try simp [go_sem, Value.cells] at K))|((with_reducible refine at_bsl4 ?_);refine wm_ints4 K rfl _ _ _ rfl Try.underlying24 [536870912, 0, 536870912] num2 rfl rfl (by decide) ?_;(try clear K);(try clear ww);intro bi1 ww K)|(go_at_call 47;(with_reducible refine (c1.out _ _ _ (by first|exact K.fact.1.1|exact K.fact.2.1.1|exact K.fact.2.2.1.1|exact K.fact.2.2.2.1.1|exact K.fact.2.2.2.2.1.1|exact K.fact.2.2.2.2.2.1.1|exact K.fact.2.2.2.2.2.2.1.1|exact K.fact.2.2.2.2.2.2.2.1.1|exact K.fact.2.2.2.2.2.2.2.2.1.1|exact K.fact.2.2.2.2.2.2.2.2.2.1.1|exact K.fact.2.2.2.2.2.2.2.2.2.2.1.1|exact K.fact.2.2.2.2.2.2.2.2.2.2.2.1.1|exact K.fact.1|exact K.fact.2.1|exact K.fact.2.2.1|exact K.fact.2.2.2.1|exact K.fact.2.2.2.2.1|exact K.fact.2.2.2.2.2.1|exact K.fact.2.2.2.2.2.2.1|exact K.fact.2.2.2.2.2.2.2.1|exact K.fact.2.2.2.2.2.2.2.2.1|exact K.fact.2.2.2.2.2.2.2.2.2.1|exact K.fact.2.2.2.2.2.2.2.2.2.2.1|exact K.fact.2.2.2.2.2.2.2.2.2.2.2.1|exact K.fact|exact K.fact.2|exact K.fact.2.2|exact K.fact.2.2.2|exact K.fact.2.2.2.2|exact K.fact.2.2.2.2.2|exact K.fact.2.2.2.2.2.2|exact K.fact.2.2.2.2.2.2.2|exact K.fact.2.2.2.2.2.2.2.2|exact K.fact.2.2.2.2.2.2.2.2.2|exact K.fact.2.2.2.2.2.2.2.2.2.2|exact K.fact.2.2.2.2.2.2.2.2.2.2.2)).mono ?_);rintro e w2 ⟨rfl, k1⟩;replace K := K.step k1;clear k1;(try clear ww);revert w2;intro ww K)|(go_at_call 47;(with_reducible refine (c2.out _ _ _ (by first|exact K.fact.1.1|exact K.fact.2.1.1|exact K.fact.2.2.1.1|exact K.fact.2.2.2.1.1|exact K.fact.2.2.2.2.1.1|exact K.fact.2.2.2.2.2.1.1|exact K.fact.2.2.2.2.2.2.1.1|exact K.fact.2.2.2.2.2.2.2.1.1|exact K.fact.2.2.2.2.2.2.2.2.1.1|exact K.fact.2.2.2.2.2.2.2.2.2.1.1|exact K.fact.2.2.2.2.2.2.2.2.2.2.1.1|exact K.fact.2.2.2.2.2.2.2.2.2.2.2.1.1|exact K.fact.1|exact K.fact.2.1|exact K.fact.2.2.1|exact K.fact.2.2.2.1|exact K.fact.2.2.2.2.1|exact K.fact.2.2.2.2.2.1|exact K.fact.2.2.2.2.2.2.1|exact K.fact.2.2.2.2.2.2.2.1|exact K.fact.2.2.2.2.2.2.2.2.1|exact K.fact.2.2.2.2.2.2.2.2.2.1|exact K.fact.2.2.2.2.2.2.2.2.2.2.1|exact K.fact.2.2.2.2.2.2.2.2.2.2.2.1|exact K.fact|exact K.fact.2|exact K.fact.2.2|exact K.fact.2.2.2|exact K.fact.2.2.2.2|exact K.fact.2.2.2.2.2|exact K.fact.2.2.2.2.2.2|exact K.fact.2.2.2.2.2.2.2|exact K.fact.2.2.2.2.2.2.2.2|exact K.fact.2.2.2.2.2.2.2.2.2|exact K.fact.2.2.2.2.2.2.2.2.2.2|exact K.fact.2.2.2.2.2.2.2.2.2.2.2)).mono ?_);rintro e w2 ⟨rfl, k1⟩;replace K := K.step k1;clear k1;(try clear ww);revert w2;intro ww K)|(go_at_call 45;(with_reducible refine (c3.out _ _ _ (by first|exact K.fact.1.1|exact K.fact.2.1.1|exact K.fact.2.2.1.1|exact K.fact.2.2.2.1.1|exact K.fact.2.2.2.2.1.1|exact K.fact.2.2.2.2.2.1.1|exact K.fact.2.2.2.2.2.2.1.1|exact K.fact.2.2.2.2.2.2.2.1.1|exact K.fact.2.2.2.2.2.2.2.2.1.1|exact K.fact.2.2.2.2.2.2.2.2.2.1.1|exact K.fact.2.2.2.2.2.2.2.2.2.2.1.1|exact K.fact.2.2.2.2.2.2.2.2.2.2.2.1.1|exact K.fact.1|exact K.fact.2.1|exact K.fact.2.2.1|exact K.fact.2.2.2.1|exact K.fact.2.2.2.2.1|exact K.fact.2.2.2.2.2.1|exact K.fact.2.2.2.2.2.2.1|exact K.fact.2.2.2.2.2.2.2.1|exact K.fact.2.2.2.2.2.2.2.2.1|exact K.fact.2.2.2.2.2.2.2.2.2.1|exact K.fact.2.2.2.2.2.2.2.2.2.2.1|exact K.fact.2.2.2.2.2.2.2.2.2.2.2.1|exact K.fact|exact K.fact.2|exact K.fact.2.2|exact K.fact.2.2.2|exact K.fact.2.2.2.2|exact K.fact.2.2.2.2.2|exact K.fact.2.2.2.2.2.2|exact K.fact.2.2.2.2.2.2.2|exact K.fact.2.2.2.2.2.2.2.2|exact K.fact.2.2.2.2.2.2.2.2.2|exact K.fact.2.2.2.2.2.2.2.2.2.2|exact K.fact.2.2.2.2.2.2.2.2.2.2.2)).mono ?_);rintro e w2 ⟨rfl, k1⟩;replace K := K.step k1;clear k1;(try clear ww);revert w2;intro ww K)|(go_at_call 51;(with_reducible refine (c4.out _).mono ?_);rintro e w2 ⟨rfl, k1⟩;replace K := K.step k1;clear k1;(try clear ww);revert w2;intro ww K)|(go_at_call 52;(with_reducible refine (c5.out _).mono ?_);rintro e w2 ⟨rfl, k1⟩;replace K := K.step k1;clear k1;(try clear ww);revert w2;intro ww K)|(go_at_call 53;(with_reducible refine (c6.out _).mono ?_);rintro e w2 ⟨rfl, k1⟩;replace K := K.step k1;clear k1;(try clear ww);revert w2;intro ww K)|(go_at_call 55;(with_reducible refine (c7.out _).mono ?_);rintro e w2 ⟨rfl, k1⟩;replace K := K.step k1;clear k1;(try clear ww);revert w2;intro ww K)|(go_at_call 55;(with_reducible refine (c8.out _).mono ?_);rintro e w2 ⟨rfl, k1⟩;replace K := K.step k1;clear k1;(try clear ww);revert w2;intro ww K)|(go_at_call 55;(with_reducible refine (c9.out _).mono ?_);rintro e w2 ⟨rfl, k1⟩;replace K := K.step k1;clear k1;(try clear ww);revert w2;intro ww K))
  go_ret
  exact ⟨rfl, K.below⟩
end Go.Proofs.Ytpejoaefnnbghaa
namespace Go.Proofs.Ytpejoaefnnbghaa
open Go.RowKit
attribute [local irreducible] wpHeld wpTree wpList
set_option linter.unusedVariables false
theorem u8_in {a : Int} (h : (Lit.int .u8 a).wf = true) : 0 ≤ a ∧ a ≤ 255 := by
  unfold Lit.wf at h
  simp [IntKind.min, IntKind.max, IntKind.bits, IntKind.signed] at h
  exact h
theorem u16_in {l : List Int} (h : ∀ x ∈ l, (Lit.int .u16 x).wf = true) : ∀ x ∈ l, 0 ≤ x ∧ x ≤ 65535 := fun x hx => by
  have h := h x hx
  unfold Lit.wf at h
  simp [IntKind.min, IntKind.max, IntKind.bits, IntKind.signed] at h
  exact h
theorem step_in : ∀ k : Nat, k ≤ 8 → (16 : Int) ≤ 16 * 2 ^ k ∧ (16 : Int) * 2 ^ k ≤ 4096 := by decide
end Go.Proofs.Ytpejoaefnnbghaa
namespace Go.Proofs.Ytpejoaefnnbghaa
open Go.RowKit
attribute [local irreducible] wpHeld wpTree wpList
set_option linter.unusedVariables false
theorem made26 (a0 a1 : Int) (a2 : Option Addr) (len2 cap2 : Nat) (z2 : List Int) (a3 : Int) (w : World) (w0 : (Lit.int .u8 a0).wf = true) (w1 : (Lit.int .u8 a1).wf = true) (w2 : IsRow .u16 w a2 len2 cap2 z2) (w3 : (Lit.int .u8 a3).wf = true) :
    ∃ (p q n : Nat) (S : Int) (zs : List Int), Gr p q zs ∧ zs.length = n ∧ (1 ≤ n ∧ n ≤ 64) ∧ 0 < isum zs ∧ (16 ≤ S ∧ S ≤ 4096) ∧ (∃ m : Int, 0 ≤ m ∧ S * S = 256 * m) ∧
      Hid (∀ w', Below w.heap.size w w' → Calls Try.prog 13 #[.int .u8 a0, .int .u8 a1, .slice a2 len2 cap2, .int .u8 a3] w' fun e w'' => ∃ g c cur, e = .returned (.agg #[.int .i64 p, .int .i64 q, .int .i64 1000, .int .i64 (-1000), .int .i64 S, .slice (some ⟨g, 0, none⟩) n c]) ∧ (w'.heap.size ≤ g ∧ Has w'' g cur 2 ∧ n ≤ cur.size ∧ cur.toList.take n = ints .i64 zs) ∧ Below w'.heap.size w' w'') := by
  obtain ⟨l, hl, hr, hn⟩ := w2.rdI
  have hb0 := u8_in w0
  have hb1 := u8_in w1
  have hb3 := u8_in w3
  obtain ⟨p, hp⟩ : ∃ p : Nat, (p : Int) = 1 + a0 % 8 := ⟨(1 + a0 % 8).toNat, by omega⟩
  obtain ⟨q, hq⟩ : ∃ q : Nat, (q : Int) = 1 + a1 % 8 := ⟨(1 + a1 % 8).toNat, by omega⟩
  have hpb : 1 ≤ p ∧ p ≤ 8 := by omega
  have hqb : 1 ≤ q ∧ q ≤ 8 := by omega
  have hS := step_in (a3 % 9).toNat (by omega)
  have hnI : (p : Int) * (q : Int) = ((p * q : Nat) : Int) := (Int.natCast_mul p q).symm
  have hn1 : 1 ≤ p * q := Nat.mul_pos (by omega) (by omega)
  have hn4 : p * q ≤ 64 := Nat.mul_le_mul hpb.2 hqb.2
  have hR := mad_right (W := p) (H := q) (S := 16 * 2 ^ (a3 % 9).toNat) (n := p * q) (ls := l) (by omega) (by omega) hS hnI (u16_in hl)
  have hle := mad_len (p * q) l
  refine ⟨p, q, p * q, 16 * 2 ^ (a3 % 9).toNat, mad14 (p * q) l, hR.gr rfl rfl, hle, ⟨hn1, hn4⟩, ?_, hS, ⟨2 ^ (a3 % 9).toNat * 2 ^ (a3 % 9).toNat, ?_, by grind⟩, Lib.hid fun w' hb => ?_⟩
  · have := hR.low
    rw [hle] at this
    omega
  · exact Int.mul_nonneg (Int.pow_nonneg (by decide)) (Int.pow_nonneg (by decide))
  · exact MadeS14 a0 a1 a3 p q _ a2 (p * q) len2 cap2 l w' hb0 hb1 hb3 hp hq rfl hnI (hr.below hb) (u16_in hl)
set_option maxRecDepth 100000 in
set_option maxHeartbeats 4000000 in
theorem walk_FixSure (a0 a1 : Int) (a2 : Option Addr) (len2 cap2 : Nat) (z2 : List Int) (a3 a4 : Int) (w : World) (w0 : (Lit.int .u8 a0).wf = true) (w1 : (Lit.int .u8 a1).wf = true) (w2 : IsRow .u16 w a2 len2 cap2 z2) (w3 : (Lit.int .u8 a3).wf = true) (w4 : (Lit.int .u8 a4).wf = true) :
    Calls Try.prog 9 #[.int .u8 a0, .int .u8 a1, .slice a2 len2 cap2, .int .u8 a3, .int .u8 a4] w fun e w' => e = .returned (.bool true) ∧ Below w.heap.size w w' := by
  have WK := Lib.hid works26_any
  have K := St.start w
  by_cases g0 : 100 < len2
  · have t0 : decide (100 < (len2 : Int)) = true := decide_eq_true (by omega)
    clear w0 w1 w2 w3 w4 z2
    go_enter Try.func9, Try.ntmps9
    go_wp2_with (first | (go_at_call 44; (with_reducible refine (WK.out _).mono ?_); rintro e w2 ⟨rfl, k1⟩; replace K := K.step k1; clear k1; (try clear ww); revert w2; intro ww K))
    go_ret
    exact ⟨rfl, K.below⟩
  have t0 : decide (100 < (len2 : Int)) = false := decide_eq_false (by omega)
  obtain ⟨p, q, n, S, zs, hG, hl, ⟨hn0, hn64⟩, hs, hS, ⟨m, hm0, hm⟩, MK⟩ := made26 a0 a1 a2 len2 cap2 z2 a3 w w0 w1 w2 w3
  have hb4 := u8_in w4
  clear w0 w1 w2 w3 w4 z2 g0
  have bx := hG.xx_bd hs
  have by' := hG.yy_bd hs
  have law := sure_law bx by' (by omega) hm0 hm rfl
  have hu := und_bd bx by' (show 0 ≤ S ∧ S ≤ 4096 by omega)
  have hsn : sureN (xx15 zs p) (yy15 zs p) S ≤ 400000 := csq_b (by omega)
  have VV : Hid (∀ (A : Option Addr) (c : Nat) (w : World), Rd w A n (ints .i64 zs) → Calls Try.prog 16 #[.agg #[.int .i64 p, .int .i64 q, .int .i64 1000, .int .i64 (-1000), .int .i64 S, .slice A n c]] w fun e w' => e = .returned (.tuple #[.agg #[.int .i64 (xx15 zs p), .int .i64 (xy15 zs p), .int .i64 (yy15 zs p)], .bool true]) ∧ Below w.heap.size w w') := Lib.hid (fun A c w h => by
    have h := Vary15 p q q 1000 (-1000) S A n c zs w hG hl h
    unfold varyV at h
    rwa [if_neg (by omega)] at h)
  have SS := Lib.hid (fun (A : Option Addr) (c : Nat) (w : World) h => Sure26 p q q 1000 (-1000) S A n c zs w hG hl h hs (by omega))
  obtain ⟨j, hj⟩ : ∃ j : Nat, (j : Int) = a4 % n := ⟨(a4 % n).toNat, by have := Int.emod_nonneg a4 (show (n : Int) ≠ 0 by omega); omega⟩
  have hjn : j < n := by have := Int.emod_lt_of_pos a4 (show 0 < (n : Int) by omega); omega
  have S0 : Hid (∀ (A : Option Addr) (c : Nat) (w : World), Rd w A n (ints .i64 (one26 n j)) → Calls Try.prog 45 #[.agg #[.int .i64 p, .int .i64 q, .int .i64 1000, .int .i64 (-1000), .int .i64 S, .slice A n c]] w fun e w' => e = .returned (.tuple #[.int .i64 0, .bool true]) ∧ Below w.heap.size w w') := Lib.hid (fun A c w h => by
    have h := Sure26 p q q 1000 (-1000) S A n c (one26 n j) w (one_gr hG hl hjn) (one_len n j) h (by rw [one_sum hjn]; decide) (by omega)
    rw [one_xx hjn, one_yy hjn, sure_none] at h
    exact h)
  have e10 : a4.tmod n = j := by rw [Int.tmod_eq_emod_of_nonneg hb4.1]; exact hj.symm
  obtain ⟨e11, f11⟩ := wrapI (a := a4) (b := a4) rfl (by omega) (by omega)
  generalize xx15 zs p = xx at *
  generalize xy15 zs p = xy at *
  generalize yy15 zs p = yy at *
  generalize sureN xx yy S = sn at *
  obtain ⟨t, ht⟩ : ∃ t, xx + yy = t := ⟨_, rfl⟩
  obtain ⟨g, hg⟩ : ∃ g, S * S = g := ⟨_, rfl⟩
  rw [ht] at law
  rw [hg] at hm
  have hgb : 0 ≤ g ∧ g ≤ 16777216 := by have := Int.mul_le_mul hS.2 hS.2 (by omega) (by omega); omega
  have hgm : g.tdiv 256 = m := by rw [Int.tdiv_eq_ediv_of_nonneg (by omega), hm]; omega
  obtain ⟨al, hal⟩ : ∃ x, t * m = x := ⟨_, rfl⟩
  rw [hal] at law
  have hal0 : 0 ≤ al ∧ al ≤ 34093450414080 := by
    have h1 := Int.mul_le_mul (show t ≤ 520224768 by omega) (show m ≤ 65536 by omega) hm0 (by omega)
    have h2 := Int.mul_nonneg (show 0 ≤ t by omega) hm0
    omega
  obtain ⟨s, hsi⟩ : ∃ s : Int, (sn : Int) = s := ⟨_, rfl⟩
  rw [hsi] at SS law
  have hsb : 0 ≤ s ∧ s ≤ 400000 := by omega
  have law2 : 0 < s → (s - 1) * (s - 1) * 256 < al := fun h => law.2 (by omega)
  have law1 := law.1
  clear law hsn hu hsi hG
  have q1 := Int.mul_le_mul hsb.2 hsb.2 hsb.1 (by omega)
  have q2 := Int.mul_nonneg hsb.1 hsb.1
  obtain ⟨s2, hs2⟩ : ∃ x, s * s = x := ⟨_, rfl⟩
  rw [hs2] at law1 q1 q2
  obtain ⟨s4, hs4⟩ : ∃ x, s2 * 256 = x := ⟨_, rfl⟩
  rw [hs4] at law1
  have t5 : decide (s < 0) = false := decide_eq_false (by omega)
  have t6 : decide (s4 < al) = false := decide_eq_false (by omega)
  have hs5 : 0 < s → ∃ s3 s5 s6, s - 1 = s3 ∧ s3 * s3 = s5 ∧ s5 * 256 = s6 ∧ s6 < al ∧ (0 ≤ s3 ∧ s3 ≤ 400000) ∧ (0 ≤ s5 ∧ s5 ≤ 160000000000) := fun h => by
    have h1 := Int.mul_le_mul (show s - 1 ≤ 400000 by omega) (show s - 1 ≤ 400000 by omega) (by omega) (by omega)
    have h2 := Int.mul_nonneg (show 0 ≤ s - 1 by omega) (show 0 ≤ s - 1 by omega)
    exact ⟨_, _, _, rfl, rfl, rfl, law2 h, by omega, by omega⟩
  have w1 := wrapI ht (by omega) (by omega)
  have w2 := wrapI hg (by omega) (by omega)
  have w3 := wrapI (a := m) (b := m) rfl (by clear w1 w2; omega) (by clear w1 w2; omega)
  have w4 := wrapI hal (by clear w1 w2 w3; omega) (by clear w1 w2 w3; omega)
  have w5 := wrapI hs2 (by clear w1 w2 w3 w4; omega) (by clear w1 w2 w3 w4; omega)
  have w6 := wrapI hs4 (by clear w1 w2 w3 w4 w5; omega) (by clear w1 w2 w3 w4 w5; omega)
  have nz : ¬((n : Int) = 0) := by omega
  have nz1 : ¬(n = 0) := by omega
  have HN := Lib.hid (And.intro hn0 (And.intro hn64 (And.intro hl hjn)))
  clear hS hm hm0 hb4 hj hgb hal0 law1 law2 q1 q2 bx by' ht hg hal hs2 hs4 hl hs
  obtain ⟨w1, v1⟩ := w1
  obtain ⟨w2, v2⟩ := w2
  obtain ⟨w3, v3⟩ := w3
  obtain ⟨w4, v4⟩ := w4
  obtain ⟨w5, v5⟩ := w5
  obtain ⟨w6, v6⟩ := w6
  by_cases h0 : 0 < s
  · obtain ⟨s3, s5, s6, h1, h2, h3, h4, h5, h6⟩ := hs5 h0
    have t7 : decide (0 < s) = true := decide_eq_true h0
    have t8 : decide (al ≤ s6) = false := decide_eq_false (by omega)
    have w7 := wrapI h1 (by clear w1 w2 w3 w4 w5 w6 v1 v2 v3 v4 v5 v6 e10 hgm; omega) (by clear w1 w2 w3 w4 w5 w6 v1 v2 v3 v4 v5 v6 e10 hgm; omega)
    have w8 := wrapI h2 (by clear w1 w2 w3 w4 w5 w6 v1 v2 v3 v4 v5 v6 e10 hgm w7; omega) (by clear w1 w2 w3 w4 w5 w6 v1 v2 v3 v4 v5 v6 e10 hgm w7; omega)
    have w9 := wrapI h3 (by clear w1 w2 w3 w4 w5 w6 v1 v2 v3 v4 v5 v6 e10 hgm w7 w8; omega) (by clear w1 w2 w3 w4 w5 w6 v1 v2 v3 v4 v5 v6 e10 hgm w7 w8; omega)
    obtain ⟨w7, v7⟩ := w7
    obtain ⟨w8, v8⟩ := w8
    obtain ⟨w9, v9⟩ := w9
    clear h1 h2 h3 h4 h5 h6 hs5 hsb h0
    go_enter Try.func9, Try.ntmps9
    go_wp2_with (first|go_big_skip|((with_reducible refine at_load ?_);first|(refine wm_load (cs := ?_) (t := ?_) (n := ?_) K rfl _ _ rfl rfl ?_ ?_ ?_ ?_;rotate_left 2;(repeat (first|exact At.hd|refine At.tl ?_));rotate_left;(with_reducible first|exact row26|exact row34);(solve|exact rfl|simp))|(refine wm_own (cs := ?_) (t := ?_) (v := ?_) K rfl _ _ rfl rfl ?_ ?_ ?_ ?_;rotate_left 2;(repeat (first|exact At.hd|refine At.tl ?_));rotate_left;(first|exact rfl|assumption);(with_reducible first|exact one2|exact one24))|(refine wm_cell (v := ?_) rfl _ _ rfl rfl ?_ ?_ ?_;rotate_left;(first|assumption|exact (K.below.cell (by assumption)).trans (by assumption));(with_reducible first|exact one2|exact one24)))|((with_reducible refine at_store ?_);(first|(refine wm_store (L' := ?_) (cs := ?_) (t := ?_) (n := ?_) K rfl _ _ _ rfl rfl rfl rfl ?_ ?_ ?_ ?_ ?_ ?_;rotate_left 3;(repeat (first|exact Put.hd|(refine Put.tl (L' := ?_) ?_;rotate_left)));rotate_left;(with_reducible first|exact row26|exact row34);(solve|exact rfl|simp);(solve|exact rfl|simp);(solve|exact rfl|simp [Ones, Value.oneCell']))|(refine wm_put (L' := ?_) (cs := ?_) (new := ?_) (t := ?_) K rfl _ _ _ rfl rfl rfl rfl ?_ ?_ ?_ ?_ rfl rfl ?_;rotate_left 4;(repeat (first|exact Put.hd|(refine Put.tl (L' := ?_) ?_;rotate_left)));(solve|exact Nat.le_of_ble_eq_true rfl|(exact HJ)|decide|(simp only [List.size_toArray, nums_length];first|assumption|omega)|(simp only [List.size_toArray, nums_length, List.length_set];first|assumption|omega)|simp|omega|(simp only [List.size_toArray, nums_length];omega)|assumption);(solve|(simp only [List.setIfInBounds_toArray];exact rfl)|exact nums_set _ _ _ _|simp only [List.setIfInBounds_toArray, List.set_cons_zero]|simp only [List.setIfInBounds_toArray, List.set_cons_zero, List.set_cons_succ]|(simp only [List.setIfInBounds_toArray, List.set_cons_zero, List.set_cons_succ];exact rfl)|exact rfl);(with_reducible first|exact one2|exact one24)));(try clear K);(try clear ww);intro ww K;(try simp [go_sem] at K))|((first|((with_reducible refine at_box ?_);refine wm_box K rfl _ _ rfl rfl rfl ?_)|((with_reducible refine at_alloc ?_);refine wm_alloc (v := ?_) (cs := ?_) K rfl _ rfl ?_ ?_ ?_;rotate_left;(with_reducible first|exact zero26|exact zero34);rotate_left;exact rfl));(try clear K);(try clear ww);(first|((fail_if_success (have _h := b11));intro b11 ww K)|((fail_if_success (have _h := b12));intro b12 ww K));(try simp [go_sem, Value.cells] at K))|(go_at_call 13;(with_reducible refine (MK.out _ K.below).mono ?_);rintro e w2 ⟨g1, x1, cur1, rfl, ⟨hg, h2, hnc, hcu⟩, hbel⟩;(try dsimp only);replace K := K.ownB hbel hg h2;have HC1 := Lib.hid (And.intro hnc hcu);clear hbel h2 hg hnc hcu;(try clear ww);revert w2;intro ww K)|(go_at_call 16;(with_reducible refine (VV.out _ _ _ (sl_take (K.get (.tl .hd)) HC1.out.2 HC1.out.1).rd).mono ?_);rintro e w2 ⟨rfl, k1⟩;replace K := K.step k1;clear k1;(try clear ww);revert w2;intro ww K)|(go_at_call 45;(with_reducible refine (SS.out _ _ _ (sl_take (K.get (.tl (.tl .hd))) HC1.out.2 HC1.out.1).rd).mono ?_);rintro e w2 ⟨rfl, k1⟩;replace K := K.step k1;clear k1;(try clear ww);revert w2;intro ww K))
    clear t5 t6 w5 v5 w6 v6
    go_loopw [17] (fun i wr => ∃ (k : Nat) (cur : Array Value), k ≤ n ∧ i = .int .i64 k ∧ Hid (n ≤ cur.size ∧ cur.toList.take n = ints .i64 (zer26 zs k)) ∧ St w.heap.size w [(b12, #[.int .i64 xx, .int .i64 xy, .int .i64 yy], 34), (b11, #[.int .i64 p, .int .i64 q, .int .i64 1000, .int .i64 (-1000), .int .i64 S, .slice (some ⟨g1, 0, none⟩) n x1], 26), (g1, cur, 2)] Any wr) (fun i _ => n - (intOf i).toNat)
    case atStart => exact ⟨0, cur1, Nat.zero_le _, rfl, HC1, K⟩
    case round =>
      clear K HC1
      obtain ⟨k, cur, hk, rfl, HC, K⟩ := hrel
      by_cases hlt : k < n
      · have ht : decide ((k : Int) < n) = true := decide_eq_true (by omega)
        have HJ : k < cur.size := Nat.lt_of_lt_of_le hlt HC.out.1
        have HC2 : Hid (n ≤ (cur.setIfInBounds k (.int .i64 0)).size ∧ (cur.setIfInBounds k (.int .i64 0)).toList.take n = ints .i64 (zer26 zs (k + 1))) := Lib.hid ⟨by rw [Array.size_setIfInBounds]; exact HC.out.1, by rw [← zer_step (by rw [HN.out.2.2.1]; exact hlt)]; exact row_put HC.out.2⟩
        go_wp2_with (first|go_big_skip|((with_reducible refine at_load ?_);first|(refine wm_load (cs := ?_) (t := ?_) (n := ?_) K rfl _ _ rfl rfl ?_ ?_ ?_ ?_;rotate_left 2;(repeat (first|exact At.hd|refine At.tl ?_));rotate_left;(with_reducible first|exact row26|exact row34);(solve|exact rfl|simp))|(refine wm_own (cs := ?_) (t := ?_) (v := ?_) K rfl _ _ rfl rfl ?_ ?_ ?_ ?_;rotate_left 2;(repeat (first|exact At.hd|refine At.tl ?_));rotate_left;(first|exact rfl|assumption);(with_reducible first|exact one2|exact one24))|(refine wm_cell (v := ?_) rfl _ _ rfl rfl ?_ ?_ ?_;rotate_left;(first|assumption|exact (K.below.cell (by assumption)).trans (by assumption));(with_reducible first|exact one2|exact one24)))|((with_reducible refine at_store ?_);(first|(refine wm_store (L' := ?_) (cs := ?_) (t := ?_) (n := ?_) K rfl _ _ _ rfl rfl rfl rfl ?_ ?_ ?_ ?_ ?_ ?_;rotate_left 3;(repeat (first|exact Put.hd|(refine Put.tl (L' := ?_) ?_;rotate_left)));rotate_left;(with_reducible first|exact row26|exact row34);(solve|exact rfl|simp);(solve|exact rfl|simp);(solve|exact rfl|simp [Ones, Value.oneCell']))|(refine wm_put (L' := ?_) (cs := ?_) (new := ?_) (t := ?_) K rfl _ _ _ rfl rfl rfl rfl ?_ ?_ ?_ ?_ rfl rfl ?_;rotate_left 4;(repeat (first|exact Put.hd|(refine Put.tl (L' := ?_) ?_;rotate_left)));(solve|exact Nat.le_of_ble_eq_true rfl|(exact HJ)|decide|(simp only [List.size_toArray, nums_length];first|assumption|omega)|(simp only [List.size_toArray, nums_length, List.length_set];first|assumption|omega)|simp|omega|(simp only [List.size_toArray, nums_length];omega)|assumption);(solve|(simp only [List.setIfInBounds_toArray];exact rfl)|exact nums_set _ _ _ _|simp only [List.setIfInBounds_toArray, List.set_cons_zero]|simp only [List.setIfInBounds_toArray, List.set_cons_zero, List.set_cons_succ]|(simp only [List.setIfInBounds_toArray, List.set_cons_zero, List.set_cons_succ];exact rfl)|exact rfl);(with_reducible first|exact one2|exact one24)));(try clear K);(try clear ww);intro ww K;(try simp [go_sem] at K)))
        exact ⟨⟨k + 1, _, by omega, by go_num, HC2, K⟩, by simp [intOf]; omega⟩
      · obtain rfl : n = k := by omega
        have ht : decide ((n : Int) < n) = false := decide_eq_false (by omega)
        have hjn : j < n := HN.out.2.2.2
        have hjt : decide ((j : Int) < n) = true := decide_eq_true (by omega)
        have HJ : j < cur.size := Nat.lt_of_lt_of_le hjn HC.out.1
        have HC2 : Hid (n ≤ (cur.setIfInBounds j (.int .i64 1073741824)).size ∧ (cur.setIfInBounds j (.int .i64 1073741824)).toList.take n = ints .i64 (one26 n j)) := Lib.hid ⟨by rw [Array.size_setIfInBounds]; exact HC.out.1, by
          have h := HC.out.2
          rw [show zer26 zs n = List.replicate n 0 by rw [← HN.out.2.2.1]; exact zer_end zs] at h
          exact row_put h⟩
        go_wp2_with (first|go_big_skip|((with_reducible refine at_load ?_);first|(refine wm_load (cs := ?_) (t := ?_) (n := ?_) K rfl _ _ rfl rfl ?_ ?_ ?_ ?_;rotate_left 2;(repeat (first|exact At.hd|refine At.tl ?_));rotate_left;(with_reducible first|exact row26|exact row34);(solve|exact rfl|simp))|(refine wm_own (cs := ?_) (t := ?_) (v := ?_) K rfl _ _ rfl rfl ?_ ?_ ?_ ?_;rotate_left 2;(repeat (first|exact At.hd|refine At.tl ?_));rotate_left;(first|exact rfl|assumption);(with_reducible first|exact one2|exact one24))|(refine wm_cell (v := ?_) rfl _ _ rfl rfl ?_ ?_ ?_;rotate_left;(first|assumption|exact (K.below.cell (by assumption)).trans (by assumption));(with_reducible first|exact one2|exact one24)))|((with_reducible refine at_store ?_);(first|(refine wm_store (L' := ?_) (cs := ?_) (t := ?_) (n := ?_) K rfl _ _ _ rfl rfl rfl rfl ?_ ?_ ?_ ?_ ?_ ?_;rotate_left 3;(repeat (first|exact Put.hd|(refine Put.tl (L' := ?_) ?_;rotate_left)));rotate_left;(with_reducible first|exact row26|exact row34);(solve|exact rfl|simp);(solve|exact rfl|simp);(solve|exact rfl|simp [Ones, Value.oneCell']))|(refine wm_put (L' := ?_) (cs := ?_) (new := ?_) (t := ?_) K rfl _ _ _ rfl rfl rfl rfl ?_ ?_ ?_ ?_ rfl rfl ?_;rotate_left 4;(repeat (first|exact Put.hd|(refine Put.tl (L' := ?_) ?_;rotate_left)));(solve|exact Nat.le_of_ble_eq_true rfl|(exact HJ)|decide|(simp only [List.size_toArray, nums_length];first|assumption|omega)|(simp only [List.size_toArray, nums_length, List.length_set];first|assumption|omega)|simp|omega|(simp only [List.size_toArray, nums_length];omega)|assumption);(solve|(simp only [List.setIfInBounds_toArray];exact rfl)|exact nums_set _ _ _ _|simp only [List.setIfInBounds_toArray, List.set_cons_zero]|simp only [List.setIfInBounds_toArray, List.set_cons_zero, List.set_cons_succ]|(simp only [List.setIfInBounds_toArray, List.set_cons_zero, List.set_cons_succ];exact rfl)|exact rfl);(with_reducible first|exact one2|exact one24)));(try clear K);(try clear ww);intro ww K;(try simp [go_sem] at K)))
        refine wm_held _ [(true, 0), (true, 1), (true, 2), (true, 3), (true, 4), (true, 5), (true, 6), (true, 7), (true, 8), (false, 9)] K sb2s (by kernel_rfl) (by kernel_rfl) ?_; (try clear K); (try clear ww); intro ww K; (try simp [go_sem] at K); simp only [pick, List.getElem?_toArray, List.getElem?_cons_succ, List.getElem?_cons_zero]
        repeat (first|(((with_reducible refine ht_load ?_);first|(refine hm_load (cs := ?_) (t := ?_) (n := ?_) rfl _ _ rfl rfl ?_ ?_ ?_ ?_;rotate_left 2;(repeat (first|exact At.hd|refine At.tl ?_));rotate_left;(with_reducible first|exact row26|exact row34);(solve|exact rfl|simp))|(refine hm_own (cs := ?_) (t := ?_) (v := ?_) rfl _ _ rfl rfl ?_ ?_ ?_ ?_;rotate_left 2;(repeat (first|exact At.hd|refine At.tl ?_));rotate_left;(first|exact rfl|assumption);(with_reducible first|exact one2|exact one24))|(refine hm_cell (v := ?_) rfl _ _ rfl rfl (fun ww K => ?_) ?_ ?_;rotate_left;(first|assumption|exact (K.below.cell (by assumption)).trans (by assumption));(with_reducible first|exact one2|exact one24)));(try simp only [Act.put]);(try go_simp))|(refine held_take (fun K' hK' => ?_);go_simp;first|(refine hK' _ ?_;clear hK' K')|(apply Exists.intro;refine ⟨?_, hK' _ ?_⟩;(intro _ _;rfl);clear hK' K'))|((with_reducible refine ht_store ?_);first|(refine hm_store (L' := ?_) (cs := ?_) (t := ?_) (n := ?_) K rfl _ _ _ rfl rfl rfl rfl ?_ ?_ ?_ ?_ ?_ ?_;rotate_left 3;(repeat (first|exact Put.hd|(refine Put.tl (L' := ?_) ?_;rotate_left)));rotate_left;(with_reducible first|exact row26|exact row34);(solve|exact rfl|simp);(solve|exact rfl|simp);(solve|exact rfl|simp [Ones, Value.oneCell']);(try clear K);(try clear ww);intro ww K;(try simp [go_sem] at K);refine ⟨(by apply via sb2s;first|exact K|exact K.weak wk1|exact K.weak wk2|exact K.weak wk3|exact K.weak wk4|exact K.weak wk5), ?_⟩)|(refine hm_put (L' := ?_) (cs := ?_) (new := ?_) (t := ?_) K rfl _ _ _ rfl rfl rfl rfl ?_ ?_ ?_ ?_ rfl rfl ?_;rotate_left 4;(repeat (first|exact Put.hd|(refine Put.tl (L' := ?_) ?_;rotate_left)));(solve|exact Nat.le_of_ble_eq_true rfl|(exact HJ)|decide|(simp only [List.size_toArray, nums_length];first|assumption|omega)|(simp only [List.size_toArray, nums_length, List.length_set];first|assumption|omega)|simp|omega|(simp only [List.size_toArray, nums_length];omega)|assumption);(solve|(simp only [List.setIfInBounds_toArray];exact rfl)|exact nums_set _ _ _ _|simp only [List.setIfInBounds_toArray, List.set_cons_zero]|simp only [List.setIfInBounds_toArray, List.set_cons_zero, List.set_cons_succ]|(simp only [List.setIfInBounds_toArray, List.set_cons_zero, List.set_cons_succ];exact rfl)|exact rfl);(with_reducible first|exact one2|exact one24);(try clear K);(try clear ww);intro ww K;(try simp [go_sem] at K);refine ⟨(by apply via sb2s;first|exact K|exact K.weak wk1|exact K.weak wk2|exact K.weak wk3|exact K.weak wk4|exact K.weak wk5), ?_⟩)))
        refine held_nil ?_
        go_wp2_with (first|go_big_skip|((with_reducible refine at_load ?_);first|(refine wm_load (cs := ?_) (t := ?_) (n := ?_) K rfl _ _ rfl rfl ?_ ?_ ?_ ?_;rotate_left 2;(repeat (first|exact At.hd|refine At.tl ?_));rotate_left;(with_reducible first|exact row26|exact row34);(solve|exact rfl|simp))|(refine wm_own (cs := ?_) (t := ?_) (v := ?_) K rfl _ _ rfl rfl ?_ ?_ ?_ ?_;rotate_left 2;(repeat (first|exact At.hd|refine At.tl ?_));rotate_left;(first|exact rfl|assumption);(with_reducible first|exact one2|exact one24))|(refine wm_cell (v := ?_) rfl _ _ rfl rfl ?_ ?_ ?_;rotate_left;(first|assumption|exact (K.below.cell (by assumption)).trans (by assumption));(with_reducible first|exact one2|exact one24)))|((with_reducible refine at_store ?_);(first|(refine wm_store (L' := ?_) (cs := ?_) (t := ?_) (n := ?_) K rfl _ _ _ rfl rfl rfl rfl ?_ ?_ ?_ ?_ ?_ ?_;rotate_left 3;(repeat (first|exact Put.hd|(refine Put.tl (L' := ?_) ?_;rotate_left)));rotate_left;(with_reducible first|exact row26|exact row34);(solve|exact rfl|simp);(solve|exact rfl|simp);(solve|exact rfl|simp [Ones, Value.oneCell']))|(refine wm_put (L' := ?_) (cs := ?_) (new := ?_) (t := ?_) K rfl _ _ _ rfl rfl rfl rfl ?_ ?_ ?_ ?_ rfl rfl ?_;rotate_left 4;(repeat (first|exact Put.hd|(refine Put.tl (L' := ?_) ?_;rotate_left)));(solve|exact Nat.le_of_ble_eq_true rfl|(exact HJ)|decide|(simp only [List.size_toArray, nums_length];first|assumption|omega)|(simp only [List.size_toArray, nums_length, List.length_set];first|assumption|omega)|simp|omega|(simp only [List.size_toArray, nums_length];omega)|assumption);(solve|(simp only [List.setIfInBounds_toArray];exact rfl)|exact nums_set _ _ _ _|simp only [List.setIfInBounds_toArray, List.set_cons_zero]|simp only [List.setIfInBounds_toArray, List.set_cons_zero, List.set_cons_succ]|(simp only [List.setIfInBounds_toArray, List.set_cons_zero, List.set_cons_succ];exact rfl)|exact rfl);(with_reducible first|exact one2|exact one24)));(try clear K);(try clear ww);intro ww K;(try simp [go_sem] at K))|(go_at_call 45;(with_reducible refine (S0.out _ _ _ (sl_take (K.get (.tl (.tl .hd))) HC2.out.2 HC2.out.1).rd).mono ?_);rintro e w2 ⟨rfl, k1⟩;replace K := K.step k1;clear k1;(try clear ww);revert w2;intro ww K)|(go_at_call 44;(with_reducible refine (WK.out _).mono ?_);rintro e w2 ⟨rfl, k1⟩;replace K := K.step k1;clear k1;(try clear ww);revert w2;intro ww K))
        go_ret
        exact ⟨rfl, K.below⟩
  · have t7 : decide (0 < s) = false := decide_eq_false h0
    clear hs5 hsb h0
    go_enter Try.func9, Try.ntmps9
    go_wp2_with (first|go_big_skip|((with_reducible refine at_load ?_);first|(refine wm_load (cs := ?_) (t := ?_) (n := ?_) K rfl _ _ rfl rfl ?_ ?_ ?_ ?_;rotate_left 2;(repeat (first|exact At.hd|refine At.tl ?_));rotate_left;(with_reducible first|exact row26|exact row34);(solve|exact rfl|simp))|(refine wm_own (cs := ?_) (t := ?_) (v := ?_) K rfl _ _ rfl rfl ?_ ?_ ?_ ?_;rotate_left 2;(repeat (first|exact At.hd|refine At.tl ?_));rotate_left;(first|exact rfl|assumption);(with_reducible first|exact one2|exact one24))|(refine wm_cell (v := ?_) rfl _ _ rfl rfl ?_ ?_ ?_;rotate_left;(first|assumption|exact (K.below.cell (by assumption)).trans (by assumption));(with_reducible first|exact one2|exact one24)))|((with_reducible refine at_store ?_);(first|(refine wm_store (L' := ?_) (cs := ?_) (t := ?_) (n := ?_) K rfl _ _ _ rfl rfl rfl rfl ?_ ?_ ?_ ?_ ?_ ?_;rotate_left 3;(repeat (first|exact Put.hd|(refine Put.tl (L' := ?_) ?_;rotate_left)));rotate_left;(with_reducible first|exact row26|exact row34);(solve|exact rfl|simp);(solve|exact rfl|simp);(solve|exact rfl|simp [Ones, Value.oneCell']))|(refine wm_put (L' := ?_) (cs := ?_) (new := ?_) (t := ?_) K rfl _ _ _ rfl rfl rfl rfl ?_ ?_ ?_ ?_ rfl rfl ?_;rotate_left 4;(repeat (first|exact Put.hd|(refine Put.tl (L' := ?_) ?_;rotate_left)));(solve|exact Nat.le_of_ble_eq_true rfl|(exact HJ)|decide|(simp only [List.size_toArray, nums_length];first|assumption|omega)|(simp only [List.size_toArray, nums_length, List.length_set];first|assumption|omega)|simp|omega|(simp only [List.size_toArray, nums_length];omega)|assumption);(solve|(simp only [List.setIfInBounds_toArray];exact rfl)|exact nums_set _ _ _ _|simp only [List.setIfInBounds_toArray, List.set_cons_zero]|simp only [List.setIfInBounds_toArray, List.set_cons_zero, List.set_cons_succ]|(simp only [List.setIfInBounds_toArray, List.set_cons_zero, List.set_cons_succ];exact rfl)|exact rfl);(with_reducible first|exact one2|exact one24)));(try clear K);(try clear ww);intro ww K;(try simp [go_sem] at K))|((first|((with_reducible refine at_box ?_);refine wm_box K rfl _ _ rfl rfl rfl ?_)|((with_reducible refine at_alloc ?_);refine wm_alloc (v := ?_) (cs := ?_) K rfl _ rfl ?_ ?_ ?_;rotate_left;(with_reducible first|exact zero26|exact zero34);rotate_left;exact rfl));(try clear K);(try clear ww);(first|((fail_if_success (have _h := b11));intro b11 ww K)|((fail_if_success (have _h := b12));intro b12 ww K));(try simp [go_sem, Value.cells] at K))|(go_at_call 13;(with_reducible refine (MK.out _ K.below).mono ?_);rintro e w2 ⟨g1, x1, cur1, rfl, ⟨hg, h2, hnc, hcu⟩, hbel⟩;(try dsimp only);replace K := K.ownB hbel hg h2;have HC1 := Lib.hid (And.intro hnc hcu);clear hbel h2 hg hnc hcu;(try clear ww);revert w2;intro ww K)|(go_at_call 16;(with_reducible refine (VV.out _ _ _ (sl_take (K.get (.tl .hd)) HC1.out.2 HC1.out.1).rd).mono ?_);rintro e w2 ⟨rfl, k1⟩;replace K := K.step k1;clear k1;(try clear ww);revert w2;intro ww K)|(go_at_call 45;(with_reducible refine (SS.out _ _ _ (sl_take (K.get (.tl (.tl .hd))) HC1.out.2 HC1.out.1).rd).mono ?_);rintro e w2 ⟨rfl, k1⟩;replace K := K.step k1;clear k1;(try clear ww);revert w2;intro ww K))
    clear t5 t6 w5 v5 w6 v6
    go_loopw [17] (fun i wr => ∃ (k : Nat) (cur : Array Value), k ≤ n ∧ i = .int .i64 k ∧ Hid (n ≤ cur.size ∧ cur.toList.take n = ints .i64 (zer26 zs k)) ∧ St w.heap.size w [(b12, #[.int .i64 xx, .int .i64 xy, .int .i64 yy], 34), (b11, #[.int .i64 p, .int .i64 q, .int .i64 1000, .int .i64 (-1000), .int .i64 S, .slice (some ⟨g1, 0, none⟩) n x1], 26), (g1, cur, 2)] Any wr) (fun i _ => n - (intOf i).toNat)
    case atStart => exact ⟨0, cur1, Nat.zero_le _, rfl, HC1, K⟩
    case round =>
      clear K HC1
      obtain ⟨k, cur, hk, rfl, HC, K⟩ := hrel
      by_cases hlt : k < n
      · have ht : decide ((k : Int) < n) = true := decide_eq_true (by omega)
        have HJ : k < cur.size := Nat.lt_of_lt_of_le hlt HC.out.1
        have HC2 : Hid (n ≤ (cur.setIfInBounds k (.int .i64 0)).size ∧ (cur.setIfInBounds k (.int .i64 0)).toList.take n = ints .i64 (zer26 zs (k + 1))) := Lib.hid ⟨by rw [Array.size_setIfInBounds]; exact HC.out.1, by rw [← zer_step (by rw [HN.out.2.2.1]; exact hlt)]; exact row_put HC.out.2⟩
        go_wp2_with (first|go_big_skip|((with_reducible refine at_load ?_);first|(refine wm_load (cs := ?_) (t := ?_) (n := ?_) K rfl _ _ rfl rfl ?_ ?_ ?_ ?_;rotate_left 2;(repeat (first|exact At.hd|refine At.tl ?_));rotate_left;(with_reducible first|exact row26|exact row34);(solve|exact rfl|simp))|(refine wm_own (cs := ?_) (t := ?_) (v := ?_) K rfl _ _ rfl rfl ?_ ?_ ?_ ?_;rotate_left 2;(repeat (first|exact At.hd|refine At.tl ?_));rotate_left;(first|exact rfl|assumption);(with_reducible first|exact one2|exact one24))|(refine wm_cell (v := ?_) rfl _ _ rfl rfl ?_ ?_ ?_;rotate_left;(first|assumption|exact (K.below.cell (by assumption)).trans (by assumption));(with_reducible first|exact one2|exact one24)))|((with_reducible refine at_store ?_);(first|(refine wm_store (L' := ?_) (cs := ?_) (t := ?_) (n := ?_) K rfl _ _ _ rfl rfl rfl rfl ?_ ?_ ?_ ?_ ?_ ?_;rotate_left 3;(repeat (first|exact Put.hd|(refine Put.tl (L' := ?_) ?_;rotate_left)));rotate_left;(with_reducible first|exact row26|exact row34);(solve|exact rfl|simp);(solve|exact rfl|simp);(solve|exact rfl|simp [Ones, Value.oneCell']))|(refine wm_put (L' := ?_) (cs := ?_) (new := ?_) (t := ?_) K rfl _ _ _ rfl rfl rfl rfl ?_ ?_ ?_ ?_ rfl rfl ?_;rotate_left 4;(repeat (first|exact Put.hd|(refine Put.tl (L' := ?_) ?_;rotate_left)));(solve|exact Nat.le_of_ble_eq_true rfl|(exact HJ)|decide|(simp only [List.size_toArray, nums_length];first|assumption|omega)|(simp only [List.size_toArray, nums_length, List.length_set];first|assumption|omega)|simp|omega|(simp only [List.size_toArray, nums_length];omega)|assumption);(solve|(simp only [List.setIfInBounds_toArray];exact rfl)|exact nums_set _ _ _ _|simp only [List.setIfInBounds_toArray, List.set_cons_zero]|simp only [List.setIfInBounds_toArray, List.set_cons_zero, List.set_cons_succ]|(simp only [List.setIfInBounds_toArray, List.set_cons_zero, List.set_cons_succ];exact rfl)|exact rfl);(with_reducible first|exact one2|exact one24)));(try clear K);(try clear ww);intro ww K;(try simp [go_sem] at K)))
        exact ⟨⟨k + 1, _, by omega, by go_num, HC2, K⟩, by simp [intOf]; omega⟩
      · obtain rfl : n = k := by omega
        have ht : decide ((n : Int) < n) = false := decide_eq_false (by omega)
        have hjn : j < n := HN.out.2.2.2
        have hjt : decide ((j : Int) < n) = true := decide_eq_true (by omega)
        have HJ : j < cur.size := Nat.lt_of_lt_of_le hjn HC.out.1
        have HC2 : Hid (n ≤ (cur.setIfInBounds j (.int .i64 1073741824)).size ∧ (cur.setIfInBounds j (.int .i64 1073741824)).toList.take n = ints .i64 (one26 n j)) := Lib.hid ⟨by rw [Array.size_setIfInBounds]; exact HC.out.1, by
          have h := HC.out.2
          rw [show zer26 zs n = List.replicate n 0 by rw [← HN.out.2.2.1]; exact zer_end zs] at h
          exact row_put h⟩
        go_wp2_with (first|go_big_skip|((with_reducible refine at_load ?_);first|(refine wm_load (cs := ?_) (t := ?_) (n := ?_) K rfl _ _ rfl rfl ?_ ?_ ?_ ?_;rotate_left 2;(repeat (first|exact At.hd|refine At.tl ?_));rotate_left;(with_reducible first|exact row26|exact row34);(solve|exact rfl|simp))|(refine wm_own (cs := ?_) (t := ?_) (v := ?_) K rfl _ _ rfl rfl ?_ ?_ ?_ ?_;rotate_left 2;(repeat (first|exact At.hd|refine At.tl ?_));rotate_left;(first|exact rfl|assumption);(with_reducible first|exact one2|exact one24))|(refine wm_cell (v := ?_) rfl _ _ rfl rfl ?_ ?_ ?_;rotate_left;(first|assumption|exact (K.below.cell (by assumption)).trans (by assumption));(with_reducible first|exact one2|exact one24)))|((with_reducible refine at_store ?_);(first|(refine wm_store (L' := ?_) (cs := ?_) (t := ?_) (n := ?_) K rfl _ _ _ rfl rfl rfl rfl ?_ ?_ ?_ ?_ ?_ ?_;rotate_left 3;(repeat (first|exact Put.hd|(refine Put.tl (L' := ?_) ?_;rotate_left)));rotate_left;(with_reducible first|exact row26|exact row34);(solve|exact rfl|simp);(solve|exact rfl|simp);(solve|exact rfl|simp [Ones, Value.oneCell']))|(refine wm_put (L' := ?_) (cs := ?_) (new := ?_) (t := ?_) K rfl _ _ _ rfl rfl rfl rfl ?_ ?_ ?_ ?_ rfl rfl ?_;rotate_left 4;(repeat (first|exact Put.hd|(refine Put.tl (L' := ?_) ?_;rotate_left)));(solve|exact Nat.le_of_ble_eq_true rfl|(exact HJ)|decide|(simp only [List.size_toArray, nums_length];first|assumption|omega)|(simp only [List.size_toArray, nums_length, List.length_set];first|assumption|omega)|simp|omega|(simp only [List.size_toArray, nums_length];omega)|assumption);(solve|(simp only [List.setIfInBounds_toArray];exact rfl)|exact nums_set _ _ _ _|simp only [List.setIfInBounds_toArray, List.set_cons_zero]|simp only [List.setIfInBounds_toArray, List.set_cons_zero, List.set_cons_succ]|(simp only [List.setIfInBounds_toArray, List.set_cons_zero, List.set_cons_succ];exact rfl)|exact rfl);(with_reducible first|exact one2|exact one24)));(try clear K);(try clear ww);intro ww K;(try simp [go_sem] at K)))
        refine wm_held _ [(true, 0), (true, 1), (true, 2), (true, 3), (true, 4), (true, 5), (true, 6), (true, 7), (true, 8), (false, 9)] K sb2s (by kernel_rfl) (by kernel_rfl) ?_; (try clear K); (try clear ww); intro ww K; (try simp [go_sem] at K); simp only [pick, List.getElem?_toArray, List.getElem?_cons_succ, List.getElem?_cons_zero]
        repeat (first|(((with_reducible refine ht_load ?_);first|(refine hm_load (cs := ?_) (t := ?_) (n := ?_) rfl _ _ rfl rfl ?_ ?_ ?_ ?_;rotate_left 2;(repeat (first|exact At.hd|refine At.tl ?_));rotate_left;(with_reducible first|exact row26|exact row34);(solve|exact rfl|simp))|(refine hm_own (cs := ?_) (t := ?_) (v := ?_) rfl _ _ rfl rfl ?_ ?_ ?_ ?_;rotate_left 2;(repeat (first|exact At.hd|refine At.tl ?_));rotate_left;(first|exact rfl|assumption);(with_reducible first|exact one2|exact one24))|(refine hm_cell (v := ?_) rfl _ _ rfl rfl (fun ww K => ?_) ?_ ?_;rotate_left;(first|assumption|exact (K.below.cell (by assumption)).trans (by assumption));(with_reducible first|exact one2|exact one24)));(try simp only [Act.put]);(try go_simp))|(refine held_take (fun K' hK' => ?_);go_simp;first|(refine hK' _ ?_;clear hK' K')|(apply Exists.intro;refine ⟨?_, hK' _ ?_⟩;(intro _ _;rfl);clear hK' K'))|((with_reducible refine ht_store ?_);first|(refine hm_store (L' := ?_) (cs := ?_) (t := ?_) (n := ?_) K rfl _ _ _ rfl rfl rfl rfl ?_ ?_ ?_ ?_ ?_ ?_;rotate_left 3;(repeat (first|exact Put.hd|(refine Put.tl (L' := ?_) ?_;rotate_left)));rotate_left;(with_reducible first|exact row26|exact row34);(solve|exact rfl|simp);(solve|exact rfl|simp);(solve|exact rfl|simp [Ones, Value.oneCell']);(try clear K);(try clear ww);intro ww K;(try simp [go_sem] at K);refine ⟨(by apply via sb2s;first|exact K|exact K.weak wk1|exact K.weak wk2|exact K.weak wk3|exact K.weak wk4|exact K.weak wk5), ?_⟩)|(refine hm_put (L' := ?_) (cs := ?_) (new := ?_) (t := ?_) K rfl _ _ _ rfl rfl rfl rfl ?_ ?_ ?_ ?_ rfl rfl ?_;rotate_left 4;(repeat (first|exact Put.hd|(refine Put.tl (L' := ?_) ?_;rotate_left)));(solve|exact Nat.le_of_ble_eq_true rfl|(exact HJ)|decide|(simp only [List.size_toArray, nums_length];first|assumption|omega)|(simp only [List.size_toArray, nums_length, List.length_set];first|assumption|omega)|simp|omega|(simp only [List.size_toArray, nums_length];omega)|assumption);(solve|(simp only [List.setIfInBounds_toArray];exact rfl)|exact nums_set _ _ _ _|simp only [List.setIfInBounds_toArray, List.set_cons_zero]|simp only [List.setIfInBounds_toArray, List.set_cons_zero, List.set_cons_succ]|(simp only [List.setIfInBounds_toArray, List.set_cons_zero, List.set_cons_succ];exact rfl)|exact rfl);(with_reducible first|exact one2|exact one24);(try clear K);(try clear ww);intro ww K;(try simp [go_sem] at K);refine ⟨(by apply via sb2s;first|exact K|exact K.weak wk1|exact K.weak wk2|exact K.weak wk3|exact K.weak wk4|exact K.weak wk5), ?_⟩)))
        refine held_nil ?_
        go_wp2_with (first|go_big_skip|((with_reducible refine at_load ?_);first|(refine wm_load (cs := ?_) (t := ?_) (n := ?_) K rfl _ _ rfl rfl ?_ ?_ ?_ ?_;rotate_left 2;(repeat (first|exact At.hd|refine At.tl ?_));rotate_left;(with_reducible first|exact row26|exact row34);(solve|exact rfl|simp))|(refine wm_own (cs := ?_) (t := ?_) (v := ?_) K rfl _ _ rfl rfl ?_ ?_ ?_ ?_;rotate_left 2;(repeat (first|exact At.hd|refine At.tl ?_));rotate_left;(first|exact rfl|assumption);(with_reducible first|exact one2|exact one24))|(refine wm_cell (v := ?_) rfl _ _ rfl rfl ?_ ?_ ?_;rotate_left;(first|assumption|exact (K.below.cell (by assumption)).trans (by assumption));(with_reducible first|exact one2|exact one24)))|((with_reducible refine at_store ?_);(first|(refine wm_store (L' := ?_) (cs := ?_) (t := ?_) (n := ?_) K rfl _ _ _ rfl rfl rfl rfl ?_ ?_ ?_ ?_ ?_ ?_;rotate_left 3;(repeat (first|exact Put.hd|(refine Put.tl (L' := ?_) ?_;rotate_left)));rotate_left;(with_reducible first|exact row26|exact row34);(solve|exact rfl|simp);(solve|exact rfl|simp);(solve|exact rfl|simp [Ones, Value.oneCell']))|(refine wm_put (L' := ?_) (cs := ?_) (new := ?_) (t := ?_) K rfl _ _ _ rfl rfl rfl rfl ?_ ?_ ?_ ?_ rfl rfl ?_;rotate_left 4;(repeat (first|exact Put.hd|(refine Put.tl (L' := ?_) ?_;rotate_left)));(solve|exact Nat.le_of_ble_eq_true rfl|(exact HJ)|decide|(simp only [List.size_toArray, nums_length];first|assumption|omega)|(simp only [List.size_toArray, nums_length, List.length_set];first|assumption|omega)|simp|omega|(simp only [List.size_toArray, nums_length];omega)|assumption);(solve|(simp only [List.setIfInBounds_toArray];exact rfl)|exact nums_set _ _ _ _|simp only [List.setIfInBounds_toArray, List.set_cons_zero]|simp only [List.setIfInBounds_toArray, List.set_cons_zero, List.set_cons_succ]|(simp only [List.setIfInBounds_toArray, List.set_cons_zero, List.set_cons_succ];exact rfl)|exact rfl);(with_reducible first|exact one2|exact one24)));(try clear K);(try clear ww);intro ww K;(try simp [go_sem] at K))|(go_at_call 45;(with_reducible refine (S0.out _ _ _ (sl_take (K.get (.tl (.tl .hd))) HC2.out.2 HC2.out.1).rd).mono ?_);rintro e w2 ⟨rfl, k1⟩;replace K := K.step k1;clear k1;(try clear ww);revert w2;intro ww K)|(go_at_call 44;(with_reducible refine (WK.out _).mono ?_);rintro e w2 ⟨rfl, k1⟩;replace K := K.step k1;clear k1;(try clear ww);revert w2;intro ww K))
        go_ret
        exact ⟨rfl, K.below⟩
end Go.Proofs.Ytpejoaefnnbghaa
