/-
  Lemmas and walks of this claim (the texts V03 of the work; what no proof here uses is left out). No claim of their own.
-/
import Derived.Test.YtpejoaefnnbghaaPH14
import Derived.Test.YtpejoaefnnbghaaPH1
import Derived.Test.YtpejoaefnnbghaaPH7
import Derived.Test.YtpejoaefnnbghaaPH8
import Derived.Shelf.Spec.BitsCarry
set_option linter.all false
set_option linter.unusedSimpArgs false
set_option linter.unusedVariables false
namespace Go.Proofs.Ytpejoaefnnbghaa
open Go.RowKit
set_option linter.unusedVariables false

theorem ret_int {k : IntKind} {a b : Int} (h : a = b) : Ending.returned (.int k a) = .returned (.int k b) := by rw [h]
theorem ret_tup2 {a b c d : Value} (h1 : a = c) (h2 : b = d) : Ending.returned (.tuple #[a, b]) = .returned (.tuple #[c, d]) := by rw [h1, h2]
theorem v_int {k : IntKind} {a b : Int} (h : a = b) : Value.int k a = .int k b := by rw [h]
theorem v_bool {a b : Bool} (h : a = b) : Value.bool a = .bool b := by rw [h]
theorem magnitude_any (x : Int) (w : World) (h0 : -9223372036854775808 ≤ x) (h1 : x ≤ 9223372036854775807) :
    Calls Try.prog 107 #[.int .i64 x] w fun e w' => e = .returned (.int .u64 (x.natAbs : Nat)) ∧ w = w' := by
  by_cases hx : x < 0
  · have e : Hid (IntKind.u64.wrap (-(IntKind.u64.wrap x)) = (x.natAbs : Nat)) := Lib.hid (by rw [IntKind.wrap_u64, IntKind.wrap_u64]; omega)
    go_enter Try.func107, Try.ntmps107
    go_wp2
    go_ret
    exact ⟨by rw [← e.out]; rfl, rfl⟩
  · have e : Hid (IntKind.u64.wrap x = (x.natAbs : Nat)) := Lib.hid (by rw [IntKind.wrap_u64]; omega)
    go_enter Try.func107, Try.ntmps107
    go_wp2
    go_ret
    exact ⟨by first | (rw [← e.out]; rfl) | exact ret_int (by omega), rfl⟩

theorem signed_any (q : Nat) (m : Bool) (w : World) (hq : q < 18446744073709551616) :
    Calls Try.prog 121 #[.int .u64 q, .bool m] w fun e w' => e = .returned (.tuple #[.int .i64 (wrap64 (wv m q)), .bool (fits64 (wv m q))]) ∧ w = w' := by
  have HF := Lib.hid (fits64_wv m q)
  cases m
  · have E : Hid (wrap64 (q : Int) = wrap64 (wv false q)) := Lib.hid (by simp [wv])
    have E2 : Hid (decide ((q : Int) < 9223372036854775808) = fits64 (wv false q)) := Lib.hid (by rw [HF.out]; simp; omega)
    clear HF
    go_enter Try.func121, Try.ntmps121
    go_wp2
    go_ret2
    exact ⟨ret_tup2 (v_int E.out) (v_bool E2.out), rfl⟩
  · have E : Hid (wrap64 (IntKind.u64.wrap (-(q : Int))) = wrap64 (wv true q)) := Lib.hid (by rw [IntKind.wrap_u64]; unfold wv wrap64; simp)
    have E2 : Hid (decide ((q : Int) ≤ 9223372036854775808) = fits64 (wv true q)) := Lib.hid (by rw [HF.out]; simp; omega)
    clear HF
    go_enter Try.func121, Try.ntmps121
    go_wp2
    go_ret2
    exact ⟨ret_tup2 (v_int E.out) (v_bool E2.out), rfl⟩
theorem sub64_run (x y b : Nat) (hb : b ≤ 1) (w : World) :
    (callFunc 122 #[.int .u64 x, .int .u64 y, .int .u64 b]).run Try.prog w = .ok (.value (.tuple #[.int .u64 (((x + 18446744073709551616 - y - b) % 18446744073709551616 : Nat) : Int), .int .u64 ((if x < y + b then 1 else 0 : Nat) : Int)])) w := by
  rw [run_callFunc_extern Try.func122 (by kernel_rfl) (by kernel_rfl) (by kernel_rfl) (e := sub64Entry) (by kernel_rfl), run_sub64 x y b hb]
  rfl
theorem neg64_run (l lo b : Nat) (hl : l < 18446744073709551616) (h1 : lo = (18446744073709551616 - l) % 18446744073709551616) (h2 : b = if l = 0 then 0 else 1) (w : World) :
    (callFunc 122 #[.int .u64 0, .int .u64 l, .int .u64 0]).run Try.prog w = .ok (.value (.tuple #[.int .u64 lo, .int .u64 b])) w := by
  have := sub64_run 0 l 0 (by omega) w
  have e1 : (0 + 18446744073709551616 - l - 0) % 18446744073709551616 = lo := by omega
  have e2 : (if 0 < l + 0 then 1 else 0) = b := by rw [h2]; by_cases h : l = 0 <;> simp [h]
  rw [e1, e2] at this
  exact this
set_option maxHeartbeats 1000000 in
set_option maxRecDepth 100000 in
theorem Neg_any (z : Int) (w : World) (h0 : -170141183460469231731687303715884105728 ≤ z) (h1 : z < 170141183460469231731687303715884105728) :
    Calls Try.prog 102 #[.agg (wI z)] w fun e w' => e = .returned (.agg (wI (wrap128 (-z)))) ∧ Below w.heap.size w w' := by
  have K := St.start w
  obtain ⟨H, hH⟩ : ∃ H : Int, H = z / 18446744073709551616 := ⟨_, rfl⟩
  obtain ⟨L, hL⟩ : ∃ L : Int, L = z % 18446744073709551616 := ⟨_, rfl⟩
  obtain ⟨l, rfl⟩ : ∃ l : Nat, L = l := ⟨L.toNat, by omega⟩
  have ew : wI z = #[.int .i64 H, .int .u64 l] := by unfold wI; rw [hH, hL]
  obtain ⟨lo, hlo⟩ : ∃ lo, lo = (18446744073709551616 - l) % 18446744073709551616 := ⟨_, rfl⟩
  obtain ⟨b, hb⟩ : ∃ b : Nat, b = if l = 0 then 0 else 1 := ⟨_, rfl⟩
  have hs := neg64_run l lo b (by omega) hlo hb
  have E : Hid (wI (wrap128 (-z)) = #[.int .i64 (wrap64 (IntKind.u64.wrap (IntKind.u64.wrap (-(IntKind.u64.wrap H)) - b))), .int .u64 lo]) := Lib.hid (by
    have e1 : wrap128 (-z) / 18446744073709551616 = wrap64 (IntKind.u64.wrap (IntKind.u64.wrap (-(IntKind.u64.wrap H)) - b)) := by
      rw [IntKind.wrap_u64, IntKind.wrap_u64, IntKind.wrap_u64]
      unfold wrap128 wrap64
      split at hb <;> omega
    have e2 : wrap128 (-z) % 18446744073709551616 = lo := by unfold wrap128; omega
    unfold wI
    rw [e1, e2])
  rw [ew, E.out]
  clear hH hL ew h0 h1 hlo hb E
  go_enter Try.func102, Try.ntmps102
  go_wp2_with (first|go_big_skip|((with_reducible refine at_load ?_);first|(refine wm_load (cs := ?_) (t := ?_) (n := ?_) K rfl _ _ rfl rfl ?_ ?_ ?_ ?_;rotate_left 2;(repeat (first|exact At.hd|refine At.tl ?_));rotate_left;(with_reducible first|exact row106);(solve|exact rfl|simp))|(refine wm_own (cs := ?_) (t := ?_) (v := ?_) K rfl _ _ rfl rfl ?_ ?_ ?_ ?_;rotate_left 2;(repeat (first|exact At.hd|refine At.tl ?_));rotate_left;(first|(with_reducible exact wI_hi _)|(with_reducible exact wI_lo _)|exact rfl|assumption);(with_reducible first|exact one2|exact one104))|(refine wm_cell (v := ?_) rfl _ _ rfl rfl ?_ ?_ ?_;rotate_left;(first|assumption|exact (K.below.cell (by assumption)).trans (by assumption));(with_reducible first|exact one2|exact one104)))|((with_reducible refine at_store ?_);(first|(refine wm_store (L' := ?_) (cs := ?_) (t := ?_) (n := ?_) K rfl _ _ _ rfl rfl rfl rfl ?_ ?_ ?_ ?_ ?_ ?_;rotate_left 3;(repeat (first|exact Put.hd|(refine Put.tl (L' := ?_) ?_;rotate_left)));rotate_left;(with_reducible first|exact row106);(solve|exact rfl|simp);(solve|exact rfl|simp);(solve|exact rfl|simp [Ones, Value.oneCell']))|(refine wm_put (L' := ?_) (cs := ?_) (new := ?_) (t := ?_) K rfl _ _ _ rfl rfl rfl rfl ?_ ?_ ?_ ?_ rfl rfl ?_;rotate_left 4;(repeat (first|exact Put.hd|(refine Put.tl (L' := ?_) ?_;rotate_left)));(solve|decide|(simp only [List.size_toArray, nums_length];first|assumption|omega)|(simp only [List.size_toArray, nums_length, List.length_set];first|assumption|omega)|simp|omega|(simp only [List.size_toArray, nums_length];omega)|assumption);(solve|exact nums_set _ _ _ _|simp only [List.setIfInBounds_toArray, List.set_cons_zero]|simp only [List.setIfInBounds_toArray, List.set_cons_zero, List.set_cons_succ]|(simp only [List.setIfInBounds_toArray, List.set_cons_zero, List.set_cons_succ];exact rfl)|exact rfl);(with_reducible first|exact one2|exact one104)));(try clear K);(try clear ww);intro ww K;(try simp [go_sem] at K))|((first|((with_reducible refine at_box ?_);refine wm_box K rfl _ _ rfl rfl rfl ?_)|((with_reducible refine at_alloc ?_);refine wm_alloc (v := ?_) (cs := ?_) K rfl _ rfl ?_ ?_ ?_;rotate_left;(with_reducible first|exact zero106);rotate_left;exact rfl));(try clear K);(try clear ww);(first|((fail_if_success (have _h := b1));intro b1 ww K)|((fail_if_success (have _h := b2));intro b2 ww K));(try simp [go_sem, Value.cells] at K)))
  refine bodyPost_ret (K.res (cs := ?_) (t := ?_) (n := ?_) rfl _ rfl ?_ ?_ ?_) rfl ?_;rotate_left 2;(repeat (first|exact At.hd|refine At.tl ?_));rotate_left;(with_reducible first|exact row106);(solve|exact rfl|simp)
  exact ⟨rfl, K.below⟩
end Go.Proofs.Ytpejoaefnnbghaa
