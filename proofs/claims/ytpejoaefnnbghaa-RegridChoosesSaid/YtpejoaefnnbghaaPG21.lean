/-
  Lemmas and walks of this claim (the texts Fr03 Cm03 of the work; what no proof here uses is left out). No claim of their own.
-/
import Derived.Test.YtpejoaefnnbghaaPG19
import Derived.Test.YtpejoaefnnbghaaPG20
set_option linter.all false
set_option linter.unusedSimpArgs false
set_option linter.unusedVariables false
namespace Go.Proofs.Ytpejoaefnnbghaa
open Go.RowKit
set_option linter.unusedVariables false

theorem z0N : (Try.prog.info? 47).map (·.zero) = some (some (.agg (numA false 0))) := by kernel_rfl
end Go.Proofs.Ytpejoaefnnbghaa
namespace Go.Proofs.Ytpejoaefnnbghaa
open Go.RowKit
set_option linter.unusedVariables false

set_option maxHeartbeats 8000000 in
set_option maxRecDepth 100000 in
theorem Cmp_num (mx my : Bool) (ax ay : Nat) (w : World) (hx : ax < 2 ^ 129) (hy : ay < 2 ^ 129) :
    Calls Try.prog 32 #[.agg (numA mx ax), .agg (numA my ay)] w fun e w' => e = .returned (.int .i64 (cmpI (wv mx ax) (wv my ay))) ∧ Below w.heap.size w w' := by
  have K := St.start w
  have HZ1 := Lib.hid (fun w => zero_any mx ax w hx)
  have HZ2 := Lib.hid (fun w => zero_any my ay w hy)
  have HX := Lib.hid hx
  have HY := Lib.hid hy
  clear hx hy
  by_cases z1 : ax = 0
  · rw [decide_eq_true z1] at HZ1
    by_cases z2 : ay = 0
    · rw [decide_eq_true z2] at HZ2
      have HR : Hid (cmpI (wv mx ax) (wv my ay) = 0) := Lib.hid (by subst z1; subst z2; cases mx <;> cases my <;> rfl)
      clear z1 z2
      go_enter Try.func32, Try.ntmps32
      go_wp2_with (first|((with_reducible refine at_load ?_);first|(refine wm_load (cs := ?_) (t := ?_) (n := ?_) K rfl _ _ rfl rfl ?_ ?_ ?_ ?_;rotate_left 2;(repeat (first|exact At.hd|refine At.tl ?_));rotate_left;(with_reducible first|exact row47);((with_reducible exact numA_size _ _))))|((first|((with_reducible refine at_box ?_);refine wm_box K rfl _ _ rfl rfl rfl ?_));(try clear K);(try clear ww);(first|((fail_if_success (have _h := b2));intro b2 ww K)|((fail_if_success (have _h := b3));intro b3 ww K));(try simp [go_sem, Value.cells] at K))|(go_at_call 69;(with_reducible refine (HZ1.out _).mono ?_);rintro e w2 ⟨rfl, k1⟩;replace K := K.step k1;clear k1;(try clear ww);revert w2;intro ww K)|(go_at_call 69;(with_reducible refine (HZ2.out _).mono ?_);rintro e w2 ⟨rfl, k1⟩;replace K := K.step k1;clear k1;(try clear ww);revert w2;intro ww K))
      go_ret
      exact ⟨by rw [HR.out]; rfl, K.below⟩
    · rw [decide_eq_false z2] at HZ2
      have hz : ax ≠ 0 ∨ ay ≠ 0 := .inr z2
      clear z1 z2
      by_cases hs : mx = my
      · subst hs
        by_cases he : ax = ay
        · subst he
          have HR : Hid (cmpI (wv mx ax) (wv mx ax) = 0) := Lib.hid (by unfold cmpI; simp)
          have eb : ∀ w, (binOp .eql 45 (.agg (bitsA ax)) (.agg (bitsA ax))).run Try.prog w = .ok (.bool true) w := fun w => by rw [eql_bits ax ax HX.out HX.out, decide_eq_true rfl]
          have eg := guard_bits
          have ee2 : ∀ w, (Op.equalIn 10000 45 (.agg (bitsA ax)) (.agg (bitsA ax))).run Try.prog w = .ok true w := fun w => by rw [equalIn_bits ax ax HX.out HX.out, decide_eq_true rfl]
          clear hz
          go_enter Try.func32, Try.ntmps32
          go_wp2_with (first|((with_reducible refine at_load ?_);first|(refine wm_load (cs := ?_) (t := ?_) (n := ?_) K rfl _ _ rfl rfl ?_ ?_ ?_ ?_;rotate_left 2;(repeat (first|exact At.hd|refine At.tl ?_));rotate_left;(with_reducible first|exact row47);((with_reducible exact numA_size _ _))))|((first|((with_reducible refine at_box ?_);refine wm_box K rfl _ _ rfl rfl rfl ?_));(try clear K);(try clear ww);(first|((fail_if_success (have _h := b2));intro b2 ww K)|((fail_if_success (have _h := b3));intro b3 ww K));(try simp [go_sem, Value.cells] at K))|(go_at_call 69;(with_reducible refine (HZ1.out _).mono ?_);rintro e w2 ⟨rfl, k1⟩;replace K := K.step k1;clear k1;(try clear ww);revert w2;intro ww K))
          go_ret
          exact ⟨by rw [HR.out]; rfl, K.below⟩
        · have eb : ∀ w, (binOp .eql 45 (.agg (bitsA ax)) (.agg (bitsA ay))).run Try.prog w = .ok (.bool false) w := fun w => by rw [eql_bits ax ay HX.out HY.out, decide_eq_false he]
          have eg := guard_bits
          have ee2 : ∀ w, (Op.equalIn 10000 45 (.agg (bitsA ax)) (.agg (bitsA ay))).run Try.prog w = .ok false w := fun w => by rw [equalIn_bits ax ay HX.out HY.out, decide_eq_false he]
          by_cases hl : ax < ay
          · have HL := Lib.hid (fun w => Less_any ax ay w HX.out HY.out)
            rw [decide_eq_true hl] at HL
            cases mx
            · have HR : Hid (cmpI (wv false ax) (wv false ay) = -1) := Lib.hid (by unfold cmpI wv; simp; omega)
              clear hz he hl
              go_enter Try.func32, Try.ntmps32
              go_wp2_with (first|((with_reducible refine at_load ?_);refine wm_partB (m := ?_) (n := ?_) (t := ?_) K rfl _ _ rfl rfl ?_ ?_ ?_;rotate_left 3;(repeat (first|exact At.hd|refine At.tl ?_));(with_reducible exact row45))|((with_reducible refine at_load ?_);first|(refine wm_load (cs := ?_) (t := ?_) (n := ?_) K rfl _ _ rfl rfl ?_ ?_ ?_ ?_;rotate_left 2;(repeat (first|exact At.hd|refine At.tl ?_));rotate_left;(with_reducible first|exact row47);((with_reducible exact numA_size _ _)))|(refine wm_own (cs := ?_) (t := ?_) (v := ?_) K rfl _ _ rfl rfl ?_ ?_ ?_ ?_;rotate_left 2;(repeat (first|exact At.hd|refine At.tl ?_));rotate_left;((with_reducible exact numA_sign _ _));(with_reducible first|exact one4)))|((first|((with_reducible refine at_box ?_);refine wm_box K rfl _ _ rfl rfl rfl ?_));(try clear K);(try clear ww);(first|((fail_if_success (have _h := b2));intro b2 ww K)|((fail_if_success (have _h := b3));intro b3 ww K));(try simp [go_sem, Value.cells] at K))|(go_at_call 69;(with_reducible refine (HZ1.out _).mono ?_);rintro e w2 ⟨rfl, k1⟩;replace K := K.step k1;clear k1;(try clear ww);revert w2;intro ww K)|(go_at_call 69;(with_reducible refine (HZ2.out _).mono ?_);rintro e w2 ⟨rfl, k1⟩;replace K := K.step k1;clear k1;(try clear ww);revert w2;intro ww K))
              refine wm_held _ [(true, 0), (true, 1), (true, 2), (true, 3), (true, 5), (true, 6), (false, 4), (true, 7)] K sbr (by kernel_rfl) (by kernel_rfl) ?_; (try clear K); (try clear ww); intro ww K; (try simp [go_sem] at K); simp only [pick, List.getElem?_toArray, List.getElem?_cons_succ, List.getElem?_cons_zero]
              repeat (first|((with_reducible refine ht_load ?_);refine hm_partB (m := ?_) (n := ?_) (t := ?_) rfl _ _ rfl rfl ?_ ?_ ?_;rotate_left 3;(repeat (first|exact At.hd|refine At.tl ?_));(with_reducible exact row45))|((with_reducible refine ht_load ?_);first|(refine hm_own (cs := ?_) (t := ?_) (v := ?_) rfl _ _ rfl rfl ?_ ?_ ?_ ?_;rotate_left 2;(repeat (first|exact At.hd|refine At.tl ?_));rotate_left;((with_reducible exact numA_sign _ _));(with_reducible first|exact one4)))|(refine held_take (fun K' hK' => ?_);go_simp;first|(apply Exists.intro;refine ⟨?_, hK' _ ?_⟩;(intro _ _;rfl);clear hK' K'))|(refine held_do (fun K' hK' => ?_);go_simp;go_at_call 67;(with_reducible refine (HL.out _).mono ?_);rintro e w2 ⟨rfl, k1⟩;replace K := K.step k1;clear k1;(try clear ww);revert w2;intro ww K;(try dsimp only);refine hK' _ _ (by apply via sbr;first|exact K) ?_;clear hK' K'))
              refine held_nil ?_
              go_wp2
              go_ret
              exact ⟨by rw [HR.out]; rfl, K.below⟩
            · have HR : Hid (cmpI (wv true ax) (wv true ay) = 1) := Lib.hid (by unfold cmpI wv; simp; omega)
              clear hz he hl
              go_enter Try.func32, Try.ntmps32
              go_wp2_with (first|((with_reducible refine at_load ?_);refine wm_partB (m := ?_) (n := ?_) (t := ?_) K rfl _ _ rfl rfl ?_ ?_ ?_;rotate_left 3;(repeat (first|exact At.hd|refine At.tl ?_));(with_reducible exact row45))|((with_reducible refine at_load ?_);first|(refine wm_load (cs := ?_) (t := ?_) (n := ?_) K rfl _ _ rfl rfl ?_ ?_ ?_ ?_;rotate_left 2;(repeat (first|exact At.hd|refine At.tl ?_));rotate_left;(with_reducible first|exact row47);((with_reducible exact numA_size _ _)))|(refine wm_own (cs := ?_) (t := ?_) (v := ?_) K rfl _ _ rfl rfl ?_ ?_ ?_ ?_;rotate_left 2;(repeat (first|exact At.hd|refine At.tl ?_));rotate_left;((with_reducible exact numA_sign _ _));(with_reducible first|exact one4)))|((first|((with_reducible refine at_box ?_);refine wm_box K rfl _ _ rfl rfl rfl ?_));(try clear K);(try clear ww);(first|((fail_if_success (have _h := b2));intro b2 ww K)|((fail_if_success (have _h := b3));intro b3 ww K));(try simp [go_sem, Value.cells] at K))|(go_at_call 69;(with_reducible refine (HZ1.out _).mono ?_);rintro e w2 ⟨rfl, k1⟩;replace K := K.step k1;clear k1;(try clear ww);revert w2;intro ww K)|(go_at_call 69;(with_reducible refine (HZ2.out _).mono ?_);rintro e w2 ⟨rfl, k1⟩;replace K := K.step k1;clear k1;(try clear ww);revert w2;intro ww K))
              refine wm_held _ [(true, 0), (true, 1), (true, 2), (true, 3), (true, 5), (true, 6), (false, 4), (true, 7)] K sbr (by kernel_rfl) (by kernel_rfl) ?_; (try clear K); (try clear ww); intro ww K; (try simp [go_sem] at K); simp only [pick, List.getElem?_toArray, List.getElem?_cons_succ, List.getElem?_cons_zero]
              repeat (first|((with_reducible refine ht_load ?_);refine hm_partB (m := ?_) (n := ?_) (t := ?_) rfl _ _ rfl rfl ?_ ?_ ?_;rotate_left 3;(repeat (first|exact At.hd|refine At.tl ?_));(with_reducible exact row45))|((with_reducible refine ht_load ?_);first|(refine hm_own (cs := ?_) (t := ?_) (v := ?_) rfl _ _ rfl rfl ?_ ?_ ?_ ?_;rotate_left 2;(repeat (first|exact At.hd|refine At.tl ?_));rotate_left;((with_reducible exact numA_sign _ _));(with_reducible first|exact one4)))|(refine held_take (fun K' hK' => ?_);go_simp;first|(apply Exists.intro;refine ⟨?_, hK' _ ?_⟩;(intro _ _;rfl);clear hK' K'))|(refine held_do (fun K' hK' => ?_);go_simp;go_at_call 67;(with_reducible refine (HL.out _).mono ?_);rintro e w2 ⟨rfl, k1⟩;replace K := K.step k1;clear k1;(try clear ww);revert w2;intro ww K;(try dsimp only);refine hK' _ _ (by apply via sbr;first|exact K) ?_;clear hK' K'))
              refine held_nil ?_
              go_wp2
              go_ret
              exact ⟨by rw [HR.out]; rfl, K.below⟩
          · have HL := Lib.hid (fun w => Less_any ax ay w HX.out HY.out)
            rw [decide_eq_false hl] at HL
            cases mx
            · have HR : Hid (cmpI (wv false ax) (wv false ay) = 1) := Lib.hid (by unfold cmpI wv; simp; omega)
              clear hz he hl
              go_enter Try.func32, Try.ntmps32
              go_wp2_with (first|((with_reducible refine at_load ?_);refine wm_partB (m := ?_) (n := ?_) (t := ?_) K rfl _ _ rfl rfl ?_ ?_ ?_;rotate_left 3;(repeat (first|exact At.hd|refine At.tl ?_));(with_reducible exact row45))|((with_reducible refine at_load ?_);first|(refine wm_load (cs := ?_) (t := ?_) (n := ?_) K rfl _ _ rfl rfl ?_ ?_ ?_ ?_;rotate_left 2;(repeat (first|exact At.hd|refine At.tl ?_));rotate_left;(with_reducible first|exact row47);((with_reducible exact numA_size _ _)))|(refine wm_own (cs := ?_) (t := ?_) (v := ?_) K rfl _ _ rfl rfl ?_ ?_ ?_ ?_;rotate_left 2;(repeat (first|exact At.hd|refine At.tl ?_));rotate_left;((with_reducible exact numA_sign _ _));(with_reducible first|exact one4)))|((first|((with_reducible refine at_box ?_);refine wm_box K rfl _ _ rfl rfl rfl ?_));(try clear K);(try clear ww);(first|((fail_if_success (have _h := b2));intro b2 ww K)|((fail_if_success (have _h := b3));intro b3 ww K));(try simp [go_sem, Value.cells] at K))|(go_at_call 69;(with_reducible refine (HZ1.out _).mono ?_);rintro e w2 ⟨rfl, k1⟩;replace K := K.step k1;clear k1;(try clear ww);revert w2;intro ww K)|(go_at_call 69;(with_reducible refine (HZ2.out _).mono ?_);rintro e w2 ⟨rfl, k1⟩;replace K := K.step k1;clear k1;(try clear ww);revert w2;intro ww K))
              refine wm_held _ [(true, 0), (true, 1), (true, 2), (true, 3), (true, 5), (true, 6), (false, 4), (true, 7)] K sbr (by kernel_rfl) (by kernel_rfl) ?_; (try clear K); (try clear ww); intro ww K; (try simp [go_sem] at K); simp only [pick, List.getElem?_toArray, List.getElem?_cons_succ, List.getElem?_cons_zero]
              repeat (first|((with_reducible refine ht_load ?_);refine hm_partB (m := ?_) (n := ?_) (t := ?_) rfl _ _ rfl rfl ?_ ?_ ?_;rotate_left 3;(repeat (first|exact At.hd|refine At.tl ?_));(with_reducible exact row45))|((with_reducible refine ht_load ?_);first|(refine hm_own (cs := ?_) (t := ?_) (v := ?_) rfl _ _ rfl rfl ?_ ?_ ?_ ?_;rotate_left 2;(repeat (first|exact At.hd|refine At.tl ?_));rotate_left;((with_reducible exact numA_sign _ _));(with_reducible first|exact one4)))|(refine held_take (fun K' hK' => ?_);go_simp;first|(apply Exists.intro;refine ⟨?_, hK' _ ?_⟩;(intro _ _;rfl);clear hK' K'))|(refine held_do (fun K' hK' => ?_);go_simp;go_at_call 67;(with_reducible refine (HL.out _).mono ?_);rintro e w2 ⟨rfl, k1⟩;replace K := K.step k1;clear k1;(try clear ww);revert w2;intro ww K;(try dsimp only);refine hK' _ _ (by apply via sbr;first|exact K) ?_;clear hK' K'))
              refine held_nil ?_
              go_wp2
              go_ret
              exact ⟨by rw [HR.out]; rfl, K.below⟩
            · have HR : Hid (cmpI (wv true ax) (wv true ay) = -1) := Lib.hid (by unfold cmpI wv; simp; omega)
              clear hz he hl
              go_enter Try.func32, Try.ntmps32
              go_wp2_with (first|((with_reducible refine at_load ?_);refine wm_partB (m := ?_) (n := ?_) (t := ?_) K rfl _ _ rfl rfl ?_ ?_ ?_;rotate_left 3;(repeat (first|exact At.hd|refine At.tl ?_));(with_reducible exact row45))|((with_reducible refine at_load ?_);first|(refine wm_load (cs := ?_) (t := ?_) (n := ?_) K rfl _ _ rfl rfl ?_ ?_ ?_ ?_;rotate_left 2;(repeat (first|exact At.hd|refine At.tl ?_));rotate_left;(with_reducible first|exact row47);((with_reducible exact numA_size _ _)))|(refine wm_own (cs := ?_) (t := ?_) (v := ?_) K rfl _ _ rfl rfl ?_ ?_ ?_ ?_;rotate_left 2;(repeat (first|exact At.hd|refine At.tl ?_));rotate_left;((with_reducible exact numA_sign _ _));(with_reducible first|exact one4)))|((first|((with_reducible refine at_box ?_);refine wm_box K rfl _ _ rfl rfl rfl ?_));(try clear K);(try clear ww);(first|((fail_if_success (have _h := b2));intro b2 ww K)|((fail_if_success (have _h := b3));intro b3 ww K));(try simp [go_sem, Value.cells] at K))|(go_at_call 69;(with_reducible refine (HZ1.out _).mono ?_);rintro e w2 ⟨rfl, k1⟩;replace K := K.step k1;clear k1;(try clear ww);revert w2;intro ww K)|(go_at_call 69;(with_reducible refine (HZ2.out _).mono ?_);rintro e w2 ⟨rfl, k1⟩;replace K := K.step k1;clear k1;(try clear ww);revert w2;intro ww K))
              refine wm_held _ [(true, 0), (true, 1), (true, 2), (true, 3), (true, 5), (true, 6), (false, 4), (true, 7)] K sbr (by kernel_rfl) (by kernel_rfl) ?_; (try clear K); (try clear ww); intro ww K; (try simp [go_sem] at K); simp only [pick, List.getElem?_toArray, List.getElem?_cons_succ, List.getElem?_cons_zero]
              repeat (first|((with_reducible refine ht_load ?_);refine hm_partB (m := ?_) (n := ?_) (t := ?_) rfl _ _ rfl rfl ?_ ?_ ?_;rotate_left 3;(repeat (first|exact At.hd|refine At.tl ?_));(with_reducible exact row45))|((with_reducible refine ht_load ?_);first|(refine hm_own (cs := ?_) (t := ?_) (v := ?_) rfl _ _ rfl rfl ?_ ?_ ?_ ?_;rotate_left 2;(repeat (first|exact At.hd|refine At.tl ?_));rotate_left;((with_reducible exact numA_sign _ _));(with_reducible first|exact one4)))|(refine held_take (fun K' hK' => ?_);go_simp;first|(apply Exists.intro;refine ⟨?_, hK' _ ?_⟩;(intro _ _;rfl);clear hK' K'))|(refine held_do (fun K' hK' => ?_);go_simp;go_at_call 67;(with_reducible refine (HL.out _).mono ?_);rintro e w2 ⟨rfl, k1⟩;replace K := K.step k1;clear k1;(try clear ww);revert w2;intro ww K;(try dsimp only);refine hK' _ _ (by apply via sbr;first|exact K) ?_;clear hK' K'))
              refine held_nil ?_
              go_wp2
              go_ret
              exact ⟨by rw [HR.out]; rfl, K.below⟩
      · cases mx <;> cases my
        · exact absurd rfl hs
        · have HR : Hid (cmpI (wv false ax) (wv true ay) = 1) := Lib.hid (by unfold cmpI wv; simp; omega)
          clear hz hs
          go_enter Try.func32, Try.ntmps32
          go_wp2_with (first|((with_reducible refine at_load ?_);first|(refine wm_load (cs := ?_) (t := ?_) (n := ?_) K rfl _ _ rfl rfl ?_ ?_ ?_ ?_;rotate_left 2;(repeat (first|exact At.hd|refine At.tl ?_));rotate_left;(with_reducible first|exact row47);((with_reducible exact numA_size _ _)))|(refine wm_own (cs := ?_) (t := ?_) (v := ?_) K rfl _ _ rfl rfl ?_ ?_ ?_ ?_;rotate_left 2;(repeat (first|exact At.hd|refine At.tl ?_));rotate_left;((with_reducible exact numA_sign _ _));(with_reducible first|exact one4)))|((first|((with_reducible refine at_box ?_);refine wm_box K rfl _ _ rfl rfl rfl ?_));(try clear K);(try clear ww);(first|((fail_if_success (have _h := b2));intro b2 ww K)|((fail_if_success (have _h := b3));intro b3 ww K));(try simp [go_sem, Value.cells] at K))|(go_at_call 69;(with_reducible refine (HZ1.out _).mono ?_);rintro e w2 ⟨rfl, k1⟩;replace K := K.step k1;clear k1;(try clear ww);revert w2;intro ww K)|(go_at_call 69;(with_reducible refine (HZ2.out _).mono ?_);rintro e w2 ⟨rfl, k1⟩;replace K := K.step k1;clear k1;(try clear ww);revert w2;intro ww K))
          go_ret
          exact ⟨by rw [HR.out]; rfl, K.below⟩
        · have HR : Hid (cmpI (wv true ax) (wv false ay) = -1) := Lib.hid (by unfold cmpI wv; simp; omega)
          clear hz hs
          go_enter Try.func32, Try.ntmps32
          go_wp2_with (first|((with_reducible refine at_load ?_);first|(refine wm_load (cs := ?_) (t := ?_) (n := ?_) K rfl _ _ rfl rfl ?_ ?_ ?_ ?_;rotate_left 2;(repeat (first|exact At.hd|refine At.tl ?_));rotate_left;(with_reducible first|exact row47);((with_reducible exact numA_size _ _)))|(refine wm_own (cs := ?_) (t := ?_) (v := ?_) K rfl _ _ rfl rfl ?_ ?_ ?_ ?_;rotate_left 2;(repeat (first|exact At.hd|refine At.tl ?_));rotate_left;((with_reducible exact numA_sign _ _));(with_reducible first|exact one4)))|((first|((with_reducible refine at_box ?_);refine wm_box K rfl _ _ rfl rfl rfl ?_));(try clear K);(try clear ww);(first|((fail_if_success (have _h := b2));intro b2 ww K)|((fail_if_success (have _h := b3));intro b3 ww K));(try simp [go_sem, Value.cells] at K))|(go_at_call 69;(with_reducible refine (HZ1.out _).mono ?_);rintro e w2 ⟨rfl, k1⟩;replace K := K.step k1;clear k1;(try clear ww);revert w2;intro ww K)|(go_at_call 69;(with_reducible refine (HZ2.out _).mono ?_);rintro e w2 ⟨rfl, k1⟩;replace K := K.step k1;clear k1;(try clear ww);revert w2;intro ww K))
          go_ret
          exact ⟨by rw [HR.out]; rfl, K.below⟩
        · exact absurd rfl hs
  · rw [decide_eq_false z1] at HZ1
    have hz : ax ≠ 0 ∨ ay ≠ 0 := .inl z1
    clear z1 HZ2
    by_cases hs : mx = my
    · subst hs
      by_cases he : ax = ay
      · subst he
        have HR : Hid (cmpI (wv mx ax) (wv mx ax) = 0) := Lib.hid (by unfold cmpI; simp)
        have eb : ∀ w, (binOp .eql 45 (.agg (bitsA ax)) (.agg (bitsA ax))).run Try.prog w = .ok (.bool true) w := fun w => by rw [eql_bits ax ax HX.out HX.out, decide_eq_true rfl]
        have eg := guard_bits
        have ee2 : ∀ w, (Op.equalIn 10000 45 (.agg (bitsA ax)) (.agg (bitsA ax))).run Try.prog w = .ok true w := fun w => by rw [equalIn_bits ax ax HX.out HX.out, decide_eq_true rfl]
        clear hz
        go_enter Try.func32, Try.ntmps32
        go_wp2_with (first|go_big_skip|((with_reducible refine at_load ?_);refine wm_partB (m := ?_) (n := ?_) (t := ?_) K rfl _ _ rfl rfl ?_ ?_ ?_;rotate_left 3;(repeat (first|exact At.hd|refine At.tl ?_));(with_reducible exact row45))|((with_reducible refine at_load ?_);first|(refine wm_load (cs := ?_) (t := ?_) (n := ?_) K rfl _ _ rfl rfl ?_ ?_ ?_ ?_;rotate_left 2;(repeat (first|exact At.hd|refine At.tl ?_));rotate_left;(with_reducible first|exact row47);((with_reducible exact numA_size _ _)))|(refine wm_own (cs := ?_) (t := ?_) (v := ?_) K rfl _ _ rfl rfl ?_ ?_ ?_ ?_;rotate_left 2;(repeat (first|exact At.hd|refine At.tl ?_));rotate_left;((with_reducible exact numA_sign _ _));(with_reducible first|exact one4)))|((first|((with_reducible refine at_box ?_);refine wm_box K rfl _ _ rfl rfl rfl ?_));(try clear K);(try clear ww);(first|((fail_if_success (have _h := b2));intro b2 ww K)|((fail_if_success (have _h := b3));intro b3 ww K));(try simp [go_sem, Value.cells] at K))|(go_at_call 69;(with_reducible refine (HZ1.out _).mono ?_);rintro e w2 ⟨rfl, k1⟩;replace K := K.step k1;clear k1;(try clear ww);revert w2;intro ww K))
        go_ret
        exact ⟨by rw [HR.out]; rfl, K.below⟩
      · have eb : ∀ w, (binOp .eql 45 (.agg (bitsA ax)) (.agg (bitsA ay))).run Try.prog w = .ok (.bool false) w := fun w => by rw [eql_bits ax ay HX.out HY.out, decide_eq_false he]
        have eg := guard_bits
        have ee2 : ∀ w, (Op.equalIn 10000 45 (.agg (bitsA ax)) (.agg (bitsA ay))).run Try.prog w = .ok false w := fun w => by rw [equalIn_bits ax ay HX.out HY.out, decide_eq_false he]
        by_cases hl : ax < ay
        · have HL := Lib.hid (fun w => Less_any ax ay w HX.out HY.out)
          rw [decide_eq_true hl] at HL
          cases mx
          · have HR : Hid (cmpI (wv false ax) (wv false ay) = -1) := Lib.hid (by unfold cmpI wv; simp; omega)
            clear hz he hl
            go_enter Try.func32, Try.ntmps32
            go_wp2_with (first|go_big_skip|((with_reducible refine at_load ?_);refine wm_partB (m := ?_) (n := ?_) (t := ?_) K rfl _ _ rfl rfl ?_ ?_ ?_;rotate_left 3;(repeat (first|exact At.hd|refine At.tl ?_));(with_reducible exact row45))|((with_reducible refine at_load ?_);first|(refine wm_load (cs := ?_) (t := ?_) (n := ?_) K rfl _ _ rfl rfl ?_ ?_ ?_ ?_;rotate_left 2;(repeat (first|exact At.hd|refine At.tl ?_));rotate_left;(with_reducible first|exact row47);((with_reducible exact numA_size _ _)))|(refine wm_own (cs := ?_) (t := ?_) (v := ?_) K rfl _ _ rfl rfl ?_ ?_ ?_ ?_;rotate_left 2;(repeat (first|exact At.hd|refine At.tl ?_));rotate_left;((with_reducible exact numA_sign _ _));(with_reducible first|exact one4)))|((first|((with_reducible refine at_box ?_);refine wm_box K rfl _ _ rfl rfl rfl ?_));(try clear K);(try clear ww);(first|((fail_if_success (have _h := b2));intro b2 ww K)|((fail_if_success (have _h := b3));intro b3 ww K));(try simp [go_sem, Value.cells] at K))|(go_at_call 69;(with_reducible refine (HZ1.out _).mono ?_);rintro e w2 ⟨rfl, k1⟩;replace K := K.step k1;clear k1;(try clear ww);revert w2;intro ww K))
            refine wm_held _ [(true, 0), (true, 1), (true, 2), (true, 3), (true, 5), (true, 6), (false, 4), (true, 7)] K sbr (by kernel_rfl) (by kernel_rfl) ?_; (try clear K); (try clear ww); intro ww K; (try simp [go_sem] at K); simp only [pick, List.getElem?_toArray, List.getElem?_cons_succ, List.getElem?_cons_zero]
            repeat (first|((with_reducible refine ht_load ?_);refine hm_partB (m := ?_) (n := ?_) (t := ?_) rfl _ _ rfl rfl ?_ ?_ ?_;rotate_left 3;(repeat (first|exact At.hd|refine At.tl ?_));(with_reducible exact row45))|((with_reducible refine ht_load ?_);first|(refine hm_own (cs := ?_) (t := ?_) (v := ?_) rfl _ _ rfl rfl ?_ ?_ ?_ ?_;rotate_left 2;(repeat (first|exact At.hd|refine At.tl ?_));rotate_left;((with_reducible exact numA_sign _ _));(with_reducible first|exact one4)))|(refine held_take (fun K' hK' => ?_);go_simp;first|(apply Exists.intro;refine ⟨?_, hK' _ ?_⟩;(intro _ _;rfl);clear hK' K'))|(refine held_do (fun K' hK' => ?_);go_simp;go_at_call 67;(with_reducible refine (HL.out _).mono ?_);rintro e w2 ⟨rfl, k1⟩;replace K := K.step k1;clear k1;(try clear ww);revert w2;intro ww K;(try dsimp only);refine hK' _ _ (by apply via sbr;first|exact K) ?_;clear hK' K'))
            refine held_nil ?_
            go_wp2
            go_ret
            exact ⟨by rw [HR.out]; rfl, K.below⟩
          · have HR : Hid (cmpI (wv true ax) (wv true ay) = 1) := Lib.hid (by unfold cmpI wv; simp; omega)
            clear hz he hl
            go_enter Try.func32, Try.ntmps32
            go_wp2_with (first|go_big_skip|((with_reducible refine at_load ?_);refine wm_partB (m := ?_) (n := ?_) (t := ?_) K rfl _ _ rfl rfl ?_ ?_ ?_;rotate_left 3;(repeat (first|exact At.hd|refine At.tl ?_));(with_reducible exact row45))|((with_reducible refine at_load ?_);first|(refine wm_load (cs := ?_) (t := ?_) (n := ?_) K rfl _ _ rfl rfl ?_ ?_ ?_ ?_;rotate_left 2;(repeat (first|exact At.hd|refine At.tl ?_));rotate_left;(with_reducible first|exact row47);((with_reducible exact numA_size _ _)))|(refine wm_own (cs := ?_) (t := ?_) (v := ?_) K rfl _ _ rfl rfl ?_ ?_ ?_ ?_;rotate_left 2;(repeat (first|exact At.hd|refine At.tl ?_));rotate_left;((with_reducible exact numA_sign _ _));(with_reducible first|exact one4)))|((first|((with_reducible refine at_box ?_);refine wm_box K rfl _ _ rfl rfl rfl ?_));(try clear K);(try clear ww);(first|((fail_if_success (have _h := b2));intro b2 ww K)|((fail_if_success (have _h := b3));intro b3 ww K));(try simp [go_sem, Value.cells] at K))|(go_at_call 69;(with_reducible refine (HZ1.out _).mono ?_);rintro e w2 ⟨rfl, k1⟩;replace K := K.step k1;clear k1;(try clear ww);revert w2;intro ww K))
            refine wm_held _ [(true, 0), (true, 1), (true, 2), (true, 3), (true, 5), (true, 6), (false, 4), (true, 7)] K sbr (by kernel_rfl) (by kernel_rfl) ?_; (try clear K); (try clear ww); intro ww K; (try simp [go_sem] at K); simp only [pick, List.getElem?_toArray, List.getElem?_cons_succ, List.getElem?_cons_zero]
            repeat (first|((with_reducible refine ht_load ?_);refine hm_partB (m := ?_) (n := ?_) (t := ?_) rfl _ _ rfl rfl ?_ ?_ ?_;rotate_left 3;(repeat (first|exact At.hd|refine At.tl ?_));(with_reducible exact row45))|((with_reducible refine ht_load ?_);first|(refine hm_own (cs := ?_) (t := ?_) (v := ?_) rfl _ _ rfl rfl ?_ ?_ ?_ ?_;rotate_left 2;(repeat (first|exact At.hd|refine At.tl ?_));rotate_left;((with_reducible exact numA_sign _ _));(with_reducible first|exact one4)))|(refine held_take (fun K' hK' => ?_);go_simp;first|(apply Exists.intro;refine ⟨?_, hK' _ ?_⟩;(intro _ _;rfl);clear hK' K'))|(refine held_do (fun K' hK' => ?_);go_simp;go_at_call 67;(with_reducible refine (HL.out _).mono ?_);rintro e w2 ⟨rfl, k1⟩;replace K := K.step k1;clear k1;(try clear ww);revert w2;intro ww K;(try dsimp only);refine hK' _ _ (by apply via sbr;first|exact K) ?_;clear hK' K'))
            refine held_nil ?_
            go_wp2
            go_ret
            exact ⟨by rw [HR.out]; rfl, K.below⟩
        · have HL := Lib.hid (fun w => Less_any ax ay w HX.out HY.out)
          rw [decide_eq_false hl] at HL
          cases mx
          · have HR : Hid (cmpI (wv false ax) (wv false ay) = 1) := Lib.hid (by unfold cmpI wv; simp; omega)
            clear hz he hl
            go_enter Try.func32, Try.ntmps32
            go_wp2_with (first|go_big_skip|((with_reducible refine at_load ?_);refine wm_partB (m := ?_) (n := ?_) (t := ?_) K rfl _ _ rfl rfl ?_ ?_ ?_;rotate_left 3;(repeat (first|exact At.hd|refine At.tl ?_));(with_reducible exact row45))|((with_reducible refine at_load ?_);first|(refine wm_load (cs := ?_) (t := ?_) (n := ?_) K rfl _ _ rfl rfl ?_ ?_ ?_ ?_;rotate_left 2;(repeat (first|exact At.hd|refine At.tl ?_));rotate_left;(with_reducible first|exact row47);((with_reducible exact numA_size _ _)))|(refine wm_own (cs := ?_) (t := ?_) (v := ?_) K rfl _ _ rfl rfl ?_ ?_ ?_ ?_;rotate_left 2;(repeat (first|exact At.hd|refine At.tl ?_));rotate_left;((with_reducible exact numA_sign _ _));(with_reducible first|exact one4)))|((first|((with_reducible refine at_box ?_);refine wm_box K rfl _ _ rfl rfl rfl ?_));(try clear K);(try clear ww);(first|((fail_if_success (have _h := b2));intro b2 ww K)|((fail_if_success (have _h := b3));intro b3 ww K));(try simp [go_sem, Value.cells] at K))|(go_at_call 69;(with_reducible refine (HZ1.out _).mono ?_);rintro e w2 ⟨rfl, k1⟩;replace K := K.step k1;clear k1;(try clear ww);revert w2;intro ww K))
            refine wm_held _ [(true, 0), (true, 1), (true, 2), (true, 3), (true, 5), (true, 6), (false, 4), (true, 7)] K sbr (by kernel_rfl) (by kernel_rfl) ?_; (try clear K); (try clear ww); intro ww K; (try simp [go_sem] at K); simp only [pick, List.getElem?_toArray, List.getElem?_cons_succ, List.getElem?_cons_zero]
            repeat (first|((with_reducible refine ht_load ?_);refine hm_partB (m := ?_) (n := ?_) (t := ?_) rfl _ _ rfl rfl ?_ ?_ ?_;rotate_left 3;(repeat (first|exact At.hd|refine At.tl ?_));(with_reducible exact row45))|((with_reducible refine ht_load ?_);first|(refine hm_own (cs := ?_) (t := ?_) (v := ?_) rfl _ _ rfl rfl ?_ ?_ ?_ ?_;rotate_left 2;(repeat (first|exact At.hd|refine At.tl ?_));rotate_left;((with_reducible exact numA_sign _ _));(with_reducible first|exact one4)))|(refine held_take (fun K' hK' => ?_);go_simp;first|(apply Exists.intro;refine ⟨?_, hK' _ ?_⟩;(intro _ _;rfl);clear hK' K'))|(refine held_do (fun K' hK' => ?_);go_simp;go_at_call 67;(with_reducible refine (HL.out _).mono ?_);rintro e w2 ⟨rfl, k1⟩;replace K := K.step k1;clear k1;(try clear ww);revert w2;intro ww K;(try dsimp only);refine hK' _ _ (by apply via sbr;first|exact K) ?_;clear hK' K'))
            refine held_nil ?_
            go_wp2
            go_ret
            exact ⟨by rw [HR.out]; rfl, K.below⟩
          · have HR : Hid (cmpI (wv true ax) (wv true ay) = -1) := Lib.hid (by unfold cmpI wv; simp; omega)
            clear hz he hl
            go_enter Try.func32, Try.ntmps32
            go_wp2_with (first|go_big_skip|((with_reducible refine at_load ?_);refine wm_partB (m := ?_) (n := ?_) (t := ?_) K rfl _ _ rfl rfl ?_ ?_ ?_;rotate_left 3;(repeat (first|exact At.hd|refine At.tl ?_));(with_reducible exact row45))|((with_reducible refine at_load ?_);first|(refine wm_load (cs := ?_) (t := ?_) (n := ?_) K rfl _ _ rfl rfl ?_ ?_ ?_ ?_;rotate_left 2;(repeat (first|exact At.hd|refine At.tl ?_));rotate_left;(with_reducible first|exact row47);((with_reducible exact numA_size _ _)))|(refine wm_own (cs := ?_) (t := ?_) (v := ?_) K rfl _ _ rfl rfl ?_ ?_ ?_ ?_;rotate_left 2;(repeat (first|exact At.hd|refine At.tl ?_));rotate_left;((with_reducible exact numA_sign _ _));(with_reducible first|exact one4)))|((first|((with_reducible refine at_box ?_);refine wm_box K rfl _ _ rfl rfl rfl ?_));(try clear K);(try clear ww);(first|((fail_if_success (have _h := b2));intro b2 ww K)|((fail_if_success (have _h := b3));intro b3 ww K));(try simp [go_sem, Value.cells] at K))|(go_at_call 69;(with_reducible refine (HZ1.out _).mono ?_);rintro e w2 ⟨rfl, k1⟩;replace K := K.step k1;clear k1;(try clear ww);revert w2;intro ww K))
            refine wm_held _ [(true, 0), (true, 1), (true, 2), (true, 3), (true, 5), (true, 6), (false, 4), (true, 7)] K sbr (by kernel_rfl) (by kernel_rfl) ?_; (try clear K); (try clear ww); intro ww K; (try simp [go_sem] at K); simp only [pick, List.getElem?_toArray, List.getElem?_cons_succ, List.getElem?_cons_zero]
            repeat (first|((with_reducible refine ht_load ?_);refine hm_partB (m := ?_) (n := ?_) (t := ?_) rfl _ _ rfl rfl ?_ ?_ ?_;rotate_left 3;(repeat (first|exact At.hd|refine At.tl ?_));(with_reducible exact row45))|((with_reducible refine ht_load ?_);first|(refine hm_own (cs := ?_) (t := ?_) (v := ?_) rfl _ _ rfl rfl ?_ ?_ ?_ ?_;rotate_left 2;(repeat (first|exact At.hd|refine At.tl ?_));rotate_left;((with_reducible exact numA_sign _ _));(with_reducible first|exact one4)))|(refine held_take (fun K' hK' => ?_);go_simp;first|(apply Exists.intro;refine ⟨?_, hK' _ ?_⟩;(intro _ _;rfl);clear hK' K'))|(refine held_do (fun K' hK' => ?_);go_simp;go_at_call 67;(with_reducible refine (HL.out _).mono ?_);rintro e w2 ⟨rfl, k1⟩;replace K := K.step k1;clear k1;(try clear ww);revert w2;intro ww K;(try dsimp only);refine hK' _ _ (by apply via sbr;first|exact K) ?_;clear hK' K'))
            refine held_nil ?_
            go_wp2
            go_ret
            exact ⟨by rw [HR.out]; rfl, K.below⟩
    · cases mx <;> cases my
      · exact absurd rfl hs
      · have HR : Hid (cmpI (wv false ax) (wv true ay) = 1) := Lib.hid (by unfold cmpI wv; simp; omega)
        clear hz hs
        go_enter Try.func32, Try.ntmps32
        go_wp2_with (first|go_big_skip|((with_reducible refine at_load ?_);first|(refine wm_load (cs := ?_) (t := ?_) (n := ?_) K rfl _ _ rfl rfl ?_ ?_ ?_ ?_;rotate_left 2;(repeat (first|exact At.hd|refine At.tl ?_));rotate_left;(with_reducible first|exact row47);((with_reducible exact numA_size _ _)))|(refine wm_own (cs := ?_) (t := ?_) (v := ?_) K rfl _ _ rfl rfl ?_ ?_ ?_ ?_;rotate_left 2;(repeat (first|exact At.hd|refine At.tl ?_));rotate_left;((with_reducible exact numA_sign _ _));(with_reducible first|exact one4)))|((first|((with_reducible refine at_box ?_);refine wm_box K rfl _ _ rfl rfl rfl ?_));(try clear K);(try clear ww);(first|((fail_if_success (have _h := b2));intro b2 ww K)|((fail_if_success (have _h := b3));intro b3 ww K));(try simp [go_sem, Value.cells] at K))|(go_at_call 69;(with_reducible refine (HZ1.out _).mono ?_);rintro e w2 ⟨rfl, k1⟩;replace K := K.step k1;clear k1;(try clear ww);revert w2;intro ww K))
        go_ret
        exact ⟨by rw [HR.out]; rfl, K.below⟩
      · have HR : Hid (cmpI (wv true ax) (wv false ay) = -1) := Lib.hid (by unfold cmpI wv; simp; omega)
        clear hz hs
        go_enter Try.func32, Try.ntmps32
        go_wp2_with (first|go_big_skip|((with_reducible refine at_load ?_);first|(refine wm_load (cs := ?_) (t := ?_) (n := ?_) K rfl _ _ rfl rfl ?_ ?_ ?_ ?_;rotate_left 2;(repeat (first|exact At.hd|refine At.tl ?_));rotate_left;(with_reducible first|exact row47);((with_reducible exact numA_size _ _)))|(refine wm_own (cs := ?_) (t := ?_) (v := ?_) K rfl _ _ rfl rfl ?_ ?_ ?_ ?_;rotate_left 2;(repeat (first|exact At.hd|refine At.tl ?_));rotate_left;((with_reducible exact numA_sign _ _));(with_reducible first|exact one4)))|((first|((with_reducible refine at_box ?_);refine wm_box K rfl _ _ rfl rfl rfl ?_));(try clear K);(try clear ww);(first|((fail_if_success (have _h := b2));intro b2 ww K)|((fail_if_success (have _h := b3));intro b3 ww K));(try simp [go_sem, Value.cells] at K))|(go_at_call 69;(with_reducible refine (HZ1.out _).mono ?_);rintro e w2 ⟨rfl, k1⟩;replace K := K.step k1;clear k1;(try clear ww);revert w2;intro ww K))
        go_ret
        exact ⟨by rw [HR.out]; rfl, K.below⟩
      · exact absurd rfl hs
theorem Cmp_any (x y : Int) (w : World) (hx : x.natAbs < 2 ^ 129) (hy : y.natAbs < 2 ^ 129) :
    Calls Try.prog 32 #[.agg (numI x), .agg (numI y)] w fun e w' => e = .returned (.int .i64 (cmpI x y)) ∧ Below w.heap.size w w' := by
  have := Cmp_num (decide (x < 0)) (decide (y < 0)) x.natAbs y.natAbs w hx hy
  rwa [wv_numI, wv_numI] at this
end Go.Proofs.Ytpejoaefnnbghaa
