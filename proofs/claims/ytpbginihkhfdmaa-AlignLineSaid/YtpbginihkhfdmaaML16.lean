/-
  Lemmas and walks of this claim (the texts To35 of the work; what no proof here uses is left out). No claim of their own.
-/
import Derived.Test.YtpbginihkhfdmaaML14
import Derived.Test.YtpbginihkhfdmaaML13
set_option linter.all false
set_option linter.unusedSimpArgs false
set_option linter.unusedVariables false
namespace Go.Proofs.Ytpbginihkhfdmaa
open Go.RowKit
attribute [local irreducible] wpHeld wpTree wpList
set_option linter.unusedVariables false
theorem get_pt {g : Nat} {cs l : List Pt} {fr n i : Nat} {hold T X : Int} {w : World} (hT : Trk w g (trkA cs fr n hold)) (hR : Ring cs fr n l) (hi : i < n) (h1 : (ptAt l i).1 = T) (h2 : (ptAt l i).2 = X) :
    Calls Try.prog 21 #[.pointer (some ⟨g, 0, none⟩), .int .i64 i] w fun e w' => e = .returned (.agg #[.int .u32 T, .int .i64 X]) ∧ Below w.heap.size w w' := by
  have := get35 g cs fr n i _ hold w hT hR.len hR.fr16 (by have := hR.n16; omega) rfl
  rw [hR.get i hi] at this
  unfold ptV at this
  rw [h1, h2] at this
  exact this
theorem get_pt0 {g : Nat} {cs l : List Pt} {fr n : Nat} {hold T X : Int} {w : World} (hT : Trk w g (trkA cs fr n hold)) (hR : Ring cs fr n l) (hi : 0 < n) (h1 : (ptAt l 0).1 = T) (h2 : (ptAt l 0).2 = X) :
    Calls Try.prog 21 #[.pointer (some ⟨g, 0, none⟩), .int .i64 0] w fun e w' => e = .returned (.agg #[.int .u32 T, .int .i64 X]) ∧ Below w.heap.size w w' := get_pt (i := 0) hT hR hi h1 h2
set_option maxRecDepth 100000 in
set_option maxHeartbeats 4000000 in
theorem Rate35 (g : Nat) (cs l : List Pt) (fr n : Nat) (hold : Int) (w : World) (hT : Trk w g (trkA cs fr n hold)) (hR : Ring cs fr n l) (hr : Rise l) :
    Calls Try.prog 15 #[.pointer (some ⟨g, 0, none⟩)] w fun e w' => e = .returned (.tuple #[.int .i64 (rate35 l).1, .int .i64 (rate35 l).2]) ∧ Below w.heap.size w w' := by
  have K := St.start w
  have hb := hT.1
  have hv1 := hT.2 33 _ (trkA_n hR.len)
  have hln := hR.ln
  have hn16 := hR.n16
  have HT := Lib.hid hT
  by_cases h2 : n < 2
  · have t1 : decide ((n : Int) < 2) = true := decide_eq_true (by omega)
    have t1n : decide (n < 2) = true := decide_eq_true h2
    have e : rate35 l = (0, 7) := by unfold rate35; rw [if_pos (by omega)]
    rw [e]
    clear hT hR hr hln hn16 h2 e
    go_enter Try.func15, Try.ntmps15
    go_wp2_with (first|((with_reducible refine at_load ?_);first|(refine wm_load (cs := ?_) (t := ?_) (n := ?_) K rfl _ _ rfl rfl ?_ ?_ ?_ ?_;rotate_left 2;(repeat (first|exact At.hd|refine At.tl ?_));rotate_left;(with_reducible first|exact row35);(solve|exact rfl|simp))|(refine wm_own (cs := ?_) (t := ?_) (v := ?_) K rfl _ _ rfl rfl ?_ ?_ ?_ ?_;rotate_left 2;(repeat (first|exact At.hd|refine At.tl ?_));rotate_left;(first|exact rfl|assumption);(with_reducible first|exact one2|exact one3|exact one22))|(refine wm_cell (v := ?_) rfl _ _ rfl rfl ?_ ?_ ?_;rotate_left;(first|assumption|exact (K.below.cell (by assumption)).trans (by assumption));(with_reducible first|exact one2|exact one3|exact one22))))
    go_ret2
    exact ⟨rfl, K.below⟩
  have t1 : decide ((n : Int) < 2) = false := decide_eq_false (by omega)
  have t1n : decide (n < 2) = false := decide_eq_false h2
  obtain ⟨i, hi⟩ : ∃ i, n - 1 = i := ⟨_, rfl⟩
  obtain ⟨T0, hT0⟩ : ∃ T0, (ptAt l 0).1 = T0 := ⟨_, rfl⟩
  obtain ⟨X0, hX0⟩ : ∃ X0, (ptAt l 0).2 = X0 := ⟨_, rfl⟩
  obtain ⟨T1, hT1⟩ : ∃ T1, (ptAt l i).1 = T1 := ⟨_, rfl⟩
  obtain ⟨X1, hX1⟩ : ∃ X1, (ptAt l i).2 = X1 := ⟨_, rfl⟩
  have G0 := Lib.hid (fun (w : World) (h : Trk w g (trkA cs fr n hold)) => get_pt0 h hR (by omega) hT0 hX0)
  have G1 := Lib.hid (fun (w : World) (h : Trk w g (trkA cs fr n hold)) => get_pt h hR (i := i) (by omega) hT1 hX1)
  have o0 := hr.ok 0 (by omega)
  have o1 := hr.ok i (by omega)
  have hup := hr.up 0 i (by omega) (by omega)
  rw [hT0, hT1] at hup
  obtain ⟨p1, p2, p3, p4⟩ := o0
  obtain ⟨q1, q2, q3, q4⟩ := o1
  rw [hT0] at p1 p2
  rw [hX0] at p3 p4
  rw [hT1] at q1 q2
  rw [hX1] at q3 q4
  obtain ⟨dx, hdx⟩ : ∃ dx, X1 - X0 = dx := ⟨_, rfl⟩
  obtain ⟨dt, hdt⟩ : ∃ dt, T1 - T0 = dt := ⟨_, rfl⟩
  have MD := Lib.hid (fun (w : World) => MulDiv_any dx 1000 dt 2 w (by omega) (by omega) (by omega) (by omega) (by omega) (by omega))
  have e : rate35 l = ((divM (dx * 1000) dt 2).1, 0) := by
    unfold rate35
    have hi2 : l.length - 1 = i := by omega
    rw [if_neg (by omega), hi2, hX1, hX0, hT1, hT0, hdx, hdt]
  rw [e]
  generalize (divM (dx * 1000) dt 2).1 = v at *
  generalize (divM (dx * 1000) dt 2).2 = v2 at *
  have a1h : Hid (IntKind.i64.wrap ((n : Int) - 1) = (i : Int)) := Lib.hid ((IntWalk.i64_in _ (by omega)).trans (by omega))
  have a2h : Hid (IntKind.i64.wrap (X1 - X0) = dx) := Lib.hid ((IntWalk.i64_in _ (by omega)).trans hdx)
  have a3h : Hid (IntKind.u32.wrap (T1 - T0) = dt) := Lib.hid ((IntWalk.u32_in _ (by omega)).trans hdt)
  have a4h : Hid (IntKind.i64.wrap dt = dt) := Lib.hid (IntWalk.i64_in _ (by omega))
  clear hT hR hr hln hn16 h2 e hdx hdt hT0 hX0 hT1 hX1 hi hup p1 p2 p3 p4 q1 q2 q3 q4
  have a1 := a1h.out
  have a2 := a2h.out
  have a3 := a3h.out
  have a4 := a4h.out
  go_enter Try.func15, Try.ntmps15
  go_wp2_with (first|((with_reducible refine at_load ?_);first|(refine wm_load (cs := ?_) (t := ?_) (n := ?_) K rfl _ _ rfl rfl ?_ ?_ ?_ ?_;rotate_left 2;(repeat (first|exact At.hd|refine At.tl ?_));rotate_left;(with_reducible first|exact row35);(solve|exact rfl|simp))|(refine wm_own (cs := ?_) (t := ?_) (v := ?_) K rfl _ _ rfl rfl ?_ ?_ ?_ ?_;rotate_left 2;(repeat (first|exact At.hd|refine At.tl ?_));rotate_left;(first|exact rfl|assumption);(with_reducible first|exact one2|exact one3|exact one22))|(refine wm_cell (v := ?_) rfl _ _ rfl rfl ?_ ?_ ?_;rotate_left;(first|assumption|exact (K.below.cell (by assumption)).trans (by assumption));(with_reducible first|exact one2|exact one3|exact one22))))
  (try simp only [Act.put, List.setIfInBounds_toArray, List.set_cons_zero, List.set_cons_succ])
  go_cut [4, 5] from 14 to 28 (fun p4 p5 wc => ∃ (b4 b5 : Nat), p4 = .pointer (some ⟨b4, 0, none⟩) ∧ p5 = .pointer (some ⟨b5, 0, none⟩) ∧ St w.heap.size w [(b4, #[.int .u32 T0, .int .i64 X0], 35), (b5, #[.int .u32 T1, .int .i64 X1], 35)] Any wc)
  case first =>
    refine wm_tree _ (.take 0 (.take 1 (.take 2 (.take 4 (.take 5 (.take 6 (.take 7 (.take 8 (.take 9 (.take 10 (.take 11 (.take 12 (.alt 3 (.alt 13 (.alt 14 (.alt 15 (.alt 16 (.alt 17 .done .stop) .stop) .stop) (.alt 15 (.alt 14 (.alt 16 (.alt 17 .done .stop) .stop) .stop) .stop)) (.alt 14 (.alt 13 (.alt 15 (.alt 16 (.alt 17 .done .stop) .stop) .stop) (.alt 15 (.alt 13 (.alt 16 (.alt 17 .done .stop) .stop) .stop) .stop)) (.alt 15 (.alt 13 (.alt 14 (.alt 16 (.alt 17 .done .stop) .stop) .stop) (.alt 14 (.alt 13 (.alt 16 (.alt 17 .done .stop) .stop) .stop) .stop)) .stop))) (.alt 14 (.alt 3 (.alt 13 (.alt 15 (.alt 16 (.alt 17 .done .stop) .stop) .stop) (.alt 15 (.alt 13 (.alt 16 (.alt 17 .done .stop) .stop) .stop) .stop)) (.alt 15 (.alt 3 (.alt 13 (.alt 16 (.alt 17 .done .stop) .stop) .stop) .stop) .stop)) (.alt 15 (.alt 3 (.alt 13 (.alt 14 (.alt 16 (.alt 17 .done .stop) .stop) .stop) (.alt 14 (.alt 13 (.alt 16 (.alt 17 .done .stop) .stop) .stop) .stop)) (.alt 14 (.alt 3 (.alt 13 (.alt 16 (.alt 17 .done .stop) .stop) .stop) .stop) .stop)) .stop))))))))))))))) K sbr (by kernel_rfl) (by kernel_rfl) ?_; (try clear K); (try clear ww); intro ww K; (try simp [go_sem] at K)
    repeat' (first|exact tree_stop|(refine tm_load (cs := ?_) (t0 := ?_) (n := ?_) rfl rfl _ _ rfl rfl ?_ ?_ ?_ ?_;rotate_left 2;(repeat (first|exact At.hd|refine At.tl ?_));rotate_left;(with_reducible first|exact row35);(solve|exact rfl|simp))|(refine tm_farD (v := ?_) rfl rfl _ _ rfl rfl (fun ww K => ?_) ?_ ?_;rotate_left;(first|assumption|exact (K.below.cell (by assumption)).trans (by assumption));(with_reducible first|exact one2|exact one3|exact one22))|(refine tree_take (fun K' hK' => ?_);simp only [opAt, List.getElem?_toArray, List.getElem?_cons_succ, List.getElem?_cons_zero, Option.getD_some];go_simp;first|(refine hK' _ ?_;clear hK' K')|(apply Exists.intro;refine ⟨?_, hK' _ ?_⟩;(intro _ _;rfl);clear hK' K'))|(refine tree_alt (fun K' hK' => ?_) ?_;simp only [opAt, List.getElem?_toArray, List.getElem?_cons_succ, List.getElem?_cons_zero, Option.getD_some];go_simp;go_at_call 21;(with_reducible refine (G0.out _ (HT.out.below K.below)).mono ?_);rintro e w2 ⟨rfl, k1⟩;replace K := K.step k1;clear k1;(try clear ww);revert w2;intro ww K;(try dsimp only);refine hK' _ _ (by apply via sbr;first|exact K|exact K.tail|exact K.tail.tail|exact K.tail.tail.tail|exact K.weak wk1|exact K.tail.weak wk1|exact K.tail.tail.weak wk1|exact K.tail.tail.tail.weak wk1|exact K.weak wk2|exact K.tail.weak wk2|exact K.tail.tail.weak wk2|exact K.tail.tail.tail.weak wk2|exact K.weak wk3|exact K.tail.weak wk3|exact K.tail.tail.weak wk3|exact K.tail.tail.tail.weak wk3|exact K.weak wk4|exact K.tail.weak wk4|exact K.tail.tail.weak wk4|exact K.tail.tail.tail.weak wk4|exact K.weak wk5|exact K.tail.weak wk5|exact K.tail.tail.weak wk5|exact K.tail.tail.tail.weak wk5) ?_;clear hK' K')|(refine tree_alt (fun K' hK' => ?_) ?_;simp only [opAt, List.getElem?_toArray, List.getElem?_cons_succ, List.getElem?_cons_zero, Option.getD_some];go_simp;go_at_call 21;(with_reducible refine (G1.out _ (HT.out.below K.below)).mono ?_);rintro e w2 ⟨rfl, k1⟩;replace K := K.step k1;clear k1;(try clear ww);revert w2;intro ww K;(try dsimp only);refine hK' _ _ (by apply via sbr;first|exact K|exact K.tail|exact K.tail.tail|exact K.tail.tail.tail|exact K.weak wk1|exact K.tail.weak wk1|exact K.tail.tail.weak wk1|exact K.tail.tail.tail.weak wk1|exact K.weak wk2|exact K.tail.weak wk2|exact K.tail.tail.weak wk2|exact K.tail.tail.tail.weak wk2|exact K.weak wk3|exact K.tail.weak wk3|exact K.tail.tail.weak wk3|exact K.tail.tail.tail.weak wk3|exact K.weak wk4|exact K.tail.weak wk4|exact K.tail.tail.weak wk4|exact K.tail.tail.tail.weak wk4|exact K.weak wk5|exact K.tail.weak wk5|exact K.tail.tail.weak wk5|exact K.tail.tail.tail.weak wk5) ?_;clear hK' K')|(first|((fail_if_success (have _h := b4));refine tm_alloc (v := ?_) (cs := ?_) K rfl rfl _ rfl ?_ ?_ ?_ ?_;rotate_left;(with_reducible first|exact zero35);rotate_left;exact rfl;intro b4 ww2 K2;(try simp [go_sem, Value.cells] at K2);refine ⟨(by apply via sbr;first|exact K2|exact K2.tail|exact K2.tail.tail|exact K2.tail.tail.tail|exact K2.weak wk1|exact K2.tail.weak wk1|exact K2.tail.tail.weak wk1|exact K2.tail.tail.tail.weak wk1|exact K2.weak wk2|exact K2.tail.weak wk2|exact K2.tail.tail.weak wk2|exact K2.tail.tail.tail.weak wk2|exact K2.weak wk3|exact K2.tail.weak wk3|exact K2.tail.tail.weak wk3|exact K2.tail.tail.tail.weak wk3|exact K2.weak wk4|exact K2.tail.weak wk4|exact K2.tail.tail.weak wk4|exact K2.tail.tail.tail.weak wk4|exact K2.weak wk5|exact K2.tail.weak wk5|exact K2.tail.tail.weak wk5|exact K2.tail.tail.tail.weak wk5), ?_⟩;replace K := K2;clear K2;(try clear ww);revert ww2;intro ww K)|((fail_if_success (have _h := b5));refine tm_alloc (v := ?_) (cs := ?_) K rfl rfl _ rfl ?_ ?_ ?_ ?_;rotate_left;(with_reducible first|exact zero35);rotate_left;exact rfl;intro b5 ww2 K2;(try simp [go_sem, Value.cells] at K2);refine ⟨(by apply via sbr;first|exact K2|exact K2.tail|exact K2.tail.tail|exact K2.tail.tail.tail|exact K2.weak wk1|exact K2.tail.weak wk1|exact K2.tail.tail.weak wk1|exact K2.tail.tail.tail.weak wk1|exact K2.weak wk2|exact K2.tail.weak wk2|exact K2.tail.tail.weak wk2|exact K2.tail.tail.tail.weak wk2|exact K2.weak wk3|exact K2.tail.weak wk3|exact K2.tail.tail.weak wk3|exact K2.tail.tail.tail.weak wk3|exact K2.weak wk4|exact K2.tail.weak wk4|exact K2.tail.tail.weak wk4|exact K2.tail.tail.tail.weak wk4|exact K2.weak wk5|exact K2.tail.weak wk5|exact K2.tail.tail.weak wk5|exact K2.tail.tail.tail.weak wk5), ?_⟩;replace K := K2;clear K2;(try clear ww);revert ww2;intro ww K))|(refine tm_store (L' := ?_) (cs := ?_) (t0 := ?_) (n := ?_) K rfl rfl _ _ _ rfl rfl rfl rfl ?_ ?_ ?_ ?_ ?_ ?_ ?_;rotate_left 3;(repeat (first|exact Put.hd|(refine Put.tl (L' := ?_) ?_;rotate_left)));rotate_left;(with_reducible first|exact row35);(solve|exact rfl|simp);(solve|exact rfl|simp);(solve|exact rfl|simp [Ones, Value.oneCell']);intro ww2 K2;(try simp [go_sem] at K2);refine ⟨(by apply via sbz;first|exact K2|exact K2.tail|exact K2.tail.tail|exact K2.tail.tail.tail|exact K2.weak wk1|exact K2.tail.weak wk1|exact K2.tail.tail.weak wk1|exact K2.tail.tail.tail.weak wk1|exact K2.weak wk2|exact K2.tail.weak wk2|exact K2.tail.tail.weak wk2|exact K2.tail.tail.tail.weak wk2|exact K2.weak wk3|exact K2.tail.weak wk3|exact K2.tail.tail.weak wk3|exact K2.tail.tail.tail.weak wk3|exact K2.weak wk4|exact K2.tail.weak wk4|exact K2.tail.tail.weak wk4|exact K2.tail.tail.tail.weak wk4|exact K2.weak wk5|exact K2.tail.weak wk5|exact K2.tail.tail.weak wk5|exact K2.tail.tail.tail.weak wk5), ?_⟩;replace K := K2;clear K2;(try clear ww);revert ww2;intro ww K))
    all_goals refine tree_done ?_
    all_goals (try simp only [opAt, List.getElem?_toArray, List.getElem?_cons_succ, List.getElem?_cons_zero, Option.getD_some])
    all_goals (try go_simp)
    all_goals (try go_wp2_with (fail))
    all_goals (try go_meet)
    all_goals first | exact ⟨_, _, rfl, rfl, K⟩ | exact ⟨_, _, rfl, rfl, K.perm (List.Perm.swap _ _ _)⟩
  case rest =>
    clear K
    obtain ⟨b4, b5, rfl, rfl, K⟩ := hcut
    go_wp2_with (first|go_big_skip|((with_reducible refine at_load ?_);first|(refine wm_load (cs := ?_) (t := ?_) (n := ?_) K rfl _ _ rfl rfl ?_ ?_ ?_ ?_;rotate_left 2;(repeat (first|exact At.hd|refine At.tl ?_));rotate_left;(with_reducible first|exact row35);(solve|exact rfl|simp))|(refine wm_own (cs := ?_) (t := ?_) (v := ?_) K rfl _ _ rfl rfl ?_ ?_ ?_ ?_;rotate_left 2;(repeat (first|exact At.hd|refine At.tl ?_));rotate_left;(first|exact rfl|assumption);(with_reducible first|exact one2|exact one3|exact one22))|(refine wm_cell (v := ?_) rfl _ _ rfl rfl ?_ ?_ ?_;rotate_left;(first|assumption|exact (K.below.cell (by assumption)).trans (by assumption));(with_reducible first|exact one2|exact one3|exact one22)))|((with_reducible refine at_store ?_);(first|(refine wm_store (L' := ?_) (cs := ?_) (t := ?_) (n := ?_) K rfl _ _ _ rfl rfl rfl rfl ?_ ?_ ?_ ?_ ?_ ?_;rotate_left 3;(repeat (first|exact Put.hd|(refine Put.tl (L' := ?_) ?_;rotate_left)));rotate_left;(with_reducible first|exact row35);(solve|exact rfl|simp);(solve|exact rfl|simp);(solve|exact rfl|simp [Ones, Value.oneCell']))|(refine wm_put (L' := ?_) (cs := ?_) (new := ?_) (t := ?_) K rfl _ _ _ rfl rfl rfl rfl ?_ ?_ ?_ ?_ rfl rfl ?_;rotate_left 4;(repeat (first|exact Put.hd|(refine Put.tl (L' := ?_) ?_;rotate_left)));(solve|exact Nat.le_of_ble_eq_true rfl|decide|(simp only [List.size_toArray, nums_length];first|assumption|omega)|(simp only [List.size_toArray, nums_length, List.length_set];first|assumption|omega)|simp|omega|(simp only [List.size_toArray, nums_length];omega)|assumption);(solve|(simp only [List.setIfInBounds_toArray];exact rfl)|exact nums_set _ _ _ _|simp only [List.setIfInBounds_toArray, List.set_cons_zero]|simp only [List.setIfInBounds_toArray, List.set_cons_zero, List.set_cons_succ]|(simp only [List.setIfInBounds_toArray, List.set_cons_zero, List.set_cons_succ];exact rfl)|exact rfl);(with_reducible first|exact one2|exact one3|exact one22)));(try clear K);(try clear ww);intro ww K;(try simp [go_sem] at K))|(go_at_call 26;(with_reducible refine (MD.out _).mono ?_);rintro e w2 ⟨rfl, k1⟩;replace K := K.step k1;clear k1;(try clear ww);revert w2;intro ww K))
    go_ret2
    exact ⟨rfl, K.below⟩
end Go.Proofs.Ytpbginihkhfdmaa
