/-
  Lemmas and walks of this claim (the texts Gc14 Gd14 of the work; what no proof here uses is left out). No claim of their own.
-/
import Derived.Test.YtpejoaefnnbghaaPF10
import Derived.Test.YtpejoaefnnbghaaPF12
import Derived.Test.YtpejoaefnnbghaaPF5
set_option linter.all false
set_option linter.unusedSimpArgs false
set_option linter.unusedVariables false
namespace Go.Proofs.Ytpejoaefnnbghaa
open Go.RowKit
attribute [local irreducible] wpHeld wpTree wpList
set_option linter.unusedVariables false
theorem With14 (W H X Y S : Int) (A A2 : Option Addr) (n c n2 c2 : Nat) (w : World) :
    Calls Try.prog 86 #[.agg #[.int .i64 W, .int .i64 H, .int .i64 X, .int .i64 Y, .int .i64 S, .slice A n c], .slice A2 n2 c2] w fun e w' => e = .returned (.agg #[.int .i64 W, .int .i64 H, .int .i64 X, .int .i64 Y, .int .i64 S, .slice A2 n2 c2]) ∧ Below w.heap.size w w' := by
  have K := St.start w
  go_enter Try.func86, Try.ntmps86
  go_wp2_with (first|go_big_skip|((with_reducible refine at_load ?_);first|(refine wm_load (cs := ?_) (t := ?_) (n := ?_) K rfl _ _ rfl rfl ?_ ?_ ?_ ?_;rotate_left 2;(repeat (first|exact At.hd|refine At.tl ?_));rotate_left;(with_reducible first|exact row26);(solve|exact rfl|simp))|(refine wm_own (cs := ?_) (t := ?_) (v := ?_) K rfl _ _ rfl rfl ?_ ?_ ?_ ?_;rotate_left 2;(repeat (first|exact At.hd|refine At.tl ?_));rotate_left;(first|exact rfl|assumption);(with_reducible first|exact one2|exact one3|exact one24))|(refine wm_cell (v := ?_) rfl _ _ rfl rfl ?_ ?_ ?_;rotate_left;(first|assumption|exact (K.below.cell (by assumption)).trans (by assumption));(with_reducible first|exact one2|exact one3|exact one24)))|((with_reducible refine at_store ?_);(first|(refine wm_store (L' := ?_) (cs := ?_) (t := ?_) (n := ?_) K rfl _ _ _ rfl rfl rfl rfl ?_ ?_ ?_ ?_ ?_ ?_;rotate_left 3;(repeat (first|exact Put.hd|(refine Put.tl (L' := ?_) ?_;rotate_left)));rotate_left;(with_reducible first|exact row26);(solve|exact rfl|simp);(solve|exact rfl|simp);(solve|exact rfl|simp [Ones, Value.oneCell']))|(refine wm_put (L' := ?_) (cs := ?_) (new := ?_) (t := ?_) K rfl _ _ _ rfl rfl rfl rfl ?_ ?_ ?_ ?_ rfl rfl ?_;rotate_left 4;(repeat (first|exact Put.hd|(refine Put.tl (L' := ?_) ?_;rotate_left)));(solve|exact Nat.le_of_ble_eq_true rfl|decide|(simp only [List.size_toArray, nums_length];first|assumption|omega)|(simp only [List.size_toArray, nums_length, List.length_set];first|assumption|omega)|simp|omega|(simp only [List.size_toArray, nums_length];omega)|assumption);(solve|(simp only [List.setIfInBounds_toArray];exact rfl)|exact nums_set _ _ _ _|simp only [List.setIfInBounds_toArray, List.set_cons_zero]|simp only [List.setIfInBounds_toArray, List.set_cons_zero, List.set_cons_succ]|(simp only [List.setIfInBounds_toArray, List.set_cons_zero, List.set_cons_succ];exact rfl)|exact rfl);(with_reducible first|exact one2|exact one3|exact one24)));(try clear K);(try clear ww);intro ww K;(try simp [go_sem] at K))|((first|((with_reducible refine at_box ?_);refine wm_box K rfl _ _ rfl rfl rfl ?_)|((with_reducible refine at_alloc ?_);refine wm_alloc (v := ?_) (cs := ?_) K rfl _ rfl ?_ ?_ ?_;rotate_left;(with_reducible first|exact zero26);rotate_left;exact rfl));(try clear K);(try clear ww);(first|((fail_if_success (have _h := b2));intro b2 ww K)|((fail_if_success (have _h := b4));intro b4 ww K));(try simp [go_sem, Value.cells] at K)))
  refine bodyPost_ret (K.res rfl _ rfl (by (repeat (first | exact At.hd | refine At.tl ?_))) (by (with_reducible first | exact row26)) (by (solve | exact rfl | simp))) rfl ?_
  exact ⟨rfl, K.below⟩
end Go.Proofs.Ytpejoaefnnbghaa
namespace Go.Proofs.Ytpejoaefnnbghaa
open Go.RowKit
attribute [local irreducible] wpHeld wpTree wpList
set_option linter.unusedVariables false
theorem small_bd {zs : List Int} (hb : ∀ z ∈ zs, 0 ≤ z ∧ z ≤ 1073741824) : ∀ z ∈ zs, -1125899906842624 ≤ z ∧ z ≤ 1125899906842624 := fun z hz => by have := hb z hz; omega
set_option maxRecDepth 100000 in
set_option maxHeartbeats 2000000 in
theorem RNorm14 (W H X Y S : Int) (A : Option Addr) (n c : Nat) (zs : List Int) (w : World) (h : Rd w A n (ints .i64 zs)) (hb : ∀ z ∈ zs, 0 ≤ z ∧ z ≤ 1073741824) (hn : n ≤ 5000) (hp : 0 < isum zs) :
    Calls Try.prog 43 #[.agg #[.int .i64 W, .int .i64 H, .int .i64 X, .int .i64 Y, .int .i64 S, .slice A n c]] w fun e w' => ∃ A2 c2, e = .returned (.tuple #[.agg #[.int .i64 W, .int .i64 H, .int .i64 X, .int .i64 Y, .int .i64 S, .slice A2 n c2], .int .i64 0]) ∧ (Rd w' A2 n (ints .i64 (norm14 (isum zs) zs)) ∧ Nw w.heap.size A2) ∧ Below w.heap.size w w' := by
  have K := St.start w
  have hl : zs.length = n := by rw [← h.1, ints_len]
  have SM := Lib.hid (fun w (h : Rd w A n (ints .i64 zs)) => RSum14 A n c zs w h (small_bd hb) hn)
  have HZ := Lib.hid hb
  have HR := Lib.hid h
  have HL := Lib.hid hl
  have HM : Hid (∀ z ∈ zs, z ≤ isum zs) := Lib.hid fun z hz => isum_mem (fun z hz => (hb z hz).1) hz
  have hs := (isum_bd (M := 1073741824) (l := zs) (by omega) (fun z hz => by have := hb z hz; omega)).2
  rw [hl] at hs
  generalize isum zs = s at *
  have t1 : decide (s ≤ 0) = false := decide_eq_false (by omega)
  have HP := Lib.hid (And.intro hp hs)
  clear h hb hp hs hl
  go_enter Try.func43, Try.ntmps43
  go_wp2_with (first|go_big_skip|((with_reducible refine at_load ?_);first|(refine wm_load (cs := ?_) (t := ?_) (n := ?_) K rfl _ _ rfl rfl ?_ ?_ ?_ ?_;rotate_left 2;(repeat (first|exact At.hd|refine At.tl ?_));rotate_left;(with_reducible first|exact row26);(solve|exact rfl|simp))|(refine wm_own (cs := ?_) (t := ?_) (v := ?_) K rfl _ _ rfl rfl ?_ ?_ ?_ ?_;rotate_left 2;(repeat (first|exact At.hd|refine At.tl ?_));rotate_left;(first|exact rfl|assumption);(with_reducible first|exact one2|exact one24))|(refine wm_cell (v := ?_) rfl _ _ rfl rfl ?_ ?_ ?_;rotate_left;(first|assumption|exact (K.below.cell (by assumption)).trans (by assumption));(with_reducible first|exact one2|exact one24)))|((with_reducible refine at_store ?_);(first|(refine wm_store (L' := ?_) (cs := ?_) (t := ?_) (n := ?_) K rfl _ _ _ rfl rfl rfl rfl ?_ ?_ ?_ ?_ ?_ ?_;rotate_left 3;(repeat (first|exact Put.hd|(refine Put.tl (L' := ?_) ?_;rotate_left)));rotate_left;(with_reducible first|exact row26);(solve|exact rfl|simp);(solve|exact rfl|simp);(solve|exact rfl|simp [Ones, Value.oneCell']))|(refine wm_put (L' := ?_) (cs := ?_) (new := ?_) (t := ?_) K rfl _ _ _ rfl rfl rfl rfl ?_ ?_ ?_ ?_ rfl rfl ?_;rotate_left 4;(repeat (first|exact Put.hd|(refine Put.tl (L' := ?_) ?_;rotate_left)));(solve|exact Nat.le_of_ble_eq_true rfl|decide|(simp only [List.size_toArray, nums_length];first|assumption|omega)|(simp only [List.size_toArray, nums_length, List.length_set];first|assumption|omega)|simp|omega|(simp only [List.size_toArray, nums_length];omega)|assumption);(solve|(simp only [List.setIfInBounds_toArray];exact rfl)|exact nums_set _ _ _ _|simp only [List.setIfInBounds_toArray, List.set_cons_zero]|simp only [List.setIfInBounds_toArray, List.set_cons_zero, List.set_cons_succ]|(simp only [List.setIfInBounds_toArray, List.set_cons_zero, List.set_cons_succ];exact rfl)|exact rfl);(with_reducible first|exact one2|exact one24)));(try clear K);(try clear ww);intro ww K;(try simp [go_sem] at K))|((first|((with_reducible refine at_box ?_);refine wm_box K rfl _ _ rfl rfl rfl ?_)|((with_reducible refine at_alloc ?_);refine wm_alloc (v := ?_) (cs := ?_) K rfl _ rfl ?_ ?_ ?_;rotate_left;(with_reducible first|exact zero26);rotate_left;exact rfl));(try clear K);(try clear ww);(first|((fail_if_success (have _h := b1));intro b1 ww K)|((fail_if_success (have _h := b2));intro b2 ww K));(try simp [go_sem, Value.cells] at K))|(go_at_call 17;(with_reducible refine (SM.out _ (HR.out.below K.below)).mono ?_);rintro e w2 ⟨rfl, k1⟩;replace K := K.step k1;clear k1;(try clear ww);revert w2;intro ww K))
  go_loopw [5, 6] (fun v i wr => ∃ (k : Nat) (Lo : List Blk), k ≤ n ∧ i = .int .i64 k ∧ OwnT v 2 (ints .i64 (norm14 s (zs.take k))) Lo ∧ St w.heap.size w ((b2, #[.int .i64 0, .int .i64 0, .int .i64 0, .int .i64 0, .int .i64 0, .slice none 0 0], 26) :: (b1, #[.int .i64 W, .int .i64 H, .int .i64 X, .int .i64 Y, .int .i64 S, .slice A n c], 26) :: Lo) Any wr) (fun _ i _ => n - (intOf i).toNat)
  case atStart => exact ⟨0, _, Nat.zero_le _, rfl, OwnT.nil _, K⟩
  case round =>
    clear K
    obtain ⟨i, Lo, hi, rfl, hO, K⟩ := hrel
    by_cases hlt : i < n
    · obtain ⟨b, off, rfl, hb, hc⟩ := HR.out.get hlt
      have hil : i < zs.length := by rw [HL.out]; exact hlt
      have hv := hc i _ (ints_get .i64 zs i hil)
      have hsn := Lib.hid (norm_snoc s zs i hil)
      have h3 := HZ.out _ (getD_mem hil)
      have h4 := HM.out _ (getD_mem hil)
      have hp := HP.out
      have hol : (ints .i64 (norm14 s (zs.take i))).length ≤ 5000 := by rw [ints_len, norm_len, List.length_take]; omega
      generalize zs.getD i 0 = z at *
      have ht : decide ((i : Int) < n) = true := decide_eq_true (by omega)
      have d1 : (z * 1073741824).tdiv s = z * 1073741824 / s := Int.tdiv_eq_ediv_of_nonneg (by omega)
      have q0 : 0 ≤ z * 1073741824 / s := Int.ediv_nonneg (by omega) (by omega)
      have q1 : z * 1073741824 / s ≤ z * 1073741824 := Int.ediv_le_self _ (by omega)
      have e1h : Hid (wrap64 (z * 1073741824) = z * 1073741824) := Lib.hid (by unfold wrap64; omega)
      have e2h : Hid (IntKind.i64.wrap (z * 1073741824) = z * 1073741824) := Lib.hid (IntWalk.i64_in _ (by omega))
      have s0 : (s = 0) = False := by simp; omega
      generalize z * 1073741824 / s = q at *
      have e3h : Hid (wrap64 q = q) := Lib.hid (by unfold wrap64; omega)
      have e4h : Hid (IntKind.i64.wrap q = q) := Lib.hid (IntWalk.i64_in _ (by omega))
      clear hc hil h3 h4 hp q0 q1
      have e1 := e1h.out
      have e2 := e2h.out
      have e3 := e3h.out
      have e4 := e4h.out
      clear e1h e2h e3h e4h
      go_wp2_with (first|go_big_skip|((with_reducible refine at_load ?_);first|(refine wm_load (cs := ?_) (t := ?_) (n := ?_) K rfl _ _ rfl rfl ?_ ?_ ?_ ?_;rotate_left 2;(repeat (first|exact At.hd|refine At.tl ?_));rotate_left;(with_reducible first|exact row26);(solve|exact rfl|simp))|(refine wm_own (cs := ?_) (t := ?_) (v := ?_) K rfl _ _ rfl rfl ?_ ?_ ?_ ?_;rotate_left 2;(repeat (first|exact At.hd|refine At.tl ?_));rotate_left;(first|exact rfl|assumption);(with_reducible first|exact one2|exact one24))|(refine wm_cell (v := ?_) rfl _ _ rfl rfl ?_ ?_ ?_;rotate_left;(first|assumption|exact (K.below.cell (by assumption)).trans (by assumption));(with_reducible first|exact one2|exact one24)))|((with_reducible refine at_store ?_);(first|(refine wm_store (L' := ?_) (cs := ?_) (t := ?_) (n := ?_) K rfl _ _ _ rfl rfl rfl rfl ?_ ?_ ?_ ?_ ?_ ?_;rotate_left 3;(repeat (first|exact Put.hd|(refine Put.tl (L' := ?_) ?_;rotate_left)));rotate_left;(with_reducible first|exact row26);(solve|exact rfl|simp);(solve|exact rfl|simp);(solve|exact rfl|simp [Ones, Value.oneCell']))|(refine wm_put (L' := ?_) (cs := ?_) (new := ?_) (t := ?_) K rfl _ _ _ rfl rfl rfl rfl ?_ ?_ ?_ ?_ rfl rfl ?_;rotate_left 4;(repeat (first|exact Put.hd|(refine Put.tl (L' := ?_) ?_;rotate_left)));(solve|exact Nat.le_of_ble_eq_true rfl|decide|(simp only [List.size_toArray, nums_length];first|assumption|omega)|(simp only [List.size_toArray, nums_length, List.length_set];first|assumption|omega)|simp|omega|(simp only [List.size_toArray, nums_length];omega)|assumption);(solve|(simp only [List.setIfInBounds_toArray];exact rfl)|exact nums_set _ _ _ _|simp only [List.setIfInBounds_toArray, List.set_cons_zero]|simp only [List.setIfInBounds_toArray, List.set_cons_zero, List.set_cons_succ]|(simp only [List.setIfInBounds_toArray, List.set_cons_zero, List.set_cons_succ];exact rfl)|exact rfl);(with_reducible first|exact one2|exact one24)));(try clear K);(try clear ww);intro ww K;(try simp [go_sem] at K))|((with_reducible refine at_bsl ?_);refine wm_one K rfl _ _ rfl Try.underlying24 num2 rfl ?_;(try clear K);(try clear ww);intro bb ww K;(try simp [go_sem] at K))|((with_reducible refine at_app ?_);refine wm_appT (L0 := ?_) K ?_ rfl _ _ _ rfl Try.underlying24 num2 rfl hO rfl rfl (by first|(simp only [nums_length, List.length_map];omega)|omega) (by first|(simp only [nums_length, List.length_map];unfold maxLen;omega)|(unfold maxLen;omega)) ?_;rotate_left;(repeat (first|exact Tl.nil|(refine Tl.cons (L0 := ?_) ?_;rotate_left)));(try clear K hO);(try clear ww);intro v ww Lo hO K;simp only [List.cons_append, List.nil_append] at K))
      exact ⟨⟨i + 1, Lo, by omega, by go_num, by rw [hsn.out, ints_app]; exact hO, K⟩, by simp [intOf]; clear e1 e2 e3 e4; omega⟩
    · obtain rfl : n = i := by omega
      have ht : decide ((n : Int) < n) = false := decide_eq_false (by omega)
      have hz : zs.take n = zs := List.take_of_length_le (by rw [HL.out]; omega)
      rw [hz] at hO
      obtain ⟨A2, c2, rfl, hc1, hc2, hA, K2⟩ := hO.fix (L0 := [(b2, #[.int .i64 0, .int .i64 0, .int .i64 0, .int .i64 0, .int .i64 0, .slice none 0 0], 26), (b1, #[.int .i64 W, .int .i64 H, .int .i64 X, .int .i64 Y, .int .i64 S, .slice A n c], 26)]) K
      have hlen : (ints .i64 (norm14 s zs)).length = n := by rw [ints_len, norm_len, HL.out]
      rw [hlen] at K2 ⊢
      clear K hO hz hc1 hc2 hlen
      replace K := K2
      clear K2
      have HA := Lib.hid hA
      clear hA
      have WI := Lib.hid (fun w => With14 W H X Y S A A2 n c n c2 w)
      revert wr
      intro ww K
      go_wp2_with (first|go_big_skip|((with_reducible refine at_load ?_);first|(refine wm_load (cs := ?_) (t := ?_) (n := ?_) K rfl _ _ rfl rfl ?_ ?_ ?_ ?_;rotate_left 2;(repeat (first|exact At.hd|refine At.tl ?_));rotate_left;(with_reducible first|exact row26);(solve|exact rfl|simp))|(refine wm_own (cs := ?_) (t := ?_) (v := ?_) K rfl _ _ rfl rfl ?_ ?_ ?_ ?_;rotate_left 2;(repeat (first|exact At.hd|refine At.tl ?_));rotate_left;(first|exact rfl|assumption);(with_reducible first|exact one2|exact one24))|(refine wm_cell (v := ?_) rfl _ _ rfl rfl ?_ ?_ ?_;rotate_left;(first|assumption|exact (K.below.cell (by assumption)).trans (by assumption));(with_reducible first|exact one2|exact one24)))|((with_reducible refine at_store ?_);(first|(refine wm_store (L' := ?_) (cs := ?_) (t := ?_) (n := ?_) K rfl _ _ _ rfl rfl rfl rfl ?_ ?_ ?_ ?_ ?_ ?_;rotate_left 3;(repeat (first|exact Put.hd|(refine Put.tl (L' := ?_) ?_;rotate_left)));rotate_left;(with_reducible first|exact row26);(solve|exact rfl|simp);(solve|exact rfl|simp);(solve|exact rfl|simp [Ones, Value.oneCell']))|(refine wm_put (L' := ?_) (cs := ?_) (new := ?_) (t := ?_) K rfl _ _ _ rfl rfl rfl rfl ?_ ?_ ?_ ?_ rfl rfl ?_;rotate_left 4;(repeat (first|exact Put.hd|(refine Put.tl (L' := ?_) ?_;rotate_left)));(solve|exact Nat.le_of_ble_eq_true rfl|decide|(simp only [List.size_toArray, nums_length];first|assumption|omega)|(simp only [List.size_toArray, nums_length, List.length_set];first|assumption|omega)|simp|omega|(simp only [List.size_toArray, nums_length];omega)|assumption);(solve|(simp only [List.setIfInBounds_toArray];exact rfl)|exact nums_set _ _ _ _|simp only [List.setIfInBounds_toArray, List.set_cons_zero]|simp only [List.setIfInBounds_toArray, List.set_cons_zero, List.set_cons_succ]|(simp only [List.setIfInBounds_toArray, List.set_cons_zero, List.set_cons_succ];exact rfl)|exact rfl);(with_reducible first|exact one2|exact one24)));(try clear K);(try clear ww);intro ww K;(try simp [go_sem] at K))|(go_at_call 86;(with_reducible refine (WI.out _).mono ?_);rintro e w2 ⟨rfl, k1⟩;replace K := K.step k1;clear k1;(try clear ww);revert w2;intro ww K))
      refine bodyPost_ret (K.res2 rfl _ rfl (by (repeat (first | exact At.hd | refine At.tl ?_))) (by (with_reducible first | exact row26)) (by (solve | exact rfl | simp)) rfl) rfl ?_
      exact ⟨A2, c2, rfl, ⟨K.fact.1, HA.out⟩, K.below⟩
end Go.Proofs.Ytpejoaefnnbghaa
