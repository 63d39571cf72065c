/-
  Lemmas and walks of this claim (the texts Ga14 Gb14 of the work; what no proof here uses is left out). No claim of their own.
-/
import Derived.Test.YtpejoaefnnbghaaPG8
import Derived.Test.YtpejoaefnnbghaaPG7
import Derived.Test.YtpejoaefnnbghaaPG5
import Derived.Lib.MinMax
set_option linter.all false
set_option linter.unusedSimpArgs false
set_option linter.unusedVariables false
namespace Go.Proofs.Ytpejoaefnnbghaa
open Go.RowKit
attribute [local irreducible] wpHeld wpTree wpList
set_option linter.unusedVariables false
set_option maxRecDepth 100000 in
theorem RSum14 (A : Option Addr) (n c : Nat) (zs : List Int) (w : World) (h : Rd w A n (ints .i64 zs)) (hb : ∀ z ∈ zs, -1125899906842624 ≤ z ∧ z ≤ 1125899906842624) (hn : n ≤ 5000) :
    Calls Try.prog 17 #[.slice A n c] w fun e w' => e = .returned (.int .i64 (isum zs)) ∧ Below w.heap.size w w' := by
  have K := St.start w
  have hl : zs.length = n := by rw [← h.1, ints_len]
  have HT := Lib.hid (fun k => isum_take_bd (n := n) (by omega) hb (Nat.le_of_eq hl) k)
  have HZ := Lib.hid hb
  have HR := Lib.hid h
  have HL := Lib.hid hl
  clear h hl hb
  go_enter Try.func17, Try.ntmps17
  go_wp2
  go_loopw [3, 4] (fun s i wr => ∃ (k : Nat), k ≤ n ∧ i = .int .i64 k ∧ s = .int .i64 (isum (zs.take k)) ∧ St w.heap.size w [] Any wr) (fun _ i _ => n - (intOf i).toNat)
  case atStart => exact ⟨0, Nat.zero_le _, rfl, rfl, K⟩
  case round =>
    clear K
    obtain ⟨i, hi, rfl, rfl, K⟩ := hrel
    by_cases hlt : i < n
    · obtain ⟨b, off, rfl, hb, hc⟩ := HR.out.get hlt
      have hil : i < zs.length := by rw [HL.out]; exact hlt
      have hv := hc i _ (ints_get .i64 zs i hil)
      have hs := isum_snoc zs i hil
      have h1 := HT.out i
      have h2 := HT.out (i + 1)
      have h3 := HZ.out _ (getD_mem hil)
      generalize zs.getD i 0 = z at *
      obtain ⟨s', hs'⟩ : ∃ s', isum (zs.take (i + 1)) = s' := ⟨_, rfl⟩
      rw [hs'] at hs h2
      have HS := Lib.hid hs'
      clear hs'
      generalize isum (zs.take i) = s at *
      have ht : decide ((i : Int) < n) = true := decide_eq_true (by omega)
      have e1h : Hid (wrap64 (s + z) = s') := Lib.hid (by unfold wrap64; omega)
      have e2h : Hid (IntKind.i64.wrap (s + z) = s') := Lib.hid ((IntWalk.i64_in _ (by omega)).trans hs.symm)
      clear hc hs h1 h2 h3 hil
      have e1 := e1h.out
      have e2 := e2h.out
      clear e1h e2h
      go_wp2_with (first|go_big_skip|((with_reducible refine at_load ?_);first|(refine wm_own (cs := ?_) (t := ?_) (v := ?_) K rfl _ _ rfl rfl ?_ ?_ ?_ ?_;rotate_left 2;(repeat (first|exact At.hd|refine At.tl ?_));rotate_left;(first|exact rfl|assumption);(with_reducible first|exact one2|exact one24))|(refine wm_cell (v := ?_) rfl _ _ rfl rfl ?_ ?_ ?_;rotate_left;(first|assumption|exact (K.below.cell (by assumption)).trans (by assumption));(with_reducible first|exact one2|exact one24)))|((with_reducible refine at_store ?_);first|(refine wm_put (L' := ?_) (cs := ?_) (new := ?_) (t := ?_) K rfl _ _ _ rfl rfl rfl rfl ?_ ?_ ?_ ?_ rfl rfl ?_;rotate_left 4;(repeat (first|exact Put.hd|(refine Put.tl (L' := ?_) ?_;rotate_left)));(solve|exact Nat.le_of_ble_eq_true rfl|decide|(simp only [List.size_toArray, nums_length];first|assumption|omega)|(simp only [List.size_toArray, nums_length, List.length_set];first|assumption|omega)|simp|omega|(simp only [List.size_toArray, nums_length];omega)|assumption);(solve|(simp only [List.setIfInBounds_toArray];exact rfl)|exact nums_set _ _ _ _|simp only [List.setIfInBounds_toArray, List.set_cons_zero]|simp only [List.setIfInBounds_toArray, List.set_cons_zero, List.set_cons_succ]|(simp only [List.setIfInBounds_toArray, List.set_cons_zero, List.set_cons_succ];exact rfl)|exact rfl);(with_reducible first|exact one2|exact one24);(try clear K);(try clear ww);intro ww K;(try simp [go_sem] at K))))
      clear e1 e2
      exact ⟨⟨i + 1, by omega, by go_num, by rw [HS.out], K⟩, by simp [intOf]; omega⟩
    · obtain rfl : n = i := by omega
      have ht : decide ((n : Int) < n) = false := decide_eq_false (by omega)
      have hz : zs.take n = zs := List.take_of_length_le (by rw [HL.out]; omega)
      rw [hz]
      clear hz
      go_wp2
      go_ret
      exact ⟨rfl, K.below⟩
set_option maxRecDepth 100000 in
theorem Sum14 (W H X Y S : Int) (A : Option Addr) (n c : Nat) (zs : List Int) (w : World) (h : Rd w A n (ints .i64 zs)) (hb : ∀ z ∈ zs, -1125899906842624 ≤ z ∧ z ≤ 1125899906842624) (hn : n ≤ 5000) :
    Calls Try.prog 62 #[.agg #[.int .i64 W, .int .i64 H, .int .i64 X, .int .i64 Y, .int .i64 S, .slice A n c]] w fun e w' => e = .returned (.int .i64 (isum zs)) ∧ Below w.heap.size w w' := by
  have K := St.start w
  have hl : zs.length = n := by rw [← h.1, ints_len]
  have HT := Lib.hid (fun k => isum_take_bd (n := n) (by omega) hb (Nat.le_of_eq hl) k)
  have HZ := Lib.hid hb
  have HR := Lib.hid h
  have HL := Lib.hid hl
  clear h hl hb
  go_enter Try.func62, Try.ntmps62
  go_wp2_with (first|go_big_skip|((with_reducible refine at_load ?_);first|(refine wm_own (cs := ?_) (t := ?_) (v := ?_) K rfl _ _ rfl rfl ?_ ?_ ?_ ?_;rotate_left 2;(repeat (first|exact At.hd|refine At.tl ?_));rotate_left;(first|exact rfl|assumption);(with_reducible first|exact one2|exact one24))|(refine wm_cell (v := ?_) rfl _ _ rfl rfl ?_ ?_ ?_;rotate_left;(first|assumption|exact (K.below.cell (by assumption)).trans (by assumption));(with_reducible first|exact one2|exact one24)))|((with_reducible refine at_store ?_);first|(refine wm_put (L' := ?_) (cs := ?_) (new := ?_) (t := ?_) K rfl _ _ _ rfl rfl rfl rfl ?_ ?_ ?_ ?_ rfl rfl ?_;rotate_left 4;(repeat (first|exact Put.hd|(refine Put.tl (L' := ?_) ?_;rotate_left)));(solve|exact Nat.le_of_ble_eq_true rfl|decide|(simp only [List.size_toArray, nums_length];first|assumption|omega)|(simp only [List.size_toArray, nums_length, List.length_set];first|assumption|omega)|simp|omega|(simp only [List.size_toArray, nums_length];omega)|assumption);(solve|(simp only [List.setIfInBounds_toArray];exact rfl)|exact nums_set _ _ _ _|simp only [List.setIfInBounds_toArray, List.set_cons_zero]|simp only [List.setIfInBounds_toArray, List.set_cons_zero, List.set_cons_succ]|(simp only [List.setIfInBounds_toArray, List.set_cons_zero, List.set_cons_succ];exact rfl)|exact rfl);(with_reducible first|exact one2|exact one24);(try clear K);(try clear ww);intro ww K;(try simp [go_sem] at K)))|((first|((with_reducible refine at_box ?_);refine wm_box K rfl _ _ rfl rfl rfl ?_)|((with_reducible refine at_alloc ?_);refine wm_alloc (v := ?_) (cs := ?_) K rfl _ rfl ?_ ?_ ?_;rotate_left;(with_reducible first|fail);rotate_left;exact rfl));(try clear K);(try clear ww);((fail_if_success (have _h := b1));intro b1 ww K);(try simp [go_sem, Value.cells] at K)))
  go_loopw [3, 9] (fun s i wr => ∃ (k : Nat), k ≤ n ∧ i = .int .i64 k ∧ s = .int .i64 (isum (zs.take k)) ∧ St w.heap.size w [(b1, #[.int .i64 W, .int .i64 H, .int .i64 X, .int .i64 Y, .int .i64 S, .slice A n c], 26)] Any wr) (fun _ i _ => n - (intOf i).toNat)
  case atStart => exact ⟨0, Nat.zero_le _, rfl, rfl, K⟩
  case round =>
    clear K
    obtain ⟨i, hi, rfl, rfl, K⟩ := hrel
    by_cases hlt : i < n
    · obtain ⟨b, off, rfl, hb, hc⟩ := HR.out.get hlt
      have hil : i < zs.length := by rw [HL.out]; exact hlt
      have hv := hc i _ (ints_get .i64 zs i hil)
      have hs := isum_snoc zs i hil
      have h1 := HT.out i
      have h2 := HT.out (i + 1)
      have h3 := HZ.out _ (getD_mem hil)
      generalize zs.getD i 0 = z at *
      obtain ⟨s', hs'⟩ : ∃ s', isum (zs.take (i + 1)) = s' := ⟨_, rfl⟩
      rw [hs'] at hs h2
      have HS := Lib.hid hs'
      clear hs'
      generalize isum (zs.take i) = s at *
      have ht : decide ((i : Int) < n) = true := decide_eq_true (by omega)
      have e1h : Hid (wrap64 (s + z) = s') := Lib.hid (by unfold wrap64; omega)
      have e2h : Hid (IntKind.i64.wrap (s + z) = s') := Lib.hid ((IntWalk.i64_in _ (by omega)).trans hs.symm)
      clear hc hs h1 h2 h3 hil
      have e1 := e1h.out
      have e2 := e2h.out
      clear e1h e2h
      go_wp2_with (first|go_big_skip|((with_reducible refine at_load ?_);first|(refine wm_own (cs := ?_) (t := ?_) (v := ?_) K rfl _ _ rfl rfl ?_ ?_ ?_ ?_;rotate_left 2;(repeat (first|exact At.hd|refine At.tl ?_));rotate_left;(first|exact rfl|assumption);(with_reducible first|exact one2|exact one24))|(refine wm_cell (v := ?_) rfl _ _ rfl rfl ?_ ?_ ?_;rotate_left;(first|assumption|exact (K.below.cell (by assumption)).trans (by assumption));(with_reducible first|exact one2|exact one24)))|((with_reducible refine at_store ?_);first|(refine wm_put (L' := ?_) (cs := ?_) (new := ?_) (t := ?_) K rfl _ _ _ rfl rfl rfl rfl ?_ ?_ ?_ ?_ rfl rfl ?_;rotate_left 4;(repeat (first|exact Put.hd|(refine Put.tl (L' := ?_) ?_;rotate_left)));(solve|exact Nat.le_of_ble_eq_true rfl|decide|(simp only [List.size_toArray, nums_length];first|assumption|omega)|(simp only [List.size_toArray, nums_length, List.length_set];first|assumption|omega)|simp|omega|(simp only [List.size_toArray, nums_length];omega)|assumption);(solve|(simp only [List.setIfInBounds_toArray];exact rfl)|exact nums_set _ _ _ _|simp only [List.setIfInBounds_toArray, List.set_cons_zero]|simp only [List.setIfInBounds_toArray, List.set_cons_zero, List.set_cons_succ]|(simp only [List.setIfInBounds_toArray, List.set_cons_zero, List.set_cons_succ];exact rfl)|exact rfl);(with_reducible first|exact one2|exact one24);(try clear K);(try clear ww);intro ww K;(try simp [go_sem] at K))))
      clear e1 e2
      exact ⟨⟨i + 1, by omega, by go_num, by rw [HS.out], K⟩, by simp [intOf]; omega⟩
    · obtain rfl : n = i := by omega
      have ht : decide ((n : Int) < n) = false := decide_eq_false (by omega)
      have hz : zs.take n = zs := List.take_of_length_le (by rw [HL.out]; omega)
      rw [hz]
      clear hz
      go_wp2
      go_ret
      exact ⟨rfl, K.below⟩
theorem sides14_any (W H S : Int) (w : World) :
    Calls Try.prog 110 #[.int .i64 W, .int .i64 H, .int .i64 S] w fun e w' => e = .returned (.bool (sides14 W H S)) ∧ w = w' := by
  unfold sides14
  cases h1 : decide (1 ≤ W)
  case' true => cases h2 : decide (W ≤ 64)
  case' true.true => cases h3 : decide (1 ≤ H)
  case' true.true.true => cases h4 : decide (H ≤ 64)
  case' true.true.true.true => cases h5 : decide (16 ≤ S)
  case' true.true.true.true.true => cases h6 : decide (S ≤ 4096)
  all_goals
    go_enter Try.func110, Try.ntmps110
    go_wp2
    go_ret
    exact ⟨rfl, rfl⟩
end Go.Proofs.Ytpejoaefnnbghaa
namespace Go.Proofs.Ytpejoaefnnbghaa
open Go.RowKit
attribute [local irreducible] wpHeld wpTree wpList
set_option linter.unusedVariables false
theorem chk14_a {W H S : Int} {l : List Int} (h : sides14 W H S = false) : chk14 W H S l = 2 := by unfold chk14; rw [if_pos h]
theorem chk14_b {W H S : Int} {l : List Int} (h : sides14 W H S = true) (h2 : (l.length : Int) ≠ W * H) : chk14 W H S l = 5 := by unfold chk14; rw [if_neg (by rw [h]; simp), if_pos h2]
theorem chk14_c {W H S : Int} {l : List Int} (h : sides14 W H S = true) (h2 : (l.length : Int) = W * H) (h3 : allIn l 0 1073741824 = false) : chk14 W H S l = 1 := by
  unfold chk14; rw [if_neg (by rw [h]; simp), if_neg (by omega), if_pos h3]
theorem chk14_d {W H S : Int} {l : List Int} (h : sides14 W H S = true) (h2 : (l.length : Int) = W * H) (h3 : allIn l 0 1073741824 = true) : chk14 W H S l = if isum l > 1073741824 ∨ isum l + l.length < 1073741824 then 11 else 0 := by
  unfold chk14; rw [if_neg (by rw [h]; simp), if_neg (by omega), if_neg (by rw [h3]; simp)]
theorem side_mul {W H S : Int} (h : sides14 W H S = true) : 1 ≤ W * H ∧ W * H ≤ 4096 := by
  obtain ⟨⟨a1, a2⟩, ⟨a3, a4⟩, _⟩ := sides_iff.1 h
  have x1 := Int.mul_le_mul a2 a4 (by omega) (by omega)
  have x2 := Int.mul_le_mul a1 a3 (by omega) (by omega)
  omega
set_option maxRecDepth 100000 in
theorem RChk14 (W H X Y S : Int) (A : Option Addr) (n c : Nat) (zs : List Int) (w : World) (h : Rd w A n (ints .i64 zs)) (hn : n ≤ 5000) :
    Calls Try.prog 75 #[.agg #[.int .i64 W, .int .i64 H, .int .i64 X, .int .i64 Y, .int .i64 S, .slice A n c]] w fun e w' => e = .returned (.int .i64 (chk14 W H S zs)) ∧ Below w.heap.size w w' := by
  have K := St.start w
  have hl : zs.length = n := by rw [← h.1, ints_len]
  have SD := fun w => sides14_any W H S w
  cases hs : sides14 W H S
  · have E := Lib.hid (chk14_a (l := zs) hs)
    rw [hs] at SD
    have SD := Lib.hid SD
    generalize chk14 W H S zs = r at *
    clear h hs hl
    go_enter Try.func75, Try.ntmps75
    go_wp2_with (first|go_big_skip|((with_reducible refine at_load ?_);first|(refine wm_own (cs := ?_) (t := ?_) (v := ?_) K rfl _ _ rfl rfl ?_ ?_ ?_ ?_;rotate_left 2;(repeat (first|exact At.hd|refine At.tl ?_));rotate_left;(first|exact rfl|assumption);(with_reducible first|exact one2|exact one3|exact one24))|(refine wm_cell (v := ?_) rfl _ _ rfl rfl ?_ ?_ ?_;rotate_left;(first|assumption|exact (K.below.cell (by assumption)).trans (by assumption));(with_reducible first|exact one2|exact one3|exact one24)))|((with_reducible refine at_store ?_);first|(refine wm_put (L' := ?_) (cs := ?_) (new := ?_) (t := ?_) K rfl _ _ _ rfl rfl rfl rfl ?_ ?_ ?_ ?_ rfl rfl ?_;rotate_left 4;(repeat (first|exact Put.hd|(refine Put.tl (L' := ?_) ?_;rotate_left)));(solve|exact Nat.le_of_ble_eq_true rfl|decide|(simp only [List.size_toArray, nums_length];first|assumption|omega)|(simp only [List.size_toArray, nums_length, List.length_set];first|assumption|omega)|simp|omega|(simp only [List.size_toArray, nums_length];omega)|assumption);(solve|(simp only [List.setIfInBounds_toArray];exact rfl)|exact nums_set _ _ _ _|simp only [List.setIfInBounds_toArray, List.set_cons_zero]|simp only [List.setIfInBounds_toArray, List.set_cons_zero, List.set_cons_succ]|(simp only [List.setIfInBounds_toArray, List.set_cons_zero, List.set_cons_succ];exact rfl)|exact rfl);(with_reducible first|exact one2|exact one3|exact one24);(try clear K);(try clear ww);intro ww K;(try simp [go_sem] at K)))|((first|((with_reducible refine at_box ?_);refine wm_box K rfl _ _ rfl rfl rfl ?_)|((with_reducible refine at_alloc ?_);refine wm_alloc (v := ?_) (cs := ?_) K rfl _ rfl ?_ ?_ ?_;rotate_left;(with_reducible first|fail);rotate_left;exact rfl));(try clear K);(try clear ww);((fail_if_success (have _h := b1));intro b1 ww K);(try simp [go_sem, Value.cells] at K))|(go_at_call 110;(with_reducible refine (SD.out _).mono ?_);rintro e w2 ⟨rfl, rfl⟩;(try dsimp only)))
    go_ret
    exact ⟨by rw [E.out]; rfl, K.below⟩
  · rw [hs] at SD
    have SD := Lib.hid SD
    have hm := side_mul hs
    obtain ⟨q, hq⟩ : ∃ q, W * H = q := ⟨_, rfl⟩
    have e1h : Hid (wrap64 (W * H) = q) := Lib.hid (by unfold wrap64; omega)
    have e2h : Hid (IntKind.i64.wrap (W * H) = q) := Lib.hid ((IntWalk.i64_in _ (by omega)).trans hq)
    by_cases h2 : (n : Int) = q
    case neg =>
      have E := Lib.hid (chk14_b (l := zs) hs (by rw [hl, hq]; exact h2))
      have t1 : ((n : Int) != q) = true := by simpa using h2
      generalize chk14 W H S zs = r at *
      clear h hs hl hm hq
      have e1 := e1h.out
      have e2 := e2h.out
      go_enter Try.func75, Try.ntmps75
      go_wp2_with (first|go_big_skip|((with_reducible refine at_load ?_);first|(refine wm_own (cs := ?_) (t := ?_) (v := ?_) K rfl _ _ rfl rfl ?_ ?_ ?_ ?_;rotate_left 2;(repeat (first|exact At.hd|refine At.tl ?_));rotate_left;(first|exact rfl|assumption);(with_reducible first|exact one2|exact one3|exact one24))|(refine wm_cell (v := ?_) rfl _ _ rfl rfl ?_ ?_ ?_;rotate_left;(first|assumption|exact (K.below.cell (by assumption)).trans (by assumption));(with_reducible first|exact one2|exact one3|exact one24)))|((with_reducible refine at_store ?_);first|(refine wm_put (L' := ?_) (cs := ?_) (new := ?_) (t := ?_) K rfl _ _ _ rfl rfl rfl rfl ?_ ?_ ?_ ?_ rfl rfl ?_;rotate_left 4;(repeat (first|exact Put.hd|(refine Put.tl (L' := ?_) ?_;rotate_left)));(solve|exact Nat.le_of_ble_eq_true rfl|decide|(simp only [List.size_toArray, nums_length];first|assumption|omega)|(simp only [List.size_toArray, nums_length, List.length_set];first|assumption|omega)|simp|omega|(simp only [List.size_toArray, nums_length];omega)|assumption);(solve|(simp only [List.setIfInBounds_toArray];exact rfl)|exact nums_set _ _ _ _|simp only [List.setIfInBounds_toArray, List.set_cons_zero]|simp only [List.setIfInBounds_toArray, List.set_cons_zero, List.set_cons_succ]|(simp only [List.setIfInBounds_toArray, List.set_cons_zero, List.set_cons_succ];exact rfl)|exact rfl);(with_reducible first|exact one2|exact one3|exact one24);(try clear K);(try clear ww);intro ww K;(try simp [go_sem] at K)))|((first|((with_reducible refine at_box ?_);refine wm_box K rfl _ _ rfl rfl rfl ?_)|((with_reducible refine at_alloc ?_);refine wm_alloc (v := ?_) (cs := ?_) K rfl _ rfl ?_ ?_ ?_;rotate_left;(with_reducible first|fail);rotate_left;exact rfl));(try clear K);(try clear ww);((fail_if_success (have _h := b1));intro b1 ww K);(try simp [go_sem, Value.cells] at K))|(go_at_call 110;(with_reducible refine (SD.out _).mono ?_);rintro e w2 ⟨rfl, rfl⟩;(try dsimp only)))
      go_ret
      exact ⟨by rw [E.out]; rfl, K.below⟩
    have t1 : ((n : Int) != q) = false := by simpa using h2
    have E3 := Lib.hid (fun h3 => chk14_c (l := zs) hs (by rw [hl, hq]; exact h2) h3)
    have E4 := Lib.hid (fun h3 => chk14_d (l := zs) hs (by rw [hl, hq]; exact h2) h3)
    have HR := Lib.hid h
    have HL := Lib.hid hl
    have HN := Lib.hid h2
    generalize chk14 W H S zs = r at *
    clear h hs hl hm hq h2
    have e1 := e1h.out
    have e2 := e2h.out
    clear e1h e2h
    go_enter Try.func75, Try.ntmps75
    go_wp2_with (first|go_big_skip|((with_reducible refine at_load ?_);first|(refine wm_own (cs := ?_) (t := ?_) (v := ?_) K rfl _ _ rfl rfl ?_ ?_ ?_ ?_;rotate_left 2;(repeat (first|exact At.hd|refine At.tl ?_));rotate_left;(first|exact rfl|assumption);(with_reducible first|exact one2|exact one3|exact one24))|(refine wm_cell (v := ?_) rfl _ _ rfl rfl ?_ ?_ ?_;rotate_left;(first|assumption|exact (K.below.cell (by assumption)).trans (by assumption));(with_reducible first|exact one2|exact one3|exact one24)))|((with_reducible refine at_store ?_);first|(refine wm_put (L' := ?_) (cs := ?_) (new := ?_) (t := ?_) K rfl _ _ _ rfl rfl rfl rfl ?_ ?_ ?_ ?_ rfl rfl ?_;rotate_left 4;(repeat (first|exact Put.hd|(refine Put.tl (L' := ?_) ?_;rotate_left)));(solve|exact Nat.le_of_ble_eq_true rfl|decide|(simp only [List.size_toArray, nums_length];first|assumption|omega)|(simp only [List.size_toArray, nums_length, List.length_set];first|assumption|omega)|simp|omega|(simp only [List.size_toArray, nums_length];omega)|assumption);(solve|(simp only [List.setIfInBounds_toArray];exact rfl)|exact nums_set _ _ _ _|simp only [List.setIfInBounds_toArray, List.set_cons_zero]|simp only [List.setIfInBounds_toArray, List.set_cons_zero, List.set_cons_succ]|(simp only [List.setIfInBounds_toArray, List.set_cons_zero, List.set_cons_succ];exact rfl)|exact rfl);(with_reducible first|exact one2|exact one3|exact one24);(try clear K);(try clear ww);intro ww K;(try simp [go_sem] at K)))|((first|((with_reducible refine at_box ?_);refine wm_box K rfl _ _ rfl rfl rfl ?_)|((with_reducible refine at_alloc ?_);refine wm_alloc (v := ?_) (cs := ?_) K rfl _ rfl ?_ ?_ ?_;rotate_left;(with_reducible first|fail);rotate_left;exact rfl));(try clear K);(try clear ww);((fail_if_success (have _h := b1));intro b1 ww K);(try simp [go_sem, Value.cells] at K))|(go_at_call 110;(with_reducible refine (SD.out _).mono ?_);rintro e w2 ⟨rfl, rfl⟩;(try dsimp only)))
    clear e1 e2 SD t1
    go_loopw [3] (fun i wr => ∃ (k : Nat), k ≤ n ∧ i = .int .i64 k ∧ Hid (allIn (zs.take k) 0 1073741824 = true) ∧ St w.heap.size w [(b1, #[.int .i64 W, .int .i64 H, .int .i64 X, .int .i64 Y, .int .i64 S, .slice A n c], 26)] Any wr) (fun i _ => n - (intOf i).toNat)
    case atStart => exact ⟨0, Nat.zero_le _, rfl, Lib.hid rfl, K⟩
    case round =>
      clear K
      obtain ⟨i, hi, rfl, HA, K⟩ := hrel
      by_cases hlt : i < n
      · obtain ⟨b, off, rfl, hb, hc⟩ := HR.out.get hlt
        have hil : i < zs.length := by rw [HL.out]; exact hlt
        have hv := hc i _ (ints_get .i64 zs i hil)
        have hsn := allIn_snoc (lo := 0) (hi := 1073741824) hil
        have hfa := allIn_false (lo := 0) (hi := 1073741824) hil
        rw [HA.out, Bool.true_and] at hsn
        have HS := Lib.hid hsn
        have HF := Lib.hid hfa
        generalize zs.getD i 0 = z at *
        have ht : decide ((i : Int) < n) = true := decide_eq_true (by omega)
        clear hc hsn hfa hil
        by_cases z0 : z < 0
        · have s1 : decide (z < 0) = true := decide_eq_true z0
          go_wp2_with (first|go_big_skip|((with_reducible refine at_load ?_);first|(refine wm_own (cs := ?_) (t := ?_) (v := ?_) K rfl _ _ rfl rfl ?_ ?_ ?_ ?_;rotate_left 2;(repeat (first|exact At.hd|refine At.tl ?_));rotate_left;(first|exact rfl|assumption);(with_reducible first|exact one2|exact one3|exact one24))|(refine wm_cell (v := ?_) rfl _ _ rfl rfl ?_ ?_ ?_;rotate_left;(first|assumption|exact (K.below.cell (by assumption)).trans (by assumption));(with_reducible first|exact one2|exact one3|exact one24)))|((with_reducible refine at_store ?_);first|(refine wm_put (L' := ?_) (cs := ?_) (new := ?_) (t := ?_) K rfl _ _ _ rfl rfl rfl rfl ?_ ?_ ?_ ?_ rfl rfl ?_;rotate_left 4;(repeat (first|exact Put.hd|(refine Put.tl (L' := ?_) ?_;rotate_left)));(solve|exact Nat.le_of_ble_eq_true rfl|decide|(simp only [List.size_toArray, nums_length];first|assumption|omega)|(simp only [List.size_toArray, nums_length, List.length_set];first|assumption|omega)|simp|omega|(simp only [List.size_toArray, nums_length];omega)|assumption);(solve|(simp only [List.setIfInBounds_toArray];exact rfl)|exact nums_set _ _ _ _|simp only [List.setIfInBounds_toArray, List.set_cons_zero]|simp only [List.setIfInBounds_toArray, List.set_cons_zero, List.set_cons_succ]|(simp only [List.setIfInBounds_toArray, List.set_cons_zero, List.set_cons_succ];exact rfl)|exact rfl);(with_reducible first|exact one2|exact one3|exact one24);(try clear K);(try clear ww);intro ww K;(try simp [go_sem] at K))))
          go_ret
          exact ⟨by rw [E3.out (HF.out (.inl z0))]; rfl, K.below⟩
        · have s1 : decide (z < 0) = false := decide_eq_false z0
          by_cases z1 : 1073741824 < z
          · have s2 : decide (1073741824 < z) = true := decide_eq_true z1
            go_wp2_with (first|go_big_skip|((with_reducible refine at_load ?_);first|(refine wm_own (cs := ?_) (t := ?_) (v := ?_) K rfl _ _ rfl rfl ?_ ?_ ?_ ?_;rotate_left 2;(repeat (first|exact At.hd|refine At.tl ?_));rotate_left;(first|exact rfl|assumption);(with_reducible first|exact one2|exact one3|exact one24))|(refine wm_cell (v := ?_) rfl _ _ rfl rfl ?_ ?_ ?_;rotate_left;(first|assumption|exact (K.below.cell (by assumption)).trans (by assumption));(with_reducible first|exact one2|exact one3|exact one24)))|((with_reducible refine at_store ?_);first|(refine wm_put (L' := ?_) (cs := ?_) (new := ?_) (t := ?_) K rfl _ _ _ rfl rfl rfl rfl ?_ ?_ ?_ ?_ rfl rfl ?_;rotate_left 4;(repeat (first|exact Put.hd|(refine Put.tl (L' := ?_) ?_;rotate_left)));(solve|exact Nat.le_of_ble_eq_true rfl|decide|(simp only [List.size_toArray, nums_length];first|assumption|omega)|(simp only [List.size_toArray, nums_length, List.length_set];first|assumption|omega)|simp|omega|(simp only [List.size_toArray, nums_length];omega)|assumption);(solve|(simp only [List.setIfInBounds_toArray];exact rfl)|exact nums_set _ _ _ _|simp only [List.setIfInBounds_toArray, List.set_cons_zero]|simp only [List.setIfInBounds_toArray, List.set_cons_zero, List.set_cons_succ]|(simp only [List.setIfInBounds_toArray, List.set_cons_zero, List.set_cons_succ];exact rfl)|exact rfl);(with_reducible first|exact one2|exact one3|exact one24);(try clear K);(try clear ww);intro ww K;(try simp [go_sem] at K))))
            go_ret
            exact ⟨by rw [E3.out (HF.out (.inr z1))]; rfl, K.below⟩
          · have s2 : decide (1073741824 < z) = false := decide_eq_false z1
            go_wp2_with (first|go_big_skip|((with_reducible refine at_load ?_);first|(refine wm_own (cs := ?_) (t := ?_) (v := ?_) K rfl _ _ rfl rfl ?_ ?_ ?_ ?_;rotate_left 2;(repeat (first|exact At.hd|refine At.tl ?_));rotate_left;(first|exact rfl|assumption);(with_reducible first|exact one2|exact one3|exact one24))|(refine wm_cell (v := ?_) rfl _ _ rfl rfl ?_ ?_ ?_;rotate_left;(first|assumption|exact (K.below.cell (by assumption)).trans (by assumption));(with_reducible first|exact one2|exact one3|exact one24)))|((with_reducible refine at_store ?_);first|(refine wm_put (L' := ?_) (cs := ?_) (new := ?_) (t := ?_) K rfl _ _ _ rfl rfl rfl rfl ?_ ?_ ?_ ?_ rfl rfl ?_;rotate_left 4;(repeat (first|exact Put.hd|(refine Put.tl (L' := ?_) ?_;rotate_left)));(solve|exact Nat.le_of_ble_eq_true rfl|decide|(simp only [List.size_toArray, nums_length];first|assumption|omega)|(simp only [List.size_toArray, nums_length, List.length_set];first|assumption|omega)|simp|omega|(simp only [List.size_toArray, nums_length];omega)|assumption);(solve|(simp only [List.setIfInBounds_toArray];exact rfl)|exact nums_set _ _ _ _|simp only [List.setIfInBounds_toArray, List.set_cons_zero]|simp only [List.setIfInBounds_toArray, List.set_cons_zero, List.set_cons_succ]|(simp only [List.setIfInBounds_toArray, List.set_cons_zero, List.set_cons_succ];exact rfl)|exact rfl);(with_reducible first|exact one2|exact one3|exact one24);(try clear K);(try clear ww);intro ww K;(try simp [go_sem] at K))))
            exact ⟨⟨i + 1, by omega, by go_num, Lib.hid (by rw [HS.out, decide_eq_true (show 0 ≤ z by omega), decide_eq_true (show z ≤ 1073741824 by omega)]; rfl), K⟩, by simp [intOf]; omega⟩
      · obtain rfl : n = i := by omega
        have ht : decide ((n : Int) < n) = false := decide_eq_false (by omega)
        have hz : zs.take n = zs := List.take_of_length_le (by rw [HL.out]; omega)
        rw [hz] at HA
        have hal := allIn_iff.1 HA.out
        have SM := Lib.hid (fun w (h : Rd w A n (ints .i64 zs)) => RSum14 A n c zs w h (fun z hz => by have := hal z hz; omega) hn)
        have hE := E4.out HA.out
        have hsb := isum_take_bd (M := 1073741824) (n := n) (by omega) (fun z hz => by have := hal z hz; omega) (Nat.le_of_eq HL.out) n
        rw [hz] at hsb
        rw [HL.out] at hE
        clear hz hal HA
        generalize isum zs = s at *
        have e1h : Hid (wrap64 (s + (n : Int)) = s + n) := Lib.hid (by unfold wrap64; omega)
        have e2h : Hid (IntKind.i64.wrap (s + (n : Int)) = s + n) := Lib.hid (IntWalk.i64_in _ (by omega))
        have e3h : Hid (wrap64 (n : Int) = n) := Lib.hid (by unfold wrap64; omega)
        by_cases s1 : 1073741824 < s
        · have t1 : decide (1073741824 < s) = true := decide_eq_true s1
          rw [if_pos (.inl s1)] at hE
          have E := Lib.hid hE
          clear hE hsb
          go_wp2_with (first|go_big_skip|((with_reducible refine at_load ?_);first|(refine wm_own (cs := ?_) (t := ?_) (v := ?_) K rfl _ _ rfl rfl ?_ ?_ ?_ ?_;rotate_left 2;(repeat (first|exact At.hd|refine At.tl ?_));rotate_left;(first|exact rfl|assumption);(with_reducible first|exact one2|exact one3|exact one24))|(refine wm_cell (v := ?_) rfl _ _ rfl rfl ?_ ?_ ?_;rotate_left;(first|assumption|exact (K.below.cell (by assumption)).trans (by assumption));(with_reducible first|exact one2|exact one3|exact one24)))|((with_reducible refine at_store ?_);first|(refine wm_put (L' := ?_) (cs := ?_) (new := ?_) (t := ?_) K rfl _ _ _ rfl rfl rfl rfl ?_ ?_ ?_ ?_ rfl rfl ?_;rotate_left 4;(repeat (first|exact Put.hd|(refine Put.tl (L' := ?_) ?_;rotate_left)));(solve|exact Nat.le_of_ble_eq_true rfl|decide|(simp only [List.size_toArray, nums_length];first|assumption|omega)|(simp only [List.size_toArray, nums_length, List.length_set];first|assumption|omega)|simp|omega|(simp only [List.size_toArray, nums_length];omega)|assumption);(solve|(simp only [List.setIfInBounds_toArray];exact rfl)|exact nums_set _ _ _ _|simp only [List.setIfInBounds_toArray, List.set_cons_zero]|simp only [List.setIfInBounds_toArray, List.set_cons_zero, List.set_cons_succ]|(simp only [List.setIfInBounds_toArray, List.set_cons_zero, List.set_cons_succ];exact rfl)|exact rfl);(with_reducible first|exact one2|exact one3|exact one24);(try clear K);(try clear ww);intro ww K;(try simp [go_sem] at K)))|(go_at_call 17;(with_reducible refine (SM.out _ (HR.out.below K.below)).mono ?_);rintro e w2 ⟨rfl, k1⟩;replace K := K.step k1;clear k1;(try clear ww);revert w2;intro ww K))
          go_ret
          exact ⟨by rw [E.out]; rfl, K.below⟩
        · have t1 : decide (1073741824 < s) = false := decide_eq_false s1
          by_cases s2 : s + n < 1073741824
          · have t2 : decide (s + (n : Int) < 1073741824) = true := decide_eq_true s2
            rw [if_pos (.inr s2)] at hE
            have E := Lib.hid hE
            clear hE hsb s1 s2
            have e1 := e1h.out
            have e2 := e2h.out
            have e3 := e3h.out
            go_wp2_with (first|go_big_skip|((with_reducible refine at_load ?_);first|(refine wm_own (cs := ?_) (t := ?_) (v := ?_) K rfl _ _ rfl rfl ?_ ?_ ?_ ?_;rotate_left 2;(repeat (first|exact At.hd|refine At.tl ?_));rotate_left;(first|exact rfl|assumption);(with_reducible first|exact one2|exact one3|exact one24))|(refine wm_cell (v := ?_) rfl _ _ rfl rfl ?_ ?_ ?_;rotate_left;(first|assumption|exact (K.below.cell (by assumption)).trans (by assumption));(with_reducible first|exact one2|exact one3|exact one24)))|((with_reducible refine at_store ?_);first|(refine wm_put (L' := ?_) (cs := ?_) (new := ?_) (t := ?_) K rfl _ _ _ rfl rfl rfl rfl ?_ ?_ ?_ ?_ rfl rfl ?_;rotate_left 4;(repeat (first|exact Put.hd|(refine Put.tl (L' := ?_) ?_;rotate_left)));(solve|exact Nat.le_of_ble_eq_true rfl|decide|(simp only [List.size_toArray, nums_length];first|assumption|omega)|(simp only [List.size_toArray, nums_length, List.length_set];first|assumption|omega)|simp|omega|(simp only [List.size_toArray, nums_length];omega)|assumption);(solve|(simp only [List.setIfInBounds_toArray];exact rfl)|exact nums_set _ _ _ _|simp only [List.setIfInBounds_toArray, List.set_cons_zero]|simp only [List.setIfInBounds_toArray, List.set_cons_zero, List.set_cons_succ]|(simp only [List.setIfInBounds_toArray, List.set_cons_zero, List.set_cons_succ];exact rfl)|exact rfl);(with_reducible first|exact one2|exact one3|exact one24);(try clear K);(try clear ww);intro ww K;(try simp [go_sem] at K)))|(go_at_call 17;(with_reducible refine (SM.out _ (HR.out.below K.below)).mono ?_);rintro e w2 ⟨rfl, k1⟩;replace K := K.step k1;clear k1;(try clear ww);revert w2;intro ww K))
            go_ret
            exact ⟨by rw [E.out]; rfl, K.below⟩
          · have t2 : decide (s + (n : Int) < 1073741824) = false := decide_eq_false s2
            rw [if_neg (by omega)] at hE
            have E := Lib.hid hE
            clear hE hsb s1 s2
            have e1 := e1h.out
            have e2 := e2h.out
            have e3 := e3h.out
            go_wp2_with (first|go_big_skip|((with_reducible refine at_load ?_);first|(refine wm_own (cs := ?_) (t := ?_) (v := ?_) K rfl _ _ rfl rfl ?_ ?_ ?_ ?_;rotate_left 2;(repeat (first|exact At.hd|refine At.tl ?_));rotate_left;(first|exact rfl|assumption);(with_reducible first|exact one2|exact one3|exact one24))|(refine wm_cell (v := ?_) rfl _ _ rfl rfl ?_ ?_ ?_;rotate_left;(first|assumption|exact (K.below.cell (by assumption)).trans (by assumption));(with_reducible first|exact one2|exact one3|exact one24)))|((with_reducible refine at_store ?_);first|(refine wm_put (L' := ?_) (cs := ?_) (new := ?_) (t := ?_) K rfl _ _ _ rfl rfl rfl rfl ?_ ?_ ?_ ?_ rfl rfl ?_;rotate_left 4;(repeat (first|exact Put.hd|(refine Put.tl (L' := ?_) ?_;rotate_left)));(solve|exact Nat.le_of_ble_eq_true rfl|decide|(simp only [List.size_toArray, nums_length];first|assumption|omega)|(simp only [List.size_toArray, nums_length, List.length_set];first|assumption|omega)|simp|omega|(simp only [List.size_toArray, nums_length];omega)|assumption);(solve|(simp only [List.setIfInBounds_toArray];exact rfl)|exact nums_set _ _ _ _|simp only [List.setIfInBounds_toArray, List.set_cons_zero]|simp only [List.setIfInBounds_toArray, List.set_cons_zero, List.set_cons_succ]|(simp only [List.setIfInBounds_toArray, List.set_cons_zero, List.set_cons_succ];exact rfl)|exact rfl);(with_reducible first|exact one2|exact one3|exact one24);(try clear K);(try clear ww);intro ww K;(try simp [go_sem] at K)))|(go_at_call 17;(with_reducible refine (SM.out _ (HR.out.below K.below)).mono ?_);rintro e w2 ⟨rfl, k1⟩;replace K := K.step k1;clear k1;(try clear ww);revert w2;intro ww K))
            go_ret
            exact ⟨by rw [E.out]; rfl, K.below⟩
end Go.Proofs.Ytpejoaefnnbghaa
