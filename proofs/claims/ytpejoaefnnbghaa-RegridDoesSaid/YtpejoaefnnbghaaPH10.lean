/-
  Lemmas and walks of this claim (the texts Ga14 Gb14 of the work; what no proof here uses is left out). No claim of their own.
-/
import Derived.Test.YtpejoaefnnbghaaPH8
import Derived.Test.YtpejoaefnnbghaaPH7
import Derived.Test.YtpejoaefnnbghaaPH5
import Derived.Lib.MinMax
set_option linter.all false
set_option linter.unusedSimpArgs false
set_option linter.unusedVariables false
namespace Go.Proofs.Ytpejoaefnnbghaa
open Go.RowKit
attribute [local irreducible] wpHeld wpTree wpList
set_option linter.unusedVariables false
set_option maxRecDepth 100000 in
theorem RSum14 (A : Option Addr) (n c : Nat) (zs : List Int) (w : World) (h : Rd w A n (ints .i64 zs)) (hb : ∀ z ∈ zs, -1125899906842624 ≤ z ∧ z ≤ 1125899906842624) (hn : n ≤ 5000) :
    Calls Try.prog 17 #[.slice A n c] w fun e w' => e = .returned (.int .i64 (isum zs)) ∧ Below w.heap.size w w' := by
  have K := St.start w
  have hl : zs.length = n := by rw [← h.1, ints_len]
  have HT := Lib.hid (fun k => isum_take_bd (n := n) (by omega) hb (Nat.le_of_eq hl) k)
  have HZ := Lib.hid hb
  have HR := Lib.hid h
  have HL := Lib.hid hl
  clear h hl hb
  go_enter Try.func17, Try.ntmps17
  go_wp2
  go_loopw [3, 4] (fun s i wr => ∃ (k : Nat), k ≤ n ∧ i = .int .i64 k ∧ s = .int .i64 (isum (zs.take k)) ∧ St w.heap.size w [] Any wr) (fun _ i _ => n - (intOf i).toNat)
  case atStart => exact ⟨0, Nat.zero_le _, rfl, rfl, K⟩
  case round =>
    clear K
    obtain ⟨i, hi, rfl, rfl, K⟩ := hrel
    by_cases hlt : i < n
    · obtain ⟨b, off, rfl, hb, hc⟩ := HR.out.get hlt
      have hil : i < zs.length := by rw [HL.out]; exact hlt
      have hv := hc i _ (ints_get .i64 zs i hil)
      have hs := isum_snoc zs i hil
      have h1 := HT.out i
      have h2 := HT.out (i + 1)
      have h3 := HZ.out _ (getD_mem hil)
      generalize zs.getD i 0 = z at *
      obtain ⟨s', hs'⟩ : ∃ s', isum (zs.take (i + 1)) = s' := ⟨_, rfl⟩
      rw [hs'] at hs h2
      have HS := Lib.hid hs'
      clear hs'
      generalize isum (zs.take i) = s at *
      have ht : decide ((i : Int) < n) = true := decide_eq_true (by omega)
      have e1h : Hid (wrap64 (s + z) = s') := Lib.hid (by unfold wrap64; omega)
      have e2h : Hid (IntKind.i64.wrap (s + z) = s') := Lib.hid ((IntWalk.i64_in _ (by omega)).trans hs.symm)
      clear hc hs h1 h2 h3 hil
      have e1 := e1h.out
      have e2 := e2h.out
      clear e1h e2h
      go_wp2_with (first|go_big_skip|((with_reducible refine at_load ?_);first|(refine wm_own (cs := ?_) (t := ?_) (v := ?_) K rfl _ _ rfl rfl ?_ ?_ ?_ ?_;rotate_left 2;(repeat (first|exact At.hd|refine At.tl ?_));rotate_left;(first|exact rfl|assumption);(with_reducible first|exact one2|exact one24))|(refine wm_cell (v := ?_) rfl _ _ rfl rfl ?_ ?_ ?_;rotate_left;(first|assumption|exact (K.below.cell (by assumption)).trans (by assumption));(with_reducible first|exact one2|exact one24)))|((with_reducible refine at_store ?_);first|(refine wm_put (L' := ?_) (cs := ?_) (new := ?_) (t := ?_) K rfl _ _ _ rfl rfl rfl rfl ?_ ?_ ?_ ?_ rfl rfl ?_;rotate_left 4;(repeat (first|exact Put.hd|(refine Put.tl (L' := ?_) ?_;rotate_left)));(solve|exact Nat.le_of_ble_eq_true rfl|decide|(simp only [List.size_toArray, nums_length];first|assumption|omega)|(simp only [List.size_toArray, nums_length, List.length_set];first|assumption|omega)|simp|omega|(simp only [List.size_toArray, nums_length];omega)|assumption);(solve|(simp only [List.setIfInBounds_toArray];exact rfl)|exact nums_set _ _ _ _|simp only [List.setIfInBounds_toArray, List.set_cons_zero]|simp only [List.setIfInBounds_toArray, List.set_cons_zero, List.set_cons_succ]|(simp only [List.setIfInBounds_toArray, List.set_cons_zero, List.set_cons_succ];exact rfl)|exact rfl);(with_reducible first|exact one2|exact one24);(try clear K);(try clear ww);intro ww K;(try simp [go_sem] at K))))
      clear e1 e2
      exact ⟨⟨i + 1, by omega, by go_num, by rw [HS.out], K⟩, by simp [intOf]; omega⟩
    · obtain rfl : n = i := by omega
      have ht : decide ((n : Int) < n) = false := decide_eq_false (by omega)
      have hz : zs.take n = zs := List.take_of_length_le (by rw [HL.out]; omega)
      rw [hz]
      clear hz
      go_wp2
      go_ret
      exact ⟨rfl, K.below⟩
set_option maxRecDepth 100000 in
theorem Sum14 (W H X Y S : Int) (A : Option Addr) (n c : Nat) (zs : List Int) (w : World) (h : Rd w A n (ints .i64 zs)) (hb : ∀ z ∈ zs, -1125899906842624 ≤ z ∧ z ≤ 1125899906842624) (hn : n ≤ 5000) :
    Calls Try.prog 62 #[.agg #[.int .i64 W, .int .i64 H, .int .i64 X, .int .i64 Y, .int .i64 S, .slice A n c]] w fun e w' => e = .returned (.int .i64 (isum zs)) ∧ Below w.heap.size w w' := by
  have K := St.start w
  have hl : zs.length = n := by rw [← h.1, ints_len]
  have HT := Lib.hid (fun k => isum_take_bd (n := n) (by omega) hb (Nat.le_of_eq hl) k)
  have HZ := Lib.hid hb
  have HR := Lib.hid h
  have HL := Lib.hid hl
  clear h hl hb
  go_enter Try.func62, Try.ntmps62
  go_wp2_with (first|go_big_skip|((with_reducible refine at_load ?_);first|(refine wm_own (cs := ?_) (t := ?_) (v := ?_) K rfl _ _ rfl rfl ?_ ?_ ?_ ?_;rotate_left 2;(repeat (first|exact At.hd|refine At.tl ?_));rotate_left;(first|exact rfl|assumption);(with_reducible first|exact one2|exact one24))|(refine wm_cell (v := ?_) rfl _ _ rfl rfl ?_ ?_ ?_;rotate_left;(first|assumption|exact (K.below.cell (by assumption)).trans (by assumption));(with_reducible first|exact one2|exact one24)))|((with_reducible refine at_store ?_);first|(refine wm_put (L' := ?_) (cs := ?_) (new := ?_) (t := ?_) K rfl _ _ _ rfl rfl rfl rfl ?_ ?_ ?_ ?_ rfl rfl ?_;rotate_left 4;(repeat (first|exact Put.hd|(refine Put.tl (L' := ?_) ?_;rotate_left)));(solve|exact Nat.le_of_ble_eq_true rfl|decide|(simp only [List.size_toArray, nums_length];first|assumption|omega)|(simp only [List.size_toArray, nums_length, List.length_set];first|assumption|omega)|simp|omega|(simp only [List.size_toArray, nums_length];omega)|assumption);(solve|(simp only [List.setIfInBounds_toArray];exact rfl)|exact nums_set _ _ _ _|simp only [List.setIfInBounds_toArray, List.set_cons_zero]|simp only [List.setIfInBounds_toArray, List.set_cons_zero, List.set_cons_succ]|(simp only [List.setIfInBounds_toArray, List.set_cons_zero, List.set_cons_succ];exact rfl)|exact rfl);(with_reducible first|exact one2|exact one24);(try clear K);(try clear ww);intro ww K;(try simp [go_sem] at K)))|((first|((with_reducible refine at_box ?_);refine wm_box K rfl _ _ rfl rfl rfl ?_)|((with_reducible refine at_alloc ?_);refine wm_alloc (v := ?_) (cs := ?_) K rfl _ rfl ?_ ?_ ?_;rotate_left;(with_reducible first|fail);rotate_left;exact rfl));(try clear K);(try clear ww);((fail_if_success (have _h := b1));intro b1 ww K);(try simp [go_sem, Value.cells] at K)))
  go_loopw [3, 9] (fun s i wr => ∃ (k : Nat), k ≤ n ∧ i = .int .i64 k ∧ s = .int .i64 (isum (zs.take k)) ∧ St w.heap.size w [(b1, #[.int .i64 W, .int .i64 H, .int .i64 X, .int .i64 Y, .int .i64 S, .slice A n c], 26)] Any wr) (fun _ i _ => n - (intOf i).toNat)
  case atStart => exact ⟨0, Nat.zero_le _, rfl, rfl, K⟩
  case round =>
    clear K
    obtain ⟨i, hi, rfl, rfl, K⟩ := hrel
    by_cases hlt : i < n
    · obtain ⟨b, off, rfl, hb, hc⟩ := HR.out.get hlt
      have hil : i < zs.length := by rw [HL.out]; exact hlt
      have hv := hc i _ (ints_get .i64 zs i hil)
      have hs := isum_snoc zs i hil
      have h1 := HT.out i
      have h2 := HT.out (i + 1)
      have h3 := HZ.out _ (getD_mem hil)
      generalize zs.getD i 0 = z at *
      obtain ⟨s', hs'⟩ : ∃ s', isum (zs.take (i + 1)) = s' := ⟨_, rfl⟩
      rw [hs'] at hs h2
      have HS := Lib.hid hs'
      clear hs'
      generalize isum (zs.take i) = s at *
      have ht : decide ((i : Int) < n) = true := decide_eq_true (by omega)
      have e1h : Hid (wrap64 (s + z) = s') := Lib.hid (by unfold wrap64; omega)
      have e2h : Hid (IntKind.i64.wrap (s + z) = s') := Lib.hid ((IntWalk.i64_in _ (by omega)).trans hs.symm)
      clear hc hs h1 h2 h3 hil
      have e1 := e1h.out
      have e2 := e2h.out
      clear e1h e2h
      go_wp2_with (first|go_big_skip|((with_reducible refine at_load ?_);first|(refine wm_own (cs := ?_) (t := ?_) (v := ?_) K rfl _ _ rfl rfl ?_ ?_ ?_ ?_;rotate_left 2;(repeat (first|exact At.hd|refine At.tl ?_));rotate_left;(first|exact rfl|assumption);(with_reducible first|exact one2|exact one24))|(refine wm_cell (v := ?_) rfl _ _ rfl rfl ?_ ?_ ?_;rotate_left;(first|assumption|exact (K.below.cell (by assumption)).trans (by assumption));(with_reducible first|exact one2|exact one24)))|((with_reducible refine at_store ?_);first|(refine wm_put (L' := ?_) (cs := ?_) (new := ?_) (t := ?_) K rfl _ _ _ rfl rfl rfl rfl ?_ ?_ ?_ ?_ rfl rfl ?_;rotate_left 4;(repeat (first|exact Put.hd|(refine Put.tl (L' := ?_) ?_;rotate_left)));(solve|exact Nat.le_of_ble_eq_true rfl|decide|(simp only [List.size_toArray, nums_length];first|assumption|omega)|(simp only [List.size_toArray, nums_length, List.length_set];first|assumption|omega)|simp|omega|(simp only [List.size_toArray, nums_length];omega)|assumption);(solve|(simp only [List.setIfInBounds_toArray];exact rfl)|exact nums_set _ _ _ _|simp only [List.setIfInBounds_toArray, List.set_cons_zero]|simp only [List.setIfInBounds_toArray, List.set_cons_zero, List.set_cons_succ]|(simp only [List.setIfInBounds_toArray, List.set_cons_zero, List.set_cons_succ];exact rfl)|exact rfl);(with_reducible first|exact one2|exact one24);(try clear K);(try clear ww);intro ww K;(try simp [go_sem] at K))))
      clear e1 e2
      exact ⟨⟨i + 1, by omega, by go_num, by rw [HS.out], K⟩, by simp [intOf]; omega⟩
    · obtain rfl : n = i := by omega
      have ht : decide ((n : Int) < n) = false := decide_eq_false (by omega)
      have hz : zs.take n = zs := List.take_of_length_le (by rw [HL.out]; omega)
      rw [hz]
      clear hz
      go_wp2
      go_ret
      exact ⟨rfl, K.below⟩
end Go.Proofs.Ytpejoaefnnbghaa
namespace Go.Proofs.Ytpejoaefnnbghaa
open Go.RowKit
attribute [local irreducible] wpHeld wpTree wpList
set_option linter.unusedVariables false
theorem chk14_a {W H S : Int} {l : List Int} (h : sides14 W H S = false) : chk14 W H S l = 2 := by unfold chk14; rw [if_pos h]
theorem chk14_b {W H S : Int} {l : List Int} (h : sides14 W H S = true) (h2 : (l.length : Int) ≠ W * H) : chk14 W H S l = 5 := by unfold chk14; rw [if_neg (by rw [h]; simp), if_pos h2]
theorem chk14_c {W H S : Int} {l : List Int} (h : sides14 W H S = true) (h2 : (l.length : Int) = W * H) (h3 : allIn l 0 1073741824 = false) : chk14 W H S l = 1 := by
  unfold chk14; rw [if_neg (by rw [h]; simp), if_neg (by omega), if_pos h3]
theorem chk14_d {W H S : Int} {l : List Int} (h : sides14 W H S = true) (h2 : (l.length : Int) = W * H) (h3 : allIn l 0 1073741824 = true) : chk14 W H S l = if isum l > 1073741824 ∨ isum l + l.length < 1073741824 then 11 else 0 := by
  unfold chk14; rw [if_neg (by rw [h]; simp), if_neg (by omega), if_neg (by rw [h3]; simp)]
theorem side_mul {W H S : Int} (h : sides14 W H S = true) : 1 ≤ W * H ∧ W * H ≤ 4096 := by
  obtain ⟨⟨a1, a2⟩, ⟨a3, a4⟩, _⟩ := sides_iff.1 h
  have x1 := Int.mul_le_mul a2 a4 (by omega) (by omega)
  have x2 := Int.mul_le_mul a1 a3 (by omega) (by omega)
  omega
end Go.Proofs.Ytpejoaefnnbghaa
