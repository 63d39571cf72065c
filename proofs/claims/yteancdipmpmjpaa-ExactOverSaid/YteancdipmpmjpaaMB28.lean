/-
  Lemmas and walks of this claim (the texts Ea17 Eb17 Ec17 Ed17 Pr17 Ee17 Ef17 of the work; what no proof here uses is left out). No claim of their own.
-/
import Derived.Test.YteancdipmpmjpaaMB27
import Derived.Test.YteancdipmpmjpaaMB15
import Derived.Test.YteancdipmpmjpaaMB22
import Derived.Test.YteancdipmpmjpaaMB13
set_option linter.all false
set_option linter.unusedSimpArgs false
set_option linter.unusedVariables false
namespace Go.Proofs.Yteancdipmpmjpaa
open Go.RowKit
attribute [local irreducible] wpHeld wpTree wpList
set_option linter.unusedVariables false
set_option linter.unusedSimpArgs false
def bigOps (os : List OpRec) : Bool := decide (8 < os.length) || os.any fun r => decide (300 < r.ln)
theorem Light17 (A : Option Addr) (n c : Nat) (os : List OpRec) (v : Int) (w : World) (h : Ops w A n os) (hv : (if bigOps os = true then (1 : Int) else 0) = v) :
    Calls Try.prog 27 #[.slice A n c] w fun e w' => e = .returned (.int .i64 v) ∧ Below w.heap.size w w' := by
  have K := St.start w
  have HV := Lib.hid hv
  have HO := Lib.hid h
  have HL := Lib.hid h.1
  clear h hv
  by_cases h8 : 8 < n
  · have t1 : decide (8 < n) = true := decide_eq_true h8
    have t1' : decide (8 < (n : Int)) = true := decide_eq_true (by omega)
    have hb : bigOps os = true := by unfold bigOps; rw [HL.out, t1]; rfl
    have hvt : v = 1 := by rw [← HV.out, hb]; rfl
    clear hb
    go_enter Try.func27, Try.ntmps27
    go_wp2_with (first|go_big_skip|((with_reducible refine at_load ?_);first|(refine wm_load (cs := ?_) (t := ?_) (n := ?_) K rfl _ _ rfl rfl ?_ ?_ ?_ ?_;rotate_left 2;(repeat (first|exact At.hd|refine At.tl ?_));rotate_left;(with_reducible first|fail);(solve|exact rfl|simp))|(refine wm_own (cs := ?_) (t := ?_) (v := ?_) K rfl _ _ rfl rfl ?_ ?_ ?_ ?_;rotate_left 2;(repeat (first|exact At.hd|refine At.tl ?_));rotate_left;(first|exact rfl|assumption);(with_reducible first|exact one5|exact one22|exact one42))|(refine wm_cell (v := ?_) rfl _ _ rfl rfl ?_ ?_ ?_;rotate_left;(first|assumption|exact (K.below.cell (by assumption)).trans (by assumption));(with_reducible first|exact one5|exact one22|exact one42)))|((with_reducible refine at_store ?_);first|(refine wm_store (L' := ?_) (cs := ?_) (t := ?_) (n := ?_) K rfl _ _ _ rfl rfl rfl rfl ?_ ?_ ?_ ?_ ?_ ?_;rotate_left 3;(repeat (first|exact Put.hd|(refine Put.tl (L' := ?_) ?_;rotate_left)));rotate_left;(with_reducible first|fail);(solve|exact rfl|simp);(solve|exact rfl|simp);(solve|exact rfl|simp [Ones, Value.oneCell']);(try clear K);(try clear ww);intro ww K;(try simp [go_sem] at K))|(refine wm_put (L' := ?_) (cs := ?_) (new := ?_) (t := ?_) K rfl _ _ _ rfl rfl rfl rfl ?_ ?_ ?_ ?_ rfl rfl ?_;rotate_left 4;(repeat (first|exact Put.hd|(refine Put.tl (L' := ?_) ?_;rotate_left)));(solve|exact Nat.le_of_ble_eq_true rfl|decide|(simp only [List.size_toArray, nums_length];first|assumption|omega)|(simp only [List.size_toArray, nums_length, List.length_set];first|assumption|omega)|simp|omega|(simp only [List.size_toArray, nums_length];omega)|assumption);(solve|(simp only [List.setIfInBounds_toArray];exact rfl)|exact nums_set _ _ _ _|simp only [List.setIfInBounds_toArray, List.set_cons_zero]|simp only [List.setIfInBounds_toArray, List.set_cons_zero, List.set_cons_succ]|(simp only [List.setIfInBounds_toArray, List.set_cons_zero, List.set_cons_succ];exact rfl)|exact rfl);(with_reducible first|exact one5|exact one22|exact one42);(try clear K);(try clear ww);intro ww K;(try simp [go_sem] at K))))
    go_ret
    exact ⟨by first | rfl | (rw [hvt]; rfl), K.below⟩
  · have t1 : decide (8 < n) = false := decide_eq_false h8
    have t1' : decide (8 < (n : Int)) = false := decide_eq_false (by omega)
    have hb : bigOps os = os.any fun r => decide (300 < r.ln) := by unfold bigOps; rw [HL.out, t1]; rfl
    rw [hb] at HV
    have HP : Hid ((os.take 0).any (fun r => decide (300 < r.ln)) = false) := Lib.hid rfl
    clear hb
    go_enter Try.func27, Try.ntmps27
    go_wp2_with (first|go_big_skip|((with_reducible refine at_load ?_);first|(refine wm_load (cs := ?_) (t := ?_) (n := ?_) K rfl _ _ rfl rfl ?_ ?_ ?_ ?_;rotate_left 2;(repeat (first|exact At.hd|refine At.tl ?_));rotate_left;(with_reducible first|fail);(solve|exact rfl|simp))|(refine wm_own (cs := ?_) (t := ?_) (v := ?_) K rfl _ _ rfl rfl ?_ ?_ ?_ ?_;rotate_left 2;(repeat (first|exact At.hd|refine At.tl ?_));rotate_left;(first|exact rfl|assumption);(with_reducible first|exact one5|exact one22|exact one42))|(refine wm_cell (v := ?_) rfl _ _ rfl rfl ?_ ?_ ?_;rotate_left;(first|assumption|exact (K.below.cell (by assumption)).trans (by assumption));(with_reducible first|exact one5|exact one22|exact one42)))|((with_reducible refine at_store ?_);first|(refine wm_store (L' := ?_) (cs := ?_) (t := ?_) (n := ?_) K rfl _ _ _ rfl rfl rfl rfl ?_ ?_ ?_ ?_ ?_ ?_;rotate_left 3;(repeat (first|exact Put.hd|(refine Put.tl (L' := ?_) ?_;rotate_left)));rotate_left;(with_reducible first|fail);(solve|exact rfl|simp);(solve|exact rfl|simp);(solve|exact rfl|simp [Ones, Value.oneCell']);(try clear K);(try clear ww);intro ww K;(try simp [go_sem] at K))|(refine wm_put (L' := ?_) (cs := ?_) (new := ?_) (t := ?_) K rfl _ _ _ rfl rfl rfl rfl ?_ ?_ ?_ ?_ rfl rfl ?_;rotate_left 4;(repeat (first|exact Put.hd|(refine Put.tl (L' := ?_) ?_;rotate_left)));(solve|exact Nat.le_of_ble_eq_true rfl|decide|(simp only [List.size_toArray, nums_length];first|assumption|omega)|(simp only [List.size_toArray, nums_length, List.length_set];first|assumption|omega)|simp|omega|(simp only [List.size_toArray, nums_length];omega)|assumption);(solve|(simp only [List.setIfInBounds_toArray];exact rfl)|exact nums_set _ _ _ _|simp only [List.setIfInBounds_toArray, List.set_cons_zero]|simp only [List.setIfInBounds_toArray, List.set_cons_zero, List.set_cons_succ]|(simp only [List.setIfInBounds_toArray, List.set_cons_zero, List.set_cons_succ];exact rfl)|exact rfl);(with_reducible first|exact one5|exact one22|exact one42);(try clear K);(try clear ww);intro ww K;(try simp [go_sem] at K))))
    go_loopw [3] (fun i wr => ∃ (k : Nat), k ≤ n ∧ i = .int .i64 k ∧ Hid ((os.take k).any (fun r => decide (300 < r.ln)) = false) ∧ St w.heap.size w [] Any wr) (fun i _ => n - (intOf i).toNat)
    case atStart => exact ⟨0, Nat.zero_le _, rfl, HP, K⟩
    case round =>
      clear K HP
      obtain ⟨i, hi, rfl, HP, K⟩ := hrel
      by_cases hlt : i < n
      · have ht : decide ((i : Int) < n) = true := decide_eq_true (by omega)
        have htn : decide (i < n) = true := decide_eq_true hlt
        obtain ⟨b, off, r, rfl, hb, hr, hg, hc⟩ := HO.out.2 i hlt
        have hv := hc 2 _ rfl
        have hil : i < os.length := by rw [HL.out]; exact hlt
        have htk : os.take (i + 1) = os.take i ++ [r] := by
          rw [List.take_succ_eq_append_getElem hil]
          have := List.getElem?_eq_getElem hil
          rw [hr] at this
          injection this with this
          rw [this]
        by_cases h3 : 300 < r.ln
        · have t2 : decide (300 < r.ln) = true := decide_eq_true h3
          have t2' : decide (300 < (r.ln : Int)) = true := decide_eq_true (by omega)
          have hbv : (os.any fun r => decide (300 < r.ln)) = true := by
            rw [List.any_eq_true]
            exact ⟨r, List.mem_of_getElem? hr, t2⟩
          have hvt : v = 1 := by rw [← HV.out, hbv]; rfl
          clear hc hr hg htk hbv h3
          obtain ⟨kd, q, la, ln, lc, ls, x, y, cw, ch⟩ := r
          dsimp only [opCells] at hv t2 t2'
          go_wp2_with (first|go_big_skip|((with_reducible refine at_load ?_);first|(refine wm_load (cs := ?_) (t := ?_) (n := ?_) K rfl _ _ rfl rfl ?_ ?_ ?_ ?_;rotate_left 2;(repeat (first|exact At.hd|refine At.tl ?_));rotate_left;(with_reducible first|fail);(solve|exact rfl|simp))|(refine wm_own (cs := ?_) (t := ?_) (v := ?_) K rfl _ _ rfl rfl ?_ ?_ ?_ ?_;rotate_left 2;(repeat (first|exact At.hd|refine At.tl ?_));rotate_left;(first|exact rfl|assumption);(with_reducible first|exact one5|exact one22|exact one42))|(refine wm_cell (v := ?_) rfl _ _ rfl rfl ?_ ?_ ?_;rotate_left;(first|assumption|exact (K.below.cell (by assumption)).trans (by assumption));(with_reducible first|exact one5|exact one22|exact one42)))|((with_reducible refine at_store ?_);first|(refine wm_store (L' := ?_) (cs := ?_) (t := ?_) (n := ?_) K rfl _ _ _ rfl rfl rfl rfl ?_ ?_ ?_ ?_ ?_ ?_;rotate_left 3;(repeat (first|exact Put.hd|(refine Put.tl (L' := ?_) ?_;rotate_left)));rotate_left;(with_reducible first|fail);(solve|exact rfl|simp);(solve|exact rfl|simp);(solve|exact rfl|simp [Ones, Value.oneCell']);(try clear K);(try clear ww);intro ww K;(try simp [go_sem] at K))|(refine wm_put (L' := ?_) (cs := ?_) (new := ?_) (t := ?_) K rfl _ _ _ rfl rfl rfl rfl ?_ ?_ ?_ ?_ rfl rfl ?_;rotate_left 4;(repeat (first|exact Put.hd|(refine Put.tl (L' := ?_) ?_;rotate_left)));(solve|exact Nat.le_of_ble_eq_true rfl|decide|(simp only [List.size_toArray, nums_length];first|assumption|omega)|(simp only [List.size_toArray, nums_length, List.length_set];first|assumption|omega)|simp|omega|(simp only [List.size_toArray, nums_length];omega)|assumption);(solve|(simp only [List.setIfInBounds_toArray];exact rfl)|exact nums_set _ _ _ _|simp only [List.setIfInBounds_toArray, List.set_cons_zero]|simp only [List.setIfInBounds_toArray, List.set_cons_zero, List.set_cons_succ]|(simp only [List.setIfInBounds_toArray, List.set_cons_zero, List.set_cons_succ];exact rfl)|exact rfl);(with_reducible first|exact one5|exact one22|exact one42);(try clear K);(try clear ww);intro ww K;(try simp [go_sem] at K))))
          go_ret
          exact ⟨by first | rfl | (rw [hvt]; rfl), K.below⟩
        · have t2 : decide (300 < r.ln) = false := decide_eq_false h3
          have t2' : decide (300 < (r.ln : Int)) = false := decide_eq_false (by omega)
          have HP2 : Hid ((os.take (i + 1)).any (fun r => decide (300 < r.ln)) = false) := Lib.hid (by rw [htk, List.any_append, HP.out]; simp [t2])
          clear hc hr hg htk h3
          obtain ⟨kd, q, la, ln, lc, ls, x, y, cw, ch⟩ := r
          dsimp only [opCells] at hv t2 t2'
          go_wp2_with (first|go_big_skip|((with_reducible refine at_load ?_);first|(refine wm_load (cs := ?_) (t := ?_) (n := ?_) K rfl _ _ rfl rfl ?_ ?_ ?_ ?_;rotate_left 2;(repeat (first|exact At.hd|refine At.tl ?_));rotate_left;(with_reducible first|fail);(solve|exact rfl|simp))|(refine wm_own (cs := ?_) (t := ?_) (v := ?_) K rfl _ _ rfl rfl ?_ ?_ ?_ ?_;rotate_left 2;(repeat (first|exact At.hd|refine At.tl ?_));rotate_left;(first|exact rfl|assumption);(with_reducible first|exact one5|exact one22|exact one42))|(refine wm_cell (v := ?_) rfl _ _ rfl rfl ?_ ?_ ?_;rotate_left;(first|assumption|exact (K.below.cell (by assumption)).trans (by assumption));(with_reducible first|exact one5|exact one22|exact one42)))|((with_reducible refine at_store ?_);first|(refine wm_store (L' := ?_) (cs := ?_) (t := ?_) (n := ?_) K rfl _ _ _ rfl rfl rfl rfl ?_ ?_ ?_ ?_ ?_ ?_;rotate_left 3;(repeat (first|exact Put.hd|(refine Put.tl (L' := ?_) ?_;rotate_left)));rotate_left;(with_reducible first|fail);(solve|exact rfl|simp);(solve|exact rfl|simp);(solve|exact rfl|simp [Ones, Value.oneCell']);(try clear K);(try clear ww);intro ww K;(try simp [go_sem] at K))|(refine wm_put (L' := ?_) (cs := ?_) (new := ?_) (t := ?_) K rfl _ _ _ rfl rfl rfl rfl ?_ ?_ ?_ ?_ rfl rfl ?_;rotate_left 4;(repeat (first|exact Put.hd|(refine Put.tl (L' := ?_) ?_;rotate_left)));(solve|exact Nat.le_of_ble_eq_true rfl|decide|(simp only [List.size_toArray, nums_length];first|assumption|omega)|(simp only [List.size_toArray, nums_length, List.length_set];first|assumption|omega)|simp|omega|(simp only [List.size_toArray, nums_length];omega)|assumption);(solve|(simp only [List.setIfInBounds_toArray];exact rfl)|exact nums_set _ _ _ _|simp only [List.setIfInBounds_toArray, List.set_cons_zero]|simp only [List.setIfInBounds_toArray, List.set_cons_zero, List.set_cons_succ]|(simp only [List.setIfInBounds_toArray, List.set_cons_zero, List.set_cons_succ];exact rfl)|exact rfl);(with_reducible first|exact one5|exact one22|exact one42);(try clear K);(try clear ww);intro ww K;(try simp [go_sem] at K))))
          exact ⟨⟨i + 1, by omega, by go_num, HP2, K⟩, by simp [intOf]; omega⟩
      · obtain rfl : n = i := by omega
        have ht : decide ((n : Int) < n) = false := decide_eq_false (by omega)
        have htn : decide (n < n) = false := decide_eq_false (by omega)
        have hbv : (os.any fun r => decide (300 < r.ln)) = false := by
          have := HP.out
          rwa [List.take_of_length_le (by rw [HL.out]; exact Nat.le_refl _)] at this
        have hvf : v = 0 := by rw [← HV.out, hbv]; rfl
        clear hbv
        go_wp2_with (first|go_big_skip|((with_reducible refine at_load ?_);first|(refine wm_load (cs := ?_) (t := ?_) (n := ?_) K rfl _ _ rfl rfl ?_ ?_ ?_ ?_;rotate_left 2;(repeat (first|exact At.hd|refine At.tl ?_));rotate_left;(with_reducible first|fail);(solve|exact rfl|simp))|(refine wm_own (cs := ?_) (t := ?_) (v := ?_) K rfl _ _ rfl rfl ?_ ?_ ?_ ?_;rotate_left 2;(repeat (first|exact At.hd|refine At.tl ?_));rotate_left;(first|exact rfl|assumption);(with_reducible first|exact one5|exact one22|exact one42))|(refine wm_cell (v := ?_) rfl _ _ rfl rfl ?_ ?_ ?_;rotate_left;(first|assumption|exact (K.below.cell (by assumption)).trans (by assumption));(with_reducible first|exact one5|exact one22|exact one42)))|((with_reducible refine at_store ?_);first|(refine wm_store (L' := ?_) (cs := ?_) (t := ?_) (n := ?_) K rfl _ _ _ rfl rfl rfl rfl ?_ ?_ ?_ ?_ ?_ ?_;rotate_left 3;(repeat (first|exact Put.hd|(refine Put.tl (L' := ?_) ?_;rotate_left)));rotate_left;(with_reducible first|fail);(solve|exact rfl|simp);(solve|exact rfl|simp);(solve|exact rfl|simp [Ones, Value.oneCell']);(try clear K);(try clear ww);intro ww K;(try simp [go_sem] at K))|(refine wm_put (L' := ?_) (cs := ?_) (new := ?_) (t := ?_) K rfl _ _ _ rfl rfl rfl rfl ?_ ?_ ?_ ?_ rfl rfl ?_;rotate_left 4;(repeat (first|exact Put.hd|(refine Put.tl (L' := ?_) ?_;rotate_left)));(solve|exact Nat.le_of_ble_eq_true rfl|decide|(simp only [List.size_toArray, nums_length];first|assumption|omega)|(simp only [List.size_toArray, nums_length, List.length_set];first|assumption|omega)|simp|omega|(simp only [List.size_toArray, nums_length];omega)|assumption);(solve|(simp only [List.setIfInBounds_toArray];exact rfl)|exact nums_set _ _ _ _|simp only [List.setIfInBounds_toArray, List.set_cons_zero]|simp only [List.setIfInBounds_toArray, List.set_cons_zero, List.set_cons_succ]|(simp only [List.setIfInBounds_toArray, List.set_cons_zero, List.set_cons_succ];exact rfl)|exact rfl);(with_reducible first|exact one5|exact one22|exact one42);(try clear K);(try clear ww);intro ww K;(try simp [go_sem] at K))))
        go_ret
        exact ⟨by first | rfl | (rw [hvf]; rfl), K.below⟩
theorem Sides17 (kd q x y cw ch : Int) (la : Option Addr) (ln lc : Nat) (w : World) (h5 : 0 ≤ cw ∧ cw ≤ 255) (h6 : 0 ≤ ch ∧ ch ≤ 255) :
    Calls Try.prog 68 #[.agg #[.int .u8 kd, .int .u8 q, .slice la ln lc, .int .i8 x, .int .i8 y, .int .u8 cw, .int .u8 ch]] w fun e w' => e = .returned (.tuple #[.int .i64 (1 + cw % 8), .int .i64 (1 + ch % 8)]) ∧ Below w.heap.size w w' := by
  have K := St.start w
  obtain ⟨W, hW⟩ : ∃ W, 1 + cw % 8 = W := ⟨_, rfl⟩
  obtain ⟨V, hV⟩ : ∃ V, 1 + ch % 8 = V := ⟨_, rfl⟩
  rw [hW, hV]
  have m1h : Hid (IntKind.i64.wrap cw = cw) := Lib.hid (IntWalk.i64_in _ (by omega))
  have m2h : Hid (IntKind.i64.wrap ch = ch) := Lib.hid (IntWalk.i64_in _ (by omega))
  have m3h : Hid (cw.tmod 8 = cw % 8) := Lib.hid (Int.tmod_eq_emod_of_nonneg h5.1)
  have m4h : Hid (ch.tmod 8 = ch % 8) := Lib.hid (Int.tmod_eq_emod_of_nonneg h6.1)
  have m5h : Hid (IntKind.i64.wrap (1 + cw % 8) = W) := Lib.hid ((IntWalk.i64_in _ (by omega)).trans hW)
  have m6h : Hid (IntKind.i64.wrap (1 + ch % 8) = V) := Lib.hid ((IntWalk.i64_in _ (by omega)).trans hV)
  clear hW hV h5 h6
  have m1 := m1h.out
  have m2 := m2h.out
  have m3 := m3h.out
  have m4 := m4h.out
  have m5 := m5h.out
  have m6 := m6h.out
  go_enter Try.func68, Try.ntmps68
  go_wp2_with (first|go_big_skip|((with_reducible refine at_load ?_);first|(refine wm_load (cs := ?_) (t := ?_) (n := ?_) K rfl _ _ rfl rfl ?_ ?_ ?_ ?_;rotate_left 2;(repeat (first|exact At.hd|refine At.tl ?_));rotate_left;(with_reducible first|fail);(solve|exact rfl|simp))|(refine wm_own (cs := ?_) (t := ?_) (v := ?_) K rfl _ _ rfl rfl ?_ ?_ ?_ ?_;rotate_left 2;(repeat (first|exact At.hd|refine At.tl ?_));rotate_left;(first|exact rfl|assumption);(with_reducible first|exact one5|exact one22|exact one42))|(refine wm_cell (v := ?_) rfl _ _ rfl rfl ?_ ?_ ?_;rotate_left;(first|assumption|exact (K.below.cell (by assumption)).trans (by assumption));(with_reducible first|exact one5|exact one22|exact one42)))|((with_reducible refine at_store ?_);first|(refine wm_store (L' := ?_) (cs := ?_) (t := ?_) (n := ?_) K rfl _ _ _ rfl rfl rfl rfl ?_ ?_ ?_ ?_ ?_ ?_;rotate_left 3;(repeat (first|exact Put.hd|(refine Put.tl (L' := ?_) ?_;rotate_left)));rotate_left;(with_reducible first|fail);(solve|exact rfl|simp);(solve|exact rfl|simp);(solve|exact rfl|simp [Ones, Value.oneCell']);(try clear K);(try clear ww);intro ww K;(try simp [go_sem] at K))|(refine wm_put (L' := ?_) (cs := ?_) (new := ?_) (t := ?_) K rfl _ _ _ rfl rfl rfl rfl ?_ ?_ ?_ ?_ rfl rfl ?_;rotate_left 4;(repeat (first|exact Put.hd|(refine Put.tl (L' := ?_) ?_;rotate_left)));(solve|exact Nat.le_of_ble_eq_true rfl|decide|(simp only [List.size_toArray, nums_length];first|assumption|omega)|(simp only [List.size_toArray, nums_length, List.length_set];first|assumption|omega)|simp|omega|(simp only [List.size_toArray, nums_length];omega)|assumption);(solve|(simp only [List.setIfInBounds_toArray];exact rfl)|exact nums_set _ _ _ _|simp only [List.setIfInBounds_toArray, List.set_cons_zero]|simp only [List.setIfInBounds_toArray, List.set_cons_zero, List.set_cons_succ]|(simp only [List.setIfInBounds_toArray, List.set_cons_zero, List.set_cons_succ];exact rfl)|exact rfl);(with_reducible first|exact one5|exact one22|exact one42);(try clear K);(try clear ww);intro ww K;(try simp [go_sem] at K)))|(first|((with_reducible refine at_box ?_);refine wm_box K rfl _ _ rfl rfl rfl ?_;(try clear K);(try clear ww);((fail_if_success (have _h := b1));intro b1 ww K);(try simp [go_sem, Value.cells] at K))|((with_reducible refine at_alloc ?_);refine wm_alloc (v := ?_) (cs := ?_) K rfl _ rfl ?_ ?_ ?_;rotate_left;(with_reducible first|fail);rotate_left;exact rfl;(try clear K);(try clear ww);((fail_if_success (have _h := b1));intro b1 ww K);(try simp [go_sem, Value.cells] at K))))
  refine wm_held _ [(true, 0), (true, 1), (true, 2), (true, 3), (true, 4), (true, 5), (true, 6), (true, 7), (true, 8), (true, 9), (true, 10), (true, 11)] K sbr (by kernel_rfl) (by kernel_rfl) ?_; (try clear K); (try clear ww); intro ww K; (try simp [go_sem] at K); simp only [pick, List.getElem?_toArray, List.getElem?_cons_succ, List.getElem?_cons_zero]
  repeat (first|((with_reducible refine ht_load ?_);first|(refine hm_load (cs := ?_) (t := ?_) (n := ?_) rfl _ _ rfl rfl ?_ ?_ ?_ ?_;rotate_left 2;(repeat (first|exact At.hd|refine At.tl ?_));rotate_left;(with_reducible first|fail);(solve|exact rfl|simp))|(refine hm_own (cs := ?_) (t := ?_) (v := ?_) rfl _ _ rfl rfl ?_ ?_ ?_ ?_;rotate_left 2;(repeat (first|exact At.hd|refine At.tl ?_));rotate_left;(first|exact rfl|assumption);(with_reducible first|exact one5|exact one22|exact one42))|(refine hm_cell (v := ?_) rfl _ _ rfl rfl (fun ww K => ?_) ?_ ?_;rotate_left;(first|assumption|exact (K.below.cell (by assumption)).trans (by assumption));(with_reducible first|exact one5|exact one22|exact one42)))|(refine held_take (fun K' hK' => ?_);go_simp;first|(refine hK' _ ?_;clear hK' K')|(apply Exists.intro;refine ⟨?_, hK' _ ?_⟩;(intro _ _;rfl);clear hK' K'))|((with_reducible refine ht_store ?_);first|(refine hm_store (L' := ?_) (cs := ?_) (t := ?_) (n := ?_) K rfl _ _ _ rfl rfl rfl rfl ?_ ?_ ?_ ?_ ?_ ?_;rotate_left 3;(repeat (first|exact Put.hd|(refine Put.tl (L' := ?_) ?_;rotate_left)));rotate_left;(with_reducible first|fail);(solve|exact rfl|simp);(solve|exact rfl|simp);(solve|exact rfl|simp [Ones, Value.oneCell']);(try clear K);(try clear ww);intro ww K;(try simp [go_sem] at K);refine ⟨(by first|exact (K).sub sbr|exact (K.weak fun _ h => h.2).sub sbr|exact (K.weak fun _ h => h.2.2).sub sbr|exact (K.weak fun _ h => h.2.2.2).sub sbr|exact (K.weak fun _ h => h.2.2.2.2).sub sbr|exact (K.weak fun _ h => h.2.2.2.2.2).sub sbr|exact (K.weak fun _ h => h.2.2.2.2.2.2).sub sbr|exact (K.weak fun _ h => h.2.2.2.2.2.2.2).sub sbr|exact (K.tail).sub sbr|exact (K.tail.weak fun _ h => h.2).sub sbr|exact (K.tail.weak fun _ h => h.2.2).sub sbr|exact (K.tail.weak fun _ h => h.2.2.2).sub sbr|exact (K.tail.weak fun _ h => h.2.2.2.2).sub sbr|exact (K.tail.weak fun _ h => h.2.2.2.2.2).sub sbr|exact (K.tail.weak fun _ h => h.2.2.2.2.2.2).sub sbr|exact (K.tail.weak fun _ h => h.2.2.2.2.2.2.2).sub sbr), ?_⟩)|(refine hm_put (L' := ?_) (cs := ?_) (new := ?_) (t := ?_) K rfl _ _ _ rfl rfl rfl rfl ?_ ?_ ?_ ?_ rfl rfl ?_;rotate_left 4;(repeat (first|exact Put.hd|(refine Put.tl (L' := ?_) ?_;rotate_left)));(solve|exact Nat.le_of_ble_eq_true rfl|decide|(simp only [List.size_toArray, nums_length];first|assumption|omega)|(simp only [List.size_toArray, nums_length, List.length_set];first|assumption|omega)|simp|omega|(simp only [List.size_toArray, nums_length];omega)|assumption);(solve|(simp only [List.setIfInBounds_toArray];exact rfl)|exact nums_set _ _ _ _|simp only [List.setIfInBounds_toArray, List.set_cons_zero]|simp only [List.setIfInBounds_toArray, List.set_cons_zero, List.set_cons_succ]|(simp only [List.setIfInBounds_toArray, List.set_cons_zero, List.set_cons_succ];exact rfl)|exact rfl);(with_reducible first|exact one5|exact one22|exact one42);(try clear K);(try clear ww);intro ww K;(try simp [go_sem] at K);refine ⟨(by first|exact (K).sub sbr|exact (K.weak fun _ h => h.2).sub sbr|exact (K.weak fun _ h => h.2.2).sub sbr|exact (K.weak fun _ h => h.2.2.2).sub sbr|exact (K.weak fun _ h => h.2.2.2.2).sub sbr|exact (K.weak fun _ h => h.2.2.2.2.2).sub sbr|exact (K.weak fun _ h => h.2.2.2.2.2.2).sub sbr|exact (K.weak fun _ h => h.2.2.2.2.2.2.2).sub sbr|exact (K.tail).sub sbr|exact (K.tail.weak fun _ h => h.2).sub sbr|exact (K.tail.weak fun _ h => h.2.2).sub sbr|exact (K.tail.weak fun _ h => h.2.2.2).sub sbr|exact (K.tail.weak fun _ h => h.2.2.2.2).sub sbr|exact (K.tail.weak fun _ h => h.2.2.2.2.2).sub sbr|exact (K.tail.weak fun _ h => h.2.2.2.2.2.2).sub sbr|exact (K.tail.weak fun _ h => h.2.2.2.2.2.2.2).sub sbr), ?_⟩)))
  refine held_nil ?_
  clear m1 m2 m3 m4 m5 m6
  go_wp2_with fail
  refine bodyPost_ret (results_tmp2 rfl _ _ _) rfl ?_
  exact ⟨rfl, K.below⟩
set_option maxRecDepth 100000 in
theorem weights17 (A2 : Option Addr) (n len cap : Nat) (ls : List Int) (w : World) (h2 : Rd w A2 len (ints .u16 ls)) (hb2 : ∀ z ∈ ls, 0 ≤ z ∧ z ≤ 65535) (hn : n ≤ 5000) :
    Calls Try.prog 102 #[.int .i64 n, .slice A2 len cap] w fun e w' => ∃ A3 c3, e = .returned (.slice A3 n c3) ∧ (Rd w' A3 n (ints .i64 (wts14 n ls)) ∧ Nw w.heap.size A3) ∧ Below w.heap.size w w' := by
  have K := St.start w
  have hl2 : ls.length = len := by rw [← h2.1, ints_len]
  have HR2 := Lib.hid h2
  have HL2 := Lib.hid hl2
  have HLB := Lib.hid hb2
  clear h2 hl2 hb2
  go_enter Try.func102, Try.ntmps102
  go_wp2_with (first|go_big_skip|((with_reducible refine at_load ?_);first|(refine wm_load (cs := ?_) (t := ?_) (n := ?_) K rfl _ _ rfl rfl ?_ ?_ ?_ ?_;rotate_left 2;(repeat (first|exact At.hd|refine At.tl ?_));rotate_left;(with_reducible first|fail);(solve|exact rfl|simp))|(refine wm_own (cs := ?_) (t := ?_) (v := ?_) K rfl _ _ rfl rfl ?_ ?_ ?_ ?_;rotate_left 2;(repeat (first|exact At.hd|refine At.tl ?_));rotate_left;(first|exact rfl|assumption);(with_reducible first|exact one5|exact one22|exact one42))|(refine wm_cell (v := ?_) rfl _ _ rfl rfl ?_ ?_ ?_;rotate_left;(first|assumption|exact (K.below.cell (by assumption)).trans (by assumption));(with_reducible first|exact one5|exact one22|exact one42)))|((with_reducible refine at_store ?_);first|(refine wm_store (L' := ?_) (cs := ?_) (t := ?_) (n := ?_) K rfl _ _ _ rfl rfl rfl rfl ?_ ?_ ?_ ?_ ?_ ?_;rotate_left 3;(repeat (first|exact Put.hd|(refine Put.tl (L' := ?_) ?_;rotate_left)));rotate_left;(with_reducible first|fail);(solve|exact rfl|simp);(solve|exact rfl|simp);(solve|exact rfl|simp [Ones, Value.oneCell']);(try clear K);(try clear ww);intro ww K;(try simp [go_sem] at K))|(refine wm_put (L' := ?_) (cs := ?_) (new := ?_) (t := ?_) K rfl _ _ _ rfl rfl rfl rfl ?_ ?_ ?_ ?_ rfl rfl ?_;rotate_left 4;(repeat (first|exact Put.hd|(refine Put.tl (L' := ?_) ?_;rotate_left)));(solve|exact Nat.le_of_ble_eq_true rfl|decide|(simp only [List.size_toArray, nums_length];first|assumption|omega)|(simp only [List.size_toArray, nums_length, List.length_set];first|assumption|omega)|simp|omega|(simp only [List.size_toArray, nums_length];omega)|assumption);(solve|(simp only [List.setIfInBounds_toArray];exact rfl)|exact nums_set _ _ _ _|simp only [List.setIfInBounds_toArray, List.set_cons_zero]|simp only [List.setIfInBounds_toArray, List.set_cons_zero, List.set_cons_succ]|(simp only [List.setIfInBounds_toArray, List.set_cons_zero, List.set_cons_succ];exact rfl)|exact rfl);(with_reducible first|exact one5|exact one22|exact one42);(try clear K);(try clear ww);intro ww K;(try simp [go_sem] at K)))|(first|((with_reducible refine at_box ?_);refine wm_box K rfl _ _ rfl rfl rfl ?_;(try clear K);(try clear ww);((fail_if_success (have _h := b2));intro b2 ww K);(try simp [go_sem, Value.cells] at K))|((with_reducible refine at_alloc ?_);refine wm_alloc (v := ?_) (cs := ?_) K rfl _ rfl ?_ ?_ ?_;rotate_left;(with_reducible first|fail);rotate_left;exact rfl;(try clear K);(try clear ww);((fail_if_success (have _h := b2));intro b2 ww K);(try simp [go_sem, Value.cells] at K))))
  go_loopw [5, 6, 7] (fun v i _ wr => ∃ (k : Nat) (Lo : List Blk), k ≤ n ∧ i = .int .i64 k ∧ OwnT v 2 (ints .i64 ((wts14 n ls).take k)) Lo ∧ St w.heap.size w Lo Any wr) (fun _ i _ _ => n - (intOf i).toNat)
  case atStart => exact ⟨0, _, Nat.zero_le _, rfl, OwnT.nil _, K⟩
  case round =>
    clear K
    obtain ⟨i, Lo, hi, rfl, hO, K⟩ := hrel
    by_cases hlt : i < n
    · have ht : decide ((i : Int) < n) = true := decide_eq_true (by omega)
      have htn : decide (i < n) = true := decide_eq_true hlt
      have hol : (ints .i64 ((wts14 n ls).take i)).length ≤ 5000 := by rw [ints_len, List.length_take]; omega
      by_cases hll : i < len
      · obtain ⟨b, off, rfl, hb, hc⟩ := HR2.out.get hll
        have hv := hc i _ (ints_get .u16 ls i (by rw [HL2.out]; exact hll))
        have hz := HLB.out _ (getD_mem (show i < ls.length by rw [HL2.out]; exact hll))
        have hsn0 := take_snoc (wts14 n ls) i (by rw [wts_len]; exact hlt)
        rw [wts_get hlt, if_pos (by rw [HL2.out]; exact hll)] at hsn0
        have hsn := Lib.hid hsn0
        generalize ls.getD i 0 = z at *
        have ht2 : decide ((i : Int) < (len : Int)) = true := decide_eq_true (by omega)
        have ht2n : decide (i < len) = true := decide_eq_true (by omega)
        have e1h : Hid (wrap64 z = z) := Lib.hid (by unfold wrap64; omega)
        clear hc hz hsn0
        have e1 := e1h.out
        go_wp2_with (first|go_big_skip|((with_reducible refine at_load ?_);first|(refine wm_load (cs := ?_) (t := ?_) (n := ?_) K rfl _ _ rfl rfl ?_ ?_ ?_ ?_;rotate_left 2;(repeat (first|exact At.hd|refine At.tl ?_));rotate_left;(with_reducible first|fail);(solve|exact rfl|simp))|(refine wm_own (cs := ?_) (t := ?_) (v := ?_) K rfl _ _ rfl rfl ?_ ?_ ?_ ?_;rotate_left 2;(repeat (first|exact At.hd|refine At.tl ?_));rotate_left;(first|exact rfl|assumption);(with_reducible first|exact one5|exact one22|exact one42))|(refine wm_cell (v := ?_) rfl _ _ rfl rfl ?_ ?_ ?_;rotate_left;(first|assumption|exact (K.below.cell (by assumption)).trans (by assumption));(with_reducible first|exact one5|exact one22|exact one42)))|((with_reducible refine at_store ?_);first|(refine wm_store (L' := ?_) (cs := ?_) (t := ?_) (n := ?_) K rfl _ _ _ rfl rfl rfl rfl ?_ ?_ ?_ ?_ ?_ ?_;rotate_left 3;(repeat (first|exact Put.hd|(refine Put.tl (L' := ?_) ?_;rotate_left)));rotate_left;(with_reducible first|fail);(solve|exact rfl|simp);(solve|exact rfl|simp);(solve|exact rfl|simp [Ones, Value.oneCell']);(try clear K);(try clear ww);intro ww K;(try simp [go_sem] at K))|(refine wm_put (L' := ?_) (cs := ?_) (new := ?_) (t := ?_) K rfl _ _ _ rfl rfl rfl rfl ?_ ?_ ?_ ?_ rfl rfl ?_;rotate_left 4;(repeat (first|exact Put.hd|(refine Put.tl (L' := ?_) ?_;rotate_left)));(solve|exact Nat.le_of_ble_eq_true rfl|decide|(simp only [List.size_toArray, nums_length];first|assumption|omega)|(simp only [List.size_toArray, nums_length, List.length_set];first|assumption|omega)|simp|omega|(simp only [List.size_toArray, nums_length];omega)|assumption);(solve|(simp only [List.setIfInBounds_toArray];exact rfl)|exact nums_set _ _ _ _|simp only [List.setIfInBounds_toArray, List.set_cons_zero]|simp only [List.setIfInBounds_toArray, List.set_cons_zero, List.set_cons_succ]|(simp only [List.setIfInBounds_toArray, List.set_cons_zero, List.set_cons_succ];exact rfl)|exact rfl);(with_reducible first|exact one5|exact one22|exact one42);(try clear K);(try clear ww);intro ww K;(try simp [go_sem] at K)))|((with_reducible refine at_bsl ?_);refine wm_one K rfl _ _ rfl Try.underlying45 num2 rfl ?_;(try clear K);(try clear ww);intro bb ww K;(try simp [go_sem] at K))|((with_reducible refine at_app ?_);refine wm_appT (L0 := ?_) K ?_ rfl _ _ _ rfl Try.underlying45 num2 rfl hO rfl rfl (by first|(simp only [nums_length, List.length_map];omega)|omega) (by first|(simp only [nums_length, List.length_map];unfold maxLen;omega)|(unfold maxLen;omega)) ?_;rotate_left;(repeat (first|exact Tl.nil|(refine Tl.cons (L0 := ?_) ?_;rotate_left)));(try clear K hO);(try clear ww);intro v ww Lo hO K;simp only [List.cons_append, List.nil_append] at K))
        (try rw [e1] at hO)
        clear e1
        exact ⟨⟨i + 1, Lo, by omega, by go_num, by rw [hsn.out, ints_app]; exact hO, K⟩, by simp [intOf]; omega⟩
      · have hsn0 := take_snoc (wts14 n ls) i (by rw [wts_len]; exact hlt)
        rw [wts_get hlt, if_neg (by rw [HL2.out]; exact hll)] at hsn0
        have hsn := Lib.hid hsn0
        clear hsn0
        have ht2 : decide ((i : Int) < (len : Int)) = false := decide_eq_false (by omega)
        have ht2n : decide (i < len) = false := decide_eq_false (by omega)
        go_wp2_with (first|go_big_skip|((with_reducible refine at_load ?_);first|(refine wm_load (cs := ?_) (t := ?_) (n := ?_) K rfl _ _ rfl rfl ?_ ?_ ?_ ?_;rotate_left 2;(repeat (first|exact At.hd|refine At.tl ?_));rotate_left;(with_reducible first|fail);(solve|exact rfl|simp))|(refine wm_own (cs := ?_) (t := ?_) (v := ?_) K rfl _ _ rfl rfl ?_ ?_ ?_ ?_;rotate_left 2;(repeat (first|exact At.hd|refine At.tl ?_));rotate_left;(first|exact rfl|assumption);(with_reducible first|exact one5|exact one22|exact one42))|(refine wm_cell (v := ?_) rfl _ _ rfl rfl ?_ ?_ ?_;rotate_left;(first|assumption|exact (K.below.cell (by assumption)).trans (by assumption));(with_reducible first|exact one5|exact one22|exact one42)))|((with_reducible refine at_store ?_);first|(refine wm_store (L' := ?_) (cs := ?_) (t := ?_) (n := ?_) K rfl _ _ _ rfl rfl rfl rfl ?_ ?_ ?_ ?_ ?_ ?_;rotate_left 3;(repeat (first|exact Put.hd|(refine Put.tl (L' := ?_) ?_;rotate_left)));rotate_left;(with_reducible first|fail);(solve|exact rfl|simp);(solve|exact rfl|simp);(solve|exact rfl|simp [Ones, Value.oneCell']);(try clear K);(try clear ww);intro ww K;(try simp [go_sem] at K))|(refine wm_put (L' := ?_) (cs := ?_) (new := ?_) (t := ?_) K rfl _ _ _ rfl rfl rfl rfl ?_ ?_ ?_ ?_ rfl rfl ?_;rotate_left 4;(repeat (first|exact Put.hd|(refine Put.tl (L' := ?_) ?_;rotate_left)));(solve|exact Nat.le_of_ble_eq_true rfl|decide|(simp only [List.size_toArray, nums_length];first|assumption|omega)|(simp only [List.size_toArray, nums_length, List.length_set];first|assumption|omega)|simp|omega|(simp only [List.size_toArray, nums_length];omega)|assumption);(solve|(simp only [List.setIfInBounds_toArray];exact rfl)|exact nums_set _ _ _ _|simp only [List.setIfInBounds_toArray, List.set_cons_zero]|simp only [List.setIfInBounds_toArray, List.set_cons_zero, List.set_cons_succ]|(simp only [List.setIfInBounds_toArray, List.set_cons_zero, List.set_cons_succ];exact rfl)|exact rfl);(with_reducible first|exact one5|exact one22|exact one42);(try clear K);(try clear ww);intro ww K;(try simp [go_sem] at K)))|((with_reducible refine at_bsl ?_);refine wm_one K rfl _ _ rfl Try.underlying45 num2 rfl ?_;(try clear K);(try clear ww);intro bb ww K;(try simp [go_sem] at K))|((with_reducible refine at_app ?_);refine wm_appT (L0 := ?_) K ?_ rfl _ _ _ rfl Try.underlying45 num2 rfl hO rfl rfl (by first|(simp only [nums_length, List.length_map];omega)|omega) (by first|(simp only [nums_length, List.length_map];unfold maxLen;omega)|(unfold maxLen;omega)) ?_;rotate_left;(repeat (first|exact Tl.nil|(refine Tl.cons (L0 := ?_) ?_;rotate_left)));(try clear K hO);(try clear ww);intro v ww Lo hO K;simp only [List.cons_append, List.nil_append] at K))
        exact ⟨⟨i + 1, Lo, by omega, by go_num, by rw [hsn.out, ints_app]; exact hO, K⟩, by simp [intOf]; omega⟩
    · obtain rfl : n = i := by omega
      have ht : decide ((n : Int) < n) = false := decide_eq_false (by omega)
      have htn : decide (n < n) = false := decide_eq_false (by omega)
      have hz : (wts14 n ls).take n = wts14 n ls := List.take_of_length_le (by rw [wts_len]; omega)
      rw [hz] at hO
      have hlen : (ints .i64 (wts14 n ls)).length = n := by rw [ints_len, wts_len]
      obtain ⟨A3, c3, rfl, hc1, hc2, hA, K2⟩ := hO.fix (L0 := []) K
      rw [hlen] at K2 ⊢
      have G := Lib.hid (And.intro K2.fact.1 (And.intro hA K2.below))
      clear K hO hz hc1 hc2 hlen hA K2
      go_wp2
      go_ret
      exact ⟨A3, c3, rfl, ⟨G.out.1, G.out.2.1⟩, G.out.2.2⟩
end Go.Proofs.Yteancdipmpmjpaa
namespace Go.Proofs.Yteancdipmpmjpaa
open Go.RowKit
attribute [local irreducible] wpHeld wpTree wpList
set_option linter.unusedVariables false
theorem results_cells2 {P : Program} {w : World} {fn : Func} {p q : Tmp} {ty tz : TypeId} (h : fn.results = #[.cell p ty, .cell q tz]) (tmps : Array Value) {g g2 : Nat} {cs cs2 : Array Value} {t t2 : TypeId} {d d2 : TypeDesc} (hp : tmps.getD p undef = .pointer (some ⟨g, 0, none⟩)) (hq : tmps.getD q undef = .pointer (some ⟨g2, 0, none⟩)) (hg : Has w g cs t) (hg2 : Has w g2 cs2 t2)
    (hu : P.underlying ty = some d) (hd : (match d with | .struct _ | .array _ _ => true | _ => false) = true) {n : Nat} (hi : (P.info? ty).map (·.size) = some n) (hn : cs.size = n)
    (hu2 : P.underlying tz = some d2) (hd2 : (match d2 with | .struct _ | .array _ _ => true | _ => false) = true) {n2 : Nat} (hi2 : (P.info? tz).map (·.size) = some n2) (hn2 : cs2.size = n2) :
    (results fn tmps).run P w = .ok (.tuple #[.agg cs, .agg cs2]) w := by
  have hp' : tmps[p]?.getD undef = .pointer (some ⟨g, 0, none⟩) := by simpa using hp
  have hq' : tmps[q]?.getD undef = .pointer (some ⟨g2, 0, none⟩) := by simpa using hq
  simp [results, h, hp', hq', asAddr, run_loadVar_row w g t ty cs (0, 0) d hg hu hd (by rw [hn]; exact hi), run_loadVar_row w g2 t2 tz cs2 (0, 0) d2 hg2 hu2 hd2 (by rw [hn2]; exact hi2)]
section
variable {P : Program} {B : Nat} {w0 w : World} {L : List Blk} {F : World → Prop}
theorem St.resC2 (K : St B w0 L F w) {fn : Func} {p q : Tmp} {ty tz : TypeId} (h : fn.results = #[.cell p ty, .cell q tz]) (tmps : Array Value) {g g2 : Nat} {cs cs2 : Array Value} {t t2 : TypeId} (hp : tmps.getD p undef = .pointer (some ⟨g, 0, none⟩)) (hq : tmps.getD q undef = .pointer (some ⟨g2, 0, none⟩)) (ha : At L g cs t) (ha2 : At L g2 cs2 t2)
    {n : Nat} (hu : RowTy P ty n) (hn : cs.size = n) {n2 : Nat} (hu2 : RowTy P tz n2) (hn2 : cs2.size = n2) : (results fn tmps).run P w = .ok (.tuple #[.agg cs, .agg cs2]) w := by
  obtain ⟨d, h1, h2, h3⟩ := hu
  obtain ⟨d2, k1, k2, k3⟩ := hu2
  exact results_cells2 h tmps hp hq (K.get ha) (K.get ha2) h1 (by cases d <;> simp_all) h3 hn k1 (by cases d2 <;> simp_all) k3 hn2
end
/-- All of a list times a power of two. -/
def scl (s : Nat) (xs : List Nat) : List Nat := xs.map (· * 2 ^ s)
theorem scl_len (s : Nat) (xs : List Nat) : (scl s xs).length = xs.length := by simp [scl]
theorem scl_get {s : Nat} {xs : List Nat} (i : Nat) : (scl s xs).getD i 0 = xs.getD i 0 * 2 ^ s := by
  unfold scl
  rw [List.getD, List.getD, List.getElem?_map]
  cases xs[i]? <;> simp
theorem scl_gen {s n : Nat} {f g : Nat → Nat} (h : ∀ i, g i = f i * 2 ^ s) : genN n g = scl s (genN n f) := by
  unfold genN scl
  rw [List.map_map]
  exact List.map_congr_left fun i _ => h i
theorem scl_sum (s : Nat) (xs : List Nat) : (scl s xs).sum = xs.sum * 2 ^ s := by
  induction xs with
  | nil => simp [scl]
  | cons a r ih =>
    have e : scl s (a :: r) = (a * 2 ^ s) :: scl s r := rfl
    rw [e, List.sum_cons, List.sum_cons, ih, Nat.add_mul]
theorem scl_scl (s t : Nat) (xs : List Nat) : scl t (scl s xs) = scl (s + t) xs := by
  unfold scl
  rw [List.map_map]
  exact List.map_congr_left fun x _ => by simp [Nat.pow_add, Nat.mul_assoc]
theorem scl_lean {s : Nat} {xs : List Nat} (h : ∀ x ∈ xs, 2 ^ s ∣ x) : scl s (leanN s xs) = xs := by
  unfold scl leanN
  rw [List.map_map]
  conv => rhs; rw [← List.map_id xs]
  exact List.map_congr_left fun x hx => by simp [Nat.div_mul_cancel (h x hx)]
theorem scl_ge {s : Nat} {xs : List Nat} {M : Nat} (h : ∀ y ∈ scl s xs, y < M) : ∀ x ∈ xs, x < M := fun x hx => by
  have := h (x * 2 ^ s) (List.mem_map.2 ⟨x, hx, rfl⟩)
  exact Nat.lt_of_le_of_lt (Nat.le_mul_of_pos_right _ (Nat.two_pow_pos s)) this
theorem scl_spr {s n q : Nat} {L R : Nat → Nat} {xs : List Nat} : spr17 n q L R (scl s xs) = scl s (spr17 n q L R xs) := by
  unfold spr17
  refine scl_gen fun i => ?_
  unfold sprv17
  rw [scl_get, scl_get, scl_get, Nat.add_mul, Nat.add_mul, Nat.mul_right_comm, Nat.mul_right_comm (xs.getD i 0), Nat.mul_right_comm (xs.getD (R i) 0)]
theorem scl_sprd {s p q qq : Nat} {xs : List Nat} : sprd17 p q qq (scl s xs) = scl s (sprd17 p q qq xs) := by
  unfold sprd17
  rw [scl_spr, scl_spr]
theorem scl_wgh {s : Nat} {xs : List Nat} {ls : List Int} : wghN (scl s xs) ls = scl s (wghN xs ls) := by
  unfold wghN
  rw [scl_len]
  exact scl_gen fun i => by rw [scl_get, Nat.mul_right_comm]
theorem scl_cut {s m : Nat} {W H x y w : Int} {xs : List Nat} : cutN W H (scl s xs) x y w m = scl s (cutN W H xs x y w m) := by
  unfold cutN
  refine scl_gen fun i => ?_
  unfold cutvN
  split
  · exact scl_get _
  · simp
theorem scl_split {s p P2 m : Nat} {xs : List Nat} : splitN p P2 (scl s xs) m = scl s (splitN p P2 xs m) := scl_gen fun i => scl_get _
theorem scl_join {s p m n4 : Nat} {xs : List Nat} : joinN p m (scl s xs) n4 = scl s (joinN p m xs n4) := by
  unfold joinN
  refine scl_gen fun i => ?_
  unfold joinvN
  rw [scl_get, scl_get, scl_get, scl_get, Nat.add_mul, Nat.add_mul, Nat.add_mul]
/-- How great a number may be behind k acts. -/
def M17 (k : Nat) : Nat := 1073741825 * 65536 ^ k
theorem M17_pos (k : Nat) : 0 < M17 k := Nat.mul_pos (by decide) (Nat.pow_pos (by decide))
theorem M17_succ (k : Nat) : M17 (k + 1) = M17 k * 65536 := by unfold M17; rw [Nat.pow_succ, Nat.mul_assoc]
theorem M17_le (k : Nat) (h : k ≤ 9) : M17 k ≤ 1073741825 * 65536 ^ 9 := Nat.mul_le_mul_left _ (Nat.pow_le_pow_right (by decide) h)
theorem lt_lim {X m : Nat} (h : X < 4294967296 ^ m) (hm : m ≤ 1000) : X < Lim := by
  have e : 4294967296 ^ m ≤ Lim := by
    unfold Lim
    generalize 1000 = k at *
    exact Nat.pow_le_pow_right (by omega) hm
  omega
theorem M17_20 {k : Nat} (h : k ≤ 9) : M17 k * 4294967296 ^ 5 < 4294967296 ^ 20 := Nat.lt_of_le_of_lt (Nat.mul_le_mul_right _ (M17_le k h)) (by decide +kernel)
theorem M17_lim {k : Nat} (h : k ≤ 9) : M17 k * 4294967296 ^ 5 < Lim := lt_lim (M17_20 h) (by omega)
theorem M17_big {k : Nat} (h : k ≤ 9) : M17 k * 4294967296 ^ 5 < Big := lt_big (M17_20 h) (by omega)
/-- Both filters, behind k acts. -/
structure Both (k p q n : Nat) (xs ys : List Nat) : Prop where
  hn : q * p = n
  hp : 1 ≤ p ∧ p ≤ 8
  hq : 1 ≤ q ∧ q ≤ 8
  hl : xs.length = n
  rel : ∃ s, ys = scl s xs
  bd : ∀ y ∈ ys, y < M17 k
theorem Both.xb {k p q n : Nat} {xs ys : List Nat} (h : Both k p q n xs ys) : ∀ x ∈ xs, x < M17 k := by
  obtain ⟨s, rfl⟩ := h.rel
  exact scl_ge h.bd
theorem Both.n64 {k p q n : Nat} {xs ys : List Nat} (h : Both k p q n xs ys) : 1 ≤ n ∧ n ≤ 64 := by
  have a := Nat.mul_le_mul h.hq.2 h.hp.2
  have b := Nat.mul_le_mul h.hq.1 h.hp.1
  have := h.hn
  omega
theorem Both.up {k p q n : Nat} {xs ys : List Nat} (h : Both k p q n xs ys) : Both (k + 1) p q n xs ys :=
  ⟨h.hn, h.hp, h.hq, h.hl, h.rel, fun y hy => Nat.lt_of_lt_of_le (h.bd y hy) (by rw [M17_succ]; exact Nat.le_mul_of_pos_right _ (by decide))⟩
theorem lim_pieces {M L : Nat} (h : M * 4294967296 ^ 5 < L) : 256 * M * 256 < L ∧ M * 65536 < L ∧ M * 5 < L ∧ M * 4 < L ∧ M < L := by
  have e : M * 4294967296 ^ 5 = M * 1461501637330902918203684832716283019655932542976 := rfl
  rw [e] at h
  omega
theorem Both.spread {k p q n s qq : Nat} {xs ys : List Nat} (h : Both k p q n xs ys) (hq : qq ≤ 85) (hd : ∀ x ∈ sprd17 p q qq xs, 2 ^ s ∣ x) : Both (k + 1) p q n (leanN s (sprd17 p q qq xs)) (sprd17 p q qq ys) := by
  refine ⟨h.hn, h.hp, h.hq, by rw [leanN_len]; unfold sprd17; rw [h.hn]; exact genN_len _ _, ?_, ?_⟩
  · obtain ⟨t, e⟩ := h.rel
    exact ⟨s + t, by rw [← scl_scl, scl_lean hd, e, scl_sprd]⟩
  · rw [M17_succ]
    unfold sprd17
    intro y hy
    have := spr17_lt hq (spr17_lt hq h.bd (M17_pos k)) (by have := M17_pos k; omega) y hy
    omega
theorem Both.weigh {k p q n s : Nat} {xs ys : List Nat} {ls : List Int} (h : Both k p q n xs ys) (hb : ∀ l ∈ ls, 0 ≤ l ∧ l ≤ 65536) (hd : ∀ x ∈ wghN xs ls, 2 ^ s ∣ x) : Both (k + 1) p q n (leanN s (wghN xs ls)) (wghN ys ls) := by
  refine ⟨h.hn, h.hp, h.hq, by rw [leanN_len, wghN_len]; exact h.hl, ?_, ?_⟩
  · obtain ⟨t, e⟩ := h.rel
    exact ⟨s + t, by rw [← scl_scl, scl_lean hd, e, scl_wgh]⟩
  · rw [M17_succ]
    intro y hy
    unfold wghN at hy
    obtain ⟨i, hi, rfl⟩ := List.mem_map.1 hy
    have g1 : ys.getD i 0 < M17 k := getDN_all (P := fun y => y < M17 k) (M17_pos k) h.bd i
    have g2 : (ls.getD i 0).toNat ≤ 65536 := by
      by_cases hi : i < ls.length
      · have := hb _ (getD_mem hi); omega
      · rw [List.getD, List.getElem?_eq_none (by omega)]; decide
    exact Nat.lt_of_le_of_lt (Nat.mul_le_mul_left _ g2) (Nat.mul_lt_mul_of_pos_right g1 (by decide))
theorem Both.cut {k p q n c1 d1 m : Nat} {x y : Int} {xs ys : List Nat} (h : Both k p q n xs ys) (hc : 1 ≤ c1 ∧ c1 ≤ 8) (hd : 1 ≤ d1 ∧ d1 ≤ 8) (hm : c1 * d1 = m) : Both (k + 1) c1 d1 m (cutN p q xs x y c1 m) (cutN p q ys x y c1 m) := by
  refine ⟨by rw [Nat.mul_comm]; exact hm, hc, hd, genN_len _ _, ?_, ?_⟩
  · obtain ⟨t, e⟩ := h.rel
    exact ⟨t, by rw [e, scl_cut]⟩
  · refine genN_mem fun i _ => ?_
    refine Nat.lt_of_lt_of_le (m := M17 k) ?_ (by rw [M17_succ]; exact Nat.le_mul_of_pos_right _ (by decide))
    unfold cutvN
    split
    · exact getDN_all (P := fun y => y < M17 k) (M17_pos k) h.bd _
    · exact M17_pos k
theorem Both.split {k p q n P2 Q2 m : Nat} {xs ys : List Nat} (h : Both k p q n xs ys) (hp : 2 * p = P2) (hq : 2 * q = Q2) (hm : 4 * n = m) (h4 : p ≤ 4) (h5 : q ≤ 4) : Both (k + 1) P2 Q2 m (splitN p P2 xs m) (splitN p P2 ys m) := by
  refine ⟨by rw [← hp, ← hq, Nat.mul_mul_mul_comm, h.hn]; omega, by have := h.hp; omega, by have := h.hq; omega, genN_len _ _, ?_, ?_⟩
  · obtain ⟨t, e⟩ := h.rel
    exact ⟨t, by rw [e, scl_split]⟩
  · refine genN_mem fun i _ => ?_
    refine Nat.lt_of_lt_of_le (m := M17 k) ?_ (by rw [M17_succ]; exact Nat.le_mul_of_pos_right _ (by decide))
    exact getDN_all (P := fun y => y < M17 k) (M17_pos k) h.bd _
theorem Both.join {k p q n m1 q1 n4 : Nat} {xs ys : List Nat} (h : Both k p q n xs ys) (hp : p = 2 * m1) (hq : q = 2 * q1) (hm : m1 * q1 = n4) : Both (k + 1) m1 q1 n4 (joinN p m1 xs n4) (joinN p m1 ys n4) := by
  refine ⟨by rw [Nat.mul_comm]; exact hm, by have := h.hp; omega, by have := h.hq; omega, genN_len _ _, ?_, ?_⟩
  · obtain ⟨t, e⟩ := h.rel
    exact ⟨t, by rw [e, scl_join]⟩
  · refine genN_mem fun i _ => ?_
    have g := getDN_all (P := fun y => y < M17 k) (M17_pos k) h.bd
    have g1 := g (base14 p m1 i)
    have g2 := g (base14 p m1 i + 1)
    have g3 := g (base14 p m1 i + p)
    have g4 := g (base14 p m1 i + p + 1)
    rw [M17_succ]
    unfold joinvN
    omega
end Go.Proofs.Yteancdipmpmjpaa
namespace Go.Proofs.Yteancdipmpmjpaa
open Go.RowKit
attribute [local irreducible] wpHeld wpTree wpList
set_option linter.unusedVariables false
set_option maxRecDepth 100000 in
set_option maxHeartbeats 8000000 in
theorem doA17 (k p q n c c2 : Nat) (A A2 : Option Addr) (xs ys : List Nat) (r : OpRec) (w : World) (h : Fn w A n xs) (h2 : Fr w A2 n ys) (hb : Both k p q n xs ys) (hk : k ≤ 8) (hg : OpGood w r) (hkd : r.kd.tmod 5 = 0) :
    Calls Try.prog 57 #[.agg #[.int .i64 p, .int .i64 q, .slice A n c], .agg #[.int .i64 p, .int .i64 q, .slice A2 n c2], .agg (opCells r)] w fun e w' => ∃ (p' q' n' : Nat) (A' : Option Addr) (c' : Nat) (A2' : Option Addr) (c2' : Nat) (xs' ys' : List Nat), e = .returned (.tuple #[.agg #[.int .i64 (p'), .int .i64 (q'), .slice A' n' c'], .agg #[.int .i64 (p'), .int .i64 (q'), .slice A2' n' c2']]) ∧ Both (k + 1) p' q' n' xs' ys' ∧ (r.kd.tmod 5 < 2 → p' = p ∧ q' = q ∧ n' = n) ∧ ((Fn w' A' n' xs' ∧ Nw w.heap.size A') ∧ (Fr w' A2' n' ys' ∧ Nw w.heap.size A2') ∨ (A' = A ∧ A2' = A2 ∧ n' = n ∧ xs' = xs ∧ ys' = ys)) ∧ Below w.heap.size w w' := by
  obtain ⟨kd, q0, la, ln, lc, ls, x, y, cw, ch⟩ := r
  dsimp only [opCells]
  have K := St.start w
  have HR := Lib.hid h
  have HR2 := Lib.hid h2
  have HB := Lib.hid hb
  have HG := Lib.hid hg
  have c14h : Hid (kd.tmod 5 = 0) := Lib.hid hkd
  have c15h : Hid (kd % 5 = 0) := Lib.hid (by rw [← Int.tmod_eq_emod_of_nonneg hg.kd.1]; exact hkd)
  have hlim := M17_lim (k := k) (by omega)
  have hbig := M17_big (k := k) (by omega)
  obtain ⟨qq, hqq⟩ : ∃ qq : Nat, q0.tmod 86 = (qq : Int) := ⟨(q0.tmod 86).toNat, by have := hg.q; dsimp only at this; rw [Int.tmod_eq_emod_of_nonneg (by omega)]; omega⟩
  have hq85 : qq ≤ 85 := by have := hg.q; dsimp only at this; rw [Int.tmod_eq_emod_of_nonneg (by omega)] at hqq; omega
  have q1h := Lib.hid hqq
  have q2h : Hid (IntKind.u64.wrap (qq : Int) = qq) := Lib.hid (IntWalk.u64_in _ (by omega))
  have PS := Lib.hid (fun (w : World) (h : Fn w A n xs) => Spread17 p q qq n c (M17 k) A xs w h hb.xb (M17_pos k) (lim_pieces hlim).1 hb.hn ⟨hb.hp.1, by have := hb.hp.2; omega⟩ ⟨hb.hq.1, by have := hb.hq.2; omega⟩ hq85)
  have RS := Lib.hid (fun (w : World) (h : Fr w A2 n ys) => RSpread17 p q qq n c2 (M17 k) A2 ys w h hb.bd (M17_pos k) (lim_pieces hbig).1 hb.hn ⟨hb.hp.1, by have := hb.hp.2; omega⟩ ⟨hb.hq.1, by have := hb.hq.2; omega⟩ hq85)
  clear h h2 hb hg hkd hlim hbig hqq
  have c14 := c14h.out
  have c15 := c15h.out
  have q1 := q1h.out
  have q2 := q2h.out
  go_enter Try.func57, Try.ntmps57
  go_wp2_with (first|go_big_skip|((with_reducible refine at_load ?_);first|(refine wm_load (cs := ?_) (t := ?_) (n := ?_) K rfl _ _ rfl rfl ?_ ?_ ?_ ?_;rotate_left 2;(repeat (first|exact At.hd|refine At.tl ?_));rotate_left;(with_reducible first|exact row51|exact row59|exact row88);(solve|exact rfl|simp))|(refine wm_own (cs := ?_) (t := ?_) (v := ?_) K rfl _ _ rfl rfl ?_ ?_ ?_ ?_;rotate_left 2;(repeat (first|exact At.hd|refine At.tl ?_));rotate_left;(first|exact rfl|assumption);(with_reducible first|exact one3|exact one5|exact one42|exact one57|exact one86))|(refine wm_cell (v := ?_) rfl _ _ rfl rfl ?_ ?_ ?_;rotate_left;(first|assumption|exact (K.below.cell (by assumption)).trans (by assumption));(with_reducible first|exact one3|exact one5|exact one42|exact one57|exact one86)))|((with_reducible refine at_store ?_);first|(refine wm_store (L' := ?_) (cs := ?_) (t := ?_) (n := ?_) K rfl _ _ _ rfl rfl rfl rfl ?_ ?_ ?_ ?_ ?_ ?_;rotate_left 3;(repeat (first|exact Put.hd|(refine Put.tl (L' := ?_) ?_;rotate_left)));rotate_left;(with_reducible first|exact row51|exact row59|exact row88);(solve|exact rfl|simp);(solve|exact rfl|simp);(solve|exact rfl|simp [Ones, Value.oneCell']);(try clear K);(try clear ww);intro ww K;(try simp [go_sem] at K))|(refine wm_put (L' := ?_) (cs := ?_) (new := ?_) (t := ?_) K rfl _ _ _ rfl rfl rfl rfl ?_ ?_ ?_ ?_ rfl rfl ?_;rotate_left 4;(repeat (first|exact Put.hd|(refine Put.tl (L' := ?_) ?_;rotate_left)));(solve|exact Nat.le_of_ble_eq_true rfl|decide|(simp only [List.size_toArray, nums_length];first|assumption|omega)|(simp only [List.size_toArray, nums_length, List.length_set];first|assumption|omega)|simp|omega|(simp only [List.size_toArray, nums_length];omega)|assumption);(solve|(simp only [List.setIfInBounds_toArray];exact rfl)|exact nums_set _ _ _ _|simp only [List.setIfInBounds_toArray, List.set_cons_zero]|simp only [List.setIfInBounds_toArray, List.set_cons_zero, List.set_cons_succ]|(simp only [List.setIfInBounds_toArray, List.set_cons_zero, List.set_cons_succ];exact rfl)|exact rfl);(with_reducible first|exact one3|exact one5|exact one42|exact one57|exact one86);(try clear K);(try clear ww);intro ww K;(try simp [go_sem] at K)))|(first|((with_reducible refine at_box ?_);refine wm_box K rfl _ _ rfl rfl rfl ?_;(try clear K);(try clear ww);(first|((fail_if_success (have _h := b3));intro b3 ww K)|((fail_if_success (have _h := b4));intro b4 ww K)|((fail_if_success (have _h := b5));intro b5 ww K)|((fail_if_success (have _h := b6));intro b6 ww K)|((fail_if_success (have _h := b7));intro b7 ww K));(try simp [go_sem, Value.cells] at K))|((with_reducible refine at_alloc ?_);refine wm_alloc (v := ?_) (cs := ?_) K rfl _ rfl ?_ ?_ ?_;rotate_left;(with_reducible first|exact zero51|exact zero88);rotate_left;exact rfl;(try clear K);(try clear ww);(first|((fail_if_success (have _h := b3));intro b3 ww K)|((fail_if_success (have _h := b4));intro b4 ww K)|((fail_if_success (have _h := b5));intro b5 ww K)|((fail_if_success (have _h := b6));intro b6 ww K)|((fail_if_success (have _h := b7));intro b7 ww K));(try simp [go_sem, Value.cells] at K))))
  clear c14 c15 q1 q2
  refine wm_held _ [(true, 0), (true, 1), (true, 3), (true, 4), (false, 2), (false, 5), (false, 6), (false, 7)] K sbd2k3 (by kernel_rfl) (by kernel_rfl) ?_; (try clear K); (try clear ww); intro ww K; (try simp [go_sem] at K); simp only [pick, List.getElem?_toArray, List.getElem?_cons_succ, List.getElem?_cons_zero]
  repeat (first|((with_reducible refine ht_load ?_);first|(refine hm_load (cs := ?_) (t := ?_) (n := ?_) rfl _ _ rfl rfl ?_ ?_ ?_ ?_;rotate_left 2;(repeat (first|exact At.hd|refine At.tl ?_));rotate_left;(with_reducible first|exact row51|exact row59|exact row88);(solve|exact rfl|simp))|(refine hm_own (cs := ?_) (t := ?_) (v := ?_) rfl _ _ rfl rfl ?_ ?_ ?_ ?_;rotate_left 2;(repeat (first|exact At.hd|refine At.tl ?_));rotate_left;(first|exact rfl|assumption);(with_reducible first|exact one3|exact one5|exact one42|exact one57|exact one86))|(refine hm_cell (v := ?_) rfl _ _ rfl rfl (fun ww K => ?_) ?_ ?_;rotate_left;(first|assumption|exact (K.below.cell (by assumption)).trans (by assumption));(with_reducible first|exact one3|exact one5|exact one42|exact one57|exact one86)))|(refine held_take (fun K' hK' => ?_);go_simp;first|(refine hK' _ ?_;clear hK' K')|(apply Exists.intro;refine ⟨?_, hK' _ ?_⟩;(intro _ _;rfl);clear hK' K'))|((with_reducible refine ht_store ?_);first|(refine hm_store (L' := ?_) (cs := ?_) (t := ?_) (n := ?_) K rfl _ _ _ rfl rfl rfl rfl ?_ ?_ ?_ ?_ ?_ ?_;rotate_left 3;(repeat (first|exact Put.hd|(refine Put.tl (L' := ?_) ?_;rotate_left)));rotate_left;(with_reducible first|exact row51|exact row59|exact row88);(solve|exact rfl|simp);(solve|exact rfl|simp);(solve|exact rfl|simp [Ones, Value.oneCell']);(try clear K);(try clear ww);intro ww K;(try simp [go_sem] at K);refine ⟨(by first|exact (K).sub sbd2k3|exact (K.weak fun _ h => h.2).sub sbd2k3|exact (K.weak fun _ h => h.2.2).sub sbd2k3|exact (K.weak fun _ h => h.2.2.2).sub sbd2k3|exact (K.weak fun _ h => h.2.2.2.2).sub sbd2k3|exact (K.weak fun _ h => h.2.2.2.2.2).sub sbd2k3|exact (K.weak fun _ h => h.2.2.2.2.2.2).sub sbd2k3|exact (K.weak fun _ h => h.2.2.2.2.2.2.2).sub sbd2k3|exact (K.tail).sub sbd2k3|exact (K.tail.weak fun _ h => h.2).sub sbd2k3|exact (K.tail.weak fun _ h => h.2.2).sub sbd2k3|exact (K.tail.weak fun _ h => h.2.2.2).sub sbd2k3|exact (K.tail.weak fun _ h => h.2.2.2.2).sub sbd2k3|exact (K.tail.weak fun _ h => h.2.2.2.2.2).sub sbd2k3|exact (K.tail.weak fun _ h => h.2.2.2.2.2.2).sub sbd2k3|exact (K.tail.weak fun _ h => h.2.2.2.2.2.2.2).sub sbd2k3), ?_⟩)|(refine hm_put (L' := ?_) (cs := ?_) (new := ?_) (t := ?_) K rfl _ _ _ rfl rfl rfl rfl ?_ ?_ ?_ ?_ rfl rfl ?_;rotate_left 4;(repeat (first|exact Put.hd|(refine Put.tl (L' := ?_) ?_;rotate_left)));(solve|exact Nat.le_of_ble_eq_true rfl|decide|(simp only [List.size_toArray, nums_length];first|assumption|omega)|(simp only [List.size_toArray, nums_length, List.length_set];first|assumption|omega)|simp|omega|(simp only [List.size_toArray, nums_length];omega)|assumption);(solve|(simp only [List.setIfInBounds_toArray];exact rfl)|exact nums_set _ _ _ _|simp only [List.setIfInBounds_toArray, List.set_cons_zero]|simp only [List.setIfInBounds_toArray, List.set_cons_zero, List.set_cons_succ]|(simp only [List.setIfInBounds_toArray, List.set_cons_zero, List.set_cons_succ];exact rfl)|exact rfl);(with_reducible first|exact one3|exact one5|exact one42|exact one57|exact one86);(try clear K);(try clear ww);intro ww K;(try simp [go_sem] at K);refine ⟨(by first|exact (K).sub sbd2k3|exact (K.weak fun _ h => h.2).sub sbd2k3|exact (K.weak fun _ h => h.2.2).sub sbd2k3|exact (K.weak fun _ h => h.2.2.2).sub sbd2k3|exact (K.weak fun _ h => h.2.2.2.2).sub sbd2k3|exact (K.weak fun _ h => h.2.2.2.2.2).sub sbd2k3|exact (K.weak fun _ h => h.2.2.2.2.2.2).sub sbd2k3|exact (K.weak fun _ h => h.2.2.2.2.2.2.2).sub sbd2k3|exact (K.tail).sub sbd2k3|exact (K.tail.weak fun _ h => h.2).sub sbd2k3|exact (K.tail.weak fun _ h => h.2.2).sub sbd2k3|exact (K.tail.weak fun _ h => h.2.2.2).sub sbd2k3|exact (K.tail.weak fun _ h => h.2.2.2.2).sub sbd2k3|exact (K.tail.weak fun _ h => h.2.2.2.2.2).sub sbd2k3|exact (K.tail.weak fun _ h => h.2.2.2.2.2.2).sub sbd2k3|exact (K.tail.weak fun _ h => h.2.2.2.2.2.2.2).sub sbd2k3), ?_⟩))|(refine held_do (fun K' hK' => ?_);go_simp;go_at_call 66;have zz := PS.out _ (HR.out.below K.below);(with_reducible refine zz.mono ?_);clear zz;rintro e w2 ⟨s1, Af, cf, rfl, ⟨hx, hdv, hA⟩, hbel⟩;(try dsimp only);have hN1 := hA.mono K.size;have K2 := K.madeFn (noT_of rfl) hbel hx hA;refine hK' _ _ (by first|exact (K2).sub sbd2k3|exact (K2.weak fun _ h => h.2).sub sbd2k3|exact (K2.weak fun _ h => h.2.2).sub sbd2k3|exact (K2.weak fun _ h => h.2.2.2).sub sbd2k3|exact (K2.weak fun _ h => h.2.2.2.2).sub sbd2k3|exact (K2.weak fun _ h => h.2.2.2.2.2).sub sbd2k3|exact (K2.weak fun _ h => h.2.2.2.2.2.2).sub sbd2k3|exact (K2.weak fun _ h => h.2.2.2.2.2.2.2).sub sbd2k3|exact (K2.tail).sub sbd2k3|exact (K2.tail.weak fun _ h => h.2).sub sbd2k3|exact (K2.tail.weak fun _ h => h.2.2).sub sbd2k3|exact (K2.tail.weak fun _ h => h.2.2.2).sub sbd2k3|exact (K2.tail.weak fun _ h => h.2.2.2.2).sub sbd2k3|exact (K2.tail.weak fun _ h => h.2.2.2.2.2).sub sbd2k3|exact (K2.tail.weak fun _ h => h.2.2.2.2.2.2).sub sbd2k3|exact (K2.tail.weak fun _ h => h.2.2.2.2.2.2.2).sub sbd2k3) ?_;replace K := K2;clear hK' K' K2 hbel hx hA;(try clear ww);revert w2;intro ww K)|(refine held_do (fun K' hK' => ?_);go_simp;go_at_call 101;have zz := RS.out _ (HR2.out.below K.below);(with_reducible refine zz.mono ?_);clear zz;rintro e w2 ⟨Ar, cr, rfl, ⟨hx, hA⟩, hbel⟩;(try dsimp only);have hN2 := hA.mono K.size;have K2 := K.madeFr (noT_of rfl) hbel hx hA;refine hK' _ _ (by first|exact (K2).sub sbd2k3|exact (K2.weak fun _ h => h.2).sub sbd2k3|exact (K2.weak fun _ h => h.2.2).sub sbd2k3|exact (K2.weak fun _ h => h.2.2.2).sub sbd2k3|exact (K2.weak fun _ h => h.2.2.2.2).sub sbd2k3|exact (K2.weak fun _ h => h.2.2.2.2.2).sub sbd2k3|exact (K2.weak fun _ h => h.2.2.2.2.2.2).sub sbd2k3|exact (K2.weak fun _ h => h.2.2.2.2.2.2.2).sub sbd2k3|exact (K2.tail).sub sbd2k3|exact (K2.tail.weak fun _ h => h.2).sub sbd2k3|exact (K2.tail.weak fun _ h => h.2.2).sub sbd2k3|exact (K2.tail.weak fun _ h => h.2.2.2).sub sbd2k3|exact (K2.tail.weak fun _ h => h.2.2.2.2).sub sbd2k3|exact (K2.tail.weak fun _ h => h.2.2.2.2.2).sub sbd2k3|exact (K2.tail.weak fun _ h => h.2.2.2.2.2.2).sub sbd2k3|exact (K2.tail.weak fun _ h => h.2.2.2.2.2.2.2).sub sbd2k3) ?_;replace K := K2;clear hK' K' K2 hbel hx hA;(try clear ww);revert w2;intro ww K))
  refine held_nil ?_
  (try go_wp2_with fail)
  refine bodyPost_ret (K.resC2 rfl _ rfl rfl (At.tl At.hd) At.hd (by (with_reducible first|exact row51|exact row59|exact row88)) (by (solve|exact rfl|simp)) (by (with_reducible first|exact row51|exact row59|exact row88)) (by (solve|exact rfl|simp))) rfl ?_
  exact ⟨p, q, n, Af, cf, Ar, cr, _, _, rfl, HB.out.spread hq85 hdv, fun _ => ⟨rfl, rfl, rfl⟩, .inl ⟨⟨K.fact.2.1, hN1⟩, ⟨K.fact.1, hN2⟩⟩, K.below⟩
set_option maxRecDepth 100000 in
set_option maxHeartbeats 8000000 in
theorem doB17 (k p q n c c2 : Nat) (A A2 : Option Addr) (xs ys : List Nat) (r : OpRec) (w : World) (h : Fn w A n xs) (h2 : Fr w A2 n ys) (hb : Both k p q n xs ys) (hk : k ≤ 8) (hg : OpGood w r) (hkd : r.kd.tmod 5 = 1) :
    Calls Try.prog 57 #[.agg #[.int .i64 p, .int .i64 q, .slice A n c], .agg #[.int .i64 p, .int .i64 q, .slice A2 n c2], .agg (opCells r)] w fun e w' => ∃ (p' q' n' : Nat) (A' : Option Addr) (c' : Nat) (A2' : Option Addr) (c2' : Nat) (xs' ys' : List Nat), e = .returned (.tuple #[.agg #[.int .i64 (p'), .int .i64 (q'), .slice A' n' c'], .agg #[.int .i64 (p'), .int .i64 (q'), .slice A2' n' c2']]) ∧ Both (k + 1) p' q' n' xs' ys' ∧ (r.kd.tmod 5 < 2 → p' = p ∧ q' = q ∧ n' = n) ∧ ((Fn w' A' n' xs' ∧ Nw w.heap.size A') ∧ (Fr w' A2' n' ys' ∧ Nw w.heap.size A2') ∨ (A' = A ∧ A2' = A2 ∧ n' = n ∧ xs' = xs ∧ ys' = ys)) ∧ Below w.heap.size w w' := by
  obtain ⟨kd, q0, la, ln, lc, ls, x, y, cw, ch⟩ := r
  dsimp only [opCells]
  have K := St.start w
  have HR := Lib.hid h
  have HR2 := Lib.hid h2
  have HB := Lib.hid hb
  have HG := Lib.hid hg
  have c14h : Hid (kd.tmod 5 = 1) := Lib.hid hkd
  have c15h : Hid (kd % 5 = 1) := Lib.hid (by rw [← Int.tmod_eq_emod_of_nonneg hg.kd.1]; exact hkd)
  have hlim := M17_lim (k := k) (by omega)
  have hbig := M17_big (k := k) (by omega)
  have hw := wts_bd (n := n) hg.lb
  dsimp only at hw
  have hn5 : n ≤ 5000 := by have := hb.n64; omega
  have hyb : ∀ y ∈ ys, y < Big := fun y hy => Nat.lt_trans (hb.bd y hy) (lim_pieces hbig).2.2.2.2
  have WT := Lib.hid (fun (w : World) (h : OpGood w ⟨kd, q0, la, ln, lc, ls, x, y, cw, ch⟩) => weights17 la n ln lc ls w h.row h.lb hn5)
  have PS := Lib.hid (fun (A3 : Option Addr) (c3 : Nat) (w : World) (h : Fn w A n xs) (h2 : Rd w A3 n (ints .i64 (wts14 n ls))) => Weigh17 p q A A3 n c c3 (M17 k) xs (wts14 n ls) w h h2 hw hb.xb (M17_pos k) (lim_pieces hlim).2.1 hn5)
  have RS := Lib.hid (fun (A3 : Option Addr) (c3 : Nat) (w : World) (h : Fr w A2 n ys) (h2 : Rd w A3 n (ints .i64 (wts14 n ls))) => RWeigh17 p q A2 A3 n c2 c3 0 ys (wts14 n ls) w h h2 hw hyb hn5)
  have HW := Lib.hid hw
  clear h h2 hb hg hkd hlim hbig hw hyb
  have c14 := c14h.out
  have c15 := c15h.out
  go_enter Try.func57, Try.ntmps57
  go_wp2_with (first|go_big_skip|((with_reducible refine at_load ?_);first|(refine wm_load (cs := ?_) (t := ?_) (n := ?_) K rfl _ _ rfl rfl ?_ ?_ ?_ ?_;rotate_left 2;(repeat (first|exact At.hd|refine At.tl ?_));rotate_left;(with_reducible first|exact row51|exact row59|exact row88);(solve|exact rfl|simp))|(refine wm_own (cs := ?_) (t := ?_) (v := ?_) K rfl _ _ rfl rfl ?_ ?_ ?_ ?_;rotate_left 2;(repeat (first|exact At.hd|refine At.tl ?_));rotate_left;(first|exact rfl|assumption);(with_reducible first|exact one3|exact one5|exact one42|exact one57|exact one86))|(refine wm_cell (v := ?_) rfl _ _ rfl rfl ?_ ?_ ?_;rotate_left;(first|assumption|exact (K.below.cell (by assumption)).trans (by assumption));(with_reducible first|exact one3|exact one5|exact one42|exact one57|exact one86)))|((with_reducible refine at_store ?_);first|(refine wm_store (L' := ?_) (cs := ?_) (t := ?_) (n := ?_) K rfl _ _ _ rfl rfl rfl rfl ?_ ?_ ?_ ?_ ?_ ?_;rotate_left 3;(repeat (first|exact Put.hd|(refine Put.tl (L' := ?_) ?_;rotate_left)));rotate_left;(with_reducible first|exact row51|exact row59|exact row88);(solve|exact rfl|simp);(solve|exact rfl|simp);(solve|exact rfl|simp [Ones, Value.oneCell']);(try clear K);(try clear ww);intro ww K;(try simp [go_sem] at K))|(refine wm_put (L' := ?_) (cs := ?_) (new := ?_) (t := ?_) K rfl _ _ _ rfl rfl rfl rfl ?_ ?_ ?_ ?_ rfl rfl ?_;rotate_left 4;(repeat (first|exact Put.hd|(refine Put.tl (L' := ?_) ?_;rotate_left)));(solve|exact Nat.le_of_ble_eq_true rfl|decide|(simp only [List.size_toArray, nums_length];first|assumption|omega)|(simp only [List.size_toArray, nums_length, List.length_set];first|assumption|omega)|simp|omega|(simp only [List.size_toArray, nums_length];omega)|assumption);(solve|(simp only [List.setIfInBounds_toArray];exact rfl)|exact nums_set _ _ _ _|simp only [List.setIfInBounds_toArray, List.set_cons_zero]|simp only [List.setIfInBounds_toArray, List.set_cons_zero, List.set_cons_succ]|(simp only [List.setIfInBounds_toArray, List.set_cons_zero, List.set_cons_succ];exact rfl)|exact rfl);(with_reducible first|exact one3|exact one5|exact one42|exact one57|exact one86);(try clear K);(try clear ww);intro ww K;(try simp [go_sem] at K)))|(first|((with_reducible refine at_box ?_);refine wm_box K rfl _ _ rfl rfl rfl ?_;(try clear K);(try clear ww);(first|((fail_if_success (have _h := b3));intro b3 ww K)|((fail_if_success (have _h := b4));intro b4 ww K)|((fail_if_success (have _h := b5));intro b5 ww K)|((fail_if_success (have _h := b6));intro b6 ww K)|((fail_if_success (have _h := b7));intro b7 ww K));(try simp [go_sem, Value.cells] at K))|((with_reducible refine at_alloc ?_);refine wm_alloc (v := ?_) (cs := ?_) K rfl _ rfl ?_ ?_ ?_;rotate_left;(with_reducible first|exact zero51|exact zero88);rotate_left;exact rfl;(try clear K);(try clear ww);(first|((fail_if_success (have _h := b3));intro b3 ww K)|((fail_if_success (have _h := b4));intro b4 ww K)|((fail_if_success (have _h := b5));intro b5 ww K)|((fail_if_success (have _h := b6));intro b6 ww K)|((fail_if_success (have _h := b7));intro b7 ww K));(try simp [go_sem, Value.cells] at K)))|(go_at_call 102;have zz := WT.out _ (HG.out.below K.below);(with_reducible refine zz.mono ?_);clear zz;rintro e w2 ⟨A3, c3, rfl, ⟨hx, hA⟩, hbel⟩;(try dsimp only);replace K := K.madeRd hbel hx hA;clear hbel hx hA;(try clear ww);revert w2;intro ww K))
  clear c14 c15
  refine wm_held _ [(true, 0), (true, 1), (true, 3), (true, 4), (false, 2), (false, 5), (false, 6), (false, 7)] K sbd2k3 (by kernel_rfl) (by kernel_rfl) ?_; (try clear K); (try clear ww); intro ww K; (try simp [go_sem] at K); simp only [pick, List.getElem?_toArray, List.getElem?_cons_succ, List.getElem?_cons_zero]
  repeat (first|((with_reducible refine ht_load ?_);first|(refine hm_load (cs := ?_) (t := ?_) (n := ?_) rfl _ _ rfl rfl ?_ ?_ ?_ ?_;rotate_left 2;(repeat (first|exact At.hd|refine At.tl ?_));rotate_left;(with_reducible first|exact row51|exact row59|exact row88);(solve|exact rfl|simp))|(refine hm_own (cs := ?_) (t := ?_) (v := ?_) rfl _ _ rfl rfl ?_ ?_ ?_ ?_;rotate_left 2;(repeat (first|exact At.hd|refine At.tl ?_));rotate_left;(first|exact rfl|assumption);(with_reducible first|exact one3|exact one5|exact one42|exact one57|exact one86))|(refine hm_cell (v := ?_) rfl _ _ rfl rfl (fun ww K => ?_) ?_ ?_;rotate_left;(first|assumption|exact (K.below.cell (by assumption)).trans (by assumption));(with_reducible first|exact one3|exact one5|exact one42|exact one57|exact one86)))|(refine held_take (fun K' hK' => ?_);go_simp;first|(refine hK' _ ?_;clear hK' K')|(apply Exists.intro;refine ⟨?_, hK' _ ?_⟩;(intro _ _;rfl);clear hK' K'))|((with_reducible refine ht_store ?_);first|(refine hm_store (L' := ?_) (cs := ?_) (t := ?_) (n := ?_) K rfl _ _ _ rfl rfl rfl rfl ?_ ?_ ?_ ?_ ?_ ?_;rotate_left 3;(repeat (first|exact Put.hd|(refine Put.tl (L' := ?_) ?_;rotate_left)));rotate_left;(with_reducible first|exact row51|exact row59|exact row88);(solve|exact rfl|simp);(solve|exact rfl|simp);(solve|exact rfl|simp [Ones, Value.oneCell']);(try clear K);(try clear ww);intro ww K;(try simp [go_sem] at K);refine ⟨(by first|exact (K).sub sbd2k3|exact (K.weak fun _ h => h.2).sub sbd2k3|exact (K.weak fun _ h => h.2.2).sub sbd2k3|exact (K.weak fun _ h => h.2.2.2).sub sbd2k3|exact (K.weak fun _ h => h.2.2.2.2).sub sbd2k3|exact (K.weak fun _ h => h.2.2.2.2.2).sub sbd2k3|exact (K.weak fun _ h => h.2.2.2.2.2.2).sub sbd2k3|exact (K.weak fun _ h => h.2.2.2.2.2.2.2).sub sbd2k3|exact (K.tail).sub sbd2k3|exact (K.tail.weak fun _ h => h.2).sub sbd2k3|exact (K.tail.weak fun _ h => h.2.2).sub sbd2k3|exact (K.tail.weak fun _ h => h.2.2.2).sub sbd2k3|exact (K.tail.weak fun _ h => h.2.2.2.2).sub sbd2k3|exact (K.tail.weak fun _ h => h.2.2.2.2.2).sub sbd2k3|exact (K.tail.weak fun _ h => h.2.2.2.2.2.2).sub sbd2k3|exact (K.tail.weak fun _ h => h.2.2.2.2.2.2.2).sub sbd2k3), ?_⟩)|(refine hm_put (L' := ?_) (cs := ?_) (new := ?_) (t := ?_) K rfl _ _ _ rfl rfl rfl rfl ?_ ?_ ?_ ?_ rfl rfl ?_;rotate_left 4;(repeat (first|exact Put.hd|(refine Put.tl (L' := ?_) ?_;rotate_left)));(solve|exact Nat.le_of_ble_eq_true rfl|decide|(simp only [List.size_toArray, nums_length];first|assumption|omega)|(simp only [List.size_toArray, nums_length, List.length_set];first|assumption|omega)|simp|omega|(simp only [List.size_toArray, nums_length];omega)|assumption);(solve|(simp only [List.setIfInBounds_toArray];exact rfl)|exact nums_set _ _ _ _|simp only [List.setIfInBounds_toArray, List.set_cons_zero]|simp only [List.setIfInBounds_toArray, List.set_cons_zero, List.set_cons_succ]|(simp only [List.setIfInBounds_toArray, List.set_cons_zero, List.set_cons_succ];exact rfl)|exact rfl);(with_reducible first|exact one3|exact one5|exact one42|exact one57|exact one86);(try clear K);(try clear ww);intro ww K;(try simp [go_sem] at K);refine ⟨(by first|exact (K).sub sbd2k3|exact (K.weak fun _ h => h.2).sub sbd2k3|exact (K.weak fun _ h => h.2.2).sub sbd2k3|exact (K.weak fun _ h => h.2.2.2).sub sbd2k3|exact (K.weak fun _ h => h.2.2.2.2).sub sbd2k3|exact (K.weak fun _ h => h.2.2.2.2.2).sub sbd2k3|exact (K.weak fun _ h => h.2.2.2.2.2.2).sub sbd2k3|exact (K.weak fun _ h => h.2.2.2.2.2.2.2).sub sbd2k3|exact (K.tail).sub sbd2k3|exact (K.tail.weak fun _ h => h.2).sub sbd2k3|exact (K.tail.weak fun _ h => h.2.2).sub sbd2k3|exact (K.tail.weak fun _ h => h.2.2.2).sub sbd2k3|exact (K.tail.weak fun _ h => h.2.2.2.2).sub sbd2k3|exact (K.tail.weak fun _ h => h.2.2.2.2.2).sub sbd2k3|exact (K.tail.weak fun _ h => h.2.2.2.2.2.2).sub sbd2k3|exact (K.tail.weak fun _ h => h.2.2.2.2.2.2.2).sub sbd2k3), ?_⟩))|(refine held_do (fun K' hK' => ?_);go_simp;go_at_call 67;have zz := PS.out _ c3 _ (HR.out.below K.below) K.fact.1;(with_reducible refine zz.mono ?_);clear zz;rintro e w2 ⟨s1, Af, cf, rfl, ⟨hx, hdv, hA⟩, hbel⟩;(try dsimp only);have hN1 := hA.mono K.size;have K2 := K.madeFn (noT_of rfl) hbel hx hA;refine hK' _ _ (by first|exact (K2).sub sbd2k3|exact (K2.weak fun _ h => h.2).sub sbd2k3|exact (K2.weak fun _ h => h.2.2).sub sbd2k3|exact (K2.weak fun _ h => h.2.2.2).sub sbd2k3|exact (K2.weak fun _ h => h.2.2.2.2).sub sbd2k3|exact (K2.weak fun _ h => h.2.2.2.2.2).sub sbd2k3|exact (K2.weak fun _ h => h.2.2.2.2.2.2).sub sbd2k3|exact (K2.weak fun _ h => h.2.2.2.2.2.2.2).sub sbd2k3|exact (K2.tail).sub sbd2k3|exact (K2.tail.weak fun _ h => h.2).sub sbd2k3|exact (K2.tail.weak fun _ h => h.2.2).sub sbd2k3|exact (K2.tail.weak fun _ h => h.2.2.2).sub sbd2k3|exact (K2.tail.weak fun _ h => h.2.2.2.2).sub sbd2k3|exact (K2.tail.weak fun _ h => h.2.2.2.2.2).sub sbd2k3|exact (K2.tail.weak fun _ h => h.2.2.2.2.2.2).sub sbd2k3|exact (K2.tail.weak fun _ h => h.2.2.2.2.2.2.2).sub sbd2k3) ?_;replace K := K2;clear hK' K' K2 hbel hx hA;(try clear ww);revert w2;intro ww K)|(refine held_do (fun K' hK' => ?_);go_simp;go_at_call 103;have zz := RS.out _ c3 _ (HR2.out.below K.below) K.fact.2.1;(with_reducible refine zz.mono ?_);clear zz;rintro e w2 ⟨Ar, cr, rfl, ⟨hx, hA⟩, hbel⟩;(try dsimp only);have hN2 := hA.mono K.size;have K2 := K.madeFr (noT_of rfl) hbel hx hA;refine hK' _ _ (by first|exact (K2).sub sbd2k3|exact (K2.weak fun _ h => h.2).sub sbd2k3|exact (K2.weak fun _ h => h.2.2).sub sbd2k3|exact (K2.weak fun _ h => h.2.2.2).sub sbd2k3|exact (K2.weak fun _ h => h.2.2.2.2).sub sbd2k3|exact (K2.weak fun _ h => h.2.2.2.2.2).sub sbd2k3|exact (K2.weak fun _ h => h.2.2.2.2.2.2).sub sbd2k3|exact (K2.weak fun _ h => h.2.2.2.2.2.2.2).sub sbd2k3|exact (K2.tail).sub sbd2k3|exact (K2.tail.weak fun _ h => h.2).sub sbd2k3|exact (K2.tail.weak fun _ h => h.2.2).sub sbd2k3|exact (K2.tail.weak fun _ h => h.2.2.2).sub sbd2k3|exact (K2.tail.weak fun _ h => h.2.2.2.2).sub sbd2k3|exact (K2.tail.weak fun _ h => h.2.2.2.2.2).sub sbd2k3|exact (K2.tail.weak fun _ h => h.2.2.2.2.2.2).sub sbd2k3|exact (K2.tail.weak fun _ h => h.2.2.2.2.2.2.2).sub sbd2k3) ?_;replace K := K2;clear hK' K' K2 hbel hx hA;(try clear ww);revert w2;intro ww K))
  refine held_nil ?_
  (try go_wp2_with fail)
  refine bodyPost_ret (K.resC2 rfl _ rfl rfl (At.tl At.hd) At.hd (by (with_reducible first|exact row51|exact row59|exact row88)) (by (solve|exact rfl|simp)) (by (with_reducible first|exact row51|exact row59|exact row88)) (by (solve|exact rfl|simp))) rfl ?_
  exact ⟨p, q, n, Af, cf, Ar, cr, _, _, rfl, HB.out.weigh HW.out hdv, fun _ => ⟨rfl, rfl, rfl⟩, .inl ⟨⟨K.fact.2.1, hN1⟩, ⟨K.fact.1, hN2⟩⟩, K.below⟩
set_option maxRecDepth 100000 in
set_option maxHeartbeats 8000000 in
theorem doC17 (k p q n c c2 : Nat) (A A2 : Option Addr) (xs ys : List Nat) (r : OpRec) (w : World) (h : Fn w A n xs) (h2 : Fr w A2 n ys) (hb : Both k p q n xs ys) (hk : k ≤ 8) (hg : OpGood w r) (hkd : r.kd.tmod 5 = 2) :
    Calls Try.prog 57 #[.agg #[.int .i64 p, .int .i64 q, .slice A n c], .agg #[.int .i64 p, .int .i64 q, .slice A2 n c2], .agg (opCells r)] w fun e w' => ∃ (p' q' n' : Nat) (A' : Option Addr) (c' : Nat) (A2' : Option Addr) (c2' : Nat) (xs' ys' : List Nat), e = .returned (.tuple #[.agg #[.int .i64 (p'), .int .i64 (q'), .slice A' n' c'], .agg #[.int .i64 (p'), .int .i64 (q'), .slice A2' n' c2']]) ∧ Both (k + 1) p' q' n' xs' ys' ∧ (r.kd.tmod 5 < 2 → p' = p ∧ q' = q ∧ n' = n) ∧ ((Fn w' A' n' xs' ∧ Nw w.heap.size A') ∧ (Fr w' A2' n' ys' ∧ Nw w.heap.size A2') ∨ (A' = A ∧ A2' = A2 ∧ n' = n ∧ xs' = xs ∧ ys' = ys)) ∧ Below w.heap.size w w' := by
  obtain ⟨kd, q0, la, ln, lc, ls, x, y, cw, ch⟩ := r
  dsimp only [opCells]
  have K := St.start w
  have HR := Lib.hid h
  have HR2 := Lib.hid h2
  have HB := Lib.hid hb
  have HG := Lib.hid hg
  have c14h : Hid (kd.tmod 5 = 2) := Lib.hid hkd
  have c15h : Hid (kd % 5 = 2) := Lib.hid (by rw [← Int.tmod_eq_emod_of_nonneg hg.kd.1]; exact hkd)
  have hlim := M17_lim (k := k) (by omega)
  have hbig := M17_big (k := k) (by omega)
  obtain ⟨c1, hc1⟩ : ∃ c1 : Nat, 1 + cw % 8 = (c1 : Int) := ⟨(1 + cw % 8).toNat, by omega⟩
  obtain ⟨d1, hd1⟩ : ∃ d1 : Nat, 1 + ch % 8 = (d1 : Int) := ⟨(1 + ch % 8).toNat, by omega⟩
  have hcb : 1 ≤ c1 ∧ c1 ≤ 8 := by omega
  have hdb : 1 ≤ d1 ∧ d1 ≤ 8 := by omega
  have hxb := hg.x
  have hyb := hg.y
  dsimp only at hxb hyb
  obtain ⟨m, hm⟩ : ∃ m, c1 * d1 = m := ⟨_, rfl⟩
  have SD := Lib.hid (fun (w : World) => Sides17 kd q0 x y cw ch la ln lc w hg.cw hg.ch)
  rw [hc1, hd1] at SD
  have hnI : (p : Int) * (q : Int) = n := by rw [← Int.natCast_mul, Nat.mul_comm, hb.hn]
  have PS := Lib.hid (fun (w : World) (h : Fn w A n xs) => Cut17 p q c1 d1 m n c x y A xs w h hnI ⟨hb.hp.1, by have := hb.hp.2; omega⟩ ⟨hb.hq.1, by have := hb.hq.2; omega⟩ (by omega) (by omega) hcb hdb hm)
  have RS := Lib.hid (fun (w : World) (h : Fr w A2 n ys) => RCut17 p q c1 d1 m n c2 x y A2 ys w h hnI ⟨hb.hp.1, by have := hb.hp.2; omega⟩ ⟨hb.hq.1, by have := hb.hq.2; omega⟩ (by omega) (by omega) hcb hdb hm)
  have HB2 := Lib.hid (hb.cut (x := x) (y := y) hcb hdb hm)
  have w1h : Hid (IntKind.i64.wrap x = x) := Lib.hid (IntWalk.i64_in _ (by omega))
  have w2h : Hid (IntKind.i64.wrap y = y) := Lib.hid (IntWalk.i64_in _ (by omega))
  clear h h2 hb hg hkd hlim hbig hc1 hd1 hcb hdb hxb hyb hm hnI
  have c14 := c14h.out
  have c15 := c15h.out
  go_enter Try.func57, Try.ntmps57
  go_wp2_with (first|go_big_skip|((with_reducible refine at_load ?_);first|(refine wm_load (cs := ?_) (t := ?_) (n := ?_) K rfl _ _ rfl rfl ?_ ?_ ?_ ?_;rotate_left 2;(repeat (first|exact At.hd|refine At.tl ?_));rotate_left;(with_reducible first|exact row51|exact row59|exact row88);(solve|exact rfl|simp))|(refine wm_own (cs := ?_) (t := ?_) (v := ?_) K rfl _ _ rfl rfl ?_ ?_ ?_ ?_;rotate_left 2;(repeat (first|exact At.hd|refine At.tl ?_));rotate_left;(first|exact rfl|assumption);(with_reducible first|exact one3|exact one5|exact one42|exact one57|exact one86))|(refine wm_cell (v := ?_) rfl _ _ rfl rfl ?_ ?_ ?_;rotate_left;(first|assumption|exact (K.below.cell (by assumption)).trans (by assumption));(with_reducible first|exact one3|exact one5|exact one42|exact one57|exact one86)))|((with_reducible refine at_store ?_);first|(refine wm_store (L' := ?_) (cs := ?_) (t := ?_) (n := ?_) K rfl _ _ _ rfl rfl rfl rfl ?_ ?_ ?_ ?_ ?_ ?_;rotate_left 3;(repeat (first|exact Put.hd|(refine Put.tl (L' := ?_) ?_;rotate_left)));rotate_left;(with_reducible first|exact row51|exact row59|exact row88);(solve|exact rfl|simp);(solve|exact rfl|simp);(solve|exact rfl|simp [Ones, Value.oneCell']);(try clear K);(try clear ww);intro ww K;(try simp [go_sem] at K))|(refine wm_put (L' := ?_) (cs := ?_) (new := ?_) (t := ?_) K rfl _ _ _ rfl rfl rfl rfl ?_ ?_ ?_ ?_ rfl rfl ?_;rotate_left 4;(repeat (first|exact Put.hd|(refine Put.tl (L' := ?_) ?_;rotate_left)));(solve|exact Nat.le_of_ble_eq_true rfl|decide|(simp only [List.size_toArray, nums_length];first|assumption|omega)|(simp only [List.size_toArray, nums_length, List.length_set];first|assumption|omega)|simp|omega|(simp only [List.size_toArray, nums_length];omega)|assumption);(solve|(simp only [List.setIfInBounds_toArray];exact rfl)|exact nums_set _ _ _ _|simp only [List.setIfInBounds_toArray, List.set_cons_zero]|simp only [List.setIfInBounds_toArray, List.set_cons_zero, List.set_cons_succ]|(simp only [List.setIfInBounds_toArray, List.set_cons_zero, List.set_cons_succ];exact rfl)|exact rfl);(with_reducible first|exact one3|exact one5|exact one42|exact one57|exact one86);(try clear K);(try clear ww);intro ww K;(try simp [go_sem] at K)))|(first|((with_reducible refine at_box ?_);refine wm_box K rfl _ _ rfl rfl rfl ?_;(try clear K);(try clear ww);(first|((fail_if_success (have _h := b3));intro b3 ww K)|((fail_if_success (have _h := b4));intro b4 ww K)|((fail_if_success (have _h := b5));intro b5 ww K)|((fail_if_success (have _h := b6));intro b6 ww K)|((fail_if_success (have _h := b7));intro b7 ww K));(try simp [go_sem, Value.cells] at K))|((with_reducible refine at_alloc ?_);refine wm_alloc (v := ?_) (cs := ?_) K rfl _ rfl ?_ ?_ ?_;rotate_left;(with_reducible first|exact zero51|exact zero88);rotate_left;exact rfl;(try clear K);(try clear ww);(first|((fail_if_success (have _h := b3));intro b3 ww K)|((fail_if_success (have _h := b4));intro b4 ww K)|((fail_if_success (have _h := b5));intro b5 ww K)|((fail_if_success (have _h := b6));intro b6 ww K)|((fail_if_success (have _h := b7));intro b7 ww K));(try simp [go_sem, Value.cells] at K)))|(go_at_call 68;(with_reducible refine (SD.out _).mono ?_);rintro e w2 ⟨rfl, k1⟩;replace K := K.step k1;clear k1;(try clear ww);revert w2;intro ww K))
  clear c14 c15
  have w1 := w1h.out
  have w2' := w2h.out
  refine wm_held _ [(true, 0), (true, 1), (true, 2), (true, 3), (true, 4), (true, 5), (true, 6), (true, 7), (true, 8), (true, 10), (true, 11), (true, 12), (true, 13), (true, 14), (true, 15), (true, 16), (true, 17), (true, 18), (false, 9), (false, 19), (false, 20), (false, 21)] K sbd2k3 (by kernel_rfl) (by kernel_rfl) ?_; (try clear K); (try clear ww); intro ww K; (try simp [go_sem] at K); simp only [pick, List.getElem?_toArray, List.getElem?_cons_succ, List.getElem?_cons_zero]
  repeat (first|((with_reducible refine ht_load ?_);first|(refine hm_load (cs := ?_) (t := ?_) (n := ?_) rfl _ _ rfl rfl ?_ ?_ ?_ ?_;rotate_left 2;(repeat (first|exact At.hd|refine At.tl ?_));rotate_left;(with_reducible first|exact row51|exact row59|exact row88);(solve|exact rfl|simp))|(refine hm_own (cs := ?_) (t := ?_) (v := ?_) rfl _ _ rfl rfl ?_ ?_ ?_ ?_;rotate_left 2;(repeat (first|exact At.hd|refine At.tl ?_));rotate_left;(first|exact rfl|assumption);(with_reducible first|exact one3|exact one5|exact one42|exact one57|exact one86))|(refine hm_cell (v := ?_) rfl _ _ rfl rfl (fun ww K => ?_) ?_ ?_;rotate_left;(first|assumption|exact (K.below.cell (by assumption)).trans (by assumption));(with_reducible first|exact one3|exact one5|exact one42|exact one57|exact one86)))|(refine held_take (fun K' hK' => ?_);go_simp;first|(refine hK' _ ?_;clear hK' K')|(apply Exists.intro;refine ⟨?_, hK' _ ?_⟩;(intro _ _;rfl);clear hK' K'))|((with_reducible refine ht_store ?_);first|(refine hm_store (L' := ?_) (cs := ?_) (t := ?_) (n := ?_) K rfl _ _ _ rfl rfl rfl rfl ?_ ?_ ?_ ?_ ?_ ?_;rotate_left 3;(repeat (first|exact Put.hd|(refine Put.tl (L' := ?_) ?_;rotate_left)));rotate_left;(with_reducible first|exact row51|exact row59|exact row88);(solve|exact rfl|simp);(solve|exact rfl|simp);(solve|exact rfl|simp [Ones, Value.oneCell']);(try clear K);(try clear ww);intro ww K;(try simp [go_sem] at K);refine ⟨(by first|exact (K).sub sbd2k3|exact (K.weak fun _ h => h.2).sub sbd2k3|exact (K.weak fun _ h => h.2.2).sub sbd2k3|exact (K.weak fun _ h => h.2.2.2).sub sbd2k3|exact (K.weak fun _ h => h.2.2.2.2).sub sbd2k3|exact (K.weak fun _ h => h.2.2.2.2.2).sub sbd2k3|exact (K.weak fun _ h => h.2.2.2.2.2.2).sub sbd2k3|exact (K.weak fun _ h => h.2.2.2.2.2.2.2).sub sbd2k3|exact (K.tail).sub sbd2k3|exact (K.tail.weak fun _ h => h.2).sub sbd2k3|exact (K.tail.weak fun _ h => h.2.2).sub sbd2k3|exact (K.tail.weak fun _ h => h.2.2.2).sub sbd2k3|exact (K.tail.weak fun _ h => h.2.2.2.2).sub sbd2k3|exact (K.tail.weak fun _ h => h.2.2.2.2.2).sub sbd2k3|exact (K.tail.weak fun _ h => h.2.2.2.2.2.2).sub sbd2k3|exact (K.tail.weak fun _ h => h.2.2.2.2.2.2.2).sub sbd2k3), ?_⟩)|(refine hm_put (L' := ?_) (cs := ?_) (new := ?_) (t := ?_) K rfl _ _ _ rfl rfl rfl rfl ?_ ?_ ?_ ?_ rfl rfl ?_;rotate_left 4;(repeat (first|exact Put.hd|(refine Put.tl (L' := ?_) ?_;rotate_left)));(solve|exact Nat.le_of_ble_eq_true rfl|decide|(simp only [List.size_toArray, nums_length];first|assumption|omega)|(simp only [List.size_toArray, nums_length, List.length_set];first|assumption|omega)|simp|omega|(simp only [List.size_toArray, nums_length];omega)|assumption);(solve|(simp only [List.setIfInBounds_toArray];exact rfl)|exact nums_set _ _ _ _|simp only [List.setIfInBounds_toArray, List.set_cons_zero]|simp only [List.setIfInBounds_toArray, List.set_cons_zero, List.set_cons_succ]|(simp only [List.setIfInBounds_toArray, List.set_cons_zero, List.set_cons_succ];exact rfl)|exact rfl);(with_reducible first|exact one3|exact one5|exact one42|exact one57|exact one86);(try clear K);(try clear ww);intro ww K;(try simp [go_sem] at K);refine ⟨(by first|exact (K).sub sbd2k3|exact (K.weak fun _ h => h.2).sub sbd2k3|exact (K.weak fun _ h => h.2.2).sub sbd2k3|exact (K.weak fun _ h => h.2.2.2).sub sbd2k3|exact (K.weak fun _ h => h.2.2.2.2).sub sbd2k3|exact (K.weak fun _ h => h.2.2.2.2.2).sub sbd2k3|exact (K.weak fun _ h => h.2.2.2.2.2.2).sub sbd2k3|exact (K.weak fun _ h => h.2.2.2.2.2.2.2).sub sbd2k3|exact (K.tail).sub sbd2k3|exact (K.tail.weak fun _ h => h.2).sub sbd2k3|exact (K.tail.weak fun _ h => h.2.2).sub sbd2k3|exact (K.tail.weak fun _ h => h.2.2.2).sub sbd2k3|exact (K.tail.weak fun _ h => h.2.2.2.2).sub sbd2k3|exact (K.tail.weak fun _ h => h.2.2.2.2.2).sub sbd2k3|exact (K.tail.weak fun _ h => h.2.2.2.2.2.2).sub sbd2k3|exact (K.tail.weak fun _ h => h.2.2.2.2.2.2.2).sub sbd2k3), ?_⟩))|(refine held_do (fun K' hK' => ?_);go_simp;go_at_call 69;have zz := PS.out _ (HR.out.below K.below);(with_reducible refine zz.mono ?_);clear zz;rintro e w2 ⟨Af, cf, rfl, ⟨hx, hA⟩, hbel⟩;(try dsimp only);have hN1 := hA.mono K.size;have K2 := K.madeFn (noT_of rfl) hbel hx hA;refine hK' _ _ (by first|exact (K2).sub sbd2k3|exact (K2.weak fun _ h => h.2).sub sbd2k3|exact (K2.weak fun _ h => h.2.2).sub sbd2k3|exact (K2.weak fun _ h => h.2.2.2).sub sbd2k3|exact (K2.weak fun _ h => h.2.2.2.2).sub sbd2k3|exact (K2.weak fun _ h => h.2.2.2.2.2).sub sbd2k3|exact (K2.weak fun _ h => h.2.2.2.2.2.2).sub sbd2k3|exact (K2.weak fun _ h => h.2.2.2.2.2.2.2).sub sbd2k3|exact (K2.tail).sub sbd2k3|exact (K2.tail.weak fun _ h => h.2).sub sbd2k3|exact (K2.tail.weak fun _ h => h.2.2).sub sbd2k3|exact (K2.tail.weak fun _ h => h.2.2.2).sub sbd2k3|exact (K2.tail.weak fun _ h => h.2.2.2.2).sub sbd2k3|exact (K2.tail.weak fun _ h => h.2.2.2.2.2).sub sbd2k3|exact (K2.tail.weak fun _ h => h.2.2.2.2.2.2).sub sbd2k3|exact (K2.tail.weak fun _ h => h.2.2.2.2.2.2.2).sub sbd2k3) ?_;replace K := K2;clear hK' K' K2 hbel hx hA;(try clear ww);revert w2;intro ww K)|(refine held_do (fun K' hK' => ?_);go_simp;go_at_call 104;have zz := RS.out _ (HR2.out.below K.below);(with_reducible refine zz.mono ?_);clear zz;rintro e w2 ⟨Ar, cr, rfl, ⟨hx, hA⟩, hbel⟩;(try dsimp only);have hN2 := hA.mono K.size;have K2 := K.madeFr (noT_of rfl) hbel hx hA;refine hK' _ _ (by first|exact (K2).sub sbd2k3|exact (K2.weak fun _ h => h.2).sub sbd2k3|exact (K2.weak fun _ h => h.2.2).sub sbd2k3|exact (K2.weak fun _ h => h.2.2.2).sub sbd2k3|exact (K2.weak fun _ h => h.2.2.2.2).sub sbd2k3|exact (K2.weak fun _ h => h.2.2.2.2.2).sub sbd2k3|exact (K2.weak fun _ h => h.2.2.2.2.2.2).sub sbd2k3|exact (K2.weak fun _ h => h.2.2.2.2.2.2.2).sub sbd2k3|exact (K2.tail).sub sbd2k3|exact (K2.tail.weak fun _ h => h.2).sub sbd2k3|exact (K2.tail.weak fun _ h => h.2.2).sub sbd2k3|exact (K2.tail.weak fun _ h => h.2.2.2).sub sbd2k3|exact (K2.tail.weak fun _ h => h.2.2.2.2).sub sbd2k3|exact (K2.tail.weak fun _ h => h.2.2.2.2.2).sub sbd2k3|exact (K2.tail.weak fun _ h => h.2.2.2.2.2.2).sub sbd2k3|exact (K2.tail.weak fun _ h => h.2.2.2.2.2.2.2).sub sbd2k3) ?_;replace K := K2;clear hK' K' K2 hbel hx hA;(try clear ww);revert w2;intro ww K))
  refine held_nil ?_
  clear w1 w2'
  (try go_wp2_with fail)
  refine bodyPost_ret (K.resC2 rfl _ rfl rfl (At.tl At.hd) At.hd (by (with_reducible first|exact row51|exact row59|exact row88)) (by (solve|exact rfl|simp)) (by (with_reducible first|exact row51|exact row59|exact row88)) (by (solve|exact rfl|simp))) rfl ?_
  exact ⟨c1, d1, m, Af, cf, Ar, cr, _, _, rfl, HB2.out, (show kd.tmod 5 < 2 → _ from fun h => absurd h (by rw [c14h.out]; decide)), .inl ⟨⟨K.fact.2.1, hN1⟩, ⟨K.fact.1, hN2⟩⟩, K.below⟩
end Go.Proofs.Yteancdipmpmjpaa
namespace Go.Proofs.Yteancdipmpmjpaa
open Go.RowKit
attribute [local irreducible] wpHeld wpTree wpList
set_option linter.unusedVariables false
set_option maxRecDepth 100000 in
set_option maxHeartbeats 8000000 in
theorem doD17 (k p q n c c2 : Nat) (A A2 : Option Addr) (xs ys : List Nat) (r : OpRec) (w : World) (h : Fn w A n xs) (h2 : Fr w A2 n ys) (hb : Both k p q n xs ys) (hk : k ≤ 8) (hg : OpGood w r) (hkd : r.kd.tmod 5 = 3) (h4 : p ≤ 4 ∧ q ≤ 4) :
    Calls Try.prog 57 #[.agg #[.int .i64 p, .int .i64 q, .slice A n c], .agg #[.int .i64 p, .int .i64 q, .slice A2 n c2], .agg (opCells r)] w fun e w' => ∃ (p' q' n' : Nat) (A' : Option Addr) (c' : Nat) (A2' : Option Addr) (c2' : Nat) (xs' ys' : List Nat), e = .returned (.tuple #[.agg #[.int .i64 (p'), .int .i64 (q'), .slice A' n' c'], .agg #[.int .i64 (p'), .int .i64 (q'), .slice A2' n' c2']]) ∧ Both (k + 1) p' q' n' xs' ys' ∧ (r.kd.tmod 5 < 2 → p' = p ∧ q' = q ∧ n' = n) ∧ ((Fn w' A' n' xs' ∧ Nw w.heap.size A') ∧ (Fr w' A2' n' ys' ∧ Nw w.heap.size A2') ∨ (A' = A ∧ A2' = A2 ∧ n' = n ∧ xs' = xs ∧ ys' = ys)) ∧ Below w.heap.size w w' := by
  obtain ⟨kd, q0, la, ln, lc, ls, x, y, cw, ch⟩ := r
  dsimp only [opCells]
  have K := St.start w
  have HR := Lib.hid h
  have HR2 := Lib.hid h2
  have HB := Lib.hid hb
  have HG := Lib.hid hg
  have c14h : Hid (kd.tmod 5 = 3) := Lib.hid hkd
  have c15h : Hid (kd % 5 = 3) := Lib.hid (by rw [← Int.tmod_eq_emod_of_nonneg hg.kd.1]; exact hkd)
  have hlim := M17_lim (k := k) (by omega)
  have hbig := M17_big (k := k) (by omega)
  have hnI : p * q = n := by rw [Nat.mul_comm, hb.hn]
  have t1 : decide (4 < p) = false := decide_eq_false (by omega)
  have t1' : decide (4 < (p : Int)) = false := decide_eq_false (by omega)
  have t2 : decide (4 < q) = false := decide_eq_false (by omega)
  have t2' : decide (4 < (q : Int)) = false := decide_eq_false (by omega)
  have PS := Lib.hid (fun (w : World) (h : Fn w A n xs) => Split17 p q (2 * p) (2 * q) (4 * n) n c A xs w h hnI ⟨hb.hp.1, by omega⟩ ⟨hb.hq.1, by omega⟩ rfl rfl rfl)
  have RS := Lib.hid (fun (w : World) (h : Fr w A2 n ys) => RSplit17 p q (2 * p) (2 * q) (4 * n) n c2 A2 ys w h hnI ⟨hb.hp.1, by omega⟩ ⟨hb.hq.1, by omega⟩ rfl rfl rfl)
  have HB2 := Lib.hid (hb.split (P2 := 2 * p) (Q2 := 2 * q) (m := 4 * n) rfl rfl rfl h4.1 h4.2)
  generalize 2 * p = P2 at *
  generalize 2 * q = Q2 at *
  generalize 4 * n = m at *
  clear h h2 hb hg hkd hlim hbig hnI h4
  have c14 := c14h.out
  have c15 := c15h.out
  go_enter Try.func57, Try.ntmps57
  go_wp2_with (first|go_big_skip|((with_reducible refine at_load ?_);first|(refine wm_load (cs := ?_) (t := ?_) (n := ?_) K rfl _ _ rfl rfl ?_ ?_ ?_ ?_;rotate_left 2;(repeat (first|exact At.hd|refine At.tl ?_));rotate_left;(with_reducible first|exact row51|exact row59|exact row88);(solve|exact rfl|simp))|(refine wm_own (cs := ?_) (t := ?_) (v := ?_) K rfl _ _ rfl rfl ?_ ?_ ?_ ?_;rotate_left 2;(repeat (first|exact At.hd|refine At.tl ?_));rotate_left;(first|exact rfl|assumption);(with_reducible first|exact one3|exact one5|exact one42|exact one57|exact one86))|(refine wm_cell (v := ?_) rfl _ _ rfl rfl ?_ ?_ ?_;rotate_left;(first|assumption|exact (K.below.cell (by assumption)).trans (by assumption));(with_reducible first|exact one3|exact one5|exact one42|exact one57|exact one86)))|((with_reducible refine at_store ?_);first|(refine wm_store (L' := ?_) (cs := ?_) (t := ?_) (n := ?_) K rfl _ _ _ rfl rfl rfl rfl ?_ ?_ ?_ ?_ ?_ ?_;rotate_left 3;(repeat (first|exact Put.hd|(refine Put.tl (L' := ?_) ?_;rotate_left)));rotate_left;(with_reducible first|exact row51|exact row59|exact row88);(solve|exact rfl|simp);(solve|exact rfl|simp);(solve|exact rfl|simp [Ones, Value.oneCell']);(try clear K);(try clear ww);intro ww K;(try simp [go_sem] at K))|(refine wm_put (L' := ?_) (cs := ?_) (new := ?_) (t := ?_) K rfl _ _ _ rfl rfl rfl rfl ?_ ?_ ?_ ?_ rfl rfl ?_;rotate_left 4;(repeat (first|exact Put.hd|(refine Put.tl (L' := ?_) ?_;rotate_left)));(solve|exact Nat.le_of_ble_eq_true rfl|decide|(simp only [List.size_toArray, nums_length];first|assumption|omega)|(simp only [List.size_toArray, nums_length, List.length_set];first|assumption|omega)|simp|omega|(simp only [List.size_toArray, nums_length];omega)|assumption);(solve|(simp only [List.setIfInBounds_toArray];exact rfl)|exact nums_set _ _ _ _|simp only [List.setIfInBounds_toArray, List.set_cons_zero]|simp only [List.setIfInBounds_toArray, List.set_cons_zero, List.set_cons_succ]|(simp only [List.setIfInBounds_toArray, List.set_cons_zero, List.set_cons_succ];exact rfl)|exact rfl);(with_reducible first|exact one3|exact one5|exact one42|exact one57|exact one86);(try clear K);(try clear ww);intro ww K;(try simp [go_sem] at K)))|(first|((with_reducible refine at_box ?_);refine wm_box K rfl _ _ rfl rfl rfl ?_;(try clear K);(try clear ww);(first|((fail_if_success (have _h := b3));intro b3 ww K)|((fail_if_success (have _h := b4));intro b4 ww K)|((fail_if_success (have _h := b5));intro b5 ww K)|((fail_if_success (have _h := b6));intro b6 ww K)|((fail_if_success (have _h := b7));intro b7 ww K));(try simp [go_sem, Value.cells] at K))|((with_reducible refine at_alloc ?_);refine wm_alloc (v := ?_) (cs := ?_) K rfl _ rfl ?_ ?_ ?_;rotate_left;(with_reducible first|exact zero51|exact zero88);rotate_left;exact rfl;(try clear K);(try clear ww);(first|((fail_if_success (have _h := b3));intro b3 ww K)|((fail_if_success (have _h := b4));intro b4 ww K)|((fail_if_success (have _h := b5));intro b5 ww K)|((fail_if_success (have _h := b6));intro b6 ww K)|((fail_if_success (have _h := b7));intro b7 ww K));(try simp [go_sem, Value.cells] at K))))
  clear c14 c15
  refine wm_held _ [(true, 0), (true, 2), (false, 1), (false, 3), (false, 4), (false, 5)] K sbd2k3 (by kernel_rfl) (by kernel_rfl) ?_; (try clear K); (try clear ww); intro ww K; (try simp [go_sem] at K); simp only [pick, List.getElem?_toArray, List.getElem?_cons_succ, List.getElem?_cons_zero]
  repeat (first|((with_reducible refine ht_load ?_);first|(refine hm_load (cs := ?_) (t := ?_) (n := ?_) rfl _ _ rfl rfl ?_ ?_ ?_ ?_;rotate_left 2;(repeat (first|exact At.hd|refine At.tl ?_));rotate_left;(with_reducible first|exact row51|exact row59|exact row88);(solve|exact rfl|simp))|(refine hm_own (cs := ?_) (t := ?_) (v := ?_) rfl _ _ rfl rfl ?_ ?_ ?_ ?_;rotate_left 2;(repeat (first|exact At.hd|refine At.tl ?_));rotate_left;(first|exact rfl|assumption);(with_reducible first|exact one3|exact one5|exact one42|exact one57|exact one86))|(refine hm_cell (v := ?_) rfl _ _ rfl rfl (fun ww K => ?_) ?_ ?_;rotate_left;(first|assumption|exact (K.below.cell (by assumption)).trans (by assumption));(with_reducible first|exact one3|exact one5|exact one42|exact one57|exact one86)))|(refine held_take (fun K' hK' => ?_);go_simp;first|(refine hK' _ ?_;clear hK' K')|(apply Exists.intro;refine ⟨?_, hK' _ ?_⟩;(intro _ _;rfl);clear hK' K'))|((with_reducible refine ht_store ?_);first|(refine hm_store (L' := ?_) (cs := ?_) (t := ?_) (n := ?_) K rfl _ _ _ rfl rfl rfl rfl ?_ ?_ ?_ ?_ ?_ ?_;rotate_left 3;(repeat (first|exact Put.hd|(refine Put.tl (L' := ?_) ?_;rotate_left)));rotate_left;(with_reducible first|exact row51|exact row59|exact row88);(solve|exact rfl|simp);(solve|exact rfl|simp);(solve|exact rfl|simp [Ones, Value.oneCell']);(try clear K);(try clear ww);intro ww K;(try simp [go_sem] at K);refine ⟨(by first|exact (K).sub sbd2k3|exact (K.weak fun _ h => h.2).sub sbd2k3|exact (K.weak fun _ h => h.2.2).sub sbd2k3|exact (K.weak fun _ h => h.2.2.2).sub sbd2k3|exact (K.weak fun _ h => h.2.2.2.2).sub sbd2k3|exact (K.weak fun _ h => h.2.2.2.2.2).sub sbd2k3|exact (K.weak fun _ h => h.2.2.2.2.2.2).sub sbd2k3|exact (K.weak fun _ h => h.2.2.2.2.2.2.2).sub sbd2k3|exact (K.tail).sub sbd2k3|exact (K.tail.weak fun _ h => h.2).sub sbd2k3|exact (K.tail.weak fun _ h => h.2.2).sub sbd2k3|exact (K.tail.weak fun _ h => h.2.2.2).sub sbd2k3|exact (K.tail.weak fun _ h => h.2.2.2.2).sub sbd2k3|exact (K.tail.weak fun _ h => h.2.2.2.2.2).sub sbd2k3|exact (K.tail.weak fun _ h => h.2.2.2.2.2.2).sub sbd2k3|exact (K.tail.weak fun _ h => h.2.2.2.2.2.2.2).sub sbd2k3), ?_⟩)|(refine hm_put (L' := ?_) (cs := ?_) (new := ?_) (t := ?_) K rfl _ _ _ rfl rfl rfl rfl ?_ ?_ ?_ ?_ rfl rfl ?_;rotate_left 4;(repeat (first|exact Put.hd|(refine Put.tl (L' := ?_) ?_;rotate_left)));(solve|exact Nat.le_of_ble_eq_true rfl|decide|(simp only [List.size_toArray, nums_length];first|assumption|omega)|(simp only [List.size_toArray, nums_length, List.length_set];first|assumption|omega)|simp|omega|(simp only [List.size_toArray, nums_length];omega)|assumption);(solve|(simp only [List.setIfInBounds_toArray];exact rfl)|exact nums_set _ _ _ _|simp only [List.setIfInBounds_toArray, List.set_cons_zero]|simp only [List.setIfInBounds_toArray, List.set_cons_zero, List.set_cons_succ]|(simp only [List.setIfInBounds_toArray, List.set_cons_zero, List.set_cons_succ];exact rfl)|exact rfl);(with_reducible first|exact one3|exact one5|exact one42|exact one57|exact one86);(try clear K);(try clear ww);intro ww K;(try simp [go_sem] at K);refine ⟨(by first|exact (K).sub sbd2k3|exact (K.weak fun _ h => h.2).sub sbd2k3|exact (K.weak fun _ h => h.2.2).sub sbd2k3|exact (K.weak fun _ h => h.2.2.2).sub sbd2k3|exact (K.weak fun _ h => h.2.2.2.2).sub sbd2k3|exact (K.weak fun _ h => h.2.2.2.2.2).sub sbd2k3|exact (K.weak fun _ h => h.2.2.2.2.2.2).sub sbd2k3|exact (K.weak fun _ h => h.2.2.2.2.2.2.2).sub sbd2k3|exact (K.tail).sub sbd2k3|exact (K.tail.weak fun _ h => h.2).sub sbd2k3|exact (K.tail.weak fun _ h => h.2.2).sub sbd2k3|exact (K.tail.weak fun _ h => h.2.2.2).sub sbd2k3|exact (K.tail.weak fun _ h => h.2.2.2.2).sub sbd2k3|exact (K.tail.weak fun _ h => h.2.2.2.2.2).sub sbd2k3|exact (K.tail.weak fun _ h => h.2.2.2.2.2.2).sub sbd2k3|exact (K.tail.weak fun _ h => h.2.2.2.2.2.2.2).sub sbd2k3), ?_⟩))|(refine held_do (fun K' hK' => ?_);go_simp;go_at_call 70;have zz := PS.out _ (HR.out.below K.below);(with_reducible refine zz.mono ?_);clear zz;rintro e w2 ⟨Af, cf, rfl, ⟨hx, hA⟩, hbel⟩;(try dsimp only);have hN1 := hA.mono K.size;have K2 := K.madeFn (noT_of rfl) hbel hx hA;refine hK' _ _ (by first|exact (K2).sub sbd2k3|exact (K2.weak fun _ h => h.2).sub sbd2k3|exact (K2.weak fun _ h => h.2.2).sub sbd2k3|exact (K2.weak fun _ h => h.2.2.2).sub sbd2k3|exact (K2.weak fun _ h => h.2.2.2.2).sub sbd2k3|exact (K2.weak fun _ h => h.2.2.2.2.2).sub sbd2k3|exact (K2.weak fun _ h => h.2.2.2.2.2.2).sub sbd2k3|exact (K2.weak fun _ h => h.2.2.2.2.2.2.2).sub sbd2k3|exact (K2.tail).sub sbd2k3|exact (K2.tail.weak fun _ h => h.2).sub sbd2k3|exact (K2.tail.weak fun _ h => h.2.2).sub sbd2k3|exact (K2.tail.weak fun _ h => h.2.2.2).sub sbd2k3|exact (K2.tail.weak fun _ h => h.2.2.2.2).sub sbd2k3|exact (K2.tail.weak fun _ h => h.2.2.2.2.2).sub sbd2k3|exact (K2.tail.weak fun _ h => h.2.2.2.2.2.2).sub sbd2k3|exact (K2.tail.weak fun _ h => h.2.2.2.2.2.2.2).sub sbd2k3) ?_;replace K := K2;clear hK' K' K2 hbel hx hA;(try clear ww);revert w2;intro ww K)|(refine held_do (fun K' hK' => ?_);go_simp;go_at_call 105;have zz := RS.out _ (HR2.out.below K.below);(with_reducible refine zz.mono ?_);clear zz;rintro e w2 ⟨Ar, cr, rfl, ⟨hx, hA⟩, hbel⟩;(try dsimp only);have hN2 := hA.mono K.size;have K2 := K.madeFr (noT_of rfl) hbel hx hA;refine hK' _ _ (by first|exact (K2).sub sbd2k3|exact (K2.weak fun _ h => h.2).sub sbd2k3|exact (K2.weak fun _ h => h.2.2).sub sbd2k3|exact (K2.weak fun _ h => h.2.2.2).sub sbd2k3|exact (K2.weak fun _ h => h.2.2.2.2).sub sbd2k3|exact (K2.weak fun _ h => h.2.2.2.2.2).sub sbd2k3|exact (K2.weak fun _ h => h.2.2.2.2.2.2).sub sbd2k3|exact (K2.weak fun _ h => h.2.2.2.2.2.2.2).sub sbd2k3|exact (K2.tail).sub sbd2k3|exact (K2.tail.weak fun _ h => h.2).sub sbd2k3|exact (K2.tail.weak fun _ h => h.2.2).sub sbd2k3|exact (K2.tail.weak fun _ h => h.2.2.2).sub sbd2k3|exact (K2.tail.weak fun _ h => h.2.2.2.2).sub sbd2k3|exact (K2.tail.weak fun _ h => h.2.2.2.2.2).sub sbd2k3|exact (K2.tail.weak fun _ h => h.2.2.2.2.2.2).sub sbd2k3|exact (K2.tail.weak fun _ h => h.2.2.2.2.2.2.2).sub sbd2k3) ?_;replace K := K2;clear hK' K' K2 hbel hx hA;(try clear ww);revert w2;intro ww K))
  refine held_nil ?_
  (try go_wp2_with fail)
  refine bodyPost_ret (K.resC2 rfl _ rfl rfl (At.tl At.hd) At.hd (by (with_reducible first|exact row51|exact row59|exact row88)) (by (solve|exact rfl|simp)) (by (with_reducible first|exact row51|exact row59|exact row88)) (by (solve|exact rfl|simp))) rfl ?_
  exact ⟨P2, Q2, m, Af, cf, Ar, cr, _, _, rfl, HB2.out, (show kd.tmod 5 < 2 → _ from fun h => absurd h (by rw [c14h.out]; decide)), .inl ⟨⟨K.fact.2.1, hN1⟩, ⟨K.fact.1, hN2⟩⟩, K.below⟩
set_option maxRecDepth 100000 in
set_option maxHeartbeats 8000000 in
theorem doDs17 (k p q n c c2 : Nat) (A A2 : Option Addr) (xs ys : List Nat) (r : OpRec) (w : World) (h : Fn w A n xs) (h2 : Fr w A2 n ys) (hb : Both k p q n xs ys) (hk : k ≤ 8) (hg : OpGood w r) (hkd : r.kd.tmod 5 = 3) (h4 : ¬ (p ≤ 4 ∧ q ≤ 4)) :
    Calls Try.prog 57 #[.agg #[.int .i64 p, .int .i64 q, .slice A n c], .agg #[.int .i64 p, .int .i64 q, .slice A2 n c2], .agg (opCells r)] w fun e w' => ∃ (p' q' n' : Nat) (A' : Option Addr) (c' : Nat) (A2' : Option Addr) (c2' : Nat) (xs' ys' : List Nat), e = .returned (.tuple #[.agg #[.int .i64 (p'), .int .i64 (q'), .slice A' n' c'], .agg #[.int .i64 (p'), .int .i64 (q'), .slice A2' n' c2']]) ∧ Both (k + 1) p' q' n' xs' ys' ∧ (r.kd.tmod 5 < 2 → p' = p ∧ q' = q ∧ n' = n) ∧ ((Fn w' A' n' xs' ∧ Nw w.heap.size A') ∧ (Fr w' A2' n' ys' ∧ Nw w.heap.size A2') ∨ (A' = A ∧ A2' = A2 ∧ n' = n ∧ xs' = xs ∧ ys' = ys)) ∧ Below w.heap.size w w' := by
  obtain ⟨kd, q0, la, ln, lc, ls, x, y, cw, ch⟩ := r
  dsimp only [opCells]
  have K := St.start w
  have HR := Lib.hid h
  have HR2 := Lib.hid h2
  have HB := Lib.hid hb
  have HG := Lib.hid hg
  have c14h : Hid (kd.tmod 5 = 3) := Lib.hid hkd
  have c15h : Hid (kd % 5 = 3) := Lib.hid (by rw [← Int.tmod_eq_emod_of_nonneg hg.kd.1]; exact hkd)
  have hlim := M17_lim (k := k) (by omega)
  have hbig := M17_big (k := k) (by omega)
  clear h h2 hb hg hkd hlim hbig
  by_cases hp4 : 4 < p
  · have t1 : decide (4 < p) = true := decide_eq_true hp4
    have t1' : decide (4 < (p : Int)) = true := decide_eq_true (by omega)
    have c14 := c14h.out
    have c15 := c15h.out
    go_enter Try.func57, Try.ntmps57
    go_wp2_with (first|go_big_skip|((with_reducible refine at_load ?_);first|(refine wm_load (cs := ?_) (t := ?_) (n := ?_) K rfl _ _ rfl rfl ?_ ?_ ?_ ?_;rotate_left 2;(repeat (first|exact At.hd|refine At.tl ?_));rotate_left;(with_reducible first|exact row51|exact row59|exact row88);(solve|exact rfl|simp))|(refine wm_own (cs := ?_) (t := ?_) (v := ?_) K rfl _ _ rfl rfl ?_ ?_ ?_ ?_;rotate_left 2;(repeat (first|exact At.hd|refine At.tl ?_));rotate_left;(first|exact rfl|assumption);(with_reducible first|exact one3|exact one5|exact one42|exact one57|exact one86))|(refine wm_cell (v := ?_) rfl _ _ rfl rfl ?_ ?_ ?_;rotate_left;(first|assumption|exact (K.below.cell (by assumption)).trans (by assumption));(with_reducible first|exact one3|exact one5|exact one42|exact one57|exact one86)))|((with_reducible refine at_store ?_);first|(refine wm_store (L' := ?_) (cs := ?_) (t := ?_) (n := ?_) K rfl _ _ _ rfl rfl rfl rfl ?_ ?_ ?_ ?_ ?_ ?_;rotate_left 3;(repeat (first|exact Put.hd|(refine Put.tl (L' := ?_) ?_;rotate_left)));rotate_left;(with_reducible first|exact row51|exact row59|exact row88);(solve|exact rfl|simp);(solve|exact rfl|simp);(solve|exact rfl|simp [Ones, Value.oneCell']);(try clear K);(try clear ww);intro ww K;(try simp [go_sem] at K))|(refine wm_put (L' := ?_) (cs := ?_) (new := ?_) (t := ?_) K rfl _ _ _ rfl rfl rfl rfl ?_ ?_ ?_ ?_ rfl rfl ?_;rotate_left 4;(repeat (first|exact Put.hd|(refine Put.tl (L' := ?_) ?_;rotate_left)));(solve|exact Nat.le_of_ble_eq_true rfl|decide|(simp only [List.size_toArray, nums_length];first|assumption|omega)|(simp only [List.size_toArray, nums_length, List.length_set];first|assumption|omega)|simp|omega|(simp only [List.size_toArray, nums_length];omega)|assumption);(solve|(simp only [List.setIfInBounds_toArray];exact rfl)|exact nums_set _ _ _ _|simp only [List.setIfInBounds_toArray, List.set_cons_zero]|simp only [List.setIfInBounds_toArray, List.set_cons_zero, List.set_cons_succ]|(simp only [List.setIfInBounds_toArray, List.set_cons_zero, List.set_cons_succ];exact rfl)|exact rfl);(with_reducible first|exact one3|exact one5|exact one42|exact one57|exact one86);(try clear K);(try clear ww);intro ww K;(try simp [go_sem] at K)))|(first|((with_reducible refine at_box ?_);refine wm_box K rfl _ _ rfl rfl rfl ?_;(try clear K);(try clear ww);(first|((fail_if_success (have _h := b3));intro b3 ww K)|((fail_if_success (have _h := b4));intro b4 ww K)|((fail_if_success (have _h := b5));intro b5 ww K)|((fail_if_success (have _h := b6));intro b6 ww K)|((fail_if_success (have _h := b7));intro b7 ww K));(try simp [go_sem, Value.cells] at K))|((with_reducible refine at_alloc ?_);refine wm_alloc (v := ?_) (cs := ?_) K rfl _ rfl ?_ ?_ ?_;rotate_left;(with_reducible first|exact zero51|exact zero88);rotate_left;exact rfl;(try clear K);(try clear ww);(first|((fail_if_success (have _h := b3));intro b3 ww K)|((fail_if_success (have _h := b4));intro b4 ww K)|((fail_if_success (have _h := b5));intro b5 ww K)|((fail_if_success (have _h := b6));intro b6 ww K)|((fail_if_success (have _h := b7));intro b7 ww K));(try simp [go_sem, Value.cells] at K))))
    clear c14 c15
    refine wm_held _ [(true, 0), (true, 1), (false, 2), (false, 3)] K sbd2k3 (by kernel_rfl) (by kernel_rfl) ?_; (try clear K); (try clear ww); intro ww K; (try simp [go_sem] at K); simp only [pick, List.getElem?_toArray, List.getElem?_cons_succ, List.getElem?_cons_zero]
    repeat (first|((with_reducible refine ht_load ?_);first|(refine hm_load (cs := ?_) (t := ?_) (n := ?_) rfl _ _ rfl rfl ?_ ?_ ?_ ?_;rotate_left 2;(repeat (first|exact At.hd|refine At.tl ?_));rotate_left;(with_reducible first|exact row51|exact row59|exact row88);(solve|exact rfl|simp))|(refine hm_own (cs := ?_) (t := ?_) (v := ?_) rfl _ _ rfl rfl ?_ ?_ ?_ ?_;rotate_left 2;(repeat (first|exact At.hd|refine At.tl ?_));rotate_left;(first|exact rfl|assumption);(with_reducible first|exact one3|exact one5|exact one42|exact one57|exact one86))|(refine hm_cell (v := ?_) rfl _ _ rfl rfl (fun ww K => ?_) ?_ ?_;rotate_left;(first|assumption|exact (K.below.cell (by assumption)).trans (by assumption));(with_reducible first|exact one3|exact one5|exact one42|exact one57|exact one86)))|(refine held_take (fun K' hK' => ?_);go_simp;first|(refine hK' _ ?_;clear hK' K')|(apply Exists.intro;refine ⟨?_, hK' _ ?_⟩;(intro _ _;rfl);clear hK' K'))|((with_reducible refine ht_store ?_);first|(refine hm_store (L' := ?_) (cs := ?_) (t := ?_) (n := ?_) K rfl _ _ _ rfl rfl rfl rfl ?_ ?_ ?_ ?_ ?_ ?_;rotate_left 3;(repeat (first|exact Put.hd|(refine Put.tl (L' := ?_) ?_;rotate_left)));rotate_left;(with_reducible first|exact row51|exact row59|exact row88);(solve|exact rfl|simp);(solve|exact rfl|simp);(solve|exact rfl|simp [Ones, Value.oneCell']);(try clear K);(try clear ww);intro ww K;(try simp [go_sem] at K);refine ⟨(by first|exact (K).sub sbd2k3|exact (K.weak fun _ h => h.2).sub sbd2k3|exact (K.weak fun _ h => h.2.2).sub sbd2k3|exact (K.weak fun _ h => h.2.2.2).sub sbd2k3|exact (K.weak fun _ h => h.2.2.2.2).sub sbd2k3|exact (K.weak fun _ h => h.2.2.2.2.2).sub sbd2k3|exact (K.weak fun _ h => h.2.2.2.2.2.2).sub sbd2k3|exact (K.weak fun _ h => h.2.2.2.2.2.2.2).sub sbd2k3|exact (K.tail).sub sbd2k3|exact (K.tail.weak fun _ h => h.2).sub sbd2k3|exact (K.tail.weak fun _ h => h.2.2).sub sbd2k3|exact (K.tail.weak fun _ h => h.2.2.2).sub sbd2k3|exact (K.tail.weak fun _ h => h.2.2.2.2).sub sbd2k3|exact (K.tail.weak fun _ h => h.2.2.2.2.2).sub sbd2k3|exact (K.tail.weak fun _ h => h.2.2.2.2.2.2).sub sbd2k3|exact (K.tail.weak fun _ h => h.2.2.2.2.2.2.2).sub sbd2k3), ?_⟩)|(refine hm_put (L' := ?_) (cs := ?_) (new := ?_) (t := ?_) K rfl _ _ _ rfl rfl rfl rfl ?_ ?_ ?_ ?_ rfl rfl ?_;rotate_left 4;(repeat (first|exact Put.hd|(refine Put.tl (L' := ?_) ?_;rotate_left)));(solve|exact Nat.le_of_ble_eq_true rfl|decide|(simp only [List.size_toArray, nums_length];first|assumption|omega)|(simp only [List.size_toArray, nums_length, List.length_set];first|assumption|omega)|simp|omega|(simp only [List.size_toArray, nums_length];omega)|assumption);(solve|(simp only [List.setIfInBounds_toArray];exact rfl)|exact nums_set _ _ _ _|simp only [List.setIfInBounds_toArray, List.set_cons_zero]|simp only [List.setIfInBounds_toArray, List.set_cons_zero, List.set_cons_succ]|(simp only [List.setIfInBounds_toArray, List.set_cons_zero, List.set_cons_succ];exact rfl)|exact rfl);(with_reducible first|exact one3|exact one5|exact one42|exact one57|exact one86);(try clear K);(try clear ww);intro ww K;(try simp [go_sem] at K);refine ⟨(by first|exact (K).sub sbd2k3|exact (K.weak fun _ h => h.2).sub sbd2k3|exact (K.weak fun _ h => h.2.2).sub sbd2k3|exact (K.weak fun _ h => h.2.2.2).sub sbd2k3|exact (K.weak fun _ h => h.2.2.2.2).sub sbd2k3|exact (K.weak fun _ h => h.2.2.2.2.2).sub sbd2k3|exact (K.weak fun _ h => h.2.2.2.2.2.2).sub sbd2k3|exact (K.weak fun _ h => h.2.2.2.2.2.2.2).sub sbd2k3|exact (K.tail).sub sbd2k3|exact (K.tail.weak fun _ h => h.2).sub sbd2k3|exact (K.tail.weak fun _ h => h.2.2).sub sbd2k3|exact (K.tail.weak fun _ h => h.2.2.2).sub sbd2k3|exact (K.tail.weak fun _ h => h.2.2.2.2).sub sbd2k3|exact (K.tail.weak fun _ h => h.2.2.2.2.2).sub sbd2k3|exact (K.tail.weak fun _ h => h.2.2.2.2.2.2).sub sbd2k3|exact (K.tail.weak fun _ h => h.2.2.2.2.2.2.2).sub sbd2k3), ?_⟩)))
    refine held_nil ?_
    (try go_wp2_with fail)
    refine bodyPost_ret (K.resC2 rfl _ rfl rfl (At.tl At.hd) At.hd (by (with_reducible first|exact row51|exact row59|exact row88)) (by (solve|exact rfl|simp)) (by (with_reducible first|exact row51|exact row59|exact row88)) (by (solve|exact rfl|simp))) rfl ?_
    exact ⟨p, q, n, A, c, A2, c2, _, _, rfl, HB.out.up, fun _ => ⟨rfl, rfl, rfl⟩, .inr ⟨rfl, rfl, rfl, rfl, rfl⟩, K.below⟩
  · have t1 : decide (4 < p) = false := decide_eq_false hp4
    have t1' : decide (4 < (p : Int)) = false := decide_eq_false (by omega)
    have t2 : decide (4 < q) = true := decide_eq_true (by omega)
    have t2' : decide (4 < (q : Int)) = true := decide_eq_true (by omega)
    have c14 := c14h.out
    have c15 := c15h.out
    go_enter Try.func57, Try.ntmps57
    go_wp2_with (first|go_big_skip|((with_reducible refine at_load ?_);first|(refine wm_load (cs := ?_) (t := ?_) (n := ?_) K rfl _ _ rfl rfl ?_ ?_ ?_ ?_;rotate_left 2;(repeat (first|exact At.hd|refine At.tl ?_));rotate_left;(with_reducible first|exact row51|exact row59|exact row88);(solve|exact rfl|simp))|(refine wm_own (cs := ?_) (t := ?_) (v := ?_) K rfl _ _ rfl rfl ?_ ?_ ?_ ?_;rotate_left 2;(repeat (first|exact At.hd|refine At.tl ?_));rotate_left;(first|exact rfl|assumption);(with_reducible first|exact one3|exact one5|exact one42|exact one57|exact one86))|(refine wm_cell (v := ?_) rfl _ _ rfl rfl ?_ ?_ ?_;rotate_left;(first|assumption|exact (K.below.cell (by assumption)).trans (by assumption));(with_reducible first|exact one3|exact one5|exact one42|exact one57|exact one86)))|((with_reducible refine at_store ?_);first|(refine wm_store (L' := ?_) (cs := ?_) (t := ?_) (n := ?_) K rfl _ _ _ rfl rfl rfl rfl ?_ ?_ ?_ ?_ ?_ ?_;rotate_left 3;(repeat (first|exact Put.hd|(refine Put.tl (L' := ?_) ?_;rotate_left)));rotate_left;(with_reducible first|exact row51|exact row59|exact row88);(solve|exact rfl|simp);(solve|exact rfl|simp);(solve|exact rfl|simp [Ones, Value.oneCell']);(try clear K);(try clear ww);intro ww K;(try simp [go_sem] at K))|(refine wm_put (L' := ?_) (cs := ?_) (new := ?_) (t := ?_) K rfl _ _ _ rfl rfl rfl rfl ?_ ?_ ?_ ?_ rfl rfl ?_;rotate_left 4;(repeat (first|exact Put.hd|(refine Put.tl (L' := ?_) ?_;rotate_left)));(solve|exact Nat.le_of_ble_eq_true rfl|decide|(simp only [List.size_toArray, nums_length];first|assumption|omega)|(simp only [List.size_toArray, nums_length, List.length_set];first|assumption|omega)|simp|omega|(simp only [List.size_toArray, nums_length];omega)|assumption);(solve|(simp only [List.setIfInBounds_toArray];exact rfl)|exact nums_set _ _ _ _|simp only [List.setIfInBounds_toArray, List.set_cons_zero]|simp only [List.setIfInBounds_toArray, List.set_cons_zero, List.set_cons_succ]|(simp only [List.setIfInBounds_toArray, List.set_cons_zero, List.set_cons_succ];exact rfl)|exact rfl);(with_reducible first|exact one3|exact one5|exact one42|exact one57|exact one86);(try clear K);(try clear ww);intro ww K;(try simp [go_sem] at K)))|(first|((with_reducible refine at_box ?_);refine wm_box K rfl _ _ rfl rfl rfl ?_;(try clear K);(try clear ww);(first|((fail_if_success (have _h := b3));intro b3 ww K)|((fail_if_success (have _h := b4));intro b4 ww K)|((fail_if_success (have _h := b5));intro b5 ww K)|((fail_if_success (have _h := b6));intro b6 ww K)|((fail_if_success (have _h := b7));intro b7 ww K));(try simp [go_sem, Value.cells] at K))|((with_reducible refine at_alloc ?_);refine wm_alloc (v := ?_) (cs := ?_) K rfl _ rfl ?_ ?_ ?_;rotate_left;(with_reducible first|exact zero51|exact zero88);rotate_left;exact rfl;(try clear K);(try clear ww);(first|((fail_if_success (have _h := b3));intro b3 ww K)|((fail_if_success (have _h := b4));intro b4 ww K)|((fail_if_success (have _h := b5));intro b5 ww K)|((fail_if_success (have _h := b6));intro b6 ww K)|((fail_if_success (have _h := b7));intro b7 ww K));(try simp [go_sem, Value.cells] at K))))
    clear c14 c15
    refine wm_held _ [(true, 0), (true, 1), (false, 2), (false, 3)] K sbd2k3 (by kernel_rfl) (by kernel_rfl) ?_; (try clear K); (try clear ww); intro ww K; (try simp [go_sem] at K); simp only [pick, List.getElem?_toArray, List.getElem?_cons_succ, List.getElem?_cons_zero]
    repeat (first|((with_reducible refine ht_load ?_);first|(refine hm_load (cs := ?_) (t := ?_) (n := ?_) rfl _ _ rfl rfl ?_ ?_ ?_ ?_;rotate_left 2;(repeat (first|exact At.hd|refine At.tl ?_));rotate_left;(with_reducible first|exact row51|exact row59|exact row88);(solve|exact rfl|simp))|(refine hm_own (cs := ?_) (t := ?_) (v := ?_) rfl _ _ rfl rfl ?_ ?_ ?_ ?_;rotate_left 2;(repeat (first|exact At.hd|refine At.tl ?_));rotate_left;(first|exact rfl|assumption);(with_reducible first|exact one3|exact one5|exact one42|exact one57|exact one86))|(refine hm_cell (v := ?_) rfl _ _ rfl rfl (fun ww K => ?_) ?_ ?_;rotate_left;(first|assumption|exact (K.below.cell (by assumption)).trans (by assumption));(with_reducible first|exact one3|exact one5|exact one42|exact one57|exact one86)))|(refine held_take (fun K' hK' => ?_);go_simp;first|(refine hK' _ ?_;clear hK' K')|(apply Exists.intro;refine ⟨?_, hK' _ ?_⟩;(intro _ _;rfl);clear hK' K'))|((with_reducible refine ht_store ?_);first|(refine hm_store (L' := ?_) (cs := ?_) (t := ?_) (n := ?_) K rfl _ _ _ rfl rfl rfl rfl ?_ ?_ ?_ ?_ ?_ ?_;rotate_left 3;(repeat (first|exact Put.hd|(refine Put.tl (L' := ?_) ?_;rotate_left)));rotate_left;(with_reducible first|exact row51|exact row59|exact row88);(solve|exact rfl|simp);(solve|exact rfl|simp);(solve|exact rfl|simp [Ones, Value.oneCell']);(try clear K);(try clear ww);intro ww K;(try simp [go_sem] at K);refine ⟨(by first|exact (K).sub sbd2k3|exact (K.weak fun _ h => h.2).sub sbd2k3|exact (K.weak fun _ h => h.2.2).sub sbd2k3|exact (K.weak fun _ h => h.2.2.2).sub sbd2k3|exact (K.weak fun _ h => h.2.2.2.2).sub sbd2k3|exact (K.weak fun _ h => h.2.2.2.2.2).sub sbd2k3|exact (K.weak fun _ h => h.2.2.2.2.2.2).sub sbd2k3|exact (K.weak fun _ h => h.2.2.2.2.2.2.2).sub sbd2k3|exact (K.tail).sub sbd2k3|exact (K.tail.weak fun _ h => h.2).sub sbd2k3|exact (K.tail.weak fun _ h => h.2.2).sub sbd2k3|exact (K.tail.weak fun _ h => h.2.2.2).sub sbd2k3|exact (K.tail.weak fun _ h => h.2.2.2.2).sub sbd2k3|exact (K.tail.weak fun _ h => h.2.2.2.2.2).sub sbd2k3|exact (K.tail.weak fun _ h => h.2.2.2.2.2.2).sub sbd2k3|exact (K.tail.weak fun _ h => h.2.2.2.2.2.2.2).sub sbd2k3), ?_⟩)|(refine hm_put (L' := ?_) (cs := ?_) (new := ?_) (t := ?_) K rfl _ _ _ rfl rfl rfl rfl ?_ ?_ ?_ ?_ rfl rfl ?_;rotate_left 4;(repeat (first|exact Put.hd|(refine Put.tl (L' := ?_) ?_;rotate_left)));(solve|exact Nat.le_of_ble_eq_true rfl|decide|(simp only [List.size_toArray, nums_length];first|assumption|omega)|(simp only [List.size_toArray, nums_length, List.length_set];first|assumption|omega)|simp|omega|(simp only [List.size_toArray, nums_length];omega)|assumption);(solve|(simp only [List.setIfInBounds_toArray];exact rfl)|exact nums_set _ _ _ _|simp only [List.setIfInBounds_toArray, List.set_cons_zero]|simp only [List.setIfInBounds_toArray, List.set_cons_zero, List.set_cons_succ]|(simp only [List.setIfInBounds_toArray, List.set_cons_zero, List.set_cons_succ];exact rfl)|exact rfl);(with_reducible first|exact one3|exact one5|exact one42|exact one57|exact one86);(try clear K);(try clear ww);intro ww K;(try simp [go_sem] at K);refine ⟨(by first|exact (K).sub sbd2k3|exact (K.weak fun _ h => h.2).sub sbd2k3|exact (K.weak fun _ h => h.2.2).sub sbd2k3|exact (K.weak fun _ h => h.2.2.2).sub sbd2k3|exact (K.weak fun _ h => h.2.2.2.2).sub sbd2k3|exact (K.weak fun _ h => h.2.2.2.2.2).sub sbd2k3|exact (K.weak fun _ h => h.2.2.2.2.2.2).sub sbd2k3|exact (K.weak fun _ h => h.2.2.2.2.2.2.2).sub sbd2k3|exact (K.tail).sub sbd2k3|exact (K.tail.weak fun _ h => h.2).sub sbd2k3|exact (K.tail.weak fun _ h => h.2.2).sub sbd2k3|exact (K.tail.weak fun _ h => h.2.2.2).sub sbd2k3|exact (K.tail.weak fun _ h => h.2.2.2.2).sub sbd2k3|exact (K.tail.weak fun _ h => h.2.2.2.2.2).sub sbd2k3|exact (K.tail.weak fun _ h => h.2.2.2.2.2.2).sub sbd2k3|exact (K.tail.weak fun _ h => h.2.2.2.2.2.2.2).sub sbd2k3), ?_⟩)))
    refine held_nil ?_
    (try go_wp2_with fail)
    refine bodyPost_ret (K.resC2 rfl _ rfl rfl (At.tl At.hd) At.hd (by (with_reducible first|exact row51|exact row59|exact row88)) (by (solve|exact rfl|simp)) (by (with_reducible first|exact row51|exact row59|exact row88)) (by (solve|exact rfl|simp))) rfl ?_
    exact ⟨p, q, n, A, c, A2, c2, _, _, rfl, HB.out.up, fun _ => ⟨rfl, rfl, rfl⟩, .inr ⟨rfl, rfl, rfl, rfl, rfl⟩, K.below⟩
set_option maxRecDepth 100000 in
set_option maxHeartbeats 8000000 in
theorem doE17 (k p q n c c2 : Nat) (A A2 : Option Addr) (xs ys : List Nat) (r : OpRec) (w : World) (h : Fn w A n xs) (h2 : Fr w A2 n ys) (hb : Both k p q n xs ys) (hk : k ≤ 8) (hg : OpGood w r) (hkd : r.kd.tmod 5 = 4) (h4 : p % 2 = 0 ∧ q % 2 = 0) :
    Calls Try.prog 57 #[.agg #[.int .i64 p, .int .i64 q, .slice A n c], .agg #[.int .i64 p, .int .i64 q, .slice A2 n c2], .agg (opCells r)] w fun e w' => ∃ (p' q' n' : Nat) (A' : Option Addr) (c' : Nat) (A2' : Option Addr) (c2' : Nat) (xs' ys' : List Nat), e = .returned (.tuple #[.agg #[.int .i64 (p'), .int .i64 (q'), .slice A' n' c'], .agg #[.int .i64 (p'), .int .i64 (q'), .slice A2' n' c2']]) ∧ Both (k + 1) p' q' n' xs' ys' ∧ (r.kd.tmod 5 < 2 → p' = p ∧ q' = q ∧ n' = n) ∧ ((Fn w' A' n' xs' ∧ Nw w.heap.size A') ∧ (Fr w' A2' n' ys' ∧ Nw w.heap.size A2') ∨ (A' = A ∧ A2' = A2 ∧ n' = n ∧ xs' = xs ∧ ys' = ys)) ∧ Below w.heap.size w w' := by
  obtain ⟨kd, q0, la, ln, lc, ls, x, y, cw, ch⟩ := r
  dsimp only [opCells]
  have K := St.start w
  have HR := Lib.hid h
  have HR2 := Lib.hid h2
  have HB := Lib.hid hb
  have HG := Lib.hid hg
  have c14h : Hid (kd.tmod 5 = 4) := Lib.hid hkd
  have c15h : Hid (kd % 5 = 4) := Lib.hid (by rw [← Int.tmod_eq_emod_of_nonneg hg.kd.1]; exact hkd)
  have hlim := M17_lim (k := k) (by omega)
  have hbig := M17_big (k := k) (by omega)
  obtain ⟨m1, hm1⟩ : ∃ m1, p = 2 * m1 := ⟨p / 2, by omega⟩
  obtain ⟨q1, hq1⟩ : ∃ q1, q = 2 * q1 := ⟨q / 2, by omega⟩
  have hpb := hb.hp
  have hqb := hb.hq
  have hnI : p * q = n := by rw [Nat.mul_comm, hb.hn]
  have c0h : Hid ((p : Int).tmod 2 = 0) := Lib.hid (by rw [Int.tmod_eq_emod_of_nonneg (by omega)]; omega)
  have c1h : Hid ((q : Int).tmod 2 = 0) := Lib.hid (by rw [Int.tmod_eq_emod_of_nonneg (by omega)]; omega)
  have PS := Lib.hid (fun (w : World) (h : Fn w A n xs) => Join17 p q m1 q1 (m1 * q1) n c (M17 k) A xs w h hb.xb (M17_pos k) (lim_pieces hlim).2.2.1 hnI hm1 hq1 (by omega) (by omega) rfl)
  have RS := Lib.hid (fun (w : World) (h : Fr w A2 n ys) => RJoin17 p q m1 q1 (m1 * q1) n c2 (M17 k) A2 ys w h hb.bd (M17_pos k) (lim_pieces hbig).2.2.2.1 hnI hm1 hq1 (by omega) (by omega) rfl)
  have HB2 := Lib.hid (hb.join hm1 hq1 rfl)
  generalize m1 * q1 = n4 at *
  clear h h2 hb hg hkd hlim hbig hnI h4 hm1 hq1 hpb hqb
  have c14 := c14h.out
  have c15 := c15h.out
  have c0 := c0h.out
  have c1 := c1h.out
  go_enter Try.func57, Try.ntmps57
  go_wp2_with (first|go_big_skip|((with_reducible refine at_load ?_);first|(refine wm_load (cs := ?_) (t := ?_) (n := ?_) K rfl _ _ rfl rfl ?_ ?_ ?_ ?_;rotate_left 2;(repeat (first|exact At.hd|refine At.tl ?_));rotate_left;(with_reducible first|exact row51|exact row59|exact row88);(solve|exact rfl|simp))|(refine wm_own (cs := ?_) (t := ?_) (v := ?_) K rfl _ _ rfl rfl ?_ ?_ ?_ ?_;rotate_left 2;(repeat (first|exact At.hd|refine At.tl ?_));rotate_left;(first|exact rfl|assumption);(with_reducible first|exact one3|exact one5|exact one42|exact one57|exact one86))|(refine wm_cell (v := ?_) rfl _ _ rfl rfl ?_ ?_ ?_;rotate_left;(first|assumption|exact (K.below.cell (by assumption)).trans (by assumption));(with_reducible first|exact one3|exact one5|exact one42|exact one57|exact one86)))|((with_reducible refine at_store ?_);first|(refine wm_store (L' := ?_) (cs := ?_) (t := ?_) (n := ?_) K rfl _ _ _ rfl rfl rfl rfl ?_ ?_ ?_ ?_ ?_ ?_;rotate_left 3;(repeat (first|exact Put.hd|(refine Put.tl (L' := ?_) ?_;rotate_left)));rotate_left;(with_reducible first|exact row51|exact row59|exact row88);(solve|exact rfl|simp);(solve|exact rfl|simp);(solve|exact rfl|simp [Ones, Value.oneCell']);(try clear K);(try clear ww);intro ww K;(try simp [go_sem] at K))|(refine wm_put (L' := ?_) (cs := ?_) (new := ?_) (t := ?_) K rfl _ _ _ rfl rfl rfl rfl ?_ ?_ ?_ ?_ rfl rfl ?_;rotate_left 4;(repeat (first|exact Put.hd|(refine Put.tl (L' := ?_) ?_;rotate_left)));(solve|exact Nat.le_of_ble_eq_true rfl|decide|(simp only [List.size_toArray, nums_length];first|assumption|omega)|(simp only [List.size_toArray, nums_length, List.length_set];first|assumption|omega)|simp|omega|(simp only [List.size_toArray, nums_length];omega)|assumption);(solve|(simp only [List.setIfInBounds_toArray];exact rfl)|exact nums_set _ _ _ _|simp only [List.setIfInBounds_toArray, List.set_cons_zero]|simp only [List.setIfInBounds_toArray, List.set_cons_zero, List.set_cons_succ]|(simp only [List.setIfInBounds_toArray, List.set_cons_zero, List.set_cons_succ];exact rfl)|exact rfl);(with_reducible first|exact one3|exact one5|exact one42|exact one57|exact one86);(try clear K);(try clear ww);intro ww K;(try simp [go_sem] at K)))|(first|((with_reducible refine at_box ?_);refine wm_box K rfl _ _ rfl rfl rfl ?_;(try clear K);(try clear ww);(first|((fail_if_success (have _h := b3));intro b3 ww K)|((fail_if_success (have _h := b4));intro b4 ww K)|((fail_if_success (have _h := b5));intro b5 ww K)|((fail_if_success (have _h := b6));intro b6 ww K)|((fail_if_success (have _h := b7));intro b7 ww K));(try simp [go_sem, Value.cells] at K))|((with_reducible refine at_alloc ?_);refine wm_alloc (v := ?_) (cs := ?_) K rfl _ rfl ?_ ?_ ?_;rotate_left;(with_reducible first|exact zero51|exact zero88);rotate_left;exact rfl;(try clear K);(try clear ww);(first|((fail_if_success (have _h := b3));intro b3 ww K)|((fail_if_success (have _h := b4));intro b4 ww K)|((fail_if_success (have _h := b5));intro b5 ww K)|((fail_if_success (have _h := b6));intro b6 ww K)|((fail_if_success (have _h := b7));intro b7 ww K));(try simp [go_sem, Value.cells] at K))))
  clear c14 c15 c0 c1
  refine wm_held _ [(true, 0), (true, 2), (false, 1), (false, 3), (false, 4), (false, 5)] K sbd2k3 (by kernel_rfl) (by kernel_rfl) ?_; (try clear K); (try clear ww); intro ww K; (try simp [go_sem] at K); simp only [pick, List.getElem?_toArray, List.getElem?_cons_succ, List.getElem?_cons_zero]
  repeat (first|((with_reducible refine ht_load ?_);first|(refine hm_load (cs := ?_) (t := ?_) (n := ?_) rfl _ _ rfl rfl ?_ ?_ ?_ ?_;rotate_left 2;(repeat (first|exact At.hd|refine At.tl ?_));rotate_left;(with_reducible first|exact row51|exact row59|exact row88);(solve|exact rfl|simp))|(refine hm_own (cs := ?_) (t := ?_) (v := ?_) rfl _ _ rfl rfl ?_ ?_ ?_ ?_;rotate_left 2;(repeat (first|exact At.hd|refine At.tl ?_));rotate_left;(first|exact rfl|assumption);(with_reducible first|exact one3|exact one5|exact one42|exact one57|exact one86))|(refine hm_cell (v := ?_) rfl _ _ rfl rfl (fun ww K => ?_) ?_ ?_;rotate_left;(first|assumption|exact (K.below.cell (by assumption)).trans (by assumption));(with_reducible first|exact one3|exact one5|exact one42|exact one57|exact one86)))|(refine held_take (fun K' hK' => ?_);go_simp;first|(refine hK' _ ?_;clear hK' K')|(apply Exists.intro;refine ⟨?_, hK' _ ?_⟩;(intro _ _;rfl);clear hK' K'))|((with_reducible refine ht_store ?_);first|(refine hm_store (L' := ?_) (cs := ?_) (t := ?_) (n := ?_) K rfl _ _ _ rfl rfl rfl rfl ?_ ?_ ?_ ?_ ?_ ?_;rotate_left 3;(repeat (first|exact Put.hd|(refine Put.tl (L' := ?_) ?_;rotate_left)));rotate_left;(with_reducible first|exact row51|exact row59|exact row88);(solve|exact rfl|simp);(solve|exact rfl|simp);(solve|exact rfl|simp [Ones, Value.oneCell']);(try clear K);(try clear ww);intro ww K;(try simp [go_sem] at K);refine ⟨(by first|exact (K).sub sbd2k3|exact (K.weak fun _ h => h.2).sub sbd2k3|exact (K.weak fun _ h => h.2.2).sub sbd2k3|exact (K.weak fun _ h => h.2.2.2).sub sbd2k3|exact (K.weak fun _ h => h.2.2.2.2).sub sbd2k3|exact (K.weak fun _ h => h.2.2.2.2.2).sub sbd2k3|exact (K.weak fun _ h => h.2.2.2.2.2.2).sub sbd2k3|exact (K.weak fun _ h => h.2.2.2.2.2.2.2).sub sbd2k3|exact (K.tail).sub sbd2k3|exact (K.tail.weak fun _ h => h.2).sub sbd2k3|exact (K.tail.weak fun _ h => h.2.2).sub sbd2k3|exact (K.tail.weak fun _ h => h.2.2.2).sub sbd2k3|exact (K.tail.weak fun _ h => h.2.2.2.2).sub sbd2k3|exact (K.tail.weak fun _ h => h.2.2.2.2.2).sub sbd2k3|exact (K.tail.weak fun _ h => h.2.2.2.2.2.2).sub sbd2k3|exact (K.tail.weak fun _ h => h.2.2.2.2.2.2.2).sub sbd2k3), ?_⟩)|(refine hm_put (L' := ?_) (cs := ?_) (new := ?_) (t := ?_) K rfl _ _ _ rfl rfl rfl rfl ?_ ?_ ?_ ?_ rfl rfl ?_;rotate_left 4;(repeat (first|exact Put.hd|(refine Put.tl (L' := ?_) ?_;rotate_left)));(solve|exact Nat.le_of_ble_eq_true rfl|decide|(simp only [List.size_toArray, nums_length];first|assumption|omega)|(simp only [List.size_toArray, nums_length, List.length_set];first|assumption|omega)|simp|omega|(simp only [List.size_toArray, nums_length];omega)|assumption);(solve|(simp only [List.setIfInBounds_toArray];exact rfl)|exact nums_set _ _ _ _|simp only [List.setIfInBounds_toArray, List.set_cons_zero]|simp only [List.setIfInBounds_toArray, List.set_cons_zero, List.set_cons_succ]|(simp only [List.setIfInBounds_toArray, List.set_cons_zero, List.set_cons_succ];exact rfl)|exact rfl);(with_reducible first|exact one3|exact one5|exact one42|exact one57|exact one86);(try clear K);(try clear ww);intro ww K;(try simp [go_sem] at K);refine ⟨(by first|exact (K).sub sbd2k3|exact (K.weak fun _ h => h.2).sub sbd2k3|exact (K.weak fun _ h => h.2.2).sub sbd2k3|exact (K.weak fun _ h => h.2.2.2).sub sbd2k3|exact (K.weak fun _ h => h.2.2.2.2).sub sbd2k3|exact (K.weak fun _ h => h.2.2.2.2.2).sub sbd2k3|exact (K.weak fun _ h => h.2.2.2.2.2.2).sub sbd2k3|exact (K.weak fun _ h => h.2.2.2.2.2.2.2).sub sbd2k3|exact (K.tail).sub sbd2k3|exact (K.tail.weak fun _ h => h.2).sub sbd2k3|exact (K.tail.weak fun _ h => h.2.2).sub sbd2k3|exact (K.tail.weak fun _ h => h.2.2.2).sub sbd2k3|exact (K.tail.weak fun _ h => h.2.2.2.2).sub sbd2k3|exact (K.tail.weak fun _ h => h.2.2.2.2.2).sub sbd2k3|exact (K.tail.weak fun _ h => h.2.2.2.2.2.2).sub sbd2k3|exact (K.tail.weak fun _ h => h.2.2.2.2.2.2.2).sub sbd2k3), ?_⟩))|(refine held_do (fun K' hK' => ?_);go_simp;go_at_call 71;have zz := PS.out _ (HR.out.below K.below);(with_reducible refine zz.mono ?_);clear zz;rintro e w2 ⟨Af, cf, rfl, ⟨hx, hA⟩, hbel⟩;(try dsimp only);have hN1 := hA.mono K.size;have K2 := K.madeFn (noT_of rfl) hbel hx hA;refine hK' _ _ (by first|exact (K2).sub sbd2k3|exact (K2.weak fun _ h => h.2).sub sbd2k3|exact (K2.weak fun _ h => h.2.2).sub sbd2k3|exact (K2.weak fun _ h => h.2.2.2).sub sbd2k3|exact (K2.weak fun _ h => h.2.2.2.2).sub sbd2k3|exact (K2.weak fun _ h => h.2.2.2.2.2).sub sbd2k3|exact (K2.weak fun _ h => h.2.2.2.2.2.2).sub sbd2k3|exact (K2.weak fun _ h => h.2.2.2.2.2.2.2).sub sbd2k3|exact (K2.tail).sub sbd2k3|exact (K2.tail.weak fun _ h => h.2).sub sbd2k3|exact (K2.tail.weak fun _ h => h.2.2).sub sbd2k3|exact (K2.tail.weak fun _ h => h.2.2.2).sub sbd2k3|exact (K2.tail.weak fun _ h => h.2.2.2.2).sub sbd2k3|exact (K2.tail.weak fun _ h => h.2.2.2.2.2).sub sbd2k3|exact (K2.tail.weak fun _ h => h.2.2.2.2.2.2).sub sbd2k3|exact (K2.tail.weak fun _ h => h.2.2.2.2.2.2.2).sub sbd2k3) ?_;replace K := K2;clear hK' K' K2 hbel hx hA;(try clear ww);revert w2;intro ww K)|(refine held_do (fun K' hK' => ?_);go_simp;go_at_call 106;have zz := RS.out _ (HR2.out.below K.below);(with_reducible refine zz.mono ?_);clear zz;rintro e w2 ⟨Ar, cr, rfl, ⟨hx, hA⟩, hbel⟩;(try dsimp only);have hN2 := hA.mono K.size;have K2 := K.madeFr (noT_of rfl) hbel hx hA;refine hK' _ _ (by first|exact (K2).sub sbd2k3|exact (K2.weak fun _ h => h.2).sub sbd2k3|exact (K2.weak fun _ h => h.2.2).sub sbd2k3|exact (K2.weak fun _ h => h.2.2.2).sub sbd2k3|exact (K2.weak fun _ h => h.2.2.2.2).sub sbd2k3|exact (K2.weak fun _ h => h.2.2.2.2.2).sub sbd2k3|exact (K2.weak fun _ h => h.2.2.2.2.2.2).sub sbd2k3|exact (K2.weak fun _ h => h.2.2.2.2.2.2.2).sub sbd2k3|exact (K2.tail).sub sbd2k3|exact (K2.tail.weak fun _ h => h.2).sub sbd2k3|exact (K2.tail.weak fun _ h => h.2.2).sub sbd2k3|exact (K2.tail.weak fun _ h => h.2.2.2).sub sbd2k3|exact (K2.tail.weak fun _ h => h.2.2.2.2).sub sbd2k3|exact (K2.tail.weak fun _ h => h.2.2.2.2.2).sub sbd2k3|exact (K2.tail.weak fun _ h => h.2.2.2.2.2.2).sub sbd2k3|exact (K2.tail.weak fun _ h => h.2.2.2.2.2.2.2).sub sbd2k3) ?_;replace K := K2;clear hK' K' K2 hbel hx hA;(try clear ww);revert w2;intro ww K))
  refine held_nil ?_
  (try go_wp2_with fail)
  refine bodyPost_ret (K.resC2 rfl _ rfl rfl (At.tl At.hd) At.hd (by (with_reducible first|exact row51|exact row59|exact row88)) (by (solve|exact rfl|simp)) (by (with_reducible first|exact row51|exact row59|exact row88)) (by (solve|exact rfl|simp))) rfl ?_
  exact ⟨m1, q1, n4, Af, cf, Ar, cr, _, _, rfl, HB2.out, (show kd.tmod 5 < 2 → _ from fun h => absurd h (by rw [c14h.out]; decide)), .inl ⟨⟨K.fact.2.1, hN1⟩, ⟨K.fact.1, hN2⟩⟩, K.below⟩
set_option maxRecDepth 100000 in
set_option maxHeartbeats 8000000 in
theorem doEs17 (k p q n c c2 : Nat) (A A2 : Option Addr) (xs ys : List Nat) (r : OpRec) (w : World) (h : Fn w A n xs) (h2 : Fr w A2 n ys) (hb : Both k p q n xs ys) (hk : k ≤ 8) (hg : OpGood w r) (hkd : r.kd.tmod 5 = 4) (h4 : ¬ (p % 2 = 0 ∧ q % 2 = 0)) :
    Calls Try.prog 57 #[.agg #[.int .i64 p, .int .i64 q, .slice A n c], .agg #[.int .i64 p, .int .i64 q, .slice A2 n c2], .agg (opCells r)] w fun e w' => ∃ (p' q' n' : Nat) (A' : Option Addr) (c' : Nat) (A2' : Option Addr) (c2' : Nat) (xs' ys' : List Nat), e = .returned (.tuple #[.agg #[.int .i64 (p'), .int .i64 (q'), .slice A' n' c'], .agg #[.int .i64 (p'), .int .i64 (q'), .slice A2' n' c2']]) ∧ Both (k + 1) p' q' n' xs' ys' ∧ (r.kd.tmod 5 < 2 → p' = p ∧ q' = q ∧ n' = n) ∧ ((Fn w' A' n' xs' ∧ Nw w.heap.size A') ∧ (Fr w' A2' n' ys' ∧ Nw w.heap.size A2') ∨ (A' = A ∧ A2' = A2 ∧ n' = n ∧ xs' = xs ∧ ys' = ys)) ∧ Below w.heap.size w w' := by
  obtain ⟨kd, q0, la, ln, lc, ls, x, y, cw, ch⟩ := r
  dsimp only [opCells]
  have K := St.start w
  have HR := Lib.hid h
  have HR2 := Lib.hid h2
  have HB := Lib.hid hb
  have HG := Lib.hid hg
  have c14h : Hid (kd.tmod 5 = 4) := Lib.hid hkd
  have c15h : Hid (kd % 5 = 4) := Lib.hid (by rw [← Int.tmod_eq_emod_of_nonneg hg.kd.1]; exact hkd)
  have hlim := M17_lim (k := k) (by omega)
  have hbig := M17_big (k := k) (by omega)
  clear h h2 hb hg hkd hlim hbig
  by_cases hp4 : p % 2 = 0
  · have c0h : Hid ((p : Int).tmod 2 = 0) := Lib.hid (by rw [Int.tmod_eq_emod_of_nonneg (by omega)]; omega)
    have c1h : Hid ((q : Int).tmod 2 = 1) := Lib.hid (by rw [Int.tmod_eq_emod_of_nonneg (by omega)]; omega)
    have c14 := c14h.out
    have c15 := c15h.out
    have c0 := c0h.out
    have c1 := c1h.out
    go_enter Try.func57, Try.ntmps57
    go_wp2_with (first|go_big_skip|((with_reducible refine at_load ?_);first|(refine wm_load (cs := ?_) (t := ?_) (n := ?_) K rfl _ _ rfl rfl ?_ ?_ ?_ ?_;rotate_left 2;(repeat (first|exact At.hd|refine At.tl ?_));rotate_left;(with_reducible first|exact row51|exact row59|exact row88);(solve|exact rfl|simp))|(refine wm_own (cs := ?_) (t := ?_) (v := ?_) K rfl _ _ rfl rfl ?_ ?_ ?_ ?_;rotate_left 2;(repeat (first|exact At.hd|refine At.tl ?_));rotate_left;(first|exact rfl|assumption);(with_reducible first|exact one3|exact one5|exact one42|exact one57|exact one86))|(refine wm_cell (v := ?_) rfl _ _ rfl rfl ?_ ?_ ?_;rotate_left;(first|assumption|exact (K.below.cell (by assumption)).trans (by assumption));(with_reducible first|exact one3|exact one5|exact one42|exact one57|exact one86)))|((with_reducible refine at_store ?_);first|(refine wm_store (L' := ?_) (cs := ?_) (t := ?_) (n := ?_) K rfl _ _ _ rfl rfl rfl rfl ?_ ?_ ?_ ?_ ?_ ?_;rotate_left 3;(repeat (first|exact Put.hd|(refine Put.tl (L' := ?_) ?_;rotate_left)));rotate_left;(with_reducible first|exact row51|exact row59|exact row88);(solve|exact rfl|simp);(solve|exact rfl|simp);(solve|exact rfl|simp [Ones, Value.oneCell']);(try clear K);(try clear ww);intro ww K;(try simp [go_sem] at K))|(refine wm_put (L' := ?_) (cs := ?_) (new := ?_) (t := ?_) K rfl _ _ _ rfl rfl rfl rfl ?_ ?_ ?_ ?_ rfl rfl ?_;rotate_left 4;(repeat (first|exact Put.hd|(refine Put.tl (L' := ?_) ?_;rotate_left)));(solve|exact Nat.le_of_ble_eq_true rfl|decide|(simp only [List.size_toArray, nums_length];first|assumption|omega)|(simp only [List.size_toArray, nums_length, List.length_set];first|assumption|omega)|simp|omega|(simp only [List.size_toArray, nums_length];omega)|assumption);(solve|(simp only [List.setIfInBounds_toArray];exact rfl)|exact nums_set _ _ _ _|simp only [List.setIfInBounds_toArray, List.set_cons_zero]|simp only [List.setIfInBounds_toArray, List.set_cons_zero, List.set_cons_succ]|(simp only [List.setIfInBounds_toArray, List.set_cons_zero, List.set_cons_succ];exact rfl)|exact rfl);(with_reducible first|exact one3|exact one5|exact one42|exact one57|exact one86);(try clear K);(try clear ww);intro ww K;(try simp [go_sem] at K)))|(first|((with_reducible refine at_box ?_);refine wm_box K rfl _ _ rfl rfl rfl ?_;(try clear K);(try clear ww);(first|((fail_if_success (have _h := b3));intro b3 ww K)|((fail_if_success (have _h := b4));intro b4 ww K)|((fail_if_success (have _h := b5));intro b5 ww K)|((fail_if_success (have _h := b6));intro b6 ww K)|((fail_if_success (have _h := b7));intro b7 ww K));(try simp [go_sem, Value.cells] at K))|((with_reducible refine at_alloc ?_);refine wm_alloc (v := ?_) (cs := ?_) K rfl _ rfl ?_ ?_ ?_;rotate_left;(with_reducible first|exact zero51|exact zero88);rotate_left;exact rfl;(try clear K);(try clear ww);(first|((fail_if_success (have _h := b3));intro b3 ww K)|((fail_if_success (have _h := b4));intro b4 ww K)|((fail_if_success (have _h := b5));intro b5 ww K)|((fail_if_success (have _h := b6));intro b6 ww K)|((fail_if_success (have _h := b7));intro b7 ww K));(try simp [go_sem, Value.cells] at K))))
    clear c14 c15 c0 c1
    refine wm_held _ [(true, 0), (true, 1), (false, 2), (false, 3)] K sbd2k3 (by kernel_rfl) (by kernel_rfl) ?_; (try clear K); (try clear ww); intro ww K; (try simp [go_sem] at K); simp only [pick, List.getElem?_toArray, List.getElem?_cons_succ, List.getElem?_cons_zero]
    repeat (first|((with_reducible refine ht_load ?_);first|(refine hm_load (cs := ?_) (t := ?_) (n := ?_) rfl _ _ rfl rfl ?_ ?_ ?_ ?_;rotate_left 2;(repeat (first|exact At.hd|refine At.tl ?_));rotate_left;(with_reducible first|exact row51|exact row59|exact row88);(solve|exact rfl|simp))|(refine hm_own (cs := ?_) (t := ?_) (v := ?_) rfl _ _ rfl rfl ?_ ?_ ?_ ?_;rotate_left 2;(repeat (first|exact At.hd|refine At.tl ?_));rotate_left;(first|exact rfl|assumption);(with_reducible first|exact one3|exact one5|exact one42|exact one57|exact one86))|(refine hm_cell (v := ?_) rfl _ _ rfl rfl (fun ww K => ?_) ?_ ?_;rotate_left;(first|assumption|exact (K.below.cell (by assumption)).trans (by assumption));(with_reducible first|exact one3|exact one5|exact one42|exact one57|exact one86)))|(refine held_take (fun K' hK' => ?_);go_simp;first|(refine hK' _ ?_;clear hK' K')|(apply Exists.intro;refine ⟨?_, hK' _ ?_⟩;(intro _ _;rfl);clear hK' K'))|((with_reducible refine ht_store ?_);first|(refine hm_store (L' := ?_) (cs := ?_) (t := ?_) (n := ?_) K rfl _ _ _ rfl rfl rfl rfl ?_ ?_ ?_ ?_ ?_ ?_;rotate_left 3;(repeat (first|exact Put.hd|(refine Put.tl (L' := ?_) ?_;rotate_left)));rotate_left;(with_reducible first|exact row51|exact row59|exact row88);(solve|exact rfl|simp);(solve|exact rfl|simp);(solve|exact rfl|simp [Ones, Value.oneCell']);(try clear K);(try clear ww);intro ww K;(try simp [go_sem] at K);refine ⟨(by first|exact (K).sub sbd2k3|exact (K.weak fun _ h => h.2).sub sbd2k3|exact (K.weak fun _ h => h.2.2).sub sbd2k3|exact (K.weak fun _ h => h.2.2.2).sub sbd2k3|exact (K.weak fun _ h => h.2.2.2.2).sub sbd2k3|exact (K.weak fun _ h => h.2.2.2.2.2).sub sbd2k3|exact (K.weak fun _ h => h.2.2.2.2.2.2).sub sbd2k3|exact (K.weak fun _ h => h.2.2.2.2.2.2.2).sub sbd2k3|exact (K.tail).sub sbd2k3|exact (K.tail.weak fun _ h => h.2).sub sbd2k3|exact (K.tail.weak fun _ h => h.2.2).sub sbd2k3|exact (K.tail.weak fun _ h => h.2.2.2).sub sbd2k3|exact (K.tail.weak fun _ h => h.2.2.2.2).sub sbd2k3|exact (K.tail.weak fun _ h => h.2.2.2.2.2).sub sbd2k3|exact (K.tail.weak fun _ h => h.2.2.2.2.2.2).sub sbd2k3|exact (K.tail.weak fun _ h => h.2.2.2.2.2.2.2).sub sbd2k3), ?_⟩)|(refine hm_put (L' := ?_) (cs := ?_) (new := ?_) (t := ?_) K rfl _ _ _ rfl rfl rfl rfl ?_ ?_ ?_ ?_ rfl rfl ?_;rotate_left 4;(repeat (first|exact Put.hd|(refine Put.tl (L' := ?_) ?_;rotate_left)));(solve|exact Nat.le_of_ble_eq_true rfl|decide|(simp only [List.size_toArray, nums_length];first|assumption|omega)|(simp only [List.size_toArray, nums_length, List.length_set];first|assumption|omega)|simp|omega|(simp only [List.size_toArray, nums_length];omega)|assumption);(solve|(simp only [List.setIfInBounds_toArray];exact rfl)|exact nums_set _ _ _ _|simp only [List.setIfInBounds_toArray, List.set_cons_zero]|simp only [List.setIfInBounds_toArray, List.set_cons_zero, List.set_cons_succ]|(simp only [List.setIfInBounds_toArray, List.set_cons_zero, List.set_cons_succ];exact rfl)|exact rfl);(with_reducible first|exact one3|exact one5|exact one42|exact one57|exact one86);(try clear K);(try clear ww);intro ww K;(try simp [go_sem] at K);refine ⟨(by first|exact (K).sub sbd2k3|exact (K.weak fun _ h => h.2).sub sbd2k3|exact (K.weak fun _ h => h.2.2).sub sbd2k3|exact (K.weak fun _ h => h.2.2.2).sub sbd2k3|exact (K.weak fun _ h => h.2.2.2.2).sub sbd2k3|exact (K.weak fun _ h => h.2.2.2.2.2).sub sbd2k3|exact (K.weak fun _ h => h.2.2.2.2.2.2).sub sbd2k3|exact (K.weak fun _ h => h.2.2.2.2.2.2.2).sub sbd2k3|exact (K.tail).sub sbd2k3|exact (K.tail.weak fun _ h => h.2).sub sbd2k3|exact (K.tail.weak fun _ h => h.2.2).sub sbd2k3|exact (K.tail.weak fun _ h => h.2.2.2).sub sbd2k3|exact (K.tail.weak fun _ h => h.2.2.2.2).sub sbd2k3|exact (K.tail.weak fun _ h => h.2.2.2.2.2).sub sbd2k3|exact (K.tail.weak fun _ h => h.2.2.2.2.2.2).sub sbd2k3|exact (K.tail.weak fun _ h => h.2.2.2.2.2.2.2).sub sbd2k3), ?_⟩)))
    refine held_nil ?_
    (try go_wp2_with fail)
    refine bodyPost_ret (K.resC2 rfl _ rfl rfl (At.tl At.hd) At.hd (by (with_reducible first|exact row51|exact row59|exact row88)) (by (solve|exact rfl|simp)) (by (with_reducible first|exact row51|exact row59|exact row88)) (by (solve|exact rfl|simp))) rfl ?_
    exact ⟨p, q, n, A, c, A2, c2, _, _, rfl, HB.out.up, fun _ => ⟨rfl, rfl, rfl⟩, .inr ⟨rfl, rfl, rfl, rfl, rfl⟩, K.below⟩
  · have c0h : Hid ((p : Int).tmod 2 = 1) := Lib.hid (by rw [Int.tmod_eq_emod_of_nonneg (by omega)]; omega)
    have c14 := c14h.out
    have c15 := c15h.out
    have c0 := c0h.out
    go_enter Try.func57, Try.ntmps57
    go_wp2_with (first|go_big_skip|((with_reducible refine at_load ?_);first|(refine wm_load (cs := ?_) (t := ?_) (n := ?_) K rfl _ _ rfl rfl ?_ ?_ ?_ ?_;rotate_left 2;(repeat (first|exact At.hd|refine At.tl ?_));rotate_left;(with_reducible first|exact row51|exact row59|exact row88);(solve|exact rfl|simp))|(refine wm_own (cs := ?_) (t := ?_) (v := ?_) K rfl _ _ rfl rfl ?_ ?_ ?_ ?_;rotate_left 2;(repeat (first|exact At.hd|refine At.tl ?_));rotate_left;(first|exact rfl|assumption);(with_reducible first|exact one3|exact one5|exact one42|exact one57|exact one86))|(refine wm_cell (v := ?_) rfl _ _ rfl rfl ?_ ?_ ?_;rotate_left;(first|assumption|exact (K.below.cell (by assumption)).trans (by assumption));(with_reducible first|exact one3|exact one5|exact one42|exact one57|exact one86)))|((with_reducible refine at_store ?_);first|(refine wm_store (L' := ?_) (cs := ?_) (t := ?_) (n := ?_) K rfl _ _ _ rfl rfl rfl rfl ?_ ?_ ?_ ?_ ?_ ?_;rotate_left 3;(repeat (first|exact Put.hd|(refine Put.tl (L' := ?_) ?_;rotate_left)));rotate_left;(with_reducible first|exact row51|exact row59|exact row88);(solve|exact rfl|simp);(solve|exact rfl|simp);(solve|exact rfl|simp [Ones, Value.oneCell']);(try clear K);(try clear ww);intro ww K;(try simp [go_sem] at K))|(refine wm_put (L' := ?_) (cs := ?_) (new := ?_) (t := ?_) K rfl _ _ _ rfl rfl rfl rfl ?_ ?_ ?_ ?_ rfl rfl ?_;rotate_left 4;(repeat (first|exact Put.hd|(refine Put.tl (L' := ?_) ?_;rotate_left)));(solve|exact Nat.le_of_ble_eq_true rfl|decide|(simp only [List.size_toArray, nums_length];first|assumption|omega)|(simp only [List.size_toArray, nums_length, List.length_set];first|assumption|omega)|simp|omega|(simp only [List.size_toArray, nums_length];omega)|assumption);(solve|(simp only [List.setIfInBounds_toArray];exact rfl)|exact nums_set _ _ _ _|simp only [List.setIfInBounds_toArray, List.set_cons_zero]|simp only [List.setIfInBounds_toArray, List.set_cons_zero, List.set_cons_succ]|(simp only [List.setIfInBounds_toArray, List.set_cons_zero, List.set_cons_succ];exact rfl)|exact rfl);(with_reducible first|exact one3|exact one5|exact one42|exact one57|exact one86);(try clear K);(try clear ww);intro ww K;(try simp [go_sem] at K)))|(first|((with_reducible refine at_box ?_);refine wm_box K rfl _ _ rfl rfl rfl ?_;(try clear K);(try clear ww);(first|((fail_if_success (have _h := b3));intro b3 ww K)|((fail_if_success (have _h := b4));intro b4 ww K)|((fail_if_success (have _h := b5));intro b5 ww K)|((fail_if_success (have _h := b6));intro b6 ww K)|((fail_if_success (have _h := b7));intro b7 ww K));(try simp [go_sem, Value.cells] at K))|((with_reducible refine at_alloc ?_);refine wm_alloc (v := ?_) (cs := ?_) K rfl _ rfl ?_ ?_ ?_;rotate_left;(with_reducible first|exact zero51|exact zero88);rotate_left;exact rfl;(try clear K);(try clear ww);(first|((fail_if_success (have _h := b3));intro b3 ww K)|((fail_if_success (have _h := b4));intro b4 ww K)|((fail_if_success (have _h := b5));intro b5 ww K)|((fail_if_success (have _h := b6));intro b6 ww K)|((fail_if_success (have _h := b7));intro b7 ww K));(try simp [go_sem, Value.cells] at K))))
    clear c14 c15 c0
    refine wm_held _ [(true, 0), (true, 1), (false, 2), (false, 3)] K sbd2k3 (by kernel_rfl) (by kernel_rfl) ?_; (try clear K); (try clear ww); intro ww K; (try simp [go_sem] at K); simp only [pick, List.getElem?_toArray, List.getElem?_cons_succ, List.getElem?_cons_zero]
    repeat (first|((with_reducible refine ht_load ?_);first|(refine hm_load (cs := ?_) (t := ?_) (n := ?_) rfl _ _ rfl rfl ?_ ?_ ?_ ?_;rotate_left 2;(repeat (first|exact At.hd|refine At.tl ?_));rotate_left;(with_reducible first|exact row51|exact row59|exact row88);(solve|exact rfl|simp))|(refine hm_own (cs := ?_) (t := ?_) (v := ?_) rfl _ _ rfl rfl ?_ ?_ ?_ ?_;rotate_left 2;(repeat (first|exact At.hd|refine At.tl ?_));rotate_left;(first|exact rfl|assumption);(with_reducible first|exact one3|exact one5|exact one42|exact one57|exact one86))|(refine hm_cell (v := ?_) rfl _ _ rfl rfl (fun ww K => ?_) ?_ ?_;rotate_left;(first|assumption|exact (K.below.cell (by assumption)).trans (by assumption));(with_reducible first|exact one3|exact one5|exact one42|exact one57|exact one86)))|(refine held_take (fun K' hK' => ?_);go_simp;first|(refine hK' _ ?_;clear hK' K')|(apply Exists.intro;refine ⟨?_, hK' _ ?_⟩;(intro _ _;rfl);clear hK' K'))|((with_reducible refine ht_store ?_);first|(refine hm_store (L' := ?_) (cs := ?_) (t := ?_) (n := ?_) K rfl _ _ _ rfl rfl rfl rfl ?_ ?_ ?_ ?_ ?_ ?_;rotate_left 3;(repeat (first|exact Put.hd|(refine Put.tl (L' := ?_) ?_;rotate_left)));rotate_left;(with_reducible first|exact row51|exact row59|exact row88);(solve|exact rfl|simp);(solve|exact rfl|simp);(solve|exact rfl|simp [Ones, Value.oneCell']);(try clear K);(try clear ww);intro ww K;(try simp [go_sem] at K);refine ⟨(by first|exact (K).sub sbd2k3|exact (K.weak fun _ h => h.2).sub sbd2k3|exact (K.weak fun _ h => h.2.2).sub sbd2k3|exact (K.weak fun _ h => h.2.2.2).sub sbd2k3|exact (K.weak fun _ h => h.2.2.2.2).sub sbd2k3|exact (K.weak fun _ h => h.2.2.2.2.2).sub sbd2k3|exact (K.weak fun _ h => h.2.2.2.2.2.2).sub sbd2k3|exact (K.weak fun _ h => h.2.2.2.2.2.2.2).sub sbd2k3|exact (K.tail).sub sbd2k3|exact (K.tail.weak fun _ h => h.2).sub sbd2k3|exact (K.tail.weak fun _ h => h.2.2).sub sbd2k3|exact (K.tail.weak fun _ h => h.2.2.2).sub sbd2k3|exact (K.tail.weak fun _ h => h.2.2.2.2).sub sbd2k3|exact (K.tail.weak fun _ h => h.2.2.2.2.2).sub sbd2k3|exact (K.tail.weak fun _ h => h.2.2.2.2.2.2).sub sbd2k3|exact (K.tail.weak fun _ h => h.2.2.2.2.2.2.2).sub sbd2k3), ?_⟩)|(refine hm_put (L' := ?_) (cs := ?_) (new := ?_) (t := ?_) K rfl _ _ _ rfl rfl rfl rfl ?_ ?_ ?_ ?_ rfl rfl ?_;rotate_left 4;(repeat (first|exact Put.hd|(refine Put.tl (L' := ?_) ?_;rotate_left)));(solve|exact Nat.le_of_ble_eq_true rfl|decide|(simp only [List.size_toArray, nums_length];first|assumption|omega)|(simp only [List.size_toArray, nums_length, List.length_set];first|assumption|omega)|simp|omega|(simp only [List.size_toArray, nums_length];omega)|assumption);(solve|(simp only [List.setIfInBounds_toArray];exact rfl)|exact nums_set _ _ _ _|simp only [List.setIfInBounds_toArray, List.set_cons_zero]|simp only [List.setIfInBounds_toArray, List.set_cons_zero, List.set_cons_succ]|(simp only [List.setIfInBounds_toArray, List.set_cons_zero, List.set_cons_succ];exact rfl)|exact rfl);(with_reducible first|exact one3|exact one5|exact one42|exact one57|exact one86);(try clear K);(try clear ww);intro ww K;(try simp [go_sem] at K);refine ⟨(by first|exact (K).sub sbd2k3|exact (K.weak fun _ h => h.2).sub sbd2k3|exact (K.weak fun _ h => h.2.2).sub sbd2k3|exact (K.weak fun _ h => h.2.2.2).sub sbd2k3|exact (K.weak fun _ h => h.2.2.2.2).sub sbd2k3|exact (K.weak fun _ h => h.2.2.2.2.2).sub sbd2k3|exact (K.weak fun _ h => h.2.2.2.2.2.2).sub sbd2k3|exact (K.weak fun _ h => h.2.2.2.2.2.2.2).sub sbd2k3|exact (K.tail).sub sbd2k3|exact (K.tail.weak fun _ h => h.2).sub sbd2k3|exact (K.tail.weak fun _ h => h.2.2).sub sbd2k3|exact (K.tail.weak fun _ h => h.2.2.2).sub sbd2k3|exact (K.tail.weak fun _ h => h.2.2.2.2).sub sbd2k3|exact (K.tail.weak fun _ h => h.2.2.2.2.2).sub sbd2k3|exact (K.tail.weak fun _ h => h.2.2.2.2.2.2).sub sbd2k3|exact (K.tail.weak fun _ h => h.2.2.2.2.2.2.2).sub sbd2k3), ?_⟩)))
    refine held_nil ?_
    (try go_wp2_with fail)
    refine bodyPost_ret (K.resC2 rfl _ rfl rfl (At.tl At.hd) At.hd (by (with_reducible first|exact row51|exact row59|exact row88)) (by (solve|exact rfl|simp)) (by (with_reducible first|exact row51|exact row59|exact row88)) (by (solve|exact rfl|simp))) rfl ?_
    exact ⟨p, q, n, A, c, A2, c2, _, _, rfl, HB.out.up, fun _ => ⟨rfl, rfl, rfl⟩, .inr ⟨rfl, rfl, rfl, rfl, rfl⟩, K.below⟩
set_option maxRecDepth 100000 in
set_option maxHeartbeats 8000000 in
theorem do17 (k p q n c c2 : Nat) (A A2 : Option Addr) (xs ys : List Nat) (r : OpRec) (w : World) (h : Fn w A n xs) (h2 : Fr w A2 n ys) (hb : Both k p q n xs ys) (hk : k ≤ 8) (hg : OpGood w r) :
    Calls Try.prog 57 #[.agg #[.int .i64 p, .int .i64 q, .slice A n c], .agg #[.int .i64 p, .int .i64 q, .slice A2 n c2], .agg (opCells r)] w fun e w' => ∃ (p' q' n' : Nat) (A' : Option Addr) (c' : Nat) (A2' : Option Addr) (c2' : Nat) (xs' ys' : List Nat), e = .returned (.tuple #[.agg #[.int .i64 (p'), .int .i64 (q'), .slice A' n' c'], .agg #[.int .i64 (p'), .int .i64 (q'), .slice A2' n' c2']]) ∧ Both (k + 1) p' q' n' xs' ys' ∧ (r.kd.tmod 5 < 2 → p' = p ∧ q' = q ∧ n' = n) ∧ ((Fn w' A' n' xs' ∧ Nw w.heap.size A') ∧ (Fr w' A2' n' ys' ∧ Nw w.heap.size A2') ∨ (A' = A ∧ A2' = A2 ∧ n' = n ∧ xs' = xs ∧ ys' = ys)) ∧ Below w.heap.size w w' := by
  have h5 : 0 ≤ r.kd := hg.kd.1
  have e := Int.tmod_eq_emod_of_nonneg (b := 5) h5
  rcases (by omega : r.kd % 5 = 0 ∨ r.kd % 5 = 1 ∨ r.kd % 5 = 2 ∨ r.kd % 5 = 3 ∨ r.kd % 5 = 4) with h0 | h0 | h0 | h0 | h0
  · exact doA17 k p q n c c2 A A2 xs ys r w h h2 hb hk hg (by rw [e, h0])
  · exact doB17 k p q n c c2 A A2 xs ys r w h h2 hb hk hg (by rw [e, h0])
  · exact doC17 k p q n c c2 A A2 xs ys r w h h2 hb hk hg (by rw [e, h0])
  · by_cases h4 : p ≤ 4 ∧ q ≤ 4
    · exact doD17 k p q n c c2 A A2 xs ys r w h h2 hb hk hg (by rw [e, h0]) h4
    · exact doDs17 k p q n c c2 A A2 xs ys r w h h2 hb hk hg (by rw [e, h0]) h4
  · by_cases h4 : p % 2 = 0 ∧ q % 2 = 0
    · exact doE17 k p q n c c2 A A2 xs ys r w h h2 hb hk hg (by rw [e, h0]) h4
    · exact doEs17 k p q n c c2 A A2 xs ys r w h h2 hb hk hg (by rw [e, h0]) h4
end Go.Proofs.Yteancdipmpmjpaa
namespace Go.Proofs.Yteancdipmpmjpaa
set_option linter.unusedVariables false
/-- Two lists are one but for powers of two. -/
def Sim (xs l : List Nat) : Prop := ∃ s t, scl s xs = scl t l
theorem Sim.len {xs l : List Nat} (h : Sim xs l) : xs.length = l.length := by
  obtain ⟨s, t, e⟩ := h
  rw [← scl_len s xs, e, scl_len]
theorem Sim.cross {xs l : List Nat} (h : Sim xs l) (i : Nat) : l.getD i 0 * xs.sum = xs.getD i 0 * l.sum := by
  obtain ⟨s, t, e⟩ := h
  have e1 : xs.getD i 0 * 2 ^ s = l.getD i 0 * 2 ^ t := by rw [← scl_get, e, scl_get]
  have e2 : xs.sum * 2 ^ s = l.sum * 2 ^ t := by rw [← scl_sum, e, scl_sum]
  refine Nat.eq_of_mul_eq_mul_right (Nat.mul_pos (Nat.two_pow_pos s) (Nat.two_pow_pos t)) ?_
  have a : l.getD i 0 * xs.sum * (2 ^ s * 2 ^ t) = (l.getD i 0 * 2 ^ t) * (xs.sum * 2 ^ s) := by
    rw [Nat.mul_comm (2 ^ s) (2 ^ t), Nat.mul_mul_mul_comm]
  have b : xs.getD i 0 * l.sum * (2 ^ s * 2 ^ t) = (xs.getD i 0 * 2 ^ s) * (l.sum * 2 ^ t) := Nat.mul_mul_mul_comm _ _ _ _
  rw [a, b, e1, e2]
theorem Sim.zero {xs l : List Nat} (h : Sim xs l) : xs.sum = 0 ↔ l.sum = 0 := by
  obtain ⟨s, t, e⟩ := h
  have e2 : xs.sum * 2 ^ s = l.sum * 2 ^ t := by rw [← scl_sum, e, scl_sum]
  have p1 := Nat.two_pow_pos s
  have p2 := Nat.two_pow_pos t
  constructor
  · intro h0
    rw [h0, Nat.zero_mul] at e2
    rcases Nat.mul_eq_zero.1 e2.symm with h | h
    · exact h
    · omega
  · intro h0
    rw [h0, Nat.zero_mul] at e2
    rcases Nat.mul_eq_zero.1 e2 with h | h
    · exact h
    · omega
theorem Both.sim {k p q n : Nat} {xs ys : List Nat} (h : Both k p q n xs ys) : Sim xs ys := by
  obtain ⟨s, e⟩ := h.rel
  exact ⟨s, 0, by rw [e]; simp [scl]⟩
theorem psumN_mul {f g : Nat → Nat} {c : Nat} : ∀ {n : Nat}, (∀ i, i < n → g i = f i * c) → psumN g n = psumN f n * c
  | 0, _ => by simp [psumN]
  | n + 1, h => by rw [psumN, psumN, psumN_mul (fun i hi => h i (by omega)), h n (by omega), Nat.add_mul]
theorem dist_scl {S T s n : Nat} {xs us : List Nat} : dist17 S (T * 2 ^ s) xs (scl s us) n = dist17 S T xs us n * 2 ^ s := by
  unfold dist17
  refine psumN_mul fun i _ => ?_
  rw [scl_get, Nat.add_mul, Nat.sub_mul, Nat.sub_mul, Nat.mul_right_comm T, Nat.mul_right_comm (us.getD i 0)]
theorem over_scl {s : Nat} {xs us : List Nat} {b : Int} : over17 xs (scl s us) b = over17 xs us b := by
  unfold over17
  rw [scl_sum, dist_scl]
  have p := Nat.two_pow_pos s
  have hz : us.sum * 2 ^ s = 0 ↔ us.sum = 0 := by
    constructor
    · intro h
      rcases Nat.mul_eq_zero.1 h with h | h
      · exact h
      · omega
    · intro h; rw [h, Nat.zero_mul]
  by_cases h0 : xs.sum = 0 ∨ us.sum = 0
  · rw [if_pos h0, if_pos (h0.imp id hz.2)]
  · rw [if_neg h0, if_neg (fun h => h0 (h.imp id hz.1))]
    congr 1
    have e1 : xs.sum * (us.sum * 2 ^ s) * b.toNat * 2 ^ 1 = xs.sum * us.sum * b.toNat * 2 ^ 1 * 2 ^ s := by
      rw [← Nat.mul_assoc, Nat.mul_right_comm _ (2 ^ s), Nat.mul_right_comm _ (2 ^ s)]
    rw [e1]
    generalize 2 ^ 40 = c
    rw [Nat.mul_right_comm _ (2 ^ s) c]
    exact propext (Nat.mul_lt_mul_right p)
theorem over_sim {xs us vs : List Nat} {b : Int} (h : Sim us vs) : over17 xs us b = over17 xs vs b := by
  obtain ⟨s, t, e⟩ := h
  rw [← over_scl (s := s) (us := us), e, over_scl]
end Go.Proofs.Yteancdipmpmjpaa
namespace Go.Proofs.Yteancdipmpmjpaa
open Go.RowKit
attribute [local irreducible] wpHeld wpTree wpList
set_option linter.unusedVariables false
set_option linter.unusedSimpArgs false
theorem rf_one {w : World} {b x : Nat} (h : Has w b #[.int .i64 (x : Int)] 3) (h0 : 0 < x) (h1 : x < 256) : Rf w (some ⟨b, 0, none⟩) 1 1 x := by
  refine ⟨?_, Nat.le_refl _, by decide⟩
  have e : digs 256 x = [x] := by
    have := digs_cons (b := 256) (x := x) (n := 0) (by decide) h1 (by omega)
    rw [Nat.mul_zero, Nat.add_zero, digs_zero] at this
    exact this
  rw [e]
  exact Sl.of_has h
set_option maxRecDepth 100000 in
set_option maxHeartbeats 8000000 in
theorem has17 (p q n c c2 : Nat) (A A2 : Option Addr) (xs l : List Nat) (w : World) (h : Fn w A n xs) (h2 : Rd w A2 n (nums .i64 l)) (hl : ∀ x ∈ l, x < 256) (hn : q * p = n) (hp : 1 ≤ p ∧ p ≤ 8) (hq : 1 ≤ q ∧ q ≤ 8) (hsim : Sim xs l) (hS : xs.sum < Big) (hT : l.sum < Big) (hP : ∀ i, xs.getD i 0 * l.sum < Big) :
    Calls Try.prog 94 #[.agg #[.int .i64 p, .int .i64 q, .slice A n c], .int .i64 p, .slice A2 n c2] w fun e w' => e = .returned (.int .i64 1) ∧ Below w.heap.size w w' := by
  have K := St.start w
  have hll : l.length = n := by rw [← hsim.len]; exact h.len
  have hn64 : n ≤ 64 := by have := Nat.mul_le_mul hq.2 hp.2; omega
  have HR := Lib.hid h
  have HR2 := Lib.hid h2
  have HL := Lib.hid hll
  have HLB := Lib.hid hl
  have AL := Lib.hid (fun (c c2 : Nat) (A2 : Option Addr) (w : World) (h : Fn w A n xs) (h2 : Fr w A2 n l) => Alike17 p q n c c2 A A2 xs l w h h2 (by omega) hS hT hsim.cross hsim.zero hP)
  have hqe : n / p = q := by rw [← hn]; exact Nat.mul_div_cancel _ (by omega)
  have c1h : Hid (wrap64 ((n : Int) / (p : Int)) = (q : Int)) := Lib.hid (by rw [← Int.natCast_ediv, hqe]; exact w64 (by omega) (by omega))
  have c2h : Hid ((n : Int).tdiv (p : Int) = (q : Int)) := Lib.hid (by rw [Int.tdiv_eq_ediv_of_nonneg (by omega), ← Int.natCast_ediv, hqe])
  have c3h : Hid (IntKind.i64.wrap (q : Int) = (q : Int)) := Lib.hid (IntWalk.i64_in _ (by omega))
  have c0 : (p = 0) = False := by simp; omega
  clear h h2 hl hsim hS hT hP hll hn hp hq hqe
  have c1 := c1h.out
  have c2' := c2h.out
  have c3 := c3h.out
  go_enter Try.func94, Try.ntmps94
  go_wp2_with (first|go_big_skip|((with_reducible refine at_load ?_);first|(refine wm_load (cs := ?_) (t := ?_) (n := ?_) K rfl _ _ rfl rfl ?_ ?_ ?_ ?_;rotate_left 2;(repeat (first|exact At.hd|refine At.tl ?_));rotate_left;(with_reducible first|exact row51|exact row88);(solve|exact rfl|simp))|(refine wm_own (cs := ?_) (t := ?_) (v := ?_) K rfl _ _ rfl rfl ?_ ?_ ?_ ?_;rotate_left 2;(repeat (first|exact At.hd|refine At.tl ?_));rotate_left;(first|exact rfl|assumption);(with_reducible first|exact one3|exact one86))|(refine wm_cell (v := ?_) rfl _ _ rfl rfl ?_ ?_ ?_;rotate_left;(first|assumption|exact (K.below.cell (by assumption)).trans (by assumption));(with_reducible first|exact one3|exact one86)))|((with_reducible refine at_store ?_);first|(refine wm_store (L' := ?_) (cs := ?_) (t := ?_) (n := ?_) K rfl _ _ _ rfl rfl rfl rfl ?_ ?_ ?_ ?_ ?_ ?_;rotate_left 3;(repeat (first|exact Put.hd|(refine Put.tl (L' := ?_) ?_;rotate_left)));rotate_left;(with_reducible first|exact row51|exact row88);(solve|exact rfl|simp);(solve|exact rfl|simp);(solve|exact rfl|simp [Ones, Value.oneCell']);(try clear K);(try clear ww);intro ww K;(try simp [go_sem] at K))|(refine wm_put (L' := ?_) (cs := ?_) (new := ?_) (t := ?_) K rfl _ _ _ rfl rfl rfl rfl ?_ ?_ ?_ ?_ rfl rfl ?_;rotate_left 4;(repeat (first|exact Put.hd|(refine Put.tl (L' := ?_) ?_;rotate_left)));(solve|exact Nat.le_of_ble_eq_true rfl|decide|(simp only [List.size_toArray, nums_length];first|assumption|omega)|(simp only [List.size_toArray, nums_length, List.length_set];first|assumption|omega)|simp|omega|(simp only [List.size_toArray, nums_length];omega)|assumption);(solve|(simp only [List.setIfInBounds_toArray];exact rfl)|exact nums_set _ _ _ _|simp only [List.setIfInBounds_toArray, List.set_cons_zero]|simp only [List.setIfInBounds_toArray, List.set_cons_zero, List.set_cons_succ]|(simp only [List.setIfInBounds_toArray, List.set_cons_zero, List.set_cons_succ];exact rfl)|exact rfl);(with_reducible first|exact one3|exact one86);(try clear K);(try clear ww);intro ww K;(try simp [go_sem] at K)))|(first|((with_reducible refine at_box ?_);refine wm_box K rfl _ _ rfl rfl rfl ?_;(try clear K);(try clear ww);(first|((fail_if_success (have _h := b3));intro b3 ww K)|((fail_if_success (have _h := b7));intro b7 ww K));(try simp [go_sem, Value.cells] at K))|((with_reducible refine at_alloc ?_);refine wm_alloc (v := ?_) (cs := ?_) K rfl _ rfl ?_ ?_ ?_;rotate_left;(with_reducible first|exact zero88);rotate_left;exact rfl;(try clear K);(try clear ww);(first|((fail_if_success (have _h := b3));intro b3 ww K)|((fail_if_success (have _h := b7));intro b7 ww K));(try simp [go_sem, Value.cells] at K))))
  (try rw [c1] at K)
  clear c1 c2' c3 c0
  go_loopw [8, 9] (fun i _ wr => ∃ (k : Nat) (v : Value) (cs : List Value) (Lo : List Blk), k ≤ n ∧ i = .int .i64 k ∧ OwnT v 102 cs Lo ∧ Hid (cs.length = k) ∧ St w.heap.size w ((b7, #[.int .i64 p, .int .i64 q, v], 88) :: (b3, #[.int .i64 p, .int .i64 q, .slice A n c], 51) :: Lo) (fun w => AllR w cs (l.take k)) wr) (fun i _ _ => n - (intOf i).toNat)
  case atStart => exact ⟨0, _, [], [], Nat.zero_le _, rfl, OwnT.nil _, Lib.hid rfl, K.weak fun w _ => AllR.nil w⟩
  case round =>
    clear K
    obtain ⟨i, v, cs, Lo, hi, rfl, hO, HC, K⟩ := hrel
    by_cases hlt : i < n
    · have ht : decide ((i : Int) < n) = true := decide_eq_true (by omega)
      have htn : decide (i < n) = true := decide_eq_true hlt
      obtain ⟨b0, off, rfl, hb, hc⟩ := HR2.out.get hlt
      have hil : i < l.length := by rw [HL.out]; exact hlt
      have hv := hc i _ (nums_get .i64 l i hil)
      have hx256 := HLB.out _ (getDN_mem hil)
      have hsn0 := take_snocN l i hil
      generalize l.getD i 0 = x at *
      have hsn := Lib.hid hsn0
      have hb1 : (cs.length + 1) * 24 ≤ 140737488355328 := by rw [HC.out]; omega
      have hb2 : cs.length + 1 ≤ maxLen := by rw [HC.out]; unfold maxLen; omega
      clear hsn0 hc hil
      by_cases hx0 : x = 0
      · have t1 : ((x : Int) == 0) = true := by simp; omega
        have t2 : (x == 0) = true := by simp; omega
        go_wp2_with (first|go_big_skip|((with_reducible refine at_load ?_);first|(refine wm_load (cs := ?_) (t := ?_) (n := ?_) K rfl _ _ rfl rfl ?_ ?_ ?_ ?_;rotate_left 2;(repeat (first|exact At.hd|refine At.tl ?_));rotate_left;(with_reducible first|exact row51|exact row88);(solve|exact rfl|simp))|(refine wm_own (cs := ?_) (t := ?_) (v := ?_) K rfl _ _ rfl rfl ?_ ?_ ?_ ?_;rotate_left 2;(repeat (first|exact At.hd|refine At.tl ?_));rotate_left;(first|exact rfl|assumption);(with_reducible first|exact one3|exact one86))|(refine wm_cell (v := ?_) rfl _ _ rfl rfl ?_ ?_ ?_;rotate_left;(first|assumption|exact (K.below.cell (by assumption)).trans (by assumption));(with_reducible first|exact one3|exact one86)))|((with_reducible refine at_store ?_);first|(refine wm_store (L' := ?_) (cs := ?_) (t := ?_) (n := ?_) K rfl _ _ _ rfl rfl rfl rfl ?_ ?_ ?_ ?_ ?_ ?_;rotate_left 3;(repeat (first|exact Put.hd|(refine Put.tl (L' := ?_) ?_;rotate_left)));rotate_left;(with_reducible first|exact row51|exact row88);(solve|exact rfl|simp);(solve|exact rfl|simp);(solve|exact rfl|simp [Ones, Value.oneCell']);(try clear K);(try clear ww);intro ww K;(try simp [go_sem] at K))|(refine wm_put (L' := ?_) (cs := ?_) (new := ?_) (t := ?_) K rfl _ _ _ rfl rfl rfl rfl ?_ ?_ ?_ ?_ rfl rfl ?_;rotate_left 4;(repeat (first|exact Put.hd|(refine Put.tl (L' := ?_) ?_;rotate_left)));(solve|exact Nat.le_of_ble_eq_true rfl|decide|(simp only [List.size_toArray, nums_length];first|assumption|omega)|(simp only [List.size_toArray, nums_length, List.length_set];first|assumption|omega)|simp|omega|(simp only [List.size_toArray, nums_length];omega)|assumption);(solve|(simp only [List.setIfInBounds_toArray];exact rfl)|exact nums_set _ _ _ _|simp only [List.setIfInBounds_toArray, List.set_cons_zero]|simp only [List.setIfInBounds_toArray, List.set_cons_zero, List.set_cons_succ]|(simp only [List.setIfInBounds_toArray, List.set_cons_zero, List.set_cons_succ];exact rfl)|exact rfl);(with_reducible first|exact one3|exact one86);(try clear K);(try clear ww);intro ww K;(try simp [go_sem] at K)))|((with_reducible refine at_bsl ?_);refine wm_one K rfl _ _ rfl Try.underlying102 num3 rfl ?_;(try clear K);(try clear ww);intro bb ww K;(try simp [go_sem] at K))|((with_reducible refine at_bsl ?_);refine wm_oneZ K rfl _ _ rfl Try.underlying86 infoInts Cell1.sl rfl Cell1.sl ?_;(try clear K);(try clear ww);intro bc ww K;(try simp [go_sem] at K))|((with_reducible refine at_app ?_);refine wm_appZT (L0 := ?_) K ?_ rfl _ _ _ rfl Try.underlying86 infoInts Cell1.sl rfl hO rfl rfl (by first|assumption|omega) (by first|assumption|(unfold maxLen;omega)) ?_;rotate_left;(repeat (first|exact Tl.nil|(refine Tl.cons (L0 := ?_) ?_;rotate_left)));(try clear K hO);(try clear ww);intro v ww Lo hO K;obtain ⟨_, _, _, rfl, _⟩ := hO.val;simp only [List.cons_append, List.nil_append] at K))
        exact ⟨⟨i + 1, _, _, _, by omega, by go_num, hO, Lib.hid (by rw [List.length_append, HC.out]; rfl), K.tail.weak fun w h => by rw [hsn.out, hx0]; exact h.snoc (Rf.zero w none 0 (by decide))⟩, by simp [intOf]; omega⟩
      · have t1 : ((x : Int) == 0) = false := by simp; omega
        have t2 : (x == 0) = false := by simp; omega
        go_wp2_with (first|go_big_skip|((with_reducible refine at_load ?_);first|(refine wm_load (cs := ?_) (t := ?_) (n := ?_) K rfl _ _ rfl rfl ?_ ?_ ?_ ?_;rotate_left 2;(repeat (first|exact At.hd|refine At.tl ?_));rotate_left;(with_reducible first|exact row51|exact row88);(solve|exact rfl|simp))|(refine wm_own (cs := ?_) (t := ?_) (v := ?_) K rfl _ _ rfl rfl ?_ ?_ ?_ ?_;rotate_left 2;(repeat (first|exact At.hd|refine At.tl ?_));rotate_left;(first|exact rfl|assumption);(with_reducible first|exact one3|exact one86))|(refine wm_cell (v := ?_) rfl _ _ rfl rfl ?_ ?_ ?_;rotate_left;(first|assumption|exact (K.below.cell (by assumption)).trans (by assumption));(with_reducible first|exact one3|exact one86)))|((with_reducible refine at_store ?_);first|(refine wm_store (L' := ?_) (cs := ?_) (t := ?_) (n := ?_) K rfl _ _ _ rfl rfl rfl rfl ?_ ?_ ?_ ?_ ?_ ?_;rotate_left 3;(repeat (first|exact Put.hd|(refine Put.tl (L' := ?_) ?_;rotate_left)));rotate_left;(with_reducible first|exact row51|exact row88);(solve|exact rfl|simp);(solve|exact rfl|simp);(solve|exact rfl|simp [Ones, Value.oneCell']);(try clear K);(try clear ww);intro ww K;(try simp [go_sem] at K))|(refine wm_put (L' := ?_) (cs := ?_) (new := ?_) (t := ?_) K rfl _ _ _ rfl rfl rfl rfl ?_ ?_ ?_ ?_ rfl rfl ?_;rotate_left 4;(repeat (first|exact Put.hd|(refine Put.tl (L' := ?_) ?_;rotate_left)));(solve|exact Nat.le_of_ble_eq_true rfl|decide|(simp only [List.size_toArray, nums_length];first|assumption|omega)|(simp only [List.size_toArray, nums_length, List.length_set];first|assumption|omega)|simp|omega|(simp only [List.size_toArray, nums_length];omega)|assumption);(solve|(simp only [List.setIfInBounds_toArray];exact rfl)|exact nums_set _ _ _ _|simp only [List.setIfInBounds_toArray, List.set_cons_zero]|simp only [List.setIfInBounds_toArray, List.set_cons_zero, List.set_cons_succ]|(simp only [List.setIfInBounds_toArray, List.set_cons_zero, List.set_cons_succ];exact rfl)|exact rfl);(with_reducible first|exact one3|exact one86);(try clear K);(try clear ww);intro ww K;(try simp [go_sem] at K)))|((with_reducible refine at_bsl ?_);refine wm_one K rfl _ _ rfl Try.underlying102 num3 rfl ?_;(try clear K);(try clear ww);intro bb ww K;(try simp [go_sem] at K))|((with_reducible refine at_bsl ?_);refine wm_oneZ K rfl _ _ rfl Try.underlying86 infoInts Cell1.sl rfl Cell1.sl ?_;(try clear K);(try clear ww);intro bc ww K;(try simp [go_sem] at K))|((with_reducible refine at_app ?_);refine wm_appZT (L0 := ?_) K ?_ rfl _ _ _ rfl Try.underlying86 infoInts Cell1.sl rfl hO rfl rfl (by first|assumption|omega) (by first|assumption|(unfold maxLen;omega)) ?_;rotate_left;(repeat (first|exact Tl.nil|(refine Tl.cons (L0 := ?_) ?_;rotate_left)));(try clear K hO);(try clear ww);intro v ww Lo hO K;obtain ⟨_, _, _, rfl, _⟩ := hO.val;simp only [List.cons_append, List.nil_append] at K))
        have K2 := K.freezeRf (rf_one (K.get .hd) (by omega) hx256)
        exact ⟨⟨i + 1, _, _, _, by omega, by go_num, hO, Lib.hid (by rw [List.length_append, HC.out]; rfl), K2.weak fun w h => by rw [hsn.out]; exact h.2.snoc h.1.1⟩, by simp [intOf]; omega⟩
    · obtain rfl : n = i := by omega
      have ht : decide ((n : Int) < n) = false := decide_eq_false (by omega)
      have htn : decide (n < n) = false := decide_eq_false (by omega)
      have hz : l.take n = l := List.take_of_length_le (by rw [HL.out]; omega)
      rw [hz] at K
      obtain ⟨A3, c3, rfl, hc1, hc2, hA, K2⟩ := hO.fix (L0 := [(b7, #[.int .i64 p, .int .i64 q, v], 88), (b3, #[.int .i64 p, .int .i64 q, .slice A n c], 51)]) K
      rw [HC.out] at K2
      clear K hO hc1 hc2 hA hz
      replace K := K2
      clear K2
      revert wr
      intro ww K
      go_wp2_with (first|go_big_skip|((with_reducible refine at_load ?_);first|(refine wm_load (cs := ?_) (t := ?_) (n := ?_) K rfl _ _ rfl rfl ?_ ?_ ?_ ?_;rotate_left 2;(repeat (first|exact At.hd|refine At.tl ?_));rotate_left;(with_reducible first|exact row51|exact row88);(solve|exact rfl|simp))|(refine wm_own (cs := ?_) (t := ?_) (v := ?_) K rfl _ _ rfl rfl ?_ ?_ ?_ ?_;rotate_left 2;(repeat (first|exact At.hd|refine At.tl ?_));rotate_left;(first|exact rfl|assumption);(with_reducible first|exact one3|exact one86))|(refine wm_cell (v := ?_) rfl _ _ rfl rfl ?_ ?_ ?_;rotate_left;(first|assumption|exact (K.below.cell (by assumption)).trans (by assumption));(with_reducible first|exact one3|exact one86)))|((with_reducible refine at_store ?_);first|(refine wm_store (L' := ?_) (cs := ?_) (t := ?_) (n := ?_) K rfl _ _ _ rfl rfl rfl rfl ?_ ?_ ?_ ?_ ?_ ?_;rotate_left 3;(repeat (first|exact Put.hd|(refine Put.tl (L' := ?_) ?_;rotate_left)));rotate_left;(with_reducible first|exact row51|exact row88);(solve|exact rfl|simp);(solve|exact rfl|simp);(solve|exact rfl|simp [Ones, Value.oneCell']);(try clear K);(try clear ww);intro ww K;(try simp [go_sem] at K))|(refine wm_put (L' := ?_) (cs := ?_) (new := ?_) (t := ?_) K rfl _ _ _ rfl rfl rfl rfl ?_ ?_ ?_ ?_ rfl rfl ?_;rotate_left 4;(repeat (first|exact Put.hd|(refine Put.tl (L' := ?_) ?_;rotate_left)));(solve|exact Nat.le_of_ble_eq_true rfl|decide|(simp only [List.size_toArray, nums_length];first|assumption|omega)|(simp only [List.size_toArray, nums_length, List.length_set];first|assumption|omega)|simp|omega|(simp only [List.size_toArray, nums_length];omega)|assumption);(solve|(simp only [List.setIfInBounds_toArray];exact rfl)|exact nums_set _ _ _ _|simp only [List.setIfInBounds_toArray, List.set_cons_zero]|simp only [List.setIfInBounds_toArray, List.set_cons_zero, List.set_cons_succ]|(simp only [List.setIfInBounds_toArray, List.set_cons_zero, List.set_cons_succ];exact rfl)|exact rfl);(with_reducible first|exact one3|exact one86);(try clear K);(try clear ww);intro ww K;(try simp [go_sem] at K)))|(go_at_call 56;have zz := fun c c2 => AL.out c c2 _ _ (HR.out.below K.below) ⟨cs, K.fact.1, K.fact.2⟩;(with_reducible refine (zz _ _).mono ?_);clear zz;rintro e w2 ⟨rfl, kk1⟩;replace K := K.step kk1;clear kk1;(try clear ww);revert w2;intro ww K))
      go_ret
      exact ⟨rfl, K.below⟩
end Go.Proofs.Yteancdipmpmjpaa
namespace Go.Proofs.Yteancdipmpmjpaa
open Go.RowKit
attribute [local irreducible] wpHeld wpTree wpList
set_option linter.unusedVariables false
def Sm (xs : List Nat) : Prop := ∀ x ∈ xs, x < 18446744073709551616
theorem Sm.scl {s : Nat} {xs lit : List Nat} (h : scl s xs = lit) (hs : Sm lit) : Sm xs := scl_ge (s := s) (by rw [h]; exact hs)
theorem wHas (p q n : Nat) {P Q : Int} {A A2 : Option Addr} {c c2 : Nat} {xs : List Nat} {l : List Int} {w : World} (l' lit : List Nat) (t : Nat) (hP : P = (p : Int)) (hQ : Q = (q : Int)) (h : Fn w A n xs) (h2 : Rd w A2 n (ints .i64 l)) (hl : ints .i64 l = nums .i64 l') (hl2 : ∀ x ∈ l', x < 256) (hn : q * p = n) (hp : 1 ≤ p ∧ p ≤ 8) (hq : 1 ≤ q ∧ q ≤ 8) (hs : ∃ s, scl s xs = lit) (hlit : lit = scl t l') (hsm : Sm lit) :
    Calls Try.prog 94 #[.agg #[.int .i64 P, .int .i64 Q, .slice A n c], .int .i64 P, .slice A2 n c2] w fun e w' => e = .returned (.int .i64 1) ∧ Below w.heap.size w w' := by
  subst hP hQ
  obtain ⟨s, hs⟩ := hs
  have hx := Sm.scl hs hsm
  have hlen := h.len
  have hsim : Sim xs l' := ⟨s, t, by rw [hs, hlit]⟩
  have hlen2 : l'.length = n := by rw [← hsim.len]; exact hlen
  have hn64 : n ≤ 64 := by have := Nat.mul_le_mul hq.2 hp.2; omega
  have a := sum_le_mul (l := xs) (C := 18446744073709551616) fun x h => Nat.le_of_lt (hx x h)
  have b := sum_le_mul (l := l') (C := 256) fun x h => Nat.le_of_lt (hl2 x h)
  rw [hlen] at a
  rw [hlen2] at b
  have a2 := Nat.le_trans a (Nat.mul_le_mul_right _ hn64)
  have b2 := Nat.le_trans b (Nat.mul_le_mul_right _ hn64)
  refine has17 p q n c c2 A A2 xs l' w h (by rw [← hl]; exact h2) hl2 hn hp hq hsim (big_of (Nat.lt_of_le_of_lt a2 (by decide))) (big_of (Nat.lt_of_le_of_lt b2 (by decide))) fun i => ?_
  have g : xs.getD i 0 ≤ 18446744073709551616 := by
    have := getDN_all (P := fun x => x < 18446744073709551616) (by decide) hx i
    omega
  exact big_of (Nat.lt_of_le_of_lt (Nat.mul_le_mul g b2) (by decide))
theorem seven_lim : 18446744073709551616 * 4294967296 ^ 5 < Lim := lt_lim (m := 20) (by decide +kernel) (by omega)
theorem sm_lim (hM : 18446744073709551616 * 4294967296 ^ 5 < Lim) : 256 * 18446744073709551616 * 256 < Lim ∧ 18446744073709551616 * 65536 < Lim ∧ 18446744073709551616 * 5 < Lim := ⟨(lim_pieces hM).1, (lim_pieces hM).2.1, (lim_pieces hM).2.2.1⟩
theorem wOver {A A2 : Option Addr} {c c2 : Nat} {us lit : List Nat} {b : Int} {w : World} (v : Bool) (h : Rd w A 2 (ints .i64 [536870912, 536870912])) (h2 : Fn w A2 2 us) (hs : ∃ s, scl s us = lit) (hsm : Sm lit) (hv : over17 [536870912, 536870912] lit b = v) (hbb : -9223372036854775808 ≤ b ∧ b < 9223372036854775808) :
    Calls Try.prog 32 #[.agg #[.int .i64 2, .int .i64 1, .int .i64 0, .int .i64 0, .int .i64 64, .slice A 2 c], .agg #[.int .i64 2, .int .i64 1, .slice A2 2 c2], .int .i64 b] w fun e w' => e = .returned (.bool v) ∧ Below w.heap.size w w' := by
  obtain ⟨s, hs⟩ := hs
  have h := Over17 2 1 0 0 64 2 1 A A2 2 c c2 18446744073709551616 [536870912, 536870912] us b w h (by decide) (by decide) h2 (Sm.scl hs hsm) (by decide) seven_lim hbb
  rw [show toN [536870912, 536870912] = [536870912, 536870912] from rfl, ← over_scl (s := s), hs, hv] at h
  exact h
section
variable {B : Nat} {w0 w : World} {L : List Blk} {F : World → Prop}
theorem St.wFrom {A : Option Addr} {c : Nat} (K : St B w0 L F w) (hL : (L.all fun p => p.2.2 != 24) = true) (h : Rd w A 2 (ints .i64 [536870912, 536870912])) :
    Calls Try.prog 29 #[.agg #[.int .i64 2, .int .i64 1, .int .i64 0, .int .i64 0, .int .i64 64, .slice A 2 c]] w fun e w' => ∃ A2 c2, e = .returned (.agg #[.int .i64 2, .int .i64 1, .slice A2 2 c2]) ∧ St B w0 L (fun w => Fn w A2 2 [536870912, 536870912] ∧ F w) w' := by
  refine (From17 2 1 0 0 64 A 2 c _ w h (by decide) (by decide)).mono ?_
  rintro e w' ⟨A2, c2, rfl, ⟨hx, hA⟩, hbel⟩
  exact ⟨A2, c2, rfl, K.madeFn (noT_of hL) hbel hx hA⟩
theorem St.wWeigh {A A2 : Option Addr} {c c2 : Nat} (K : St B w0 L F w) (hL : (L.all fun p => p.2.2 != 24) = true) (h : Fn w A 2 [536870912, 536870912]) (h2 : Rd w A2 2 (ints .i64 [3, 1])) :
    Calls Try.prog 67 #[.agg #[.int .i64 2, .int .i64 1, .slice A 2 c], .slice A2 2 c2] w fun e w' => ∃ xa A3 c3, e = .returned (.agg #[.int .i64 2, .int .i64 1, .slice A3 2 c3]) ∧ ((∃ s, scl s xa = [1610612736, 536870912]) ∧ Nw B A3) ∧ St B w0 L (fun w => Fn w A3 2 xa ∧ F w) w' := by
  refine (Weigh17 2 1 A A2 2 c c2 18446744073709551616 _ [3, 1] w h h2 (by decide) (by decide) (by decide) (sm_lim seven_lim).2.1 (by decide)).mono ?_
  rintro e w' ⟨s, A3, c3, rfl, ⟨hx, hd, hA⟩, hbel⟩
  exact ⟨_, A3, c3, rfl, ⟨⟨s, scl_lean hd⟩, hA.mono K.size⟩, K.madeFn (noT_of hL) hbel hx hA⟩
theorem St.wCut {A : Option Addr} {c : Nat} {xa : List Nat} (K : St B w0 L F w) (hL : (L.all fun p => p.2.2 != 24) = true) (h : Fn w A 2 xa) (hs : ∃ s, scl s xa = [1610612736, 536870912]) :
    Calls Try.prog 69 #[.agg #[.int .i64 2, .int .i64 1, .slice A 2 c], .int .i64 1, .int .i64 0, .int .i64 1, .int .i64 2] w fun e w' => ∃ xc A2 c2, e = .returned (.agg #[.int .i64 1, .int .i64 2, .slice A2 2 c2]) ∧ (∃ s, scl s xc = [536870912, 0]) ∧ St B w0 L (fun w => Fn w A2 2 xc ∧ F w) w' := by
  refine (Cut17 2 1 1 2 2 2 c 1 0 A xa w h (by decide) (by decide) (by decide) (by decide) (by decide) (by decide) (by decide) (by decide)).mono ?_
  rintro e w' ⟨A3, c3, rfl, ⟨hx, hA⟩, hbel⟩
  obtain ⟨s, hs⟩ := hs
  exact ⟨_, A3, c3, rfl, ⟨s, by rw [← scl_cut, hs]; decide +kernel⟩, K.madeFn (noT_of hL) hbel hx hA⟩
theorem St.wSplit {A : Option Addr} {c : Nat} (K : St B w0 L F w) (hL : (L.all fun p => p.2.2 != 24) = true) (h : Fn w A 2 [536870912, 536870912]) :
    Calls Try.prog 70 #[.agg #[.int .i64 2, .int .i64 1, .slice A 2 c]] w fun e w' => ∃ A2 c2, e = .returned (.agg #[.int .i64 4, .int .i64 2, .slice A2 8 c2]) ∧ St B w0 L (fun w => Fn w A2 8 [536870912, 536870912, 536870912, 536870912, 536870912, 536870912, 536870912, 536870912] ∧ F w) w' := by
  refine (Split17 2 1 4 2 8 2 c A _ w h (by decide) (by decide) (by decide) (by decide) (by decide) (by decide)).mono ?_
  rintro e w' ⟨A3, c3, rfl, ⟨hx, hA⟩, hbel⟩
  rw [show splitN 2 4 [536870912, 536870912] 8 = [536870912, 536870912, 536870912, 536870912, 536870912, 536870912, 536870912, 536870912] by decide +kernel] at hx
  exact ⟨A3, c3, rfl, K.madeFn (noT_of hL) hbel hx hA⟩
theorem St.wJoin {A : Option Addr} {c : Nat} (K : St B w0 L F w) (hL : (L.all fun p => p.2.2 != 24) = true) (h : Fn w A 8 [536870912, 536870912, 536870912, 536870912, 536870912, 536870912, 536870912, 536870912]) :
    Calls Try.prog 71 #[.agg #[.int .i64 4, .int .i64 2, .slice A 8 c]] w fun e w' => ∃ A2 c2, e = .returned (.agg #[.int .i64 2, .int .i64 1, .slice A2 2 c2]) ∧ St B w0 L (fun w => Fn w A2 2 [2147483648, 2147483648] ∧ F w) w' := by
  refine (Join17 4 2 2 1 2 8 c 18446744073709551616 A _ w h (by decide) (by decide) (sm_lim seven_lim).2.2 (by decide) (by decide) (by decide) (by decide) (by decide) (by decide)).mono ?_
  rintro e w' ⟨A3, c3, rfl, ⟨hx, hA⟩, hbel⟩
  rw [show joinN 4 2 [536870912, 536870912, 536870912, 536870912, 536870912, 536870912, 536870912, 536870912] 2 = [2147483648, 2147483648] by decide +kernel] at hx
  exact ⟨A3, c3, rfl, K.madeFn (noT_of hL) hbel hx hA⟩
theorem St.wSpread {A : Option Addr} {c : Nat} {xa : List Nat} (K : St B w0 L F w) (hL : (L.all fun p => p.2.2 != 24) = true) (h : Fn w A 2 xa) (hs : ∃ s, scl s xa = [1610612736, 536870912]) :
    Calls Try.prog 66 #[.agg #[.int .i64 2, .int .i64 1, .slice A 2 c], .int .u64 64] w fun e w' => ∃ xd A2 c2, e = .returned (.agg #[.int .i64 2, .int .i64 1, .slice A2 2 c2]) ∧ (∃ s, scl s xd = [87960930222080, 52776558133248]) ∧ St B w0 L (fun w => Fn w A2 2 xd ∧ F w) w' := by
  obtain ⟨s, hs⟩ := hs
  refine (Spread17 2 1 64 2 c 18446744073709551616 A xa w h (Sm.scl hs (by unfold Sm; decide)) (by decide) (sm_lim seven_lim).1 (by decide) (by decide) (by decide) (by decide)).mono ?_
  rintro e w' ⟨s2, A3, c3, rfl, ⟨hx, hd, hA⟩, hbel⟩
  exact ⟨_, A3, c3, rfl, ⟨s2 + s, by rw [← scl_scl, scl_lean hd, ← scl_sprd, hs]; decide +kernel⟩, K.madeFn (noT_of hL) hbel hx hA⟩
theorem St.wLean {A : Option Addr} {c : Nat} {xa : List Nat} (K : St B w0 L F w) (hL : (L.all fun p => p.2.2 != 24) = true) (h : Fn w A 2 xa) (hF : ∀ w, F w → Fn w A 2 xa) (hA : Nw B A) (hs : ∃ s, scl s xa = [1610612736, 536870912]) :
    Calls Try.prog 95 #[.agg #[.int .i64 2, .int .i64 1, .slice A 2 c]] w fun e w' => ∃ xe A2 c2, e = .returned (.agg #[.int .i64 2, .int .i64 1, .slice A2 2 c2]) ∧ (∃ s, scl s xe = [1610612736, 536870912]) ∧ St B w0 L (fun w => Fn w A2 2 xe ∧ F w) w' := by
  refine (K.lean17 hL h hF hA (by decide)).mono ?_
  rintro e w' ⟨s2, A3, c3, rfl, ⟨hd, hA⟩, K2⟩
  obtain ⟨s, hs⟩ := hs
  exact ⟨_, A3, c3, rfl, ⟨s2 + s, by rw [← scl_scl, scl_lean hd, hs]⟩, K2⟩
theorem St.wSum {A : Option Addr} {c : Nat} (K : St B w0 L F w) (h : Fn w A 2 [536870912, 536870912]) :
    Calls Try.prog 73 #[.agg #[.int .i64 2, .int .i64 1, .slice A 2 c]] w fun e w' => ∃ A2 k, e = .returned (.agg #[.slice A2 k k]) ∧ St B w0 L (fun w => (Nt w A2 k k 1073741824 ∧ Nw B A2) ∧ F w) w' := by
  refine (Sum17 2 1 _ (lt_lim (m := 2) (by decide) (by decide)) (by decide) w h).mono ?_
  rintro e w' ⟨A3, k, rfl, ⟨hx, hk, hA⟩, hbel⟩
  exact ⟨A3, k, rfl, K.madeNt hbel hx hA⟩
theorem St.wSum2 {A : Option Addr} {c : Nat} (K : St B w0 L F w) (h : Fn w A 2 [536870912, 536870912]) :
    Calls Try.prog 96 #[.slice A 2 c] w fun e w' => ∃ A2 k, e = .returned (.agg #[.slice A2 k k]) ∧ St B w0 L (fun w => (Nt w A2 k k 1073741824 ∧ k ≤ 1000) ∧ F w) w' :=
  K.sumT (xs := [536870912, 536870912]) h.nts rfl (by decide) (lt_lim (m := 2) (by decide) (by decide))
end
end Go.Proofs.Yteancdipmpmjpaa
