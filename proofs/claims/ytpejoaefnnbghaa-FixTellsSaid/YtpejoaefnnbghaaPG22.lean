/-
  Lemmas and walks of this claim (the texts Fl26 of the work; what no proof here uses is left out). No claim of their own.
-/
import Derived.Test.YtpejoaefnnbghaaPG21
set_option linter.all false
set_option linter.unusedSimpArgs false
set_option linter.unusedVariables false
namespace Go.Proofs.Ytpejoaefnnbghaa
open Go.RowKit
attribute [local irreducible] wpHeld wpTree wpList
set_option linter.unusedVariables false
set_option linter.unusedSimpArgs false
def flk (l0 l1 l2 l3 l4 : Bool) : Nat → Int
  | 0 => 0
  | 1 => b2i l0
  | 2 => b2i l0 + 2 * b2i l1
  | 3 => b2i l0 + 2 * b2i l1 + 4 * b2i l2
  | 4 => b2i l0 + 2 * b2i l1 + 4 * b2i l2 + 8 * b2i l3
  | _ => flg l0 l1 l2 l3 l4
theorem flk_or0 : ∀ l0 l1 l2 l3 l4 : Bool, l0 = true → bits .or .i32 (flk l0 l1 l2 l3 l4 0) 1 = flk l0 l1 l2 l3 l4 1 := by decide
theorem flk_no0 : ∀ l0 l1 l2 l3 l4 : Bool, l0 = false → flk l0 l1 l2 l3 l4 0 = flk l0 l1 l2 l3 l4 1 := by decide
theorem flk_ad0 : ∀ l0 l1 l2 l3 l4 : Bool, l0 = true → IntKind.i32.wrap (flk l0 l1 l2 l3 l4 0 + 1) = flk l0 l1 l2 l3 l4 1 := by decide
theorem flk_or1 : ∀ l0 l1 l2 l3 l4 : Bool, l1 = true → bits .or .i32 (flk l0 l1 l2 l3 l4 1) 2 = flk l0 l1 l2 l3 l4 2 := by decide
theorem flk_no1 : ∀ l0 l1 l2 l3 l4 : Bool, l1 = false → flk l0 l1 l2 l3 l4 1 = flk l0 l1 l2 l3 l4 2 := by decide
theorem flk_ad1 : ∀ l0 l1 l2 l3 l4 : Bool, l1 = true → IntKind.i32.wrap (flk l0 l1 l2 l3 l4 1 + 2) = flk l0 l1 l2 l3 l4 2 := by decide
theorem flk_or2 : ∀ l0 l1 l2 l3 l4 : Bool, l2 = true → bits .or .i32 (flk l0 l1 l2 l3 l4 2) 4 = flk l0 l1 l2 l3 l4 3 := by decide
theorem flk_no2 : ∀ l0 l1 l2 l3 l4 : Bool, l2 = false → flk l0 l1 l2 l3 l4 2 = flk l0 l1 l2 l3 l4 3 := by decide
theorem flk_ad2 : ∀ l0 l1 l2 l3 l4 : Bool, l2 = true → IntKind.i32.wrap (flk l0 l1 l2 l3 l4 2 + 4) = flk l0 l1 l2 l3 l4 3 := by decide
theorem flk_or3 : ∀ l0 l1 l2 l3 l4 : Bool, l3 = true → bits .or .i32 (flk l0 l1 l2 l3 l4 3) 8 = flk l0 l1 l2 l3 l4 4 := by decide
theorem flk_no3 : ∀ l0 l1 l2 l3 l4 : Bool, l3 = false → flk l0 l1 l2 l3 l4 3 = flk l0 l1 l2 l3 l4 4 := by decide
theorem flk_ad3 : ∀ l0 l1 l2 l3 l4 : Bool, l3 = true → IntKind.i32.wrap (flk l0 l1 l2 l3 l4 3 + 8) = flk l0 l1 l2 l3 l4 4 := by decide
theorem flk_or4 : ∀ l0 l1 l2 l3 l4 : Bool, l4 = true → bits .or .i32 (flk l0 l1 l2 l3 l4 4) 16 = flk l0 l1 l2 l3 l4 5 := by decide
theorem flk_no4 : ∀ l0 l1 l2 l3 l4 : Bool, l4 = false → flk l0 l1 l2 l3 l4 4 = flk l0 l1 l2 l3 l4 5 := by decide
theorem flk_ad4 : ∀ l0 l1 l2 l3 l4 : Bool, l4 = true → IntKind.i32.wrap (flk l0 l1 l2 l3 l4 4 + 16) = flk l0 l1 l2 l3 l4 5 := by decide
theorem ix0 (l0 l1 l2 l3 l4 : Bool) (w : World) : (Instr.index 88 (.agg #[.bool l0, .bool l1, .bool l2, .bool l3, .bool l4]) (.int .i64 0)).run Try.prog w = .ok (.bool l0) w := by kernel_rfl
theorem ix1 (l0 l1 l2 l3 l4 : Bool) (w : World) : (Instr.index 88 (.agg #[.bool l0, .bool l1, .bool l2, .bool l3, .bool l4]) (.int .i64 1)).run Try.prog w = .ok (.bool l1) w := by kernel_rfl
theorem ix2 (l0 l1 l2 l3 l4 : Bool) (w : World) : (Instr.index 88 (.agg #[.bool l0, .bool l1, .bool l2, .bool l3, .bool l4]) (.int .i64 2)).run Try.prog w = .ok (.bool l2) w := by kernel_rfl
theorem ix3 (l0 l1 l2 l3 l4 : Bool) (w : World) : (Instr.index 88 (.agg #[.bool l0, .bool l1, .bool l2, .bool l3, .bool l4]) (.int .i64 3)).run Try.prog w = .ok (.bool l3) w := by kernel_rfl
theorem ix4 (l0 l1 l2 l3 l4 : Bool) (w : World) : (Instr.index 88 (.agg #[.bool l0, .bool l1, .bool l2, .bool l3, .bool l4]) (.int .i64 4)).run Try.prog w = .ok (.bool l4) w := by kernel_rfl
set_option maxRecDepth 100000 in
set_option maxHeartbeats 1000000 in
theorem Flags26 (l0 l1 l2 l3 l4 : Bool) (w : World) :
    Calls Try.prog 53 #[.bool l0, .bool l1, .bool l2, .bool l3, .bool l4] w fun e w' => e = .returned (.int .i32 (flg l0 l1 l2 l3 l4)) ∧ Below w.heap.size w w' := by
  have K := St.start w
  have O0 := Lib.hid (flk_or0 l0 l1 l2 l3 l4)
  have N0 := Lib.hid (flk_no0 l0 l1 l2 l3 l4)
  have O1 := Lib.hid (flk_or1 l0 l1 l2 l3 l4)
  have N1 := Lib.hid (flk_no1 l0 l1 l2 l3 l4)
  have O2 := Lib.hid (flk_or2 l0 l1 l2 l3 l4)
  have N2 := Lib.hid (flk_no2 l0 l1 l2 l3 l4)
  have O3 := Lib.hid (flk_or3 l0 l1 l2 l3 l4)
  have N3 := Lib.hid (flk_no3 l0 l1 l2 l3 l4)
  have O4 := Lib.hid (flk_or4 l0 l1 l2 l3 l4)
  have N4 := Lib.hid (flk_no4 l0 l1 l2 l3 l4)
  have E5 := Lib.hid (show flk l0 l1 l2 l3 l4 5 = flg l0 l1 l2 l3 l4 from rfl)
  have F0H := Lib.hid (show flk l0 l1 l2 l3 l4 0 = 0 from rfl)
  generalize flk l0 l1 l2 l3 l4 = F at *
  generalize flg l0 l1 l2 l3 l4 = rv at *
  have F0 : F 0 = 0 := F0H.out
  go_enter Try.func53, Try.ntmps53
  go_wp2_with (first|go_big_skip|((with_reducible refine at_load ?_);fail)|((with_reducible refine at_store ?_);fail)|((first|((with_reducible refine at_box ?_);refine wm_box K rfl _ _ rfl rfl rfl ?_)|((with_reducible refine at_alloc ?_);refine wm_alloc (v := ?_) (cs := ?_) K rfl _ rfl ?_ ?_ ?_;rotate_left;(with_reducible first|fail);rotate_left;exact rfl));(try clear K);(try clear ww);((fail_if_success (have _h := b9));intro b9 ww K);(try simp [go_sem, Value.cells] at K)))
  go_loopw [11, 20] (fun v i wr => ∃ (k : Nat), k ≤ 5 ∧ i = .int .i64 k ∧ v = .int .i32 (F k) ∧ St w.heap.size w [] Any wr) (fun _ i _ => 5 - (intOf i).toNat)
  case atStart => exact ⟨0, by omega, rfl, by rw [F0], K⟩
  case round =>
    clear K
    obtain ⟨k, hk, rfl, rfl, K⟩ := hrel
    rcases k with _ | _ | _ | _ | _ | _ | k
    · cases hb : l0
      · have E := Lib.hid (N0.out hb)
        have t := hb
        obtain ⟨x, hx⟩ : ∃ x, F 0 = x := ⟨_, rfl⟩
        obtain ⟨y, hy⟩ : ∃ y, F 1 = y := ⟨_, rfl⟩
        rw [hx, hy] at E
        (try simp only [Nat.zero_add, Nat.reduceAdd] at hx ⊢)
        rw [hx]
        clear hk F0
        have ix := ix0
        go_wp2_with (first|go_big_skip|((with_reducible refine at_load ?_);fail)|((with_reducible refine at_store ?_);fail)|((first|((with_reducible refine at_box ?_);refine wm_box K rfl _ _ rfl rfl rfl ?_)|((with_reducible refine at_alloc ?_);refine wm_alloc (v := ?_) (cs := ?_) K rfl _ rfl ?_ ?_ ?_;rotate_left;(with_reducible first|fail);rotate_left;exact rfl));(try clear K);(try clear ww);((fail_if_success (have _h := b9));intro b9 ww K);(try simp [go_sem, Value.cells] at K)))
        exact ⟨⟨1, by omega, by go_num, by rw [hy, ← E.out], K⟩, by simp [intOf]⟩
      · have E := Lib.hid (O0.out hb)
        obtain ⟨x, hx⟩ : ∃ x, F 0 = x := ⟨_, rfl⟩
        obtain ⟨y, hy⟩ : ∃ y, F 1 = y := ⟨_, rfl⟩
        rw [hx, hy] at E
        have e1 := E.out
        (try simp only [Nat.zero_add, Nat.reduceAdd] at hx ⊢)
        rw [hx]
        clear hk F0
        have ix := ix0
        go_wp2_with (first|go_big_skip|((with_reducible refine at_load ?_);fail)|((with_reducible refine at_store ?_);fail)|((first|((with_reducible refine at_box ?_);refine wm_box K rfl _ _ rfl rfl rfl ?_)|((with_reducible refine at_alloc ?_);refine wm_alloc (v := ?_) (cs := ?_) K rfl _ rfl ?_ ?_ ?_;rotate_left;(with_reducible first|fail);rotate_left;exact rfl));(try clear K);(try clear ww);((fail_if_success (have _h := b9));intro b9 ww K);(try simp [go_sem, Value.cells] at K)))
        exact ⟨⟨1, by omega, by go_num, by rw [hy], K⟩, by simp [intOf]⟩
    · cases hb : l1
      · have E := Lib.hid (N1.out hb)
        have t := hb
        obtain ⟨x, hx⟩ : ∃ x, F 1 = x := ⟨_, rfl⟩
        obtain ⟨y, hy⟩ : ∃ y, F 2 = y := ⟨_, rfl⟩
        rw [hx, hy] at E
        (try simp only [Nat.zero_add, Nat.reduceAdd] at hx ⊢)
        rw [hx]
        clear hk F0
        have ix := ix1
        go_wp2_with (first|go_big_skip|((with_reducible refine at_load ?_);fail)|((with_reducible refine at_store ?_);fail)|((first|((with_reducible refine at_box ?_);refine wm_box K rfl _ _ rfl rfl rfl ?_)|((with_reducible refine at_alloc ?_);refine wm_alloc (v := ?_) (cs := ?_) K rfl _ rfl ?_ ?_ ?_;rotate_left;(with_reducible first|fail);rotate_left;exact rfl));(try clear K);(try clear ww);((fail_if_success (have _h := b9));intro b9 ww K);(try simp [go_sem, Value.cells] at K)))
        exact ⟨⟨2, by omega, by go_num, by rw [hy, ← E.out], K⟩, by simp [intOf]⟩
      · have E := Lib.hid (O1.out hb)
        obtain ⟨x, hx⟩ : ∃ x, F 1 = x := ⟨_, rfl⟩
        obtain ⟨y, hy⟩ : ∃ y, F 2 = y := ⟨_, rfl⟩
        rw [hx, hy] at E
        have e1 := E.out
        (try simp only [Nat.zero_add, Nat.reduceAdd] at hx ⊢)
        rw [hx]
        clear hk F0
        have ix := ix1
        go_wp2_with (first|go_big_skip|((with_reducible refine at_load ?_);fail)|((with_reducible refine at_store ?_);fail)|((first|((with_reducible refine at_box ?_);refine wm_box K rfl _ _ rfl rfl rfl ?_)|((with_reducible refine at_alloc ?_);refine wm_alloc (v := ?_) (cs := ?_) K rfl _ rfl ?_ ?_ ?_;rotate_left;(with_reducible first|fail);rotate_left;exact rfl));(try clear K);(try clear ww);((fail_if_success (have _h := b9));intro b9 ww K);(try simp [go_sem, Value.cells] at K)))
        exact ⟨⟨2, by omega, by go_num, by rw [hy], K⟩, by simp [intOf]⟩
    · cases hb : l2
      · have E := Lib.hid (N2.out hb)
        have t := hb
        obtain ⟨x, hx⟩ : ∃ x, F 2 = x := ⟨_, rfl⟩
        obtain ⟨y, hy⟩ : ∃ y, F 3 = y := ⟨_, rfl⟩
        rw [hx, hy] at E
        (try simp only [Nat.zero_add, Nat.reduceAdd] at hx ⊢)
        rw [hx]
        clear hk F0
        have ix := ix2
        go_wp2_with (first|go_big_skip|((with_reducible refine at_load ?_);fail)|((with_reducible refine at_store ?_);fail)|((first|((with_reducible refine at_box ?_);refine wm_box K rfl _ _ rfl rfl rfl ?_)|((with_reducible refine at_alloc ?_);refine wm_alloc (v := ?_) (cs := ?_) K rfl _ rfl ?_ ?_ ?_;rotate_left;(with_reducible first|fail);rotate_left;exact rfl));(try clear K);(try clear ww);((fail_if_success (have _h := b9));intro b9 ww K);(try simp [go_sem, Value.cells] at K)))
        exact ⟨⟨3, by omega, by go_num, by rw [hy, ← E.out], K⟩, by simp [intOf]⟩
      · have E := Lib.hid (O2.out hb)
        obtain ⟨x, hx⟩ : ∃ x, F 2 = x := ⟨_, rfl⟩
        obtain ⟨y, hy⟩ : ∃ y, F 3 = y := ⟨_, rfl⟩
        rw [hx, hy] at E
        have e1 := E.out
        (try simp only [Nat.zero_add, Nat.reduceAdd] at hx ⊢)
        rw [hx]
        clear hk F0
        have ix := ix2
        go_wp2_with (first|go_big_skip|((with_reducible refine at_load ?_);fail)|((with_reducible refine at_store ?_);fail)|((first|((with_reducible refine at_box ?_);refine wm_box K rfl _ _ rfl rfl rfl ?_)|((with_reducible refine at_alloc ?_);refine wm_alloc (v := ?_) (cs := ?_) K rfl _ rfl ?_ ?_ ?_;rotate_left;(with_reducible first|fail);rotate_left;exact rfl));(try clear K);(try clear ww);((fail_if_success (have _h := b9));intro b9 ww K);(try simp [go_sem, Value.cells] at K)))
        exact ⟨⟨3, by omega, by go_num, by rw [hy], K⟩, by simp [intOf]⟩
    · cases hb : l3
      · have E := Lib.hid (N3.out hb)
        have t := hb
        obtain ⟨x, hx⟩ : ∃ x, F 3 = x := ⟨_, rfl⟩
        obtain ⟨y, hy⟩ : ∃ y, F 4 = y := ⟨_, rfl⟩
        rw [hx, hy] at E
        (try simp only [Nat.zero_add, Nat.reduceAdd] at hx ⊢)
        rw [hx]
        clear hk F0
        have ix := ix3
        go_wp2_with (first|go_big_skip|((with_reducible refine at_load ?_);fail)|((with_reducible refine at_store ?_);fail)|((first|((with_reducible refine at_box ?_);refine wm_box K rfl _ _ rfl rfl rfl ?_)|((with_reducible refine at_alloc ?_);refine wm_alloc (v := ?_) (cs := ?_) K rfl _ rfl ?_ ?_ ?_;rotate_left;(with_reducible first|fail);rotate_left;exact rfl));(try clear K);(try clear ww);((fail_if_success (have _h := b9));intro b9 ww K);(try simp [go_sem, Value.cells] at K)))
        exact ⟨⟨4, by omega, by go_num, by rw [hy, ← E.out], K⟩, by simp [intOf]⟩
      · have E := Lib.hid (O3.out hb)
        obtain ⟨x, hx⟩ : ∃ x, F 3 = x := ⟨_, rfl⟩
        obtain ⟨y, hy⟩ : ∃ y, F 4 = y := ⟨_, rfl⟩
        rw [hx, hy] at E
        have e1 := E.out
        (try simp only [Nat.zero_add, Nat.reduceAdd] at hx ⊢)
        rw [hx]
        clear hk F0
        have ix := ix3
        go_wp2_with (first|go_big_skip|((with_reducible refine at_load ?_);fail)|((with_reducible refine at_store ?_);fail)|((first|((with_reducible refine at_box ?_);refine wm_box K rfl _ _ rfl rfl rfl ?_)|((with_reducible refine at_alloc ?_);refine wm_alloc (v := ?_) (cs := ?_) K rfl _ rfl ?_ ?_ ?_;rotate_left;(with_reducible first|fail);rotate_left;exact rfl));(try clear K);(try clear ww);((fail_if_success (have _h := b9));intro b9 ww K);(try simp [go_sem, Value.cells] at K)))
        exact ⟨⟨4, by omega, by go_num, by rw [hy], K⟩, by simp [intOf]⟩
    · cases hb : l4
      · have E := Lib.hid (N4.out hb)
        have t := hb
        obtain ⟨x, hx⟩ : ∃ x, F 4 = x := ⟨_, rfl⟩
        obtain ⟨y, hy⟩ : ∃ y, F 5 = y := ⟨_, rfl⟩
        rw [hx, hy] at E
        (try simp only [Nat.zero_add, Nat.reduceAdd] at hx ⊢)
        rw [hx]
        clear hk F0
        have ix := ix4
        go_wp2_with (first|go_big_skip|((with_reducible refine at_load ?_);fail)|((with_reducible refine at_store ?_);fail)|((first|((with_reducible refine at_box ?_);refine wm_box K rfl _ _ rfl rfl rfl ?_)|((with_reducible refine at_alloc ?_);refine wm_alloc (v := ?_) (cs := ?_) K rfl _ rfl ?_ ?_ ?_;rotate_left;(with_reducible first|fail);rotate_left;exact rfl));(try clear K);(try clear ww);((fail_if_success (have _h := b9));intro b9 ww K);(try simp [go_sem, Value.cells] at K)))
        exact ⟨⟨5, by omega, by go_num, by rw [hy, ← E.out], K⟩, by simp [intOf]⟩
      · have E := Lib.hid (O4.out hb)
        obtain ⟨x, hx⟩ : ∃ x, F 4 = x := ⟨_, rfl⟩
        obtain ⟨y, hy⟩ : ∃ y, F 5 = y := ⟨_, rfl⟩
        rw [hx, hy] at E
        have e1 := E.out
        (try simp only [Nat.zero_add, Nat.reduceAdd] at hx ⊢)
        rw [hx]
        clear hk F0
        have ix := ix4
        go_wp2_with (first|go_big_skip|((with_reducible refine at_load ?_);fail)|((with_reducible refine at_store ?_);fail)|((first|((with_reducible refine at_box ?_);refine wm_box K rfl _ _ rfl rfl rfl ?_)|((with_reducible refine at_alloc ?_);refine wm_alloc (v := ?_) (cs := ?_) K rfl _ rfl ?_ ?_ ?_;rotate_left;(with_reducible first|fail);rotate_left;exact rfl));(try clear K);(try clear ww);((fail_if_success (have _h := b9));intro b9 ww K);(try simp [go_sem, Value.cells] at K)))
        exact ⟨⟨5, by omega, by go_num, by rw [hy], K⟩, by simp [intOf]⟩
    · have e5 := E5.out
      simp only [Nat.zero_add, Nat.reduceAdd] at *
      rw [e5]
      clear hk F0 e5
      go_wp2_with (first|go_big_skip|((with_reducible refine at_load ?_);fail)|((with_reducible refine at_store ?_);fail)|((first|((with_reducible refine at_box ?_);refine wm_box K rfl _ _ rfl rfl rfl ?_)|((with_reducible refine at_alloc ?_);refine wm_alloc (v := ?_) (cs := ?_) K rfl _ rfl ?_ ?_ ?_;rotate_left;(with_reducible first|fail);rotate_left;exact rfl));(try clear K);(try clear ww);((fail_if_success (have _h := b9));intro b9 ww K);(try simp [go_sem, Value.cells] at K)))
      go_ret
      exact ⟨rfl, K.below⟩
    · omega
end Go.Proofs.Ytpejoaefnnbghaa
