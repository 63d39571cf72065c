/-
  Lemmas and walks of this claim (the texts Fl26 Pa26 of the work; what no proof here uses is left out). No claim of their own.
-/
import Derived.Test.YtpejoaefnnbghaaPE21
set_option linter.all false
set_option linter.unusedSimpArgs false
set_option linter.unusedVariables false
namespace Go.Proofs.Ytpejoaefnnbghaa
open Go.RowKit
attribute [local irreducible] wpHeld wpTree wpList
set_option linter.unusedVariables false
set_option linter.unusedSimpArgs false
def flk (l0 l1 l2 l3 l4 : Bool) : Nat → Int
  | 0 => 0
  | 1 => b2i l0
  | 2 => b2i l0 + 2 * b2i l1
  | 3 => b2i l0 + 2 * b2i l1 + 4 * b2i l2
  | 4 => b2i l0 + 2 * b2i l1 + 4 * b2i l2 + 8 * b2i l3
  | _ => flg l0 l1 l2 l3 l4
theorem flk_or0 : ∀ l0 l1 l2 l3 l4 : Bool, l0 = true → bits .or .i32 (flk l0 l1 l2 l3 l4 0) 1 = flk l0 l1 l2 l3 l4 1 := by decide
theorem flk_no0 : ∀ l0 l1 l2 l3 l4 : Bool, l0 = false → flk l0 l1 l2 l3 l4 0 = flk l0 l1 l2 l3 l4 1 := by decide
theorem flk_or1 : ∀ l0 l1 l2 l3 l4 : Bool, l1 = true → bits .or .i32 (flk l0 l1 l2 l3 l4 1) 2 = flk l0 l1 l2 l3 l4 2 := by decide
theorem flk_no1 : ∀ l0 l1 l2 l3 l4 : Bool, l1 = false → flk l0 l1 l2 l3 l4 1 = flk l0 l1 l2 l3 l4 2 := by decide
theorem flk_or2 : ∀ l0 l1 l2 l3 l4 : Bool, l2 = true → bits .or .i32 (flk l0 l1 l2 l3 l4 2) 4 = flk l0 l1 l2 l3 l4 3 := by decide
theorem flk_no2 : ∀ l0 l1 l2 l3 l4 : Bool, l2 = false → flk l0 l1 l2 l3 l4 2 = flk l0 l1 l2 l3 l4 3 := by decide
theorem flk_or3 : ∀ l0 l1 l2 l3 l4 : Bool, l3 = true → bits .or .i32 (flk l0 l1 l2 l3 l4 3) 8 = flk l0 l1 l2 l3 l4 4 := by decide
theorem flk_no3 : ∀ l0 l1 l2 l3 l4 : Bool, l3 = false → flk l0 l1 l2 l3 l4 3 = flk l0 l1 l2 l3 l4 4 := by decide
theorem flk_or4 : ∀ l0 l1 l2 l3 l4 : Bool, l4 = true → bits .or .i32 (flk l0 l1 l2 l3 l4 4) 16 = flk l0 l1 l2 l3 l4 5 := by decide
theorem flk_no4 : ∀ l0 l1 l2 l3 l4 : Bool, l4 = false → flk l0 l1 l2 l3 l4 4 = flk l0 l1 l2 l3 l4 5 := by decide
theorem ix0 (l0 l1 l2 l3 l4 : Bool) (w : World) : (Instr.index 88 (.agg #[.bool l0, .bool l1, .bool l2, .bool l3, .bool l4]) (.int .i64 0)).run Try.prog w = .ok (.bool l0) w := by kernel_rfl
theorem ix1 (l0 l1 l2 l3 l4 : Bool) (w : World) : (Instr.index 88 (.agg #[.bool l0, .bool l1, .bool l2, .bool l3, .bool l4]) (.int .i64 1)).run Try.prog w = .ok (.bool l1) w := by kernel_rfl
theorem ix2 (l0 l1 l2 l3 l4 : Bool) (w : World) : (Instr.index 88 (.agg #[.bool l0, .bool l1, .bool l2, .bool l3, .bool l4]) (.int .i64 2)).run Try.prog w = .ok (.bool l2) w := by kernel_rfl
theorem ix3 (l0 l1 l2 l3 l4 : Bool) (w : World) : (Instr.index 88 (.agg #[.bool l0, .bool l1, .bool l2, .bool l3, .bool l4]) (.int .i64 3)).run Try.prog w = .ok (.bool l3) w := by kernel_rfl
theorem ix4 (l0 l1 l2 l3 l4 : Bool) (w : World) : (Instr.index 88 (.agg #[.bool l0, .bool l1, .bool l2, .bool l3, .bool l4]) (.int .i64 4)).run Try.prog w = .ok (.bool l4) w := by kernel_rfl
set_option maxRecDepth 100000 in
set_option maxHeartbeats 1000000 in
theorem Flags26 (l0 l1 l2 l3 l4 : Bool) (w : World) :
    Calls Try.prog 53 #[.bool l0, .bool l1, .bool l2, .bool l3, .bool l4] w fun e w' => e = .returned (.int .i32 (flg l0 l1 l2 l3 l4)) ∧ Below w.heap.size w w' := by
  have K := St.start w
  have O0 := Lib.hid (flk_or0 l0 l1 l2 l3 l4)
  have N0 := Lib.hid (flk_no0 l0 l1 l2 l3 l4)
  have O1 := Lib.hid (flk_or1 l0 l1 l2 l3 l4)
  have N1 := Lib.hid (flk_no1 l0 l1 l2 l3 l4)
  have O2 := Lib.hid (flk_or2 l0 l1 l2 l3 l4)
  have N2 := Lib.hid (flk_no2 l0 l1 l2 l3 l4)
  have O3 := Lib.hid (flk_or3 l0 l1 l2 l3 l4)
  have N3 := Lib.hid (flk_no3 l0 l1 l2 l3 l4)
  have O4 := Lib.hid (flk_or4 l0 l1 l2 l3 l4)
  have N4 := Lib.hid (flk_no4 l0 l1 l2 l3 l4)
  have E5 := Lib.hid (show flk l0 l1 l2 l3 l4 5 = flg l0 l1 l2 l3 l4 from rfl)
  have F0H := Lib.hid (show flk l0 l1 l2 l3 l4 0 = 0 from rfl)
  generalize flk l0 l1 l2 l3 l4 = F at *
  generalize flg l0 l1 l2 l3 l4 = rv at *
  have F0 : F 0 = 0 := F0H.out
  go_enter Try.func53, Try.ntmps53
  go_wp2_with (first|go_big_skip|((with_reducible refine at_load ?_);fail)|((with_reducible refine at_store ?_);fail)|((first|((with_reducible refine at_box ?_);refine wm_box K rfl _ _ rfl rfl rfl ?_)|((with_reducible refine at_alloc ?_);refine wm_alloc (v := ?_) (cs := ?_) K rfl _ rfl ?_ ?_ ?_;rotate_left;(with_reducible first|fail);rotate_left;exact rfl));(try clear K);(try clear ww);((fail_if_success (have _h := b9));intro b9 ww K);(try simp [go_sem, Value.cells] at K)))
  go_loopw [11, 20] (fun v i wr => ∃ (k : Nat), k ≤ 5 ∧ i = .int .i64 k ∧ v = .int .i32 (F k) ∧ St w.heap.size w [] Any wr) (fun _ i _ => 5 - (intOf i).toNat)
  case atStart => exact ⟨0, by omega, rfl, by rw [F0], K⟩
  case round =>
    clear K
    obtain ⟨k, hk, rfl, rfl, K⟩ := hrel
    rcases k with _ | _ | _ | _ | _ | _ | k
    · cases hb : l0
      · have E := Lib.hid (N0.out hb)
        have t := hb
        obtain ⟨x, hx⟩ : ∃ x, F 0 = x := ⟨_, rfl⟩
        obtain ⟨y, hy⟩ : ∃ y, F 1 = y := ⟨_, rfl⟩
        rw [hx, hy] at E
        (try simp only [Nat.zero_add, Nat.reduceAdd] at hx ⊢)
        rw [hx]
        clear hk F0
        have ix := ix0
        go_wp2_with (first|go_big_skip|((with_reducible refine at_load ?_);fail)|((with_reducible refine at_store ?_);fail)|((first|((with_reducible refine at_box ?_);refine wm_box K rfl _ _ rfl rfl rfl ?_)|((with_reducible refine at_alloc ?_);refine wm_alloc (v := ?_) (cs := ?_) K rfl _ rfl ?_ ?_ ?_;rotate_left;(with_reducible first|fail);rotate_left;exact rfl));(try clear K);(try clear ww);((fail_if_success (have _h := b9));intro b9 ww K);(try simp [go_sem, Value.cells] at K)))
        exact ⟨⟨1, by omega, by go_num, by rw [hy, ← E.out], K⟩, by simp [intOf]⟩
      · have E := Lib.hid (O0.out hb)
        obtain ⟨x, hx⟩ : ∃ x, F 0 = x := ⟨_, rfl⟩
        obtain ⟨y, hy⟩ : ∃ y, F 1 = y := ⟨_, rfl⟩
        rw [hx, hy] at E
        have e1 := E.out
        (try simp only [Nat.zero_add, Nat.reduceAdd] at hx ⊢)
        rw [hx]
        clear hk F0
        have ix := ix0
        go_wp2_with (first|go_big_skip|((with_reducible refine at_load ?_);fail)|((with_reducible refine at_store ?_);fail)|((first|((with_reducible refine at_box ?_);refine wm_box K rfl _ _ rfl rfl rfl ?_)|((with_reducible refine at_alloc ?_);refine wm_alloc (v := ?_) (cs := ?_) K rfl _ rfl ?_ ?_ ?_;rotate_left;(with_reducible first|fail);rotate_left;exact rfl));(try clear K);(try clear ww);((fail_if_success (have _h := b9));intro b9 ww K);(try simp [go_sem, Value.cells] at K)))
        exact ⟨⟨1, by omega, by go_num, by rw [hy], K⟩, by simp [intOf]⟩
    · cases hb : l1
      · have E := Lib.hid (N1.out hb)
        have t := hb
        obtain ⟨x, hx⟩ : ∃ x, F 1 = x := ⟨_, rfl⟩
        obtain ⟨y, hy⟩ : ∃ y, F 2 = y := ⟨_, rfl⟩
        rw [hx, hy] at E
        (try simp only [Nat.zero_add, Nat.reduceAdd] at hx ⊢)
        rw [hx]
        clear hk F0
        have ix := ix1
        go_wp2_with (first|go_big_skip|((with_reducible refine at_load ?_);fail)|((with_reducible refine at_store ?_);fail)|((first|((with_reducible refine at_box ?_);refine wm_box K rfl _ _ rfl rfl rfl ?_)|((with_reducible refine at_alloc ?_);refine wm_alloc (v := ?_) (cs := ?_) K rfl _ rfl ?_ ?_ ?_;rotate_left;(with_reducible first|fail);rotate_left;exact rfl));(try clear K);(try clear ww);((fail_if_success (have _h := b9));intro b9 ww K);(try simp [go_sem, Value.cells] at K)))
        exact ⟨⟨2, by omega, by go_num, by rw [hy, ← E.out], K⟩, by simp [intOf]⟩
      · have E := Lib.hid (O1.out hb)
        obtain ⟨x, hx⟩ : ∃ x, F 1 = x := ⟨_, rfl⟩
        obtain ⟨y, hy⟩ : ∃ y, F 2 = y := ⟨_, rfl⟩
        rw [hx, hy] at E
        have e1 := E.out
        (try simp only [Nat.zero_add, Nat.reduceAdd] at hx ⊢)
        rw [hx]
        clear hk F0
        have ix := ix1
        go_wp2_with (first|go_big_skip|((with_reducible refine at_load ?_);fail)|((with_reducible refine at_store ?_);fail)|((first|((with_reducible refine at_box ?_);refine wm_box K rfl _ _ rfl rfl rfl ?_)|((with_reducible refine at_alloc ?_);refine wm_alloc (v := ?_) (cs := ?_) K rfl _ rfl ?_ ?_ ?_;rotate_left;(with_reducible first|fail);rotate_left;exact rfl));(try clear K);(try clear ww);((fail_if_success (have _h := b9));intro b9 ww K);(try simp [go_sem, Value.cells] at K)))
        exact ⟨⟨2, by omega, by go_num, by rw [hy], K⟩, by simp [intOf]⟩
    · cases hb : l2
      · have E := Lib.hid (N2.out hb)
        have t := hb
        obtain ⟨x, hx⟩ : ∃ x, F 2 = x := ⟨_, rfl⟩
        obtain ⟨y, hy⟩ : ∃ y, F 3 = y := ⟨_, rfl⟩
        rw [hx, hy] at E
        (try simp only [Nat.zero_add, Nat.reduceAdd] at hx ⊢)
        rw [hx]
        clear hk F0
        have ix := ix2
        go_wp2_with (first|go_big_skip|((with_reducible refine at_load ?_);fail)|((with_reducible refine at_store ?_);fail)|((first|((with_reducible refine at_box ?_);refine wm_box K rfl _ _ rfl rfl rfl ?_)|((with_reducible refine at_alloc ?_);refine wm_alloc (v := ?_) (cs := ?_) K rfl _ rfl ?_ ?_ ?_;rotate_left;(with_reducible first|fail);rotate_left;exact rfl));(try clear K);(try clear ww);((fail_if_success (have _h := b9));intro b9 ww K);(try simp [go_sem, Value.cells] at K)))
        exact ⟨⟨3, by omega, by go_num, by rw [hy, ← E.out], K⟩, by simp [intOf]⟩
      · have E := Lib.hid (O2.out hb)
        obtain ⟨x, hx⟩ : ∃ x, F 2 = x := ⟨_, rfl⟩
        obtain ⟨y, hy⟩ : ∃ y, F 3 = y := ⟨_, rfl⟩
        rw [hx, hy] at E
        have e1 := E.out
        (try simp only [Nat.zero_add, Nat.reduceAdd] at hx ⊢)
        rw [hx]
        clear hk F0
        have ix := ix2
        go_wp2_with (first|go_big_skip|((with_reducible refine at_load ?_);fail)|((with_reducible refine at_store ?_);fail)|((first|((with_reducible refine at_box ?_);refine wm_box K rfl _ _ rfl rfl rfl ?_)|((with_reducible refine at_alloc ?_);refine wm_alloc (v := ?_) (cs := ?_) K rfl _ rfl ?_ ?_ ?_;rotate_left;(with_reducible first|fail);rotate_left;exact rfl));(try clear K);(try clear ww);((fail_if_success (have _h := b9));intro b9 ww K);(try simp [go_sem, Value.cells] at K)))
        exact ⟨⟨3, by omega, by go_num, by rw [hy], K⟩, by simp [intOf]⟩
    · cases hb : l3
      · have E := Lib.hid (N3.out hb)
        have t := hb
        obtain ⟨x, hx⟩ : ∃ x, F 3 = x := ⟨_, rfl⟩
        obtain ⟨y, hy⟩ : ∃ y, F 4 = y := ⟨_, rfl⟩
        rw [hx, hy] at E
        (try simp only [Nat.zero_add, Nat.reduceAdd] at hx ⊢)
        rw [hx]
        clear hk F0
        have ix := ix3
        go_wp2_with (first|go_big_skip|((with_reducible refine at_load ?_);fail)|((with_reducible refine at_store ?_);fail)|((first|((with_reducible refine at_box ?_);refine wm_box K rfl _ _ rfl rfl rfl ?_)|((with_reducible refine at_alloc ?_);refine wm_alloc (v := ?_) (cs := ?_) K rfl _ rfl ?_ ?_ ?_;rotate_left;(with_reducible first|fail);rotate_left;exact rfl));(try clear K);(try clear ww);((fail_if_success (have _h := b9));intro b9 ww K);(try simp [go_sem, Value.cells] at K)))
        exact ⟨⟨4, by omega, by go_num, by rw [hy, ← E.out], K⟩, by simp [intOf]⟩
      · have E := Lib.hid (O3.out hb)
        obtain ⟨x, hx⟩ : ∃ x, F 3 = x := ⟨_, rfl⟩
        obtain ⟨y, hy⟩ : ∃ y, F 4 = y := ⟨_, rfl⟩
        rw [hx, hy] at E
        have e1 := E.out
        (try simp only [Nat.zero_add, Nat.reduceAdd] at hx ⊢)
        rw [hx]
        clear hk F0
        have ix := ix3
        go_wp2_with (first|go_big_skip|((with_reducible refine at_load ?_);fail)|((with_reducible refine at_store ?_);fail)|((first|((with_reducible refine at_box ?_);refine wm_box K rfl _ _ rfl rfl rfl ?_)|((with_reducible refine at_alloc ?_);refine wm_alloc (v := ?_) (cs := ?_) K rfl _ rfl ?_ ?_ ?_;rotate_left;(with_reducible first|fail);rotate_left;exact rfl));(try clear K);(try clear ww);((fail_if_success (have _h := b9));intro b9 ww K);(try simp [go_sem, Value.cells] at K)))
        exact ⟨⟨4, by omega, by go_num, by rw [hy], K⟩, by simp [intOf]⟩
    · cases hb : l4
      · have E := Lib.hid (N4.out hb)
        have t := hb
        obtain ⟨x, hx⟩ : ∃ x, F 4 = x := ⟨_, rfl⟩
        obtain ⟨y, hy⟩ : ∃ y, F 5 = y := ⟨_, rfl⟩
        rw [hx, hy] at E
        (try simp only [Nat.zero_add, Nat.reduceAdd] at hx ⊢)
        rw [hx]
        clear hk F0
        have ix := ix4
        go_wp2_with (first|go_big_skip|((with_reducible refine at_load ?_);fail)|((with_reducible refine at_store ?_);fail)|((first|((with_reducible refine at_box ?_);refine wm_box K rfl _ _ rfl rfl rfl ?_)|((with_reducible refine at_alloc ?_);refine wm_alloc (v := ?_) (cs := ?_) K rfl _ rfl ?_ ?_ ?_;rotate_left;(with_reducible first|fail);rotate_left;exact rfl));(try clear K);(try clear ww);((fail_if_success (have _h := b9));intro b9 ww K);(try simp [go_sem, Value.cells] at K)))
        exact ⟨⟨5, by omega, by go_num, by rw [hy, ← E.out], K⟩, by simp [intOf]⟩
      · have E := Lib.hid (O4.out hb)
        obtain ⟨x, hx⟩ : ∃ x, F 4 = x := ⟨_, rfl⟩
        obtain ⟨y, hy⟩ : ∃ y, F 5 = y := ⟨_, rfl⟩
        rw [hx, hy] at E
        have e1 := E.out
        (try simp only [Nat.zero_add, Nat.reduceAdd] at hx ⊢)
        rw [hx]
        clear hk F0
        have ix := ix4
        go_wp2_with (first|go_big_skip|((with_reducible refine at_load ?_);fail)|((with_reducible refine at_store ?_);fail)|((first|((with_reducible refine at_box ?_);refine wm_box K rfl _ _ rfl rfl rfl ?_)|((with_reducible refine at_alloc ?_);refine wm_alloc (v := ?_) (cs := ?_) K rfl _ rfl ?_ ?_ ?_;rotate_left;(with_reducible first|fail);rotate_left;exact rfl));(try clear K);(try clear ww);((fail_if_success (have _h := b9));intro b9 ww K);(try simp [go_sem, Value.cells] at K)))
        exact ⟨⟨5, by omega, by go_num, by rw [hy], K⟩, by simp [intOf]⟩
    · have e5 := E5.out
      simp only [Nat.zero_add, Nat.reduceAdd] at *
      rw [e5]
      clear hk F0 e5
      go_wp2_with (first|go_big_skip|((with_reducible refine at_load ?_);fail)|((with_reducible refine at_store ?_);fail)|((first|((with_reducible refine at_box ?_);refine wm_box K rfl _ _ rfl rfl rfl ?_)|((with_reducible refine at_alloc ?_);refine wm_alloc (v := ?_) (cs := ?_) K rfl _ rfl ?_ ?_ ?_;rotate_left;(with_reducible first|fail);rotate_left;exact rfl));(try clear K);(try clear ww);((fail_if_success (have _h := b9));intro b9 ww K);(try simp [go_sem, Value.cells] at K)))
      go_ret
      exact ⟨rfl, K.below⟩
    · omega
end Go.Proofs.Ytpejoaefnnbghaa
namespace Go.Proofs.Ytpejoaefnnbghaa
set_option linter.unusedVariables false
theorem csq_core {x r : Nat} (h1 : r * r ≤ x) (h2 : x < (r + 1) * (r + 1)) : x ≤ (if r * r < x then r + 1 else r) * (if r * r < x then r + 1 else r) ∧ (0 < (if r * r < x then r + 1 else r) → ((if r * r < x then r + 1 else r) - 1) * ((if r * r < x then r + 1 else r) - 1) < x) := by
  by_cases h : r * r < x
  · rw [if_pos h]
    exact ⟨Nat.le_of_lt h2, fun _ => h⟩
  · rw [if_neg h]
    refine ⟨Nat.le_of_not_lt h, fun h0 => ?_⟩
    obtain ⟨m, rfl⟩ : ∃ m, r = m + 1 := ⟨r - 1, by omega⟩
    rw [Nat.add_sub_cancel]
    have : (m + 1) * (m + 1) = m * m + 2 * m + 1 := by grind
    omega
theorem csq_spec {x : Nat} (hx : x < 1152921504606846976) : x ≤ csq x * csq x ∧ (0 < csq x → (csq x - 1) * (csq x - 1) < x) :=
  csq_core (isq_fac hx).1 (isq_fac hx).2
theorem root_b {r x : Nat} (h : r * r ≤ x) (hx : x < 160000000000) : r < 400000 := by
  rcases Nat.lt_or_ge r 400000 with h2 | h2
  · exact h2
  · have := Nat.mul_le_mul h2 h2; omega
theorem csq_b {x : Nat} (hx : x < 160000000000) : csq x ≤ 400000 := by
  have h := root_b (isq_fac (Nat.lt_of_lt_of_le hx (by decide))).1 hx
  unfold csq
  split
  · exact h
  · exact Nat.le_of_lt h
theorem und_split {t g m : Int} (ht : 0 ≤ t) (hg : g = 256 * m) (hm : 0 ≤ m) : t * m ≤ 256 * rq (t * g) 65536 1 ∧ 256 * rq (t * g) 65536 1 < t * m + 256 := by
  rw [rq_up _ _ (by omega), hg, show t * (256 * m) = 256 * (t * m) by grind]
  generalize t * m = z at *
  omega
theorem sure_law {xx yy S m : Int} {n : Nat} (bx : 0 ≤ xx ∧ xx ≤ 260112384) (by' : 0 ≤ yy ∧ yy ≤ 260112384) (hS : 0 ≤ S ∧ S ≤ 4096) (hm0 : 0 ≤ m) (hm : S * S = 256 * m) (hn : n = sureN xx yy S) :
    (xx + yy) * m ≤ (n : Int) * n * 256 ∧ (0 < n → ((n : Int) - 1) * (n - 1) * 256 < (xx + yy) * m) := by
  have hu := und_bd bx by' hS
  have hs := und_split (t := xx + yy) (by omega) hm hm0
  have e : und26 xx yy S = rq ((xx + yy) * (S * S)) 65536 1 := rfl
  rw [← e] at hs
  unfold sureN at hn
  generalize (xx + yy) * m = z at *
  generalize und26 xx yy S = u at *
  obtain ⟨v, rfl⟩ : ∃ v : Nat, u = v := ⟨u.toNat, by omega⟩
  have hc := csq_spec (x := v) (by omega)
  rw [show ((v : Int)).toNat = v from rfl] at hn
  rw [← hn] at hc
  obtain ⟨c1, c2⟩ := hc
  constructor
  · have : ((n * n : Nat) : Int) = (n : Int) * n := Int.natCast_mul n n
    generalize n * n = q at *
    omega
  · intro h0
    have c3 := c2 h0
    have : (((n - 1) * (n - 1) : Nat) : Int) = ((n : Int) - 1) * (n - 1) := by rw [Int.natCast_mul, Int.ofNat_sub (by omega)]; rfl
    generalize (n - 1) * (n - 1) = q at *
    omega
theorem lsum_one_of {f : Nat × Int → Int} {A : List Int} {j : Nat} (h : ∀ i, i ≠ j → f (i, A.getD i 0) = 0) : ∀ n, lsum f ((List.range n).map fun i => (i, A.getD i 0)) = if j < n then f (j, A.getD j 0) else 0
  | 0 => by simp [lsum]
  | n + 1 => by
    rw [List.range_succ, List.map_append, lsum_app, lsum_one_of h n]
    simp only [List.map_cons, List.map_nil, lsum]
    by_cases e : j = n
    · subst e
      rw [if_neg (by omega), if_pos (by omega)]; omega
    · rw [h n (fun h => e h.symm)]
      by_cases e2 : j < n
      · rw [if_pos e2, if_pos (by omega)]; omega
      · rw [if_neg e2, if_neg (by omega)]; omega
def one26 (n j : Nat) : List Int := (List.replicate n 0).set j 1073741824
theorem one_len (n j : Nat) : (one26 n j).length = n := by simp [one26]
theorem one_get {n j : Nat} (i : Nat) (hj : j < n) : (one26 n j).getD i 0 = if i = j then 1073741824 else 0 := by
  unfold one26
  rw [List.getD, List.getElem?_set]
  by_cases e : j = i
  · subst e; simp [hj]
  · rw [if_neg e, if_neg (fun h => e h.symm), List.getElem?_replicate]
    split <;> rfl
theorem one_lsum {f : Nat × Int → Int} {n j : Nat} (hj : j < n) (h : ∀ x, x.2 = 0 → f x = 0) : lsum f (num15 (one26 n j)) = f (j, 1073741824) := by
  unfold num15
  rw [one_len, lsum_one_of (j := j) (fun i hi => h _ (by rw [one_get i hj, if_neg hi])) n, if_pos hj, one_get j hj, if_pos rfl]
theorem one_sum {n j : Nat} (hj : j < n) : isum (one26 n j) = 1073741824 := by
  rw [isum_num15, one_lsum hj fun x h => h]
theorem one_gr {p q n j : Nat} {zs : List Int} (G : Gr p q zs) (hl : zs.length = n) (hj : j < n) : Gr p q (one26 n j) := by
  refine ⟨G.w0, G.w1, G.h0, G.h1, by rw [one_len, ← hl]; exact G.len, fun z hz => ?_, by rw [one_sum hj]; decide⟩
  obtain ⟨i, hi, rfl⟩ := List.mem_iff_getElem.1 hz
  have := one_get i hj
  rw [List.getD, List.getElem?_eq_getElem hi] at this
  simp only [Option.getD_some] at this
  rw [this]; split <;> omega
theorem one_xx {p n j : Nat} (hj : j < n) : xx15 (one26 n j) p = 0 := by
  unfold xx15 sm vary15
  rw [one_sum hj, one_lsum hj fun x h => mo_none _ _ _ _ h, one_lsum hj fun x h => mo_none _ _ _ _ h, mo20, mo10]
  generalize xv p (j, 1073741824) = x
  rw [show (1073741824 * (1073741824 * x * x) - 1073741824 * x * (1073741824 * x) : Int) = 0 by grind]
  decide
theorem one_yy {p n j : Nat} (hj : j < n) : yy15 (one26 n j) p = 0 := by
  unfold yy15 sm vary15
  rw [one_sum hj, one_lsum hj fun x h => mo_none _ _ _ _ h, one_lsum hj fun x h => mo_none _ _ _ _ h, mo02, mo01]
  generalize yv p (j, 1073741824) = x
  rw [show (1073741824 * (1073741824 * x * x) - 1073741824 * x * (1073741824 * x) : Int) = 0 by grind]
  decide
theorem sure_none (S : Int) : sureN 0 0 S = 0 := by
  unfold sureN und26
  rw [show ((0 : Int) + 0) * (S * S) = 0 by simp, show rq 0 65536 1 = 0 by decide]
  decide +kernel
def zer26 (zs : List Int) (k : Nat) : List Int := List.replicate k 0 ++ zs.drop k
theorem zer_step {zs : List Int} {k : Nat} (h : k < zs.length) : (zer26 zs k).set k 0 = zer26 zs (k + 1) := by
  unfold zer26
  rw [List.set_append_right _ _ (by simp), List.length_replicate, Nat.sub_self, List.drop_eq_getElem_cons h, List.set_cons_zero, List.replicate_succ', List.append_assoc]
  rfl
theorem zer_end (zs : List Int) : zer26 zs zs.length = List.replicate zs.length 0 := by unfold zer26; simp
end Go.Proofs.Ytpejoaefnnbghaa
