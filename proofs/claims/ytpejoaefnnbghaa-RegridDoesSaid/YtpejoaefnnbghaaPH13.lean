/-
  Lemmas and walks of this claim (the texts Gc14 Gd14 of the work; what no proof here uses is left out). No claim of their own.
-/
import Derived.Test.YtpejoaefnnbghaaPH10
import Derived.Test.YtpejoaefnnbghaaPH11
import Derived.Test.YtpejoaefnnbghaaPH5
set_option linter.all false
set_option linter.unusedSimpArgs false
set_option linter.unusedVariables false
namespace Go.Proofs.Ytpejoaefnnbghaa
open Go.RowKit
attribute [local irreducible] wpHeld wpTree wpList
set_option linter.unusedVariables false
theorem Len14 (W H X Y S : Int) (A : Option Addr) (n c : Nat) (w : World) (h : 1 ≤ W * H ∧ W * H ≤ 4096) :
    Calls Try.prog 80 #[.agg #[.int .i64 W, .int .i64 H, .int .i64 X, .int .i64 Y, .int .i64 S, .slice A n c]] w fun e w' => e = .returned (.int .i64 (W * H)) ∧ Below w.heap.size w w' := by
  have K := St.start w
  obtain ⟨q, hq⟩ : ∃ q, W * H = q := ⟨_, rfl⟩
  have e1h : Hid (wrap64 (W * H) = q) := Lib.hid (by unfold wrap64; omega)
  have e2h : Hid (IntKind.i64.wrap (W * H) = q) := Lib.hid ((IntWalk.i64_in _ (by omega)).trans hq)
  rw [hq]
  clear h hq
  have e1 := e1h.out
  have e2 := e2h.out
  go_enter Try.func80, Try.ntmps80
  go_wp2_with (first|((with_reducible refine at_load ?_);first|(refine wm_own (cs := ?_) (t := ?_) (v := ?_) K rfl _ _ rfl rfl ?_ ?_ ?_ ?_;rotate_left 2;(repeat (exact At.hd));rotate_left;(exact rfl);(with_reducible first|exact one3)))|((first|((with_reducible refine at_box ?_);refine wm_box K rfl _ _ rfl rfl rfl ?_));(try clear K);(try clear ww);((fail_if_success (have _h := b1));intro b1 ww K);(try simp [go_sem, Value.cells] at K)))
  go_ret
  exact ⟨rfl, K.below⟩
set_option maxRecDepth 100000 in
theorem GChk14 (W H X Y S : Int) (A : Option Addr) (n c : Nat) (zs : List Int) (w : World) (h : Rd w A n (ints .i64 zs)) (hn : n ≤ 5000) :
    Calls Try.prog 37 #[.agg #[.int .i64 W, .int .i64 H, .int .i64 X, .int .i64 Y, .int .i64 S, .slice A n c]] w fun e w' => e = .returned (.int .i64 (chk14 W H S zs)) ∧ Below w.heap.size w w' := by
  have K := St.start w
  have hl : zs.length = n := by rw [← h.1, ints_len]
  cases hs : sides14 W H S
  · have E := Lib.hid (chk14_a (l := zs) hs)
    generalize chk14 W H S zs = r at *
    clear h hl
    have hf : ∃ (u1 u2 u3 u4 u5 u6 : Bool), decide (W < 1) = u1 ∧ decide (H < 1) = u2 ∧ decide (64 < W) = u3 ∧ decide (64 < H) = u4 ∧ decide (S < 16) = u5 ∧ decide (4096 < S) = u6 ∧ (u1 || u2 || u3 || u4 || u5 || u6) = true := by
      refine ⟨_, _, _, _, _, _, rfl, rfl, rfl, rfl, rfl, rfl, ?_⟩
      unfold sides14 at hs
      rw [Bool.eq_iff_iff] at hs ⊢
      simp only [Bool.and_eq_true, Bool.or_eq_true, decide_eq_true_eq, Bool.false_eq_true, iff_false, iff_true] at hs ⊢
      omega
    obtain ⟨u1, u2, u3, u4, u5, u6, d1, d2, d3, d4, d5, d6, hu⟩ := hf
    clear hs
    cases u1
    case' false => cases u2
    case' false.false => cases u3
    case' false.false.false => cases u4
    case' false.false.false.false => cases u5
    case' false.false.false.false.false => cases u6
    case false.false.false.false.false.false => cases hu
    all_goals
      clear hu
      go_enter Try.func37, Try.ntmps37
      go_wp2_with (first|go_big_skip|((with_reducible refine at_load ?_);first|(refine wm_own (cs := ?_) (t := ?_) (v := ?_) K rfl _ _ rfl rfl ?_ ?_ ?_ ?_;rotate_left 2;(repeat (exact At.hd));rotate_left;(exact rfl);(with_reducible first|exact one2|exact one3)))|((first|((with_reducible refine at_box ?_);refine wm_box K rfl _ _ rfl rfl rfl ?_));(try clear K);(try clear ww);((fail_if_success (have _h := b1));intro b1 ww K);(try simp [go_sem, Value.cells] at K)))
      go_ret
      exact ⟨by rw [E.out]; rfl, K.below⟩
  · have hm := side_mul hs
    obtain ⟨⟨w0, w1⟩, ⟨h0, h1⟩, s0, s1⟩ := sides_iff.1 hs
    have d1 : decide (W < 1) = false := decide_eq_false (by omega)
    have d2 : decide (H < 1) = false := decide_eq_false (by omega)
    have d3 : decide (64 < W) = false := decide_eq_false (by omega)
    have d4 : decide (64 < H) = false := decide_eq_false (by omega)
    have d5 : decide (S < 16) = false := decide_eq_false (by omega)
    have d6 : decide (4096 < S) = false := decide_eq_false (by omega)
    have LN := Lib.hid (fun w => Len14 W H X Y S A n c w hm)
    obtain ⟨q, hq⟩ : ∃ q, W * H = q := ⟨_, rfl⟩
    have e1h : Hid (wrap64 (W * H) = q) := Lib.hid (by unfold wrap64; omega)
    have e2h : Hid (IntKind.i64.wrap (W * H) = q) := Lib.hid ((IntWalk.i64_in _ (by omega)).trans hq)
    by_cases h2 : (n : Int) = q
    case neg =>
      have E := Lib.hid (chk14_b (l := zs) hs (by rw [hl, hq]; exact h2))
      have t1 : ((n : Int) != q) = true := by simpa using h2
      generalize chk14 W H S zs = r at *
      clear h hs hl hm hq w0 w1 h0 h1 s0 s1
      have e1 := e1h.out
      have e2 := e2h.out
      go_enter Try.func37, Try.ntmps37
      go_wp2_with (first|((with_reducible refine at_load ?_);first|(refine wm_own (cs := ?_) (t := ?_) (v := ?_) K rfl _ _ rfl rfl ?_ ?_ ?_ ?_;rotate_left 2;(repeat (exact At.hd));rotate_left;(exact rfl);(with_reducible first|exact one2|exact one3|exact one24)))|((first|((with_reducible refine at_box ?_);refine wm_box K rfl _ _ rfl rfl rfl ?_));(try clear K);(try clear ww);((fail_if_success (have _h := b1));intro b1 ww K);(try simp [go_sem, Value.cells] at K)))
      go_ret
      exact ⟨by rw [E.out]; rfl, K.below⟩
    have t1 : ((n : Int) != q) = false := by simpa using h2
    have E3 := Lib.hid (fun h3 => chk14_c (l := zs) hs (by rw [hl, hq]; exact h2) h3)
    have E4 := Lib.hid (fun h3 => chk14_d (l := zs) hs (by rw [hl, hq]; exact h2) h3)
    have HR := Lib.hid h
    have HL := Lib.hid hl
    have HN := Lib.hid h2
    have HM := Lib.hid hm
    rw [hq, ← h2] at LN
    generalize chk14 W H S zs = r at *
    clear h hs hl hm hq h2 w0 w1 h0 h1 s0 s1
    have e1 := e1h.out
    have e2 := e2h.out
    clear e1h e2h
    go_enter Try.func37, Try.ntmps37
    go_wp2_with (first|((with_reducible refine at_load ?_);first|(refine wm_own (cs := ?_) (t := ?_) (v := ?_) K rfl _ _ rfl rfl ?_ ?_ ?_ ?_;rotate_left 2;(repeat (exact At.hd));rotate_left;(exact rfl);(with_reducible first|exact one2|exact one3|exact one24)))|((first|((with_reducible refine at_box ?_);refine wm_box K rfl _ _ rfl rfl rfl ?_));(try clear K);(try clear ww);((fail_if_success (have _h := b1));intro b1 ww K);(try simp [go_sem, Value.cells] at K)))
    clear e1 e2 t1 d1 d2 d3 d4 d5 d6
    go_loopw [3, 48] (fun sv i wr => ∃ (k : Nat) (s : Int), k ≤ n ∧ i = .int .i64 k ∧ sv = .int .i64 s ∧ Hid (s = isum (zs.take k) ∧ allIn (zs.take k) 0 1073741824 = true) ∧ St w.heap.size w [(b1, #[.int .i64 W, .int .i64 H, .int .i64 X, .int .i64 Y, .int .i64 S, .slice A n c], 26)] Any wr) (fun _ i _ => n - (intOf i).toNat)
    case atStart => exact ⟨0, 0, Nat.zero_le _, rfl, rfl, Lib.hid ⟨rfl, rfl⟩, K⟩
    case round =>
      clear K
      obtain ⟨i, s, hi, rfl, rfl, HA, K⟩ := hrel
      by_cases hlt : i < n
      · obtain ⟨b, off, rfl, hb, hc⟩ := HR.out.get hlt
        have hil : i < zs.length := by rw [HL.out]; exact hlt
        have hv := hc i _ (ints_get .i64 zs i hil)
        have hsn := allIn_snoc (lo := 0) (hi := 1073741824) hil
        have hsm := isum_snoc zs i hil
        have hfa := allIn_false (lo := 0) (hi := 1073741824) hil
        have hbd := isum_take_bd (M := 1073741824) (l := zs.take i) (n := n) (by omega) (fun z hz => by have := allIn_iff.1 HA.out.2 z hz; omega) (by rw [List.length_take]; omega) i
        rw [List.take_take, Nat.min_self, ← HA.out.1] at hbd
        rw [HA.out.2, Bool.true_and] at hsn
        rw [← HA.out.1] at hsm
        have HS := Lib.hid hsn
        have HF := Lib.hid hfa
        have HM2 := Lib.hid hsm
        generalize zs.getD i 0 = z at *
        have ht : decide ((i : Int) < n) = true := decide_eq_true (by omega)
        clear hc hsn hfa hil hsm HA
        by_cases z0 : z < 0
        · have s1 : decide (z < 0) = true := decide_eq_true z0
          go_wp2_with (first|((with_reducible refine at_load ?_);first|(refine wm_cell (v := ?_) rfl _ _ rfl rfl ?_ ?_ ?_;rotate_left;(first|exact (K.below.cell (by assumption)).trans (by assumption));(with_reducible first|exact one2))))
          go_ret
          exact ⟨by rw [E3.out (HF.out (.inl z0))]; rfl, K.below⟩
        · have s1 : decide (z < 0) = false := decide_eq_false z0
          by_cases z1 : 1073741824 < z
          · have s2 : decide (1073741824 < z) = true := decide_eq_true z1
            go_wp2_with (first|((with_reducible refine at_load ?_);first|(refine wm_cell (v := ?_) rfl _ _ rfl rfl ?_ ?_ ?_;rotate_left;(first|exact (K.below.cell (by assumption)).trans (by assumption));(with_reducible first|exact one2))))
            go_ret
            exact ⟨by rw [E3.out (HF.out (.inr z1))]; rfl, K.below⟩
          · have s2 : decide (1073741824 < z) = false := decide_eq_false z1
            have e1h : Hid (wrap64 (s + z) = s + z) := Lib.hid (by unfold wrap64; omega)
            have e2h : Hid (IntKind.i64.wrap (s + z) = s + z) := Lib.hid (IntWalk.i64_in _ (by omega))
            have HX := Lib.hid (show 0 ≤ z ∧ z ≤ 1073741824 by omega)
            clear hbd z0 z1
            have e1 := e1h.out
            have e2 := e2h.out
            clear e1h e2h
            go_wp2_with (first|((with_reducible refine at_load ?_);first|(refine wm_cell (v := ?_) rfl _ _ rfl rfl ?_ ?_ ?_;rotate_left;(first|exact (K.below.cell (by assumption)).trans (by assumption));(with_reducible first|exact one2))))
            clear e1 e2
            exact ⟨⟨i + 1, s + z, by omega, by go_num, rfl, Lib.hid ⟨HM2.out.symm, by rw [HS.out, decide_eq_true HX.out.1, decide_eq_true HX.out.2]; rfl⟩, K⟩, by simp [intOf]; omega⟩
      · obtain rfl : n = i := by omega
        have ht : decide ((n : Int) < n) = false := decide_eq_false (by omega)
        have hz : zs.take n = zs := List.take_of_length_le (by rw [HL.out]; omega)
        rw [hz] at HA
        have hal := allIn_iff.1 HA.out.2
        have hE := E4.out HA.out.2
        have hsb := isum_take_bd (M := 1073741824) (n := n) (by omega) (fun z hz => by have := hal z hz; omega) (Nat.le_of_eq HL.out) n
        rw [hz, ← HA.out.1] at hsb
        rw [HL.out, ← HA.out.1] at hE
        clear hz hal HA
        have hm := HM.out
        have hq := HN.out
        have e1h : Hid (wrap64 (1073741824 - (n : Int)) = 1073741824 - n) := Lib.hid (by unfold wrap64; omega)
        have e2h : Hid (IntKind.i64.wrap (1073741824 - (n : Int)) = 1073741824 - n) := Lib.hid (IntWalk.i64_in _ (by omega))
        have e3h : Hid (wrap64 (n : Int) = n) := Lib.hid (by unfold wrap64; omega)
        by_cases s2 : s < 1073741824 - n
        · have t2 : decide (s < 1073741824 - (n : Int)) = true := decide_eq_true s2
          rw [if_pos (.inr (by omega))] at hE
          have E := Lib.hid hE
          clear hE hsb s2 hm hq
          have e1 := e1h.out
          have e2 := e2h.out
          have e3 := e3h.out
          go_wp2_with (first|((with_reducible refine at_load ?_);first|(refine wm_load (cs := ?_) (t := ?_) (n := ?_) K rfl _ _ rfl rfl ?_ ?_ ?_ ?_;rotate_left 2;(repeat (exact At.hd));rotate_left;(with_reducible first|exact row26);(exact rfl)))|(go_at_call 80;(with_reducible refine (LN.out _).mono ?_);rintro e w2 ⟨rfl, k1⟩;replace K := K.step k1;clear k1;(try clear ww);revert w2;intro ww K))
          go_ret
          exact ⟨by rw [E.out]; rfl, K.below⟩
        · have t2 : decide (s < 1073741824 - (n : Int)) = false := decide_eq_false s2
          by_cases s1 : 1073741824 < s
          · have t1 : decide (1073741824 < s) = true := decide_eq_true s1
            rw [if_pos (.inl s1)] at hE
            have E := Lib.hid hE
            clear hE hsb s1 s2 hm hq
            have e1 := e1h.out
            have e2 := e2h.out
            have e3 := e3h.out
            go_wp2_with (first|((with_reducible refine at_load ?_);first|(refine wm_load (cs := ?_) (t := ?_) (n := ?_) K rfl _ _ rfl rfl ?_ ?_ ?_ ?_;rotate_left 2;(repeat (exact At.hd));rotate_left;(with_reducible first|exact row26);(exact rfl)))|(go_at_call 80;(with_reducible refine (LN.out _).mono ?_);rintro e w2 ⟨rfl, k1⟩;replace K := K.step k1;clear k1;(try clear ww);revert w2;intro ww K))
            go_ret
            exact ⟨by rw [E.out]; rfl, K.below⟩
          · have t1 : decide (1073741824 < s) = false := decide_eq_false s1
            rw [if_neg (by omega)] at hE
            have E := Lib.hid hE
            clear hE hsb s1 s2 hm hq
            have e1 := e1h.out
            have e2 := e2h.out
            have e3 := e3h.out
            go_wp2_with (first|((with_reducible refine at_load ?_);first|(refine wm_load (cs := ?_) (t := ?_) (n := ?_) K rfl _ _ rfl rfl ?_ ?_ ?_ ?_;rotate_left 2;(repeat (exact At.hd));rotate_left;(with_reducible first|exact row26);(exact rfl)))|(go_at_call 80;(with_reducible refine (LN.out _).mono ?_);rintro e w2 ⟨rfl, k1⟩;replace K := K.step k1;clear k1;(try clear ww);revert w2;intro ww K))
            go_ret
            exact ⟨by rw [E.out]; rfl, K.below⟩
set_option maxRecDepth 100000 in
theorem Same14 (W H X Y S : Int) (A A2 : Option Addr) (n c c2 : Nat) (zs : List Int) (w : World) (h : Rd w A n (ints .i64 zs)) (h2 : Rd w A2 n (ints .i64 zs)) (hn : n ≤ 1000000) :
    Calls Try.prog 42 #[.agg #[.int .i64 W, .int .i64 H, .int .i64 X, .int .i64 Y, .int .i64 S, .slice A n c], .agg #[.int .i64 W, .int .i64 H, .int .i64 X, .int .i64 Y, .int .i64 S, .slice A2 n c2]] w fun e w' => e = .returned (.bool true) ∧ Below w.heap.size w w' := by
  have K := St.start w
  have hl : zs.length = n := by rw [← h.1, ints_len]
  have HR := Lib.hid h
  have HR2 := Lib.hid h2
  have HL := Lib.hid hl
  clear h h2 hl
  go_enter Try.func42, Try.ntmps42
  go_wp2_with (first|((with_reducible refine at_load ?_);first|(refine wm_own (cs := ?_) (t := ?_) (v := ?_) K rfl _ _ rfl rfl ?_ ?_ ?_ ?_;rotate_left 2;(repeat (first|exact At.hd|refine At.tl ?_));rotate_left;(exact rfl);(with_reducible first|exact one2|exact one3|exact one24)))|((first|((with_reducible refine at_box ?_);refine wm_box K rfl _ _ rfl rfl rfl ?_));(try clear K);(try clear ww);(first|((fail_if_success (have _h := b2));intro b2 ww K)|((fail_if_success (have _h := b3));intro b3 ww K));(try simp [go_sem, Value.cells] at K)))
  go_loopw [5] (fun i wr => ∃ (k : Nat), k ≤ n ∧ i = .int .i64 k ∧ St w.heap.size w [(b3, #[.int .i64 W, .int .i64 H, .int .i64 X, .int .i64 Y, .int .i64 S, .slice A2 n c2], 26), (b2, #[.int .i64 W, .int .i64 H, .int .i64 X, .int .i64 Y, .int .i64 S, .slice A n c], 26)] Any wr) (fun i _ => n - (intOf i).toNat)
  case atStart => exact ⟨0, Nat.zero_le _, rfl, K⟩
  case round =>
    clear K
    obtain ⟨i, hi, rfl, K⟩ := hrel
    by_cases hlt : i < n
    · obtain ⟨b, off, rfl, hb, hc⟩ := HR.out.get hlt
      obtain ⟨b', off', rfl, hb', hc'⟩ := HR2.out.get hlt
      have hil : i < zs.length := by rw [HL.out]; exact hlt
      have hv := hc i _ (ints_get .i64 zs i hil)
      have hv' := hc' i _ (ints_get .i64 zs i hil)
      generalize zs.getD i 0 = z at *
      have ht : decide ((i : Int) < n) = true := decide_eq_true (by omega)
      clear hc hc' hil
      go_wp2_with (first|((with_reducible refine at_load ?_);first|(refine wm_own (cs := ?_) (t := ?_) (v := ?_) K rfl _ _ rfl rfl ?_ ?_ ?_ ?_;rotate_left 2;(repeat (first|exact At.hd|refine At.tl ?_));rotate_left;(exact rfl);(with_reducible first|exact one24))))
      refine wm_held _ [(true, 0), (true, 1), (true, 2), (true, 3), (true, 4), (true, 5), (true, 6), (true, 7), (true, 8), (true, 9), (true, 10)] K sbr (by kernel_rfl) (by kernel_rfl) ?_; (try clear K); (try clear ww); intro ww K; (try simp [go_sem] at K); simp only [pick, List.getElem?_toArray, List.getElem?_cons_succ, List.getElem?_cons_zero]
      repeat (first|((with_reducible refine ht_load ?_);first|(refine hm_own (cs := ?_) (t := ?_) (v := ?_) rfl _ _ rfl rfl ?_ ?_ ?_ ?_;rotate_left 2;(repeat (first|exact At.hd|refine At.tl ?_));rotate_left;(first|exact rfl|assumption);(with_reducible first|exact one24))|(refine hm_cell (v := ?_) rfl _ _ rfl rfl (fun ww K => ?_) ?_ ?_;rotate_left;(first|exact (K.below.cell (by assumption)).trans (by assumption));(with_reducible first|exact one2)))|(refine held_take (fun K' hK' => ?_);go_simp;first|(apply Exists.intro;refine ⟨?_, hK' _ ?_⟩;(intro _ _;rfl);clear hK' K')))
      refine held_nil ?_
      go_wp2_with fail
      exact ⟨⟨i + 1, by omega, by go_num, K⟩, by simp [intOf]; omega⟩
    · obtain rfl : n = i := by omega
      have ht : decide ((n : Int) < n) = false := decide_eq_false (by omega)
      go_wp2_with (first|((with_reducible refine at_load ?_);first|(refine wm_own (cs := ?_) (t := ?_) (v := ?_) K rfl _ _ rfl rfl ?_ ?_ ?_ ?_;rotate_left 2;(repeat (first|exact At.hd|refine At.tl ?_));rotate_left;(exact rfl);(with_reducible first|exact one24))))
      go_ret
      exact ⟨rfl, K.below⟩
theorem With14 (W H X Y S : Int) (A A2 : Option Addr) (n c n2 c2 : Nat) (w : World) :
    Calls Try.prog 86 #[.agg #[.int .i64 W, .int .i64 H, .int .i64 X, .int .i64 Y, .int .i64 S, .slice A n c], .slice A2 n2 c2] w fun e w' => e = .returned (.agg #[.int .i64 W, .int .i64 H, .int .i64 X, .int .i64 Y, .int .i64 S, .slice A2 n2 c2]) ∧ Below w.heap.size w w' := by
  have K := St.start w
  go_enter Try.func86, Try.ntmps86
  go_wp2_with (first|((with_reducible refine at_load ?_);first|(refine wm_own (cs := ?_) (t := ?_) (v := ?_) K rfl _ _ rfl rfl ?_ ?_ ?_ ?_;rotate_left 2;(repeat (first|exact At.hd|refine At.tl ?_));rotate_left;(exact rfl);(with_reducible first|exact one2|exact one3)))|((with_reducible refine at_store ?_);(first|(refine wm_store (L' := ?_) (cs := ?_) (t := ?_) (n := ?_) K rfl _ _ _ rfl rfl rfl rfl ?_ ?_ ?_ ?_ ?_ ?_;rotate_left 3;(repeat (exact Put.hd));rotate_left;(with_reducible first|exact row26);(exact rfl);(exact rfl);(simp [Ones, Value.oneCell'])));(try clear K);(try clear ww);intro ww K;(try simp [go_sem] at K))|((first|((with_reducible refine at_box ?_);refine wm_box K rfl _ _ rfl rfl rfl ?_)|((with_reducible refine at_alloc ?_);refine wm_alloc (v := ?_) (cs := ?_) K rfl _ rfl ?_ ?_ ?_;rotate_left;(with_reducible first|exact zero26);rotate_left;exact rfl));(try clear K);(try clear ww);(first|((fail_if_success (have _h := b2));intro b2 ww K)|((fail_if_success (have _h := b4));intro b4 ww K));(try simp [go_sem, Value.cells] at K)))
  refine bodyPost_ret (K.res rfl _ rfl (by (repeat (exact At.hd))) (by (with_reducible first|exact row26)) (by (exact rfl))) rfl ?_
  exact ⟨rfl, K.below⟩
end Go.Proofs.Ytpejoaefnnbghaa
namespace Go.Proofs.Ytpejoaefnnbghaa
open Go.RowKit
attribute [local irreducible] wpHeld wpTree wpList
set_option linter.unusedVariables false
theorem small_bd {zs : List Int} (hb : ∀ z ∈ zs, 0 ≤ z ∧ z ≤ 1073741824) : ∀ z ∈ zs, -1125899906842624 ≤ z ∧ z ≤ 1125899906842624 := fun z hz => by have := hb z hz; omega
theorem RNorm14_none (W H X Y S : Int) (A : Option Addr) (n c : Nat) (zs : List Int) (w : World) (h : Rd w A n (ints .i64 zs)) (hb : ∀ z ∈ zs, 0 ≤ z ∧ z ≤ 1073741824) (hn : n ≤ 5000) (hp : isum zs ≤ 0) :
    Calls Try.prog 43 #[.agg #[.int .i64 W, .int .i64 H, .int .i64 X, .int .i64 Y, .int .i64 S, .slice A n c]] w fun e w' => e = .returned (.tuple #[.agg #[.int .i64 W, .int .i64 H, .int .i64 X, .int .i64 Y, .int .i64 S, .slice A n c], .int .i64 7]) ∧ Below w.heap.size w w' := by
  have K := St.start w
  have SM := Lib.hid (fun w (h : Rd w A n (ints .i64 zs)) => RSum14 A n c zs w h (small_bd hb) hn)
  have HR := Lib.hid h
  generalize isum zs = s at *
  have t1 : decide (s ≤ 0) = true := decide_eq_true hp
  clear h hb hp
  go_enter Try.func43, Try.ntmps43
  go_wp2_with (first|((with_reducible refine at_load ?_);first|(refine wm_load (cs := ?_) (t := ?_) (n := ?_) K rfl _ _ rfl rfl ?_ ?_ ?_ ?_;rotate_left 2;(repeat (first|exact At.hd|refine At.tl ?_));rotate_left;(with_reducible first|exact row26);(exact rfl))|(refine wm_own (cs := ?_) (t := ?_) (v := ?_) K rfl _ _ rfl rfl ?_ ?_ ?_ ?_;rotate_left 2;(repeat (first|exact At.hd|refine At.tl ?_));rotate_left;(exact rfl);(with_reducible first|exact one24)))|((with_reducible refine at_store ?_);(first|(refine wm_store (L' := ?_) (cs := ?_) (t := ?_) (n := ?_) K rfl _ _ _ rfl rfl rfl rfl ?_ ?_ ?_ ?_ ?_ ?_;rotate_left 3;(repeat (exact Put.hd));rotate_left;(with_reducible first|exact row26);(exact rfl);(exact rfl);(simp [Ones, Value.oneCell'])));(try clear K);(try clear ww);intro ww K;(try simp [go_sem] at K))|((first|((with_reducible refine at_box ?_);refine wm_box K rfl _ _ rfl rfl rfl ?_)|((with_reducible refine at_alloc ?_);refine wm_alloc (v := ?_) (cs := ?_) K rfl _ rfl ?_ ?_ ?_;rotate_left;(with_reducible first|exact zero26);rotate_left;exact rfl));(try clear K);(try clear ww);(first|((fail_if_success (have _h := b1));intro b1 ww K)|((fail_if_success (have _h := b2));intro b2 ww K));(try simp [go_sem, Value.cells] at K))|(go_at_call 17;(with_reducible refine (SM.out _ (HR.out.below K.below)).mono ?_);rintro e w2 ⟨rfl, k1⟩;replace K := K.step k1;clear k1;(try clear ww);revert w2;intro ww K))
  refine bodyPost_ret (K.res2 rfl _ rfl (by (repeat (exact At.hd))) (by (with_reducible first|exact row26)) (by (exact rfl)) rfl) rfl ?_
  exact ⟨rfl, K.below⟩
set_option maxRecDepth 100000 in
set_option maxHeartbeats 2000000 in
theorem RNorm14 (W H X Y S : Int) (A : Option Addr) (n c : Nat) (zs : List Int) (w : World) (h : Rd w A n (ints .i64 zs)) (hb : ∀ z ∈ zs, 0 ≤ z ∧ z ≤ 1073741824) (hn : n ≤ 5000) (hp : 0 < isum zs) :
    Calls Try.prog 43 #[.agg #[.int .i64 W, .int .i64 H, .int .i64 X, .int .i64 Y, .int .i64 S, .slice A n c]] w fun e w' => ∃ A2 c2, e = .returned (.tuple #[.agg #[.int .i64 W, .int .i64 H, .int .i64 X, .int .i64 Y, .int .i64 S, .slice A2 n c2], .int .i64 0]) ∧ (Rd w' A2 n (ints .i64 (norm14 (isum zs) zs)) ∧ Nw w.heap.size A2) ∧ Below w.heap.size w w' := by
  have K := St.start w
  have hl : zs.length = n := by rw [← h.1, ints_len]
  have SM := Lib.hid (fun w (h : Rd w A n (ints .i64 zs)) => RSum14 A n c zs w h (small_bd hb) hn)
  have HZ := Lib.hid hb
  have HR := Lib.hid h
  have HL := Lib.hid hl
  have HM : Hid (∀ z ∈ zs, z ≤ isum zs) := Lib.hid fun z hz => isum_mem (fun z hz => (hb z hz).1) hz
  have hs := (isum_bd (M := 1073741824) (l := zs) (by omega) (fun z hz => by have := hb z hz; omega)).2
  rw [hl] at hs
  generalize isum zs = s at *
  have t1 : decide (s ≤ 0) = false := decide_eq_false (by omega)
  have HP := Lib.hid (And.intro hp hs)
  clear h hb hp hs hl
  go_enter Try.func43, Try.ntmps43
  go_wp2_with (first|((with_reducible refine at_load ?_);first|(refine wm_own (cs := ?_) (t := ?_) (v := ?_) K rfl _ _ rfl rfl ?_ ?_ ?_ ?_;rotate_left 2;(repeat (first|exact At.hd|refine At.tl ?_));rotate_left;(exact rfl);(with_reducible first|exact one24)))|((first|((with_reducible refine at_box ?_);refine wm_box K rfl _ _ rfl rfl rfl ?_)|((with_reducible refine at_alloc ?_);refine wm_alloc (v := ?_) (cs := ?_) K rfl _ rfl ?_ ?_ ?_;rotate_left;(with_reducible first|exact zero26);rotate_left;exact rfl));(try clear K);(try clear ww);(first|((fail_if_success (have _h := b1));intro b1 ww K)|((fail_if_success (have _h := b2));intro b2 ww K));(try simp [go_sem, Value.cells] at K))|(go_at_call 17;(with_reducible refine (SM.out _ (HR.out.below K.below)).mono ?_);rintro e w2 ⟨rfl, k1⟩;replace K := K.step k1;clear k1;(try clear ww);revert w2;intro ww K))
  go_loopw [5, 6] (fun v i wr => ∃ (k : Nat) (Lo : List Blk), k ≤ n ∧ i = .int .i64 k ∧ OwnT v 2 (ints .i64 (norm14 s (zs.take k))) Lo ∧ St w.heap.size w ((b2, #[.int .i64 0, .int .i64 0, .int .i64 0, .int .i64 0, .int .i64 0, .slice none 0 0], 26) :: (b1, #[.int .i64 W, .int .i64 H, .int .i64 X, .int .i64 Y, .int .i64 S, .slice A n c], 26) :: Lo) Any wr) (fun _ i _ => n - (intOf i).toNat)
  case atStart => exact ⟨0, _, Nat.zero_le _, rfl, OwnT.nil _, K⟩
  case round =>
    clear K
    obtain ⟨i, Lo, hi, rfl, hO, K⟩ := hrel
    by_cases hlt : i < n
    · obtain ⟨b, off, rfl, hb, hc⟩ := HR.out.get hlt
      have hil : i < zs.length := by rw [HL.out]; exact hlt
      have hv := hc i _ (ints_get .i64 zs i hil)
      have hsn := Lib.hid (norm_snoc s zs i hil)
      have h3 := HZ.out _ (getD_mem hil)
      have h4 := HM.out _ (getD_mem hil)
      have hp := HP.out
      have hol : (ints .i64 (norm14 s (zs.take i))).length ≤ 5000 := by rw [ints_len, norm_len, List.length_take]; omega
      generalize zs.getD i 0 = z at *
      have ht : decide ((i : Int) < n) = true := decide_eq_true (by omega)
      have d1 : (z * 1073741824).tdiv s = z * 1073741824 / s := Int.tdiv_eq_ediv_of_nonneg (by omega)
      have q0 : 0 ≤ z * 1073741824 / s := Int.ediv_nonneg (by omega) (by omega)
      have q1 : z * 1073741824 / s ≤ z * 1073741824 := Int.ediv_le_self _ (by omega)
      have e1h : Hid (wrap64 (z * 1073741824) = z * 1073741824) := Lib.hid (by unfold wrap64; omega)
      have e2h : Hid (IntKind.i64.wrap (z * 1073741824) = z * 1073741824) := Lib.hid (IntWalk.i64_in _ (by omega))
      have s0 : (s = 0) = False := by simp; omega
      generalize z * 1073741824 / s = q at *
      have e3h : Hid (wrap64 q = q) := Lib.hid (by unfold wrap64; omega)
      have e4h : Hid (IntKind.i64.wrap q = q) := Lib.hid (IntWalk.i64_in _ (by omega))
      clear hc hil h3 h4 hp q0 q1
      have e1 := e1h.out
      have e2 := e2h.out
      have e3 := e3h.out
      have e4 := e4h.out
      clear e1h e2h e3h e4h
      go_wp2_with (first|((with_reducible refine at_load ?_);first|(refine wm_own (cs := ?_) (t := ?_) (v := ?_) K rfl _ _ rfl rfl ?_ ?_ ?_ ?_;rotate_left 2;(repeat (first|exact At.hd|refine At.tl ?_));rotate_left;(first|exact rfl|assumption);(with_reducible first|exact one24))|(refine wm_cell (v := ?_) rfl _ _ rfl rfl ?_ ?_ ?_;rotate_left;(first|exact (K.below.cell (by assumption)).trans (by assumption));(with_reducible first|exact one2)))|((with_reducible refine at_bsl ?_);refine wm_one K rfl _ _ rfl Try.underlying24 num2 rfl ?_;(try clear K);(try clear ww);intro bb ww K;(try simp [go_sem] at K))|((with_reducible refine at_app ?_);refine wm_appT (L0 := ?_) K ?_ rfl _ _ _ rfl Try.underlying24 num2 rfl hO rfl rfl (by first|omega) (by first|(unfold maxLen;omega)) ?_;rotate_left;(repeat (first|exact Tl.nil|(refine Tl.cons (L0 := ?_) ?_;rotate_left)));(try clear K hO);(try clear ww);intro v ww Lo hO K;simp only [List.cons_append, List.nil_append] at K))
      exact ⟨⟨i + 1, Lo, by omega, by go_num, by rw [hsn.out, ints_app]; exact hO, K⟩, by simp [intOf]; clear e1 e2 e3 e4; omega⟩
    · obtain rfl : n = i := by omega
      have ht : decide ((n : Int) < n) = false := decide_eq_false (by omega)
      have hz : zs.take n = zs := List.take_of_length_le (by rw [HL.out]; omega)
      rw [hz] at hO
      obtain ⟨A2, c2, rfl, hc1, hc2, hA, K2⟩ := hO.fix (L0 := [(b2, #[.int .i64 0, .int .i64 0, .int .i64 0, .int .i64 0, .int .i64 0, .slice none 0 0], 26), (b1, #[.int .i64 W, .int .i64 H, .int .i64 X, .int .i64 Y, .int .i64 S, .slice A n c], 26)]) K
      have hlen : (ints .i64 (norm14 s zs)).length = n := by rw [ints_len, norm_len, HL.out]
      rw [hlen] at K2 ⊢
      clear K hO hz hc1 hc2 hlen
      replace K := K2
      clear K2
      have HA := Lib.hid hA
      clear hA
      have WI := Lib.hid (fun w => With14 W H X Y S A A2 n c n c2 w)
      revert wr
      intro ww K
      go_wp2_with (first|((with_reducible refine at_load ?_);first|(refine wm_load (cs := ?_) (t := ?_) (n := ?_) K rfl _ _ rfl rfl ?_ ?_ ?_ ?_;rotate_left 2;(repeat (first|exact At.hd|refine At.tl ?_));rotate_left;(with_reducible first|exact row26);(exact rfl))|(refine wm_own (cs := ?_) (t := ?_) (v := ?_) K rfl _ _ rfl rfl ?_ ?_ ?_ ?_;rotate_left 2;(repeat (first|exact At.hd|refine At.tl ?_));rotate_left;(exact rfl);(with_reducible first|exact one24)))|((with_reducible refine at_store ?_);(first|(refine wm_store (L' := ?_) (cs := ?_) (t := ?_) (n := ?_) K rfl _ _ _ rfl rfl rfl rfl ?_ ?_ ?_ ?_ ?_ ?_;rotate_left 3;(repeat (exact Put.hd));rotate_left;(with_reducible first|exact row26);(exact rfl);(exact rfl);(simp [Ones, Value.oneCell'])));(try clear K);(try clear ww);intro ww K;(try simp [go_sem] at K))|(go_at_call 86;(with_reducible refine (WI.out _).mono ?_);rintro e w2 ⟨rfl, k1⟩;replace K := K.step k1;clear k1;(try clear ww);revert w2;intro ww K))
      refine bodyPost_ret (K.res2 rfl _ rfl (by (repeat (exact At.hd))) (by (with_reducible first|exact row26)) (by (exact rfl)) rfl) rfl ?_
      exact ⟨A2, c2, rfl, ⟨K.fact.1, HA.out⟩, K.below⟩
end Go.Proofs.Ytpejoaefnnbghaa
