/-
  Lemmas and walks of this claim (the texts Gk14 Gl14 of the work; what no proof here uses is left out). No claim of their own.
-/
import Derived.Test.YtpejoaefnnbghaaPF16
import Derived.Test.YtpejoaefnnbghaaPF2
import Derived.Test.YtpejoaefnnbghaaPF7
import Derived.Test.YtpejoaefnnbghaaPF21
import Derived.Test.YtpejoaefnnbghaaPF1
import Derived.Test.YtpejoaefnnbghaaPF12
import Derived.Test.YtpejoaefnnbghaaPF5
import Derived.Test.YtpejoaefnnbghaaPF3
import Derived.Laws.CopyOwn
set_option linter.all false
set_option linter.unusedSimpArgs false
set_option linter.unusedVariables false
namespace Go.Proofs.Ytpejoaefnnbghaa
open Go.RowKit
attribute [local irreducible] wpHeld wpTree wpList
set_option linter.unusedVariables false
section
variable {B : Nat} {w0 w w' : World} {L : List Blk} {F : World → Prop}
theorem St.rnorm {W H X Y S : Int} {A : Option Addr} {n c : Nat} {zs : List Int} (K : St B w0 L F w) (h : Rd w A n (ints .i64 zs)) (hb : ∀ z ∈ zs, 0 ≤ z ∧ z ≤ 1073741824) (hn : n ≤ 5000) (hp : 0 < isum zs) :
    Calls Try.prog 43 #[.agg #[.int .i64 W, .int .i64 H, .int .i64 X, .int .i64 Y, .int .i64 S, .slice A n c]] w fun e w' => ∃ A2 c2, e = .returned (.tuple #[.agg #[.int .i64 W, .int .i64 H, .int .i64 X, .int .i64 Y, .int .i64 S, .slice A2 n c2], .int .i64 0]) ∧ Nw B A2 ∧ St B w0 L (fun w => Rd w A2 n (ints .i64 (norm14 (isum zs) zs)) ∧ F w) w' := by
  refine (RNorm14 W H X Y S A n c zs w h hb hn hp).mono ?_
  rintro e w' ⟨A2, c2, rfl, ⟨h1, h2⟩, h3⟩
  exact ⟨A2, c2, rfl, h2.mono K.size, K.madeRd h3 h1 h2⟩
end
end Go.Proofs.Ytpejoaefnnbghaa
namespace Go.Proofs.Ytpejoaefnnbghaa
open Go.RowKit
attribute [local irreducible] wpHeld wpTree wpList
set_option linter.unusedVariables false
theorem small_any {l : List Int} (h : ∀ z ∈ l, 0 ≤ z ∧ z ≤ 65535) : ∀ z ∈ l, 0 ≤ z ∧ z ≤ 1073741824 := fun z hz => by have := h z hz; omega
set_option maxRecDepth 100000 in
set_option maxHeartbeats 4000000 in
theorem Made14 (a0 a1 a3 W H S : Int) (A2 : Option Addr) (n len cap : Nat) (ls : List Int) (w : World) (h0 : 0 ≤ a0 ∧ a0 ≤ 255) (h1 : 0 ≤ a1 ∧ a1 ≤ 255) (h3 : 0 ≤ a3 ∧ a3 ≤ 255) (hW : W = 1 + a0 % 8) (hH : H = 1 + a1 % 8) (hS : S = 16 * 2 ^ (a3 % 9).toNat) (hn : W * H = n)
    (h2 : Rd w A2 len (ints .u16 ls)) (hb2 : ∀ z ∈ ls, 0 ≤ z ∧ z ≤ 65535) :
    Calls Try.prog 13 #[.int .u8 a0, .int .u8 a1, .slice A2 len cap, .int .u8 a3] w fun e w' => ∃ A c, e = .returned (.agg #[.int .i64 W, .int .i64 H, .int .i64 1000, .int .i64 (-1000), .int .i64 S, .slice A n c]) ∧ (Rd w' A n (ints .i64 (mad14 n ls)) ∧ Nw w.heap.size A) ∧ Below w.heap.size w w' := by
  have K := St.start w
  have hl2 : ls.length = len := by rw [← h2.1, ints_len]
  have HR2 := Lib.hid h2
  have HL2 := Lib.hid hl2
  have HLB := Lib.hid hb2
  have hw : 1 ≤ W ∧ W ≤ 8 := by omega
  have hh : 1 ≤ H ∧ H ≤ 8 := by omega
  have hn1 : 1 ≤ n ∧ n ≤ 64 := by
    have x1 := Int.mul_le_mul hw.2 hh.2 (by omega) (by omega)
    have x2 := Int.mul_le_mul hw.1 hh.1 (by omega) (by omega)
    omega
  have hsb := src_bd (n := n) hb2
  have HSB := Lib.hid hsb
  have HFP := Lib.hid (fix_pos hsb (by rw [src_len]; omega))
  have e0h : Hid (wrap64 a0 = a0) := Lib.hid (by unfold wrap64; omega)
  have e1h : Hid (wrap64 a1 = a1) := Lib.hid (by unfold wrap64; omega)
  have e2h : Hid (wrap64 (1 + a0.tmod 8) = W) := Lib.hid (by rw [Int.tmod_eq_emod_of_nonneg h0.1]; unfold wrap64; omega)
  have e3h : Hid (wrap64 (1 + a1.tmod 8) = H) := Lib.hid (by rw [Int.tmod_eq_emod_of_nonneg h1.1]; unfold wrap64; omega)
  obtain ⟨k, hk⟩ : ∃ k : Nat, k = (a3 % 9).toNat := ⟨_, rfl⟩
  have hk8 : k ≤ 8 := by omega
  have e4h : Hid (a3.tmod 9 = (k : Int)) := Lib.hid (by rw [Int.tmod_eq_emod_of_nonneg h3.1]; omega)
  have m1 : min k 64 = k := by omega
  have hS2 : (16 : Int) * 2 ^ k = S := by rw [hS, hk]
  have hSb : 16 ≤ S ∧ S ≤ 4096 := by
    have p1 := Nat.one_le_two_pow (n := k)
    have p2 := Nat.pow_le_pow_right (n := 2) (by omega) hk8
    have p3 : ((2 ^ k : Nat) : Int) = 2 ^ k := Int.natCast_pow 2 k
    omega
  have e5h : Hid (IntKind.i64.wrap ((16 : Int) * 2 ^ k) = S) := Lib.hid (by rw [hS2]; exact IntWalk.i64_in _ (by omega))
  have e6h : Hid (wrap64 (W * H) = n) := Lib.hid (by rw [hn]; unfold wrap64; omega)
  have e7h : Hid (IntKind.u8.wrap (k : Int) = k) := Lib.hid (by unfold IntKind.wrap; simp [IntKind.bits, IntKind.signed]; omega)
  clear h2 hl2 hb2 hW hH hS hn h0 h1 h3 hk hk8 hS2 hSb hsb
  have e0 := e0h.out
  have e1 := e1h.out
  have e2 := e2h.out
  have e3 := e3h.out
  have e4 := e4h.out
  have e5 := e5h.out
  have e7 := e7h.out
  go_enter Try.func13, Try.ntmps13
  go_wp2_with (first|go_big_skip|((with_reducible refine at_load ?_);first|(refine wm_load (cs := ?_) (t := ?_) (n := ?_) K rfl _ _ rfl rfl ?_ ?_ ?_ ?_;rotate_left 2;(repeat (first|exact At.hd|refine At.tl ?_));rotate_left;(with_reducible first|exact row26);(solve|exact rfl|simp))|(refine wm_own (cs := ?_) (t := ?_) (v := ?_) K rfl _ _ rfl rfl ?_ ?_ ?_ ?_;rotate_left 2;(repeat (first|exact At.hd|refine At.tl ?_));rotate_left;(first|exact rfl|assumption);(with_reducible first|exact one2|exact one3|exact one24|exact one72))|(refine wm_cell (v := ?_) rfl _ _ rfl rfl ?_ ?_ ?_;rotate_left;(first|assumption|exact (K.below.cell (by assumption)).trans (by assumption));(with_reducible first|exact one2|exact one3|exact one24|exact one72)))|((with_reducible refine at_store ?_);(first|(refine wm_store (L' := ?_) (cs := ?_) (t := ?_) (n := ?_) K rfl _ _ _ rfl rfl rfl rfl ?_ ?_ ?_ ?_ ?_ ?_;rotate_left 3;(repeat (first|exact Put.hd|(refine Put.tl (L' := ?_) ?_;rotate_left)));rotate_left;(with_reducible first|exact row26);(solve|exact rfl|simp);(solve|exact rfl|simp);(solve|exact rfl|simp [Ones, Value.oneCell']))|(refine wm_put (L' := ?_) (cs := ?_) (new := ?_) (t := ?_) K rfl _ _ _ rfl rfl rfl rfl ?_ ?_ ?_ ?_ rfl rfl ?_;rotate_left 4;(repeat (first|exact Put.hd|(refine Put.tl (L' := ?_) ?_;rotate_left)));(solve|exact Nat.le_of_ble_eq_true rfl|decide|(simp only [List.size_toArray, nums_length];first|assumption|omega)|(simp only [List.size_toArray, nums_length, List.length_set];first|assumption|omega)|simp|omega|(simp only [List.size_toArray, nums_length];omega)|assumption);(solve|(simp only [List.setIfInBounds_toArray];exact rfl)|exact nums_set _ _ _ _|simp only [List.setIfInBounds_toArray, List.set_cons_zero]|simp only [List.setIfInBounds_toArray, List.set_cons_zero, List.set_cons_succ]|(simp only [List.setIfInBounds_toArray, List.set_cons_zero, List.set_cons_succ];exact rfl)|exact rfl);(with_reducible first|exact one2|exact one3|exact one24|exact one72)));(try clear K);(try clear ww);intro ww K;(try simp [go_sem] at K))|((first|((with_reducible refine at_box ?_);refine wm_box K rfl _ _ rfl rfl rfl ?_)|((with_reducible refine at_alloc ?_);refine wm_alloc (v := ?_) (cs := ?_) K rfl _ rfl ?_ ?_ ?_;rotate_left;(with_reducible first|exact zero26);rotate_left;exact rfl));(try clear K);(try clear ww);(first|((fail_if_success (have _h := b8));intro b8 ww K)|((fail_if_success (have _h := b9));intro b9 ww K));(try simp [go_sem, Value.cells] at K)))
  clear e0 e1 e2 e3 e4 e5 e7
  go_loopw [10] (fun i wr => ∃ (k : Nat) (v : Value) (Lo : List Blk), k ≤ n ∧ i = .int .i64 k ∧ OwnT v 2 (ints .i64 ((src14 n ls).take k)) Lo ∧ St w.heap.size w ((b9, #[.int .i64 W, .int .i64 H, .int .i64 1000, .int .i64 (-1000), .int .i64 S, v], 26) :: (b8, #[.int .i64 0, .int .i64 0, .int .i64 0, .int .i64 0, .int .i64 0, .slice none 0 0], 26) :: Lo) Any wr) (fun i _ => n - (intOf i).toNat)
  case atStart => exact ⟨0, _, _, Nat.zero_le _, rfl, OwnT.nil _, K⟩
  case round =>
    clear K
    obtain ⟨i, v, Lo, hi, rfl, hO, K⟩ := hrel
    by_cases hlt : i < n
    · have ht : decide ((i : Int) < n) = true := decide_eq_true (by omega)
      have hol : (ints .i64 ((src14 n ls).take i)).length ≤ 5000 := by rw [ints_len, List.length_take]; omega
      by_cases hll : i < len
      · obtain ⟨b, off, rfl, hb, hc⟩ := HR2.out.get hll
        have hv := hc i _ (ints_get .u16 ls i (by rw [HL2.out]; exact hll))
        have hz := HLB.out _ (getD_mem (show i < ls.length by rw [HL2.out]; exact hll))
        have hsn0 := take_snoc (src14 n ls) i (by rw [src_len]; exact hlt)
        rw [src_get hlt, if_pos (by rw [HL2.out]; exact hll)] at hsn0
        have hsn := Lib.hid hsn0
        generalize ls.getD i 0 = z at *
        have ht2 : decide ((i : Int) < (len : Int)) = true := decide_eq_true (by omega)
        have e1h : Hid (wrap64 z = z) := Lib.hid (by unfold wrap64; omega)
        clear hc hz hsn0
        have e1 := e1h.out
        have e6 := e6h.out
        go_wp2_with (first|go_big_skip|((with_reducible refine at_load ?_);first|(refine wm_load (cs := ?_) (t := ?_) (n := ?_) K rfl _ _ rfl rfl ?_ ?_ ?_ ?_;rotate_left 2;(repeat (first|exact At.hd|refine At.tl ?_));rotate_left;(with_reducible first|exact row26);(solve|exact rfl|simp))|(refine wm_own (cs := ?_) (t := ?_) (v := ?_) K rfl _ _ rfl rfl ?_ ?_ ?_ ?_;rotate_left 2;(repeat (first|exact At.hd|refine At.tl ?_));rotate_left;(first|exact rfl|assumption);(with_reducible first|exact one2|exact one3|exact one24|exact one72))|(refine wm_cell (v := ?_) rfl _ _ rfl rfl ?_ ?_ ?_;rotate_left;(first|assumption|exact (K.below.cell (by assumption)).trans (by assumption));(with_reducible first|exact one2|exact one3|exact one24|exact one72)))|((with_reducible refine at_store ?_);(first|(refine wm_store (L' := ?_) (cs := ?_) (t := ?_) (n := ?_) K rfl _ _ _ rfl rfl rfl rfl ?_ ?_ ?_ ?_ ?_ ?_;rotate_left 3;(repeat (first|exact Put.hd|(refine Put.tl (L' := ?_) ?_;rotate_left)));rotate_left;(with_reducible first|exact row26);(solve|exact rfl|simp);(solve|exact rfl|simp);(solve|exact rfl|simp [Ones, Value.oneCell']))|(refine wm_put (L' := ?_) (cs := ?_) (new := ?_) (t := ?_) K rfl _ _ _ rfl rfl rfl rfl ?_ ?_ ?_ ?_ rfl rfl ?_;rotate_left 4;(repeat (first|exact Put.hd|(refine Put.tl (L' := ?_) ?_;rotate_left)));(solve|exact Nat.le_of_ble_eq_true rfl|decide|(simp only [List.size_toArray, nums_length];first|assumption|omega)|(simp only [List.size_toArray, nums_length, List.length_set];first|assumption|omega)|simp|omega|(simp only [List.size_toArray, nums_length];omega)|assumption);(solve|(simp only [List.setIfInBounds_toArray];exact rfl)|exact nums_set _ _ _ _|simp only [List.setIfInBounds_toArray, List.set_cons_zero]|simp only [List.setIfInBounds_toArray, List.set_cons_zero, List.set_cons_succ]|(simp only [List.setIfInBounds_toArray, List.set_cons_zero, List.set_cons_succ];exact rfl)|exact rfl);(with_reducible first|exact one2|exact one3|exact one24|exact one72)));(try clear K);(try clear ww);intro ww K;(try simp [go_sem] at K))|((with_reducible refine at_bsl ?_);refine wm_one K rfl _ _ rfl Try.underlying24 num2 rfl ?_;(try clear K);(try clear ww);intro bb ww K;(try simp [go_sem] at K))|((with_reducible refine at_app ?_);refine wm_appT (L0 := ?_) K ?_ rfl _ _ _ rfl Try.underlying24 num2 rfl hO rfl rfl (by first|(simp only [nums_length, List.length_map];omega)|omega) (by first|(simp only [nums_length, List.length_map];unfold maxLen;omega)|(unfold maxLen;omega)) ?_;rotate_left;(repeat (first|exact Tl.nil|(refine Tl.cons (L0 := ?_) ?_;rotate_left)));(try clear K hO);(try clear ww);intro v ww Lo hO K;obtain ⟨_, _, _, rfl, _⟩ := hO.val;simp only [List.cons_append, List.nil_append] at K))
        (try rw [e1] at hO)
        clear e1 e6
        exact ⟨⟨i + 1, _, Lo, by omega, by go_num, by rw [hsn.out, ints_app]; exact hO, K⟩, by simp [intOf]; omega⟩
      · have hsn0 := take_snoc (src14 n ls) i (by rw [src_len]; exact hlt)
        rw [src_get hlt, if_neg (by rw [HL2.out]; exact hll)] at hsn0
        have hsn := Lib.hid hsn0
        clear hsn0
        have ht2 : decide ((i : Int) < (len : Int)) = false := decide_eq_false (by omega)
        have e6 := e6h.out
        go_wp2_with (first|go_big_skip|((with_reducible refine at_load ?_);first|(refine wm_load (cs := ?_) (t := ?_) (n := ?_) K rfl _ _ rfl rfl ?_ ?_ ?_ ?_;rotate_left 2;(repeat (first|exact At.hd|refine At.tl ?_));rotate_left;(with_reducible first|exact row26);(solve|exact rfl|simp))|(refine wm_own (cs := ?_) (t := ?_) (v := ?_) K rfl _ _ rfl rfl ?_ ?_ ?_ ?_;rotate_left 2;(repeat (first|exact At.hd|refine At.tl ?_));rotate_left;(first|exact rfl|assumption);(with_reducible first|exact one2|exact one3|exact one24|exact one72))|(refine wm_cell (v := ?_) rfl _ _ rfl rfl ?_ ?_ ?_;rotate_left;(first|assumption|exact (K.below.cell (by assumption)).trans (by assumption));(with_reducible first|exact one2|exact one3|exact one24|exact one72)))|((with_reducible refine at_store ?_);(first|(refine wm_store (L' := ?_) (cs := ?_) (t := ?_) (n := ?_) K rfl _ _ _ rfl rfl rfl rfl ?_ ?_ ?_ ?_ ?_ ?_;rotate_left 3;(repeat (first|exact Put.hd|(refine Put.tl (L' := ?_) ?_;rotate_left)));rotate_left;(with_reducible first|exact row26);(solve|exact rfl|simp);(solve|exact rfl|simp);(solve|exact rfl|simp [Ones, Value.oneCell']))|(refine wm_put (L' := ?_) (cs := ?_) (new := ?_) (t := ?_) K rfl _ _ _ rfl rfl rfl rfl ?_ ?_ ?_ ?_ rfl rfl ?_;rotate_left 4;(repeat (first|exact Put.hd|(refine Put.tl (L' := ?_) ?_;rotate_left)));(solve|exact Nat.le_of_ble_eq_true rfl|decide|(simp only [List.size_toArray, nums_length];first|assumption|omega)|(simp only [List.size_toArray, nums_length, List.length_set];first|assumption|omega)|simp|omega|(simp only [List.size_toArray, nums_length];omega)|assumption);(solve|(simp only [List.setIfInBounds_toArray];exact rfl)|exact nums_set _ _ _ _|simp only [List.setIfInBounds_toArray, List.set_cons_zero]|simp only [List.setIfInBounds_toArray, List.set_cons_zero, List.set_cons_succ]|(simp only [List.setIfInBounds_toArray, List.set_cons_zero, List.set_cons_succ];exact rfl)|exact rfl);(with_reducible first|exact one2|exact one3|exact one24|exact one72)));(try clear K);(try clear ww);intro ww K;(try simp [go_sem] at K))|((with_reducible refine at_bsl ?_);refine wm_one K rfl _ _ rfl Try.underlying24 num2 rfl ?_;(try clear K);(try clear ww);intro bb ww K;(try simp [go_sem] at K))|((with_reducible refine at_app ?_);refine wm_appT (L0 := ?_) K ?_ rfl _ _ _ rfl Try.underlying24 num2 rfl hO rfl rfl (by first|(simp only [nums_length, List.length_map];omega)|omega) (by first|(simp only [nums_length, List.length_map];unfold maxLen;omega)|(unfold maxLen;omega)) ?_;rotate_left;(repeat (first|exact Tl.nil|(refine Tl.cons (L0 := ?_) ?_;rotate_left)));(try clear K hO);(try clear ww);intro v ww Lo hO K;obtain ⟨_, _, _, rfl, _⟩ := hO.val;simp only [List.cons_append, List.nil_append] at K))
        clear e6
        exact ⟨⟨i + 1, _, Lo, by omega, by go_num, by rw [hsn.out, ints_app]; exact hO, K⟩, by simp [intOf]; omega⟩
    · obtain rfl : n = i := by omega
      have ht : decide ((n : Int) < n) = false := decide_eq_false (by omega)
      have hz : (src14 n ls).take n = src14 n ls := List.take_of_length_le (by rw [src_len]; omega)
      rw [hz] at hO
      have hlen : (ints .i64 (src14 n ls)).length = n := by rw [ints_len, src_len]
      clear hz
      rcases hO with ⟨_, h2, _⟩ | ⟨g, cap', cur, rfl, h2, h3, h4, h5, rfl⟩
      · rw [h2] at hlen; simp at hlen; omega
      · rw [hlen] at h2 h5 K
        have HC := Lib.hid (And.intro h2 (And.intro h4 h5))
        clear h2 h3 h4 h5 hlen
        have e6 := e6h.out
        have SM := Lib.hid (fun w (h : Rd w (some ⟨g, 0, none⟩) n (ints .i64 (src14 n ls))) => RSum14 (some ⟨g, 0, none⟩) n cap' (src14 n ls) w h (small_bd (small_any HSB.out)) (by omega))
        have HRD := Lib.hid ((sl_take (K.get (.tl (.tl .hd))) HC.out.2.2 (by rw [HC.out.2.1]; exact HC.out.1)).rd)
        by_cases hz0 : isum (src14 n ls) = 0
        · have hfx : Hid (fix14 (src14 n ls) = (src14 n ls).set 0 1) := Lib.hid (by unfold fix14; rw [if_pos hz0])
          rw [hz0] at SM
          have hin : 0 < cur.size := by have := HC.out.2.1; have := HC.out.1; omega
          clear hz0
          go_wp2_with (first|go_big_skip|((with_reducible refine at_load ?_);first|(refine wm_load (cs := ?_) (t := ?_) (n := ?_) K rfl _ _ rfl rfl ?_ ?_ ?_ ?_;rotate_left 2;(repeat (first|exact At.hd|refine At.tl ?_));rotate_left;(with_reducible first|exact row26);(solve|exact rfl|simp))|(refine wm_own (cs := ?_) (t := ?_) (v := ?_) K rfl _ _ rfl rfl ?_ ?_ ?_ ?_;rotate_left 2;(repeat (first|exact At.hd|refine At.tl ?_));rotate_left;(first|exact rfl|assumption);(with_reducible first|exact one2|exact one3|exact one24|exact one72))|(refine wm_cell (v := ?_) rfl _ _ rfl rfl ?_ ?_ ?_;rotate_left;(first|assumption|exact (K.below.cell (by assumption)).trans (by assumption));(with_reducible first|exact one2|exact one3|exact one24|exact one72)))|((with_reducible refine at_store ?_);(first|(refine wm_store (L' := ?_) (cs := ?_) (t := ?_) (n := ?_) K rfl _ _ _ rfl rfl rfl rfl ?_ ?_ ?_ ?_ ?_ ?_;rotate_left 3;(repeat (first|exact Put.hd|(refine Put.tl (L' := ?_) ?_;rotate_left)));rotate_left;(with_reducible first|exact row26);(solve|exact rfl|simp);(solve|exact rfl|simp);(solve|exact rfl|simp [Ones, Value.oneCell']))|(refine wm_put (L' := ?_) (cs := ?_) (new := ?_) (t := ?_) K rfl _ _ _ rfl rfl rfl rfl ?_ ?_ ?_ ?_ rfl rfl ?_;rotate_left 4;(repeat (first|exact Put.hd|(refine Put.tl (L' := ?_) ?_;rotate_left)));(solve|exact Nat.le_of_ble_eq_true rfl|decide|(simp only [List.size_toArray, nums_length];first|assumption|omega)|(simp only [List.size_toArray, nums_length, List.length_set];first|assumption|omega)|simp|omega|(simp only [List.size_toArray, nums_length];omega)|assumption);(solve|(simp only [List.setIfInBounds_toArray];exact rfl)|exact nums_set _ _ _ _|simp only [List.setIfInBounds_toArray, List.set_cons_zero]|simp only [List.setIfInBounds_toArray, List.set_cons_zero, List.set_cons_succ]|(simp only [List.setIfInBounds_toArray, List.set_cons_zero, List.set_cons_succ];exact rfl)|exact rfl);(with_reducible first|exact one2|exact one3|exact one24|exact one72)));(try clear K);(try clear ww);intro ww K;(try simp [go_sem] at K))|(go_at_call 17;(with_reducible refine (SM.out _ HRD.out).mono ?_);rintro e w2 ⟨rfl, k1⟩;replace K := K.step k1;clear k1;(try clear ww);revert w2;intro ww K))
          have HRF : Rd ww (some ⟨g, 0, none⟩) n (ints .i64 (fix14 (src14 n ls))) := by
            rw [hfx.out]
            exact (sl_take (K.get (.tl (.tl .hd))) (row_put HC.out.2.2) (by rw [Array.size_setIfInBounds, HC.out.2.1]; exact HC.out.1)).rd
          refine (K.rnorm HRF (small_any (fix_bd HSB.out)) (by omega) HFP.out).mono ?_
          rintro e w2 ⟨A3, c3, rfl, hA3, K2⟩
          dsimp only
          replace K := K2
          clear K2
          have HA3 := Lib.hid hA3
          clear hA3 HRF
          revert w2
          intro ww K
          go_wp2_with (first|go_big_skip|((with_reducible refine at_load ?_);first|(refine wm_load (cs := ?_) (t := ?_) (n := ?_) K rfl _ _ rfl rfl ?_ ?_ ?_ ?_;rotate_left 2;(repeat (first|exact At.hd|refine At.tl ?_));rotate_left;(with_reducible first|exact row26);(solve|exact rfl|simp))|(refine wm_own (cs := ?_) (t := ?_) (v := ?_) K rfl _ _ rfl rfl ?_ ?_ ?_ ?_;rotate_left 2;(repeat (first|exact At.hd|refine At.tl ?_));rotate_left;(first|exact rfl|assumption);(with_reducible first|exact one2|exact one3|exact one24|exact one72))|(refine wm_cell (v := ?_) rfl _ _ rfl rfl ?_ ?_ ?_;rotate_left;(first|assumption|exact (K.below.cell (by assumption)).trans (by assumption));(with_reducible first|exact one2|exact one3|exact one24|exact one72)))|((with_reducible refine at_store ?_);(first|(refine wm_store (L' := ?_) (cs := ?_) (t := ?_) (n := ?_) K rfl _ _ _ rfl rfl rfl rfl ?_ ?_ ?_ ?_ ?_ ?_;rotate_left 3;(repeat (first|exact Put.hd|(refine Put.tl (L' := ?_) ?_;rotate_left)));rotate_left;(with_reducible first|exact row26);(solve|exact rfl|simp);(solve|exact rfl|simp);(solve|exact rfl|simp [Ones, Value.oneCell']))|(refine wm_put (L' := ?_) (cs := ?_) (new := ?_) (t := ?_) K rfl _ _ _ rfl rfl rfl rfl ?_ ?_ ?_ ?_ rfl rfl ?_;rotate_left 4;(repeat (first|exact Put.hd|(refine Put.tl (L' := ?_) ?_;rotate_left)));(solve|exact Nat.le_of_ble_eq_true rfl|decide|(simp only [List.size_toArray, nums_length];first|assumption|omega)|(simp only [List.size_toArray, nums_length, List.length_set];first|assumption|omega)|simp|omega|(simp only [List.size_toArray, nums_length];omega)|assumption);(solve|(simp only [List.setIfInBounds_toArray];exact rfl)|exact nums_set _ _ _ _|simp only [List.setIfInBounds_toArray, List.set_cons_zero]|simp only [List.setIfInBounds_toArray, List.set_cons_zero, List.set_cons_succ]|(simp only [List.setIfInBounds_toArray, List.set_cons_zero, List.set_cons_succ];exact rfl)|exact rfl);(with_reducible first|exact one2|exact one3|exact one24|exact one72)));(try clear K);(try clear ww);intro ww K;(try simp [go_sem] at K))|((first|((with_reducible refine at_box ?_);refine wm_box K rfl _ _ rfl rfl rfl ?_)|((with_reducible refine at_alloc ?_);refine wm_alloc (v := ?_) (cs := ?_) K rfl _ rfl ?_ ?_ ?_;rotate_left;(with_reducible first|exact zero26);rotate_left;exact rfl));(try clear K);(try clear ww);((fail_if_success (have _h := b12));intro b12 ww K);(try simp [go_sem, Value.cells] at K)))
          refine bodyPost_ret (K.res rfl _ rfl (At.tl (At.tl At.hd)) (by (with_reducible first | exact row26)) (by (solve | exact rfl | simp))) rfl ?_
          exact ⟨A3, c3, rfl, ⟨K.fact.1, HA3.out⟩, K.below⟩
        · have hfx : Hid (fix14 (src14 n ls) = src14 n ls) := Lib.hid (by unfold fix14; rw [if_neg hz0])
          have t0 : (isum (src14 n ls) == 0) = false := by simpa using hz0
          clear hz0
          go_wp2_with (first|go_big_skip|((with_reducible refine at_load ?_);first|(refine wm_load (cs := ?_) (t := ?_) (n := ?_) K rfl _ _ rfl rfl ?_ ?_ ?_ ?_;rotate_left 2;(repeat (first|exact At.hd|refine At.tl ?_));rotate_left;(with_reducible first|exact row26);(solve|exact rfl|simp))|(refine wm_own (cs := ?_) (t := ?_) (v := ?_) K rfl _ _ rfl rfl ?_ ?_ ?_ ?_;rotate_left 2;(repeat (first|exact At.hd|refine At.tl ?_));rotate_left;(first|exact rfl|assumption);(with_reducible first|exact one2|exact one3|exact one24|exact one72))|(refine wm_cell (v := ?_) rfl _ _ rfl rfl ?_ ?_ ?_;rotate_left;(first|assumption|exact (K.below.cell (by assumption)).trans (by assumption));(with_reducible first|exact one2|exact one3|exact one24|exact one72)))|((with_reducible refine at_store ?_);(first|(refine wm_store (L' := ?_) (cs := ?_) (t := ?_) (n := ?_) K rfl _ _ _ rfl rfl rfl rfl ?_ ?_ ?_ ?_ ?_ ?_;rotate_left 3;(repeat (first|exact Put.hd|(refine Put.tl (L' := ?_) ?_;rotate_left)));rotate_left;(with_reducible first|exact row26);(solve|exact rfl|simp);(solve|exact rfl|simp);(solve|exact rfl|simp [Ones, Value.oneCell']))|(refine wm_put (L' := ?_) (cs := ?_) (new := ?_) (t := ?_) K rfl _ _ _ rfl rfl rfl rfl ?_ ?_ ?_ ?_ rfl rfl ?_;rotate_left 4;(repeat (first|exact Put.hd|(refine Put.tl (L' := ?_) ?_;rotate_left)));(solve|exact Nat.le_of_ble_eq_true rfl|decide|(simp only [List.size_toArray, nums_length];first|assumption|omega)|(simp only [List.size_toArray, nums_length, List.length_set];first|assumption|omega)|simp|omega|(simp only [List.size_toArray, nums_length];omega)|assumption);(solve|(simp only [List.setIfInBounds_toArray];exact rfl)|exact nums_set _ _ _ _|simp only [List.setIfInBounds_toArray, List.set_cons_zero]|simp only [List.setIfInBounds_toArray, List.set_cons_zero, List.set_cons_succ]|(simp only [List.setIfInBounds_toArray, List.set_cons_zero, List.set_cons_succ];exact rfl)|exact rfl);(with_reducible first|exact one2|exact one3|exact one24|exact one72)));(try clear K);(try clear ww);intro ww K;(try simp [go_sem] at K))|(go_at_call 17;(with_reducible refine (SM.out _ HRD.out).mono ?_);rintro e w2 ⟨rfl, k1⟩;replace K := K.step k1;clear k1;(try clear ww);revert w2;intro ww K))
          have HRF : Rd ww (some ⟨g, 0, none⟩) n (ints .i64 (fix14 (src14 n ls))) := by
            rw [hfx.out]
            exact (sl_take (K.get (.tl (.tl .hd))) HC.out.2.2 (by rw [HC.out.2.1]; exact HC.out.1)).rd
          refine (K.rnorm HRF (small_any (fix_bd HSB.out)) (by omega) HFP.out).mono ?_
          rintro e w2 ⟨A3, c3, rfl, hA3, K2⟩
          dsimp only
          replace K := K2
          clear K2
          have HA3 := Lib.hid hA3
          clear hA3 HRF
          revert w2
          intro ww K
          go_wp2_with (first|go_big_skip|((with_reducible refine at_load ?_);first|(refine wm_load (cs := ?_) (t := ?_) (n := ?_) K rfl _ _ rfl rfl ?_ ?_ ?_ ?_;rotate_left 2;(repeat (first|exact At.hd|refine At.tl ?_));rotate_left;(with_reducible first|exact row26);(solve|exact rfl|simp))|(refine wm_own (cs := ?_) (t := ?_) (v := ?_) K rfl _ _ rfl rfl ?_ ?_ ?_ ?_;rotate_left 2;(repeat (first|exact At.hd|refine At.tl ?_));rotate_left;(first|exact rfl|assumption);(with_reducible first|exact one2|exact one3|exact one24|exact one72))|(refine wm_cell (v := ?_) rfl _ _ rfl rfl ?_ ?_ ?_;rotate_left;(first|assumption|exact (K.below.cell (by assumption)).trans (by assumption));(with_reducible first|exact one2|exact one3|exact one24|exact one72)))|((with_reducible refine at_store ?_);(first|(refine wm_store (L' := ?_) (cs := ?_) (t := ?_) (n := ?_) K rfl _ _ _ rfl rfl rfl rfl ?_ ?_ ?_ ?_ ?_ ?_;rotate_left 3;(repeat (first|exact Put.hd|(refine Put.tl (L' := ?_) ?_;rotate_left)));rotate_left;(with_reducible first|exact row26);(solve|exact rfl|simp);(solve|exact rfl|simp);(solve|exact rfl|simp [Ones, Value.oneCell']))|(refine wm_put (L' := ?_) (cs := ?_) (new := ?_) (t := ?_) K rfl _ _ _ rfl rfl rfl rfl ?_ ?_ ?_ ?_ rfl rfl ?_;rotate_left 4;(repeat (first|exact Put.hd|(refine Put.tl (L' := ?_) ?_;rotate_left)));(solve|exact Nat.le_of_ble_eq_true rfl|decide|(simp only [List.size_toArray, nums_length];first|assumption|omega)|(simp only [List.size_toArray, nums_length, List.length_set];first|assumption|omega)|simp|omega|(simp only [List.size_toArray, nums_length];omega)|assumption);(solve|(simp only [List.setIfInBounds_toArray];exact rfl)|exact nums_set _ _ _ _|simp only [List.setIfInBounds_toArray, List.set_cons_zero]|simp only [List.setIfInBounds_toArray, List.set_cons_zero, List.set_cons_succ]|(simp only [List.setIfInBounds_toArray, List.set_cons_zero, List.set_cons_succ];exact rfl)|exact rfl);(with_reducible first|exact one2|exact one3|exact one24|exact one72)));(try clear K);(try clear ww);intro ww K;(try simp [go_sem] at K))|((first|((with_reducible refine at_box ?_);refine wm_box K rfl _ _ rfl rfl rfl ?_)|((with_reducible refine at_alloc ?_);refine wm_alloc (v := ?_) (cs := ?_) K rfl _ rfl ?_ ?_ ?_;rotate_left;(with_reducible first|exact zero26);rotate_left;exact rfl));(try clear K);(try clear ww);((fail_if_success (have _h := b12));intro b12 ww K);(try simp [go_sem, Value.cells] at K)))
          refine bodyPost_ret (K.res rfl _ rfl (At.tl (At.tl At.hd)) (by (with_reducible first | exact row26)) (by (solve | exact rfl | simp))) rfl ?_
          exact ⟨A3, c3, rfl, ⟨K.fact.1, HA3.out⟩, K.below⟩
end Go.Proofs.Ytpejoaefnnbghaa
