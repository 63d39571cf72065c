/-
  Lemmas and walks of this claim (the texts Fc17 Fp17 Fj17 Fo17 Da17 of the work; what no proof here uses is left out). No claim of their own.
-/
import Derived.Test.YteancdipmpmjpaaMD30
import Derived.Test.YteancdipmpmjpaaMD5
import Derived.Test.YteancdipmpmjpaaMD8
import Derived.Test.YteancdipmpmjpaaMD12
import Derived.Test.YteancdipmpmjpaaMD24
import Derived.Test.YteancdipmpmjpaaMD1
set_option linter.all false
set_option linter.unusedSimpArgs false
set_option linter.unusedVariables false
namespace Go.Proofs.Yteancdipmpmjpaa
open Go.RowKit
attribute [local irreducible] wpHeld wpTree wpList
set_option linter.unusedVariables false
theorem AllN.heap {w w' : World} {cs : List Value} {xs : List Nat} (h : AllN w cs xs) (e : w.heap = w'.heap) : AllN w' cs xs := h.mono fun _ _ _ _ h => ⟨h.1.keepIf fun b _ _ => by rw [e], h.2⟩
theorem AllN.nt {w : World} {cs : List Value} {xs : List Nat} {j k c : Nat} {a : Option Addr} (h : AllN w cs xs) (hj : j < xs.length) (e : cs[j]? = some (.slice a k c)) : Nt w a k c (xs.getD j 0) ∧ k ≤ 1000 := by
  obtain ⟨a', k', c', e1, h2, h3⟩ := h.2 j hj
  rw [e] at e1
  cases e1
  exact ⟨h2, h3⟩
def cutvN (W H : Int) (xs : List Nat) (x y w : Int) (i : Nat) : Nat := if 0 ≤ x + (i : Int) % w ∧ x + (i : Int) % w < W ∧ 0 ≤ y + (i : Int) / w ∧ y + (i : Int) / w < H then xs.getD ((y + (i : Int) / w) * W + (x + (i : Int) % w)).toNat 0 else 0
def cutN (W H : Int) (xs : List Nat) (x y w : Int) (m : Nat) : List Nat := genN m (cutvN W H xs x y w)
set_option maxRecDepth 100000 in
set_option maxHeartbeats 8000000 in
theorem Cut17 (p q c1 d1 m n c : Nat) (x y : Int) (A : Option Addr) (xs : List Nat) (w : World) (h : Fn w A n xs) (hn : (p : Int) * (q : Int) = n) (hp : 1 ≤ p ∧ p ≤ 64) (hq : 1 ≤ q ∧ q ≤ 64) (hx : -200 ≤ x ∧ x ≤ 200) (hy : -200 ≤ y ∧ y ≤ 200) (hc1 : 1 ≤ c1 ∧ c1 ≤ 8) (hd1 : 1 ≤ d1 ∧ d1 ≤ 8) (hm : c1 * d1 = m) :
    Calls Try.prog 69 #[.agg #[.int .i64 p, .int .i64 q, .slice A n c], .int .i64 x, .int .i64 y, .int .i64 c1, .int .i64 d1] w fun e w' => ∃ A2 c2, e = .returned (.agg #[.int .i64 c1, .int .i64 d1, .slice A2 m c2]) ∧ (Fn w' A2 m (cutN p q xs x y c1 m) ∧ Nw w.heap.size A2) ∧ Below w.heap.size w w' := by
  have hl := h.len
  obtain ⟨cs0, hR, hA0⟩ := h
  have K := St.startF w (fun w => AllN w cs0 xs) (fun w' hb => hA0.mono fun _ _ _ _ h => h.below hb) (fun a b e h => h.heap e)
  have hm64 : m ≤ 64 := by rw [← hm]; exact Nat.mul_le_mul hc1.2 hd1.2
  have hmI : (c1 : Int) * (d1 : Int) = (m : Int) := by rw [← Int.natCast_mul, hm]
  have HR := Lib.hid hR
  have HA0 := Lib.hid hA0
  have HL := Lib.hid hl
  have HN := Lib.hid (And.intro hn (And.intro hp (And.intro hq (And.intro hx (And.intro hy (And.intro hc1 hd1))))))
  obtain ⟨T, hT⟩ : ∃ T, cutN p q xs x y c1 m = T := ⟨_, rfl⟩
  have HTE := Lib.hid hT
  have HTL : Hid (T.length = m) := Lib.hid (by rw [← hT]; exact genN_len _ _)
  have HTG : Hid (∀ k, k < m → T.take (k + 1) = T.take k ++ [cutvN p q xs x y c1 k]) := Lib.hid (fun k hk => by rw [← hT]; exact genN_snoc _ hk)
  have e5h : Hid (wrap64 ((c1 : Int) * (d1 : Int)) = (m : Int)) := Lib.hid (w64e (by omega) (by omega) hmI)
  clear hT hR hA0 hl hn hp hq hx hy hc1 hd1 hm hmI
  have e5 := e5h.out
  go_enter Try.func69, Try.ntmps69
  go_wp2_with (first|((with_reducible refine at_store ?_);(first|(refine wm_store (L' := ?_) (cs := ?_) (t := ?_) (n := ?_) K rfl _ _ _ rfl rfl rfl rfl ?_ ?_ ?_ ?_ ?_ ?_;rotate_left 3;(repeat (exact Put.hd));rotate_left;(with_reducible first|exact row51);(exact rfl);(exact rfl);(simp [Ones, Value.oneCell'])));(try clear K);(try clear ww);intro ww K;(try simp [go_sem] at K))|((first|((with_reducible refine at_box ?_);refine wm_box K rfl _ _ rfl rfl rfl ?_)|((with_reducible refine at_alloc ?_);refine wm_alloc (v := ?_) (cs := ?_) K rfl _ rfl ?_ ?_ ?_;rotate_left;(with_reducible first|exact zero51);rotate_left;exact rfl));(try clear K);(try clear ww);(first|((fail_if_success (have _h := b5));intro b5 ww K)|((fail_if_success (have _h := b10));intro b10 ww K)|((fail_if_success (have _h := b11));intro b11 ww K));(try simp [go_sem, Value.cells] at K)))
  rw [e5]
  clear e5
  go_loopw [22] (fun i wr => ∃ (k : Nat) (v : Value) (cs : List Value) (Lo : List Blk), k ≤ m ∧ i = .int .i64 k ∧ OwnT v 108 cs Lo ∧ Hid (cs.length = k) ∧ St w.heap.size w ((b11, #[.int .i64 c1, .int .i64 d1, v], 51) :: (b10, #[.int .i64 0, .int .i64 0, .slice none 0 0], 51) :: (b5, #[.int .i64 p, .int .i64 q, .slice A n c], 51) :: Lo) (fun w => AllN w cs (T.take k) ∧ AllN w cs0 xs) wr) (fun i _ => m - (intOf i).toNat)
  case atStart => exact ⟨0, _, [], [], Nat.zero_le _, rfl, OwnT.nil _, Lib.hid rfl, K.weak fun w h => ⟨AllN.nil w, h⟩⟩
  case round =>
    clear K
    obtain ⟨i, v, cs, Lo, hi, rfl, hO, HC, K⟩ := hrel
    by_cases hlt : i < m
    · have ht : decide ((i : Int) < m) = true := decide_eq_true (by omega)
      have htn : decide (i < m) = true := decide_eq_true hlt
      obtain ⟨hn, hp, hq, hx, hy, hc1, hd1⟩ := HN.out
      obtain ⟨e, he⟩ : ∃ e, i % c1 = e := ⟨_, rfl⟩
      obtain ⟨d, hd⟩ : ∃ d, i / c1 = d := ⟨_, rfl⟩
      have he2 : e < c1 := by rw [← he]; exact Nat.mod_lt _ (by omega)
      have hd2 : d ≤ i := by rw [← hd]; exact Nat.div_le_self _ _
      have he3 : (i : Int) % (c1 : Int) = (e : Int) := by rw [← Int.natCast_emod, he]
      have hd3 : (i : Int) / (c1 : Int) = (d : Int) := by rw [← Int.natCast_ediv, hd]
      have c1h : Hid ((i : Int).tmod (c1 : Int) = (e : Int)) := Lib.hid (by rw [Int.tmod_eq_emod_of_nonneg (by omega), he3])
      have c2h : Hid ((i : Int).tdiv (c1 : Int) = (d : Int)) := Lib.hid (by rw [Int.tdiv_eq_ediv_of_nonneg (by omega), hd3])
      have c3h : Hid (IntKind.i64.wrap (d : Int) = d) := Lib.hid (IntWalk.i64_in _ (by omega))
      have c0 : (c1 = 0) = False := by simp; omega
      obtain ⟨a, ha⟩ : ∃ a, x + (e : Int) = a := ⟨_, rfl⟩
      obtain ⟨b, hb⟩ : ∃ b, y + (d : Int) = b := ⟨_, rfl⟩
      have c4h : Hid (IntKind.i64.wrap (x + (e : Int)) = a) := Lib.hid ((IntWalk.i64_in _ (by omega)).trans ha)
      have c5h : Hid (IntKind.i64.wrap (y + (d : Int)) = b) := Lib.hid ((IntWalk.i64_in _ (by omega)).trans hb)
      have hsn0 := HTG.out i hlt
      unfold cutvN at hsn0
      rw [he3, hd3, ha, hb] at hsn0
      have hb1 : (cs.length + 1) * 24 ≤ 140737488355328 := by rw [HC.out]; omega
      have hb2 : cs.length + 1 ≤ maxLen := by rw [HC.out]; unfold maxLen; omega
      by_cases hin : 0 ≤ a ∧ a < (p : Int) ∧ 0 ≤ b ∧ b < (q : Int)
      · rw [if_pos hin] at hsn0
        obtain ⟨q0, q1⟩ := place_bd hn hin.1 hin.2.1 hin.2.2.1 hin.2.2.2
        obtain ⟨j, hj⟩ : ∃ j : Nat, b * (p : Int) + a = j := ⟨(b * p + a).toNat, by omega⟩
        rw [hj, Int.toNat_natCast] at hsn0
        have hjn : j < n := by omega
        obtain ⟨ea, ka, ca, e1, -, -⟩ := HA0.out.2 j (by rw [HL.out]; exact hjn)
        obtain ⟨b0, off, rfl, hbb, hc⟩ := HR.out.get hjn
        have hv := hc j _ e1
        have HE1 := Lib.hid e1
        have hsn := Lib.hid hsn0
        have hbw := Int.mul_nonneg hin.2.2.1 (show 0 ≤ (p : Int) by omega)
        have hbw2 := Int.mul_le_mul (show b ≤ 64 by omega) (show (p : Int) ≤ 64 by omega) (by omega) (by omega)
        have t1 : decide (0 ≤ a) = true := decide_eq_true hin.1
        have t2 : decide (a < (p : Int)) = true := decide_eq_true hin.2.1
        have t3 : decide (0 ≤ b) = true := decide_eq_true hin.2.2.1
        have t4 : decide (b < (q : Int)) = true := decide_eq_true hin.2.2.2
        obtain ⟨R, hRR⟩ : ∃ R, b * (p : Int) = R := ⟨_, rfl⟩
        rw [hRR] at hj hbw hbw2
        have k1h : Hid (wrap64 (b * (p : Int)) = R) := Lib.hid (w64e (by omega) (by omega) hRR)
        have k2h : Hid (wrap64 (R + a) = j) := Lib.hid (w64e (by omega) (by omega) hj)
        clear hn hp hq hx hy hc1 hd1 he hd he2 hd2 he3 hd3 ha hb hin q0 q1 hj hbw hbw2 hRR hc e1 hsn0
        go_wp2_with (fail)
        have c1' := c1h.out
        have c2 := c2h.out
        have c3 := c3h.out
        have c4 := c4h.out
        have c5 := c5h.out
        refine wm_held _ [(true, 0), (true, 1), (true, 2), (true, 3), (true, 4), (true, 5), (true, 6), (true, 7), (true, 8), (true, 9), (true, 10), (true, 11)] K sbz (by kernel_rfl) (by kernel_rfl) ?_; (try clear K); (try clear ww); intro ww K; (try simp [go_sem] at K); simp only [pick, List.getElem?_toArray, List.getElem?_cons_succ, List.getElem?_cons_zero]
        repeat (first|(refine held_take (fun K' hK' => ?_);go_simp;first|(apply Exists.intro;refine ⟨?_, hK' _ ?_⟩;(intro _ _;rfl);clear hK' K')))
        refine held_nil ?_
        clear c1' c2 c3 c4 c5 c0
        have k1 := k1h.out
        have k2 := k2h.out
        go_wp2_with (first|((with_reducible refine at_load ?_);refine wm_far1 (v := ?_) rfl _ _ rfl rfl ?_ ?_ ?_;rotate_left;(first|exact (K.below.cell (by assumption)).trans (by assumption));(with_reducible first|exact row108))|go_big_skip|((with_reducible refine at_load ?_);first|(refine wm_load (cs := ?_) (t := ?_) (n := ?_) K rfl _ _ rfl rfl ?_ ?_ ?_ ?_;rotate_left 2;(repeat (first|exact At.hd|refine At.tl ?_));rotate_left;(with_reducible first|exact row108);(exact rfl))|(refine wm_own (cs := ?_) (t := ?_) (v := ?_) K rfl _ _ rfl rfl ?_ ?_ ?_ ?_;rotate_left 2;(repeat (first|exact At.hd|refine At.tl ?_));rotate_left;(exact rfl);(with_reducible first|exact one3|exact one49)))|((with_reducible refine at_store ?_);(first|(refine wm_store (L' := ?_) (cs := ?_) (t := ?_) (n := ?_) K rfl _ _ _ rfl rfl rfl rfl ?_ ?_ ?_ ?_ ?_ ?_;rotate_left 3;(repeat (exact Put.hd));rotate_left;(with_reducible first|exact row108);(exact rfl);(exact rfl);(simp [Ones, Value.oneCell']))|(refine wm_put (L' := ?_) (cs := ?_) (new := ?_) (t := ?_) K rfl _ _ _ rfl rfl rfl rfl ?_ ?_ ?_ ?_ rfl rfl ?_;rotate_left 4;(repeat (first|exact Put.hd|(refine Put.tl (L' := ?_) ?_;rotate_left)));(exact Nat.le_of_ble_eq_true rfl);((simp only [List.setIfInBounds_toArray];exact rfl));(with_reducible first|exact one49)));(try clear K);(try clear ww);intro ww K;(try simp [go_sem] at K))|((first|((with_reducible refine at_alloc ?_);refine wm_alloc (v := ?_) (cs := ?_) K rfl _ rfl ?_ ?_ ?_;rotate_left;(with_reducible first|exact zero108);rotate_left;exact rfl));(try clear K);(try clear ww);((fail_if_success (have _h := b15));intro b15 ww K);(try simp [go_sem, Value.cells] at K))|((with_reducible refine at_bsl ?_);refine wm_oneZ K rfl _ _ rfl Try.underlying49 infoNat Cell1.agg rfl Cell1.agg ?_;(try clear K);(try clear ww);intro bb ww K;(try simp [go_sem] at K))|((with_reducible refine at_app ?_);refine wm_appZT (L0 := ?_) K ?_ rfl _ _ _ rfl Try.underlying49 infoNat Cell1.agg rfl hO rfl rfl (by first|assumption) (by first|assumption) ?_;rotate_left;(repeat (first|exact Tl.nil|(refine Tl.cons (L0 := ?_) ?_;rotate_left)));(try clear K hO);(try clear ww);intro v ww Lo hO K;obtain ⟨_, _, _, rfl, _⟩ := hO.val;simp only [List.cons_append, List.nil_append] at K))
        clear k1 k2
        exact ⟨⟨i + 1, _, _, Lo, by omega, by go_num, hO, Lib.hid (by rw [List.length_append, HC.out]; rfl), K.tail.weak fun w h => ⟨by
          have h1 := h.2.nt (j := j) (by rw [HL.out]; exact hjn) HE1.out
          rw [hsn.out]; exact h.1.snoc h1.1 h1.2, h.2⟩⟩, by simp [intOf]; omega⟩
      · rw [if_neg hin] at hsn0
        have hsn := Lib.hid hsn0
        obtain ⟨u1, u2, u3, u4, t1, t2, t3, t4, hu⟩ := four_not hin
        clear hn hp hq hx hy hc1 hd1 he hd he2 hd2 he3 hd3 ha hb hin hsn0
        go_wp2_with (fail)
        have c1' := c1h.out
        have c2 := c2h.out
        have c3 := c3h.out
        have c4 := c4h.out
        have c5 := c5h.out
        refine wm_held _ [(true, 0), (true, 1), (true, 2), (true, 3), (true, 4), (true, 5), (true, 6), (true, 7), (true, 8), (true, 9), (true, 10), (true, 11)] K sbz (by kernel_rfl) (by kernel_rfl) ?_; (try clear K); (try clear ww); intro ww K; (try simp [go_sem] at K); simp only [pick, List.getElem?_toArray, List.getElem?_cons_succ, List.getElem?_cons_zero]
        repeat (first|(refine held_take (fun K' hK' => ?_);go_simp;first|(apply Exists.intro;refine ⟨?_, hK' _ ?_⟩;(intro _ _;rfl);clear hK' K')))
        refine held_nil ?_
        clear c1' c2 c3 c4 c5 c0
        cases u1
        case' true => cases u3
        case' true.true => cases u2
        case' true.true.true => cases u4
        case true.true.true.true => cases hu
        all_goals
          clear hu
          go_wp2_with (first|go_big_skip|((with_reducible refine at_load ?_);first|(refine wm_load (cs := ?_) (t := ?_) (n := ?_) K rfl _ _ rfl rfl ?_ ?_ ?_ ?_;rotate_left 2;(repeat (first|exact At.hd|refine At.tl ?_));rotate_left;(with_reducible first|exact row108);(exact rfl))|(refine wm_own (cs := ?_) (t := ?_) (v := ?_) K rfl _ _ rfl rfl ?_ ?_ ?_ ?_;rotate_left 2;(repeat (first|exact At.hd|refine At.tl ?_));rotate_left;(exact rfl);(with_reducible first|exact one3|exact one49)))|((with_reducible refine at_store ?_);(first|(refine wm_store (L' := ?_) (cs := ?_) (t := ?_) (n := ?_) K rfl _ _ _ rfl rfl rfl rfl ?_ ?_ ?_ ?_ ?_ ?_;rotate_left 3;(repeat (exact Put.hd));rotate_left;(with_reducible first|exact row108);(exact rfl);(exact rfl);(simp [Ones, Value.oneCell']))|(refine wm_put (L' := ?_) (cs := ?_) (new := ?_) (t := ?_) K rfl _ _ _ rfl rfl rfl rfl ?_ ?_ ?_ ?_ rfl rfl ?_;rotate_left 4;(repeat (first|exact Put.hd|(refine Put.tl (L' := ?_) ?_;rotate_left)));(exact Nat.le_of_ble_eq_true rfl);((simp only [List.setIfInBounds_toArray];exact rfl));(with_reducible first|exact one49)));(try clear K);(try clear ww);intro ww K;(try simp [go_sem] at K))|((first|((with_reducible refine at_alloc ?_);refine wm_alloc (v := ?_) (cs := ?_) K rfl _ rfl ?_ ?_ ?_;rotate_left;(with_reducible first|exact zero108);rotate_left;exact rfl));(try clear K);(try clear ww);((fail_if_success (have _h := b15));intro b15 ww K);(try simp [go_sem, Value.cells] at K))|((with_reducible refine at_bsl ?_);refine wm_oneZ K rfl _ _ rfl Try.underlying49 infoNat Cell1.agg rfl Cell1.agg ?_;(try clear K);(try clear ww);intro bb ww K;(try simp [go_sem] at K))|((with_reducible refine at_app ?_);refine wm_appZT (L0 := ?_) K ?_ rfl _ _ _ rfl Try.underlying49 infoNat Cell1.agg rfl hO rfl rfl (by first|assumption) (by first|assumption) ?_;rotate_left;(repeat (first|exact Tl.nil|(refine Tl.cons (L0 := ?_) ?_;rotate_left)));(try clear K hO);(try clear ww);intro v ww Lo hO K;obtain ⟨_, _, _, rfl, _⟩ := hO.val;simp only [List.cons_append, List.nil_append] at K))
          exact ⟨⟨i + 1, _, _, Lo, by omega, by go_num, hO, Lib.hid (by rw [List.length_append, HC.out]; rfl), K.tail.weak fun w h => ⟨by
            rw [hsn.out]; exact h.1.snoc (Nt.zero w none 0 (by omega)) (by omega), h.2⟩⟩, by simp [intOf]; omega⟩
    · obtain rfl : m = i := by omega
      have ht : decide ((m : Int) < m) = false := decide_eq_false (by omega)
      have hz : T.take m = T := List.take_of_length_le (by rw [HTL.out]; omega)
      rw [hz] at K
      obtain ⟨A2, c2, rfl, hc1, hc2, hA, K2⟩ := hO.fix (L0 := [(b11, #[.int .i64 c1, .int .i64 d1, v], 51), (b10, #[.int .i64 0, .int .i64 0, .slice none 0 0], 51), (b5, #[.int .i64 p, .int .i64 q, .slice A n c], 51)]) K
      rw [HC.out] at K2
      have HA := Lib.hid hA
      clear K hO hc1 hc2 hA hz
      replace K := K2
      clear K2
      revert wr
      intro ww K
      go_wp2_with (first|((with_reducible refine at_load ?_);first|(refine wm_load (cs := ?_) (t := ?_) (n := ?_) K rfl _ _ rfl rfl ?_ ?_ ?_ ?_;rotate_left 2;(repeat (exact At.hd));rotate_left;(with_reducible first|exact row51);(exact rfl)))|((with_reducible refine at_store ?_);(first|(refine wm_store (L' := ?_) (cs := ?_) (t := ?_) (n := ?_) K rfl _ _ _ rfl rfl rfl rfl ?_ ?_ ?_ ?_ ?_ ?_;rotate_left 3;(repeat (first|exact Put.hd|(refine Put.tl (L' := ?_) ?_;rotate_left)));rotate_left;(with_reducible first|exact row51);(exact rfl);(exact rfl);(simp [Ones, Value.oneCell'])));(try clear K);(try clear ww);intro ww K;(try simp [go_sem] at K)))
      refine bodyPost_ret (K.res rfl _ rfl (At.tl At.hd) (by (with_reducible first|exact row51)) (by (exact rfl))) rfl ?_
      exact ⟨A2, c2, by first | rfl | rw [HC.out], ⟨⟨cs, K.fact.1, by rw [HTE.out]; exact K.fact.2.1⟩, HA.out⟩, K.below⟩
end Go.Proofs.Yteancdipmpmjpaa
namespace Go.Proofs.Yteancdipmpmjpaa
open Go.RowKit
attribute [local irreducible] wpHeld wpTree wpList
set_option linter.unusedVariables false
def splitN (p P2 : Nat) (xs : List Nat) (m : Nat) : List Nat := genN m fun k => xs.getD (k / P2 / 2 * p + k % P2 / 2) 0
set_option maxRecDepth 100000 in
set_option maxHeartbeats 8000000 in
theorem Split17 (p q P2 Q2 m n c : Nat) (A : Option Addr) (xs : List Nat) (w : World) (h : Fn w A n xs) (hn : p * q = n) (hp : 1 ≤ p ∧ p ≤ 32) (hq : 1 ≤ q ∧ q ≤ 32) (hP : 2 * p = P2) (hQ : 2 * q = Q2) (hm : 4 * n = m) :
    Calls Try.prog 70 #[.agg #[.int .i64 p, .int .i64 q, .slice A n c]] w fun e w' => ∃ A2 c2, e = .returned (.agg #[.int .i64 P2, .int .i64 Q2, .slice A2 m c2]) ∧ (Fn w' A2 m (splitN p P2 xs m) ∧ Nw w.heap.size A2) ∧ Below w.heap.size w w' := by
  have hl := h.len
  obtain ⟨cs0, hR, hA0⟩ := h
  have K := St.startF w (fun w => AllN w cs0 xs) (fun w' hb => hA0.mono fun _ _ _ _ h => h.below hb) (fun a b e h => h.heap e)
  have hm64 : m ≤ 4096 := by have := Nat.mul_le_mul hp.2 hq.2; omega
  have HR := Lib.hid hR
  have HA0 := Lib.hid hA0
  have HL := Lib.hid hl
  have HN := Lib.hid (And.intro hn (And.intro hp (And.intro hq (And.intro hP (And.intro hQ hm)))))
  obtain ⟨T, hT⟩ : ∃ T, splitN p P2 xs m = T := ⟨_, rfl⟩
  have HTE := Lib.hid hT
  have HTL : Hid (T.length = m) := Lib.hid (by rw [← hT]; exact genN_len _ _)
  have HTG : Hid (∀ k, k < m → T.take (k + 1) = T.take k ++ [xs.getD (k / P2 / 2 * p + k % P2 / 2) 0]) := Lib.hid (fun k hk => by rw [← hT]; exact genN_snoc _ hk)
  have e1h : Hid (wrap64 (2 * (p : Int)) = (P2 : Int)) := Lib.hid (w64e (by omega) (by omega) (by omega))
  have e2h : Hid (wrap64 (2 * (q : Int)) = (Q2 : Int)) := Lib.hid (w64e (by omega) (by omega) (by omega))
  have e3h : Hid (wrap64 (4 * (n : Int)) = (m : Int)) := Lib.hid (w64e (by omega) (by omega) (by omega))
  clear hT hR hA0 hl hn hp hq hP hQ hm
  have e1 := e1h.out
  have e2 := e2h.out
  have e3 := e3h.out
  go_enter Try.func70, Try.ntmps70
  go_wp2_with (first|((with_reducible refine at_load ?_);first|(refine wm_own (cs := ?_) (t := ?_) (v := ?_) K rfl _ _ rfl rfl ?_ ?_ ?_ ?_;rotate_left 2;(repeat (first|exact At.hd|refine At.tl ?_));rotate_left;(exact rfl);(with_reducible first|exact one3|exact one49)))|((with_reducible refine at_store ?_);(first|(refine wm_store (L' := ?_) (cs := ?_) (t := ?_) (n := ?_) K rfl _ _ _ rfl rfl rfl rfl ?_ ?_ ?_ ?_ ?_ ?_;rotate_left 3;(repeat (exact Put.hd));rotate_left;(with_reducible first|exact row51);(exact rfl);(exact rfl);(simp [Ones, Value.oneCell'])));(try clear K);(try clear ww);intro ww K;(try simp [go_sem] at K))|((first|((with_reducible refine at_box ?_);refine wm_box K rfl _ _ rfl rfl rfl ?_)|((with_reducible refine at_alloc ?_);refine wm_alloc (v := ?_) (cs := ?_) K rfl _ rfl ?_ ?_ ?_;rotate_left;(with_reducible first|exact zero51);rotate_left;exact rfl));(try clear K);(try clear ww);(first|((fail_if_success (have _h := b1));intro b1 ww K)|((fail_if_success (have _h := b2));intro b2 ww K)|((fail_if_success (have _h := b3));intro b3 ww K));(try simp [go_sem, Value.cells] at K)))
  (try rw [e1] at K ⊢); (try rw [e2] at K ⊢); (try rw [e3])
  clear e1 e2 e3
  go_loopw [16] (fun i wr => ∃ (k : Nat) (v : Value) (cs : List Value) (Lo : List Blk), k ≤ m ∧ i = .int .i64 k ∧ OwnT v 108 cs Lo ∧ Hid (cs.length = k) ∧ St w.heap.size w ((b3, #[.int .i64 P2, .int .i64 Q2, v], 51) :: (b2, #[.int .i64 0, .int .i64 0, .slice none 0 0], 51) :: (b1, #[.int .i64 p, .int .i64 q, .slice A n c], 51) :: Lo) (fun w => AllN w cs (T.take k) ∧ AllN w cs0 xs) wr) (fun i _ => m - (intOf i).toNat)
  case atStart => exact ⟨0, _, [], [], Nat.zero_le _, rfl, OwnT.nil _, Lib.hid rfl, K.weak fun w h => ⟨AllN.nil w, h⟩⟩
  case round =>
    clear K
    obtain ⟨i, v, cs, Lo, hi, rfl, hO, HC, K⟩ := hrel
    by_cases hlt : i < m
    · have ht : decide ((i : Int) < m) = true := decide_eq_true (by omega)
      have htn : decide (i < m) = true := decide_eq_true hlt
      obtain ⟨hn, hp, hq, hP, hQ, hm⟩ := HN.out
      have hpl := (split_place (p := p) (q := q) (k := i) (by omega) (by omega)).2.2
      rw [hP, hn] at hpl
      have hsn0 := HTG.out i hlt
      obtain ⟨j, hj⟩ : ∃ j, i / P2 / 2 * p + i % P2 / 2 = j := ⟨_, rfl⟩
      rw [hj] at hpl hsn0
      obtain ⟨d, hdd⟩ : ∃ d, i / P2 = d := ⟨_, rfl⟩
      obtain ⟨e, he⟩ : ∃ e, i % P2 = e := ⟨_, rfl⟩
      have he2 : e < P2 := by rw [← he]; exact Nat.mod_lt _ (by omega)
      have hd2 : d ≤ i := by rw [← hdd]; exact Nat.div_le_self _ _
      rw [hdd, he] at hj
      obtain ⟨yy, hyy⟩ : ∃ yy, d / 2 = yy := ⟨_, rfl⟩
      obtain ⟨xx, hxx⟩ : ∃ xx, e / 2 = xx := ⟨_, rfl⟩
      rw [hyy, hxx] at hj
      obtain ⟨R, hR⟩ : ∃ R, yy * p = R := ⟨_, rfl⟩
      rw [hR] at hj
      have c1h : Hid ((i : Int).tmod (P2 : Int) = (e : Int)) := Lib.hid (by rw [Int.tmod_eq_emod_of_nonneg (by omega), ← Int.natCast_emod, he])
      have c2h : Hid ((e : Int).tdiv 2 = (xx : Int)) := Lib.hid (by rw [Int.tdiv_eq_ediv_of_nonneg (by omega)]; omega)
      have c3h : Hid ((i : Int).tdiv (P2 : Int) = (d : Int)) := Lib.hid (by rw [Int.tdiv_eq_ediv_of_nonneg (by omega), ← Int.natCast_ediv, hdd])
      have c4h : Hid ((d : Int).tdiv 2 = (yy : Int)) := Lib.hid (by rw [Int.tdiv_eq_ediv_of_nonneg (by omega)]; omega)
      have c5h : Hid (IntKind.i64.wrap (xx : Int) = xx) := Lib.hid (IntWalk.i64_in _ (by omega))
      have c6h : Hid (IntKind.i64.wrap (yy : Int) = yy) := Lib.hid (IntWalk.i64_in _ (by omega))
      have c7h : Hid (IntKind.i64.wrap (d : Int) = d) := Lib.hid (IntWalk.i64_in _ (by omega))
      have c8h : Hid (IntKind.i64.wrap ((yy : Int) * (p : Int)) = (R : Int)) := Lib.hid (by rw [← Int.natCast_mul, hR]; exact IntWalk.i64_in _ (by omega))
      have c9h : Hid (IntKind.i64.wrap ((R : Int) + (xx : Int)) = (j : Int)) := Lib.hid ((IntWalk.i64_in _ (by omega)).trans (by omega))
      have c0 : (P2 = 0) = False := by simp; omega
      obtain ⟨ea, ka, ca, e1, -, -⟩ := HA0.out.2 j (by rw [HL.out]; exact hpl)
      obtain ⟨b0, off, rfl, hbb, hc⟩ := HR.out.get hpl
      have hv := hc j _ e1
      have HE1 := Lib.hid e1
      have hsn := Lib.hid hsn0
      have hb1 : (cs.length + 1) * 24 ≤ 140737488355328 := by rw [HC.out]; omega
      have hb2 : cs.length + 1 ≤ maxLen := by rw [HC.out]; unfold maxLen; omega
      clear hn hp hq hP hQ hm hj hdd he he2 hd2 hyy hxx hR hc e1 hsn0
      go_wp2_with (fail)
      have c1 := c1h.out
      have c2 := c2h.out
      have c3 := c3h.out
      have c4 := c4h.out
      have c5 := c5h.out
      have c6 := c6h.out
      have c7 := c7h.out
      have c8 := c8h.out
      have c9 := c9h.out
      refine wm_tree _ (.take 0 (.take 2 (.take 3 (.take 4 (.take 5 (.take 9 (.take 10 (.take 12 (.take 13 (.alt 1 (.alt 6 (.take 7 (.take 8 (.take 11 (.alt 14 (.take 15 (.take 16 (.take 17 (.take 18 (.take 19 (.alt 20 (.alt 21 (.take 22 (.alt 23 .done .stop)) .stop) .stop)))))) .stop)))) (.alt 14 (.take 15 (.take 16 (.alt 6 (.take 7 (.take 8 (.take 11 (.take 17 (.take 18 (.take 19 (.alt 20 (.alt 21 (.take 22 (.alt 23 .done .stop)) .stop) .stop))))))) .stop))) .stop)) (.alt 6 (.take 7 (.take 8 (.take 11 (.alt 1 (.alt 14 (.take 15 (.take 16 (.take 17 (.take 18 (.take 19 (.alt 20 (.alt 21 (.take 22 (.alt 23 .done .stop)) .stop) .stop)))))) .stop) (.alt 14 (.take 15 (.take 16 (.take 17 (.take 18 (.take 19 (.alt 1 (.alt 20 (.alt 21 (.take 22 (.alt 23 .done .stop)) .stop) .stop) (.alt 20 (.alt 1 (.alt 21 (.take 22 (.alt 23 .done .stop)) .stop) .stop) .stop))))))) .stop))))) (.alt 14 (.take 15 (.take 16 (.alt 1 (.alt 6 (.take 7 (.take 8 (.take 11 (.take 17 (.take 18 (.take 19 (.alt 20 (.alt 21 (.take 22 (.alt 23 .done .stop)) .stop) .stop))))))) .stop) (.alt 6 (.take 7 (.take 8 (.take 11 (.take 17 (.take 18 (.take 19 (.alt 1 (.alt 20 (.alt 21 (.take 22 (.alt 23 .done .stop)) .stop) .stop) (.alt 20 (.alt 1 (.alt 21 (.take 22 (.alt 23 .done .stop)) .stop) .stop) .stop)))))))) .stop)))) .stop)))))))))))) K sbd1k2 (by kernel_rfl) (by kernel_rfl) ?_; (try clear K); (try clear ww); intro ww K; (try simp [go_sem] at K)
      repeat' (first|exact tree_stop|(refine tm_own (cs := ?_) (t0 := ?_) (v := ?_) rfl rfl _ _ rfl rfl ?_ ?_ ?_ ?_;rotate_left 2;(repeat (first|exact At.hd|refine At.tl ?_));rotate_left;(first|exact rfl|assumption);(with_reducible first|exact one3|exact one49))|(refine tm_farD (v := ?_) rfl rfl _ _ rfl rfl (fun ww K => ?_) ?_ ?_;rotate_left;(first|exact (K.below.cell (by assumption)).trans (by assumption));(with_reducible first|fail))|(refine tm_far1 (v := ?_) rfl rfl _ _ rfl rfl (fun ww K => ?_) ?_ ?_;rotate_left;(first|exact (K.below.cell (by assumption)).trans (by assumption));(with_reducible first|exact row108))|(refine tree_take (fun K' hK' => ?_);simp only [opAt, List.getElem?_toArray, List.getElem?_cons_succ, List.getElem?_cons_zero, Option.getD_some];go_simp;first|(apply Exists.intro;refine ⟨?_, hK' _ ?_⟩;(intro _ _;rfl);clear hK' K'))|(refine tm_nowAt (cs := ?_) (t0 := ?_) (v := ?_) K rfl rfl _ _ rfl rfl ?_ ?_ ?_ (by apply via sbd1k2;first|exact K|exact K.tail) ?_ ?_;rotate_left 2;(repeat (first|exact At.hd|refine At.tl ?_));rotate_left;(exact rfl);(with_reducible first|exact one3|exact one49))|(refine tree_list rfl ?_ ?_;refine wm_oneZ K rfl _ _ rfl Try.underlying49 infoNat Cell1.agg rfl Cell1.agg ?_;intro bb ww2 K2;(try simp [go_sem] at K2);refine wl_nil ⟨(by apply via sbd1k2;first|exact K2.tail), ?_⟩;replace K := K2;clear K2;(try clear ww);revert ww2;intro ww K)|(refine tree_list rfl ?_ ?_;refine wm_appZT (L0 := ?_) K ?_ rfl _ _ _ rfl Try.underlying49 infoNat Cell1.agg rfl hO rfl rfl (by first|assumption) (by first|assumption) ?_;rotate_left;(repeat (first|exact Tl.nil|(refine Tl.cons (L0 := ?_) ?_;rotate_left)));intro v ww2 Lo2 hO2 K2;obtain ⟨_, _, _, rfl, _⟩ := hO2.val;(try simp only [List.cons_append, List.nil_append] at K2);refine wl_nil ⟨(by apply via sbd1k2;first|exact K2), ?_⟩;replace K := K2;replace hO := hO2;clear K2 hO2;(try clear ww);revert ww2;intro ww K)|(refine tm_put (L' := ?_) (cs := ?_) (new := ?_) (t0 := ?_) K rfl rfl _ _ _ rfl rfl rfl rfl ?_ ?_ ?_ ?_ rfl rfl ?_ ?_;rotate_left 4;(repeat (exact Put.hd));(exact Nat.le_of_ble_eq_true rfl);((simp only [List.setIfInBounds_toArray];exact rfl));(with_reducible first|exact one49);intro ww2 K2;(try simp [go_sem] at K2);refine ⟨(by apply via sbd1k2;first|exact K2), ?_⟩;replace K := K2;clear K2;(try clear ww);revert ww2;intro ww K))
      all_goals refine tree_done ?_
      all_goals (try simp only [opAt, List.getElem?_toArray, List.getElem?_cons_succ, List.getElem?_cons_zero, Option.getD_some])
      all_goals (try go_simp)
      all_goals clear c0 c1 c2 c3 c4 c5 c6 c7 c8 c9
      all_goals (try go_wp2_with (fail))
      all_goals exact ⟨⟨i + 1, _, _, _, by omega, by go_num, hO, Lib.hid (by rw [List.length_append, HC.out]; rfl), K.weak fun w h => ⟨by
          have h1 := h.2.nt (j := j) (by rw [HL.out]; exact hpl) HE1.out
          rw [hsn.out]; exact h.1.snoc h1.1 h1.2, h.2⟩⟩, by simp [intOf]; omega⟩
    · obtain rfl : m = i := by omega
      have ht : decide ((m : Int) < m) = false := decide_eq_false (by omega)
      have hz : T.take m = T := List.take_of_length_le (by rw [HTL.out]; omega)
      rw [hz] at K
      obtain ⟨A2, c2, rfl, hc1, hc2, hA, K2⟩ := hO.fix (L0 := [(b3, #[.int .i64 P2, .int .i64 Q2, v], 51), (b2, #[.int .i64 0, .int .i64 0, .slice none 0 0], 51), (b1, #[.int .i64 p, .int .i64 q, .slice A n c], 51)]) K
      rw [HC.out] at K2
      have HA := Lib.hid hA
      clear K hO hc1 hc2 hA hz
      replace K := K2
      clear K2
      revert wr
      intro ww K
      go_wp2_with (first|((with_reducible refine at_load ?_);first|(refine wm_load (cs := ?_) (t := ?_) (n := ?_) K rfl _ _ rfl rfl ?_ ?_ ?_ ?_;rotate_left 2;(repeat (exact At.hd));rotate_left;(with_reducible first|exact row51);(exact rfl)))|((with_reducible refine at_store ?_);(first|(refine wm_store (L' := ?_) (cs := ?_) (t := ?_) (n := ?_) K rfl _ _ _ rfl rfl rfl rfl ?_ ?_ ?_ ?_ ?_ ?_;rotate_left 3;(repeat (first|exact Put.hd|(refine Put.tl (L' := ?_) ?_;rotate_left)));rotate_left;(with_reducible first|exact row51);(exact rfl);(exact rfl);(simp [Ones, Value.oneCell'])));(try clear K);(try clear ww);intro ww K;(try simp [go_sem] at K)))
      refine bodyPost_ret (K.res rfl _ rfl (At.tl At.hd) (by (with_reducible first|exact row51)) (by (exact rfl))) rfl ?_
      exact ⟨A2, c2, by first | rfl | rw [HC.out], ⟨⟨cs, K.fact.1, by rw [HTE.out]; exact K.fact.2.1⟩, HA.out⟩, K.below⟩
end Go.Proofs.Yteancdipmpmjpaa
namespace Go.Proofs.Yteancdipmpmjpaa
open Go.RowKit
attribute [local irreducible] wpHeld wpTree wpList
set_option linter.unusedVariables false
set_option maxRecDepth 100000 in
set_option maxHeartbeats 8000000 in
theorem Join17 (p q m1 q1 n4 n c M : Nat) (A : Option Addr) (xs : List Nat) (w : World) (h : Fn w A n xs) (hB : ∀ x ∈ xs, x < M) (hM0 : 0 < M) (hM : M * 5 < Lim) (hn : p * q = n) (hp : p = 2 * m1) (hq : q = 2 * q1) (hm : 1 ≤ m1 ∧ m1 ≤ 32) (hq1 : 1 ≤ q1 ∧ q1 ≤ 32) (hm4 : m1 * q1 = n4) :
    Calls Try.prog 71 #[.agg #[.int .i64 p, .int .i64 q, .slice A n c]] w fun e w' => ∃ A2 c2, e = .returned (.agg #[.int .i64 m1, .int .i64 q1, .slice A2 n4 c2]) ∧ (Fn w' A2 n4 (joinN p m1 xs n4) ∧ Nw w.heap.size A2) ∧ Below w.heap.size w w' := by
  have hl := h.len
  have K := St.start w
  have h4 : 4 * n4 = n := by rw [← hn, hp, hq, Nat.mul_mul_mul_comm, hm4]
  have hn1 : 1 ≤ n4 ∧ n4 ≤ 1024 := by
    have a1 := Nat.mul_le_mul hm.2 hq1.2
    have a2 := Nat.mul_le_mul hm.1 hq1.1
    omega
  have hn5k : n ≤ 5000 := by omega
  have m1' : 24 * n4 ≤ 281474976710656 := by omega
  have m2' : n4 ≤ 4611686018427387904 := by omega
  have HR := Lib.hid h
  have HL := Lib.hid hl
  have HB := Lib.hid hB
  have HM := Lib.hid (And.intro hM0 hM)
  have HN := Lib.hid (And.intro hn (And.intro hp (And.intro hq (And.intro hm (And.intro hm4 (And.intro h4 (And.intro hq1 hn1)))))))
  have c3h : Hid ((p : Int).tdiv 2 = (m1 : Int)) := Lib.hid (by rw [Int.tdiv_eq_ediv_of_nonneg (by omega)]; omega)
  have c4h : Hid ((q : Int).tdiv 2 = (q1 : Int)) := Lib.hid (by rw [Int.tdiv_eq_ediv_of_nonneg (by omega)]; omega)
  have c7h : Hid ((n : Int).tdiv 4 = (n4 : Int)) := Lib.hid (by rw [Int.tdiv_eq_ediv_of_nonneg (by omega)]; omega)
  have e1h : Hid (IntKind.i64.wrap (m1 : Int) = m1) := Lib.hid (IntWalk.i64_in _ (by omega))
  have e2h : Hid (IntKind.i64.wrap (q1 : Int) = q1) := Lib.hid (IntWalk.i64_in _ (by omega))
  have e7h : Hid (IntKind.i64.wrap (n4 : Int) = n4) := Lib.hid (IntWalk.i64_in _ (by omega))
  clear h hl hB hM0 hM hn hp hq hm hq1 hm4 h4 hn1
  have c3 := c3h.out
  have c4 := c4h.out
  have c7 := c7h.out
  have e1 := e1h.out
  have e2 := e2h.out
  have e7 := e7h.out
  go_enter Try.func71, Try.ntmps71
  go_wp2_with (first|((first|((with_reducible refine at_box ?_);refine wm_box K rfl _ _ rfl rfl rfl ?_)|((with_reducible refine at_alloc ?_);refine wm_alloc (v := ?_) (cs := ?_) K rfl _ rfl ?_ ?_ ?_;rotate_left;(with_reducible first|exact zero51);rotate_left;exact rfl));(try clear K);(try clear ww);(first|((fail_if_success (have _h := b1));intro b1 ww K)|((fail_if_success (have _h := b2));intro b2 ww K));(try simp [go_sem, Value.cells] at K)))
  (try simp only [Act.put, List.setIfInBounds_toArray, List.set_cons_zero, List.set_cons_succ])
  go_cut [3] from 7 to 18 (fun p3 wc => ∃ b3 g : Nat, p3 = .pointer (some ⟨b3, 0, none⟩) ∧ St w.heap.size w [(b3, #[.int .i64 m1, .int .i64 q1, .slice (some ⟨g, 0, none⟩) n4 n4], 51), (g, (List.replicate n4 (Value.slice none 0 0)).toArray, 108), (b2, #[.int .i64 0, .int .i64 0, .slice none 0 0], 51), (b1, #[.int .i64 p, .int .i64 q, .slice A n c], 51)] Any wc)
  case first =>
    refine wm_tree _ (.take 0 (.take 1 (.take 2 (.take 3 (.take 4 (.take 5 (.take 6 (.take 7 (.take 8 (.take 9 (.alt 10 (.take 11 (.alt 12 (.alt 13 .done .stop) .stop)) (.alt 12 (.alt 10 (.take 11 (.alt 13 .done .stop)) .stop) .stop)))))))))))) K sbr (by kernel_rfl) (by kernel_rfl) ?_; (try clear K); (try clear ww); intro ww K; (try simp [go_sem] at K)
    repeat' (first|exact tree_stop|(refine tm_own (cs := ?_) (t0 := ?_) (v := ?_) rfl rfl _ _ rfl rfl ?_ ?_ ?_ ?_;rotate_left 2;(repeat (first|exact At.hd|refine At.tl ?_));rotate_left;(exact rfl);(with_reducible first|exact one3|exact one49))|(refine tree_take (fun K' hK' => ?_);simp only [opAt, List.getElem?_toArray, List.getElem?_cons_succ, List.getElem?_cons_zero, Option.getD_some];go_simp;first|(apply Exists.intro;refine ⟨?_, hK' _ ?_⟩;(intro _ _;rfl);clear hK' K'))|(refine tree_list rfl ?_ ?_;refine wm_makeZ K rfl _ _ _ rfl Try.underlying49 infoNat Cell1.agg n4 rfl rfl rfl rfl m1' m2' ?_;intro g ww2 K2;refine wl_nil ⟨(by apply via sbr;first|exact K2.tail|exact K2.tail.tail), ?_⟩;replace K := K2;clear K2;(try clear ww);revert ww2;intro ww K)|(first|((fail_if_success (have _h := b3));refine tm_alloc (v := ?_) (cs := ?_) K rfl rfl _ rfl ?_ ?_ ?_ ?_;rotate_left;(with_reducible first|exact zero51);rotate_left;exact rfl;intro b3 ww2 K2;(try simp [go_sem, Value.cells] at K2);refine ⟨(by apply via sbr;first|exact K2.tail|exact K2.tail.tail), ?_⟩;replace K := K2;clear K2;(try clear ww);revert ww2;intro ww K))|(refine tm_store (L' := ?_) (cs := ?_) (t0 := ?_) (n := ?_) K rfl rfl _ _ _ rfl rfl rfl rfl ?_ ?_ ?_ ?_ ?_ ?_ ?_;rotate_left 3;(repeat (first|exact Put.hd|(refine Put.tl (L' := ?_) ?_;rotate_left)));rotate_left;(with_reducible first|exact row51);(exact rfl);(exact rfl);(simp [Ones, Value.oneCell']);intro ww2 K2;(try simp [go_sem] at K2);refine ⟨(by apply via sbr;first|exact K2.tail.tail), ?_⟩;replace K := K2;clear K2;(try clear ww);revert ww2;intro ww K))
    all_goals refine tree_done ?_
    all_goals (try simp only [opAt, List.getElem?_toArray, List.getElem?_cons_succ, List.getElem?_cons_zero, Option.getD_some])
    all_goals (try go_simp)
    all_goals (try go_wp2_with (fail))
    all_goals (try go_meet)
    all_goals first | exact ⟨_, _, rfl, K⟩ | exact ⟨_, _, rfl, K.perm (List.Perm.swap _ _ _)⟩
  case rest =>
    clear K
    obtain ⟨b3, g, rfl, K⟩ := hcut
    clear c3 c4 c7 e1 e2 e7 c3h c4h c7h e1h e2h e7h m1' m2'
    have HZ0 : Hid (((List.replicate n4 (Value.slice none 0 0)).toArray : Array Value).size = n4 ∧ ∀ w, AllN w ((List.replicate n4 (Value.slice none 0 0)).toArray : Array Value).toList (genN n4 (pjoinN p m1 xs 0))) := Lib.hid ⟨by simp, fun w => by rw [genN_zero]; simpa using AllN.zeros w n4⟩
    generalize (List.replicate n4 (Value.slice none 0 0)).toArray = cur0 at *
    go_wp2_with (first|((with_reducible refine at_load ?_);first|(refine wm_own (cs := ?_) (t := ?_) (v := ?_) K rfl _ _ rfl rfl ?_ ?_ ?_ ?_;rotate_left 2;(repeat (first|exact At.hd|refine At.tl ?_));rotate_left;(exact rfl);(with_reducible first|exact one49))))
    go_loopw [22] (fun i wr => ∃ (k : Nat) (cur : Array Value), k ≤ n ∧ i = .int .i64 k ∧ Hid (cur.size = n4) ∧ St w.heap.size w [(b3, #[.int .i64 m1, .int .i64 q1, .slice (some ⟨g, 0, none⟩) n4 n4], 51), (g, cur, 108), (b2, #[.int .i64 0, .int .i64 0, .slice none 0 0], 51), (b1, #[.int .i64 p, .int .i64 q, .slice A n c], 51)] (fun w => AllN w cur.toList (genN n4 (pjoinN p m1 xs k))) wr) (fun i _ => n - (intOf i).toNat)
    case atStart => exact ⟨0, cur0, Nat.zero_le _, rfl, Lib.hid HZ0.out.1, K.weak fun w _ => HZ0.out.2 w⟩
    case round =>
      clear K HZ0
      obtain ⟨i, cur, hi, rfl, HC, K⟩ := hrel
      by_cases hlt : i < n
      · have ht : decide ((i : Int) < n) = true := decide_eq_true (by omega)
        have htn : decide (i < n) = true := decide_eq_true hlt
        obtain ⟨hn, hp, hq, hm, hm4, h4, hq1, hn1⟩ := HN.out
        obtain ⟨hM0, hM⟩ := HM.out
        have hd := dest_lt (p := p) (m := m1) (q2 := q1) (i := i) hp (by omega) (by rw [← hq, hn]; exact hlt)
        rw [hm4] at hd
        have hsc := scatterN_step (n4 := n4) (zs := xs) hp (by omega) hd
        rw [genN_get _ hd] at hsc
        obtain ⟨oa, ok, oc, oe, on, ok1⟩ := K.fact.2 (dest14 p m1 i) (by rw [genN_len]; exact hd)
        rw [genN_get _ hd] at on
        have ol := pjoinN_lt (p := p) (m := m1) (i := i) (k := dest14 p m1 i) hM0 HB.out
        obtain ⟨j, hj⟩ : ∃ j, dest14 p m1 i = j := ⟨_, rfl⟩
        rw [hj] at hd hsc oe on ol
        have hgv : (genN n4 (pjoinN p m1 xs i)).getD j 0 = pjoinN p m1 xs i j := genN_get _ hd
        generalize pjoinN p m1 xs i j = ov at *
        have HG := Lib.hid hgv
        have HD := Lib.hid hd
        unfold dest14 at hj
        obtain ⟨d, hdd⟩ : ∃ d, i / p = d := ⟨_, rfl⟩
        obtain ⟨e, he⟩ : ∃ e, i % p = e := ⟨_, rfl⟩
        rw [hdd, he] at hj
        obtain ⟨yy, hyy⟩ : ∃ yy, d / 2 = yy := ⟨_, rfl⟩
        obtain ⟨xx, hxx⟩ : ∃ xx, e / 2 = xx := ⟨_, rfl⟩
        rw [hyy, hxx] at hj
        obtain ⟨R, hR⟩ : ∃ R, yy * m1 = R := ⟨_, rfl⟩
        rw [hR] at hj
        have hd2 : d ≤ i := by rw [← hdd]; exact Nat.div_le_self _ _
        have c1h : Hid ((i : Int).tmod (p : Int) = (e : Int)) := Lib.hid (by rw [Int.tmod_eq_emod_of_nonneg (by omega), ← Int.natCast_emod, he])
        have c2h : Hid ((e : Int).tdiv 2 = (xx : Int)) := Lib.hid (by rw [Int.tdiv_eq_ediv_of_nonneg (by omega)]; omega)
        have c3h : Hid ((i : Int).tdiv (p : Int) = (d : Int)) := Lib.hid (by rw [Int.tdiv_eq_ediv_of_nonneg (by omega), ← Int.natCast_ediv, hdd])
        have c4h : Hid ((d : Int).tdiv 2 = (yy : Int)) := Lib.hid (by rw [Int.tdiv_eq_ediv_of_nonneg (by omega)]; omega)
        have c5h : Hid (IntKind.i64.wrap (xx : Int) = xx) := Lib.hid (IntWalk.i64_in _ (by omega))
        have c6h : Hid (IntKind.i64.wrap (yy : Int) = yy) := Lib.hid (IntWalk.i64_in _ (by omega))
        have c7h : Hid (IntKind.i64.wrap (d : Int) = d) := Lib.hid (IntWalk.i64_in _ (by omega))
        have c8h : Hid (IntKind.i64.wrap ((yy : Int) * (m1 : Int)) = (R : Int)) := Lib.hid (by rw [← Int.natCast_mul, hR]; exact IntWalk.i64_in _ (by omega))
        have c9h : Hid (IntKind.i64.wrap ((R : Int) + (xx : Int)) = (j : Int)) := Lib.hid ((IntWalk.i64_in _ (by omega)).trans (by omega))
        have c0 : (p = 0) = False := by simp; omega
        obtain ⟨b0, off, a, ka, ca, rfl, hbb, hc, hx, hka⟩ := HR.out.get hlt
        have g1 := getDN_all (P := fun x => x < M) hM0 HB.out i
        generalize xs.getD i 0 = x at *
        have hs : ov + x < Lim := by omega
        have HS := Lib.hid hs
        have HX := Lib.hid hx
        have HO := Lib.hid oe
        have HSC := Lib.hid hsc
        have hoe : cur[j]? = some (.slice oa ok oc) := by rw [← Array.getElem?_toList]; exact oe
        have hink : j < cur.size := by rw [HC.out]; exact hd
        clear hgv hn hp hq hm hm4 h4 hq1 hn1 hM0 hM hsc ol hj hdd he hyy hxx hR hd2 g1 hs hx oe on
        go_wp2_with (first|((with_reducible refine at_load ?_);refine wm_far1 (v := ?_) rfl _ _ rfl rfl ?_ ?_ ?_;rotate_left;(first|exact (K.below.cell (by assumption)).trans (by assumption));(with_reducible first|exact row108))|((with_reducible refine at_store ?_);(first|(refine wm_store (L' := ?_) (cs := ?_) (t := ?_) (n := ?_) K rfl _ _ _ rfl rfl rfl rfl ?_ ?_ ?_ ?_ ?_ ?_;rotate_left 3;(repeat (exact Put.hd));rotate_left;(with_reducible first|exact row108);(exact rfl);(exact rfl);(simp [Ones, Value.oneCell'])));(try clear K);(try clear ww);intro ww K;(try simp [go_sem] at K))|((first|((with_reducible refine at_alloc ?_);refine wm_alloc (v := ?_) (cs := ?_) K rfl _ rfl ?_ ?_ ?_;rotate_left;(with_reducible first|exact zero108);rotate_left;exact rfl));(try clear K);(try clear ww);((fail_if_success (have _h := b5));intro b5 ww K);(try simp [go_sem, Value.cells] at K)))
        have c1 := c1h.out
        have c2 := c2h.out
        have c3 := c3h.out
        have c4 := c4h.out
        have c5 := c5h.out
        have c6 := c6h.out
        have c7 := c7h.out
        have c8 := c8h.out
        have c9 := c9h.out
        refine wm_held _ [(true, 0), (true, 1), (true, 2), (true, 3), (true, 4), (true, 5), (true, 6), (true, 7), (true, 8), (true, 9), (true, 10), (true, 11), (true, 12), (true, 13), (true, 14)] K sbr (by kernel_rfl) (by kernel_rfl) ?_; (try clear K); (try clear ww); intro ww K; (try simp [go_sem] at K); simp only [pick, List.getElem?_toArray, List.getElem?_cons_succ, List.getElem?_cons_zero]
        repeat (first|((with_reducible refine ht_load ?_);first|(refine hm_own (cs := ?_) (t := ?_) (v := ?_) rfl _ _ rfl rfl ?_ ?_ ?_ ?_;rotate_left 2;(repeat (first|exact At.hd|refine At.tl ?_));rotate_left;(exact rfl);(with_reducible first|exact one3)))|(refine held_take (fun K' hK' => ?_);go_simp;first|(apply Exists.intro;refine ⟨?_, hK' _ ?_⟩;(intro _ _;rfl);clear hK' K')))
        refine held_nil ?_
        clear c0 c1 c2 c3 c4 c5 c6 c7 c8 c9
        go_wp2_with fail
        refine wm_held _ [(true, 0), (true, 1), (true, 2), (true, 3), (true, 4), (true, 5), (true, 6), (true, 8), (false, 7), (false, 9), (true, 10), (false, 11)] K sb2s (by kernel_rfl) (by kernel_rfl) ?_; (try clear K); (try clear ww); intro ww K; (try simp [go_sem] at K); simp only [pick, List.getElem?_toArray, List.getElem?_cons_succ, List.getElem?_cons_zero]
        repeat (first|((with_reducible refine ht_load ?_);first|(refine hm_load (cs := ?_) (t := ?_) (n := ?_) rfl _ _ rfl rfl ?_ ?_ ?_ ?_;rotate_left 2;(repeat (exact At.hd));rotate_left;(with_reducible first|exact row108);(exact rfl))|(refine hm_own (cs := ?_) (t := ?_) (v := ?_) rfl _ _ rfl rfl ?_ ?_ ?_ ?_;rotate_left 2;(repeat (first|exact At.hd|refine At.tl ?_));rotate_left;(exact rfl);(with_reducible first|exact one49)))|(refine held_take (fun K' hK' => ?_);go_simp;first|(apply Exists.intro;refine ⟨?_, hK' _ ?_⟩;(intro _ _;rfl);clear hK' K'))|((with_reducible refine ht_load ?_);refine held_list rfl ?_;refine wm_ownZ (cs := ?_) (t := ?_) (v := ?_) K rfl _ _ rfl rfl ?_ ?_ ?_ ?_;rotate_left 2;(repeat (first|exact At.hd|refine At.tl ?_));rotate_left;assumption;(with_reducible first|exact row108);refine wl_nil ⟨(by apply via sb2s;first|exact K), ?_⟩)|((with_reducible refine ht_store ?_);refine held_list rfl ?_;refine wm_putZ (L' := ?_) (cs := ?_) (new := ?_) (t := ?_) K rfl _ _ _ rfl rfl rfl rfl ?_ ?_ ?_ ?_ rfl ?_;rotate_left 4;(repeat (first|exact Put.hd|(refine Put.tl (L' := ?_) ?_;rotate_left)));(omega);exact rfl;(with_reducible first|exact row108);intro ww2 K2;(try simp [go_sem] at K2);refine wl_nil ⟨(by apply via sb2s;first|exact K2.weak wk1), ?_⟩;replace K := K2;clear K2;(try clear ww);revert ww2;intro ww K)|(refine held_do (fun K' hK' => ?_);go_simp;go_at_call 75;have zz := K.addT (by have h := (K.fact.nt (j := j) (by rw [genN_len];exact HD.out) HO.out).1;rw [HG.out] at h;exact h) (HX.out.below K.below) ok1 hka HS.out;(with_reducible refine zz.mono ?_);clear zz;rintro e w2 ⟨_, _, rfl, K2⟩;(try dsimp only);refine hK' _ _ (by apply via sb2s;first|exact K2.weak wk1) ?_;replace K := K2;clear hK' K' K2;(try clear ww);revert w2;intro ww K))
        refine held_nil ?_
        go_wp2_with fail
        exact ⟨⟨i + 1, _, by omega, by go_num, Lib.hid (by rw [Array.size_setIfInBounds]; exact HC.out), K.tail.weak fun w h => by
          have h1 := h.2.set (i := j) (by rw [genN_len]; exact HD.out) h.1.1 h.1.2
          rw [HSC.out] at h1
          rw [Array.toList_setIfInBounds]; exact h1⟩, by simp [intOf]; omega⟩
      · obtain rfl : n = i := by omega
        have ht : decide ((n : Int) < n) = false := decide_eq_false (by omega)
        obtain ⟨hn, hp, hq, hm, hm4, h4, hq1, hn1⟩ := HN.out
        have hJ : genN n4 (pjoinN p m1 xs n) = joinN p m1 xs n4 := by rw [← hn, ← hm4, hq]; exact genN_join hp (by omega)
        rw [hJ] at K
        have HX : Hid (cur.toList.take n4 = cur.toList ∧ n4 ≤ cur.size) := Lib.hid ⟨List.take_of_length_le (by rw [Array.length_toList, HC.out]; exact Nat.le_refl _), by rw [HC.out]; exact Nat.le_refl _⟩
        clear hn hp hq hm hm4 h4 hq1 hn1 hJ
        go_wp2_with (first|((with_reducible refine at_load ?_);first|(refine wm_load (cs := ?_) (t := ?_) (n := ?_) K rfl _ _ rfl rfl ?_ ?_ ?_ ?_;rotate_left 2;(repeat (exact At.hd));rotate_left;(with_reducible first|exact row51);(exact rfl)))|((with_reducible refine at_store ?_);(first|(refine wm_store (L' := ?_) (cs := ?_) (t := ?_) (n := ?_) K rfl _ _ _ rfl rfl rfl rfl ?_ ?_ ?_ ?_ ?_ ?_;rotate_left 3;(repeat (first|exact Put.hd|(refine Put.tl (L' := ?_) ?_;rotate_left)));rotate_left;(with_reducible first|exact row51);(exact rfl);(exact rfl);(simp [Ones, Value.oneCell'])));(try clear K);(try clear ww);intro ww K;(try simp [go_sem] at K)))
        refine bodyPost_ret (K.res rfl _ rfl (At.tl (At.tl At.hd)) (by (with_reducible first|exact row51)) (by (exact rfl))) rfl ?_
        exact ⟨some ⟨g, 0, none⟩, n4, rfl, ⟨⟨cur.toList, (sl_take (K.get (.tl .hd)) HX.out.1 HX.out.2).rd, K.fact⟩, Nw.mk _ _ _ (K.ge (.tl .hd))⟩, K.below⟩
end Go.Proofs.Yteancdipmpmjpaa
namespace Go.Proofs.Yteancdipmpmjpaa
open Go.RowKit
attribute [local irreducible] wpHeld wpTree wpList
set_option linter.unusedVariables false
section
variable {B : Nat} {w0 w w' : World} {L : List Blk} {F : World → Prop} {A : Option Addr} {n c X : Nat}
theorem St.mulT {A2 : Option Addr} {n2 c2 Y : Nat} (K : St B w0 L F w) (h1 : Nt w A n c X) (h2 : Nt w A2 n2 c2 Y) (hn : n ≤ 1000) (hn2 : n2 ≤ 1000) (hX : X * Y < Lim) :
    Calls Try.prog 78 #[.agg #[.slice A n c], .agg #[.slice A2 n2 c2]] w fun e w' => ∃ A k, e = .returned (.agg #[.slice A k k]) ∧ St B w0 L (fun w => (Nt w A k k (X * Y) ∧ k ≤ 1000) ∧ F w) w' := by
  refine (Mul_nat A A2 n c n2 c2 X Y w h1 h2 (by omega) (by omega)).mono ?_
  rintro e w' ⟨A', k, rfl, h, hA, hb⟩
  exact ⟨A', k, rfl, (K.madeNt hb h hA).weak fun w h => ⟨⟨h.1.1, h.1.1.le1000 hX⟩, h.2⟩⟩
theorem St.subT {A2 : Option Addr} {n2 c2 Y : Nat} (K : St B w0 L F w) (h1 : Nt w A n c X) (h2 : Nt w A2 n2 c2 Y) (hn : n ≤ 1000) (hn2 : n2 ≤ 1000) (hX : X - Y + (Y - X) < Lim) :
    Calls Try.prog 76 #[.agg #[.slice A n c], .agg #[.slice A2 n2 c2]] w fun e w' => ∃ A k, e = .returned (.agg #[.slice A k k]) ∧ St B w0 L (fun w => (Nt w A k k (X - Y + (Y - X)) ∧ k ≤ 1000) ∧ F w) w' := by
  refine (Sub_nat A A2 n c n2 c2 X Y w h1 h2 (by omega) (by omega)).mono ?_
  rintro e w' ⟨A', k, rfl, h, hA, hb⟩
  exact ⟨A', k, rfl, (K.madeNt hb h hA).weak fun w h => ⟨⟨h.1.1, h.1.1.le1000 hX⟩, h.2⟩⟩
theorem St.shlT (s : Nat) {z : Int} (K : St B w0 L F w) (hL : (L.all fun p => p.2.2 != 24) = true) (hz : z = (s : Int)) (h1 : Nt w A n c X) (hn : n ≤ 1000) (hs1 : 1 ≤ s) (hs2 : s ≤ 1000) (hX : X * 2 ^ s < Lim) :
    Calls Try.prog 80 #[.agg #[.slice A n c], .int .i64 z] w fun e w' => ∃ A k c, e = .returned (.agg #[.slice A k c]) ∧ St B w0 L (fun w => (Nt w A k c (X * 2 ^ s) ∧ k ≤ 1000) ∧ F w) w' := by
  subst hz
  by_cases h0 : X = 0
  · refine (Shl_same A n c X s w h1 (.inr h0) (by omega)).mono ?_
    rintro e w' ⟨rfl, hb⟩
    refine ⟨A, n, c, rfl, ((K.step hb).addNtT (noT_of hL) (h1.below hb)).weak fun w h => ⟨⟨?_, hn⟩, h.2⟩⟩
    have := h.1
    rwa [h0, Nat.zero_mul, ← h0]
  · refine (Shl_nat A n c X s w h1 (by omega) hs1 (by omega) h0).mono ?_
    rintro e w' ⟨A', k, rfl, h, hA, hb⟩
    exact ⟨A', k, k, rfl, (K.madeNt hb h hA).weak fun w h => ⟨⟨h.1.1, h.1.1.le1000 hX⟩, h.2⟩⟩
end
def psumN (f : Nat → Nat) : Nat → Nat
  | 0 => 0
  | n + 1 => psumN f n + f n
def dist17 (S T : Nat) (xs us : List Nat) (n : Nat) : Nat := psumN (fun i => T * xs.getD i 0 - us.getD i 0 * S + (us.getD i 0 * S - T * xs.getD i 0)) n
def over17 (xs us : List Nat) (b : Int) : Bool := if xs.sum = 0 ∨ us.sum = 0 then decide (b < 1099511627776) else decide (xs.sum * us.sum * b.toNat * 2 ^ 1 < dist17 xs.sum us.sum xs us xs.length * 2 ^ 40)
theorem psumN_le {f : Nat → Nat} {C : Nat} : ∀ {n : Nat}, (∀ i, i < n → f i ≤ C) → psumN f n ≤ n * C
  | 0, _ => by simp [psumN]
  | n + 1, h => by
    have h1 := psumN_le (n := n) (fun i hi => h i (by omega))
    have h2 := h n (by omega)
    rw [psumN, Nat.succ_mul]; omega
theorem sum_le_mul {l : List Nat} {C : Nat} (h : ∀ x ∈ l, x ≤ C) : l.sum ≤ l.length * C := by
  induction l with
  | nil => simp
  | cons a r ih =>
    have h1 := ih (fun x hx => h x (List.mem_cons_of_mem _ hx))
    have h2 := h a (by simp)
    rw [List.sum_cons, List.length_cons, Nat.succ_mul]; omega
theorem over_b1 {D E M C : Nat} (h1 : D ≤ E) (h2 : E ≤ 5000 * (5000 * M * 1073741824 + M * (5000 * 1073741824))) (hM : M * 1461501637330902918203684832716283019655932542976 < C) (h0 : 0 < M) : D * 2 ^ 40 < C := by
  have e1 : D ≤ M * 53687091200000000 := by omega
  have e2 := Nat.mul_le_mul_right (2 ^ 40) e1
  have e3 : (53687091200000000 : Nat) * 2 ^ 40 ≤ 1461501637330902918203684832716283019655932542976 := by decide +kernel
  have e4 := Nat.mul_le_mul_left M e3
  rw [Nat.mul_assoc] at e2
  exact Nat.lt_of_le_of_lt (Nat.le_trans e2 e4) hM
theorem le_1_40 : 1 ≤ 40 := by decide
theorem le_40_1000 : 40 ≤ 1000 := by decide
theorem le_1_1000 : 1 ≤ 1000 := by decide
theorem over_cmp {x1 x2 : Nat} {vv : Bool} (h : decide (x2 < x1) = vv) : decide (0 < cmpN x1 x2) = vv := by
  rw [← h]
  unfold cmpN
  split
  · rw [decide_eq_false (by omega), decide_eq_false (by omega)]
  · split
    · rw [decide_eq_true (by omega), decide_eq_true (by omega)]
    · rw [decide_eq_false (by omega), decide_eq_false (by omega)]
theorem over_cmp2 {D Q : Nat} {vv : Bool} (h : decide (Q * 2 ^ 1 < D * 2 ^ 40) = vv) : decide (0 < cmpN (D * 1099511627776) (Q * 2)) = vv := by
  have e : (2 : Nat) ^ 40 = 1099511627776 := by decide +kernel
  have e1 : (2 : Nat) ^ 1 = 2 := rfl
  rw [e, e1] at h
  exact over_cmp h
set_option maxRecDepth 100000 in
set_option maxHeartbeats 8000000 in
theorem Over17 (W H X Y S W2 H2 : Int) (A A2 : Option Addr) (n c c2 M : Nat) (zs : List Int) (us : List Nat) (b : Int) (w : World) (h : Rd w A n (ints .i64 zs)) (hb : ∀ z ∈ zs, 0 ≤ z ∧ z ≤ 1073741824) (hn : n ≤ 5000) (h2 : Fn w A2 n us) (hB : ∀ u ∈ us, u < M) (hM0 : 0 < M) (hM : M * 4294967296 ^ 5 < Lim) (hbb : -9223372036854775808 ≤ b ∧ b < 9223372036854775808) :
    Calls Try.prog 32 #[.agg #[.int .i64 W, .int .i64 H, .int .i64 X, .int .i64 Y, .int .i64 S, .slice A n c], .agg #[.int .i64 W2, .int .i64 H2, .slice A2 n c2], .int .i64 b] w fun e w' => e = .returned (.bool (over17 (toN zs) us b)) ∧ Below w.heap.size w w' := by
  have K := St.start w
  have hl : zs.length = n := by rw [← h.1, ints_len]
  have hl2 := h2.len
  have HR := Lib.hid h
  have HF := Lib.hid h2
  have HZ := Lib.hid hb
  have HL := Lib.hid hl
  have HL2 := Lib.hid hl2
  have hxl : (toN zs).length = n := by rw [toN_len, hl]
  have hxb : ∀ x ∈ toN zs, x ≤ 1073741824 := fun x hx => by
    obtain ⟨z, hz, rfl⟩ := List.mem_map.1 hx
    have := hb z hz; omega
  have FR := Lib.hid (fun (w : World) (h : Rd w A n (ints .i64 zs)) => From17 W H X Y S A n c zs w h HZ.out hn)
  obtain ⟨xs, hxs⟩ : ∃ xs, toN zs = xs := ⟨_, rfl⟩
  rw [hxs] at FR hxl hxb ⊢
  have HXG : Hid (∀ i, i < n → xs.getD i 0 = (zs.getD i 0).toNat) := Lib.hid fun i hi => by rw [← hxs]; exact toN_get (by omega)
  have hS := sum_le_mul hxb
  rw [hxl] at hS
  have hT := sum_le_mul (l := us) (C := M) (fun u hu => Nat.le_of_lt (hB u hu))
  rw [hl2] at hT
  unfold over17
  rw [hxl]
  obtain ⟨s, hs⟩ : ∃ s, xs.sum = s := ⟨_, rfl⟩
  obtain ⟨t, ht⟩ : ∃ t, us.sum = t := ⟨_, rfl⟩
  rw [hs] at hS ⊢
  rw [ht] at hT ⊢
  have hs43 : s ≤ 5000 * 1073741824 := Nat.le_trans hS (Nat.mul_le_mul_right _ hn)
  have ht43 : t ≤ 5000 * M := Nat.le_trans hT (Nat.mul_le_mul_right _ hn)
  have e5 : M * 4294967296 ^ 5 = M * 1461501637330902918203684832716283019655932542976 := rfl
  rw [e5] at hM
  have sl : s < Lim := by omega
  have tl : t < Lim := by omega
  have S1 := Lib.hid (fun (W H : Int) (A : Option Addr) (c : Nat) (w : World) (h : Fn w A n xs) => Sum17 (c := c) W H xs (by rw [hs]; exact sl) hn w h)
  have S2 := Lib.hid (fun (w : World) (h : Fn w A2 n us) => Sum17 (c := c2) W2 H2 us (by rw [ht]; exact tl) hn w h)
  rw [hs] at S1
  rw [ht] at S2
  have HST := Lib.hid (And.intro hs43 (And.intro ht43 (And.intro hM (And.intro hM0 hB))))
  obtain ⟨vv, hvv⟩ : ∃ vv : Bool, (if s = 0 ∨ t = 0 then decide (b < 1099511627776) else decide (s * t * b.toNat * 2 ^ 1 < dist17 s t xs us n * 2 ^ 40)) = vv := ⟨_, rfl⟩
  rw [hvv]
  have HV := Lib.hid hvv
  clear h hb h2 hl hl2 hB hxl hxb hxs hS hT hs ht hs43 ht43 e5 hM hM0 sl tl hvv
  go_enter Try.func32, Try.ntmps32
  go_wp2_with (first|((first|((with_reducible refine at_box ?_);refine wm_box K rfl _ _ rfl rfl rfl ?_));(try clear K);(try clear ww);(first|((fail_if_success (have _h := b3));intro b3 ww K)|((fail_if_success (have _h := b4));intro b4 ww K));(try simp [go_sem, Value.cells] at K)))
  (try simp only [Act.put, List.setIfInBounds_toArray, List.set_cons_zero, List.set_cons_succ])
  go_cut [7, 8] from 12 to 16 (fun p7 p8 wc => ∃ (b7 b8 : Nat) (a1 a2 : Option Addr) (k1 k2 : Nat), p7 = .pointer (some ⟨b7, 0, none⟩) ∧ p8 = .pointer (some ⟨b8, 0, none⟩) ∧ St w.heap.size w [(b8, #[.slice a2 k2 k2], 108), (b7, #[.slice a1 k1 k1], 108), (b4, #[.int .i64 W2, .int .i64 H2, .slice A2 n c2], 51), (b3, #[.int .i64 W, .int .i64 H, .int .i64 X, .int .i64 Y, .int .i64 S, .slice A n c], 47)] (fun w => (Nt w a2 k2 k2 t ∧ k2 ≤ 1000) ∧ (Nt w a1 k1 k1 s ∧ k1 ≤ 1000)) wc)
  case first =>
    refine wm_tree _ (.take 0 (.take 3 (.alt 1 (.alt 2 (.alt 4 (.alt 5 (.alt 6 (.alt 7 (.alt 8 .done .stop) .stop) .stop) (.alt 6 (.alt 5 (.alt 7 (.alt 8 .done .stop) .stop) .stop) .stop)) (.alt 5 (.alt 4 (.alt 6 (.alt 7 (.alt 8 .done .stop) .stop) .stop) (.alt 6 (.alt 4 (.alt 7 (.alt 8 .done .stop) .stop) .stop) .stop)) (.alt 6 (.alt 4 (.alt 5 (.alt 7 (.alt 8 .done .stop) .stop) .stop) (.alt 5 (.alt 4 (.alt 7 (.alt 8 .done .stop) .stop) .stop) .stop)) .stop))) (.alt 5 (.alt 2 (.alt 4 (.alt 6 (.alt 7 (.alt 8 .done .stop) .stop) .stop) (.alt 6 (.alt 4 (.alt 7 (.alt 8 .done .stop) .stop) .stop) .stop)) (.alt 6 (.alt 2 (.alt 4 (.alt 7 (.alt 8 .done .stop) .stop) .stop) .stop) .stop)) (.alt 6 (.alt 2 (.alt 4 (.alt 5 (.alt 7 (.alt 8 .done .stop) .stop) .stop) (.alt 5 (.alt 4 (.alt 7 (.alt 8 .done .stop) .stop) .stop) .stop)) (.alt 5 (.alt 2 (.alt 4 (.alt 7 (.alt 8 .done .stop) .stop) .stop) .stop) .stop)) .stop))) (.alt 5 (.alt 1 (.alt 2 (.alt 4 (.alt 6 (.alt 7 (.alt 8 .done .stop) .stop) .stop) (.alt 6 (.alt 4 (.alt 7 (.alt 8 .done .stop) .stop) .stop) .stop)) (.alt 6 (.alt 2 (.alt 4 (.alt 7 (.alt 8 .done .stop) .stop) .stop) .stop) .stop)) (.alt 6 (.alt 1 (.alt 2 (.alt 4 (.alt 7 (.alt 8 .done .stop) .stop) .stop) .stop) .stop) .stop)) (.alt 6 (.alt 1 (.alt 2 (.alt 4 (.alt 5 (.alt 7 (.alt 8 .done .stop) .stop) .stop) (.alt 5 (.alt 4 (.alt 7 (.alt 8 .done .stop) .stop) .stop) .stop)) (.alt 5 (.alt 2 (.alt 4 (.alt 7 (.alt 8 .done .stop) .stop) .stop) .stop) .stop)) (.alt 5 (.alt 1 (.alt 2 (.alt 4 (.alt 7 (.alt 8 .done .stop) .stop) .stop) .stop) .stop) .stop)) .stop))))) K sbr (by kernel_rfl) (by kernel_rfl) ?_; (try clear K); (try clear ww); intro ww K; (try simp [go_sem] at K)
    repeat' (first|exact tree_stop|(refine tm_load (cs := ?_) (t0 := ?_) (n := ?_) rfl rfl _ _ rfl rfl ?_ ?_ ?_ ?_;rotate_left 2;(repeat (first|exact At.hd|refine At.tl ?_));rotate_left;(with_reducible first|exact row47|exact row51);(exact rfl))|(refine tree_alt (fun K' hK' => ?_) ?_;simp only [opAt, List.getElem?_toArray, List.getElem?_cons_succ, List.getElem?_cons_zero, Option.getD_some];go_simp;go_at_call 29;have zz := FR.out _ (HR.out.below K.below);(with_reducible refine zz.mono ?_);clear zz;rintro e w2 ⟨Af, cf, rfl, ⟨hx, hA⟩, hbel⟩;(try dsimp only);have K2 := K.madeFn (noT_of rfl) hbel hx hA;refine hK' _ _ (by apply via sbr;first|exact K2.weak wk1|exact K2.tail.weak wk1|exact K2.tail.tail.weak wk1) ?_;replace K := K2;clear hK' K' K2 hbel hx hA;(try clear ww);revert w2;intro ww K)|(refine tree_alt (fun K' hK' => ?_) ?_;simp only [opAt, List.getElem?_toArray, List.getElem?_cons_succ, List.getElem?_cons_zero, Option.getD_some];go_simp;go_at_call 73;(first|(have zz := fun W H c => S1.out W H _ c _ (show Fn _ _ n xs from (by first|exact K.fact.1|exact K.fact.2.1));(with_reducible refine (zz _ _ _).mono ?_);clear zz)|(have zz := S2.out _ (HF.out.below K.below);(with_reducible refine zz.mono ?_);clear zz));rintro e w2 ⟨As, ks, rfl, ⟨hx, hks, hA⟩, hbel⟩;(try dsimp only);have K2 := (K.madeNt hbel hx hA).weak fun w h => And.intro (And.intro h.1.1 hks) h.2;refine hK' _ _ (by apply via sbr;first|exact K2.weak wk2|exact K2.tail.weak wk2|exact K2.tail.tail.weak wk2|exact K2.weak wk3|exact K2.tail.weak wk3|exact K2.tail.tail.weak wk3) ?_;replace K := K2;clear hK' K' K2 hbel hx hA hks;(try clear ww);revert w2;intro ww K)|(first|((fail_if_success (have _h := b7));refine tm_alloc (v := ?_) (cs := ?_) K rfl rfl _ rfl ?_ ?_ ?_ ?_;rotate_left;(with_reducible first|exact zero108);rotate_left;exact rfl;intro b7 ww2 K2;(try simp [go_sem, Value.cells] at K2);refine ⟨(by apply via sbr;first|exact K2.tail|exact K2.tail.weak wk1|exact K2.tail.weak wk2|exact K2.tail.weak wk3), ?_⟩;replace K := K2;clear K2;(try clear ww);revert ww2;intro ww K)|((fail_if_success (have _h := b8));refine tm_alloc (v := ?_) (cs := ?_) K rfl rfl _ rfl ?_ ?_ ?_ ?_;rotate_left;(with_reducible first|exact zero108);rotate_left;exact rfl;intro b8 ww2 K2;(try simp [go_sem, Value.cells] at K2);refine ⟨(by apply via sbr;first|exact K2.tail.tail|exact K2.tail.tail.weak wk1|exact K2.tail.tail.weak wk2|exact K2.tail.tail.weak wk3), ?_⟩;replace K := K2;clear K2;(try clear ww);revert ww2;intro ww K))|(refine tm_store (L' := ?_) (cs := ?_) (t0 := ?_) (n := ?_) K rfl rfl _ _ _ rfl rfl rfl rfl ?_ ?_ ?_ ?_ ?_ ?_ ?_;rotate_left 3;(repeat (first|exact Put.hd|(refine Put.tl (L' := ?_) ?_;rotate_left)));rotate_left;(with_reducible first|exact row108);(exact rfl);(exact rfl);(simp [Ones, Value.oneCell']);intro ww2 K2;(try simp [go_sem] at K2);refine ⟨(by apply via sbr;first|exact K2.tail.tail.weak wk3), ?_⟩;replace K := K2;clear K2;(try clear ww);revert ww2;intro ww K))
    all_goals refine tree_done ?_
    all_goals (try simp only [opAt, List.getElem?_toArray, List.getElem?_cons_succ, List.getElem?_cons_zero, Option.getD_some])
    all_goals (try go_simp)
    all_goals (try go_wp2_with (fail))
    all_goals (try go_meet)
    all_goals first|exact ⟨_, _, _, _, _, _, rfl, rfl, K.weak fun w h => ⟨h.1, h.2.1⟩⟩|exact ⟨_, _, _, _, _, _, rfl, rfl, (K.perm (List.Perm.swap _ _ _)).weak fun w h => ⟨h.1, h.2.1⟩⟩
  case rest =>
    clear K S1 S2 FR
    obtain ⟨b7, b8, a1, a2, k1, k2, rfl, rfl, K⟩ := hcut
    have Z1 := Lib.hid (fun (w : World) (h : Nt w a1 k1 k1 s) => Zero_any a1 k1 k1 s w h)
    have Z2 := Lib.hid (fun (w : World) (h : Nt w a2 k2 k2 t) => Zero_any a2 k2 k2 t w h)
    by_cases hs0 : s = 0
    · have HW : Hid (vv = decide (b < 1099511627776)) := Lib.hid (by rw [← HV.out, if_pos (.inl hs0)])
      have hd : decide (s = 0) = true := decide_eq_true hs0
      rw [hd] at Z1
      clear hd hs0
      go_wp2_with (first|go_big_skip|((with_reducible refine at_load ?_);first|(refine wm_load (cs := ?_) (t := ?_) (n := ?_) K rfl _ _ rfl rfl ?_ ?_ ?_ ?_;rotate_left 2;(repeat (first|exact At.hd|refine At.tl ?_));rotate_left;(with_reducible first|exact row108);(exact rfl))|(refine wm_own (cs := ?_) (t := ?_) (v := ?_) K rfl _ _ rfl rfl ?_ ?_ ?_ ?_;rotate_left 2;(repeat (first|exact At.hd|refine At.tl ?_));rotate_left;(exact rfl);(with_reducible first|exact one45|exact one49)))|(go_at_call 74;(with_reducible refine (Z1.out _ K.fact.2.1).mono ?_);rintro e w2 ⟨rfl, k1⟩;replace K := K.step k1;clear k1;(try clear ww);revert w2;intro ww K))
      go_ret
      exact ⟨by rw [HW.out]; rfl, K.below⟩
    have hd1 : decide (s = 0) = false := decide_eq_false hs0
    rw [hd1] at Z1
    by_cases ht0 : t = 0
    · have HW : Hid (vv = decide (b < 1099511627776)) := Lib.hid (by rw [← HV.out, if_pos (.inr ht0)])
      have hd : decide (t = 0) = true := decide_eq_true ht0
      rw [hd] at Z2
      clear hd hs0 ht0 hd1
      go_wp2_with (first|((with_reducible refine at_load ?_);first|(refine wm_load (cs := ?_) (t := ?_) (n := ?_) K rfl _ _ rfl rfl ?_ ?_ ?_ ?_;rotate_left 2;(repeat (first|exact At.hd|refine At.tl ?_));rotate_left;(with_reducible first|exact row108);(exact rfl))|(refine wm_own (cs := ?_) (t := ?_) (v := ?_) K rfl _ _ rfl rfl ?_ ?_ ?_ ?_;rotate_left 2;(repeat (first|exact At.hd|refine At.tl ?_));rotate_left;(exact rfl);(with_reducible first|exact one45|exact one49)))|(go_at_call 74;(with_reducible refine (Z1.out _ K.fact.2.1).mono ?_);rintro e w2 ⟨rfl, k1⟩;replace K := K.step k1;clear k1;(try clear ww);revert w2;intro ww K)|(go_at_call 74;(with_reducible refine (Z2.out _ K.fact.1.1).mono ?_);rintro e w2 ⟨rfl, k1⟩;replace K := K.step k1;clear k1;(try clear ww);revert w2;intro ww K))
      go_ret
      exact ⟨by rw [HW.out]; rfl, K.below⟩
    have hd2 : decide (t = 0) = false := decide_eq_false ht0
    rw [hd2] at Z2
    have hvd : vv = decide (s * t * b.toNat * 2 ^ 1 < dist17 s t xs us n * 2 ^ 40) := by rw [← HV.out, if_neg (fun h => h.elim hs0 ht0)]
    clear hd1 hd2 hs0 ht0
    obtain ⟨f, hf⟩ : ∃ f : Nat → Nat, (fun i => t * xs.getD i 0 - us.getD i 0 * s + (us.getD i 0 * s - t * xs.getD i 0)) = f := ⟨_, rfl⟩
    have HFE := Lib.hid hf
    unfold dist17 at hvd
    rw [hf] at hvd
    have HVD := Lib.hid hvd
    clear hf hvd
    go_wp2_with (first|((with_reducible refine at_load ?_);first|(refine wm_load (cs := ?_) (t := ?_) (n := ?_) K rfl _ _ rfl rfl ?_ ?_ ?_ ?_;rotate_left 2;(repeat (first|exact At.hd|refine At.tl ?_));rotate_left;(with_reducible first|exact row108);(exact rfl))|(refine wm_own (cs := ?_) (t := ?_) (v := ?_) K rfl _ _ rfl rfl ?_ ?_ ?_ ?_;rotate_left 2;(repeat (first|exact At.hd|refine At.tl ?_));rotate_left;(exact rfl);(with_reducible first|exact one45|exact one49)))|((with_reducible refine at_store ?_);(first|(refine wm_store (L' := ?_) (cs := ?_) (t := ?_) (n := ?_) K rfl _ _ _ rfl rfl rfl rfl ?_ ?_ ?_ ?_ ?_ ?_;rotate_left 3;(repeat (exact Put.hd));rotate_left;(with_reducible first|exact row108);(exact rfl);(exact rfl);(simp [Ones, Value.oneCell'])));(try clear K);(try clear ww);intro ww K;(try simp [go_sem] at K))|((first|((with_reducible refine at_alloc ?_);refine wm_alloc (v := ?_) (cs := ?_) K rfl _ rfl ?_ ?_ ?_;rotate_left;(with_reducible first|exact zero108);rotate_left;exact rfl));(try clear K);(try clear ww);((fail_if_success (have _h := b9));intro b9 ww K);(try simp [go_sem, Value.cells] at K))|(go_at_call 74;(with_reducible refine (Z1.out _ K.fact.2.1).mono ?_);rintro e w2 ⟨rfl, k1⟩;replace K := K.step k1;clear k1;(try clear ww);revert w2;intro ww K)|(go_at_call 74;(with_reducible refine (Z2.out _ K.fact.1.1).mono ?_);rintro e w2 ⟨rfl, k1⟩;replace K := K.step k1;clear k1;(try clear ww);revert w2;intro ww K))
    go_loopw [36] (fun i wr => ∃ (k : Nat) (ad : Option Addr) (kd cd : Nat), k ≤ n ∧ i = .int .i64 k ∧ St w.heap.size w [(b9, #[.slice ad kd cd], 108), (b8, #[.slice a2 k2 k2], 108), (b7, #[.slice a1 k1 k1], 108), (b4, #[.int .i64 W2, .int .i64 H2, .slice A2 n c2], 51), (b3, #[.int .i64 W, .int .i64 H, .int .i64 X, .int .i64 Y, .int .i64 S, .slice A n c], 47)] (fun w => (Nt w ad kd cd (psumN f k) ∧ kd ≤ 1000) ∧ (Nt w a2 k2 k2 t ∧ k2 ≤ 1000) ∧ (Nt w a1 k1 k1 s ∧ k1 ≤ 1000)) wr) (fun i _ => n - (intOf i).toNat)
    case atStart => exact ⟨0, none, 0, 0, Nat.zero_le _, rfl, K.weak fun w h => ⟨⟨Nt.zero w none 0 (by omega), by omega⟩, h⟩⟩
    case round =>
      clear K
      obtain ⟨i, ad, kd, cd, hi, rfl, K⟩ := hrel
      by_cases hlt : i < n
      · have ht : decide ((i : Int) < n) = true := decide_eq_true (by omega)
        have htn : decide (i < n) = true := decide_eq_true hlt
        obtain ⟨hs43, ht43, hM, hM0, hB⟩ := HST.out
        have hfi : ∀ j, f j = t * xs.getD j 0 - us.getD j 0 * s + (us.getD j 0 * s - t * xs.getD j 0) := fun j => by rw [← HFE.out]
        obtain ⟨r0, off, rfl, hbb, hc⟩ := HR.out.get hlt
        have hil : i < zs.length := by rw [HL.out]; exact hlt
        have hv := hc i _ (ints_get .i64 zs i hil)
        have hz := HZ.out _ (getD_mem hil)
        have hxi := HXG.out i hlt
        obtain ⟨ub, uo, ua, uk, uc, rfl, hub, huc, hun, huk⟩ := HF.out.get hlt
        have gu := getDN_all (P := fun x => x < M) hM0 hB i
        have hfb : ∀ j, j < n → f j ≤ 5000 * M * 1073741824 + M * (5000 * 1073741824) := fun j hj => by
          have gx : xs.getD j 0 ≤ 1073741824 := by
            rw [HXG.out j hj]
            have := HZ.out _ (getD_mem (l := zs) (i := j) (by rw [HL.out]; exact hj))
            omega
          have gu := getDN_all (P := fun x => x < M) hM0 hB j
          have q1 := Nat.mul_le_mul ht43 gx
          have q2 := Nat.mul_le_mul (Nat.le_of_lt gu) hs43
          rw [hfi j]; omega
        have hps := psumN_le (f := f) (n := i) (C := 5000 * M * 1073741824 + M * (5000 * 1073741824)) (fun j hj => hfb j (by omega))
        have hps2 := Nat.mul_le_mul_right (5000 * M * 1073741824 + M * (5000 * 1073741824)) (show i ≤ 5000 by omega)
        have hfbi := hfb i hlt
        have hfe := hfi i
        generalize xs.getD i 0 = x at *
        generalize us.getD i 0 = u at *
        generalize zs.getD i 0 = z at *
        obtain ⟨x', rfl⟩ : ∃ x' : Nat, z = x' := ⟨z.toNat, by omega⟩
        rw [Int.toNat_natCast] at hxi
        subst hxi
        obtain ⟨P1, hP1⟩ : ∃ P1, t * x = P1 := ⟨_, rfl⟩
        obtain ⟨P2, hP2⟩ : ∃ P2, u * s = P2 := ⟨_, rfl⟩
        have q1 : P1 ≤ 5000 * M * 1073741824 := by rw [← hP1]; exact Nat.mul_le_mul ht43 (by omega)
        have q2 : P2 ≤ M * (5000 * 1073741824) := by rw [← hP2]; exact Nat.mul_le_mul (Nat.le_of_lt gu) hs43
        have B1 := Lib.hid (show t * x < Lim by rw [hP1]; omega)
        have B2 := Lib.hid (show u * s < Lim by rw [hP2]; omega)
        have B3 := Lib.hid (show t * x - u * s + (u * s - t * x) < Lim by rw [hP1, hP2]; omega)
        have B4 := Lib.hid (show psumN f i + (t * x - u * s + (u * s - t * x)) < Lim by rw [hP1, hP2]; omega)
        have HFI := Lib.hid hfe
        have HU := Lib.hid hun
        have hx64 : x ≤ 18446744073709551615 := by omega
        have m1h : Hid (max (x : Int) 0 = x) := Lib.hid (by omega)
        have m2h : Hid (IntKind.u64.wrap (x : Int) = x) := Lib.hid (IntWalk.u64_in _ (by omega))
        clear hs43 ht43 hM hM0 hB hfi hil hz gu hfb hps hps2 hfbi hfe hun hP1 hP2 q1 q2 hc
        go_wp2_with (first|((with_reducible refine at_load ?_);first|(refine wm_cell (v := ?_) rfl _ _ rfl rfl ?_ ?_ ?_;rotate_left;(first|exact (K.below.cell (by assumption)).trans (by assumption));(with_reducible first|exact one2))))
        have m1 := m1h.out
        have m2 := m2h.out
        refine wm_tree _ (.take 1 (.take 2 (.take 3 (.take 4 (.take 6 (.take 7 (.take 8 (.take 9 (.take 10 (.take 11 (.alt 0 (.alt 5 (.alt 12 (.alt 13 (.alt 14 (.alt 15 .done .stop) .stop) .stop) .stop) .stop) (.alt 5 (.alt 0 (.alt 12 (.alt 13 (.alt 14 (.alt 15 .done .stop) .stop) .stop) .stop) (.alt 12 (.alt 0 (.alt 13 (.alt 14 (.alt 15 .done .stop) .stop) .stop) (.alt 13 (.alt 0 (.alt 14 (.alt 15 .done .stop) .stop) .stop) .stop)) .stop)) .stop)))))))))))) K sbd1k4 (by kernel_rfl) (by kernel_rfl) ?_; (try clear K); (try clear ww); intro ww K; (try simp [go_sem] at K)
        repeat' (first|exact tree_stop|(refine tm_far1 (v := ?_) rfl rfl _ _ rfl rfl (fun ww K => ?_) ?_ ?_;rotate_left;(first|exact (K.below.cell (by assumption)).trans (by assumption));(with_reducible first|exact row108))|(refine tm_load (cs := ?_) (t0 := ?_) (n := ?_) rfl rfl _ _ rfl rfl ?_ ?_ ?_ ?_;rotate_left 2;(repeat (first|exact At.hd|refine At.tl ?_));rotate_left;(with_reducible first|exact row108);(exact rfl))|(refine tm_own (cs := ?_) (t0 := ?_) (v := ?_) rfl rfl _ _ rfl rfl ?_ ?_ ?_ ?_;rotate_left 2;(repeat (first|exact At.hd|refine At.tl ?_));rotate_left;(exact rfl);(with_reducible first|exact one49))|(refine tree_take (fun K' hK' => ?_);simp only [opAt, List.getElem?_toArray, List.getElem?_cons_succ, List.getElem?_cons_zero, Option.getD_some];go_simp;first|(apply Exists.intro;refine ⟨?_, hK' _ ?_⟩;(intro _ _;rfl);clear hK' K'))|(refine tm_nowRow (cs := ?_) (t0 := ?_) (n := ?_) K rfl rfl _ _ rfl rfl ?_ ?_ ?_ (by apply via sbd1k4;first|exact K|exact K.weak wk1|exact K.weak wk2|exact K.weak wk3|exact K.weak wk4) ?_ ?_;rotate_left 2;(repeat (exact At.hd));rotate_left;(with_reducible first|exact row108);(exact rfl))|(refine tree_alt (fun K' hK' => ?_) ?_;simp only [opAt, List.getElem?_toArray, List.getElem?_cons_succ, List.getElem?_cons_zero, Option.getD_some];go_simp;go_at_call 77;have zz := K.timesT x rfl hx64 K.fact.2.1.1 K.fact.2.1.2 B1.out;(with_reducible refine zz.mono ?_);clear zz;rintro e w2 ⟨_, _, rfl, K2⟩;(try dsimp only);refine hK' _ _ (by apply via sbd1k4;first|exact K2.weak wk1) ?_;replace K := K2;clear hK' K' K2;(try clear ww);revert w2;intro ww K)|(refine tree_alt (fun K' hK' => ?_) ?_;simp only [opAt, List.getElem?_toArray, List.getElem?_cons_succ, List.getElem?_cons_zero, Option.getD_some];go_simp;go_at_call 78;have zz := K.mulT (HU.out.below K.below) K.fact.2.2.2.1 huk K.fact.2.2.2.2 B2.out;(with_reducible refine zz.mono ?_);clear zz;rintro e w2 ⟨_, _, rfl, K2⟩;(try dsimp only);refine hK' _ _ (by apply via sbd1k4;first|exact K2.weak wk2) ?_;replace K := K2;clear hK' K' K2;(try clear ww);revert w2;intro ww K)|(refine tree_alt (fun K' hK' => ?_) ?_;simp only [opAt, List.getElem?_toArray, List.getElem?_cons_succ, List.getElem?_cons_zero, Option.getD_some];go_simp;go_at_call 76;have zz := K.subT K.fact.2.1.1 K.fact.1.1 K.fact.2.1.2 K.fact.1.2 B3.out;(with_reducible refine zz.mono ?_);clear zz;rintro e w2 ⟨_, _, rfl, K2⟩;(try dsimp only);refine hK' _ _ (by apply via sbd1k4;first|exact K2.weak wk3) ?_;replace K := K2;clear hK' K' K2;(try clear ww);revert w2;intro ww K)|(refine tree_alt (fun K' hK' => ?_) ?_;simp only [opAt, List.getElem?_toArray, List.getElem?_cons_succ, List.getElem?_cons_zero, Option.getD_some];go_simp;go_at_call 75;have zz := K.addT K.fact.2.2.2.1.1 K.fact.1.1 K.fact.2.2.2.1.2 K.fact.1.2 B4.out;(with_reducible refine zz.mono ?_);clear zz;rintro e w2 ⟨_, _, rfl, K2⟩;(try dsimp only);refine hK' _ _ (by apply via sbd1k4;first|exact K2.weak wk4) ?_;replace K := K2;clear hK' K' K2;(try clear ww);revert w2;intro ww K)|(refine tm_store (L' := ?_) (cs := ?_) (t0 := ?_) (n := ?_) K rfl rfl _ _ _ rfl rfl rfl rfl ?_ ?_ ?_ ?_ ?_ ?_ ?_;rotate_left 3;(repeat (exact Put.hd));rotate_left;(with_reducible first|exact row108);(exact rfl);(exact rfl);(simp [Ones, Value.oneCell']);intro ww2 K2;(try simp [go_sem] at K2);refine ⟨(by apply via sbd1k4;first|exact K2.weak wk4), ?_⟩;replace K := K2;clear K2;(try clear ww);revert ww2;intro ww K))
        all_goals refine tree_done ?_
        all_goals (try simp only [opAt, List.getElem?_toArray, List.getElem?_cons_succ, List.getElem?_cons_zero, Option.getD_some])
        all_goals (try go_simp)
        all_goals clear m1 m2
        all_goals (try go_wp2_with (fail))
        all_goals exact ⟨⟨i + 1, _, _, _, by omega, by go_num, K.weak fun w h => ⟨by rw [psumN, HFI.out]; exact h.1, h.2.2.2.2.2⟩⟩, by simp [intOf]; omega⟩
      · obtain rfl : n = i := by omega
        have ht : decide ((n : Int) < n) = false := decide_eq_false (by omega)
        obtain ⟨hs43, ht43, hM, hM0, hB⟩ := HST.out
        have hfi : ∀ j, f j = t * xs.getD j 0 - us.getD j 0 * s + (us.getD j 0 * s - t * xs.getD j 0) := fun j => by rw [← HFE.out]
        have hfb : ∀ j, j < n → f j ≤ 5000 * M * 1073741824 + M * (5000 * 1073741824) := fun j hj => by
          have gx : xs.getD j 0 ≤ 1073741824 := by
            rw [HXG.out j hj]
            have := HZ.out _ (getD_mem (l := zs) (i := j) (by rw [HL.out]; exact hj))
            omega
          have gu := getDN_all (P := fun x => x < M) hM0 hB j
          have q1 := Nat.mul_le_mul ht43 gx
          have q2 := Nat.mul_le_mul (Nat.le_of_lt gu) hs43
          rw [hfi j]; omega
        have hps := psumN_le (f := f) (n := n) (C := 5000 * M * 1073741824 + M * (5000 * 1073741824)) hfb
        have hps2 := Nat.mul_le_mul_right (5000 * M * 1073741824 + M * (5000 * 1073741824)) hn
        obtain ⟨bn, hbn⟩ : ∃ bn, b.toNat = bn := ⟨_, rfl⟩
        have hbn1 : bn < 9223372036854775808 := by omega
        have p1 : (2 : Nat) ^ 1 = 2 := rfl
        obtain ⟨D, hD⟩ : ∃ D, psumN f n = D := ⟨_, rfl⟩
        rw [hD] at hps
        have B1 := Lib.hid (show D * 2 ^ 40 < Lim from over_b1 hps hps2 hM hM0)
        have st := Nat.mul_le_mul hs43 ht43
        obtain ⟨Q, hQ⟩ : ∃ Q, s * t = Q := ⟨_, rfl⟩
        rw [hQ] at st
        have stb := Nat.mul_le_mul st (Nat.le_of_lt hbn1)
        obtain ⟨Q2, hQ2⟩ : ∃ Q2, Q * bn = Q2 := ⟨_, rfl⟩
        rw [hQ2] at stb
        have B2 := Lib.hid (show s * t < Lim by rewrite [hQ]; omega)
        have B3 := Lib.hid (show s * t * bn < Lim by rewrite [hQ, hQ2]; omega)
        have B4 := Lib.hid (show s * t * bn * 2 ^ 1 < Lim by rewrite [hQ, hQ2, p1]; omega)
        have hvd := HVD.out
        rw [hbn, hD] at hvd
        have hcm : Hid (decide (0 < cmpN (D * 1099511627776) (s * t * bn * 2)) = vv) := Lib.hid (over_cmp2 hvd.symm)
        have m1h : Hid (max b 0 = (bn : Int)) := Lib.hid (by omega)
        have m2h : Hid (IntKind.u64.wrap (bn : Int) = bn) := Lib.hid (IntWalk.u64_in _ (by omega))
        have hb64 : bn ≤ 18446744073709551615 := by omega
        rw [hD] at K
        clear hs43 ht43 hM hM0 hB hfi hfb hps hps2 hbn hbn1 p1 st stb hQ hQ2 hvd hD
        go_wp2_with (fail)
        have m1 := m1h.out
        have m2 := m2h.out
        refine wm_held _ [(true, 0), (true, 2), (true, 3), (true, 5), (true, 6), (true, 7), (false, 1), (false, 4), (false, 8), (false, 9), (false, 10), (true, 11), (true, 12)] K sbr (by kernel_rfl) (by kernel_rfl) ?_; (try clear K); (try clear ww); intro ww K; (try simp [go_sem] at K); simp only [pick, List.getElem?_toArray, List.getElem?_cons_succ, List.getElem?_cons_zero]
        repeat (first|((with_reducible refine ht_load ?_);first|(refine hm_load (cs := ?_) (t := ?_) (n := ?_) rfl _ _ rfl rfl ?_ ?_ ?_ ?_;rotate_left 2;(repeat (first|exact At.hd|refine At.tl ?_));rotate_left;(with_reducible first|exact row108);(exact rfl)))|(refine held_take (fun K' hK' => ?_);go_simp;first|(apply Exists.intro;refine ⟨?_, hK' _ ?_⟩;(intro _ _;rfl);clear hK' K'))|(refine held_do (fun K' hK' => ?_);go_simp;go_at_call 80;have zz := K.shlT (z := 1) 1 rfl rfl K.fact.1.1 K.fact.1.2 (Nat.le_refl 1) le_1_1000 B4.out;(with_reducible refine zz.mono ?_);clear zz;rintro e w2 ⟨_, _, _, rfl, K2⟩;(try dsimp only);refine hK' _ _ (by apply via sbr;first|exact K2.weak wk4) ?_;replace K := K2;clear hK' K' K2;(try clear ww);revert w2;intro ww K)|(refine held_do (fun K' hK' => ?_);go_simp;go_at_call 78;have zz := K.mulT K.fact.2.2.2.1 K.fact.2.2.1.1 K.fact.2.2.2.2 K.fact.2.2.1.2 B2.out;(with_reducible refine zz.mono ?_);clear zz;rintro e w2 ⟨_, _, rfl, K2⟩;(try dsimp only);refine hK' _ _ (by apply via sbr;first|exact K2.weak wk2) ?_;replace K := K2;clear hK' K' K2;(try clear ww);revert w2;intro ww K)|(refine held_do (fun K' hK' => ?_);go_simp;go_at_call 77;have zz := K.timesT bn rfl hb64 K.fact.1.1 K.fact.1.2 B3.out;(with_reducible refine zz.mono ?_);clear zz;rintro e w2 ⟨_, _, rfl, K2⟩;(try dsimp only);refine hK' _ _ (by apply via sbr;first|exact K2.weak wk3) ?_;replace K := K2;clear hK' K' K2;(try clear ww);revert w2;intro ww K)|(refine held_do (fun K' hK' => ?_);go_simp;go_at_call 80;have zz := K.shlT (z := 40) 40 rfl rfl K.fact.1.1 K.fact.1.2 le_1_40 le_40_1000 B1.out;(with_reducible refine zz.mono ?_);clear zz;rintro e w2 ⟨_, _, _, rfl, K2⟩;(try dsimp only);refine hK' _ _ (by apply via sbr;first|exact K2.weak wk1) ?_;replace K := K2;clear hK' K' K2;(try clear ww);revert w2;intro ww K)|(refine held_do (fun K' hK' => ?_);go_simp;go_at_call 79;have zz := Cmp_nat _ _ _ _ _ _ _ _ _ K.fact.2.2.2.1.1 K.fact.1.1 (Nat.le_trans K.fact.2.2.2.1.2 (by decide)) (Nat.le_trans K.fact.1.2 (by decide));(with_reducible refine zz.mono ?_);clear zz;rintro e w2 ⟨rfl, kk1⟩;replace K := K.step kk1;clear kk1;(try clear ww);revert w2;intro ww K;(try dsimp only);refine hK' _ _ (by apply via sbr;first|exact K.weak wk4) ?_;clear hK' K'))
        refine held_nil ?_
        clear m1 m2
        have hc := hcm.out
        (try go_wp2_with fail)
        go_ret
        refine ⟨?_, K.below⟩
        show Ending.returned (Value.bool (decide (0 < cmpN (D * 1099511627776) (s * t * bn * 2)))) = _
        rw [hc]
end Go.Proofs.Yteancdipmpmjpaa
namespace Go.Proofs.Yteancdipmpmjpaa
open Go.RowKit
attribute [local irreducible] wpHeld wpTree wpList
set_option linter.unusedVariables false
section
variable {B : Nat} {w0 w : World} {L : List Blk} {F : World → Prop}
end
section
variable {B : Nat} {w0 w : World} {L : List Blk} {F : World → Prop}
end
theorem getDR_le {l : List Nat} {i : Nat} : l.getD i 0 ≤ l.sum := by
  induction l generalizing i with
  | nil => simp
  | cons a r ih =>
    cases i with
    | zero => simp
    | succ i => have := ih (i := i); simp only [List.getD_cons_succ, List.sum_cons]; omega
end Go.Proofs.Yteancdipmpmjpaa
