/-
  Lemmas and walks of this claim (the texts Gu14 Gp14 Gq14 of the work; what no proof here uses is left out). No claim of their own.
-/
import Derived.Test.YtpejoaefnnbghaaPH19
import Derived.Test.YtpejoaefnnbghaaPH5
import Derived.Test.YtpejoaefnnbghaaPH7
set_option linter.all false
set_option linter.unusedSimpArgs false
set_option linter.unusedVariables false
namespace Go.Proofs.Ytpejoaefnnbghaa
open Go.RowKit
attribute [local irreducible] wpHeld wpTree wpList
set_option linter.unusedVariables false
set_option maxRecDepth 100000 in
set_option maxHeartbeats 4000000 in
theorem RJoinX14 (X Y S X2 Y2 : Int) (p q m1 q1 : Nat) (A : Option Addr) (n c n4 : Nat) (zs : List Int) (w : World) (h : Rd w A n (ints .i64 zs)) (hb : ∀ z ∈ zs, 0 ≤ z ∧ z ≤ 1073741824) (hn : p * q = n) (hp : p = 2 * m1) (hq : q = 2 * q1) (hm : 1 ≤ m1 ∧ m1 ≤ 32) (hq1 : 1 ≤ q1 ∧ q1 ≤ 32) (hX : wrap64 (X + S / 2) = X2) (hY : wrap64 (Y + S / 2) = Y2) (hS : 16 ≤ S ∧ S ≤ 2048) (hm4 : m1 * q1 = n4) :
    Calls Try.prog 76 #[.agg #[.int .i64 p, .int .i64 q, .int .i64 X, .int .i64 Y, .int .i64 S, .slice A n c]] w fun e w' => ∃ A2 c2, e = .returned (.tuple #[.agg #[.int .i64 m1, .int .i64 q1, .int .i64 X2, .int .i64 Y2, .int .i64 (2 * S), .slice A2 n4 c2], .int .i64 0]) ∧ (Rd w' A2 n4 (ints .i64 (join14 p m1 zs n4)) ∧ Nw w.heap.size A2) ∧ Below w.heap.size w w' := by
  have K := St.start w
  have hl : zs.length = n := by rw [← h.1, ints_len]
  have h4 : 4 * n4 = n := by rw [← hn, hp, hq, Nat.mul_mul_mul_comm, hm4]
  have hn1 : 1 ≤ n4 ∧ n4 ≤ 1024 := by
    have a1 := Nat.mul_le_mul hm.2 hq1.2
    have a2 := Nat.mul_le_mul hm.1 hq1.1
    omega
  obtain ⟨S4, hS4⟩ : ∃ S4, S / 2 = S4 := ⟨_, rfl⟩
  obtain ⟨S2, hS2⟩ : ∃ S2, 2 * S = S2 := ⟨_, rfl⟩
  rw [hS4] at hX hY
  rw [hS2]
  have d3 : decide (2048 < S) = false := decide_eq_false (by omega)
  have c0h : Hid ((p : Int).tmod 2 = 0) := Lib.hid (by rw [Int.tmod_eq_emod_of_nonneg (by omega)]; omega)
  have c1h : Hid ((q : Int).tmod 2 = 0) := Lib.hid (by rw [Int.tmod_eq_emod_of_nonneg (by omega)]; omega)
  have c2h : Hid ((p : Int).tdiv 2 = (m1 : Int)) := Lib.hid (by rw [Int.tdiv_eq_ediv_of_nonneg (by omega)]; omega)
  have c3h : Hid ((q : Int).tdiv 2 = (q1 : Int)) := Lib.hid (by rw [Int.tdiv_eq_ediv_of_nonneg (by omega)]; omega)
  have c4h : Hid (S.tdiv 2 = S4) := Lib.hid (by rw [Int.tdiv_eq_ediv_of_nonneg (by omega)]; exact hS4)
  have c5h : Hid (wrap64 (2 * S) = S2) := Lib.hid (w64e (by omega) (by omega) hS2)
  have c6h : Hid (wrap64 (X + S4) = X2) := Lib.hid hX
  have c7h : Hid (wrap64 (Y + S4) = Y2) := Lib.hid hY
  have c8h : Hid (IntKind.i64.wrap (m1 : Int) = m1) := Lib.hid (IntWalk.i64_in _ (by omega))
  have c9h : Hid (IntKind.i64.wrap (q1 : Int) = q1) := Lib.hid (IntWalk.i64_in _ (by omega))
  have c10h : Hid (IntKind.i64.wrap S4 = S4) := Lib.hid (IntWalk.i64_in _ (by omega))
  have c11h : Hid (IntKind.i64.wrap (2 * S) = S2) := Lib.hid ((IntWalk.i64_in _ (by omega)).trans hS2)
  have c12h : Hid (IntKind.i64.wrap (X + S4) = X2) := Lib.hid ((iwrap_eq _).trans hX)
  have c13h : Hid (IntKind.i64.wrap (Y + S4) = Y2) := Lib.hid ((iwrap_eq _).trans hY)
  have HR := Lib.hid h
  have HL := Lib.hid hl
  have HZ := Lib.hid hb
  have HN := Lib.hid (And.intro hn (And.intro hp (And.intro hq (And.intro hm (And.intro hm4 (And.intro h4 (And.intro hq1 hn1)))))))
  clear h hl hb hn hp hq hm hq1 hX hY hS hm4 h4 hn1 hS4 hS2
  have c0 := c0h.out
  have c1 := c1h.out
  have c2 := c2h.out
  have c3 := c3h.out
  have c4 := c4h.out
  have c5 := c5h.out
  have c6 := c6h.out
  have c7 := c7h.out
  have c8 := c8h.out
  have c9 := c9h.out
  have c10 := c10h.out
  have c11 := c11h.out
  have c12 := c12h.out
  have c13 := c13h.out
  go_enter Try.func76, Try.ntmps76
  go_wp2_with (first|((with_reducible refine at_load ?_);first|(refine wm_own (cs := ?_) (t := ?_) (v := ?_) K rfl _ _ rfl rfl ?_ ?_ ?_ ?_;rotate_left 2;(repeat (first|exact At.hd|refine At.tl ?_));rotate_left;(exact rfl);(with_reducible first|exact one2|exact one3)))|((with_reducible refine at_store ?_);(first|(refine wm_store (L' := ?_) (cs := ?_) (t := ?_) (n := ?_) K rfl _ _ _ rfl rfl rfl rfl ?_ ?_ ?_ ?_ ?_ ?_;rotate_left 3;(repeat (exact Put.hd));rotate_left;(with_reducible first|exact row26);(exact rfl);(exact rfl);(simp [Ones, Value.oneCell'])));(try clear K);(try clear ww);intro ww K;(try simp [go_sem] at K))|((first|((with_reducible refine at_box ?_);refine wm_box K rfl _ _ rfl rfl rfl ?_)|((with_reducible refine at_alloc ?_);refine wm_alloc (v := ?_) (cs := ?_) K rfl _ rfl ?_ ?_ ?_;rotate_left;(with_reducible first|exact zero26);rotate_left;exact rfl));(try clear K);(try clear ww);(first|((fail_if_success (have _h := r1));intro r1 ww K)|((fail_if_success (have _h := r2));intro r2 ww K)|((fail_if_success (have _h := r4));intro r4 ww K));(try simp [go_sem, Value.cells] at K)))
  clear c0 c0h c1 c1h c2 c2h c3 c3h c4 c4h c5 c5h c6 c6h c7 c7h c8 c8h c9 c9h c10 c10h c11 c11h c12 c12h c13 c13h d3
  obtain ⟨T, hT⟩ : ∃ T, join14 p m1 zs n4 = T := ⟨_, rfl⟩
  have HTE := Lib.hid hT
  have HTL : Hid (T.length = n4) := Lib.hid (by rw [← hT]; exact gen_len _ _)
  have HTG : Hid (∀ k, k < n4 → T.getD k 0 = joinv p m1 zs k) := Lib.hid (fun k hk => by rw [← hT]; exact gen_get _ hk)
  clear hT
  have hq64 : q ≤ 64 := by have := HN.out; omega
  have hp64 : p ≤ 64 := by have := HN.out; omega
  have hqe1 : q ≤ 2 * q1 := by have := HN.out; omega
  have hqe2 : 2 * q1 ≤ q := by have := HN.out; omega
  have hpe1 : p ≤ 2 * m1 := by have := HN.out; omega
  have hpe2 : 2 * m1 ≤ p := by have := HN.out; omega
  go_loopw [5] (fun i wr => ∃ (r y : Nat) (v : Value) (Lo : List Blk), r ≤ q1 ∧ y ≤ 2 * r ∧ 2 * r ≤ y ∧ i = .int .i64 y ∧ OwnT v 2 (ints .i64 (T.take (r * m1))) Lo ∧ St w.heap.size w ((r4, #[.int .i64 m1, .int .i64 q1, .int .i64 X2, .int .i64 Y2, .int .i64 S2, v], 26) :: (r2, #[.int .i64 0, .int .i64 0, .int .i64 0, .int .i64 0, .int .i64 0, .slice none 0 0], 26) :: (r1, #[.int .i64 p, .int .i64 q, .int .i64 X, .int .i64 Y, .int .i64 S, .slice A n c], 26) :: Lo) Any wr) (fun i _ => q - (intOf i).toNat)
  case atStart => exact ⟨0, 0, _, _, Nat.zero_le _, by omega, by omega, rfl, by rw [Nat.zero_mul]; exact OwnT.nil _, K⟩
  case round =>
    clear K
    obtain ⟨r, y, v, Lo, hr, hy1, hy2, rfl, hO, K⟩ := hrel
    by_cases hrq : r < q1
    · have ht : decide ((y : Int) < q) = true := decide_eq_true (by omega)
      have htn : decide (y < q) = true := decide_eq_true (by omega)
      go_wp2_with (first|((with_reducible refine at_load ?_);first|(refine wm_own (cs := ?_) (t := ?_) (v := ?_) K rfl _ _ rfl rfl ?_ ?_ ?_ ?_;rotate_left 2;(repeat (first|exact At.hd|refine At.tl ?_));rotate_left;(exact rfl);(with_reducible first|exact one3))))
      go_loopw [6] (fun i wr => ∃ (cc x : Nat) (v : Value) (Lo : List Blk), cc ≤ m1 ∧ x ≤ 2 * cc ∧ 2 * cc ≤ x ∧ i = .int .i64 x ∧ OwnT v 2 (ints .i64 (T.take (r * m1 + cc))) Lo ∧ St w.heap.size w ((r4, #[.int .i64 m1, .int .i64 q1, .int .i64 X2, .int .i64 Y2, .int .i64 S2, v], 26) :: (r2, #[.int .i64 0, .int .i64 0, .int .i64 0, .int .i64 0, .int .i64 0, .slice none 0 0], 26) :: (r1, #[.int .i64 p, .int .i64 q, .int .i64 X, .int .i64 Y, .int .i64 S, .slice A n c], 26) :: Lo) Any wr) (fun i _ => p - (intOf i).toNat)
      case atStart => exact ⟨0, 0, v, Lo, Nat.zero_le _, by omega, by omega, rfl, hO, K⟩
      case round =>
        clear K hO
        obtain ⟨cc, x, v, Lo, hcc, hx1, hx2, rfl, hO, K⟩ := hrel
        by_cases hcp : cc < m1
        · have ht2 : decide ((x : Int) < p) = true := decide_eq_true (by omega)
          obtain ⟨hn, hp, hq, hm, hm4, h4, hq1, hn1⟩ := HN.out
          have hkm : r * m1 + cc < n4 := by
            have h1 := Nat.mul_le_mul_right m1 (show r + 1 ≤ q1 by omega)
            rw [Nat.succ_mul, Nat.mul_comm q1, hm4] at h1
            omega
          have hbl := base_lt (p := p) (q2 := q1) (k := r * m1 + cc) hp (by omega) (by rw [hm4]; exact hkm)
          rw [← hq, hn] at hbl
          have hE := HTG.out _ hkm
          unfold joinv at hE
          have hmd : (r * m1 + cc) % m1 = cc := by rw [Nat.mul_comm, Nat.mul_add_mod]; exact Nat.mod_eq_of_lt hcp
          have hdv : (r * m1 + cc) / m1 = r := by rw [Nat.mul_comm, Nat.mul_add_div (by omega), Nat.div_eq_of_lt hcp, Nat.add_zero]
          obtain ⟨j, hj⟩ : ∃ j, base14 p m1 (r * m1 + cc) = j := ⟨_, rfl⟩
          rw [hj] at hE hbl
          unfold base14 at hj
          rw [hmd, hdv, show 2 * r = y by omega, show 2 * cc = x by omega] at hj
          have hsn0 := take_snoc T (r * m1 + cc) (by rw [HTL.out]; exact hkm)
          rw [hE] at hsn0
          obtain ⟨R, hR⟩ : ∃ R, y * p = R := ⟨_, rfl⟩
          rw [hR] at hj
          obtain ⟨R2, hR2⟩ : ∃ R2, R + p = R2 := ⟨_, rfl⟩
          obtain ⟨j1, hj1⟩ : ∃ j1, j + 1 = j1 := ⟨_, rfl⟩
          obtain ⟨j2, hj2⟩ : ∃ j2, j + p = j2 := ⟨_, rfl⟩
          obtain ⟨j3, hj3⟩ : ∃ j3, j2 + 1 = j3 := ⟨_, rfl⟩
          rw [hj1, hj2, hj3] at hsn0
          rw [hj2, hj3] at hbl
          have e0h : Hid (IntKind.i64.wrap ((y : Int) * (p : Int)) = (R : Int)) := Lib.hid (by rw [← Int.natCast_mul, hR]; exact IntWalk.i64_in _ (by omega))
          have e1h : Hid (IntKind.i64.wrap ((R : Int) + (x : Int)) = (j : Int)) := Lib.hid ((IntWalk.i64_in _ (by omega)).trans (by omega))
          have e2h : Hid (IntKind.i64.wrap ((j : Int) + 1) = (j1 : Int)) := Lib.hid ((IntWalk.i64_in _ (by omega)).trans (by omega))
          have e3h : Hid (IntKind.i64.wrap ((R : Int) + (p : Int)) = (R2 : Int)) := Lib.hid ((IntWalk.i64_in _ (by omega)).trans (by omega))
          have e4h : Hid (IntKind.i64.wrap ((R2 : Int) + (x : Int)) = (j2 : Int)) := Lib.hid ((IntWalk.i64_in _ (by omega)).trans (by omega))
          have e5h : Hid (IntKind.i64.wrap ((j2 : Int) + 1) = (j3 : Int)) := Lib.hid ((IntWalk.i64_in _ (by omega)).trans (by omega))
          have l0 : j < n := by omega
          have hz0 := HZ.out _ (getD_mem (l := zs) (i := j) (by rw [HL.out]; exact l0))
          have l1 : j1 < n := by omega
          have hz1 := HZ.out _ (getD_mem (l := zs) (i := j1) (by rw [HL.out]; exact l1))
          have l2 : j2 < n := by omega
          have hz2 := HZ.out _ (getD_mem (l := zs) (i := j2) (by rw [HL.out]; exact l2))
          have l3 : j3 < n := by omega
          have hz3 := HZ.out _ (getD_mem (l := zs) (i := j3) (by rw [HL.out]; exact l3))
          obtain ⟨r0, off, rfl, hbb, hc⟩ := HR.out.get l0
          have hv0 := hc j _ (ints_get .i64 zs j (by rw [HL.out]; exact l0))
          have hv1 := hc j1 _ (ints_get .i64 zs j1 (by rw [HL.out]; exact l1))
          have hv2 := hc j2 _ (ints_get .i64 zs j2 (by rw [HL.out]; exact l2))
          have hv3 := hc j3 _ (ints_get .i64 zs j3 (by rw [HL.out]; exact l3))
          obtain ⟨z0, hzz0⟩ : ∃ z, zs.getD j 0 = z := ⟨_, rfl⟩
          obtain ⟨z1, hzz1⟩ : ∃ z, zs.getD j1 0 = z := ⟨_, rfl⟩
          obtain ⟨z2, hzz2⟩ : ∃ z, zs.getD j2 0 = z := ⟨_, rfl⟩
          obtain ⟨z3, hzz3⟩ : ∃ z, zs.getD j3 0 = z := ⟨_, rfl⟩
          rw [hzz0] at hz0 hv0 hsn0
          rw [hzz1] at hz1 hv1 hsn0
          rw [hzz2] at hz2 hv2 hsn0
          rw [hzz3] at hz3 hv3 hsn0
          obtain ⟨s1, hs1⟩ : ∃ s1, z0 + z1 = s1 := ⟨_, rfl⟩
          rw [hs1] at hsn0
          obtain ⟨s2, hs2⟩ : ∃ s2, s1 + z2 = s2 := ⟨_, rfl⟩
          rw [hs2] at hsn0
          obtain ⟨s3, hs3⟩ : ∃ s3, s2 + z3 = s3 := ⟨_, rfl⟩
          rw [hs3] at hsn0
          have e6h : Hid (IntKind.i64.wrap (z0 + z1) = s1) := Lib.hid ((IntWalk.i64_in _ (by omega)).trans hs1)
          have e7h : Hid (IntKind.i64.wrap (s1 + z2) = s2) := Lib.hid ((IntWalk.i64_in _ (by omega)).trans hs2)
          have e8h : Hid (IntKind.i64.wrap (s2 + z3) = s3) := Lib.hid ((IntWalk.i64_in _ (by omega)).trans hs3)
          have hsn := Lib.hid hsn0
          have hb1 : ((ints .i64 (T.take (r * m1 + cc))).length + 1) * 8 ≤ 140737488355328 := by rw [ints_len, List.length_take]; omega
          have hb2 : (ints .i64 (T.take (r * m1 + cc))).length + 1 ≤ maxLen := by rw [ints_len, List.length_take]; unfold maxLen; omega
          clear hn hp hq hm hm4 h4 hq1 hn1 hbl hE hR hR2 hj hj1 hj2 hj3 hz0 hz1 hz2 hz3 hzz0 hzz1 hzz2 hzz3 hs1 hs2 hs3 hmd hdv hsn0 hkm hc
          have e0 := e0h.out
          have e1 := e1h.out
          have e2 := e2h.out
          have e3 := e3h.out
          have e4 := e4h.out
          have e5 := e5h.out
          have e6 := e6h.out
          have e7 := e7h.out
          have e8 := e8h.out
          go_wp2_with (first|((with_reducible refine at_load ?_);first|(refine wm_own (cs := ?_) (t := ?_) (v := ?_) K rfl _ _ rfl rfl ?_ ?_ ?_ ?_;rotate_left 2;(repeat (first|exact At.hd|refine At.tl ?_));rotate_left;(exact rfl);(with_reducible first|exact one3))))
          refine wm_tree _ (.take 0 (.take 2 (.take 3 (.take 4 (.take 5 (.take 6 (.take 7 (.take 8 (.take 9 (.take 10 (.take 11 (.take 12 (.take 13 (.take 14 (.take 15 (.take 16 (.take 17 (.take 18 (.take 19 (.take 20 (.take 21 (.take 22 (.take 23 (.take 24 (.take 25 (.take 26 (.take 27 (.take 28 (.take 29 (.take 30 (.take 31 (.take 32 (.take 33 (.take 34 (.take 35 (.take 36 (.take 37 (.take 38 (.take 39 (.take 40 (.take 41 (.take 42 (.take 43 (.take 44 (.take 45 (.take 46 (.take 47 (.take 48 (.take 49 (.take 50 (.take 51 (.take 52 (.alt 1 (.alt 53 (.alt 54 (.take 55 (.alt 56 .done .stop)) .stop) .stop) (.alt 53 (.alt 1 (.alt 54 (.take 55 (.alt 56 .done .stop)) .stop) .stop) .stop)))))))))))))))))))))))))))))))))))))))))))))))))))))) K sbd1k2 (by kernel_rfl) (by kernel_rfl) ?_; (try clear K); (try clear ww); intro ww K; (try simp [go_sem] at K)
          repeat' (first|exact tree_stop|(refine tm_own (cs := ?_) (t0 := ?_) (v := ?_) rfl rfl _ _ rfl rfl ?_ ?_ ?_ ?_;rotate_left 2;(repeat (first|exact At.hd|refine At.tl ?_));rotate_left;(first|exact rfl|assumption);(with_reducible first|exact one3|exact one24))|(refine tm_farD (v := ?_) rfl rfl _ _ rfl rfl (fun ww K => ?_) ?_ ?_;rotate_left;(first|exact (K.below.cell (by assumption)).trans (by assumption));(with_reducible first|exact one2))|(refine tree_take (fun K' hK' => ?_);simp only [opAt, List.getElem?_toArray, List.getElem?_cons_succ, List.getElem?_cons_zero, Option.getD_some];go_simp;first|(apply Exists.intro;refine ⟨?_, hK' _ ?_⟩;(intro _ _;rfl);clear hK' K'))|(refine tm_nowAt (cs := ?_) (t0 := ?_) (v := ?_) K rfl rfl _ _ rfl rfl ?_ ?_ ?_ (by apply via sbd1k2;first|exact K|exact K.tail) ?_ ?_;rotate_left 2;(repeat (first|exact At.hd|refine At.tl ?_));rotate_left;(exact rfl);(with_reducible first|exact one24))|(refine tree_list rfl ?_ ?_;refine wm_one K rfl _ _ rfl Try.underlying24 num2 rfl ?_;intro bb ww2 K2;(try simp [go_sem] at K2);refine wl_nil ⟨(by apply via sbd1k2;first|exact K2.tail), ?_⟩;replace K := K2;clear K2;(try clear ww);revert ww2;intro ww K)|(refine tree_list rfl ?_ ?_;refine wm_appT (L0 := ?_) K ?_ rfl _ _ _ rfl Try.underlying24 num2 rfl hO rfl rfl (by first|assumption) (by first|assumption) ?_;rotate_left;(repeat (first|exact Tl.nil|(refine Tl.cons (L0 := ?_) ?_;rotate_left)));intro v ww2 Lo2 hO2 K2;obtain ⟨_, _, _, rfl, _⟩ := hO2.val;(try simp only [List.cons_append, List.nil_append] at K2);refine wl_nil ⟨(by apply via sbd1k2;first|exact K2), ?_⟩;replace K := K2;replace hO := hO2;clear K2 hO2;(try clear ww);revert ww2;intro ww K)|(refine tm_put (L' := ?_) (cs := ?_) (new := ?_) (t0 := ?_) K rfl rfl _ _ _ rfl rfl rfl rfl ?_ ?_ ?_ ?_ rfl rfl ?_ ?_;rotate_left 4;(repeat (exact Put.hd));(exact Nat.le_of_ble_eq_true rfl);((simp only [List.setIfInBounds_toArray];exact rfl));(with_reducible first|exact one24);intro ww2 K2;(try simp [go_sem] at K2);refine ⟨(by apply via sbd1k2;first|exact K2), ?_⟩;replace K := K2;clear K2;(try clear ww);revert ww2;intro ww K))
          all_goals refine tree_done ?_
          all_goals (try simp only [opAt, List.getElem?_toArray, List.getElem?_cons_succ, List.getElem?_cons_zero, Option.getD_some])
          all_goals (try go_simp)
          all_goals clear e0 e1 e2 e3 e4 e5 e6 e7 e8
          all_goals (try go_wp2_with (fail))
          all_goals exact ⟨⟨cc + 1, x + 2, _, _, by omega, by omega, by omega, by go_num, by rw [← Nat.add_assoc, hsn.out, ints_app]; exact hO, K⟩, by simp [intOf]; omega⟩
        · obtain rfl : cc = m1 := by omega
          have ht2 : decide ((x : Int) < p) = false := decide_eq_false (by omega)
          have hO2 : OwnT v 2 (ints .i64 (T.take ((r + 1) * cc))) Lo := by rw [Nat.succ_mul]; exact hO
          go_wp2_with (first|((with_reducible refine at_load ?_);first|(refine wm_own (cs := ?_) (t := ?_) (v := ?_) K rfl _ _ rfl rfl ?_ ?_ ?_ ?_;rotate_left 2;(repeat (first|exact At.hd|refine At.tl ?_));rotate_left;(exact rfl);(with_reducible first|exact one3))))
          exact ⟨⟨r + 1, y + 2, v, Lo, by omega, by omega, by omega, by go_num, hO2, K⟩, by simp [intOf]; omega⟩
    · obtain rfl : r = q1 := by omega
      have ht : decide ((y : Int) < q) = false := decide_eq_false (by omega)
      rw [show r * m1 = n4 from by rw [Nat.mul_comm]; exact HN.out.2.2.2.2.1, show T.take n4 = T from List.take_of_length_le (by rw [HTL.out]; omega)] at hO
      have hlen : (ints .i64 T).length = n4 := by rw [ints_len]; exact HTL.out
      obtain ⟨A2, c2, rfl, hc1, hc2, hA, K2⟩ := hO.fix (L0 := [(r4, #[.int .i64 m1, .int .i64 r, .int .i64 X2, .int .i64 Y2, .int .i64 S2, v], 26), (r2, #[.int .i64 0, .int .i64 0, .int .i64 0, .int .i64 0, .int .i64 0, .slice none 0 0], 26), (r1, #[.int .i64 p, .int .i64 q, .int .i64 X, .int .i64 Y, .int .i64 S, .slice A n c], 26)]) K
      rw [hlen] at K2
      have HA := Lib.hid hA
      clear K hO hc1 hc2 hlen hA
      replace K := K2
      clear K2
      go_wp2_with (first|((with_reducible refine at_load ?_);first|(refine wm_load (cs := ?_) (t := ?_) (n := ?_) K rfl _ _ rfl rfl ?_ ?_ ?_ ?_;rotate_left 2;(repeat (exact At.hd));rotate_left;(with_reducible first|exact row26);(exact rfl))|(refine wm_own (cs := ?_) (t := ?_) (v := ?_) K rfl _ _ rfl rfl ?_ ?_ ?_ ?_;rotate_left 2;(repeat (first|exact At.hd|refine At.tl ?_));rotate_left;(exact rfl);(with_reducible first|exact one3)))|((with_reducible refine at_store ?_);(first|(refine wm_store (L' := ?_) (cs := ?_) (t := ?_) (n := ?_) K rfl _ _ _ rfl rfl rfl rfl ?_ ?_ ?_ ?_ ?_ ?_;rotate_left 3;(repeat (first|exact Put.hd|(refine Put.tl (L' := ?_) ?_;rotate_left)));rotate_left;(with_reducible first|exact row26);(exact rfl);(exact rfl);(simp [Ones, Value.oneCell'])));(try clear K);(try clear ww);intro ww K;(try simp [go_sem] at K)))
      refine bodyPost_ret (K.res2 rfl _ rfl (At.tl At.hd) (by (with_reducible first | exact row26)) (by (solve | exact rfl | simp)) rfl) rfl ?_
      exact ⟨A2, c2, rfl, ⟨by rw [HTE.out]; exact K.fact.1, HA.out⟩, K.below⟩
set_option maxRecDepth 100000 in
theorem RJoin14_bad (W H X Y S : Int) (A : Option Addr) (n c : Nat) (w : World) (hW : 0 ≤ W) (hH : 0 ≤ H) (hs : joinok W H S = false) :
    Calls Try.prog 76 #[.agg #[.int .i64 W, .int .i64 H, .int .i64 X, .int .i64 Y, .int .i64 S, .slice A n c]] w fun e w' => e = .returned (.tuple #[.agg #[.int .i64 W, .int .i64 H, .int .i64 X, .int .i64 Y, .int .i64 S, .slice A n c], .int .i64 12]) ∧ Below w.heap.size w w' := by
  have K := St.start w
  obtain ⟨u1, u2, u3, d1, d2, d3, hu⟩ := joinok_not hs
  have hm1 : W.tmod 2 = W % 2 := Int.tmod_eq_emod_of_nonneg hW
  have hm2 : H.tmod 2 = H % 2 := Int.tmod_eq_emod_of_nonneg hH
  have f1 : (W % 2 == 1) = u1 := by rw [← d1, Bool.eq_iff_iff]; simp; omega
  have f2 : (H % 2 == 1) = u2 := by rw [← d2, Bool.eq_iff_iff]; simp; omega
  obtain ⟨v1, hv1⟩ : ∃ v, W % 2 = v := ⟨_, rfl⟩
  obtain ⟨v2, hv2⟩ : ∃ v, H % 2 = v := ⟨_, rfl⟩
  rw [hv1] at hm1 f1
  rw [hv2] at hm2 f2
  clear hs hv1 hv2 hW hH d1 d2
  cases u1
  case' false => cases u2
  case' false.false => cases u3
  case false.false.false => cases hu
  all_goals
    clear hu
    go_enter Try.func76, Try.ntmps76
    go_wp2_with (first|go_big_skip|((with_reducible refine at_load ?_);first|(refine wm_load (cs := ?_) (t := ?_) (n := ?_) K rfl _ _ rfl rfl ?_ ?_ ?_ ?_;rotate_left 2;(repeat (first|exact At.hd|refine At.tl ?_));rotate_left;(with_reducible first|exact row26);(exact rfl))|(refine wm_own (cs := ?_) (t := ?_) (v := ?_) K rfl _ _ rfl rfl ?_ ?_ ?_ ?_;rotate_left 2;(repeat (first|exact At.hd|refine At.tl ?_));rotate_left;(exact rfl);(with_reducible first|exact one2|exact one3)))|((with_reducible refine at_store ?_);(first|(refine wm_store (L' := ?_) (cs := ?_) (t := ?_) (n := ?_) K rfl _ _ _ rfl rfl rfl rfl ?_ ?_ ?_ ?_ ?_ ?_;rotate_left 3;(repeat (exact Put.hd));rotate_left;(with_reducible first|exact row26);(exact rfl);(exact rfl);(simp [Ones, Value.oneCell'])));(try clear K);(try clear ww);intro ww K;(try simp [go_sem] at K))|((first|((with_reducible refine at_box ?_);refine wm_box K rfl _ _ rfl rfl rfl ?_)|((with_reducible refine at_alloc ?_);refine wm_alloc (v := ?_) (cs := ?_) K rfl _ rfl ?_ ?_ ?_;rotate_left;(with_reducible first|exact zero26);rotate_left;exact rfl));(try clear K);(try clear ww);(first|((fail_if_success (have _h := r1));intro r1 ww K)|((fail_if_success (have _h := r2));intro r2 ww K));(try simp [go_sem, Value.cells] at K)))
    refine bodyPost_ret (K.res2 rfl _ rfl At.hd (by (with_reducible first | exact row26)) (by (solve | exact rfl | simp)) rfl) rfl ?_
    exact ⟨rfl, K.below⟩
end Go.Proofs.Ytpejoaefnnbghaa
namespace Go.Proofs.Ytpejoaefnnbghaa
open Go.RowKit
attribute [local irreducible] wpHeld wpTree wpList
set_option linter.unusedVariables false
set_option maxRecDepth 100000 in
set_option maxHeartbeats 4000000 in
theorem GSplitX14 (X Y S X2 Y2 : Int) (p q : Nat) (A : Option Addr) (n c m : Nat) (zs : List Int) (w : World) (h : Rd w A n (ints .i64 zs)) (hb : ∀ z ∈ zs, 0 ≤ z ∧ z ≤ 1073741824) (hn : p * q = n) (hp : 1 ≤ p ∧ p ≤ 32) (hq : 1 ≤ q ∧ q ≤ 32) (hX : wrap64 (X - S / 4) = X2) (hY : wrap64 (Y - S / 4) = Y2) (hS : 32 ≤ S ∧ S ≤ 4096) (hS4 : S % 4 = 0) (hm : 4 * n = m) :
    Calls Try.prog 74 #[.agg #[.int .i64 p, .int .i64 q, .int .i64 X, .int .i64 Y, .int .i64 S, .slice A n c]] w fun e w' => ∃ A2 c2, e = .returned (.tuple #[.agg #[.int .i64 ((2 * p : Nat)), .int .i64 ((2 * q : Nat)), .int .i64 X2, .int .i64 Y2, .int .i64 (S / 2), .slice A2 m c2], .int .i64 0]) ∧ (Rd w' A2 m (ints .i64 (split14 p zs m)) ∧ Nw w.heap.size A2) ∧ Below w.heap.size w w' := by
  have K := St.start w
  have hl : zs.length = n := by rw [← h.1, ints_len]
  have hn1 : 1 ≤ n ∧ n ≤ 1024 := by
    have a1 := Nat.mul_le_mul hp.2 hq.2
    have a2 := Nat.mul_le_mul hp.1 hq.1
    omega
  obtain ⟨P2, hP2⟩ : ∃ P2 : Nat, 2 * p = P2 := ⟨_, rfl⟩
  obtain ⟨Q2, hQ2⟩ : ∃ Q2 : Nat, 2 * q = Q2 := ⟨_, rfl⟩
  rw [hP2, hQ2]
  have d1 : decide (64 < (P2 : Int)) = false := decide_eq_false (by omega)
  have d2 : decide (64 < (Q2 : Int)) = false := decide_eq_false (by omega)
  have d3 : decide (S < 32) = false := decide_eq_false (by omega)
  have m1 : 8 * m ≤ 281474976710656 := by omega
  have m2 : m ≤ 4611686018427387904 := by omega
  have hm5 : m ≤ 5000 := by omega
  obtain ⟨S4, hS4'⟩ : ∃ S4, S / 4 = S4 := ⟨_, rfl⟩
  obtain ⟨S2, hS2'⟩ : ∃ S2, S / 2 = S2 := ⟨_, rfl⟩
  rw [hS4'] at hX hY
  rw [hS2']
  have a1h : Hid (S.tmod 4 = 0) := Lib.hid (by rw [Int.tmod_eq_emod_of_nonneg (by omega)]; exact hS4)
  have a2h : Hid (S.tdiv 4 = S4) := Lib.hid (by rw [Int.tdiv_eq_ediv_of_nonneg (by omega)]; exact hS4')
  have a3h : Hid (S.tdiv 2 = S2) := Lib.hid (by rw [Int.tdiv_eq_ediv_of_nonneg (by omega)]; exact hS2')
  have a4h : Hid (wrap64 (2 * (p : Int)) = (P2 : Int)) := Lib.hid (w64e (by omega) (by omega) (by omega))
  have a5h : Hid (wrap64 (2 * (q : Int)) = (Q2 : Int)) := Lib.hid (w64e (by omega) (by omega) (by omega))
  have a6h : Hid (wrap64 (X - S4) = X2) := Lib.hid hX
  have a7h : Hid (wrap64 (Y - S4) = Y2) := Lib.hid hY
  have a8h : Hid (wrap64 (4 * (n : Int)) = (m : Int)) := Lib.hid (w64e (by omega) (by omega) (by omega))
  have b4h : Hid (IntKind.i64.wrap (2 * (p : Int)) = (P2 : Int)) := Lib.hid ((IntWalk.i64_in _ (by omega)).trans (by omega))
  have b5h : Hid (IntKind.i64.wrap (2 * (q : Int)) = (Q2 : Int)) := Lib.hid ((IntWalk.i64_in _ (by omega)).trans (by omega))
  have b6h : Hid (IntKind.i64.wrap (X - S4) = X2) := Lib.hid ((iwrap_eq _).trans hX)
  have b7h : Hid (IntKind.i64.wrap (Y - S4) = Y2) := Lib.hid ((iwrap_eq _).trans hY)
  have b8h : Hid (IntKind.i64.wrap (4 * (n : Int)) = (m : Int)) := Lib.hid ((IntWalk.i64_in _ (by omega)).trans (by omega))
  have b9h : Hid (IntKind.i64.wrap S4 = S4) := Lib.hid (IntWalk.i64_in _ (by omega))
  have b10h : Hid (IntKind.i64.wrap S2 = S2) := Lib.hid (IntWalk.i64_in _ (by omega))
  have HR := Lib.hid h
  have HL := Lib.hid hl
  have HZ := Lib.hid hb
  have HN := Lib.hid (And.intro hn (And.intro hp (And.intro hm (And.intro hP2 hn1))))
  clear h hl hb hn hp hq hX hY hS hS4 hm hn1 hP2 hQ2 hS4' hS2'
  have a1 := a1h.out
  have a2 := a2h.out
  have a3 := a3h.out
  have a4 := a4h.out
  have a5 := a5h.out
  have a6 := a6h.out
  have a7 := a7h.out
  have a8 := a8h.out
  have b4 := b4h.out
  have b5 := b5h.out
  have b6 := b6h.out
  have b7 := b7h.out
  have b8 := b8h.out
  have b9 := b9h.out
  have b10 := b10h.out
  go_enter Try.func74, Try.ntmps74
  go_wp2_with (first|((with_reducible refine at_load ?_);first|(refine wm_own (cs := ?_) (t := ?_) (v := ?_) K rfl _ _ rfl rfl ?_ ?_ ?_ ?_;rotate_left 2;(repeat (first|exact At.hd|refine At.tl ?_));rotate_left;(exact rfl);(with_reducible first|exact one2|exact one3)))|((first|((with_reducible refine at_box ?_);refine wm_box K rfl _ _ rfl rfl rfl ?_)|((with_reducible refine at_alloc ?_);refine wm_alloc (v := ?_) (cs := ?_) K rfl _ rfl ?_ ?_ ?_;rotate_left;(with_reducible first|exact zero26);rotate_left;exact rfl));(try clear K);(try clear ww);(first|((fail_if_success (have _h := r1));intro r1 ww K)|((fail_if_success (have _h := r2));intro r2 ww K));(try simp [go_sem, Value.cells] at K)))
  (try simp only [Act.put, List.setIfInBounds_toArray, List.set_cons_zero, List.set_cons_succ])
  go_cut [4] from 30 to 56 (fun p4 wc => ∃ r4 g : Nat, p4 = .pointer (some ⟨r4, 0, none⟩) ∧ St w.heap.size w [(r4, #[.int .i64 P2, .int .i64 Q2, .int .i64 X2, .int .i64 Y2, .int .i64 S2, .slice (some ⟨g, 0, none⟩) m m], 26), (g, (nums .i64 (List.replicate m 0)).toArray, 2), (r2, #[.int .i64 0, .int .i64 0, .int .i64 0, .int .i64 0, .int .i64 0, .slice none 0 0], 26), (r1, #[.int .i64 p, .int .i64 q, .int .i64 X, .int .i64 Y, .int .i64 S, .slice A n c], 26)] Any wc)
  case first =>
    refine wm_tree _ (.take 0 (.take 1 (.take 2 (.take 3 (.take 4 (.take 5 (.take 6 (.take 7 (.take 8 (.take 9 (.take 10 (.take 11 (.take 12 (.take 13 (.take 14 (.take 15 (.take 16 (.take 17 (.take 18 (.take 19 (.take 20 (.take 21 (.take 22 (.take 23 (.take 24 (.alt 25 (.take 26 (.alt 27 (.alt 28 .done .stop) .stop)) (.alt 27 (.alt 25 (.take 26 (.alt 28 .done .stop)) .stop) .stop))))))))))))))))))))))))))) K sbr (by kernel_rfl) (by kernel_rfl) ?_; (try clear K); (try clear ww); intro ww K; (try simp [go_sem] at K)
    repeat' (first|exact tree_stop|(refine tm_own (cs := ?_) (t0 := ?_) (v := ?_) rfl rfl _ _ rfl rfl ?_ ?_ ?_ ?_;rotate_left 2;(repeat (first|exact At.hd|refine At.tl ?_));rotate_left;(exact rfl);(with_reducible first|exact one2|exact one3|exact one24))|(refine tree_take (fun K' hK' => ?_);simp only [opAt, List.getElem?_toArray, List.getElem?_cons_succ, List.getElem?_cons_zero, Option.getD_some];go_simp;first|(apply Exists.intro;refine ⟨?_, hK' _ ?_⟩;(intro _ _;rfl);clear hK' K'))|(refine tree_list rfl ?_ ?_;refine wm_make K rfl _ _ _ rfl Try.underlying24 num2 m rfl rfl rfl rfl m1 m2 ?_;intro g ww2 K2;refine wl_nil ⟨(by apply via sbr;first|exact K2.tail|exact K2.tail.tail), ?_⟩;replace K := K2;clear K2;(try clear ww);revert ww2;intro ww K)|(first|((fail_if_success (have _h := r4));refine tm_alloc (v := ?_) (cs := ?_) K rfl rfl _ rfl ?_ ?_ ?_ ?_;rotate_left;(with_reducible first|exact zero26);rotate_left;exact rfl;intro r4 ww2 K2;(try simp [go_sem, Value.cells] at K2);refine ⟨(by apply via sbr;first|exact K2.tail|exact K2.tail.tail), ?_⟩;replace K := K2;clear K2;(try clear ww);revert ww2;intro ww K))|(refine tm_store (L' := ?_) (cs := ?_) (t0 := ?_) (n := ?_) K rfl rfl _ _ _ rfl rfl rfl rfl ?_ ?_ ?_ ?_ ?_ ?_ ?_;rotate_left 3;(repeat (first|exact Put.hd|(refine Put.tl (L' := ?_) ?_;rotate_left)));rotate_left;(with_reducible first|exact row26);(exact rfl);(exact rfl);(simp [Ones, Value.oneCell']);intro ww2 K2;(try simp [go_sem] at K2);refine ⟨(by apply via sbr;first|exact K2.tail.tail), ?_⟩;replace K := K2;clear K2;(try clear ww);revert ww2;intro ww K))
    all_goals refine tree_done ?_
    all_goals (try simp only [opAt, List.getElem?_toArray, List.getElem?_cons_succ, List.getElem?_cons_zero, Option.getD_some])
    all_goals (try go_simp)
    all_goals (try go_wp2_with (fail))
    all_goals (try go_meet)
    all_goals first | exact ⟨_, _, rfl, K⟩ | exact ⟨_, _, rfl, K.perm (List.Perm.swap _ _ _)⟩
  case rest =>
    clear K
    obtain ⟨r4, g, rfl, K⟩ := hcut
    clear a1 a2 a3 a4 a5 a6 a7 a8 b4 b5 b6 b7 b8 b9 b10 a1h a2h a3h a4h a5h a6h a7h a8h b4h b5h b6h b7h b8h b9h b10h d1 d2 d3 m1 m2
    obtain ⟨T, hT⟩ : ∃ T, split14 p zs m = T := ⟨_, rfl⟩
    have HTE := Lib.hid hT
    have HTL : Hid (T.length = m) := Lib.hid (by rw [← hT]; exact gen_len _ _)
    have HTG : Hid (∀ k, k < m → T.getD k 0 = splitv p zs k) := Lib.hid (fun k hk => by rw [← hT]; exact gen_get _ hk)
    clear hT
    obtain ⟨Z, hZ⟩ : ∃ Z : List Int, List.replicate m 0 = Z := ⟨_, rfl⟩
    have HZL : Hid (Z.length = m) := Lib.hid (by rw [← hZ]; simp)
    have HZ0 : Hid (((nums .i64 (List.replicate m 0)).toArray : Array Value).size = m ∧ ((nums .i64 (List.replicate m 0)).toArray : Array Value).toList.take m = ints .i64 (T.take 0 ++ Z.drop 0)) := Lib.hid (by
      rw [List.take_zero, List.drop_zero, List.nil_append, ← hZ]; exact zeros_at m)
    generalize (nums .i64 (List.replicate m 0)).toArray = cur0 at *
    clear hZ
    go_wp2_with (first|((with_reducible refine at_load ?_);first|(refine wm_own (cs := ?_) (t := ?_) (v := ?_) K rfl _ _ rfl rfl ?_ ?_ ?_ ?_;rotate_left 2;(repeat (exact At.hd));rotate_left;(exact rfl);(with_reducible first|exact one24))))
    go_loopw [60] (fun i wr => ∃ (k : Nat) (cur : Array Value), k ≤ m ∧ i = .int .i64 k ∧ Hid (cur.size = m ∧ cur.toList.take m = ints .i64 (T.take k ++ Z.drop k)) ∧ St w.heap.size w [(r4, #[.int .i64 P2, .int .i64 Q2, .int .i64 X2, .int .i64 Y2, .int .i64 S2, .slice (some ⟨g, 0, none⟩) m m], 26), (g, cur, 2), (r2, #[.int .i64 0, .int .i64 0, .int .i64 0, .int .i64 0, .int .i64 0, .slice none 0 0], 26), (r1, #[.int .i64 p, .int .i64 q, .int .i64 X, .int .i64 Y, .int .i64 S, .slice A n c], 26)] Any wr) (fun i _ => m - (intOf i).toNat)
    case atStart => exact ⟨0, cur0, Nat.zero_le _, rfl, HZ0, K⟩
    case round =>
      clear K HZ0
      obtain ⟨k, cur, hk, rfl, HU, K⟩ := hrel
      by_cases hlt : k < m
      · have ht : decide ((k : Int) < m) = true := decide_eq_true (by omega)
        obtain ⟨hn, hp, hm, hP2, hn1⟩ := HN.out
        obtain ⟨q1, q2, q3⟩ := split_place (p := p) (q := q) (k := k) (by omega) (by rw [hn, hm]; exact hlt)
        have hE := HTG.out k hlt
        unfold splitv at hE
        rw [hP2] at q1 q2 q3 hE
        rw [hn] at q3
        obtain ⟨e, he⟩ : ∃ e, k % P2 = e := ⟨_, rfl⟩
        obtain ⟨d, hd⟩ : ∃ d, k / P2 = d := ⟨_, rfl⟩
        rw [he] at q1 q3 hE
        rw [hd] at q2 q3 hE
        obtain ⟨xx, hxx⟩ : ∃ xx, e / 2 = xx := ⟨_, rfl⟩
        obtain ⟨yy, hyy⟩ : ∃ yy, d / 2 = yy := ⟨_, rfl⟩
        rw [hxx] at q1 q3 hE
        rw [hyy] at q2 q3 hE
        obtain ⟨R, hR⟩ : ∃ R, yy * p = R := ⟨_, rfl⟩
        rw [hR] at q3 hE
        obtain ⟨j, hj⟩ : ∃ j, R + xx = j := ⟨_, rfl⟩
        rw [hj] at q3 hE
        have c1h : Hid ((k : Int).tmod (P2 : Int) = (e : Int)) := Lib.hid (by rw [Int.tmod_eq_emod_of_nonneg (by omega), ← Int.natCast_emod, he])
        have c2h : Hid ((e : Int).tdiv 2 = (xx : Int)) := Lib.hid (by rw [Int.tdiv_eq_ediv_of_nonneg (by omega)]; omega)
        have c3h : Hid ((k : Int).tdiv (P2 : Int) = (d : Int)) := Lib.hid (by rw [Int.tdiv_eq_ediv_of_nonneg (by omega), ← Int.natCast_ediv, hd])
        have c4h : Hid ((d : Int).tdiv 2 = (yy : Int)) := Lib.hid (by rw [Int.tdiv_eq_ediv_of_nonneg (by omega)]; omega)
        have hd2 : d ≤ k := by rw [← hd]; exact Nat.div_le_self _ _
        have c5h : Hid (IntKind.i64.wrap (xx : Int) = xx) := Lib.hid (IntWalk.i64_in _ (by omega))
        have c6h : Hid (IntKind.i64.wrap (yy : Int) = yy) := Lib.hid (IntWalk.i64_in _ (by omega))
        have c7h : Hid (IntKind.i64.wrap (d : Int) = d) := Lib.hid (IntWalk.i64_in _ (by omega))
        have c8h : Hid (IntKind.i64.wrap ((yy : Int) * (p : Int)) = (R : Int)) := Lib.hid (by rw [← Int.natCast_mul, hR]; exact IntWalk.i64_in _ (by omega))
        have c9h : Hid (IntKind.i64.wrap ((R : Int) + (xx : Int)) = (j : Int)) := Lib.hid ((IntWalk.i64_in _ (by omega)).trans (by omega))
        have c0 : (P2 = 0) = False := by simp; omega
        have hz := HZ.out _ (getD_mem (l := zs) (i := j) (by rw [HL.out]; exact q3))
        obtain ⟨r0, off, rfl, hbb, hc⟩ := HR.out.get q3
        have hv := hc j _ (ints_get .i64 zs j (by rw [HL.out]; exact q3))
        generalize zs.getD j 0 = z at *
        have z1h : Hid (z.tdiv 4 = z / 4) := Lib.hid (Int.tdiv_eq_ediv_of_nonneg hz.1)
        have z2h : Hid (IntKind.i64.wrap (z / 4) = z / 4) := Lib.hid (IntWalk.i64_in _ (by omega))
        have hnew := mix_set HTL.out HZL.out hlt
        rw [hE] at hnew
        have hput := row_put (i := k) (x := z / 4) HU.out.2
        rw [hnew] at hput
        have HN2 : Hid ((cur.setIfInBounds k (.int .i64 (z / 4))).size = m ∧ (cur.setIfInBounds k (.int .i64 (z / 4))).toList.take m = ints .i64 (T.take (k + 1) ++ Z.drop (k + 1))) := Lib.hid ⟨by rw [Array.size_setIfInBounds]; exact HU.out.1, hput⟩
        have hink : k < cur.size := by rw [HU.out.1]; exact hlt
        have hjn : j < n := q3
        generalize z / 4 = v at *
        clear hn hp hm hP2 hn1 q1 q2 q3 hE he hd hxx hyy hR hj hd2 hz hc hnew hput
        have c1 := c1h.out
        have c2 := c2h.out
        have c3 := c3h.out
        have c4 := c4h.out
        have c5 := c5h.out
        have c6 := c6h.out
        have c7 := c7h.out
        have c8 := c8h.out
        have c9 := c9h.out
        have z1 := z1h.out
        have z2 := z2h.out
        go_wp2_with (fail)
        refine wm_held _ [(true, 0), (true, 1), (true, 2), (true, 3), (true, 4), (true, 5), (true, 6), (true, 7), (true, 8), (true, 9), (true, 10), (true, 11)] K sbr (by kernel_rfl) (by kernel_rfl) ?_; (try clear K); (try clear ww); intro ww K; (try simp [go_sem] at K); simp only [pick, List.getElem?_toArray, List.getElem?_cons_succ, List.getElem?_cons_zero]
        repeat (first|((with_reducible refine ht_load ?_);first|(refine hm_own (cs := ?_) (t := ?_) (v := ?_) rfl _ _ rfl rfl ?_ ?_ ?_ ?_;rotate_left 2;(repeat (exact At.hd));rotate_left;(exact rfl);(with_reducible first|exact one3)))|(refine held_take (fun K' hK' => ?_);go_simp;first|(apply Exists.intro;refine ⟨?_, hK' _ ?_⟩;(intro _ _;rfl);clear hK' K')))
        refine held_nil ?_
        go_wp2_with (fail)
        refine wm_held _ [(true, 0), (true, 1), (true, 2), (true, 3), (true, 4), (true, 5), (true, 6), (true, 7), (true, 8), (true, 9), (true, 10), (true, 11), (true, 12), (true, 13), (true, 14), (false, 15)] K sbk1 (by kernel_rfl) (by kernel_rfl) ?_; (try clear K); (try clear ww); intro ww K; (try simp [go_sem] at K); simp only [pick, List.getElem?_toArray, List.getElem?_cons_succ, List.getElem?_cons_zero]
        repeat (first|((with_reducible refine ht_load ?_);first|(refine hm_own (cs := ?_) (t := ?_) (v := ?_) rfl _ _ rfl rfl ?_ ?_ ?_ ?_;rotate_left 2;(repeat (first|exact At.hd|refine At.tl ?_));rotate_left;(first|exact rfl|assumption);(with_reducible first|exact one3|exact one24))|(refine hm_cell (v := ?_) rfl _ _ rfl rfl (fun ww K => ?_) ?_ ?_;rotate_left;(first|exact (K.below.cell (by assumption)).trans (by assumption));(with_reducible first|exact one2)))|(refine held_take (fun K' hK' => ?_);go_simp;first|(apply Exists.intro;refine ⟨?_, hK' _ ?_⟩;(intro _ _;rfl);clear hK' K'))|((with_reducible refine ht_store ?_);first|(refine hm_put (L' := ?_) (cs := ?_) (new := ?_) (t := ?_) K rfl _ _ _ rfl rfl rfl rfl ?_ ?_ ?_ ?_ rfl rfl ?_;rotate_left 4;(repeat (first|exact Put.hd|(refine Put.tl (L' := ?_) ?_;rotate_left)));(omega);(exact rfl);(with_reducible first|exact one2);(try clear K);(try clear ww);intro ww K;(try simp [go_sem] at K);refine ⟨(by apply via sbk1;first|exact K), ?_⟩)))
        refine held_nil ?_
        go_wp2_with fail
        clear c1 c2 c3 c4 c5 c6 c7 c8 c9 z1 z2
        exact ⟨⟨k + 1, _, by omega, by go_num, HN2, K⟩, by simp [intOf]; omega⟩
      · obtain rfl : m = k := by omega
        have ht : decide ((m : Int) < m) = false := decide_eq_false (by omega)
        have hlast : cur.toList.take m = ints .i64 T := by
          have h1 := HU.out.2
          rw [show T.take m = T from List.take_of_length_le (by rw [HTL.out]; omega), show Z.drop m = [] from List.drop_of_length_le (by rw [HZL.out]; omega), List.append_nil] at h1
          exact h1
        have HX := Lib.hid (And.intro hlast (show m ≤ cur.size by rw [HU.out.1]; exact Nat.le_refl _))
        clear hlast
        go_wp2_with (first|((with_reducible refine at_load ?_);first|(refine wm_load (cs := ?_) (t := ?_) (n := ?_) K rfl _ _ rfl rfl ?_ ?_ ?_ ?_;rotate_left 2;(repeat (exact At.hd));rotate_left;(with_reducible first|exact row26);(exact rfl)))|((with_reducible refine at_store ?_);(first|(refine wm_store (L' := ?_) (cs := ?_) (t := ?_) (n := ?_) K rfl _ _ _ rfl rfl rfl rfl ?_ ?_ ?_ ?_ ?_ ?_;rotate_left 3;(repeat (first|exact Put.hd|(refine Put.tl (L' := ?_) ?_;rotate_left)));rotate_left;(with_reducible first|exact row26);(exact rfl);(exact rfl);(simp [Ones, Value.oneCell'])));(try clear K);(try clear ww);intro ww K;(try simp [go_sem] at K)))
        refine bodyPost_ret (K.res2 rfl _ rfl (At.tl (At.tl At.hd)) (by (with_reducible first|exact row26)) (by (exact rfl)) rfl) rfl ?_
        exact ⟨some ⟨g, 0, none⟩, m, rfl, ⟨by rw [HTE.out]; exact (sl_take (K.get (.tl .hd)) HX.out.1 HX.out.2).rd, Nw.mk _ _ _ (K.ge (.tl .hd))⟩, K.below⟩
end Go.Proofs.Ytpejoaefnnbghaa
namespace Go.Proofs.Ytpejoaefnnbghaa
open Go.RowKit
attribute [local irreducible] wpHeld wpTree wpList
set_option linter.unusedVariables false
set_option maxRecDepth 100000 in
set_option maxHeartbeats 4000000 in
theorem RSplitX14 (X Y S X2 Y2 : Int) (p q : Nat) (A : Option Addr) (n c m : Nat) (zs : List Int) (w : World) (h : Rd w A n (ints .i64 zs)) (hb : ∀ z ∈ zs, 0 ≤ z ∧ z ≤ 1073741824) (hn : p * q = n) (hp : 1 ≤ p ∧ p ≤ 32) (hq : 1 ≤ q ∧ q ≤ 32) (hX : wrap64 (X - S / 4) = X2) (hY : wrap64 (Y - S / 4) = Y2) (hS : 32 ≤ S ∧ S ≤ 4096) (hS4 : S % 4 = 0) (hm : 4 * n = m) :
    Calls Try.prog 77 #[.agg #[.int .i64 p, .int .i64 q, .int .i64 X, .int .i64 Y, .int .i64 S, .slice A n c]] w fun e w' => ∃ A2 c2, e = .returned (.tuple #[.agg #[.int .i64 ((2 * p : Nat)), .int .i64 ((2 * q : Nat)), .int .i64 X2, .int .i64 Y2, .int .i64 (S / 2), .slice A2 m c2], .int .i64 0]) ∧ (Rd w' A2 m (ints .i64 (split14 p zs m)) ∧ Nw w.heap.size A2) ∧ Below w.heap.size w w' := by
  have K := St.start w
  have hl : zs.length = n := by rw [← h.1, ints_len]
  have hn1 : 1 ≤ n ∧ n ≤ 1024 := by
    have a1 := Nat.mul_le_mul hp.2 hq.2
    have a2 := Nat.mul_le_mul hp.1 hq.1
    omega
  obtain ⟨P2, hP2⟩ : ∃ P2 : Nat, 2 * p = P2 := ⟨_, rfl⟩
  obtain ⟨Q2, hQ2⟩ : ∃ Q2 : Nat, 2 * q = Q2 := ⟨_, rfl⟩
  rw [hP2, hQ2]
  have d1 : decide (32 < (p : Int)) = false := decide_eq_false (by omega)
  have d2 : decide (32 < (q : Int)) = false := decide_eq_false (by omega)
  have HPQ : Hid (Q2 * P2 = m ∧ P2 ≤ 64 ∧ Q2 ≤ 64) := Lib.hid ⟨by rw [← hP2, ← hQ2, Nat.mul_mul_mul_comm, Nat.mul_comm q p, hn]; exact hm, by omega, by omega⟩
  have d3 : decide (S < 32) = false := decide_eq_false (by omega)
  have m1 : 8 * m ≤ 281474976710656 := by omega
  have m2 : m ≤ 4611686018427387904 := by omega
  have hm5 : m ≤ 5000 := by omega
  obtain ⟨S4, hS4'⟩ : ∃ S4, S / 4 = S4 := ⟨_, rfl⟩
  obtain ⟨S2, hS2'⟩ : ∃ S2, S / 2 = S2 := ⟨_, rfl⟩
  rw [hS4'] at hX hY
  rw [hS2']
  have a1h : Hid (S.tmod 4 = 0) := Lib.hid (by rw [Int.tmod_eq_emod_of_nonneg (by omega)]; exact hS4)
  have a2h : Hid (S.tdiv 4 = S4) := Lib.hid (by rw [Int.tdiv_eq_ediv_of_nonneg (by omega)]; exact hS4')
  have a3h : Hid (S.tdiv 2 = S2) := Lib.hid (by rw [Int.tdiv_eq_ediv_of_nonneg (by omega)]; exact hS2')
  have a4h : Hid (wrap64 (2 * (p : Int)) = (P2 : Int)) := Lib.hid (w64e (by omega) (by omega) (by omega))
  have a5h : Hid (wrap64 (2 * (q : Int)) = (Q2 : Int)) := Lib.hid (w64e (by omega) (by omega) (by omega))
  have a6h : Hid (wrap64 (X - S4) = X2) := Lib.hid hX
  have a7h : Hid (wrap64 (Y - S4) = Y2) := Lib.hid hY
  have a8h : Hid (wrap64 (4 * (n : Int)) = (m : Int)) := Lib.hid (w64e (by omega) (by omega) (by omega))
  have b4h : Hid (IntKind.i64.wrap (2 * (p : Int)) = (P2 : Int)) := Lib.hid ((IntWalk.i64_in _ (by omega)).trans (by omega))
  have b5h : Hid (IntKind.i64.wrap (2 * (q : Int)) = (Q2 : Int)) := Lib.hid ((IntWalk.i64_in _ (by omega)).trans (by omega))
  have b6h : Hid (IntKind.i64.wrap (X - S4) = X2) := Lib.hid ((iwrap_eq _).trans hX)
  have b7h : Hid (IntKind.i64.wrap (Y - S4) = Y2) := Lib.hid ((iwrap_eq _).trans hY)
  have b8h : Hid (IntKind.i64.wrap (4 * (n : Int)) = (m : Int)) := Lib.hid ((IntWalk.i64_in _ (by omega)).trans (by omega))
  have b9h : Hid (IntKind.i64.wrap S4 = S4) := Lib.hid (IntWalk.i64_in _ (by omega))
  have b10h : Hid (IntKind.i64.wrap S2 = S2) := Lib.hid (IntWalk.i64_in _ (by omega))
  have HR := Lib.hid h
  have HL := Lib.hid hl
  have HZ := Lib.hid hb
  have HN := Lib.hid (And.intro hn (And.intro hp (And.intro hm (And.intro hP2 hn1))))
  clear h hl hb hn hp hq hX hY hS hS4 hm hn1 hP2 hQ2 hS4' hS2'
  have a1 := a1h.out
  have a2 := a2h.out
  have a3 := a3h.out
  have a4 := a4h.out
  have a5 := a5h.out
  have a6 := a6h.out
  have a7 := a7h.out
  have a8 := a8h.out
  have b4 := b4h.out
  have b5 := b5h.out
  have b6 := b6h.out
  have b7 := b7h.out
  have b8 := b8h.out
  have b9 := b9h.out
  have b10 := b10h.out
  go_enter Try.func77, Try.ntmps77
  go_wp2_with (first|((with_reducible refine at_load ?_);first|(refine wm_own (cs := ?_) (t := ?_) (v := ?_) K rfl _ _ rfl rfl ?_ ?_ ?_ ?_;rotate_left 2;(repeat (first|exact At.hd|refine At.tl ?_));rotate_left;(exact rfl);(with_reducible first|exact one2|exact one3)))|((with_reducible refine at_store ?_);(first|(refine wm_store (L' := ?_) (cs := ?_) (t := ?_) (n := ?_) K rfl _ _ _ rfl rfl rfl rfl ?_ ?_ ?_ ?_ ?_ ?_;rotate_left 3;(repeat (exact Put.hd));rotate_left;(with_reducible first|exact row26);(exact rfl);(exact rfl);(simp [Ones, Value.oneCell'])));(try clear K);(try clear ww);intro ww K;(try simp [go_sem] at K))|((first|((with_reducible refine at_box ?_);refine wm_box K rfl _ _ rfl rfl rfl ?_)|((with_reducible refine at_alloc ?_);refine wm_alloc (v := ?_) (cs := ?_) K rfl _ rfl ?_ ?_ ?_;rotate_left;(with_reducible first|exact zero26);rotate_left;exact rfl));(try clear K);(try clear ww);(first|((fail_if_success (have _h := r1));intro r1 ww K)|((fail_if_success (have _h := r2));intro r2 ww K)|((fail_if_success (have _h := r4));intro r4 ww K));(try simp [go_sem, Value.cells] at K)))
  clear a1 a2 a3 a4 a5 a6 a7 a8 b4 b5 b6 b7 b8 b9 b10 a1h a2h a3h a6h a7h a8h b4h b5h b6h b7h b8h b9h b10h d1 d2 d3 m1 m2
  obtain ⟨T, hT⟩ : ∃ T, split14 p zs m = T := ⟨_, rfl⟩
  have HTE := Lib.hid hT
  have HTL : Hid (T.length = m) := Lib.hid (by rw [← hT]; exact gen_len _ _)
  have HTG : Hid (∀ k, k < m → T.getD k 0 = splitv p zs k) := Lib.hid (fun k hk => by rw [← hT]; exact gen_get _ hk)
  clear hT
  have hp64 : P2 ≤ 64 := HPQ.out.2.1
  have hq64 : Q2 ≤ 64 := HPQ.out.2.2
  go_loopw [5] (fun i wr => ∃ (r : Nat) (v : Value) (Lo : List Blk), r ≤ Q2 ∧ i = .int .i64 r ∧ OwnT v 2 (ints .i64 (T.take (r * P2))) Lo ∧ St w.heap.size w ((r4, #[.int .i64 P2, .int .i64 Q2, .int .i64 X2, .int .i64 Y2, .int .i64 S2, v], 26) :: (r2, #[.int .i64 0, .int .i64 0, .int .i64 0, .int .i64 0, .int .i64 0, .slice none 0 0], 26) :: (r1, #[.int .i64 p, .int .i64 q, .int .i64 X, .int .i64 Y, .int .i64 S, .slice A n c], 26) :: Lo) Any wr) (fun i _ => Q2 - (intOf i).toNat)
  case atStart => exact ⟨0, _, _, Nat.zero_le _, rfl, by rw [Nat.zero_mul]; exact OwnT.nil _, K⟩
  case round =>
    clear K
    obtain ⟨r, v, Lo, hr, rfl, hO, K⟩ := hrel
    by_cases hrq : r < Q2
    · have ht : decide ((r : Int) < Q2) = true := decide_eq_true (by omega)
      have a5 := a5h.out
      go_wp2_with (first|((with_reducible refine at_load ?_);first|(refine wm_own (cs := ?_) (t := ?_) (v := ?_) K rfl _ _ rfl rfl ?_ ?_ ?_ ?_;rotate_left 2;(repeat (first|exact At.hd|refine At.tl ?_));rotate_left;(exact rfl);(with_reducible first|exact one3))))
      clear a5
      go_loopw [6] (fun i wr => ∃ (cc : Nat) (v : Value) (Lo : List Blk), cc ≤ P2 ∧ i = .int .i64 cc ∧ OwnT v 2 (ints .i64 (T.take (r * P2 + cc))) Lo ∧ St w.heap.size w ((r4, #[.int .i64 P2, .int .i64 Q2, .int .i64 X2, .int .i64 Y2, .int .i64 S2, v], 26) :: (r2, #[.int .i64 0, .int .i64 0, .int .i64 0, .int .i64 0, .int .i64 0, .slice none 0 0], 26) :: (r1, #[.int .i64 p, .int .i64 q, .int .i64 X, .int .i64 Y, .int .i64 S, .slice A n c], 26) :: Lo) Any wr) (fun i _ => P2 - (intOf i).toNat)
      case atStart => exact ⟨0, v, Lo, Nat.zero_le _, rfl, hO, K⟩
      case round =>
        clear K hO
        obtain ⟨cc, v, Lo, hcc, rfl, hO, K⟩ := hrel
        by_cases hcp : cc < P2
        · have ht2 : decide ((cc : Int) < P2) = true := decide_eq_true (by omega)
          obtain ⟨hn, hp, hm, hP2, hn1⟩ := HN.out
          have hkm : r * P2 + cc < m := by
            have h1 := Nat.mul_le_mul_right P2 (show r + 1 ≤ Q2 by omega)
            rw [Nat.succ_mul, HPQ.out.1] at h1
            omega
          obtain ⟨q1, q2, q3⟩ := split_place (p := p) (q := q) (k := r * P2 + cc) (by omega) (by rw [hn, hm]; exact hkm)
          have hE := HTG.out _ hkm
          unfold splitv at hE
          rw [hP2] at q1 q2 q3 hE
          have hmd : (r * P2 + cc) % P2 = cc := by rw [Nat.mul_comm, Nat.mul_add_mod]; exact Nat.mod_eq_of_lt hcp
          have hdv : (r * P2 + cc) / P2 = r := by rw [Nat.mul_comm, Nat.mul_add_div (by omega), Nat.div_eq_of_lt hcp, Nat.add_zero]
          rw [hmd, hdv] at q3 hE
          rw [hmd] at q1
          rw [hdv] at q2
          rw [hn] at q3
          have hsn0 := take_snoc T (r * P2 + cc) (by rw [HTL.out]; exact hkm)
          obtain ⟨xx, hxx⟩ : ∃ xx, cc / 2 = xx := ⟨_, rfl⟩
          obtain ⟨yy, hyy⟩ : ∃ yy, r / 2 = yy := ⟨_, rfl⟩
          rw [hxx] at q1 q3 hE
          rw [hyy] at q2 q3 hE
          obtain ⟨R, hR⟩ : ∃ R, yy * p = R := ⟨_, rfl⟩
          rw [hR] at q3 hE
          obtain ⟨j, hj⟩ : ∃ j, R + xx = j := ⟨_, rfl⟩
          rw [hj] at q3 hE
          rw [hE] at hsn0
          have c2h : Hid ((cc : Int).tdiv 2 = (xx : Int)) := Lib.hid (by rw [Int.tdiv_eq_ediv_of_nonneg (by omega)]; omega)
          have c4h : Hid ((r : Int).tdiv 2 = (yy : Int)) := Lib.hid (by rw [Int.tdiv_eq_ediv_of_nonneg (by omega)]; omega)
          have c5h : Hid (IntKind.i64.wrap (xx : Int) = xx) := Lib.hid (IntWalk.i64_in _ (by omega))
          have c6h : Hid (IntKind.i64.wrap (yy : Int) = yy) := Lib.hid (IntWalk.i64_in _ (by omega))
          have c8h : Hid (IntKind.i64.wrap ((yy : Int) * (p : Int)) = (R : Int)) := Lib.hid (by rw [← Int.natCast_mul, hR]; exact IntWalk.i64_in _ (by omega))
          have c9h : Hid (IntKind.i64.wrap ((R : Int) + (xx : Int)) = (j : Int)) := Lib.hid ((IntWalk.i64_in _ (by omega)).trans (by omega))
          have hz := HZ.out _ (getD_mem (l := zs) (i := j) (by rw [HL.out]; exact q3))
          obtain ⟨r0, off, rfl, hbb, hc⟩ := HR.out.get q3
          have hv := hc j _ (ints_get .i64 zs j (by rw [HL.out]; exact q3))
          generalize zs.getD j 0 = z at *
          have z1h : Hid (z.tdiv 4 = z / 4) := Lib.hid (Int.tdiv_eq_ediv_of_nonneg hz.1)
          have z2h : Hid (IntKind.i64.wrap (z / 4) = z / 4) := Lib.hid (IntWalk.i64_in _ (by omega))
          generalize z / 4 = u at *
          have hsn := Lib.hid hsn0
          have hjn : j < n := q3
          have hb1 : ((ints .i64 (T.take (r * P2 + cc))).length + 1) * 8 ≤ 140737488355328 := by rw [ints_len, List.length_take]; omega
          have hb2 : (ints .i64 (T.take (r * P2 + cc))).length + 1 ≤ maxLen := by rw [ints_len, List.length_take]; unfold maxLen; omega
          clear hn hp hm hP2 hn1 q1 q2 q3 hE hxx hyy hR hj hz hc hmd hdv hsn0 hkm
          have a4 := a4h.out
          have c2 := c2h.out
          have c4 := c4h.out
          have c5 := c5h.out
          have c6 := c6h.out
          have c8 := c8h.out
          have c9 := c9h.out
          have z1 := z1h.out
          have z2 := z2h.out
          go_wp2_with (first|((with_reducible refine at_load ?_);first|(refine wm_own (cs := ?_) (t := ?_) (v := ?_) K rfl _ _ rfl rfl ?_ ?_ ?_ ?_;rotate_left 2;(repeat (first|exact At.hd|refine At.tl ?_));rotate_left;(exact rfl);(with_reducible first|exact one3))))
          refine wm_tree _ (.take 0 (.take 2 (.take 3 (.take 4 (.take 5 (.take 6 (.take 7 (.take 8 (.take 9 (.take 10 (.take 11 (.take 12 (.take 13 (.take 14 (.alt 1 (.alt 15 (.alt 16 (.take 17 (.alt 18 .done .stop)) .stop) .stop) (.alt 15 (.alt 1 (.alt 16 (.take 17 (.alt 18 .done .stop)) .stop) .stop) .stop)))))))))))))))) K sbd1k2 (by kernel_rfl) (by kernel_rfl) ?_; (try clear K); (try clear ww); intro ww K; (try simp [go_sem] at K)
          repeat' (first|exact tree_stop|(refine tm_own (cs := ?_) (t0 := ?_) (v := ?_) rfl rfl _ _ rfl rfl ?_ ?_ ?_ ?_;rotate_left 2;(repeat (first|exact At.hd|refine At.tl ?_));rotate_left;(first|exact rfl|assumption);(with_reducible first|exact one3|exact one24))|(refine tm_farD (v := ?_) rfl rfl _ _ rfl rfl (fun ww K => ?_) ?_ ?_;rotate_left;(first|exact (K.below.cell (by assumption)).trans (by assumption));(with_reducible first|exact one2))|(refine tree_take (fun K' hK' => ?_);simp only [opAt, List.getElem?_toArray, List.getElem?_cons_succ, List.getElem?_cons_zero, Option.getD_some];go_simp;first|(apply Exists.intro;refine ⟨?_, hK' _ ?_⟩;(intro _ _;rfl);clear hK' K'))|(refine tm_nowAt (cs := ?_) (t0 := ?_) (v := ?_) K rfl rfl _ _ rfl rfl ?_ ?_ ?_ (by apply via sbd1k2;first|exact K|exact K.tail) ?_ ?_;rotate_left 2;(repeat (first|exact At.hd|refine At.tl ?_));rotate_left;(exact rfl);(with_reducible first|exact one24))|(refine tree_list rfl ?_ ?_;refine wm_one K rfl _ _ rfl Try.underlying24 num2 rfl ?_;intro bb ww2 K2;(try simp [go_sem] at K2);refine wl_nil ⟨(by apply via sbd1k2;first|exact K2.tail), ?_⟩;replace K := K2;clear K2;(try clear ww);revert ww2;intro ww K)|(refine tree_list rfl ?_ ?_;refine wm_appT (L0 := ?_) K ?_ rfl _ _ _ rfl Try.underlying24 num2 rfl hO rfl rfl (by first|assumption) (by first|assumption) ?_;rotate_left;(repeat (first|exact Tl.nil|(refine Tl.cons (L0 := ?_) ?_;rotate_left)));intro v ww2 Lo2 hO2 K2;obtain ⟨_, _, _, rfl, _⟩ := hO2.val;(try simp only [List.cons_append, List.nil_append] at K2);refine wl_nil ⟨(by apply via sbd1k2;first|exact K2), ?_⟩;replace K := K2;replace hO := hO2;clear K2 hO2;(try clear ww);revert ww2;intro ww K)|(refine tm_put (L' := ?_) (cs := ?_) (new := ?_) (t0 := ?_) K rfl rfl _ _ _ rfl rfl rfl rfl ?_ ?_ ?_ ?_ rfl rfl ?_ ?_;rotate_left 4;(repeat (exact Put.hd));(exact Nat.le_of_ble_eq_true rfl);((simp only [List.setIfInBounds_toArray];exact rfl));(with_reducible first|exact one24);intro ww2 K2;(try simp [go_sem] at K2);refine ⟨(by apply via sbd1k2;first|exact K2), ?_⟩;replace K := K2;clear K2;(try clear ww);revert ww2;intro ww K))
          all_goals refine tree_done ?_
          all_goals (try simp only [opAt, List.getElem?_toArray, List.getElem?_cons_succ, List.getElem?_cons_zero, Option.getD_some])
          all_goals (try go_simp)
          all_goals clear a4 c2 c4 c5 c6 c8 c9 z1 z2
          all_goals (try go_wp2_with (fail))
          all_goals exact ⟨⟨cc + 1, _, _, by omega, by go_num, by rw [← Nat.add_assoc, hsn.out, ints_app]; exact hO, K⟩, by simp [intOf]; omega⟩
        · obtain rfl : cc = P2 := by omega
          have ht2 : decide ((cc : Int) < cc) = false := decide_eq_false (by omega)
          have hO2 : OwnT v 2 (ints .i64 (T.take ((r + 1) * cc))) Lo := by rw [Nat.succ_mul]; exact hO
          have a4 := a4h.out
          go_wp2_with (first|((with_reducible refine at_load ?_);first|(refine wm_own (cs := ?_) (t := ?_) (v := ?_) K rfl _ _ rfl rfl ?_ ?_ ?_ ?_;rotate_left 2;(repeat (first|exact At.hd|refine At.tl ?_));rotate_left;(exact rfl);(with_reducible first|exact one3))))
          clear a4
          exact ⟨⟨r + 1, v, Lo, by omega, by go_num, hO2, K⟩, by simp [intOf]; omega⟩
    · obtain rfl : r = Q2 := by omega
      have ht : decide ((r : Int) < r) = false := decide_eq_false (by omega)
      rw [HPQ.out.1, show T.take m = T from List.take_of_length_le (by rw [HTL.out]; omega)] at hO
      have hlen : (ints .i64 T).length = m := by rw [ints_len]; exact HTL.out
      obtain ⟨A2, c2, rfl, hc1, hc2, hA, K2⟩ := hO.fix (L0 := [(r4, #[.int .i64 P2, .int .i64 r, .int .i64 X2, .int .i64 Y2, .int .i64 S2, v], 26), (r2, #[.int .i64 0, .int .i64 0, .int .i64 0, .int .i64 0, .int .i64 0, .slice none 0 0], 26), (r1, #[.int .i64 p, .int .i64 q, .int .i64 X, .int .i64 Y, .int .i64 S, .slice A n c], 26)]) K
      rw [hlen] at K2
      have HA := Lib.hid hA
      clear K hO hc1 hc2 hlen hA
      replace K := K2
      clear K2
      have a5 := a5h.out
      go_wp2_with (first|((with_reducible refine at_load ?_);first|(refine wm_load (cs := ?_) (t := ?_) (n := ?_) K rfl _ _ rfl rfl ?_ ?_ ?_ ?_;rotate_left 2;(repeat (exact At.hd));rotate_left;(with_reducible first|exact row26);(exact rfl))|(refine wm_own (cs := ?_) (t := ?_) (v := ?_) K rfl _ _ rfl rfl ?_ ?_ ?_ ?_;rotate_left 2;(repeat (first|exact At.hd|refine At.tl ?_));rotate_left;(exact rfl);(with_reducible first|exact one3)))|((with_reducible refine at_store ?_);(first|(refine wm_store (L' := ?_) (cs := ?_) (t := ?_) (n := ?_) K rfl _ _ _ rfl rfl rfl rfl ?_ ?_ ?_ ?_ ?_ ?_;rotate_left 3;(repeat (first|exact Put.hd|(refine Put.tl (L' := ?_) ?_;rotate_left)));rotate_left;(with_reducible first|exact row26);(exact rfl);(exact rfl);(simp [Ones, Value.oneCell'])));(try clear K);(try clear ww);intro ww K;(try simp [go_sem] at K)))
      clear a5
      refine bodyPost_ret (K.res2 rfl _ rfl (At.tl At.hd) (by (with_reducible first | exact row26)) (by (solve | exact rfl | simp)) rfl) rfl ?_
      exact ⟨A2, c2, rfl, ⟨by rw [HTE.out]; exact K.fact.1, HA.out⟩, K.below⟩
end Go.Proofs.Ytpejoaefnnbghaa
