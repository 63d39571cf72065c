/-
  Lemmas and walks of this claim (the texts Gr14 Gw14 Gx14 Gp14 Gt14 Gs14 of the work; what no proof here uses is left out). No claim of their own.
-/
import Derived.Test.YteancdipmpmjpaaMD26
import Derived.Test.YteancdipmpmjpaaMD5
import Derived.Test.YteancdipmpmjpaaMD8
set_option linter.all false
set_option linter.unusedSimpArgs false
set_option linter.unusedVariables false
namespace Go.Proofs.Yteancdipmpmjpaa
open Go.RowKit
attribute [local irreducible] wpHeld wpTree wpList
set_option linter.unusedVariables false
theorem splok_not {W H S : Int} (hs : splok W H S = false) : ∃ (u1 u2 u3 u4 : Bool), decide (32 < W) = u1 ∧ decide (32 < H) = u2 ∧ decide (S < 32) = u3 ∧ (S % 4 != 0) = u4 ∧ (u1 || u2 || u3 || u4) = true := by
  refine ⟨_, _, _, _, rfl, rfl, rfl, rfl, ?_⟩
  unfold splok at hs
  rw [Bool.eq_iff_iff] at hs ⊢
  simp only [Bool.and_eq_true, Bool.or_eq_true, decide_eq_true_eq, Bool.false_eq_true, iff_false, iff_true, bne_iff_ne, ne_eq] at hs ⊢
  omega
set_option maxRecDepth 100000 in
theorem GSplit14_bad (W H X Y S : Int) (A : Option Addr) (n c : Nat) (w : World) (hS : 0 ≤ S) (hW : 0 ≤ W ∧ W ≤ 1000000) (hH : 0 ≤ H ∧ H ≤ 1000000) (hs : splok W H S = false) :
    Calls Try.prog 49 #[.agg #[.int .i64 W, .int .i64 H, .int .i64 X, .int .i64 Y, .int .i64 S, .slice A n c]] w fun e w' => e = .returned (.tuple #[.agg #[.int .i64 W, .int .i64 H, .int .i64 X, .int .i64 Y, .int .i64 S, .slice A n c], .int .i64 12]) ∧ Below w.heap.size w w' := by
  have K := St.start w
  obtain ⟨u1, u2, u3, u4, d1, d2, d3, d4, hu⟩ := splok_not hs
  have hm : S.tmod 4 = S % 4 := Int.tmod_eq_emod_of_nonneg hS
  obtain ⟨v, hv⟩ : ∃ v, S % 4 = v := ⟨_, rfl⟩
  rw [hv] at hm d4
  obtain ⟨W2, hW2⟩ : ∃ W2, 2 * W = W2 := ⟨_, rfl⟩
  obtain ⟨H2, hH2⟩ : ∃ H2, 2 * H = H2 := ⟨_, rfl⟩
  have f1 : decide (64 < W2) = u1 := by rw [← d1, decide_eq_decide]; omega
  have f2 : decide (64 < H2) = u2 := by rw [← d2, decide_eq_decide]; omega
  have e1h : Hid (wrap64 (2 * W) = W2) := Lib.hid (w64e (by omega) (by omega) hW2)
  have e2h : Hid (wrap64 (2 * H) = H2) := Lib.hid (w64e (by omega) (by omega) hH2)
  clear hs hv hS hW hH hW2 hH2 d1 d2
  have e1 := e1h.out
  have e2 := e2h.out
  cases u1
  case' false => cases u2
  case' false.false => cases u3
  case' false.false.false => cases u4
  case false.false.false.false => cases hu
  all_goals
    clear hu
    go_enter Try.func49, Try.ntmps49
    go_wp2_with (first|go_big_skip|((with_reducible refine at_load ?_);first|(refine wm_load (cs := ?_) (t := ?_) (n := ?_) K rfl _ _ rfl rfl ?_ ?_ ?_ ?_;rotate_left 2;(repeat (first|exact At.hd|refine At.tl ?_));rotate_left;(with_reducible first|exact row47);(exact rfl))|(refine wm_own (cs := ?_) (t := ?_) (v := ?_) K rfl _ _ rfl rfl ?_ ?_ ?_ ?_;rotate_left 2;(repeat (first|exact At.hd|refine At.tl ?_));rotate_left;(exact rfl);(with_reducible first|exact one2|exact one3)))|((with_reducible refine at_store ?_);(first|(refine wm_store (L' := ?_) (cs := ?_) (t := ?_) (n := ?_) K rfl _ _ _ rfl rfl rfl rfl ?_ ?_ ?_ ?_ ?_ ?_;rotate_left 3;(repeat (exact Put.hd));rotate_left;(with_reducible first|exact row47);(exact rfl);(exact rfl);(simp [Ones, Value.oneCell'])));(try clear K);(try clear ww);intro ww K;(try simp [go_sem] at K))|((first|((with_reducible refine at_box ?_);refine wm_box K rfl _ _ rfl rfl rfl ?_)|((with_reducible refine at_alloc ?_);refine wm_alloc (v := ?_) (cs := ?_) K rfl _ rfl ?_ ?_ ?_;rotate_left;(with_reducible first|exact zero47);rotate_left;exact rfl));(try clear K);(try clear ww);(first|((fail_if_success (have _h := r1));intro r1 ww K)|((fail_if_success (have _h := r2));intro r2 ww K));(try simp [go_sem, Value.cells] at K)))
    clear e1 e2
    refine bodyPost_ret (K.res2 rfl _ rfl At.hd (by (with_reducible first | exact row47)) (by (solve | exact rfl | simp)) rfl) rfl ?_
    exact ⟨rfl, K.below⟩
end Go.Proofs.Yteancdipmpmjpaa
namespace Go.Proofs.Yteancdipmpmjpaa
open Go.RowKit
attribute [local irreducible] wpHeld wpTree wpList
set_option linter.unusedVariables false
theorem GAtX14 (x y d r : Int) (p gb : Nat) (w : World) (hgb : gb < w.heap.size) (hc0 : w.cell? ⟨gb, 0, none⟩ = some (.int .i64 p)) (hp : 1 ≤ p ∧ p ≤ 64) (hx : 0 ≤ x ∧ x ≤ 64) (hy : 0 ≤ y ∧ y ≤ 64) (hd : -1 ≤ d ∧ d ≤ 1) (hr : y * p + clI (x + d) p = r) :
    Calls Try.prog 87 #[.int .i64 x, .int .i64 y, .int .i64 d, .pointer (some ⟨gb, 0, none⟩)] w fun e w' => e = .returned (.int .i64 r) ∧ Below w.heap.size w w' := by
  have K := St.start w
  obtain ⟨xd, hxd⟩ : ∃ xd, x + d = xd := ⟨_, rfl⟩
  rw [hxd] at hr
  have CL := Lib.hid (fun w => clamp14 xd p w (by omega))
  have hcl : 0 ≤ clI xd p ∧ clI xd p ≤ 64 := by unfold clI; omega
  generalize clI xd p = cl at *
  have hR0 := Int.mul_nonneg hy.1 (show 0 ≤ (p : Int) by omega)
  have hR1 := Int.mul_le_mul hy.2 (show (p : Int) ≤ 64 by omega) (by omega) (by omega)
  obtain ⟨R, hR⟩ : ∃ R, y * (p : Int) = R := ⟨_, rfl⟩
  rw [hR] at hr hR0 hR1
  have e1h : Hid (IntKind.i64.wrap (y * (p : Int)) = R) := Lib.hid ((IntWalk.i64_in _ (by omega)).trans hR)
  have e2h : Hid (IntKind.i64.wrap (x + d) = xd) := Lib.hid ((IntWalk.i64_in _ (by omega)).trans hxd)
  have e3h : Hid (IntKind.i64.wrap (R + cl) = r) := Lib.hid ((IntWalk.i64_in _ (by omega)).trans hr)
  clear hr hR hR0 hR1 hxd hcl hd hx hy hp
  have e1 := e1h.out
  have e2 := e2h.out
  have e3 := e3h.out
  go_enter Try.func87, Try.ntmps87
  go_wp2_with fail
  refine wm_held _ [(true, 0), (true, 1), (true, 2), (true, 3), (true, 4), (true, 5), (true, 6), (true, 7), (true, 8), (false, 9), (true, 10), (true, 11)] K sbz (by kernel_rfl) (by kernel_rfl) ?_; (try clear K); (try clear ww); intro ww K; (try simp [go_sem] at K); simp only [pick, List.getElem?_toArray, List.getElem?_cons_succ, List.getElem?_cons_zero]
  repeat (first|((with_reducible refine ht_load ?_);first|(refine hm_cell (v := ?_) rfl _ _ rfl rfl (fun ww K => ?_) ?_ ?_;rotate_left;(first|exact (K.below.cell (by assumption)).trans (by assumption));(with_reducible first|exact one3)))|(refine held_take (fun K' hK' => ?_);go_simp;first|(apply Exists.intro;refine ⟨?_, hK' _ ?_⟩;(intro _ _;rfl);clear hK' K'))|(refine held_do (fun K' hK' => ?_);go_simp;go_at_call 88;(with_reducible refine (CL.out _).mono ?_);rintro e w2 ⟨rfl, k1⟩;replace K := K.step (by first|exact below_of_eq k1);clear k1;(try clear ww);revert w2;intro ww K;(try dsimp only);refine hK' _ _ (by apply via sbz;first|exact K) ?_;clear hK' K'))
  refine held_nil ?_
  go_wp2_with fail
  go_ret
  exact ⟨rfl, K.below⟩
theorem GAtY14 (x y d r : Int) (p q gb : Nat) (w : World) (hgb : gb < w.heap.size) (hc0 : w.cell? ⟨gb, 0, none⟩ = some (.int .i64 p)) (hc1 : w.cell? ⟨gb, 1, none⟩ = some (.int .i64 q)) (hp : 1 ≤ p ∧ p ≤ 64) (hq : 1 ≤ q ∧ q ≤ 64) (hx : 0 ≤ x ∧ x ≤ 64) (hy : 0 ≤ y ∧ y ≤ 64) (hd : -1 ≤ d ∧ d ≤ 1) (hr : clI (y + d) q * p + x = r) :
    Calls Try.prog 89 #[.int .i64 x, .int .i64 y, .int .i64 d, .pointer (some ⟨gb, 0, none⟩)] w fun e w' => e = .returned (.int .i64 r) ∧ Below w.heap.size w w' := by
  have K := St.start w
  obtain ⟨yd, hyd⟩ : ∃ yd, y + d = yd := ⟨_, rfl⟩
  rw [hyd] at hr
  have CL := Lib.hid (fun w => clamp14 yd q w (by omega))
  have hcl : 0 ≤ clI yd q ∧ clI yd q ≤ 64 := by unfold clI; omega
  generalize clI yd q = cl at *
  have hR0 := Int.mul_nonneg hcl.1 (show 0 ≤ (p : Int) by omega)
  have hR1 := Int.mul_le_mul hcl.2 (show (p : Int) ≤ 64 by omega) (by omega) (by omega)
  obtain ⟨R, hR⟩ : ∃ R, cl * (p : Int) = R := ⟨_, rfl⟩
  rw [hR] at hr hR0 hR1
  have e1h : Hid (IntKind.i64.wrap (cl * (p : Int)) = R) := Lib.hid ((IntWalk.i64_in _ (by omega)).trans hR)
  have e2h : Hid (IntKind.i64.wrap (y + d) = yd) := Lib.hid ((IntWalk.i64_in _ (by omega)).trans hyd)
  have e3h : Hid (IntKind.i64.wrap (R + x) = r) := Lib.hid ((IntWalk.i64_in _ (by omega)).trans hr)
  clear hr hR hR0 hR1 hyd hcl hd hx hy hp hq
  have e1 := e1h.out
  have e2 := e2h.out
  have e3 := e3h.out
  go_enter Try.func89, Try.ntmps89
  go_wp2_with fail
  refine wm_held _ [(true, 0), (true, 1), (true, 2), (true, 3), (true, 4), (true, 6), (true, 7), (true, 9), (false, 5), (true, 8), (true, 10), (true, 11)] K sbz (by kernel_rfl) (by kernel_rfl) ?_; (try clear K); (try clear ww); intro ww K; (try simp [go_sem] at K); simp only [pick, List.getElem?_toArray, List.getElem?_cons_succ, List.getElem?_cons_zero]
  repeat (first|((with_reducible refine ht_load ?_);first|(refine hm_cell (v := ?_) rfl _ _ rfl rfl (fun ww K => ?_) ?_ ?_;rotate_left;(first|exact (K.below.cell (by assumption)).trans (by assumption));(with_reducible first|exact one3)))|(refine held_take (fun K' hK' => ?_);go_simp;first|(apply Exists.intro;refine ⟨?_, hK' _ ?_⟩;(intro _ _;rfl);clear hK' K'))|(refine held_do (fun K' hK' => ?_);go_simp;go_at_call 88;(with_reducible refine (CL.out _).mono ?_);rintro e w2 ⟨rfl, k1⟩;replace K := K.step (by first|exact below_of_eq k1);clear k1;(try clear ww);revert w2;intro ww K;(try dsimp only);refine hK' _ _ (by apply via sbz;first|exact K) ?_;clear hK' K'))
  refine held_nil ?_
  go_wp2_with fail
  go_ret
  exact ⟨rfl, K.below⟩
theorem clD {i n : Nat} (h2 : i < n) : clI ((i : Int) + -1) n = ((i - 1 : Nat) : Int) := by unfold clI; omega
theorem clZ {i n : Nat} (h2 : i < n) : clI ((i : Int) + 0) n = (i : Int) := by unfold clI; omega
theorem clU {i n : Nat} (h2 : i < n) : clI ((i : Int) + 1) n = ((min (i + 1) (n - 1) : Nat) : Int) := by unfold clI; omega
theorem row_ix {p q r e : Nat} (he : e < p) (hr : r < q) : (r : Int) * p + clI ((e : Int) + -1) p = (rowA p (r * p + e) : Int) ∧ (r : Int) * p + clI ((e : Int) + 0) p = ((r * p + e : Nat) : Int) ∧ (r : Int) * p + clI ((e : Int) + 1) p = (rowB p (r * p + e) : Int) := by
  rw [clD he, clZ he, clU he]
  unfold rowA rowB
  rw [(div_at he).1, (div_at he).2]
  push_cast
  exact ⟨rfl, rfl, rfl⟩
theorem col_ix {p q r e : Nat} (he : e < p) (hr : r < q) : clI ((r : Int) + -1) q * p + e = (colA p (r * p + e) : Int) ∧ clI ((r : Int) + 0) q * p + e = ((r * p + e : Nat) : Int) ∧ clI ((r : Int) + 1) q * p + e = (colB p q (r * p + e) : Int) := by
  rw [clD hr, clZ hr, clU hr]
  unfold colA colB
  rw [(div_at he).1, (div_at he).2]
  push_cast
  exact ⟨rfl, rfl, rfl⟩
set_option maxRecDepth 100000 in
set_option maxHeartbeats 4000000 in
theorem GPassX14 (qq : Int) (p q gb qb : Nat) (A : Option Addr) (n c : Nat) (zs : List Int) (w : World) (h : Rd w A n (ints .i64 zs)) (hb : ∀ z ∈ zs, 0 ≤ z ∧ z ≤ 1073741824) (hn : q * p = n) (hp : 1 ≤ p ∧ p ≤ 64) (hq : 1 ≤ q ∧ q ≤ 64) (hqq : 0 ≤ qq ∧ qq ≤ 85)
    (hgb : gb < w.heap.size) (hqb : qb < w.heap.size) (hc0 : w.cell? ⟨gb, 0, none⟩ = some (.int .i64 p)) (hc1 : w.cell? ⟨gb, 1, none⟩ = some (.int .i64 q)) (hcq : w.cell? ⟨qb, 0, none⟩ = some (.int .i64 qq)) :
    Calls Try.prog 86 #[.slice A n c, .func (.func 87) #[] #[.pointer (some ⟨gb, 0, none⟩)], .pointer (some ⟨gb, 0, none⟩), .pointer (some ⟨qb, 0, none⟩)] w fun e w' => ∃ A2 c2, e = .returned (.slice A2 n c2) ∧ (Rd w' A2 n (ints .i64 (spr14 n qq (rowA p) (rowB p) zs)) ∧ Nw w.heap.size A2) ∧ Below w.heap.size w w' := by
    have K := St.start w
    have hl : zs.length = n := by rw [← h.1, ints_len]
    have hn4 : n ≤ 4096 := by
      have := Nat.mul_le_mul hq.2 hp.2
      omega
    have m1' : 8 * n ≤ 281474976710656 := by omega
    have m2' : n ≤ 4611686018427387904 := by omega
    have HR := Lib.hid h
    have HL := Lib.hid hl
    have HZ := Lib.hid hb
    have HN := Lib.hid (And.intro hn (And.intro hp (And.intro hq (And.intro hqq hn4))))
    have hp64 : p ≤ 64 := hp.2
    have hq64 : q ≤ 64 := hq.2
    have AT := Lib.hid (fun (x y d r : Int) (hx : 0 ≤ x ∧ x ≤ 64) (hy : 0 ≤ y ∧ y ≤ 64) (hd : -1 ≤ d ∧ d ≤ 1) (w' : World) (hbel : Below w.heap.size w w') => fun hr => GAtX14 x y d r p gb w' (Nat.lt_of_lt_of_le hgb hbel.size) ((hbel.cell hgb).trans hc0) hp hx hy hd hr)
    obtain ⟨T, hT⟩ : ∃ T, spr14 n qq (rowA p) (rowB p) zs = T := ⟨_, rfl⟩
    have HTE := Lib.hid hT
    have HTL : Hid (T.length = n) := Lib.hid (by rw [← hT]; exact spr_len _ _ _ _ _)
    have HTG : Hid (∀ k, k < n → T.getD k 0 = sprv qq (rowA p) (rowB p) zs k) := Lib.hid (fun k hk => by rw [← hT]; exact gen_get _ hk)
    clear hT
    obtain ⟨Z, hZ⟩ : ∃ Z : List Int, List.replicate n 0 = Z := ⟨_, rfl⟩
    have HZL : Hid (Z.length = n) := Lib.hid (by rw [← hZ]; simp)
    have HZE := Lib.hid hZ
    clear h hl hb hn hp hq hqq hZ hn4
    go_enter Try.func86, Try.ntmps86
    go_wp2_with (first|((with_reducible refine at_makeSl ?_);refine wm_make K rfl _ _ _ rfl Try.underlying45 num2 n rfl rfl (by omega) (by omega) (by omega) (by omega) ?_;(try clear K);(try clear ww);intro g ww K)|((with_reducible refine at_load ?_);first|(refine wm_cell (v := ?_) rfl _ _ rfl rfl ?_ ?_ ?_;rotate_left;(first|exact (K.below.cell (by assumption)).trans (by assumption));(with_reducible first|exact one3))))
    have HZ0 : Hid (((nums .i64 (List.replicate n 0)).toArray : Array Value).size = n ∧ ((nums .i64 (List.replicate n 0)).toArray : Array Value).toList.take n = ints .i64 (T.take (0 * p) ++ Z.drop (0 * p))) := Lib.hid (by
      rw [Nat.zero_mul, List.take_zero, List.drop_zero, List.nil_append, ← HZE.out]; exact zeros_at n)
    generalize (nums .i64 (List.replicate n 0)).toArray = cur0 at *
    go_loopw [16] (fun i wr => ∃ (r : Nat) (cur : Array Value), r ≤ q ∧ i = .int .i64 r ∧ Hid (cur.size = n ∧ cur.toList.take n = ints .i64 (T.take (r * p) ++ Z.drop (r * p))) ∧ St w.heap.size w [(g, cur, 2)] Any wr) (fun i _ => q - (intOf i).toNat)
    case atStart => exact ⟨0, cur0, Nat.zero_le _, rfl, HZ0, K⟩
    case round =>
      clear K HZ0
      obtain ⟨r, cur, hr, rfl, HU, K⟩ := hrel
      by_cases hrq : r < q
      · have ht : decide ((r : Int) < q) = true := decide_eq_true (by omega)
        go_wp2_with (first|((with_reducible refine at_load ?_);first|(refine wm_cell (v := ?_) rfl _ _ rfl rfl ?_ ?_ ?_;rotate_left;(first|exact (K.below.cell (by assumption)).trans (by assumption));(with_reducible first|exact one3))))
        go_loopw [21] (fun i wr => ∃ (e : Nat) (cur : Array Value), e ≤ p ∧ i = .int .i64 e ∧ Hid (cur.size = n ∧ cur.toList.take n = ints .i64 (T.take (r * p + e) ++ Z.drop (r * p + e))) ∧ St w.heap.size w [(g, cur, 2)] Any wr) (fun i _ => p - (intOf i).toNat)
        case atStart => exact ⟨0, cur, Nat.zero_le _, rfl, HU, K⟩
        case round =>
          clear K HU
          obtain ⟨e, cur, he, rfl, HU, K⟩ := hrel
          by_cases hep : e < p
          · have ht2 : decide ((e : Int) < p) = true := decide_eq_true (by omega)
            obtain ⟨hn, hp, hq, hqq, hn4⟩ := HN.out
            obtain ⟨i1, i2, i3⟩ := row_ix (p := p) (q := q) hep hrq
            have hkn : r * p + e < n := by
              have h1 := Nat.mul_le_mul_right p (show r + 1 ≤ q by omega)
              rw [Nat.succ_mul, hn] at h1; omega
            obtain ⟨l1, l2, l3, l4⟩ := near_lt (W := p) (H := q) (k := r * p + e) (by omega) (by omega) (by omega)
            rw [hn] at l1 l2 l3 l4
            have hl1 : rowA p (r * p + e) < n := by first | exact l1 | exact l3
            have hl2 : rowB p (r * p + e) < n := by first | exact l2 | exact l4
            have A1 := Lib.hid (fun (w' : World) (hb : Below w.heap.size w w') => AT.out (e : Int) (r : Int) (-1) _ (by omega) (by omega) (by omega) w' hb i1)
            have A2 := Lib.hid (fun (w' : World) (hb : Below w.heap.size w w') => AT.out (e : Int) (r : Int) 0 _ (by omega) (by omega) (by omega) w' hb i2)
            have A3 := Lib.hid (fun (w' : World) (hb : Below w.heap.size w w') => AT.out (e : Int) (r : Int) 1 _ (by omega) (by omega) (by omega) w' hb i3)
            clear i1 i2 i3 l1 l2 l3 l4
            have hE := HTG.out _ hkn
            unfold sprv sprn at hE
            dsimp only at hE
            have gg := getD_all (P := fun z => 0 ≤ z ∧ z ≤ 1073741824) (by omega) HZ.out
            obtain ⟨jl, hjl⟩ : ∃ j, rowA p (r * p + e) = j := ⟨_, rfl⟩
            obtain ⟨jr, hjr⟩ : ∃ j, rowB p (r * p + e) = j := ⟨_, rfl⟩
            rw [hjl] at hl1 hE A1
            rw [hjr] at hl2 hE A3
            clear hjl hjr
            obtain ⟨R, hR⟩ : ∃ R, r * p = R := ⟨_, rfl⟩
            obtain ⟨k, hk⟩ : ∃ k, R + e = k := ⟨_, rfl⟩
            rw [hR, hk] at hkn hE A2
            have HK : Hid (r * p + e = k ∧ r * p + (e + 1) = k + 1) := Lib.hid (by rw [hR]; omega)
            have HU2 : Hid (cur.size = n ∧ cur.toList.take n = ints .i64 (T.take k ++ Z.drop k)) := Lib.hid (by have := HU.out; rw [HK.out.1] at this; exact this)
            have hbd := sprn_bd hqq (gg jl) (gg k) (gg jr)
            obtain ⟨b0, off, rfl, hbb, hc⟩ := HR.out.get hkn
            have hv0 := hc k _ (ints_get .i64 zs k (by rw [HL.out]; exact hkn))
            have hv1 := hc jl _ (ints_get .i64 zs jl (by rw [HL.out]; exact hl1))
            have hv2 := hc jr _ (ints_get .i64 zs jr (by rw [HL.out]; exact hl2))
            generalize zs.getD jl 0 = z1 at *
            generalize zs.getD jr 0 = z2 at *
            generalize zs.getD k 0 = z0 at *
            obtain ⟨t2, ht2'⟩ : ∃ t2, 2 * qq = t2 := ⟨_, rfl⟩
            rw [ht2'] at hbd hE
            obtain ⟨t3, ht3⟩ : ∃ t3, 256 - t2 = t3 := ⟨_, rfl⟩
            rw [ht3] at hbd hE
            obtain ⟨m1, hm1⟩ : ∃ m1, qq * z1 = m1 := ⟨_, rfl⟩
            obtain ⟨m2, hm2⟩ : ∃ m2, t3 * z0 = m2 := ⟨_, rfl⟩
            obtain ⟨m3, hm3⟩ : ∃ m3, qq * z2 = m3 := ⟨_, rfl⟩
            rw [hm1, hm2, hm3] at hbd hE
            obtain ⟨s1, hs1⟩ : ∃ s1, m1 + m2 = s1 := ⟨_, rfl⟩
            rw [hs1] at hbd hE
            obtain ⟨s2, hs2⟩ : ∃ s2, s1 + m3 = s2 := ⟨_, rfl⟩
            rw [hs2] at hbd hE
            obtain ⟨v, hv⟩ : ∃ v, s2 / 256 = v := ⟨_, rfl⟩
            rw [hv] at hbd hE
            have hnew := mix_set HTL.out HZL.out hkn
            rw [hE] at hnew
            have hput := row_put (i := k) (x := v) HU2.out.2
            rw [hnew] at hput
            have HN2 : Hid ((cur.setIfInBounds k (.int .i64 v)).size = n ∧ (cur.setIfInBounds k (.int .i64 v)).toList.take n = ints .i64 (T.take (r * p + (e + 1)) ++ Z.drop (r * p + (e + 1)))) := Lib.hid (by rw [HK.out.2]; exact ⟨by rw [Array.size_setIfInBounds]; exact HU2.out.1, hput⟩)
            have hink : k < cur.size := by rw [HU2.out.1]; exact hkn
            have f5h : Hid (IntKind.i64.wrap (2 * qq) = t2) := Lib.hid ((IntWalk.i64_in _ (by omega)).trans ht2')
            have f6h : Hid (IntKind.i64.wrap (256 - t2) = t3) := Lib.hid ((IntWalk.i64_in _ (by omega)).trans ht3)
            have f7h : Hid (IntKind.i64.wrap (qq * z1) = m1) := Lib.hid ((IntWalk.i64_in _ (by omega)).trans hm1)
            have f8h : Hid (IntKind.i64.wrap (t3 * z0) = m2) := Lib.hid ((IntWalk.i64_in _ (by omega)).trans hm2)
            have f9h : Hid (IntKind.i64.wrap (qq * z2) = m3) := Lib.hid ((IntWalk.i64_in _ (by omega)).trans hm3)
            have f10h : Hid (IntKind.i64.wrap (m1 + m2) = s1) := Lib.hid ((IntWalk.i64_in _ (by omega)).trans hs1)
            have f11h : Hid (IntKind.i64.wrap (s1 + m3) = s2) := Lib.hid ((IntWalk.i64_in _ (by omega)).trans hs2)
            have f12h : Hid (s2.tdiv 256 = v) := Lib.hid (by rw [Int.tdiv_eq_ediv_of_nonneg (by omega)]; exact hv)
            have f13h : Hid (wrap64 v = v) := Lib.hid (w64 (by omega) (by omega))
            have s1h : Hid (wrap64 ((r : Int) * (p : Int)) = (R : Int)) := Lib.hid (by rw [← Int.natCast_mul, hR]; exact w64 (by omega) (by omega))
            have s2h : Hid (wrap64 ((R : Int) + (e : Int)) = (k : Int)) := Lib.hid (w64e (by omega) (by omega) (by omega))
            clear hn hp hq hqq hn4 gg hbd hE hc ht2' ht3 hm1 hm2 hm3 hs1 hs2 hv hnew hput hR hk
            have f5 := f5h.out
            have f6 := f6h.out
            have f7 := f7h.out
            have f8 := f8h.out
            have f9 := f9h.out
            have f10 := f10h.out
            have f11 := f11h.out
            go_wp2_with (fail)
            refine wm_held _ [(true, 0), (true, 1), (true, 2), (true, 3), (true, 4), (true, 9), (true, 10), (true, 11), (true, 12), (true, 13), (true, 14), (true, 15), (true, 21), (true, 22), (true, 23), (true, 24), (true, 25), (false, 5), (true, 6), (true, 7), (true, 8), (false, 16), (true, 17), (true, 18), (true, 19), (true, 20), (false, 26), (true, 27), (true, 28), (true, 29), (true, 30), (true, 31)] K sbr (by kernel_rfl) (by kernel_rfl) ?_; (try clear K); (try clear ww); intro ww K; (try simp [go_sem] at K); simp only [pick, List.getElem?_toArray, List.getElem?_cons_succ, List.getElem?_cons_zero]
            repeat (first|((with_reducible refine ht_load ?_);first|(refine hm_cell (v := ?_) rfl _ _ rfl rfl (fun ww K => ?_) ?_ ?_;rotate_left;(first|exact (K.below.cell (by assumption)).trans (by assumption));(with_reducible first|exact one2)))|(refine held_take (fun K' hK' => ?_);go_simp;first|(apply Exists.intro;refine ⟨?_, hK' _ ?_⟩;(intro _ _;rfl);clear hK' K'))|(refine held_do (fun K' hK' => ?_);go_simp;go_at_call 87;(with_reducible refine (A1.out _ K.below).mono ?_);rintro e w2 ⟨rfl, k1⟩;replace K := K.step k1;clear k1;(try clear ww);revert w2;intro ww K;(try dsimp only);refine hK' _ _ (by apply via sbr;first|exact K) ?_;clear hK' K')|(refine held_do (fun K' hK' => ?_);go_simp;go_at_call 87;(with_reducible refine (A2.out _ K.below).mono ?_);rintro e w2 ⟨rfl, k1⟩;replace K := K.step k1;clear k1;(try clear ww);revert w2;intro ww K;(try dsimp only);refine hK' _ _ (by apply via sbr;first|exact K) ?_;clear hK' K')|(refine held_do (fun K' hK' => ?_);go_simp;go_at_call 87;(with_reducible refine (A3.out _ K.below).mono ?_);rintro e w2 ⟨rfl, k1⟩;replace K := K.step k1;clear k1;(try clear ww);revert w2;intro ww K;(try dsimp only);refine hK' _ _ (by apply via sbr;first|exact K) ?_;clear hK' K'))
            refine held_nil ?_
            clear f5 f6 f7 f8 f9 f10 f11
            have f12 := f12h.out
            have f13 := f13h.out
            have s1' := s1h.out
            have s2' := s2h.out
            go_wp2_with (first|((with_reducible refine at_load ?_);first|(refine wm_cell (v := ?_) rfl _ _ rfl rfl ?_ ?_ ?_;rotate_left;(first|exact (K.below.cell (by assumption)).trans (by assumption));(with_reducible first|exact one3)))|((with_reducible refine at_store ?_);first|(refine wm_put (L' := ?_) (cs := ?_) (new := ?_) (t := ?_) K rfl _ _ _ rfl rfl rfl rfl ?_ ?_ ?_ ?_ rfl rfl ?_;rotate_left 4;(repeat (exact Put.hd));(omega);(exact rfl);(with_reducible first|exact one2);(try clear K);(try clear ww);intro ww K;(try simp [go_sem] at K))))
            rw [f13] at K
            clear f12 f13 s1' s2'
            exact ⟨⟨e + 1, _, by omega, by go_num, HN2, K⟩, by simp [intOf]; omega⟩
          · obtain rfl : e = p := by omega
            have ht2 : decide ((e : Int) < e) = false := decide_eq_false (by omega)
            have HU2 : Hid (cur.size = n ∧ cur.toList.take n = ints .i64 (T.take ((r + 1) * e) ++ Z.drop ((r + 1) * e))) := Lib.hid (by rw [Nat.succ_mul]; exact HU.out)
            go_wp2_with fail
            exact ⟨⟨r + 1, cur, by omega, by go_num, HU2, K⟩, by simp [intOf]; omega⟩
      · obtain rfl : r = q := by omega
        have ht : decide ((r : Int) < r) = false := decide_eq_false (by omega)
        have hlast : cur.toList.take n = ints .i64 T := by
          have h1 := HU.out.2
          rw [show r * p = n from HN.out.1, show T.take n = T from List.take_of_length_le (by rw [HTL.out]; omega), show Z.drop n = [] from List.drop_of_length_le (by rw [HZL.out]; omega), List.append_nil] at h1
          exact h1
        have HX := Lib.hid (And.intro hlast (show n ≤ cur.size by rw [HU.out.1]; exact Nat.le_refl _))
        clear hlast
        go_wp2_with (fail)
        go_ret
        exact ⟨some ⟨g, 0, none⟩, n, rfl, ⟨by rw [HTE.out]; exact (sl_take (K.get .hd) HX.out.1 HX.out.2).rd, Nw.mk _ _ _ (K.ge .hd)⟩, K.below⟩
set_option maxRecDepth 100000 in
set_option maxHeartbeats 4000000 in
theorem GPassY14 (qq : Int) (p q gb qb : Nat) (A : Option Addr) (n c : Nat) (zs : List Int) (w : World) (h : Rd w A n (ints .i64 zs)) (hb : ∀ z ∈ zs, 0 ≤ z ∧ z ≤ 1073741824) (hn : q * p = n) (hp : 1 ≤ p ∧ p ≤ 64) (hq : 1 ≤ q ∧ q ≤ 64) (hqq : 0 ≤ qq ∧ qq ≤ 85)
    (hgb : gb < w.heap.size) (hqb : qb < w.heap.size) (hc0 : w.cell? ⟨gb, 0, none⟩ = some (.int .i64 p)) (hc1 : w.cell? ⟨gb, 1, none⟩ = some (.int .i64 q)) (hcq : w.cell? ⟨qb, 0, none⟩ = some (.int .i64 qq)) :
    Calls Try.prog 86 #[.slice A n c, .func (.func 89) #[] #[.pointer (some ⟨gb, 0, none⟩)], .pointer (some ⟨gb, 0, none⟩), .pointer (some ⟨qb, 0, none⟩)] w fun e w' => ∃ A2 c2, e = .returned (.slice A2 n c2) ∧ (Rd w' A2 n (ints .i64 (spr14 n qq (colA p) (colB p q) zs)) ∧ Nw w.heap.size A2) ∧ Below w.heap.size w w' := by
    have K := St.start w
    have hl : zs.length = n := by rw [← h.1, ints_len]
    have hn4 : n ≤ 4096 := by
      have := Nat.mul_le_mul hq.2 hp.2
      omega
    have m1' : 8 * n ≤ 281474976710656 := by omega
    have m2' : n ≤ 4611686018427387904 := by omega
    have HR := Lib.hid h
    have HL := Lib.hid hl
    have HZ := Lib.hid hb
    have HN := Lib.hid (And.intro hn (And.intro hp (And.intro hq (And.intro hqq hn4))))
    have hp64 : p ≤ 64 := hp.2
    have hq64 : q ≤ 64 := hq.2
    have AT := Lib.hid (fun (x y d r : Int) (hx : 0 ≤ x ∧ x ≤ 64) (hy : 0 ≤ y ∧ y ≤ 64) (hd : -1 ≤ d ∧ d ≤ 1) (w' : World) (hbel : Below w.heap.size w w') => fun hr => GAtY14 x y d r p q gb w' (Nat.lt_of_lt_of_le hgb hbel.size) ((hbel.cell hgb).trans hc0) ((hbel.cell hgb).trans hc1) hp hq hx hy hd hr)
    obtain ⟨T, hT⟩ : ∃ T, spr14 n qq (colA p) (colB p q) zs = T := ⟨_, rfl⟩
    have HTE := Lib.hid hT
    have HTL : Hid (T.length = n) := Lib.hid (by rw [← hT]; exact spr_len _ _ _ _ _)
    have HTG : Hid (∀ k, k < n → T.getD k 0 = sprv qq (colA p) (colB p q) zs k) := Lib.hid (fun k hk => by rw [← hT]; exact gen_get _ hk)
    clear hT
    obtain ⟨Z, hZ⟩ : ∃ Z : List Int, List.replicate n 0 = Z := ⟨_, rfl⟩
    have HZL : Hid (Z.length = n) := Lib.hid (by rw [← hZ]; simp)
    have HZE := Lib.hid hZ
    clear h hl hb hn hp hq hqq hZ hn4
    go_enter Try.func86, Try.ntmps86
    go_wp2_with (first|((with_reducible refine at_makeSl ?_);refine wm_make K rfl _ _ _ rfl Try.underlying45 num2 n rfl rfl (by omega) (by omega) (by omega) (by omega) ?_;(try clear K);(try clear ww);intro g ww K)|((with_reducible refine at_load ?_);first|(refine wm_cell (v := ?_) rfl _ _ rfl rfl ?_ ?_ ?_;rotate_left;(first|exact (K.below.cell (by assumption)).trans (by assumption));(with_reducible first|exact one3))))
    have HZ0 : Hid (((nums .i64 (List.replicate n 0)).toArray : Array Value).size = n ∧ ((nums .i64 (List.replicate n 0)).toArray : Array Value).toList.take n = ints .i64 (T.take (0 * p) ++ Z.drop (0 * p))) := Lib.hid (by
      rw [Nat.zero_mul, List.take_zero, List.drop_zero, List.nil_append, ← HZE.out]; exact zeros_at n)
    generalize (nums .i64 (List.replicate n 0)).toArray = cur0 at *
    go_loopw [16] (fun i wr => ∃ (r : Nat) (cur : Array Value), r ≤ q ∧ i = .int .i64 r ∧ Hid (cur.size = n ∧ cur.toList.take n = ints .i64 (T.take (r * p) ++ Z.drop (r * p))) ∧ St w.heap.size w [(g, cur, 2)] Any wr) (fun i _ => q - (intOf i).toNat)
    case atStart => exact ⟨0, cur0, Nat.zero_le _, rfl, HZ0, K⟩
    case round =>
      clear K HZ0
      obtain ⟨r, cur, hr, rfl, HU, K⟩ := hrel
      by_cases hrq : r < q
      · have ht : decide ((r : Int) < q) = true := decide_eq_true (by omega)
        go_wp2_with (first|((with_reducible refine at_load ?_);first|(refine wm_cell (v := ?_) rfl _ _ rfl rfl ?_ ?_ ?_;rotate_left;(first|exact (K.below.cell (by assumption)).trans (by assumption));(with_reducible first|exact one3))))
        go_loopw [21] (fun i wr => ∃ (e : Nat) (cur : Array Value), e ≤ p ∧ i = .int .i64 e ∧ Hid (cur.size = n ∧ cur.toList.take n = ints .i64 (T.take (r * p + e) ++ Z.drop (r * p + e))) ∧ St w.heap.size w [(g, cur, 2)] Any wr) (fun i _ => p - (intOf i).toNat)
        case atStart => exact ⟨0, cur, Nat.zero_le _, rfl, HU, K⟩
        case round =>
          clear K HU
          obtain ⟨e, cur, he, rfl, HU, K⟩ := hrel
          by_cases hep : e < p
          · have ht2 : decide ((e : Int) < p) = true := decide_eq_true (by omega)
            obtain ⟨hn, hp, hq, hqq, hn4⟩ := HN.out
            obtain ⟨i1, i2, i3⟩ := col_ix (p := p) (q := q) hep hrq
            have hkn : r * p + e < n := by
              have h1 := Nat.mul_le_mul_right p (show r + 1 ≤ q by omega)
              rw [Nat.succ_mul, hn] at h1; omega
            obtain ⟨l1, l2, l3, l4⟩ := near_lt (W := p) (H := q) (k := r * p + e) (by omega) (by omega) (by omega)
            rw [hn] at l1 l2 l3 l4
            have hl1 : colA p (r * p + e) < n := by first | exact l1 | exact l3
            have hl2 : colB p q (r * p + e) < n := by first | exact l2 | exact l4
            have A1 := Lib.hid (fun (w' : World) (hb : Below w.heap.size w w') => AT.out (e : Int) (r : Int) (-1) _ (by omega) (by omega) (by omega) w' hb i1)
            have A2 := Lib.hid (fun (w' : World) (hb : Below w.heap.size w w') => AT.out (e : Int) (r : Int) 0 _ (by omega) (by omega) (by omega) w' hb i2)
            have A3 := Lib.hid (fun (w' : World) (hb : Below w.heap.size w w') => AT.out (e : Int) (r : Int) 1 _ (by omega) (by omega) (by omega) w' hb i3)
            clear i1 i2 i3 l1 l2 l3 l4
            have hE := HTG.out _ hkn
            unfold sprv sprn at hE
            dsimp only at hE
            have gg := getD_all (P := fun z => 0 ≤ z ∧ z ≤ 1073741824) (by omega) HZ.out
            obtain ⟨jl, hjl⟩ : ∃ j, colA p (r * p + e) = j := ⟨_, rfl⟩
            obtain ⟨jr, hjr⟩ : ∃ j, colB p q (r * p + e) = j := ⟨_, rfl⟩
            rw [hjl] at hl1 hE A1
            rw [hjr] at hl2 hE A3
            clear hjl hjr
            obtain ⟨R, hR⟩ : ∃ R, r * p = R := ⟨_, rfl⟩
            obtain ⟨k, hk⟩ : ∃ k, R + e = k := ⟨_, rfl⟩
            rw [hR, hk] at hkn hE A2
            have HK : Hid (r * p + e = k ∧ r * p + (e + 1) = k + 1) := Lib.hid (by rw [hR]; omega)
            have HU2 : Hid (cur.size = n ∧ cur.toList.take n = ints .i64 (T.take k ++ Z.drop k)) := Lib.hid (by have := HU.out; rw [HK.out.1] at this; exact this)
            have hbd := sprn_bd hqq (gg jl) (gg k) (gg jr)
            obtain ⟨b0, off, rfl, hbb, hc⟩ := HR.out.get hkn
            have hv0 := hc k _ (ints_get .i64 zs k (by rw [HL.out]; exact hkn))
            have hv1 := hc jl _ (ints_get .i64 zs jl (by rw [HL.out]; exact hl1))
            have hv2 := hc jr _ (ints_get .i64 zs jr (by rw [HL.out]; exact hl2))
            generalize zs.getD jl 0 = z1 at *
            generalize zs.getD jr 0 = z2 at *
            generalize zs.getD k 0 = z0 at *
            obtain ⟨t2, ht2'⟩ : ∃ t2, 2 * qq = t2 := ⟨_, rfl⟩
            rw [ht2'] at hbd hE
            obtain ⟨t3, ht3⟩ : ∃ t3, 256 - t2 = t3 := ⟨_, rfl⟩
            rw [ht3] at hbd hE
            obtain ⟨m1, hm1⟩ : ∃ m1, qq * z1 = m1 := ⟨_, rfl⟩
            obtain ⟨m2, hm2⟩ : ∃ m2, t3 * z0 = m2 := ⟨_, rfl⟩
            obtain ⟨m3, hm3⟩ : ∃ m3, qq * z2 = m3 := ⟨_, rfl⟩
            rw [hm1, hm2, hm3] at hbd hE
            obtain ⟨s1, hs1⟩ : ∃ s1, m1 + m2 = s1 := ⟨_, rfl⟩
            rw [hs1] at hbd hE
            obtain ⟨s2, hs2⟩ : ∃ s2, s1 + m3 = s2 := ⟨_, rfl⟩
            rw [hs2] at hbd hE
            obtain ⟨v, hv⟩ : ∃ v, s2 / 256 = v := ⟨_, rfl⟩
            rw [hv] at hbd hE
            have hnew := mix_set HTL.out HZL.out hkn
            rw [hE] at hnew
            have hput := row_put (i := k) (x := v) HU2.out.2
            rw [hnew] at hput
            have HN2 : Hid ((cur.setIfInBounds k (.int .i64 v)).size = n ∧ (cur.setIfInBounds k (.int .i64 v)).toList.take n = ints .i64 (T.take (r * p + (e + 1)) ++ Z.drop (r * p + (e + 1)))) := Lib.hid (by rw [HK.out.2]; exact ⟨by rw [Array.size_setIfInBounds]; exact HU2.out.1, hput⟩)
            have hink : k < cur.size := by rw [HU2.out.1]; exact hkn
            have f5h : Hid (IntKind.i64.wrap (2 * qq) = t2) := Lib.hid ((IntWalk.i64_in _ (by omega)).trans ht2')
            have f6h : Hid (IntKind.i64.wrap (256 - t2) = t3) := Lib.hid ((IntWalk.i64_in _ (by omega)).trans ht3)
            have f7h : Hid (IntKind.i64.wrap (qq * z1) = m1) := Lib.hid ((IntWalk.i64_in _ (by omega)).trans hm1)
            have f8h : Hid (IntKind.i64.wrap (t3 * z0) = m2) := Lib.hid ((IntWalk.i64_in _ (by omega)).trans hm2)
            have f9h : Hid (IntKind.i64.wrap (qq * z2) = m3) := Lib.hid ((IntWalk.i64_in _ (by omega)).trans hm3)
            have f10h : Hid (IntKind.i64.wrap (m1 + m2) = s1) := Lib.hid ((IntWalk.i64_in _ (by omega)).trans hs1)
            have f11h : Hid (IntKind.i64.wrap (s1 + m3) = s2) := Lib.hid ((IntWalk.i64_in _ (by omega)).trans hs2)
            have f12h : Hid (s2.tdiv 256 = v) := Lib.hid (by rw [Int.tdiv_eq_ediv_of_nonneg (by omega)]; exact hv)
            have f13h : Hid (wrap64 v = v) := Lib.hid (w64 (by omega) (by omega))
            have s1h : Hid (wrap64 ((r : Int) * (p : Int)) = (R : Int)) := Lib.hid (by rw [← Int.natCast_mul, hR]; exact w64 (by omega) (by omega))
            have s2h : Hid (wrap64 ((R : Int) + (e : Int)) = (k : Int)) := Lib.hid (w64e (by omega) (by omega) (by omega))
            clear hn hp hq hqq hn4 gg hbd hE hc ht2' ht3 hm1 hm2 hm3 hs1 hs2 hv hnew hput hR hk
            have f5 := f5h.out
            have f6 := f6h.out
            have f7 := f7h.out
            have f8 := f8h.out
            have f9 := f9h.out
            have f10 := f10h.out
            have f11 := f11h.out
            go_wp2_with (fail)
            refine wm_held _ [(true, 0), (true, 1), (true, 2), (true, 3), (true, 4), (true, 9), (true, 10), (true, 11), (true, 12), (true, 13), (true, 14), (true, 15), (true, 21), (true, 22), (true, 23), (true, 24), (true, 25), (false, 5), (true, 6), (true, 7), (true, 8), (false, 16), (true, 17), (true, 18), (true, 19), (true, 20), (false, 26), (true, 27), (true, 28), (true, 29), (true, 30), (true, 31)] K sbr (by kernel_rfl) (by kernel_rfl) ?_; (try clear K); (try clear ww); intro ww K; (try simp [go_sem] at K); simp only [pick, List.getElem?_toArray, List.getElem?_cons_succ, List.getElem?_cons_zero]
            repeat (first|((with_reducible refine ht_load ?_);first|(refine hm_cell (v := ?_) rfl _ _ rfl rfl (fun ww K => ?_) ?_ ?_;rotate_left;(first|exact (K.below.cell (by assumption)).trans (by assumption));(with_reducible first|exact one2)))|(refine held_take (fun K' hK' => ?_);go_simp;first|(apply Exists.intro;refine ⟨?_, hK' _ ?_⟩;(intro _ _;rfl);clear hK' K'))|(refine held_do (fun K' hK' => ?_);go_simp;go_at_call 89;(with_reducible refine (A1.out _ K.below).mono ?_);rintro e w2 ⟨rfl, k1⟩;replace K := K.step k1;clear k1;(try clear ww);revert w2;intro ww K;(try dsimp only);refine hK' _ _ (by apply via sbr;first|exact K) ?_;clear hK' K')|(refine held_do (fun K' hK' => ?_);go_simp;go_at_call 89;(with_reducible refine (A2.out _ K.below).mono ?_);rintro e w2 ⟨rfl, k1⟩;replace K := K.step k1;clear k1;(try clear ww);revert w2;intro ww K;(try dsimp only);refine hK' _ _ (by apply via sbr;first|exact K) ?_;clear hK' K')|(refine held_do (fun K' hK' => ?_);go_simp;go_at_call 89;(with_reducible refine (A3.out _ K.below).mono ?_);rintro e w2 ⟨rfl, k1⟩;replace K := K.step k1;clear k1;(try clear ww);revert w2;intro ww K;(try dsimp only);refine hK' _ _ (by apply via sbr;first|exact K) ?_;clear hK' K'))
            refine held_nil ?_
            clear f5 f6 f7 f8 f9 f10 f11
            have f12 := f12h.out
            have f13 := f13h.out
            have s1' := s1h.out
            have s2' := s2h.out
            go_wp2_with (first|((with_reducible refine at_load ?_);first|(refine wm_cell (v := ?_) rfl _ _ rfl rfl ?_ ?_ ?_;rotate_left;(first|exact (K.below.cell (by assumption)).trans (by assumption));(with_reducible first|exact one3)))|((with_reducible refine at_store ?_);first|(refine wm_put (L' := ?_) (cs := ?_) (new := ?_) (t := ?_) K rfl _ _ _ rfl rfl rfl rfl ?_ ?_ ?_ ?_ rfl rfl ?_;rotate_left 4;(repeat (exact Put.hd));(omega);(exact rfl);(with_reducible first|exact one2);(try clear K);(try clear ww);intro ww K;(try simp [go_sem] at K))))
            rw [f13] at K
            clear f12 f13 s1' s2'
            exact ⟨⟨e + 1, _, by omega, by go_num, HN2, K⟩, by simp [intOf]; omega⟩
          · obtain rfl : e = p := by omega
            have ht2 : decide ((e : Int) < e) = false := decide_eq_false (by omega)
            have HU2 : Hid (cur.size = n ∧ cur.toList.take n = ints .i64 (T.take ((r + 1) * e) ++ Z.drop ((r + 1) * e))) := Lib.hid (by rw [Nat.succ_mul]; exact HU.out)
            go_wp2_with fail
            exact ⟨⟨r + 1, cur, by omega, by go_num, HU2, K⟩, by simp [intOf]; omega⟩
      · obtain rfl : r = q := by omega
        have ht : decide ((r : Int) < r) = false := decide_eq_false (by omega)
        have hlast : cur.toList.take n = ints .i64 T := by
          have h1 := HU.out.2
          rw [show r * p = n from HN.out.1, show T.take n = T from List.take_of_length_le (by rw [HTL.out]; omega), show Z.drop n = [] from List.drop_of_length_le (by rw [HZL.out]; omega), List.append_nil] at h1
          exact h1
        have HX := Lib.hid (And.intro hlast (show n ≤ cur.size by rw [HU.out.1]; exact Nat.le_refl _))
        clear hlast
        go_wp2_with (fail)
        go_ret
        exact ⟨some ⟨g, 0, none⟩, n, rfl, ⟨by rw [HTE.out]; exact (sl_take (K.get .hd) HX.out.1 HX.out.2).rd, Nw.mk _ _ _ (K.ge .hd)⟩, K.below⟩
end Go.Proofs.Yteancdipmpmjpaa
namespace Go.Proofs.Yteancdipmpmjpaa
open Go.RowKit
attribute [local irreducible] wpHeld wpTree wpList
set_option linter.unusedVariables false
section
variable {B : Nat} {w0 w : World} {Lb : List Blk} {F : World → Prop}
theorem St.passX {qq : Int} {p q gb qb : Nat} {A : Option Addr} {n c : Nat} {zs : List Int} {cs : Array Value} {t t2 : TypeId} (K : St B w0 Lb F w) (h : Rd w A n (ints .i64 zs)) (hb : ∀ z ∈ zs, 0 ≤ z ∧ z ≤ 1073741824) (hn : q * p = n) (hp : 1 ≤ p ∧ p ≤ 64) (hq : 1 ≤ q ∧ q ≤ 64) (hqq : 0 ≤ qq ∧ qq ≤ 85) (hg : At Lb gb cs t) (hgq : At Lb qb #[.int .i64 qq] t2) (h0 : cs[0]? = some (.int .i64 p)) (h1 : cs[1]? = some (.int .i64 q)) :
    Calls Try.prog 86 #[.slice A n c, .func (.func 87) #[] #[.pointer (some ⟨gb, 0, none⟩)], .pointer (some ⟨gb, 0, none⟩), .pointer (some ⟨qb, 0, none⟩)] w fun e w' => ∃ A2 c2, e = .returned (.slice A2 n c2) ∧ Nw B A2 ∧ St B w0 Lb (fun w => Rd w A2 n (ints .i64 (spr14 n qq (rowA p) (rowB p) zs)) ∧ F w) w' := by
    refine (GPassX14 qq p q gb qb A n c zs w h hb hn hp hq hqq (K.lt hg) (K.lt hgq) ((K.get hg).cell h0) ((K.get hg).cell h1) ((K.get hgq).cell rfl)).mono ?_
    rintro e w' ⟨A2, c2, rfl, ⟨h2, hA⟩, hbel⟩
    exact ⟨A2, c2, rfl, hA.mono K.size, K.madeRd hbel h2 hA⟩
theorem St.passY {qq : Int} {p q gb qb : Nat} {A : Option Addr} {n c : Nat} {zs : List Int} {cs : Array Value} {t t2 : TypeId} (K : St B w0 Lb F w) (h : Rd w A n (ints .i64 zs)) (hb : ∀ z ∈ zs, 0 ≤ z ∧ z ≤ 1073741824) (hn : q * p = n) (hp : 1 ≤ p ∧ p ≤ 64) (hq : 1 ≤ q ∧ q ≤ 64) (hqq : 0 ≤ qq ∧ qq ≤ 85) (hg : At Lb gb cs t) (hgq : At Lb qb #[.int .i64 qq] t2) (h0 : cs[0]? = some (.int .i64 p)) (h1 : cs[1]? = some (.int .i64 q)) :
    Calls Try.prog 86 #[.slice A n c, .func (.func 89) #[] #[.pointer (some ⟨gb, 0, none⟩)], .pointer (some ⟨gb, 0, none⟩), .pointer (some ⟨qb, 0, none⟩)] w fun e w' => ∃ A2 c2, e = .returned (.slice A2 n c2) ∧ Nw B A2 ∧ St B w0 Lb (fun w => Rd w A2 n (ints .i64 (spr14 n qq (colA p) (colB p q) zs)) ∧ F w) w' := by
    refine (GPassY14 qq p q gb qb A n c zs w h hb hn hp hq hqq (K.lt hg) (K.lt hgq) ((K.get hg).cell h0) ((K.get hg).cell h1) ((K.get hgq).cell rfl)).mono ?_
    rintro e w' ⟨A2, c2, rfl, ⟨h2, hA⟩, hbel⟩
    exact ⟨A2, c2, rfl, hA.mono K.size, K.madeRd hbel h2 hA⟩
end
set_option maxRecDepth 100000 in
theorem GSpread14 (X Y S qq : Int) (p q : Nat) (A : Option Addr) (n c : Nat) (zs : List Int) (w : World) (h : Rd w A n (ints .i64 zs)) (hb : ∀ z ∈ zs, 0 ≤ z ∧ z ≤ 1073741824) (hn : q * p = n) (hp : 1 ≤ p ∧ p ≤ 64) (hq : 1 ≤ q ∧ q ≤ 64) (hqq : 0 ≤ qq ∧ qq ≤ 85) :
    Calls Try.prog 40 #[.agg #[.int .i64 p, .int .i64 q, .int .i64 X, .int .i64 Y, .int .i64 S, .slice A n c], .int .i64 qq] w fun e w' => ∃ A2 c2, e = .returned (.tuple #[.agg #[.int .i64 p, .int .i64 q, .int .i64 X, .int .i64 Y, .int .i64 S, .slice A2 n c2], .int .i64 0]) ∧ (Rd w' A2 n (ints .i64 (sprd14 p q qq zs)) ∧ Nw w.heap.size A2) ∧ Below w.heap.size w w' := by
  have K := St.start w
  have d1 : decide (qq < 0) = false := decide_eq_false (by omega)
  have d2 : decide (85 < qq) = false := decide_eq_false (by omega)
  unfold sprd14
  rw [hn]
  have HR := Lib.hid h
  have P1 := Lib.hid (fun (B : Nat) (w0 : World) (L : List Blk) (F : World → Prop) (w : World) (gb qb : Nat) (cs : Array Value) (t t2 : TypeId) (K : St B w0 L F w) (h : Rd w A n (ints .i64 zs)) hg hgq h0 h1 => K.passX (qq := qq) (p := p) (q := q) (gb := gb) (qb := qb) (c := c) (cs := cs) (t := t) (t2 := t2) h hb hn hp hq hqq hg hgq h0 h1)
  have P2 := Lib.hid (fun (B : Nat) (w0 : World) (L : List Blk) (F : World → Prop) (w : World) (gb qb : Nat) (cs : Array Value) (t t2 : TypeId) (A : Option Addr) (c : Nat) (K : St B w0 L F w) (h : Rd w A n (ints .i64 (spr14 n qq (rowA p) (rowB p) zs))) hg hgq h0 h1 => K.passY (qq := qq) (p := p) (q := q) (gb := gb) (qb := qb) (c := c) (cs := cs) (t := t) (t2 := t2) h (spr_bd hqq hb) hn hp hq hqq hg hgq h0 h1)
  clear h hb hn hp hq hqq
  go_enter Try.func40, Try.ntmps40
  go_wp2_with (first|((with_reducible refine at_load ?_);first|(refine wm_load (cs := ?_) (t := ?_) (n := ?_) K rfl _ _ rfl rfl ?_ ?_ ?_ ?_;rotate_left 2;(repeat (first|exact At.hd|refine At.tl ?_));rotate_left;(with_reducible first|exact row47);(exact rfl))|(refine wm_own (cs := ?_) (t := ?_) (v := ?_) K rfl _ _ rfl rfl ?_ ?_ ?_ ?_;rotate_left 2;(repeat (first|exact At.hd|refine At.tl ?_));rotate_left;(exact rfl);(with_reducible first|exact one2|exact one45)))|((with_reducible refine at_store ?_);(first|(refine wm_store (L' := ?_) (cs := ?_) (t := ?_) (n := ?_) K rfl _ _ _ rfl rfl rfl rfl ?_ ?_ ?_ ?_ ?_ ?_;rotate_left 3;(repeat (exact Put.hd));rotate_left;(with_reducible first|exact row47);(exact rfl);(exact rfl);(simp [Ones, Value.oneCell']))|(refine wm_put (L' := ?_) (cs := ?_) (new := ?_) (t := ?_) K rfl _ _ _ rfl rfl rfl rfl ?_ ?_ ?_ ?_ rfl rfl ?_;rotate_left 4;(repeat (first|exact Put.hd|(refine Put.tl (L' := ?_) ?_;rotate_left)));(exact Nat.le_of_ble_eq_true rfl);((simp only [List.setIfInBounds_toArray];exact rfl));(with_reducible first|exact one45)));(try clear K);(try clear ww);intro ww K;(try simp [go_sem] at K))|((first|((with_reducible refine at_box ?_);refine wm_box K rfl _ _ rfl rfl rfl ?_)|((with_reducible refine at_alloc ?_);refine wm_alloc (v := ?_) (cs := ?_) K rfl _ rfl ?_ ?_ ?_;rotate_left;(with_reducible first|exact zero47);rotate_left;exact rfl));(try clear K);(try clear ww);(first|((fail_if_success (have _h := r1));intro r1 ww K)|((fail_if_success (have _h := r2));intro r2 ww K)|((fail_if_success (have _h := r3));intro r3 ww K));(try simp [go_sem, Value.cells] at K))|(go_at_call 86;(first|(have zz := P1.out _ _ _ _ _ _ _ _ _ _ K (HR.out.below K.below) (At.tl (At.tl At.hd)) (At.tl At.hd) rfl rfl;(with_reducible refine zz.mono ?_);clear zz;rintro e w2 ⟨A2, c2, rfl, hA2, K2⟩)|(have zz := (fun c => P2.out _ _ _ _ _ _ _ _ _ _ _ c K K.fact.1 (At.tl (At.tl At.hd)) (At.tl At.hd) rfl rfl);(with_reducible refine (zz _).mono ?_);clear zz;rintro e w2 ⟨A3, c3, rfl, hA3, K2⟩));(try dsimp only);replace K := K2;clear K2;(try clear ww);revert w2;intro ww K))
  refine bodyPost_ret (K.res2 rfl _ rfl At.hd (by (with_reducible first | exact row47)) (by (solve | exact rfl | simp)) rfl) rfl ?_
  exact ⟨A3, c3, rfl, ⟨K.fact.1, hA3⟩, K.below⟩
end Go.Proofs.Yteancdipmpmjpaa
namespace Go.Proofs.Yteancdipmpmjpaa
open Go.RowKit
attribute [local irreducible] wpHeld wpTree wpList
set_option linter.unusedVariables false
set_option maxRecDepth 100000 in
set_option maxHeartbeats 4000000 in
theorem GSplit14 (X Y S : Int) (p q : Nat) (A : Option Addr) (n c m : Nat) (zs : List Int) (w : World) (h : Rd w A n (ints .i64 zs)) (hb : ∀ z ∈ zs, 0 ≤ z ∧ z ≤ 1073741824) (hn : p * q = n) (hp : 1 ≤ p ∧ p ≤ 32) (hq : 1 ≤ q ∧ q ≤ 32) (hX : -1125899906842624 ≤ X ∧ X ≤ 1125899906842624) (hY : -1125899906842624 ≤ Y ∧ Y ≤ 1125899906842624) (hS : 32 ≤ S ∧ S ≤ 4096) (hS4 : S % 4 = 0) (hm : 4 * n = m) :
    Calls Try.prog 49 #[.agg #[.int .i64 p, .int .i64 q, .int .i64 X, .int .i64 Y, .int .i64 S, .slice A n c]] w fun e w' => ∃ A2 c2, e = .returned (.tuple #[.agg #[.int .i64 ((2 * p : Nat)), .int .i64 ((2 * q : Nat)), .int .i64 (X - S / 4), .int .i64 (Y - S / 4), .int .i64 (S / 2), .slice A2 m c2], .int .i64 0]) ∧ (Rd w' A2 m (ints .i64 (split14 p zs m)) ∧ Nw w.heap.size A2) ∧ Below w.heap.size w w' := by
  have K := St.start w
  have hl : zs.length = n := by rw [← h.1, ints_len]
  have hn1 : 1 ≤ n ∧ n ≤ 1024 := by
    have a1 := Nat.mul_le_mul hp.2 hq.2
    have a2 := Nat.mul_le_mul hp.1 hq.1
    omega
  obtain ⟨P2, hP2⟩ : ∃ P2 : Nat, 2 * p = P2 := ⟨_, rfl⟩
  obtain ⟨Q2, hQ2⟩ : ∃ Q2 : Nat, 2 * q = Q2 := ⟨_, rfl⟩
  rw [hP2, hQ2]
  have d1 : decide (64 < (P2 : Int)) = false := decide_eq_false (by omega)
  have d2 : decide (64 < (Q2 : Int)) = false := decide_eq_false (by omega)
  have d3 : decide (S < 32) = false := decide_eq_false (by omega)
  have m1 : 8 * m ≤ 281474976710656 := by omega
  have m2 : m ≤ 4611686018427387904 := by omega
  have hm5 : m ≤ 5000 := by omega
  obtain ⟨S4, hS4'⟩ : ∃ S4, S / 4 = S4 := ⟨_, rfl⟩
  obtain ⟨S2, hS2'⟩ : ∃ S2, S / 2 = S2 := ⟨_, rfl⟩
  obtain ⟨X2, hX2⟩ : ∃ X2, X - S4 = X2 := ⟨_, rfl⟩
  obtain ⟨Y2, hY2⟩ : ∃ Y2, Y - S4 = Y2 := ⟨_, rfl⟩
  rw [hS4', hS2', hX2, hY2]
  have a1h : Hid (S.tmod 4 = 0) := Lib.hid (by rw [Int.tmod_eq_emod_of_nonneg (by omega)]; exact hS4)
  have a2h : Hid (S.tdiv 4 = S4) := Lib.hid (by rw [Int.tdiv_eq_ediv_of_nonneg (by omega)]; exact hS4')
  have a3h : Hid (S.tdiv 2 = S2) := Lib.hid (by rw [Int.tdiv_eq_ediv_of_nonneg (by omega)]; exact hS2')
  have a4h : Hid (wrap64 (2 * (p : Int)) = (P2 : Int)) := Lib.hid (w64e (by omega) (by omega) (by omega))
  have a5h : Hid (wrap64 (2 * (q : Int)) = (Q2 : Int)) := Lib.hid (w64e (by omega) (by omega) (by omega))
  have a6h : Hid (wrap64 (X - S4) = X2) := Lib.hid (w64e (by omega) (by omega) hX2)
  have a7h : Hid (wrap64 (Y - S4) = Y2) := Lib.hid (w64e (by omega) (by omega) hY2)
  have a8h : Hid (wrap64 (4 * (n : Int)) = (m : Int)) := Lib.hid (w64e (by omega) (by omega) (by omega))
  have b4h : Hid (IntKind.i64.wrap (2 * (p : Int)) = (P2 : Int)) := Lib.hid ((IntWalk.i64_in _ (by omega)).trans (by omega))
  have b5h : Hid (IntKind.i64.wrap (2 * (q : Int)) = (Q2 : Int)) := Lib.hid ((IntWalk.i64_in _ (by omega)).trans (by omega))
  have b6h : Hid (IntKind.i64.wrap (X - S4) = X2) := Lib.hid ((IntWalk.i64_in _ (by omega)).trans hX2)
  have b7h : Hid (IntKind.i64.wrap (Y - S4) = Y2) := Lib.hid ((IntWalk.i64_in _ (by omega)).trans hY2)
  have b8h : Hid (IntKind.i64.wrap (4 * (n : Int)) = (m : Int)) := Lib.hid ((IntWalk.i64_in _ (by omega)).trans (by omega))
  have b9h : Hid (IntKind.i64.wrap S4 = S4) := Lib.hid (IntWalk.i64_in _ (by omega))
  have b10h : Hid (IntKind.i64.wrap S2 = S2) := Lib.hid (IntWalk.i64_in _ (by omega))
  have HR := Lib.hid h
  have HL := Lib.hid hl
  have HZ := Lib.hid hb
  have HN := Lib.hid (And.intro hn (And.intro hp (And.intro hm (And.intro hP2 hn1))))
  clear h hl hb hn hp hq hX hY hS hS4 hm hn1 hP2 hQ2 hS4' hS2' hX2 hY2
  have a1 := a1h.out
  have a2 := a2h.out
  have a3 := a3h.out
  have a4 := a4h.out
  have a5 := a5h.out
  have a6 := a6h.out
  have a7 := a7h.out
  have a8 := a8h.out
  have b4 := b4h.out
  have b5 := b5h.out
  have b6 := b6h.out
  have b7 := b7h.out
  have b8 := b8h.out
  have b9 := b9h.out
  have b10 := b10h.out
  go_enter Try.func49, Try.ntmps49
  go_wp2_with (first|((with_reducible refine at_load ?_);first|(refine wm_own (cs := ?_) (t := ?_) (v := ?_) K rfl _ _ rfl rfl ?_ ?_ ?_ ?_;rotate_left 2;(repeat (first|exact At.hd|refine At.tl ?_));rotate_left;(exact rfl);(with_reducible first|exact one2|exact one3)))|((first|((with_reducible refine at_box ?_);refine wm_box K rfl _ _ rfl rfl rfl ?_)|((with_reducible refine at_alloc ?_);refine wm_alloc (v := ?_) (cs := ?_) K rfl _ rfl ?_ ?_ ?_;rotate_left;(with_reducible first|exact zero47);rotate_left;exact rfl));(try clear K);(try clear ww);(first|((fail_if_success (have _h := r1));intro r1 ww K)|((fail_if_success (have _h := r2));intro r2 ww K));(try simp [go_sem, Value.cells] at K)))
  (try simp only [Act.put, List.setIfInBounds_toArray, List.set_cons_zero, List.set_cons_succ])
  go_cut [4] from 30 to 56 (fun p4 wc => ∃ r4 g : Nat, p4 = .pointer (some ⟨r4, 0, none⟩) ∧ St w.heap.size w [(r4, #[.int .i64 P2, .int .i64 Q2, .int .i64 X2, .int .i64 Y2, .int .i64 S2, .slice (some ⟨g, 0, none⟩) m m], 47), (g, (nums .i64 (List.replicate m 0)).toArray, 2), (r2, #[.int .i64 0, .int .i64 0, .int .i64 0, .int .i64 0, .int .i64 0, .slice none 0 0], 47), (r1, #[.int .i64 p, .int .i64 q, .int .i64 X, .int .i64 Y, .int .i64 S, .slice A n c], 47)] Any wc)
  case first =>
    refine wm_tree _ (.take 0 (.take 1 (.take 2 (.take 3 (.take 4 (.take 5 (.take 6 (.take 7 (.take 8 (.take 9 (.take 10 (.take 11 (.take 12 (.take 13 (.take 14 (.take 15 (.take 16 (.take 17 (.take 18 (.take 19 (.take 20 (.take 21 (.take 22 (.take 23 (.take 24 (.alt 25 (.take 26 (.alt 27 (.alt 28 .done .stop) .stop)) (.alt 27 (.alt 25 (.take 26 (.alt 28 .done .stop)) .stop) .stop))))))))))))))))))))))))))) K sbr (by kernel_rfl) (by kernel_rfl) ?_; (try clear K); (try clear ww); intro ww K; (try simp [go_sem] at K)
    repeat' (first|exact tree_stop|(refine tm_own (cs := ?_) (t0 := ?_) (v := ?_) rfl rfl _ _ rfl rfl ?_ ?_ ?_ ?_;rotate_left 2;(repeat (first|exact At.hd|refine At.tl ?_));rotate_left;(exact rfl);(with_reducible first|exact one2|exact one3|exact one45))|(refine tree_take (fun K' hK' => ?_);simp only [opAt, List.getElem?_toArray, List.getElem?_cons_succ, List.getElem?_cons_zero, Option.getD_some];go_simp;first|(apply Exists.intro;refine ⟨?_, hK' _ ?_⟩;(intro _ _;rfl);clear hK' K'))|(refine tree_list rfl ?_ ?_;refine wm_make K rfl _ _ _ rfl Try.underlying45 num2 m rfl rfl rfl rfl m1 m2 ?_;intro g ww2 K2;refine wl_nil ⟨(by apply via sbr;first|exact K2.tail|exact K2.tail.tail), ?_⟩;replace K := K2;clear K2;(try clear ww);revert ww2;intro ww K)|(first|((fail_if_success (have _h := r4));refine tm_alloc (v := ?_) (cs := ?_) K rfl rfl _ rfl ?_ ?_ ?_ ?_;rotate_left;(with_reducible first|exact zero47);rotate_left;exact rfl;intro r4 ww2 K2;(try simp [go_sem, Value.cells] at K2);refine ⟨(by apply via sbr;first|exact K2.tail|exact K2.tail.tail), ?_⟩;replace K := K2;clear K2;(try clear ww);revert ww2;intro ww K))|(refine tm_store (L' := ?_) (cs := ?_) (t0 := ?_) (n := ?_) K rfl rfl _ _ _ rfl rfl rfl rfl ?_ ?_ ?_ ?_ ?_ ?_ ?_;rotate_left 3;(repeat (first|exact Put.hd|(refine Put.tl (L' := ?_) ?_;rotate_left)));rotate_left;(with_reducible first|exact row47);(exact rfl);(exact rfl);(simp [Ones, Value.oneCell']);intro ww2 K2;(try simp [go_sem] at K2);refine ⟨(by apply via sbr;first|exact K2.tail.tail), ?_⟩;replace K := K2;clear K2;(try clear ww);revert ww2;intro ww K))
    all_goals refine tree_done ?_
    all_goals (try simp only [opAt, List.getElem?_toArray, List.getElem?_cons_succ, List.getElem?_cons_zero, Option.getD_some])
    all_goals (try go_simp)
    all_goals (try go_wp2_with (fail))
    all_goals (try go_meet)
    all_goals first | exact ⟨_, _, rfl, K⟩ | exact ⟨_, _, rfl, K.perm (List.Perm.swap _ _ _)⟩
  case rest =>
    clear K
    obtain ⟨r4, g, rfl, K⟩ := hcut
    clear a1 a2 a3 a4 a5 a6 a7 a8 b4 b5 b6 b7 b8 b9 b10 a1h a2h a3h a4h a5h a6h a7h a8h b4h b5h b6h b7h b8h b9h b10h d1 d2 d3 m1 m2
    obtain ⟨T, hT⟩ : ∃ T, split14 p zs m = T := ⟨_, rfl⟩
    have HTE := Lib.hid hT
    have HTL : Hid (T.length = m) := Lib.hid (by rw [← hT]; exact gen_len _ _)
    have HTG : Hid (∀ k, k < m → T.getD k 0 = splitv p zs k) := Lib.hid (fun k hk => by rw [← hT]; exact gen_get _ hk)
    clear hT
    obtain ⟨Z, hZ⟩ : ∃ Z : List Int, List.replicate m 0 = Z := ⟨_, rfl⟩
    have HZL : Hid (Z.length = m) := Lib.hid (by rw [← hZ]; simp)
    have HZ0 : Hid (((nums .i64 (List.replicate m 0)).toArray : Array Value).size = m ∧ ((nums .i64 (List.replicate m 0)).toArray : Array Value).toList.take m = ints .i64 (T.take 0 ++ Z.drop 0)) := Lib.hid (by
      rw [List.take_zero, List.drop_zero, List.nil_append, ← hZ]; exact zeros_at m)
    generalize (nums .i64 (List.replicate m 0)).toArray = cur0 at *
    clear hZ
    go_wp2_with (first|((with_reducible refine at_load ?_);first|(refine wm_own (cs := ?_) (t := ?_) (v := ?_) K rfl _ _ rfl rfl ?_ ?_ ?_ ?_;rotate_left 2;(repeat (exact At.hd));rotate_left;(exact rfl);(with_reducible first|exact one45))))
    go_loopw [60] (fun i wr => ∃ (k : Nat) (cur : Array Value), k ≤ m ∧ i = .int .i64 k ∧ Hid (cur.size = m ∧ cur.toList.take m = ints .i64 (T.take k ++ Z.drop k)) ∧ St w.heap.size w [(r4, #[.int .i64 P2, .int .i64 Q2, .int .i64 X2, .int .i64 Y2, .int .i64 S2, .slice (some ⟨g, 0, none⟩) m m], 47), (g, cur, 2), (r2, #[.int .i64 0, .int .i64 0, .int .i64 0, .int .i64 0, .int .i64 0, .slice none 0 0], 47), (r1, #[.int .i64 p, .int .i64 q, .int .i64 X, .int .i64 Y, .int .i64 S, .slice A n c], 47)] Any wr) (fun i _ => m - (intOf i).toNat)
    case atStart => exact ⟨0, cur0, Nat.zero_le _, rfl, HZ0, K⟩
    case round =>
      clear K HZ0
      obtain ⟨k, cur, hk, rfl, HU, K⟩ := hrel
      by_cases hlt : k < m
      · have ht : decide ((k : Int) < m) = true := decide_eq_true (by omega)
        obtain ⟨hn, hp, hm, hP2, hn1⟩ := HN.out
        obtain ⟨q1, q2, q3⟩ := split_place (p := p) (q := q) (k := k) (by omega) (by rw [hn, hm]; exact hlt)
        have hE := HTG.out k hlt
        unfold splitv at hE
        rw [hP2] at q1 q2 q3 hE
        rw [hn] at q3
        obtain ⟨e, he⟩ : ∃ e, k % P2 = e := ⟨_, rfl⟩
        obtain ⟨d, hd⟩ : ∃ d, k / P2 = d := ⟨_, rfl⟩
        rw [he] at q1 q3 hE
        rw [hd] at q2 q3 hE
        obtain ⟨xx, hxx⟩ : ∃ xx, e / 2 = xx := ⟨_, rfl⟩
        obtain ⟨yy, hyy⟩ : ∃ yy, d / 2 = yy := ⟨_, rfl⟩
        rw [hxx] at q1 q3 hE
        rw [hyy] at q2 q3 hE
        obtain ⟨R, hR⟩ : ∃ R, yy * p = R := ⟨_, rfl⟩
        rw [hR] at q3 hE
        obtain ⟨j, hj⟩ : ∃ j, R + xx = j := ⟨_, rfl⟩
        rw [hj] at q3 hE
        have c1h : Hid ((k : Int).tmod (P2 : Int) = (e : Int)) := Lib.hid (by rw [Int.tmod_eq_emod_of_nonneg (by omega), ← Int.natCast_emod, he])
        have c2h : Hid ((e : Int).tdiv 2 = (xx : Int)) := Lib.hid (by rw [Int.tdiv_eq_ediv_of_nonneg (by omega)]; omega)
        have c3h : Hid ((k : Int).tdiv (P2 : Int) = (d : Int)) := Lib.hid (by rw [Int.tdiv_eq_ediv_of_nonneg (by omega), ← Int.natCast_ediv, hd])
        have c4h : Hid ((d : Int).tdiv 2 = (yy : Int)) := Lib.hid (by rw [Int.tdiv_eq_ediv_of_nonneg (by omega)]; omega)
        have hd2 : d ≤ k := by rw [← hd]; exact Nat.div_le_self _ _
        have c5h : Hid (IntKind.i64.wrap (xx : Int) = xx) := Lib.hid (IntWalk.i64_in _ (by omega))
        have c6h : Hid (IntKind.i64.wrap (yy : Int) = yy) := Lib.hid (IntWalk.i64_in _ (by omega))
        have c7h : Hid (IntKind.i64.wrap (d : Int) = d) := Lib.hid (IntWalk.i64_in _ (by omega))
        have c8h : Hid (IntKind.i64.wrap ((yy : Int) * (p : Int)) = (R : Int)) := Lib.hid (by rw [← Int.natCast_mul, hR]; exact IntWalk.i64_in _ (by omega))
        have c9h : Hid (IntKind.i64.wrap ((R : Int) + (xx : Int)) = (j : Int)) := Lib.hid ((IntWalk.i64_in _ (by omega)).trans (by omega))
        have c0 : (P2 = 0) = False := by simp; omega
        have hz := HZ.out _ (getD_mem (l := zs) (i := j) (by rw [HL.out]; exact q3))
        obtain ⟨r0, off, rfl, hbb, hc⟩ := HR.out.get q3
        have hv := hc j _ (ints_get .i64 zs j (by rw [HL.out]; exact q3))
        generalize zs.getD j 0 = z at *
        have z1h : Hid (z.tdiv 4 = z / 4) := Lib.hid (Int.tdiv_eq_ediv_of_nonneg hz.1)
        have z2h : Hid (IntKind.i64.wrap (z / 4) = z / 4) := Lib.hid (IntWalk.i64_in _ (by omega))
        have hnew := mix_set HTL.out HZL.out hlt
        rw [hE] at hnew
        have hput := row_put (i := k) (x := z / 4) HU.out.2
        rw [hnew] at hput
        have HN2 : Hid ((cur.setIfInBounds k (.int .i64 (z / 4))).size = m ∧ (cur.setIfInBounds k (.int .i64 (z / 4))).toList.take m = ints .i64 (T.take (k + 1) ++ Z.drop (k + 1))) := Lib.hid ⟨by rw [Array.size_setIfInBounds]; exact HU.out.1, hput⟩
        have hink : k < cur.size := by rw [HU.out.1]; exact hlt
        have hjn : j < n := q3
        generalize z / 4 = v at *
        clear hn hp hm hP2 hn1 q1 q2 q3 hE he hd hxx hyy hR hj hd2 hz hc hnew hput
        have c1 := c1h.out
        have c2 := c2h.out
        have c3 := c3h.out
        have c4 := c4h.out
        have c5 := c5h.out
        have c6 := c6h.out
        have c7 := c7h.out
        have c8 := c8h.out
        have c9 := c9h.out
        have z1 := z1h.out
        have z2 := z2h.out
        go_wp2_with (fail)
        refine wm_held _ [(true, 0), (true, 1), (true, 2), (true, 3), (true, 4), (true, 5), (true, 6), (true, 7), (true, 8), (true, 9), (true, 10), (true, 11)] K sbr (by kernel_rfl) (by kernel_rfl) ?_; (try clear K); (try clear ww); intro ww K; (try simp [go_sem] at K); simp only [pick, List.getElem?_toArray, List.getElem?_cons_succ, List.getElem?_cons_zero]
        repeat (first|((with_reducible refine ht_load ?_);first|(refine hm_own (cs := ?_) (t := ?_) (v := ?_) rfl _ _ rfl rfl ?_ ?_ ?_ ?_;rotate_left 2;(repeat (exact At.hd));rotate_left;(exact rfl);(with_reducible first|exact one3)))|(refine held_take (fun K' hK' => ?_);go_simp;first|(apply Exists.intro;refine ⟨?_, hK' _ ?_⟩;(intro _ _;rfl);clear hK' K')))
        refine held_nil ?_
        go_wp2_with (fail)
        refine wm_held _ [(true, 0), (true, 1), (true, 2), (true, 3), (true, 4), (true, 5), (true, 6), (true, 7), (true, 8), (true, 9), (true, 10), (true, 11), (true, 12), (true, 13), (true, 14), (false, 15)] K sbk1 (by kernel_rfl) (by kernel_rfl) ?_; (try clear K); (try clear ww); intro ww K; (try simp [go_sem] at K); simp only [pick, List.getElem?_toArray, List.getElem?_cons_succ, List.getElem?_cons_zero]
        repeat (first|((with_reducible refine ht_load ?_);first|(refine hm_own (cs := ?_) (t := ?_) (v := ?_) rfl _ _ rfl rfl ?_ ?_ ?_ ?_;rotate_left 2;(repeat (first|exact At.hd|refine At.tl ?_));rotate_left;(first|exact rfl|assumption);(with_reducible first|exact one3|exact one45))|(refine hm_cell (v := ?_) rfl _ _ rfl rfl (fun ww K => ?_) ?_ ?_;rotate_left;(first|exact (K.below.cell (by assumption)).trans (by assumption));(with_reducible first|exact one2)))|(refine held_take (fun K' hK' => ?_);go_simp;first|(apply Exists.intro;refine ⟨?_, hK' _ ?_⟩;(intro _ _;rfl);clear hK' K'))|((with_reducible refine ht_store ?_);first|(refine hm_put (L' := ?_) (cs := ?_) (new := ?_) (t := ?_) K rfl _ _ _ rfl rfl rfl rfl ?_ ?_ ?_ ?_ rfl rfl ?_;rotate_left 4;(repeat (first|exact Put.hd|(refine Put.tl (L' := ?_) ?_;rotate_left)));(omega);(exact rfl);(with_reducible first|exact one2);(try clear K);(try clear ww);intro ww K;(try simp [go_sem] at K);refine ⟨(by apply via sbk1;first|exact K), ?_⟩)))
        refine held_nil ?_
        go_wp2_with fail
        clear c1 c2 c3 c4 c5 c6 c7 c8 c9 z1 z2
        exact ⟨⟨k + 1, _, by omega, by go_num, HN2, K⟩, by simp [intOf]; omega⟩
      · obtain rfl : m = k := by omega
        have ht : decide ((m : Int) < m) = false := decide_eq_false (by omega)
        have hlast : cur.toList.take m = ints .i64 T := by
          have h1 := HU.out.2
          rw [show T.take m = T from List.take_of_length_le (by rw [HTL.out]; omega), show Z.drop m = [] from List.drop_of_length_le (by rw [HZL.out]; omega), List.append_nil] at h1
          exact h1
        have HX := Lib.hid (And.intro hlast (show m ≤ cur.size by rw [HU.out.1]; exact Nat.le_refl _))
        clear hlast
        go_wp2_with (first|((with_reducible refine at_load ?_);first|(refine wm_load (cs := ?_) (t := ?_) (n := ?_) K rfl _ _ rfl rfl ?_ ?_ ?_ ?_;rotate_left 2;(repeat (exact At.hd));rotate_left;(with_reducible first|exact row47);(exact rfl)))|((with_reducible refine at_store ?_);(first|(refine wm_store (L' := ?_) (cs := ?_) (t := ?_) (n := ?_) K rfl _ _ _ rfl rfl rfl rfl ?_ ?_ ?_ ?_ ?_ ?_;rotate_left 3;(repeat (first|exact Put.hd|(refine Put.tl (L' := ?_) ?_;rotate_left)));rotate_left;(with_reducible first|exact row47);(exact rfl);(exact rfl);(simp [Ones, Value.oneCell'])));(try clear K);(try clear ww);intro ww K;(try simp [go_sem] at K)))
        refine bodyPost_ret (K.res2 rfl _ rfl (At.tl (At.tl At.hd)) (by (with_reducible first|exact row47)) (by (exact rfl)) rfl) rfl ?_
        exact ⟨some ⟨g, 0, none⟩, m, rfl, ⟨by rw [HTE.out]; exact (sl_take (K.get (.tl .hd)) HX.out.1 HX.out.2).rd, Nw.mk _ _ _ (K.ge (.tl .hd))⟩, K.below⟩
end Go.Proofs.Yteancdipmpmjpaa
namespace Go.Proofs.Yteancdipmpmjpaa
open Go.RowKit
attribute [local irreducible] wpHeld wpTree wpList
set_option linter.unusedVariables false
def joinok (W H S : Int) : Bool := decide (W % 2 = 0) && decide (H % 2 = 0) && decide (S ≤ 2048)
theorem joinok_iff {W H S : Int} : joinok W H S = true ↔ W % 2 = 0 ∧ H % 2 = 0 ∧ S ≤ 2048 := by unfold joinok; simp [and_assoc]
theorem joinok_not {W H S : Int} (hs : joinok W H S = false) : ∃ (u1 u2 u3 : Bool), (W % 2 != 0) = u1 ∧ (H % 2 != 0) = u2 ∧ decide (2048 < S) = u3 ∧ (u1 || u2 || u3) = true := by
  refine ⟨_, _, _, rfl, rfl, rfl, ?_⟩
  unfold joinok at hs
  rw [Bool.eq_iff_iff] at hs ⊢
  simp only [Bool.and_eq_true, Bool.or_eq_true, decide_eq_true_eq, Bool.false_eq_true, iff_false, iff_true, bne_iff_ne, ne_eq] at hs ⊢
  omega
set_option maxRecDepth 100000 in
theorem GJoin14_bad (W H X Y S : Int) (A : Option Addr) (n c : Nat) (w : World) (hW : 0 ≤ W) (hH : 0 ≤ H) (hS : 0 ≤ S ∧ S ≤ 1000000) (hs : joinok W H S = false) :
    Calls Try.prog 51 #[.agg #[.int .i64 W, .int .i64 H, .int .i64 X, .int .i64 Y, .int .i64 S, .slice A n c]] w fun e w' => e = .returned (.tuple #[.agg #[.int .i64 W, .int .i64 H, .int .i64 X, .int .i64 Y, .int .i64 S, .slice A n c], .int .i64 12]) ∧ Below w.heap.size w w' := by
  have K := St.start w
  obtain ⟨u1, u2, u3, d1, d2, d3, hu⟩ := joinok_not hs
  have hm1 : W.tmod 2 = W % 2 := Int.tmod_eq_emod_of_nonneg hW
  have hm2 : H.tmod 2 = H % 2 := Int.tmod_eq_emod_of_nonneg hH
  obtain ⟨v1, hv1⟩ : ∃ v, W % 2 = v := ⟨_, rfl⟩
  obtain ⟨v2, hv2⟩ : ∃ v, H % 2 = v := ⟨_, rfl⟩
  rw [hv1] at hm1 d1
  rw [hv2] at hm2 d2
  obtain ⟨S2, hS2⟩ : ∃ S2, 2 * S = S2 := ⟨_, rfl⟩
  have f3 : decide (4096 < S2) = u3 := by rw [← d3, decide_eq_decide]; omega
  have e1h : Hid (wrap64 (2 * S) = S2) := Lib.hid (w64e (by omega) (by omega) hS2)
  clear hs hv1 hv2 hS hW hH hS2 d3
  have e1 := e1h.out
  cases u1
  case' false => cases u2
  case' false.false => cases u3
  case false.false.false => cases hu
  all_goals
    clear hu
    go_enter Try.func51, Try.ntmps51
    go_wp2_with (first|go_big_skip|((with_reducible refine at_load ?_);first|(refine wm_load (cs := ?_) (t := ?_) (n := ?_) K rfl _ _ rfl rfl ?_ ?_ ?_ ?_;rotate_left 2;(repeat (first|exact At.hd|refine At.tl ?_));rotate_left;(with_reducible first|exact row47);(exact rfl))|(refine wm_own (cs := ?_) (t := ?_) (v := ?_) K rfl _ _ rfl rfl ?_ ?_ ?_ ?_;rotate_left 2;(repeat (first|exact At.hd|refine At.tl ?_));rotate_left;(exact rfl);(with_reducible first|exact one2|exact one3)))|((with_reducible refine at_store ?_);(first|(refine wm_store (L' := ?_) (cs := ?_) (t := ?_) (n := ?_) K rfl _ _ _ rfl rfl rfl rfl ?_ ?_ ?_ ?_ ?_ ?_;rotate_left 3;(repeat (exact Put.hd));rotate_left;(with_reducible first|exact row47);(exact rfl);(exact rfl);(simp [Ones, Value.oneCell'])));(try clear K);(try clear ww);intro ww K;(try simp [go_sem] at K))|((first|((with_reducible refine at_box ?_);refine wm_box K rfl _ _ rfl rfl rfl ?_)|((with_reducible refine at_alloc ?_);refine wm_alloc (v := ?_) (cs := ?_) K rfl _ rfl ?_ ?_ ?_;rotate_left;(with_reducible first|exact zero47);rotate_left;exact rfl));(try clear K);(try clear ww);(first|((fail_if_success (have _h := r1));intro r1 ww K)|((fail_if_success (have _h := r2));intro r2 ww K));(try simp [go_sem, Value.cells] at K)))
    clear e1
    refine bodyPost_ret (K.res2 rfl _ rfl At.hd (by (with_reducible first | exact row47)) (by (solve | exact rfl | simp)) rfl) rfl ?_
    exact ⟨rfl, K.below⟩
end Go.Proofs.Yteancdipmpmjpaa
namespace Go.Proofs.Yteancdipmpmjpaa
open Go.RowKit
attribute [local irreducible] wpHeld wpTree wpList
set_option linter.unusedVariables false
theorem gen_zero {p m n4 : Nat} {zs : List Int} : gen14 n4 (pjoin p m zs 0) = List.replicate n4 0 := by
  apply List.ext_getElem?
  intro k
  by_cases hk : k < n4
  · simp [gen14, hk, pjoin_zero]
  · rw [List.getElem?_eq_none (by rw [gen_len]; omega), List.getElem?_eq_none (by simp; omega)]
theorem pjoin_bd {p m i k : Nat} {zs : List Int} (h : ∀ z ∈ zs, 0 ≤ z ∧ z ≤ 1073741824) : 0 ≤ pjoin p m zs i k ∧ pjoin p m zs i k ≤ 4294967296 := by
  have b : ∀ (P : Prop) [Decidable P] (j : Nat), 0 ≤ (if P then zs.getD j 0 else 0) ∧ (if P then zs.getD j 0 else 0) ≤ 1073741824 := by
    intro P _ j
    split
    · by_cases hj : j < zs.length
      · exact h _ (getD_mem hj)
      · rw [List.getD, List.getElem?_eq_none (by omega)]; simp
    · omega
  unfold pjoin
  have b1 := b (base14 p m k < i) (base14 p m k)
  have b2 := b (base14 p m k + 1 < i) (base14 p m k + 1)
  have b3 := b (base14 p m k + p < i) (base14 p m k + p)
  have b4 := b (base14 p m k + p + 1 < i) (base14 p m k + p + 1)
  omega
theorem gen_join {p m q1 : Nat} {zs : List Int} (hp : p = 2 * m) (hm : 0 < m) : gen14 (m * q1) (pjoin p m zs (p * (2 * q1))) = join14 p m zs (m * q1) := by
  apply List.ext_getElem?
  intro k
  unfold join14
  by_cases hk : k < m * q1
  · simp [gen14, hk, pjoin_all hp hm hk]
  · rw [List.getElem?_eq_none (by rw [gen_len]; omega), List.getElem?_eq_none (by rw [gen_len]; omega)]
set_option maxRecDepth 100000 in
set_option maxHeartbeats 4000000 in
theorem GJoin14 (X Y S : Int) (p q m1 q1 : Nat) (A : Option Addr) (n c n4 : Nat) (zs : List Int) (w : World) (h : Rd w A n (ints .i64 zs)) (hb : ∀ z ∈ zs, 0 ≤ z ∧ z ≤ 1073741824) (hn : p * q = n) (hp : p = 2 * m1) (hq : q = 2 * q1) (hm : 1 ≤ m1 ∧ m1 ≤ 32) (hq1 : 1 ≤ q1 ∧ q1 ≤ 32) (hX : -1125899906842624 ≤ X ∧ X ≤ 1125899906842624) (hY : -1125899906842624 ≤ Y ∧ Y ≤ 1125899906842624) (hS : 16 ≤ S ∧ S ≤ 2048) (hm4 : m1 * q1 = n4) :
    Calls Try.prog 51 #[.agg #[.int .i64 p, .int .i64 q, .int .i64 X, .int .i64 Y, .int .i64 S, .slice A n c]] w fun e w' => ∃ A2 c2, e = .returned (.tuple #[.agg #[.int .i64 m1, .int .i64 q1, .int .i64 (X + S / 2), .int .i64 (Y + S / 2), .int .i64 (2 * S), .slice A2 n4 c2], .int .i64 0]) ∧ (Rd w' A2 n4 (ints .i64 (join14 p m1 zs n4)) ∧ Nw w.heap.size A2) ∧ Below w.heap.size w w' := by
  have K := St.start w
  have hl : zs.length = n := by rw [← h.1, ints_len]
  have h4 : 4 * n4 = n := by rw [← hn, hp, hq, Nat.mul_mul_mul_comm, hm4]
  have hn1 : 1 ≤ n4 ∧ n4 ≤ 1024 := by
    have a1 := Nat.mul_le_mul hm.2 hq1.2
    have a2 := Nat.mul_le_mul hm.1 hq1.1
    omega
  have hn5 : n ≤ 5000 := by omega
  have m1' : 8 * n4 ≤ 281474976710656 := by omega
  have m2' : n4 ≤ 4611686018427387904 := by omega
  obtain ⟨S4, hS4⟩ : ∃ S4, S / 2 = S4 := ⟨_, rfl⟩
  obtain ⟨S2, hS2⟩ : ∃ S2, 2 * S = S2 := ⟨_, rfl⟩
  obtain ⟨X2, hX2⟩ : ∃ X2, X + S4 = X2 := ⟨_, rfl⟩
  obtain ⟨Y2, hY2⟩ : ∃ Y2, Y + S4 = Y2 := ⟨_, rfl⟩
  rw [hS4, hS2, hX2, hY2]
  have d3 : decide (4096 < S2) = false := decide_eq_false (by omega)
  have c1h : Hid ((p : Int).tmod 2 = 0) := Lib.hid (by rw [Int.tmod_eq_emod_of_nonneg (by omega)]; omega)
  have c2h : Hid ((q : Int).tmod 2 = 0) := Lib.hid (by rw [Int.tmod_eq_emod_of_nonneg (by omega)]; omega)
  have c3h : Hid ((p : Int).tdiv 2 = (m1 : Int)) := Lib.hid (by rw [Int.tdiv_eq_ediv_of_nonneg (by omega)]; omega)
  have c4h : Hid ((q : Int).tdiv 2 = (q1 : Int)) := Lib.hid (by rw [Int.tdiv_eq_ediv_of_nonneg (by omega)]; omega)
  have c5h : Hid (S.tdiv 2 = S4) := Lib.hid (by rw [Int.tdiv_eq_ediv_of_nonneg (by omega)]; exact hS4)
  have c6h : Hid (wrap64 (2 * S) = S2) := Lib.hid (w64e (by omega) (by omega) hS2)
  have c7h : Hid ((n : Int).tdiv 4 = (n4 : Int)) := Lib.hid (by rw [Int.tdiv_eq_ediv_of_nonneg (by omega)]; omega)
  have e1h : Hid (IntKind.i64.wrap (m1 : Int) = m1) := Lib.hid (IntWalk.i64_in _ (by omega))
  have e2h : Hid (IntKind.i64.wrap (q1 : Int) = q1) := Lib.hid (IntWalk.i64_in _ (by omega))
  have e3h : Hid (IntKind.i64.wrap S4 = S4) := Lib.hid (IntWalk.i64_in _ (by omega))
  have e4h : Hid (IntKind.i64.wrap (2 * S) = S2) := Lib.hid ((IntWalk.i64_in _ (by omega)).trans hS2)
  have e5h : Hid (IntKind.i64.wrap (X + S4) = X2) := Lib.hid ((IntWalk.i64_in _ (by omega)).trans hX2)
  have e6h : Hid (IntKind.i64.wrap (Y + S4) = Y2) := Lib.hid ((IntWalk.i64_in _ (by omega)).trans hY2)
  have e7h : Hid (IntKind.i64.wrap (n4 : Int) = n4) := Lib.hid (IntWalk.i64_in _ (by omega))
  have HR := Lib.hid h
  have HL := Lib.hid hl
  have HZ := Lib.hid hb
  have HN := Lib.hid (And.intro hn (And.intro hp (And.intro hq (And.intro hm (And.intro hm4 (And.intro h4 (And.intro hq1 hn1)))))))
  clear h hl hb hn hp hq hm hq1 hX hY hS hm4 h4 hn1 hS4 hS2 hX2 hY2
  have c1 := c1h.out
  have c2 := c2h.out
  have c3 := c3h.out
  have c4 := c4h.out
  have c5 := c5h.out
  have c6 := c6h.out
  have c7 := c7h.out
  have e1 := e1h.out
  have e2 := e2h.out
  have e3 := e3h.out
  have e4 := e4h.out
  have e5 := e5h.out
  have e6 := e6h.out
  have e7 := e7h.out
  go_enter Try.func51, Try.ntmps51
  go_wp2_with (first|((with_reducible refine at_load ?_);first|(refine wm_own (cs := ?_) (t := ?_) (v := ?_) K rfl _ _ rfl rfl ?_ ?_ ?_ ?_;rotate_left 2;(repeat (first|exact At.hd|refine At.tl ?_));rotate_left;(exact rfl);(with_reducible first|exact one2|exact one3)))|((first|((with_reducible refine at_box ?_);refine wm_box K rfl _ _ rfl rfl rfl ?_)|((with_reducible refine at_alloc ?_);refine wm_alloc (v := ?_) (cs := ?_) K rfl _ rfl ?_ ?_ ?_;rotate_left;(with_reducible first|exact zero47);rotate_left;exact rfl));(try clear K);(try clear ww);(first|((fail_if_success (have _h := r1));intro r1 ww K)|((fail_if_success (have _h := r2));intro r2 ww K));(try simp [go_sem, Value.cells] at K)))
  (try simp only [Act.put, List.setIfInBounds_toArray, List.set_cons_zero, List.set_cons_succ])
  go_cut [4] from 24 to 50 (fun p4 wc => ∃ r4 g : Nat, p4 = .pointer (some ⟨r4, 0, none⟩) ∧ St w.heap.size w [(r4, #[.int .i64 m1, .int .i64 q1, .int .i64 X2, .int .i64 Y2, .int .i64 S2, .slice (some ⟨g, 0, none⟩) n4 n4], 47), (g, (nums .i64 (List.replicate n4 0)).toArray, 2), (r2, #[.int .i64 0, .int .i64 0, .int .i64 0, .int .i64 0, .int .i64 0, .slice none 0 0], 47), (r1, #[.int .i64 p, .int .i64 q, .int .i64 X, .int .i64 Y, .int .i64 S, .slice A n c], 47)] Any wc)
  case first =>
    refine wm_tree _ (.take 0 (.take 1 (.take 2 (.take 3 (.take 4 (.take 5 (.take 6 (.take 7 (.take 8 (.take 9 (.take 10 (.take 11 (.take 12 (.take 13 (.take 14 (.take 15 (.take 16 (.take 17 (.take 18 (.take 19 (.take 20 (.take 21 (.take 22 (.take 23 (.take 24 (.alt 25 (.take 26 (.alt 27 (.alt 28 .done .stop) .stop)) (.alt 27 (.alt 25 (.take 26 (.alt 28 .done .stop)) .stop) .stop))))))))))))))))))))))))))) K sbr (by kernel_rfl) (by kernel_rfl) ?_; (try clear K); (try clear ww); intro ww K; (try simp [go_sem] at K)
    repeat' (first|exact tree_stop|(refine tm_own (cs := ?_) (t0 := ?_) (v := ?_) rfl rfl _ _ rfl rfl ?_ ?_ ?_ ?_;rotate_left 2;(repeat (first|exact At.hd|refine At.tl ?_));rotate_left;(exact rfl);(with_reducible first|exact one2|exact one3|exact one45))|(refine tree_take (fun K' hK' => ?_);simp only [opAt, List.getElem?_toArray, List.getElem?_cons_succ, List.getElem?_cons_zero, Option.getD_some];go_simp;first|(apply Exists.intro;refine ⟨?_, hK' _ ?_⟩;(intro _ _;rfl);clear hK' K'))|(refine tree_list rfl ?_ ?_;refine wm_make K rfl _ _ _ rfl Try.underlying45 num2 n4 rfl rfl rfl rfl m1' m2' ?_;intro g ww2 K2;refine wl_nil ⟨(by apply via sbr;first|exact K2.tail|exact K2.tail.tail), ?_⟩;replace K := K2;clear K2;(try clear ww);revert ww2;intro ww K)|(first|((fail_if_success (have _h := r4));refine tm_alloc (v := ?_) (cs := ?_) K rfl rfl _ rfl ?_ ?_ ?_ ?_;rotate_left;(with_reducible first|exact zero47);rotate_left;exact rfl;intro r4 ww2 K2;(try simp [go_sem, Value.cells] at K2);refine ⟨(by apply via sbr;first|exact K2.tail|exact K2.tail.tail), ?_⟩;replace K := K2;clear K2;(try clear ww);revert ww2;intro ww K))|(refine tm_store (L' := ?_) (cs := ?_) (t0 := ?_) (n := ?_) K rfl rfl _ _ _ rfl rfl rfl rfl ?_ ?_ ?_ ?_ ?_ ?_ ?_;rotate_left 3;(repeat (first|exact Put.hd|(refine Put.tl (L' := ?_) ?_;rotate_left)));rotate_left;(with_reducible first|exact row47);(exact rfl);(exact rfl);(simp [Ones, Value.oneCell']);intro ww2 K2;(try simp [go_sem] at K2);refine ⟨(by apply via sbr;first|exact K2.tail.tail), ?_⟩;replace K := K2;clear K2;(try clear ww);revert ww2;intro ww K))
    all_goals refine tree_done ?_
    all_goals (try simp only [opAt, List.getElem?_toArray, List.getElem?_cons_succ, List.getElem?_cons_zero, Option.getD_some])
    all_goals (try go_simp)
    all_goals (try go_wp2_with (fail))
    all_goals (try go_meet)
    all_goals first | exact ⟨_, _, rfl, K⟩ | exact ⟨_, _, rfl, K.perm (List.Perm.swap _ _ _)⟩
  case rest =>
    clear K
    obtain ⟨r4, g, rfl, K⟩ := hcut
    clear c1 c2 c3 c4 c5 c6 c7 e1 e2 e3 e4 e5 e6 e7 c1h c2h c3h c4h c5h c6h c7h e1h e2h e3h e4h e5h e6h e7h d3 m1' m2'
    have HZ0 : Hid (((nums .i64 (List.replicate n4 0)).toArray : Array Value).size = n4 ∧ ((nums .i64 (List.replicate n4 0)).toArray : Array Value).toList.take n4 = ints .i64 (gen14 n4 (pjoin p m1 zs 0))) := Lib.hid (by
      rw [gen_zero]; exact zeros_at n4)
    generalize (nums .i64 (List.replicate n4 0)).toArray = cur0 at *
    go_wp2_with (first|((with_reducible refine at_load ?_);first|(refine wm_own (cs := ?_) (t := ?_) (v := ?_) K rfl _ _ rfl rfl ?_ ?_ ?_ ?_;rotate_left 2;(repeat (first|exact At.hd|refine At.tl ?_));rotate_left;(exact rfl);(with_reducible first|exact one45))))
    go_loopw [54] (fun i wr => ∃ (k : Nat) (cur : Array Value), k ≤ n ∧ i = .int .i64 k ∧ Hid (cur.size = n4 ∧ cur.toList.take n4 = ints .i64 (gen14 n4 (pjoin p m1 zs k))) ∧ St w.heap.size w [(r4, #[.int .i64 m1, .int .i64 q1, .int .i64 X2, .int .i64 Y2, .int .i64 S2, .slice (some ⟨g, 0, none⟩) n4 n4], 47), (g, cur, 2), (r2, #[.int .i64 0, .int .i64 0, .int .i64 0, .int .i64 0, .int .i64 0, .slice none 0 0], 47), (r1, #[.int .i64 p, .int .i64 q, .int .i64 X, .int .i64 Y, .int .i64 S, .slice A n c], 47)] Any wr) (fun i _ => n - (intOf i).toNat)
    case atStart => exact ⟨0, cur0, Nat.zero_le _, rfl, HZ0, K⟩
    case round =>
      clear K HZ0
      obtain ⟨i, cur, hi, rfl, HU, K⟩ := hrel
      by_cases hlt : i < n
      · have ht : decide ((i : Int) < n) = true := decide_eq_true (by omega)
        obtain ⟨hn, hp, hq, hm, hm4, h4, hq1, hn1⟩ := HN.out
        have hd := dest_lt (p := p) (m := m1) (q2 := q1) (i := i) hp (by omega) (by rw [← hq, hn]; exact hlt)
        rw [hm4] at hd
        have hsc := scatter_step (n4 := n4) (zs := zs) hp (by omega) hd
        have hcell := row_at HU.out.2 (gen_len _ _) hd
        have hob := pjoin_bd (p := p) (m := m1) (i := i) (k := dest14 p m1 i) HZ.out
        rw [gen_get _ hd] at hsc hcell
        obtain ⟨j, hj⟩ : ∃ j, dest14 p m1 i = j := ⟨_, rfl⟩
        rw [hj] at hd hsc hcell hob
        unfold dest14 at hj
        obtain ⟨d, hdd⟩ : ∃ d, i / p = d := ⟨_, rfl⟩
        obtain ⟨e, he⟩ : ∃ e, i % p = e := ⟨_, rfl⟩
        rw [hdd, he] at hj
        obtain ⟨yy, hyy⟩ : ∃ yy, d / 2 = yy := ⟨_, rfl⟩
        obtain ⟨xx, hxx⟩ : ∃ xx, e / 2 = xx := ⟨_, rfl⟩
        rw [hyy, hxx] at hj
        obtain ⟨R, hR⟩ : ∃ R, yy * m1 = R := ⟨_, rfl⟩
        rw [hR] at hj
        have hd2 : d ≤ i := by rw [← hdd]; exact Nat.div_le_self _ _
        have c1h : Hid ((i : Int).tmod (p : Int) = (e : Int)) := Lib.hid (by rw [Int.tmod_eq_emod_of_nonneg (by omega), ← Int.natCast_emod, he])
        have c2h : Hid ((e : Int).tdiv 2 = (xx : Int)) := Lib.hid (by rw [Int.tdiv_eq_ediv_of_nonneg (by omega)]; omega)
        have c3h : Hid ((i : Int).tdiv (p : Int) = (d : Int)) := Lib.hid (by rw [Int.tdiv_eq_ediv_of_nonneg (by omega), ← Int.natCast_ediv, hdd])
        have c4h : Hid ((d : Int).tdiv 2 = (yy : Int)) := Lib.hid (by rw [Int.tdiv_eq_ediv_of_nonneg (by omega)]; omega)
        have c5h : Hid (IntKind.i64.wrap (xx : Int) = xx) := Lib.hid (IntWalk.i64_in _ (by omega))
        have c6h : Hid (IntKind.i64.wrap (yy : Int) = yy) := Lib.hid (IntWalk.i64_in _ (by omega))
        have c7h : Hid (IntKind.i64.wrap (d : Int) = d) := Lib.hid (IntWalk.i64_in _ (by omega))
        have c8h : Hid (IntKind.i64.wrap ((yy : Int) * (m1 : Int)) = (R : Int)) := Lib.hid (by rw [← Int.natCast_mul, hR]; exact IntWalk.i64_in _ (by omega))
        have c9h : Hid (IntKind.i64.wrap ((R : Int) + (xx : Int)) = (j : Int)) := Lib.hid ((IntWalk.i64_in _ (by omega)).trans (by omega))
        have c0 : (p = 0) = False := by simp; omega
        have hil : i < zs.length := by rw [HL.out]; exact hlt
        have hz := HZ.out _ (getD_mem hil)
        obtain ⟨r0, off, rfl, hbb, hc⟩ := HR.out.get hlt
        have hv := hc i _ (ints_get .i64 zs i hil)
        generalize zs.getD i 0 = z at *
        generalize pjoin p m1 zs i j = o at *
        have z1h : Hid (IntKind.i64.wrap (o + z) = o + z) := Lib.hid (IntWalk.i64_in _ (by omega))
        have hput := row_put (i := j) (x := o + z) HU.out.2
        rw [hsc] at hput
        have HN2 : Hid ((cur.setIfInBounds j (.int .i64 (o + z))).size = n4 ∧ (cur.setIfInBounds j (.int .i64 (o + z))).toList.take n4 = ints .i64 (gen14 n4 (pjoin p m1 zs (i + 1)))) := Lib.hid ⟨by rw [Array.size_setIfInBounds]; exact HU.out.1, hput⟩
        have hink : j < cur.size := by rw [HU.out.1]; exact hd
        clear hn hp hq hm hm4 h4 hq1 hn1 hsc hob hj hdd he hyy hxx hR hd2 hil hz hc hput
        have c1 := c1h.out
        have c2 := c2h.out
        have c3 := c3h.out
        have c4 := c4h.out
        have c5 := c5h.out
        have c6 := c6h.out
        have c7 := c7h.out
        have c8 := c8h.out
        have c9 := c9h.out
        have z1 := z1h.out
        go_wp2_with (first|((with_reducible refine at_load ?_);first|(refine wm_cell (v := ?_) rfl _ _ rfl rfl ?_ ?_ ?_;rotate_left;(first|exact (K.below.cell (by assumption)).trans (by assumption));(with_reducible first|exact one2))))
        refine wm_held _ [(true, 0), (true, 1), (true, 2), (true, 3), (true, 4), (true, 5), (true, 6), (true, 7), (true, 8), (true, 9), (true, 10), (true, 11), (true, 12), (true, 13), (true, 14), (true, 15), (true, 16), (true, 18), (false, 17), (true, 19), (true, 20), (false, 21)] K sbk1 (by kernel_rfl) (by kernel_rfl) ?_; (try clear K); (try clear ww); intro ww K; (try simp [go_sem] at K); simp only [pick, List.getElem?_toArray, List.getElem?_cons_succ, List.getElem?_cons_zero]
        have hnow := (K.get (At.tl At.hd)).cell hcell
        repeat (first|((with_reducible refine ht_load ?_);first|(refine hm_own (cs := ?_) (t := ?_) (v := ?_) rfl _ _ rfl rfl ?_ ?_ ?_ ?_;rotate_left 2;(repeat (first|exact At.hd|refine At.tl ?_));rotate_left;(exact rfl);(with_reducible first|exact one3|exact one45)))|(refine held_take (fun K' hK' => ?_);go_simp;first|(apply Exists.intro;refine ⟨?_, hK' _ ?_⟩;(intro _ _;rfl);clear hK' K'))|((with_reducible refine ht_store ?_);first|(refine hm_put (L' := ?_) (cs := ?_) (new := ?_) (t := ?_) K rfl _ _ _ rfl rfl rfl rfl ?_ ?_ ?_ ?_ rfl rfl ?_;rotate_left 4;(repeat (first|exact Put.hd|(refine Put.tl (L' := ?_) ?_;rotate_left)));(omega);(exact rfl);(with_reducible first|exact one2);(try clear K);(try clear ww);intro ww K;(try simp [go_sem] at K);refine ⟨(by apply via sbk1;first|exact K), ?_⟩))|((with_reducible refine ht_load ?_);refine hm_now (v := ?_) rfl _ _ rfl rfl ?_ ?_ (by apply via sbk1;first|exact K) ?_;rotate_left;(assumption);(with_reducible first|exact one2)))
        refine held_nil ?_
        clear c1 c2 c3 c4 c5 c6 c7 c8 c9 z1
        go_wp2_with fail
        exact ⟨⟨i + 1, _, by omega, by go_num, HN2, K⟩, by simp [intOf]; omega⟩
      · obtain rfl : n = i := by omega
        have ht : decide ((n : Int) < n) = false := decide_eq_false (by omega)
        have hlast : cur.toList.take n4 = ints .i64 (join14 p m1 zs n4) := by
          obtain ⟨hn, hp, hq, hm, hm4, h4, hq1, hn1⟩ := HN.out
          have hg := gen_join (zs := zs) (q1 := q1) hp (by omega)
          rw [← hq, hn, hm4] at hg
          rw [HU.out.2, hg]
        have HX := Lib.hid (And.intro hlast (show n4 ≤ cur.size by rw [HU.out.1]; exact Nat.le_refl _))
        clear hlast
        go_wp2_with (first|((with_reducible refine at_load ?_);first|(refine wm_load (cs := ?_) (t := ?_) (n := ?_) K rfl _ _ rfl rfl ?_ ?_ ?_ ?_;rotate_left 2;(repeat (exact At.hd));rotate_left;(with_reducible first|exact row47);(exact rfl)))|((with_reducible refine at_store ?_);(first|(refine wm_store (L' := ?_) (cs := ?_) (t := ?_) (n := ?_) K rfl _ _ _ rfl rfl rfl rfl ?_ ?_ ?_ ?_ ?_ ?_;rotate_left 3;(repeat (first|exact Put.hd|(refine Put.tl (L' := ?_) ?_;rotate_left)));rotate_left;(with_reducible first|exact row47);(exact rfl);(exact rfl);(simp [Ones, Value.oneCell'])));(try clear K);(try clear ww);intro ww K;(try simp [go_sem] at K)))
        refine bodyPost_ret (K.res2 rfl _ rfl (At.tl (At.tl At.hd)) (by (with_reducible first|exact row47)) (by (exact rfl)) rfl) rfl ?_
        exact ⟨some ⟨g, 0, none⟩, n4, rfl, ⟨(sl_take (K.get (.tl .hd)) HX.out.1 HX.out.2).rd, Nw.mk _ _ _ (K.ge (.tl .hd))⟩, K.below⟩
end Go.Proofs.Yteancdipmpmjpaa
