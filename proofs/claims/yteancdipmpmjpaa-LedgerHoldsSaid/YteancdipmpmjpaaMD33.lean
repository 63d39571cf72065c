/-
  Lemmas and walks of this claim (the texts Dc18 Dd18 De18 Df18 Dg18 of the work; what no proof here uses is left out). No claim of their own.
-/
import Derived.Test.YteancdipmpmjpaaMD32
import Derived.Test.YteancdipmpmjpaaMD26
import Derived.Test.YteancdipmpmjpaaMD5
import Derived.Test.YteancdipmpmjpaaMD27
import Derived.Test.YteancdipmpmjpaaMD31
set_option linter.all false
set_option linter.unusedSimpArgs false
set_option linter.unusedVariables false
namespace Go.Proofs.Yteancdipmpmjpaa
open Go.RowKit
attribute [local irreducible] wpHeld wpTree wpList
set_option linter.unusedVariables false
set_option maxRecDepth 100000 in
set_option maxHeartbeats 8000000 in
theorem doC18 (k p q n c c2 : Nat) (X Y S B T : Int) (A A2 : Option Addr) (zs : List Int) (us : List Nat) (r : OpRec) (w : World) (h : Rd w A n (ints .i64 zs)) (h2 : Fn w A2 n us) (hb : Play18 k p q n X Y S zs us B T) (hk : k ≤ 8) (hg : OpGood w r) (hkd : r.kd.tmod 5 = 2) :
    Calls Try.prog 30 #[.agg #[.int .i64 p, .int .i64 q, .int .i64 X, .int .i64 Y, .int .i64 S, .slice A n c, .int .i64 p, .int .i64 q, .slice A2 n c2, .int .i64 B, .int .i64 T], .agg (opCells r)] w fun e w' => ∃ (ok : Bool) (p' q' n' : Nat) (X' Y' S' B' T' : Int) (A' : Option Addr) (c' : Nat) (A2' : Option Addr) (c2' : Nat) (zs' : List Int) (us' : List Nat), e = .returned (.tuple #[.agg #[.int .i64 (p'), .int .i64 (q'), .int .i64 (X'), .int .i64 (Y'), .int .i64 (S'), .slice A' n' c', .int .i64 p', .int .i64 q', .slice A2' n' c2', .int .i64 (B'), .int .i64 (T')], .bool ok]) ∧ Play18 (k + 1) p' q' n' X' Y' S' zs' us' B' T' ∧ ((Rd w' A' n' (ints .i64 zs') ∧ Nw w.heap.size A') ∧ (Fn w' A2' n' us' ∧ Nw w.heap.size A2') ∨ (A' = A ∧ A2' = A2 ∧ n' = n ∧ zs' = zs ∧ us' = us)) ∧ Below w.heap.size w w' := by
  obtain ⟨kd, q0, la, ln, lc, ls, x, y, cw, ch⟩ := r
  dsimp only [opCells]
  have K := St.start w
  have HR := Lib.hid h
  have HR2 := Lib.hid h2
  have HB := Lib.hid hb
  have HG := Lib.hid hg
  have c14h : Hid (kd.tmod 5 = 2) := Lib.hid hkd
  have c15h : Hid (kd % 5 = 2) := Lib.hid (by rw [← Int.tmod_eq_emod_of_nonneg hg.kd.1]; exact hkd)
  have hlim := M17_lim (k := k) (by omega)
  obtain ⟨ys, hbo⟩ := hb.both
  have hnm := hb.hold.nums
  have hn64 := hb.hold.n1
  have hT := hb.hT
  have hB0 := hb.hold.b0
  have hB1 := hb.hold.b1
  have hS0 : 16 ≤ S ∧ S ≤ 4096 := by have := hb.hS; omega
  have hX := hb.hX
  have hY := hb.hY
  have hpb := hbo.hp
  have hqb := hbo.hq
  obtain ⟨c1, hc1⟩ : ∃ c1 : Nat, 1 + cw % 8 = (c1 : Int) := ⟨(1 + cw % 8).toNat, by omega⟩
  obtain ⟨d1, hd1⟩ : ∃ d1 : Nat, 1 + ch % 8 = (d1 : Int) := ⟨(1 + ch % 8).toNat, by omega⟩
  have hcb : 1 ≤ c1 ∧ c1 ≤ 8 := by omega
  have hdb : 1 ≤ d1 ∧ d1 ≤ 8 := by omega
  have hxb := hg.x
  have hyb := hg.y
  dsimp only at hxb hyb
  obtain ⟨m, hm⟩ : ∃ m, c1 * d1 = m := ⟨_, rfl⟩
  have SD := Lib.hid (fun (w : World) => Sides17 kd q0 x y cw ch la ln lc w hg.cw hg.ch)
  rw [hc1, hd1] at SD
  have hnI : (p : Int) * (q : Int) = n := by rw [← Int.natCast_mul, Nat.mul_comm, hbo.hn]
  have w1h : Hid (IntKind.i64.wrap x = x) := Lib.hid (IntWalk.i64_in _ (by omega))
  have w2h : Hid (IntKind.i64.wrap y = y) := Lib.hid (IntWalk.i64_in _ (by omega))
  have SM := Lib.hid (fun (w : World) (h : Rd w A n (ints .i64 zs)) => RSum14 A n c zs w h (small_bd hnm) (by omega))
  by_cases hj : cutok x y c1 d1 = true
  · have hcI : (c1 : Int) * (d1 : Int) = m := by rw [← Int.natCast_mul, hm]
    have hm64 : m ≤ 64 := by rw [← hm]; exact Nat.mul_le_mul hcb.2 hdb.2
    have PS := Lib.hid (fun (w : World) (h : Fn w A2 n us) => Cut17 p q c1 d1 m n c2 x y A2 us w h hnI ⟨hbo.hp.1, by have := hbo.hp.2; omega⟩ ⟨hbo.hq.1, by have := hbo.hq.2; omega⟩ (by omega) (by omega) hcb hdb hm)
    have GC := Lib.hid (fun (w : World) (h : Rd w A n (ints .i64 zs)) => GCut14 p q X Y S x y c1 d1 A n c m zs w h hnI (by omega) (by omega) (by omega) (by omega) hj hcI)
    have hcz : ∀ z ∈ cut14 p q zs x y c1 m, 0 ≤ z ∧ z ≤ 1073741824 := gen_mem fun i _ => cutv_bd hnm i
    have SC := Lib.hid (fun (A3 : Option Addr) (c3 : Nat) (w : World) (h : Rd w A3 m (ints .i64 (cut14 p q zs x y c1 m))) => RSum14 A3 m c3 _ w h (small_bd hcz) (by omega))
    have his : 0 ≤ isum zs ∧ isum zs ≤ 1073741824 := ⟨Int.le_of_lt hb.hold.pos, hb.hold.top⟩
    have hz5 : isum (cut14 p q zs x y c1 m) ≤ 64 * 1073741824 := by
      have a := (isum_bd (M := 1073741824) (by decide) (fun z hz => by have := hcz z hz; omega)).2
      rw [show (cut14 p q zs x y c1 m).length = m from gen_len _ _] at a
      omega
    have hz0 : 0 ≤ isum (cut14 p q zs x y c1 m) := isum_nonneg (fun z hz => (hcz z hz).1)
    by_cases hp : 0 < isum (cut14 p q zs x y c1 m)
    · have GN := Lib.hid (fun (A3 : Option Addr) (c3 : Nat) (w : World) (h : Rd w A3 m (ints .i64 (cut14 p q zs x y c1 m))) => GNorm14 c1 d1 (X + x * S) (Y + y * S) S A3 m c3 _ w h hcz (by omega) hp)
      have LS := Lib.hid (fun (w : World) => Cut18_any B T m (isum zs) (isum (cut14 p q zs x y c1 m)) w hB0 hB1 hT.1 (by omega) (by omega) (by omega) his.1 his.2 (by omega) (by omega))
      have FIN := Lib.hid (hb.cut hk hxb hyb hcb hdb hm hp)
      generalize norm14 (isum (cut14 p q zs x y c1 m)) (cut14 p q zs x y c1 m) = nz at *
      generalize plus18 (scal18 B 1 (isum zs) (isum (cut14 p q zs x y c1 m))) (cost18 m) = B2 at *
      clear hcz his hp hz5 hz0
      generalize cut14 p q zs x y c1 m = tz at *
      generalize cutN p q us x y c1 m = nu at *
      generalize X + x * S = X2 at *
      generalize Y + y * S = Y2 at *
      generalize isum zs = s0 at *
      generalize isum tz = z0 at *
      obtain ⟨T2, hT2⟩ : ∃ T2, T + 1 = T2 := ⟨_, rfl⟩
      rw [hT2] at FIN LS
      clear h h2 hb hg hkd hlim hT2 hT hB0 hB1 hn64 hnm hbo ys hj hS0 hX hY hpb hqb hc1 hd1 hcb hdb hxb hyb hm hnI hcI
      have c14 := c14h.out
      have c15 := c15h.out
      have w1 := w1h.out
      have w2' := w2h.out
      go_enter Try.func30, Try.ntmps30
      go_wp2_with (first|((with_reducible refine at_load ?_);first|(refine wm_load (cs := ?_) (t := ?_) (n := ?_) K rfl _ _ rfl rfl ?_ ?_ ?_ ?_;rotate_left 2;(repeat (first|exact At.hd|refine At.tl ?_));rotate_left;(with_reducible first|exact row47|exact row54|exact row59);(solve|exact rfl|simp))|(refine wm_own (cs := ?_) (t := ?_) (v := ?_) K rfl _ _ rfl rfl ?_ ?_ ?_ ?_;rotate_left 2;(repeat (first|exact At.hd|refine At.tl ?_));rotate_left;(exact rfl);(with_reducible first|exact one5|exact one45|exact one57)))|((with_reducible refine at_store ?_);(first|(refine wm_store (L' := ?_) (cs := ?_) (t := ?_) (n := ?_) K rfl _ _ _ rfl rfl rfl rfl ?_ ?_ ?_ ?_ ?_ ?_;rotate_left 3;(repeat (first|exact Put.hd|(refine Put.tl (L' := ?_) ?_;rotate_left)));rotate_left;(with_reducible first|exact row47|exact row54);(exact rfl);(solve|exact rfl|simp);(simp [Ones, Value.oneCell'])));(try clear K);(try clear ww);intro ww K;(try simp [go_sem] at K))|((first|((with_reducible refine at_box ?_);refine wm_box K rfl _ _ rfl rfl rfl ?_)|((with_reducible refine at_alloc ?_);refine wm_alloc (v := ?_) (cs := ?_) K rfl _ rfl ?_ ?_ ?_;rotate_left;(with_reducible first|exact zero47|exact zero54);rotate_left;exact rfl));(try clear K);(try clear ww);(first|((fail_if_success (have _h := b2));intro b2 ww K)|((fail_if_success (have _h := b3));intro b3 ww K)|((fail_if_success (have _h := b4));intro b4 ww K)|((fail_if_success (have _h := b6));intro b6 ww K)|((fail_if_success (have _h := b7));intro b7 ww K));(try simp [go_sem, Value.cells] at K))|((with_reducible refine at_load ?_);refine wm_partE (cs := ?_) (t := ?_) (n := ?_) (l := ?_) K rfl _ _ rfl rfl ?_ ?_ ?_ ?_ ?_;rotate_left 2;(repeat (first|exact At.hd|refine At.tl ?_));rotate_left;(with_reducible first|exact row47);rotate_left;(simp only [List.drop_succ_cons, List.drop_zero, List.take_succ_cons, List.take_zero];exact rfl);exact rfl)|((with_reducible refine at_store ?_);refine wm_storePartE (L' := ?_) (cs := ?_) (new := ?_) (t := ?_) (n := ?_) K rfl _ _ _ rfl rfl rfl rfl ?_ ?_ ?_ ?_ ?_ ?_ ?_;rotate_left 4;(repeat (first|exact Put.hd|(refine Put.tl (L' := ?_) ?_;rotate_left)));(simp only [over, List.setIfInBounds_toArray, List.set_cons_succ, List.set_cons_zero, Nat.reduceAdd];exact rfl);rotate_left;(with_reducible first|exact row47);exact rfl;exact Nat.le_of_ble_eq_true rfl;(simp [Ones, Value.oneCell']);(try clear K);(try clear ww);intro ww K;(try simp [go_sem] at K))|(go_at_call 42;(with_reducible refine (SM.out _ (HR.out.below K.below)).mono ?_);rintro e w2 ⟨rfl, k1⟩;replace K := K.step k1;clear k1;(try clear ww);revert w2;intro ww K)|(go_at_call 68;(with_reducible refine (SD.out _).mono ?_);rintro e w2 ⟨rfl, k1⟩;replace K := K.step k1;clear k1;(try clear ww);revert w2;intro ww K)|(go_at_call 47;(with_reducible refine (GC.out _ (HR.out.below K.below)).mono ?_);rintro e w2 ⟨A3, c3, rfl, ⟨hx, hA⟩, hbel⟩;(try dsimp only);replace K := K.madeRd hbel hx hA;clear hbel hx hA;(try clear ww);revert w2;intro ww K)|(go_at_call 42;(with_reducible refine (SC.out _ c3 _ K.fact.1).mono ?_);rintro e w2 ⟨rfl, k1⟩;replace K := K.step k1;clear k1;(try clear ww);revert w2;intro ww K)|(go_at_call 38;(with_reducible refine (GN.out _ c3 _ K.fact.1).mono ?_);rintro e w2 ⟨A4, c4, rfl, ⟨hx, hA⟩, hbel⟩;(try dsimp only);have hN4 := hA.mono K.size;replace K := K.madeRd hbel hx hA;clear hbel hx hA;(try clear ww);revert w2;intro ww K))
      clear c14 c15
      refine wm_held _ [(true, 0), (true, 1), (true, 2), (true, 3), (true, 4), (true, 5), (true, 6), (true, 7), (true, 8), (true, 9), (true, 11), (true, 12), (true, 13), (true, 14), (true, 15), (true, 16), (true, 17), (false, 10), (true, 19), (false, 18), (false, 20), (true, 21), (false, 22)] K sbk1 (by kernel_rfl) (by kernel_rfl) ?_; (try clear K); (try clear ww); intro ww K; (try simp [go_sem] at K); simp only [pick, List.getElem?_toArray, List.getElem?_cons_succ, List.getElem?_cons_zero]
      repeat (first|((with_reducible refine ht_load ?_);first|(refine hm_own (cs := ?_) (t := ?_) (v := ?_) rfl _ _ rfl rfl ?_ ?_ ?_ ?_;rotate_left 2;(repeat (first|exact At.hd|refine At.tl ?_));rotate_left;(exact rfl);(with_reducible first|exact one45|exact one57)))|(refine held_take (fun K' hK' => ?_);go_simp;first|(apply Exists.intro;refine ⟨?_, hK' _ ?_⟩;(intro _ _;rfl);clear hK' K'))|((with_reducible refine ht_load ?_);refine hm_partE (cs := ?_) (t := ?_) (n := ?_) (l := ?_) rfl _ _ rfl rfl ?_ ?_ ?_ ?_ ?_;rotate_left 2;(repeat (first|exact At.hd|refine At.tl ?_));rotate_left;(with_reducible first|exact row35|exact row51);rotate_left;(simp only [List.drop_succ_cons, List.drop_zero, List.take_succ_cons, List.take_zero];exact rfl);exact rfl)|((with_reducible refine ht_store ?_);refine hm_storePartE (L' := ?_) (cs := ?_) (new := ?_) (t := ?_) (n := ?_) K rfl _ _ _ rfl rfl rfl rfl ?_ ?_ ?_ ?_ ?_ ?_ ?_;rotate_left 4;(repeat (first|exact Put.hd|(refine Put.tl (L' := ?_) ?_;rotate_left)));(simp only [over, List.setIfInBounds_toArray, List.set_cons_succ, List.set_cons_zero, Nat.reduceAdd];exact rfl);rotate_left;(with_reducible first|exact row35|exact row51);exact rfl;exact Nat.le_of_ble_eq_true rfl;(simp [Ones, Value.oneCell']);(try clear K);(try clear ww);intro ww K;(try simp [go_sem] at K);refine ⟨(by apply via sbk1;first|exact K.weak wk1), ?_⟩)|(refine held_do (fun K' hK' => ?_);go_simp;go_at_call 69;have zz := PS.out _ (HR2.out.below K.below);(with_reducible refine zz.mono ?_);clear zz;rintro e w2 ⟨Af, cf, rfl, ⟨hx, hA⟩, hbel⟩;(try dsimp only);have hN1 := hA.mono K.size;have K2 := K.madeFn (noT_of rfl) hbel hx hA;refine hK' _ _ (by apply via sbk1;first|exact K2.weak wk1) ?_;replace K := K2;clear hK' K' K2 hbel hx hA;(try clear ww);revert w2;intro ww K)|(refine held_do (fun K' hK' => ?_);go_simp;go_at_call 22;(with_reducible refine (LS.out _).mono ?_);rintro e w2 ⟨rfl, k1⟩;replace K := K.step k1;clear k1;(try clear ww);revert w2;intro ww K;(try dsimp only);refine hK' _ _ (by apply via sbk1;first|exact K.weak wk1) ?_;clear hK' K'))
      refine held_nil ?_
      clear w1 w2'
      (try go_wp2_with (first|((with_reducible refine at_load ?_);first|(refine wm_load (cs := ?_) (t := ?_) (n := ?_) K rfl _ _ rfl rfl ?_ ?_ ?_ ?_;rotate_left 2;(repeat (first|exact At.hd|refine At.tl ?_));rotate_left;(with_reducible first|exact row54);(exact rfl)))|((with_reducible refine at_store ?_);(first|(refine wm_store (L' := ?_) (cs := ?_) (t := ?_) (n := ?_) K rfl _ _ _ rfl rfl rfl rfl ?_ ?_ ?_ ?_ ?_ ?_;rotate_left 3;(repeat (first|exact Put.hd|(refine Put.tl (L' := ?_) ?_;rotate_left)));rotate_left;(with_reducible first|exact row54);(exact rfl);(exact rfl);(simp [Ones, Value.oneCell'])));(try clear K);(try clear ww);intro ww K;(try simp [go_sem] at K))))
      refine bodyPost_ret (K.res2 rfl _ rfl (At.tl (At.tl At.hd)) (by (with_reducible first|exact row54)) (by (exact rfl)) rfl) rfl ?_
      exact ⟨true, c1, d1, m, X2, Y2, S, B2, T2, A4, c4, Af, cf, nz, nu, rfl, FIN.out, .inl ⟨⟨K.fact.2.1, hN4⟩, ⟨K.fact.1, hN1⟩⟩, K.below⟩
    · have GN := Lib.hid (fun (A3 : Option Addr) (c3 : Nat) (w : World) (h : Rd w A3 m (ints .i64 (cut14 p q zs x y c1 m))) => GNorm14_none c1 d1 (X + x * S) (Y + y * S) S A3 m c3 _ w h hcz (by omega) (by omega))
      have LS := Lib.hid (fun (w : World) => Cut18_any B T m (isum zs) (isum (cut14 p q zs x y c1 m)) w hB0 hB1 hT.1 (by omega) (by omega) (by omega) his.1 his.2 (by omega) (by omega))
      clear hcz his hp hz5 hz0
      generalize cut14 p q zs x y c1 m = tz at *
      generalize cutN p q us x y c1 m = nu at *
      generalize X + x * S = X2 at *
      generalize Y + y * S = Y2 at *
      generalize isum zs = s0 at *
      generalize isum tz = z0 at *
      clear h h2 hb hg hkd hlim hT hB0 hB1 hn64 hnm hbo ys hj hS0 hX hY hpb hqb hc1 hd1 hcb hdb hxb hyb hm hnI hcI
      have c14 := c14h.out
      have c15 := c15h.out
      have w1 := w1h.out
      have w2' := w2h.out
      go_enter Try.func30, Try.ntmps30
      go_wp2_with (first|((with_reducible refine at_load ?_);first|(refine wm_load (cs := ?_) (t := ?_) (n := ?_) K rfl _ _ rfl rfl ?_ ?_ ?_ ?_;rotate_left 2;(repeat (first|exact At.hd|refine At.tl ?_));rotate_left;(with_reducible first|exact row47|exact row54|exact row59);(solve|exact rfl|simp))|(refine wm_own (cs := ?_) (t := ?_) (v := ?_) K rfl _ _ rfl rfl ?_ ?_ ?_ ?_;rotate_left 2;(repeat (first|exact At.hd|refine At.tl ?_));rotate_left;(exact rfl);(with_reducible first|exact one5|exact one45|exact one57)))|((with_reducible refine at_store ?_);(first|(refine wm_store (L' := ?_) (cs := ?_) (t := ?_) (n := ?_) K rfl _ _ _ rfl rfl rfl rfl ?_ ?_ ?_ ?_ ?_ ?_;rotate_left 3;(repeat (first|exact Put.hd|(refine Put.tl (L' := ?_) ?_;rotate_left)));rotate_left;(with_reducible first|exact row47|exact row54);(exact rfl);(solve|exact rfl|simp);(simp [Ones, Value.oneCell'])));(try clear K);(try clear ww);intro ww K;(try simp [go_sem] at K))|((first|((with_reducible refine at_box ?_);refine wm_box K rfl _ _ rfl rfl rfl ?_)|((with_reducible refine at_alloc ?_);refine wm_alloc (v := ?_) (cs := ?_) K rfl _ rfl ?_ ?_ ?_;rotate_left;(with_reducible first|exact zero47|exact zero54);rotate_left;exact rfl));(try clear K);(try clear ww);(first|((fail_if_success (have _h := b2));intro b2 ww K)|((fail_if_success (have _h := b3));intro b3 ww K)|((fail_if_success (have _h := b4));intro b4 ww K)|((fail_if_success (have _h := b6));intro b6 ww K)|((fail_if_success (have _h := b7));intro b7 ww K));(try simp [go_sem, Value.cells] at K))|((with_reducible refine at_load ?_);refine wm_partE (cs := ?_) (t := ?_) (n := ?_) (l := ?_) K rfl _ _ rfl rfl ?_ ?_ ?_ ?_ ?_;rotate_left 2;(repeat (first|exact At.hd|refine At.tl ?_));rotate_left;(with_reducible first|exact row47);rotate_left;(simp only [List.drop_succ_cons, List.drop_zero, List.take_succ_cons, List.take_zero];exact rfl);exact rfl)|((with_reducible refine at_store ?_);refine wm_storePartE (L' := ?_) (cs := ?_) (new := ?_) (t := ?_) (n := ?_) K rfl _ _ _ rfl rfl rfl rfl ?_ ?_ ?_ ?_ ?_ ?_ ?_;rotate_left 4;(repeat (first|exact Put.hd|(refine Put.tl (L' := ?_) ?_;rotate_left)));(simp only [over, List.setIfInBounds_toArray, List.set_cons_succ, List.set_cons_zero, Nat.reduceAdd];exact rfl);rotate_left;(with_reducible first|exact row47);exact rfl;exact Nat.le_of_ble_eq_true rfl;(simp [Ones, Value.oneCell']);(try clear K);(try clear ww);intro ww K;(try simp [go_sem] at K))|(go_at_call 42;(with_reducible refine (SM.out _ (HR.out.below K.below)).mono ?_);rintro e w2 ⟨rfl, k1⟩;replace K := K.step k1;clear k1;(try clear ww);revert w2;intro ww K)|(go_at_call 68;(with_reducible refine (SD.out _).mono ?_);rintro e w2 ⟨rfl, k1⟩;replace K := K.step k1;clear k1;(try clear ww);revert w2;intro ww K)|(go_at_call 47;(with_reducible refine (GC.out _ (HR.out.below K.below)).mono ?_);rintro e w2 ⟨A3, c3, rfl, ⟨hx, hA⟩, hbel⟩;(try dsimp only);replace K := K.madeRd hbel hx hA;clear hbel hx hA;(try clear ww);revert w2;intro ww K)|(go_at_call 42;(with_reducible refine (SC.out _ c3 _ K.fact.1).mono ?_);rintro e w2 ⟨rfl, k1⟩;replace K := K.step k1;clear k1;(try clear ww);revert w2;intro ww K)|(go_at_call 38;(with_reducible refine (GN.out _ c3 _ K.fact.1).mono ?_);rintro e w2 ⟨rfl, k1⟩;replace K := K.step k1;clear k1;(try clear ww);revert w2;intro ww K))
      clear c14 c15
      refine wm_held _ [(true, 0), (true, 1), (true, 2), (true, 3), (true, 4), (true, 5), (true, 6), (true, 7), (true, 8), (true, 9), (true, 11), (true, 12), (true, 13), (true, 14), (true, 15), (true, 16), (true, 17), (false, 10), (true, 19), (false, 18), (false, 20), (true, 21), (false, 22)] K sbk1 (by kernel_rfl) (by kernel_rfl) ?_; (try clear K); (try clear ww); intro ww K; (try simp [go_sem] at K); simp only [pick, List.getElem?_toArray, List.getElem?_cons_succ, List.getElem?_cons_zero]
      repeat (first|((with_reducible refine ht_load ?_);first|(refine hm_own (cs := ?_) (t := ?_) (v := ?_) rfl _ _ rfl rfl ?_ ?_ ?_ ?_;rotate_left 2;(repeat (first|exact At.hd|refine At.tl ?_));rotate_left;(exact rfl);(with_reducible first|exact one45|exact one57)))|(refine held_take (fun K' hK' => ?_);go_simp;first|(apply Exists.intro;refine ⟨?_, hK' _ ?_⟩;(intro _ _;rfl);clear hK' K'))|((with_reducible refine ht_load ?_);refine hm_partE (cs := ?_) (t := ?_) (n := ?_) (l := ?_) rfl _ _ rfl rfl ?_ ?_ ?_ ?_ ?_;rotate_left 2;(repeat (first|exact At.hd|refine At.tl ?_));rotate_left;(with_reducible first|exact row35|exact row51);rotate_left;(simp only [List.drop_succ_cons, List.drop_zero, List.take_succ_cons, List.take_zero];exact rfl);exact rfl)|((with_reducible refine ht_store ?_);refine hm_storePartE (L' := ?_) (cs := ?_) (new := ?_) (t := ?_) (n := ?_) K rfl _ _ _ rfl rfl rfl rfl ?_ ?_ ?_ ?_ ?_ ?_ ?_;rotate_left 4;(repeat (first|exact Put.hd|(refine Put.tl (L' := ?_) ?_;rotate_left)));(simp only [over, List.setIfInBounds_toArray, List.set_cons_succ, List.set_cons_zero, Nat.reduceAdd];exact rfl);rotate_left;(with_reducible first|exact row35|exact row51);exact rfl;exact Nat.le_of_ble_eq_true rfl;(simp [Ones, Value.oneCell']);(try clear K);(try clear ww);intro ww K;(try simp [go_sem] at K);refine ⟨(by apply via sbk1;first|exact K.weak wk1), ?_⟩)|(refine held_do (fun K' hK' => ?_);go_simp;go_at_call 69;have zz := PS.out _ (HR2.out.below K.below);(with_reducible refine zz.mono ?_);clear zz;rintro e w2 ⟨Af, cf, rfl, ⟨hx, hA⟩, hbel⟩;(try dsimp only);have hN1 := hA.mono K.size;have K2 := K.madeFn (noT_of rfl) hbel hx hA;refine hK' _ _ (by apply via sbk1;first|exact K2.weak wk1) ?_;replace K := K2;clear hK' K' K2 hbel hx hA;(try clear ww);revert w2;intro ww K)|(refine held_do (fun K' hK' => ?_);go_simp;go_at_call 22;(with_reducible refine (LS.out _).mono ?_);rintro e w2 ⟨rfl, k1⟩;replace K := K.step k1;clear k1;(try clear ww);revert w2;intro ww K;(try dsimp only);refine hK' _ _ (by apply via sbk1;first|exact K.weak wk1) ?_;clear hK' K'))
      refine held_nil ?_
      clear w1 w2'
      (try go_wp2_with (first|((with_reducible refine at_load ?_);first|(refine wm_load (cs := ?_) (t := ?_) (n := ?_) K rfl _ _ rfl rfl ?_ ?_ ?_ ?_;rotate_left 2;(repeat (first|exact At.hd|refine At.tl ?_));rotate_left;(with_reducible first|exact row54);(exact rfl)))|((with_reducible refine at_store ?_);(first|(refine wm_store (L' := ?_) (cs := ?_) (t := ?_) (n := ?_) K rfl _ _ _ rfl rfl rfl rfl ?_ ?_ ?_ ?_ ?_ ?_;rotate_left 3;(repeat (first|exact Put.hd|(refine Put.tl (L' := ?_) ?_;rotate_left)));rotate_left;(with_reducible first|exact row54);(exact rfl);(exact rfl);(simp [Ones, Value.oneCell'])));(try clear K);(try clear ww);intro ww K;(try simp [go_sem] at K))))
      refine bodyPost_ret (K.res2 rfl _ rfl (At.tl (At.tl At.hd)) (by (with_reducible first|exact row54)) (by (exact rfl)) rfl) rfl ?_
      exact ⟨false, p, q, n, X, Y, S, B, T, A, c, A2, c2, zs, us, rfl, HB.out.up, .inr ⟨rfl, rfl, rfl, rfl, rfl⟩, K.below⟩
  · have GB := Lib.hid (fun (w : World) => GCut14_bad p q X Y S x y c1 d1 A n c w (by simpa using hj))
    generalize isum zs = s0 at *
    clear h h2 hb hg hkd hlim hT hB0 hB1 hn64 hnm hbo ys hj hS0 hX hY hpb hqb hc1 hd1 hcb hdb hxb hyb hm hnI
    have c14 := c14h.out
    have c15 := c15h.out
    have w1 := w1h.out
    have w2' := w2h.out
    go_enter Try.func30, Try.ntmps30
    go_wp2_with (first|((with_reducible refine at_load ?_);first|(refine wm_load (cs := ?_) (t := ?_) (n := ?_) K rfl _ _ rfl rfl ?_ ?_ ?_ ?_;rotate_left 2;(repeat (first|exact At.hd|refine At.tl ?_));rotate_left;(with_reducible first|exact row47|exact row54|exact row59);(solve|exact rfl|simp))|(refine wm_own (cs := ?_) (t := ?_) (v := ?_) K rfl _ _ rfl rfl ?_ ?_ ?_ ?_;rotate_left 2;(repeat (first|exact At.hd|refine At.tl ?_));rotate_left;(exact rfl);(with_reducible first|exact one5|exact one45|exact one57)))|((with_reducible refine at_store ?_);(first|(refine wm_store (L' := ?_) (cs := ?_) (t := ?_) (n := ?_) K rfl _ _ _ rfl rfl rfl rfl ?_ ?_ ?_ ?_ ?_ ?_;rotate_left 3;(repeat (first|exact Put.hd|(refine Put.tl (L' := ?_) ?_;rotate_left)));rotate_left;(with_reducible first|exact row47|exact row54);(exact rfl);(exact rfl);(simp [Ones, Value.oneCell'])));(try clear K);(try clear ww);intro ww K;(try simp [go_sem] at K))|((first|((with_reducible refine at_box ?_);refine wm_box K rfl _ _ rfl rfl rfl ?_)|((with_reducible refine at_alloc ?_);refine wm_alloc (v := ?_) (cs := ?_) K rfl _ rfl ?_ ?_ ?_;rotate_left;(with_reducible first|exact zero47|exact zero54);rotate_left;exact rfl));(try clear K);(try clear ww);(first|((fail_if_success (have _h := b2));intro b2 ww K)|((fail_if_success (have _h := b3));intro b3 ww K)|((fail_if_success (have _h := b4));intro b4 ww K)|((fail_if_success (have _h := b6));intro b6 ww K)|((fail_if_success (have _h := b7));intro b7 ww K));(try simp [go_sem, Value.cells] at K))|((with_reducible refine at_load ?_);refine wm_partE (cs := ?_) (t := ?_) (n := ?_) (l := ?_) K rfl _ _ rfl rfl ?_ ?_ ?_ ?_ ?_;rotate_left 2;(repeat (first|exact At.hd|refine At.tl ?_));rotate_left;(with_reducible first|exact row47);rotate_left;(simp only [List.drop_succ_cons, List.drop_zero, List.take_succ_cons, List.take_zero];exact rfl);exact rfl)|(go_at_call 42;(with_reducible refine (SM.out _ (HR.out.below K.below)).mono ?_);rintro e w2 ⟨rfl, k1⟩;replace K := K.step k1;clear k1;(try clear ww);revert w2;intro ww K)|(go_at_call 68;(with_reducible refine (SD.out _).mono ?_);rintro e w2 ⟨rfl, k1⟩;replace K := K.step k1;clear k1;(try clear ww);revert w2;intro ww K)|(go_at_call 47;(with_reducible refine (GB.out _).mono ?_);rintro e w2 ⟨rfl, k1⟩;replace K := K.step k1;clear k1;(try clear ww);revert w2;intro ww K))
    refine bodyPost_ret (K.res2 rfl _ rfl (At.tl (At.tl At.hd)) (by (with_reducible first|exact row54)) (by (exact rfl)) rfl) rfl ?_
    exact ⟨false, p, q, n, X, Y, S, B, T, A, c, A2, c2, zs, us, rfl, HB.out.up, .inr ⟨rfl, rfl, rfl, rfl, rfl⟩, K.below⟩
end Go.Proofs.Yteancdipmpmjpaa
namespace Go.Proofs.Yteancdipmpmjpaa
open Go.RowKit
attribute [local irreducible] wpHeld wpTree wpList
set_option linter.unusedVariables false
set_option maxRecDepth 100000 in
set_option maxHeartbeats 8000000 in
theorem doD18 (k p q n c c2 : Nat) (X Y S B T : Int) (A A2 : Option Addr) (zs : List Int) (us : List Nat) (r : OpRec) (w : World) (h : Rd w A n (ints .i64 zs)) (h2 : Fn w A2 n us) (hb : Play18 k p q n X Y S zs us B T) (hk : k ≤ 8) (hg : OpGood w r) (hkd : r.kd.tmod 5 = 3) :
    Calls Try.prog 30 #[.agg #[.int .i64 p, .int .i64 q, .int .i64 X, .int .i64 Y, .int .i64 S, .slice A n c, .int .i64 p, .int .i64 q, .slice A2 n c2, .int .i64 B, .int .i64 T], .agg (opCells r)] w fun e w' => ∃ (ok : Bool) (p' q' n' : Nat) (X' Y' S' B' T' : Int) (A' : Option Addr) (c' : Nat) (A2' : Option Addr) (c2' : Nat) (zs' : List Int) (us' : List Nat), e = .returned (.tuple #[.agg #[.int .i64 (p'), .int .i64 (q'), .int .i64 (X'), .int .i64 (Y'), .int .i64 (S'), .slice A' n' c', .int .i64 p', .int .i64 q', .slice A2' n' c2', .int .i64 (B'), .int .i64 (T')], .bool ok]) ∧ Play18 (k + 1) p' q' n' X' Y' S' zs' us' B' T' ∧ ((Rd w' A' n' (ints .i64 zs') ∧ Nw w.heap.size A') ∧ (Fn w' A2' n' us' ∧ Nw w.heap.size A2') ∨ (A' = A ∧ A2' = A2 ∧ n' = n ∧ zs' = zs ∧ us' = us)) ∧ Below w.heap.size w w' := by
  obtain ⟨kd, q0, la, ln, lc, ls, x, y, cw, ch⟩ := r
  dsimp only [opCells]
  have K := St.start w
  have HR := Lib.hid h
  have HR2 := Lib.hid h2
  have HB := Lib.hid hb
  have HG := Lib.hid hg
  have c14h : Hid (kd.tmod 5 = 3) := Lib.hid hkd
  have c15h : Hid (kd % 5 = 3) := Lib.hid (by rw [← Int.tmod_eq_emod_of_nonneg hg.kd.1]; exact hkd)
  have hlim := M17_lim (k := k) (by omega)
  obtain ⟨ys, hbo⟩ := hb.both
  have hnm := hb.hold.nums
  have hn64 := hb.hold.n1
  have hT := hb.hT
  have hB0 := hb.hold.b0
  have hB1 := hb.hold.b1
  have hS0 : 16 ≤ S ∧ S ≤ 4096 := by have := hb.hS; omega
  have hX := hb.hX
  have hY := hb.hY
  have hpb := hbo.hp
  have hqb := hbo.hq
  by_cases h4 : p ≤ 4 ∧ q ≤ 4
  · have t1 : decide (4 < p) = false := decide_eq_false (by omega)
    have t1' : decide (4 < (p : Int)) = false := decide_eq_false (by omega)
    have t2 : decide (4 < q) = false := decide_eq_false (by omega)
    have t2' : decide (4 < (q : Int)) = false := decide_eq_false (by omega)
    by_cases hj : splok p q S = true
    · have hj2 := splok_iff.1 hj
      obtain ⟨P2, hP2⟩ : ∃ P2, 2 * p = P2 := ⟨_, rfl⟩
      obtain ⟨Q2, hQ2⟩ : ∃ Q2, 2 * q = Q2 := ⟨_, rfl⟩
      obtain ⟨m, hm⟩ : ∃ m, 4 * n = m := ⟨_, rfl⟩
      have hnI : p * q = n := by rw [Nat.mul_comm, hbo.hn]
      have hn16 : n ≤ 16 := by rw [← hnI]; exact Nat.mul_le_mul h4.1 h4.2
      have PS := Lib.hid (fun (w : World) (h : Fn w A2 n us) => Split17 p q P2 Q2 m n c2 A2 us w h hnI (by omega) (by omega) hP2 hQ2 hm)
      have GJ := Lib.hid (fun (w : World) (h : Rd w A n (ints .i64 zs)) => GSplit14 X Y S p q A n c m zs w h hnm hnI (by omega) (by omega) (by omega) (by omega) (by omega) (by omega) hm)
      rw [hP2, hQ2] at GJ
      have hgo := hb.split hP2 hQ2 hm h4 (by omega)
      have GN := Lib.hid (fun (A3 : Option Addr) (c3 : Nat) (w : World) (h : Rd w A3 m (ints .i64 (split14 p zs m))) => GNorm14 P2 Q2 (X - S / 4) (Y - S / 4) (S / 2) A3 m c3 _ w h (gen_mem fun i _ => splitv_bd hnm i) (by omega) hgo.1)
      have LS := Lib.hid (fun (w : World) => Split18_any B T m w hB0 hB1 hT.1 (by omega) (by omega) (by omega))
      have FIN := Lib.hid hgo.2
      have SM := Lib.hid (fun (w : World) (h : Rd w A n (ints .i64 zs)) => RSum14 A n c zs w h (small_bd hnm) (by omega))
      clear hgo
      generalize isum zs = s0 at *
      generalize norm14 (isum (split14 p zs m)) (split14 p zs m) = nz at *
      generalize split14 p zs m = tz at *
      generalize splitN p P2 us m = nu at *
      generalize plus18 B (2 * cost18 m) = B2 at *
      generalize X - S / 4 = X2 at *
      generalize Y - S / 4 = Y2 at *
      generalize S / 2 = S2 at *
      obtain ⟨T2, hT2⟩ : ∃ T2, T + 1 = T2 := ⟨_, rfl⟩
      rw [hT2] at FIN LS
      clear h h2 hb hg hkd hlim hT2 hT hB0 hB1 hn64 hnm hbo ys hj hj2 hS0 hX hY hpb hqb hP2 hQ2 hm hnI hn16 h4
      have c14 := c14h.out
      have c15 := c15h.out
      go_enter Try.func30, Try.ntmps30
      go_wp2_with (first|((with_reducible refine at_load ?_);first|(refine wm_load (cs := ?_) (t := ?_) (n := ?_) K rfl _ _ rfl rfl ?_ ?_ ?_ ?_;rotate_left 2;(repeat (first|exact At.hd|refine At.tl ?_));rotate_left;(with_reducible first|exact row47|exact row54);(solve|exact rfl|simp))|(refine wm_own (cs := ?_) (t := ?_) (v := ?_) K rfl _ _ rfl rfl ?_ ?_ ?_ ?_;rotate_left 2;(repeat (first|exact At.hd|refine At.tl ?_));rotate_left;(exact rfl);(with_reducible first|exact one3|exact one5|exact one45)))|((with_reducible refine at_store ?_);(first|(refine wm_store (L' := ?_) (cs := ?_) (t := ?_) (n := ?_) K rfl _ _ _ rfl rfl rfl rfl ?_ ?_ ?_ ?_ ?_ ?_;rotate_left 3;(repeat (first|exact Put.hd|(refine Put.tl (L' := ?_) ?_;rotate_left)));rotate_left;(with_reducible first|exact row47|exact row54);(exact rfl);(solve|exact rfl|simp);(simp [Ones, Value.oneCell'])));(try clear K);(try clear ww);intro ww K;(try simp [go_sem] at K))|((first|((with_reducible refine at_box ?_);refine wm_box K rfl _ _ rfl rfl rfl ?_)|((with_reducible refine at_alloc ?_);refine wm_alloc (v := ?_) (cs := ?_) K rfl _ rfl ?_ ?_ ?_;rotate_left;(with_reducible first|exact zero47|exact zero54);rotate_left;exact rfl));(try clear K);(try clear ww);(first|((fail_if_success (have _h := b2));intro b2 ww K)|((fail_if_success (have _h := b3));intro b3 ww K)|((fail_if_success (have _h := b4));intro b4 ww K)|((fail_if_success (have _h := b6));intro b6 ww K)|((fail_if_success (have _h := b7));intro b7 ww K));(try simp [go_sem, Value.cells] at K))|((with_reducible refine at_load ?_);refine wm_partE (cs := ?_) (t := ?_) (n := ?_) (l := ?_) K rfl _ _ rfl rfl ?_ ?_ ?_ ?_ ?_;rotate_left 2;(repeat (first|exact At.hd|refine At.tl ?_));rotate_left;(with_reducible first|exact row47);rotate_left;(simp only [List.drop_succ_cons, List.drop_zero, List.take_succ_cons, List.take_zero];exact rfl);exact rfl)|((with_reducible refine at_store ?_);refine wm_storePartE (L' := ?_) (cs := ?_) (new := ?_) (t := ?_) (n := ?_) K rfl _ _ _ rfl rfl rfl rfl ?_ ?_ ?_ ?_ ?_ ?_ ?_;rotate_left 4;(repeat (first|exact Put.hd|(refine Put.tl (L' := ?_) ?_;rotate_left)));(simp only [over, List.setIfInBounds_toArray, List.set_cons_succ, List.set_cons_zero, Nat.reduceAdd];exact rfl);rotate_left;(with_reducible first|exact row47);exact rfl;exact Nat.le_of_ble_eq_true rfl;(simp [Ones, Value.oneCell']);(try clear K);(try clear ww);intro ww K;(try simp [go_sem] at K))|(go_at_call 42;(with_reducible refine (SM.out _ (HR.out.below K.below)).mono ?_);rintro e w2 ⟨rfl, k1⟩;replace K := K.step k1;clear k1;(try clear ww);revert w2;intro ww K)|(go_at_call 49;(with_reducible refine (GJ.out _ (HR.out.below K.below)).mono ?_);rintro e w2 ⟨A3, c3, rfl, ⟨hx, hA⟩, hbel⟩;(try dsimp only);replace K := K.madeRd hbel hx hA;clear hbel hx hA;(try clear ww);revert w2;intro ww K)|(go_at_call 38;(with_reducible refine (GN.out _ c3 _ K.fact.1).mono ?_);rintro e w2 ⟨A4, c4, rfl, ⟨hx, hA⟩, hbel⟩;(try dsimp only);have hN4 := hA.mono K.size;replace K := K.madeRd hbel hx hA;clear hbel hx hA;(try clear ww);revert w2;intro ww K))
      clear c14 c15
      refine wm_held _ [(true, 0), (true, 1), (true, 3), (true, 4), (true, 5), (true, 6), (true, 7), (false, 2), (true, 9), (false, 8), (false, 10), (true, 11), (false, 12)] K sbk1 (by kernel_rfl) (by kernel_rfl) ?_; (try clear K); (try clear ww); intro ww K; (try simp [go_sem] at K); simp only [pick, List.getElem?_toArray, List.getElem?_cons_succ, List.getElem?_cons_zero]
      repeat (first|((with_reducible refine ht_load ?_);first|(refine hm_own (cs := ?_) (t := ?_) (v := ?_) rfl _ _ rfl rfl ?_ ?_ ?_ ?_;rotate_left 2;(repeat (first|exact At.hd|refine At.tl ?_));rotate_left;(exact rfl);(with_reducible first|exact one45)))|(refine held_take (fun K' hK' => ?_);go_simp;first|(apply Exists.intro;refine ⟨?_, hK' _ ?_⟩;(intro _ _;rfl);clear hK' K'))|((with_reducible refine ht_load ?_);refine hm_partE (cs := ?_) (t := ?_) (n := ?_) (l := ?_) rfl _ _ rfl rfl ?_ ?_ ?_ ?_ ?_;rotate_left 2;(repeat (first|exact At.hd|refine At.tl ?_));rotate_left;(with_reducible first|exact row35|exact row51);rotate_left;(simp only [List.drop_succ_cons, List.drop_zero, List.take_succ_cons, List.take_zero];exact rfl);exact rfl)|((with_reducible refine ht_store ?_);refine hm_storePartE (L' := ?_) (cs := ?_) (new := ?_) (t := ?_) (n := ?_) K rfl _ _ _ rfl rfl rfl rfl ?_ ?_ ?_ ?_ ?_ ?_ ?_;rotate_left 4;(repeat (first|exact Put.hd|(refine Put.tl (L' := ?_) ?_;rotate_left)));(simp only [over, List.setIfInBounds_toArray, List.set_cons_succ, List.set_cons_zero, Nat.reduceAdd];exact rfl);rotate_left;(with_reducible first|exact row35|exact row51);exact rfl;exact Nat.le_of_ble_eq_true rfl;(simp [Ones, Value.oneCell']);(try clear K);(try clear ww);intro ww K;(try simp [go_sem] at K);refine ⟨(by apply via sbk1;first|exact K.weak wk1), ?_⟩)|(refine held_do (fun K' hK' => ?_);go_simp;go_at_call 70;have zz := PS.out _ (HR2.out.below K.below);(with_reducible refine zz.mono ?_);clear zz;rintro e w2 ⟨Af, cf, rfl, ⟨hx, hA⟩, hbel⟩;(try dsimp only);have hN1 := hA.mono K.size;have K2 := K.madeFn (noT_of rfl) hbel hx hA;refine hK' _ _ (by apply via sbk1;first|exact K2.weak wk1) ?_;replace K := K2;clear hK' K' K2 hbel hx hA;(try clear ww);revert w2;intro ww K)|(refine held_do (fun K' hK' => ?_);go_simp;go_at_call 23;(with_reducible refine (LS.out _).mono ?_);rintro e w2 ⟨rfl, k1⟩;replace K := K.step k1;clear k1;(try clear ww);revert w2;intro ww K;(try dsimp only);refine hK' _ _ (by apply via sbk1;first|exact K.weak wk1) ?_;clear hK' K'))
      refine held_nil ?_
      (try go_wp2_with (first|((with_reducible refine at_load ?_);first|(refine wm_load (cs := ?_) (t := ?_) (n := ?_) K rfl _ _ rfl rfl ?_ ?_ ?_ ?_;rotate_left 2;(repeat (first|exact At.hd|refine At.tl ?_));rotate_left;(with_reducible first|exact row54);(exact rfl)))|((with_reducible refine at_store ?_);(first|(refine wm_store (L' := ?_) (cs := ?_) (t := ?_) (n := ?_) K rfl _ _ _ rfl rfl rfl rfl ?_ ?_ ?_ ?_ ?_ ?_;rotate_left 3;(repeat (first|exact Put.hd|(refine Put.tl (L' := ?_) ?_;rotate_left)));rotate_left;(with_reducible first|exact row54);(exact rfl);(exact rfl);(simp [Ones, Value.oneCell'])));(try clear K);(try clear ww);intro ww K;(try simp [go_sem] at K))))
      refine bodyPost_ret (K.res2 rfl _ rfl (At.tl (At.tl At.hd)) (by (with_reducible first|exact row54)) (by (exact rfl)) rfl) rfl ?_
      exact ⟨true, P2, Q2, m, X2, Y2, S2, B2, T2, A4, c4, Af, cf, nz, nu, rfl, FIN.out, .inl ⟨⟨K.fact.2.1, hN4⟩, ⟨K.fact.1, hN1⟩⟩, K.below⟩
    · have GB := Lib.hid (fun (w : World) => GSplit14_bad p q X Y S A n c w (by omega) (by omega) (by omega) (by simpa using hj))
      have SM := Lib.hid (fun (w : World) (h : Rd w A n (ints .i64 zs)) => RSum14 A n c zs w h (small_bd hnm) (by omega))
      generalize isum zs = s0 at *
      clear h h2 hb hg hkd hlim hT hB0 hB1 hn64 hnm hbo ys hj hS0 hX hY hpb hqb h4
      have c14 := c14h.out
      have c15 := c15h.out
      go_enter Try.func30, Try.ntmps30
      go_wp2_with (first|((with_reducible refine at_load ?_);first|(refine wm_load (cs := ?_) (t := ?_) (n := ?_) K rfl _ _ rfl rfl ?_ ?_ ?_ ?_;rotate_left 2;(repeat (first|exact At.hd|refine At.tl ?_));rotate_left;(with_reducible first|exact row47|exact row54);(solve|exact rfl|simp))|(refine wm_own (cs := ?_) (t := ?_) (v := ?_) K rfl _ _ rfl rfl ?_ ?_ ?_ ?_;rotate_left 2;(repeat (first|exact At.hd|refine At.tl ?_));rotate_left;(exact rfl);(with_reducible first|exact one3|exact one5|exact one45)))|((with_reducible refine at_store ?_);(first|(refine wm_store (L' := ?_) (cs := ?_) (t := ?_) (n := ?_) K rfl _ _ _ rfl rfl rfl rfl ?_ ?_ ?_ ?_ ?_ ?_;rotate_left 3;(repeat (first|exact Put.hd|(refine Put.tl (L' := ?_) ?_;rotate_left)));rotate_left;(with_reducible first|exact row47|exact row54);(exact rfl);(exact rfl);(simp [Ones, Value.oneCell'])));(try clear K);(try clear ww);intro ww K;(try simp [go_sem] at K))|((first|((with_reducible refine at_box ?_);refine wm_box K rfl _ _ rfl rfl rfl ?_)|((with_reducible refine at_alloc ?_);refine wm_alloc (v := ?_) (cs := ?_) K rfl _ rfl ?_ ?_ ?_;rotate_left;(with_reducible first|exact zero47|exact zero54);rotate_left;exact rfl));(try clear K);(try clear ww);(first|((fail_if_success (have _h := b2));intro b2 ww K)|((fail_if_success (have _h := b3));intro b3 ww K)|((fail_if_success (have _h := b4));intro b4 ww K)|((fail_if_success (have _h := b6));intro b6 ww K)|((fail_if_success (have _h := b7));intro b7 ww K));(try simp [go_sem, Value.cells] at K))|((with_reducible refine at_load ?_);refine wm_partE (cs := ?_) (t := ?_) (n := ?_) (l := ?_) K rfl _ _ rfl rfl ?_ ?_ ?_ ?_ ?_;rotate_left 2;(repeat (first|exact At.hd|refine At.tl ?_));rotate_left;(with_reducible first|exact row47);rotate_left;(simp only [List.drop_succ_cons, List.drop_zero, List.take_succ_cons, List.take_zero];exact rfl);exact rfl)|(go_at_call 42;(with_reducible refine (SM.out _ (HR.out.below K.below)).mono ?_);rintro e w2 ⟨rfl, k1⟩;replace K := K.step k1;clear k1;(try clear ww);revert w2;intro ww K)|(go_at_call 49;(with_reducible refine (GB.out _).mono ?_);rintro e w2 ⟨rfl, k1⟩;replace K := K.step k1;clear k1;(try clear ww);revert w2;intro ww K))
      refine bodyPost_ret (K.res2 rfl _ rfl (At.tl (At.tl At.hd)) (by (with_reducible first|exact row54)) (by (exact rfl)) rfl) rfl ?_
      exact ⟨false, p, q, n, X, Y, S, B, T, A, c, A2, c2, zs, us, rfl, HB.out.up, .inr ⟨rfl, rfl, rfl, rfl, rfl⟩, K.below⟩
  by_cases hp4 : 4 < p
  · have t1 : decide (4 < p) = true := decide_eq_true hp4
    have t1' : decide (4 < (p : Int)) = true := decide_eq_true (by omega)
    have SM := Lib.hid (fun (w : World) (h : Rd w A n (ints .i64 zs)) => RSum14 A n c zs w h (small_bd hnm) (by omega))
    generalize isum zs = s0 at *
    clear h h2 hb hg hkd hlim hT hB0 hB1 hn64 hnm hbo ys hS0 hX hY hpb hqb h4 hp4
    have c14 := c14h.out
    have c15 := c15h.out
    go_enter Try.func30, Try.ntmps30
    go_wp2_with (first|go_big_skip|((with_reducible refine at_load ?_);first|(refine wm_load (cs := ?_) (t := ?_) (n := ?_) K rfl _ _ rfl rfl ?_ ?_ ?_ ?_;rotate_left 2;(repeat (first|exact At.hd|refine At.tl ?_));rotate_left;(with_reducible first|exact row54);(exact rfl))|(refine wm_own (cs := ?_) (t := ?_) (v := ?_) K rfl _ _ rfl rfl ?_ ?_ ?_ ?_;rotate_left 2;(repeat (first|exact At.hd|refine At.tl ?_));rotate_left;(exact rfl);(with_reducible first|exact one3|exact one5|exact one45)))|((with_reducible refine at_store ?_);(first|(refine wm_store (L' := ?_) (cs := ?_) (t := ?_) (n := ?_) K rfl _ _ _ rfl rfl rfl rfl ?_ ?_ ?_ ?_ ?_ ?_;rotate_left 3;(repeat (first|exact Put.hd|(refine Put.tl (L' := ?_) ?_;rotate_left)));rotate_left;(with_reducible first|exact row54);(exact rfl);(exact rfl);(simp [Ones, Value.oneCell'])));(try clear K);(try clear ww);intro ww K;(try simp [go_sem] at K))|((first|((with_reducible refine at_box ?_);refine wm_box K rfl _ _ rfl rfl rfl ?_)|((with_reducible refine at_alloc ?_);refine wm_alloc (v := ?_) (cs := ?_) K rfl _ rfl ?_ ?_ ?_;rotate_left;(with_reducible first|exact zero54);rotate_left;exact rfl));(try clear K);(try clear ww);(first|((fail_if_success (have _h := b2));intro b2 ww K)|((fail_if_success (have _h := b3));intro b3 ww K)|((fail_if_success (have _h := b4));intro b4 ww K)|((fail_if_success (have _h := b6));intro b6 ww K));(try simp [go_sem, Value.cells] at K))|(go_at_call 42;(with_reducible refine (SM.out _ (HR.out.below K.below)).mono ?_);rintro e w2 ⟨rfl, k1⟩;replace K := K.step k1;clear k1;(try clear ww);revert w2;intro ww K))
    refine bodyPost_ret (K.res2 rfl _ rfl (At.tl At.hd) (by (with_reducible first|exact row54)) (by (exact rfl)) rfl) rfl ?_
    exact ⟨false, p, q, n, X, Y, S, B, T, A, c, A2, c2, zs, us, rfl, HB.out.up, .inr ⟨rfl, rfl, rfl, rfl, rfl⟩, K.below⟩
  · have t1 : decide (4 < p) = false := decide_eq_false hp4
    have t1' : decide (4 < (p : Int)) = false := decide_eq_false (by omega)
    have t2 : decide (4 < q) = true := decide_eq_true (by omega)
    have t2' : decide (4 < (q : Int)) = true := decide_eq_true (by omega)
    have SM := Lib.hid (fun (w : World) (h : Rd w A n (ints .i64 zs)) => RSum14 A n c zs w h (small_bd hnm) (by omega))
    generalize isum zs = s0 at *
    clear h h2 hb hg hkd hlim hT hB0 hB1 hn64 hnm hbo ys hS0 hX hY hpb hqb h4 hp4
    have c14 := c14h.out
    have c15 := c15h.out
    go_enter Try.func30, Try.ntmps30
    go_wp2_with (first|((with_reducible refine at_load ?_);first|(refine wm_load (cs := ?_) (t := ?_) (n := ?_) K rfl _ _ rfl rfl ?_ ?_ ?_ ?_;rotate_left 2;(repeat (first|exact At.hd|refine At.tl ?_));rotate_left;(with_reducible first|exact row54);(exact rfl))|(refine wm_own (cs := ?_) (t := ?_) (v := ?_) K rfl _ _ rfl rfl ?_ ?_ ?_ ?_;rotate_left 2;(repeat (first|exact At.hd|refine At.tl ?_));rotate_left;(exact rfl);(with_reducible first|exact one3|exact one5|exact one45)))|((with_reducible refine at_store ?_);(first|(refine wm_store (L' := ?_) (cs := ?_) (t := ?_) (n := ?_) K rfl _ _ _ rfl rfl rfl rfl ?_ ?_ ?_ ?_ ?_ ?_;rotate_left 3;(repeat (first|exact Put.hd|(refine Put.tl (L' := ?_) ?_;rotate_left)));rotate_left;(with_reducible first|exact row54);(exact rfl);(exact rfl);(simp [Ones, Value.oneCell'])));(try clear K);(try clear ww);intro ww K;(try simp [go_sem] at K))|((first|((with_reducible refine at_box ?_);refine wm_box K rfl _ _ rfl rfl rfl ?_)|((with_reducible refine at_alloc ?_);refine wm_alloc (v := ?_) (cs := ?_) K rfl _ rfl ?_ ?_ ?_;rotate_left;(with_reducible first|exact zero54);rotate_left;exact rfl));(try clear K);(try clear ww);(first|((fail_if_success (have _h := b2));intro b2 ww K)|((fail_if_success (have _h := b3));intro b3 ww K)|((fail_if_success (have _h := b4));intro b4 ww K)|((fail_if_success (have _h := b6));intro b6 ww K));(try simp [go_sem, Value.cells] at K))|(go_at_call 42;(with_reducible refine (SM.out _ (HR.out.below K.below)).mono ?_);rintro e w2 ⟨rfl, k1⟩;replace K := K.step k1;clear k1;(try clear ww);revert w2;intro ww K))
    refine bodyPost_ret (K.res2 rfl _ rfl (At.tl At.hd) (by (with_reducible first|exact row54)) (by (exact rfl)) rfl) rfl ?_
    exact ⟨false, p, q, n, X, Y, S, B, T, A, c, A2, c2, zs, us, rfl, HB.out.up, .inr ⟨rfl, rfl, rfl, rfl, rfl⟩, K.below⟩
end Go.Proofs.Yteancdipmpmjpaa
namespace Go.Proofs.Yteancdipmpmjpaa
open Go.RowKit
attribute [local irreducible] wpHeld wpTree wpList
set_option linter.unusedVariables false
set_option maxRecDepth 100000 in
set_option maxHeartbeats 8000000 in
theorem doE18 (k p q n c c2 : Nat) (X Y S B T : Int) (A A2 : Option Addr) (zs : List Int) (us : List Nat) (r : OpRec) (w : World) (h : Rd w A n (ints .i64 zs)) (h2 : Fn w A2 n us) (hb : Play18 k p q n X Y S zs us B T) (hk : k ≤ 8) (hg : OpGood w r) (hkd : r.kd.tmod 5 = 4) :
    Calls Try.prog 30 #[.agg #[.int .i64 p, .int .i64 q, .int .i64 X, .int .i64 Y, .int .i64 S, .slice A n c, .int .i64 p, .int .i64 q, .slice A2 n c2, .int .i64 B, .int .i64 T], .agg (opCells r)] w fun e w' => ∃ (ok : Bool) (p' q' n' : Nat) (X' Y' S' B' T' : Int) (A' : Option Addr) (c' : Nat) (A2' : Option Addr) (c2' : Nat) (zs' : List Int) (us' : List Nat), e = .returned (.tuple #[.agg #[.int .i64 (p'), .int .i64 (q'), .int .i64 (X'), .int .i64 (Y'), .int .i64 (S'), .slice A' n' c', .int .i64 p', .int .i64 q', .slice A2' n' c2', .int .i64 (B'), .int .i64 (T')], .bool ok]) ∧ Play18 (k + 1) p' q' n' X' Y' S' zs' us' B' T' ∧ ((Rd w' A' n' (ints .i64 zs') ∧ Nw w.heap.size A') ∧ (Fn w' A2' n' us' ∧ Nw w.heap.size A2') ∨ (A' = A ∧ A2' = A2 ∧ n' = n ∧ zs' = zs ∧ us' = us)) ∧ Below w.heap.size w w' := by
  obtain ⟨kd, q0, la, ln, lc, ls, x, y, cw, ch⟩ := r
  dsimp only [opCells]
  have K := St.start w
  have HR := Lib.hid h
  have HR2 := Lib.hid h2
  have HB := Lib.hid hb
  have HG := Lib.hid hg
  have c14h : Hid (kd.tmod 5 = 4) := Lib.hid hkd
  have c15h : Hid (kd % 5 = 4) := Lib.hid (by rw [← Int.tmod_eq_emod_of_nonneg hg.kd.1]; exact hkd)
  have hlim := M17_lim (k := k) (by omega)
  obtain ⟨ys, hbo⟩ := hb.both
  have hnm := hb.hold.nums
  have hn64 := hb.hold.n1
  have hT := hb.hT
  have hB0 := hb.hold.b0
  have hB1 := hb.hold.b1
  have hS0 : 16 ≤ S ∧ S ≤ 4096 := by have := hb.hS; omega
  have hX := hb.hX
  have hY := hb.hY
  have hpb := hbo.hp
  have hqb := hbo.hq
  by_cases hj : joinok p q S = true
  · have hj2 := joinok_iff.1 hj
    obtain ⟨m1, hm1⟩ : ∃ m1, p = 2 * m1 := ⟨p / 2, by omega⟩
    obtain ⟨q1, hq1⟩ : ∃ q1, q = 2 * q1 := ⟨q / 2, by omega⟩
    obtain ⟨n4, hn4⟩ : ∃ n4, m1 * q1 = n4 := ⟨_, rfl⟩
    have hnI : p * q = n := by rw [Nat.mul_comm, hbo.hn]
    have hn44 : 4 * n4 = n := by rw [← hnI, hm1, hq1, ← hn4, Nat.mul_mul_mul_comm]
    have PS := Lib.hid (fun (w : World) (h : Fn w A2 n us) => Join17 p q m1 q1 n4 n c2 (M17 k) A2 us w h hbo.xb (M17_pos k) (lim_pieces hlim).2.2.1 hnI hm1 hq1 (by omega) (by omega) hn4)
    have GJ := Lib.hid (fun (w : World) (h : Rd w A n (ints .i64 zs)) => GJoin14 X Y S p q m1 q1 A n c n4 zs w h hnm hnI hm1 hq1 (by omega) (by omega) (by omega) (by omega) (by omega) hn4)
    have hgo := hb.join hm1 hq1 hn4 hj2.2.2
    have hnn : ∀ z ∈ join14 p m1 zs n4, 0 ≤ z := gen_mem fun i _ => by
      have hg := fun j => (getD_all (P := fun z => 0 ≤ z ∧ z ≤ 1073741824) (by omega) hnm j).1
      unfold joinv
      have g0 := hg (2 * (i / m1) * p + 2 * (i % m1))
      first | (simp only [] at *; exact Int.add_nonneg (Int.add_nonneg (Int.add_nonneg (hg _) (hg _)) (hg _)) (hg _)) | skip
    have hjs : isum (join14 p m1 zs n4) = isum zs := by
      subst hm1
      exact join_sum (by omega) hn4 (by rw [hb.hold.lz, ← hnI, hq1])
    have hjb : ∀ z ∈ join14 p m1 zs n4, 0 ≤ z ∧ z ≤ 1073741824 := fun z hz => ⟨hnn z hz, by have := isum_mem hnn hz; have := hb.hold.top; omega⟩
    have GN := Lib.hid (fun (A3 : Option Addr) (c3 : Nat) (w : World) (h : Rd w A3 n4 (ints .i64 (join14 p m1 zs n4))) => GNorm14 m1 q1 (X + S / 2) (Y + S / 2) (2 * S) A3 n4 c3 _ w h hjb (by omega) hgo.1)
    have LS := Lib.hid (fun (w : World) => Join18_any B T n4 w hB0 hB1 hT.1 (by omega) (by omega) (by omega))
    have FIN := Lib.hid hgo.2
    have SM := Lib.hid (fun (w : World) (h : Rd w A n (ints .i64 zs)) => RSum14 A n c zs w h (small_bd hnm) (by omega))
    clear hgo hnn hjs hjb
    generalize isum zs = s0 at *
    generalize norm14 (isum (join14 p m1 zs n4)) (join14 p m1 zs n4) = nz at *
    generalize join14 p m1 zs n4 = tz at *
    generalize joinN p m1 us n4 = nu at *
    generalize plus18 B (cost18 n4) = B2 at *
    generalize X + S / 2 = X2 at *
    generalize Y + S / 2 = Y2 at *
    generalize 2 * S = S2 at *
    obtain ⟨T2, hT2⟩ : ∃ T2, T + 1 = T2 := ⟨_, rfl⟩
    rw [hT2] at FIN LS
    clear h h2 hb hg hkd hlim hT2 hT hB0 hB1 hn64 hnm hbo ys hj hj2 hS0 hX hY hpb hqb hm1 hq1 hn4 hnI hn44
    have c14 := c14h.out
    have c15 := c15h.out
    go_enter Try.func30, Try.ntmps30
    go_wp2_with (first|((with_reducible refine at_load ?_);first|(refine wm_load (cs := ?_) (t := ?_) (n := ?_) K rfl _ _ rfl rfl ?_ ?_ ?_ ?_;rotate_left 2;(repeat (first|exact At.hd|refine At.tl ?_));rotate_left;(with_reducible first|exact row47|exact row54);(solve|exact rfl|simp))|(refine wm_own (cs := ?_) (t := ?_) (v := ?_) K rfl _ _ rfl rfl ?_ ?_ ?_ ?_;rotate_left 2;(repeat (first|exact At.hd|refine At.tl ?_));rotate_left;(exact rfl);(with_reducible first|exact one5|exact one45)))|((with_reducible refine at_store ?_);(first|(refine wm_store (L' := ?_) (cs := ?_) (t := ?_) (n := ?_) K rfl _ _ _ rfl rfl rfl rfl ?_ ?_ ?_ ?_ ?_ ?_;rotate_left 3;(repeat (first|exact Put.hd|(refine Put.tl (L' := ?_) ?_;rotate_left)));rotate_left;(with_reducible first|exact row47|exact row54);(exact rfl);(solve|exact rfl|simp);(simp [Ones, Value.oneCell'])));(try clear K);(try clear ww);intro ww K;(try simp [go_sem] at K))|((first|((with_reducible refine at_box ?_);refine wm_box K rfl _ _ rfl rfl rfl ?_)|((with_reducible refine at_alloc ?_);refine wm_alloc (v := ?_) (cs := ?_) K rfl _ rfl ?_ ?_ ?_;rotate_left;(with_reducible first|exact zero47|exact zero54);rotate_left;exact rfl));(try clear K);(try clear ww);(first|((fail_if_success (have _h := b2));intro b2 ww K)|((fail_if_success (have _h := b3));intro b3 ww K)|((fail_if_success (have _h := b4));intro b4 ww K)|((fail_if_success (have _h := b6));intro b6 ww K)|((fail_if_success (have _h := b7));intro b7 ww K));(try simp [go_sem, Value.cells] at K))|((with_reducible refine at_load ?_);refine wm_partE (cs := ?_) (t := ?_) (n := ?_) (l := ?_) K rfl _ _ rfl rfl ?_ ?_ ?_ ?_ ?_;rotate_left 2;(repeat (first|exact At.hd|refine At.tl ?_));rotate_left;(with_reducible first|exact row47);rotate_left;(simp only [List.drop_succ_cons, List.drop_zero, List.take_succ_cons, List.take_zero];exact rfl);exact rfl)|((with_reducible refine at_store ?_);refine wm_storePartE (L' := ?_) (cs := ?_) (new := ?_) (t := ?_) (n := ?_) K rfl _ _ _ rfl rfl rfl rfl ?_ ?_ ?_ ?_ ?_ ?_ ?_;rotate_left 4;(repeat (first|exact Put.hd|(refine Put.tl (L' := ?_) ?_;rotate_left)));(simp only [over, List.setIfInBounds_toArray, List.set_cons_succ, List.set_cons_zero, Nat.reduceAdd];exact rfl);rotate_left;(with_reducible first|exact row47);exact rfl;exact Nat.le_of_ble_eq_true rfl;(simp [Ones, Value.oneCell']);(try clear K);(try clear ww);intro ww K;(try simp [go_sem] at K))|(go_at_call 42;(with_reducible refine (SM.out _ (HR.out.below K.below)).mono ?_);rintro e w2 ⟨rfl, k1⟩;replace K := K.step k1;clear k1;(try clear ww);revert w2;intro ww K)|(go_at_call 51;(with_reducible refine (GJ.out _ (HR.out.below K.below)).mono ?_);rintro e w2 ⟨A3, c3, rfl, ⟨hx, hA⟩, hbel⟩;(try dsimp only);replace K := K.madeRd hbel hx hA;clear hbel hx hA;(try clear ww);revert w2;intro ww K)|(go_at_call 38;(with_reducible refine (GN.out _ c3 _ K.fact.1).mono ?_);rintro e w2 ⟨A4, c4, rfl, ⟨hx, hA⟩, hbel⟩;(try dsimp only);have hN4 := hA.mono K.size;replace K := K.madeRd hbel hx hA;clear hbel hx hA;(try clear ww);revert w2;intro ww K))
    clear c14 c15
    refine wm_held _ [(true, 0), (true, 1), (true, 3), (true, 4), (true, 5), (true, 6), (true, 7), (false, 2), (true, 9), (false, 8), (false, 10), (true, 11), (false, 12)] K sbk1 (by kernel_rfl) (by kernel_rfl) ?_; (try clear K); (try clear ww); intro ww K; (try simp [go_sem] at K); simp only [pick, List.getElem?_toArray, List.getElem?_cons_succ, List.getElem?_cons_zero]
    repeat (first|((with_reducible refine ht_load ?_);first|(refine hm_own (cs := ?_) (t := ?_) (v := ?_) rfl _ _ rfl rfl ?_ ?_ ?_ ?_;rotate_left 2;(repeat (first|exact At.hd|refine At.tl ?_));rotate_left;(exact rfl);(with_reducible first|exact one45)))|(refine held_take (fun K' hK' => ?_);go_simp;first|(apply Exists.intro;refine ⟨?_, hK' _ ?_⟩;(intro _ _;rfl);clear hK' K'))|((with_reducible refine ht_load ?_);refine hm_partE (cs := ?_) (t := ?_) (n := ?_) (l := ?_) rfl _ _ rfl rfl ?_ ?_ ?_ ?_ ?_;rotate_left 2;(repeat (first|exact At.hd|refine At.tl ?_));rotate_left;(with_reducible first|exact row35|exact row51);rotate_left;(simp only [List.drop_succ_cons, List.drop_zero, List.take_succ_cons, List.take_zero];exact rfl);exact rfl)|((with_reducible refine ht_store ?_);refine hm_storePartE (L' := ?_) (cs := ?_) (new := ?_) (t := ?_) (n := ?_) K rfl _ _ _ rfl rfl rfl rfl ?_ ?_ ?_ ?_ ?_ ?_ ?_;rotate_left 4;(repeat (first|exact Put.hd|(refine Put.tl (L' := ?_) ?_;rotate_left)));(simp only [over, List.setIfInBounds_toArray, List.set_cons_succ, List.set_cons_zero, Nat.reduceAdd];exact rfl);rotate_left;(with_reducible first|exact row35|exact row51);exact rfl;exact Nat.le_of_ble_eq_true rfl;(simp [Ones, Value.oneCell']);(try clear K);(try clear ww);intro ww K;(try simp [go_sem] at K);refine ⟨(by apply via sbk1;first|exact K.weak wk1), ?_⟩)|(refine held_do (fun K' hK' => ?_);go_simp;go_at_call 71;have zz := PS.out _ (HR2.out.below K.below);(with_reducible refine zz.mono ?_);clear zz;rintro e w2 ⟨Af, cf, rfl, ⟨hx, hA⟩, hbel⟩;(try dsimp only);have hN1 := hA.mono K.size;have K2 := K.madeFn (noT_of rfl) hbel hx hA;refine hK' _ _ (by apply via sbk1;first|exact K2.weak wk1) ?_;replace K := K2;clear hK' K' K2 hbel hx hA;(try clear ww);revert w2;intro ww K)|(refine held_do (fun K' hK' => ?_);go_simp;go_at_call 24;(with_reducible refine (LS.out _).mono ?_);rintro e w2 ⟨rfl, k1⟩;replace K := K.step k1;clear k1;(try clear ww);revert w2;intro ww K;(try dsimp only);refine hK' _ _ (by apply via sbk1;first|exact K.weak wk1) ?_;clear hK' K'))
    refine held_nil ?_
    (try go_wp2_with (first|((with_reducible refine at_load ?_);first|(refine wm_load (cs := ?_) (t := ?_) (n := ?_) K rfl _ _ rfl rfl ?_ ?_ ?_ ?_;rotate_left 2;(repeat (first|exact At.hd|refine At.tl ?_));rotate_left;(with_reducible first|exact row54);(exact rfl)))|((with_reducible refine at_store ?_);(first|(refine wm_store (L' := ?_) (cs := ?_) (t := ?_) (n := ?_) K rfl _ _ _ rfl rfl rfl rfl ?_ ?_ ?_ ?_ ?_ ?_;rotate_left 3;(repeat (first|exact Put.hd|(refine Put.tl (L' := ?_) ?_;rotate_left)));rotate_left;(with_reducible first|exact row54);(exact rfl);(exact rfl);(simp [Ones, Value.oneCell'])));(try clear K);(try clear ww);intro ww K;(try simp [go_sem] at K))))
    refine bodyPost_ret (K.res2 rfl _ rfl (At.tl (At.tl At.hd)) (by (with_reducible first|exact row54)) (by (exact rfl)) rfl) rfl ?_
    exact ⟨true, m1, q1, n4, X2, Y2, S2, B2, T2, A4, c4, Af, cf, nz, nu, rfl, FIN.out, .inl ⟨⟨K.fact.2.1, hN4⟩, ⟨K.fact.1, hN1⟩⟩, K.below⟩
  · have GB := Lib.hid (fun (w : World) => GJoin14_bad p q X Y S A n c w (by omega) (by omega) (by omega) (by simpa using hj))
    have SM := Lib.hid (fun (w : World) (h : Rd w A n (ints .i64 zs)) => RSum14 A n c zs w h (small_bd hnm) (by omega))
    generalize isum zs = s0 at *
    clear h h2 hb hg hkd hlim hT hB0 hB1 hn64 hnm hbo ys hj hS0 hX hY hpb hqb
    have c14 := c14h.out
    have c15 := c15h.out
    go_enter Try.func30, Try.ntmps30
    go_wp2_with (first|((with_reducible refine at_load ?_);first|(refine wm_load (cs := ?_) (t := ?_) (n := ?_) K rfl _ _ rfl rfl ?_ ?_ ?_ ?_;rotate_left 2;(repeat (first|exact At.hd|refine At.tl ?_));rotate_left;(with_reducible first|exact row47|exact row54);(solve|exact rfl|simp))|(refine wm_own (cs := ?_) (t := ?_) (v := ?_) K rfl _ _ rfl rfl ?_ ?_ ?_ ?_;rotate_left 2;(repeat (first|exact At.hd|refine At.tl ?_));rotate_left;(exact rfl);(with_reducible first|exact one5|exact one45)))|((with_reducible refine at_store ?_);(first|(refine wm_store (L' := ?_) (cs := ?_) (t := ?_) (n := ?_) K rfl _ _ _ rfl rfl rfl rfl ?_ ?_ ?_ ?_ ?_ ?_;rotate_left 3;(repeat (first|exact Put.hd|(refine Put.tl (L' := ?_) ?_;rotate_left)));rotate_left;(with_reducible first|exact row47|exact row54);(exact rfl);(exact rfl);(simp [Ones, Value.oneCell'])));(try clear K);(try clear ww);intro ww K;(try simp [go_sem] at K))|((first|((with_reducible refine at_box ?_);refine wm_box K rfl _ _ rfl rfl rfl ?_)|((with_reducible refine at_alloc ?_);refine wm_alloc (v := ?_) (cs := ?_) K rfl _ rfl ?_ ?_ ?_;rotate_left;(with_reducible first|exact zero47|exact zero54);rotate_left;exact rfl));(try clear K);(try clear ww);(first|((fail_if_success (have _h := b2));intro b2 ww K)|((fail_if_success (have _h := b3));intro b3 ww K)|((fail_if_success (have _h := b4));intro b4 ww K)|((fail_if_success (have _h := b6));intro b6 ww K)|((fail_if_success (have _h := b7));intro b7 ww K));(try simp [go_sem, Value.cells] at K))|((with_reducible refine at_load ?_);refine wm_partE (cs := ?_) (t := ?_) (n := ?_) (l := ?_) K rfl _ _ rfl rfl ?_ ?_ ?_ ?_ ?_;rotate_left 2;(repeat (first|exact At.hd|refine At.tl ?_));rotate_left;(with_reducible first|exact row47);rotate_left;(simp only [List.drop_succ_cons, List.drop_zero, List.take_succ_cons, List.take_zero];exact rfl);exact rfl)|(go_at_call 42;(with_reducible refine (SM.out _ (HR.out.below K.below)).mono ?_);rintro e w2 ⟨rfl, k1⟩;replace K := K.step k1;clear k1;(try clear ww);revert w2;intro ww K)|(go_at_call 51;(with_reducible refine (GB.out _).mono ?_);rintro e w2 ⟨rfl, k1⟩;replace K := K.step k1;clear k1;(try clear ww);revert w2;intro ww K))
    refine bodyPost_ret (K.res2 rfl _ rfl (At.tl (At.tl At.hd)) (by (with_reducible first|exact row54)) (by (exact rfl)) rfl) rfl ?_
    exact ⟨false, p, q, n, X, Y, S, B, T, A, c, A2, c2, zs, us, rfl, HB.out.up, .inr ⟨rfl, rfl, rfl, rfl, rfl⟩, K.below⟩
end Go.Proofs.Yteancdipmpmjpaa
namespace Go.Proofs.Yteancdipmpmjpaa
open Go.RowKit
set_option linter.unusedVariables false
theorem do18 (k p q n c c2 : Nat) (X Y S B T : Int) (A A2 : Option Addr) (zs : List Int) (us : List Nat) (r : OpRec) (w : World) (h : Rd w A n (ints .i64 zs)) (h2 : Fn w A2 n us) (hb : Play18 k p q n X Y S zs us B T) (hk : k ≤ 8) (hg : OpGood w r) :
    Calls Try.prog 30 #[.agg #[.int .i64 p, .int .i64 q, .int .i64 X, .int .i64 Y, .int .i64 S, .slice A n c, .int .i64 p, .int .i64 q, .slice A2 n c2, .int .i64 B, .int .i64 T], .agg (opCells r)] w fun e w' => ∃ (ok : Bool) (p' q' n' : Nat) (X' Y' S' B' T' : Int) (A' : Option Addr) (c' : Nat) (A2' : Option Addr) (c2' : Nat) (zs' : List Int) (us' : List Nat), e = .returned (.tuple #[.agg #[.int .i64 (p'), .int .i64 (q'), .int .i64 (X'), .int .i64 (Y'), .int .i64 (S'), .slice A' n' c', .int .i64 p', .int .i64 q', .slice A2' n' c2', .int .i64 (B'), .int .i64 (T')], .bool ok]) ∧ Play18 (k + 1) p' q' n' X' Y' S' zs' us' B' T' ∧ ((Rd w' A' n' (ints .i64 zs') ∧ Nw w.heap.size A') ∧ (Fn w' A2' n' us' ∧ Nw w.heap.size A2') ∨ (A' = A ∧ A2' = A2 ∧ n' = n ∧ zs' = zs ∧ us' = us)) ∧ Below w.heap.size w w' := by
  have h5 : 0 ≤ r.kd := hg.kd.1
  have e := Int.tmod_eq_emod_of_nonneg (b := 5) h5
  rcases (by omega : r.kd % 5 = 0 ∨ r.kd % 5 = 1 ∨ r.kd % 5 = 2 ∨ r.kd % 5 = 3 ∨ r.kd % 5 = 4) with h0 | h0 | h0 | h0 | h0
  · exact doA18 k p q n c c2 X Y S B T A A2 zs us r w h h2 hb hk hg (by rw [e, h0])
  · exact doB18 k p q n c c2 X Y S B T A A2 zs us r w h h2 hb hk hg (by rw [e, h0])
  · exact doC18 k p q n c c2 X Y S B T A A2 zs us r w h h2 hb hk hg (by rw [e, h0])
  · exact doD18 k p q n c c2 X Y S B T A A2 zs us r w h h2 hb hk hg (by rw [e, h0])
  · exact doE18 k p q n c c2 X Y S B T A A2 zs us r w h h2 hb hk hg (by rw [e, h0])
end Go.Proofs.Yteancdipmpmjpaa
namespace Go.Proofs.Yteancdipmpmjpaa
open Go.RowKit
set_option linter.unusedVariables false
section
variable {B0 : Nat} {w0 w : World} {L : List Blk} {F : World → Prop}
theorem St.addRd {A : Option Addr} {n : Nat} {xs : List Value} (K : St B0 w0 L F w) (hi : ∀ b off p, A = some ⟨b, off, p⟩ → b ∉ L.map (·.1)) (h : Rd w A n xs) : St B0 w0 L (fun w => Rd w A n xs ∧ F w) w :=
  K.add (G := fun w => Rd w A n xs) fun w'' hs hk => ⟨h.1, fun hn => by
    obtain ⟨b, off, rfl, hb', hc⟩ := h.2 hn
    refine ⟨b, off, rfl, by omega, fun j u hu => ?_⟩
    have := hk b hb' (hi b off _ rfl)
    have e : w''.cell? ⟨b, off + j, none⟩ = w.cell? ⟨b, off + j, none⟩ := by unfold World.cell?; rw [this]
    rw [e]; exact hc j u hu⟩
theorem St.do18 {k p q n c c2 : Nat} {X Y S B T : Int} {A A2 : Option Addr} {zs : List Int} {us : List Nat} {r : OpRec} (K : St B0 w0 L F w) (hL : (L.all fun p => p.2.2 != 24) = true) (hF : ∀ w, F w → Rd w A n (ints .i64 zs) ∧ Fn w A2 n us) (hb : Play18 k p q n X Y S zs us B T) (hk : k ≤ 8) (hg : OpGood w r) :
    Calls Try.prog 30 #[.agg #[.int .i64 p, .int .i64 q, .int .i64 X, .int .i64 Y, .int .i64 S, .slice A n c, .int .i64 p, .int .i64 q, .slice A2 n c2, .int .i64 B, .int .i64 T], .agg (opCells r)] w fun e w' => ∃ (ok : Bool) (p' q' n' : Nat) (X' Y' S' B' T' : Int) (A' : Option Addr) (c' : Nat) (A2' : Option Addr) (c2' : Nat) (zs' : List Int) (us' : List Nat), e = .returned (.tuple #[.agg #[.int .i64 (p'), .int .i64 (q'), .int .i64 (X'), .int .i64 (Y'), .int .i64 (S'), .slice A' n' c', .int .i64 p', .int .i64 q', .slice A2' n' c2', .int .i64 (B'), .int .i64 (T')], .bool ok]) ∧ Play18 (k + 1) p' q' n' X' Y' S' zs' us' B' T' ∧ St B0 w0 L (fun w => (Rd w A' n' (ints .i64 zs') ∧ Fn w A2' n' us') ∧ F w) w' := by
  refine (Go.Proofs.Yteancdipmpmjpaa.do18 k p q n c c2 X Y S B T A A2 zs us r w (hF _ K.fact).1 (hF _ K.fact).2 hb hk hg).mono ?_
  rintro e w' ⟨ok, p', q', n', X', Y', S', B', T', A', c', A2', c2', zs', us', rfl, hb2, hor, hbel⟩
  rcases hor with ⟨⟨h1, h2⟩, h3, h4⟩ | ⟨rfl, rfl, rfl, rfl, rfl⟩
  · have K2 := K.madeFn (noT_of hL) hbel h3 h4
    have K3 := K2.addRd (K.new_ids h2 (Nat.le_refl _)) h1
    exact ⟨ok, p', q', n', X', Y', S', B', T', A', c', A2', c2', zs', us', rfl, hb2, K3.weak fun w h => ⟨⟨h.1, h.2.1⟩, h.2.2⟩⟩
  · exact ⟨ok, p', q', n', X', Y', S', B', T', A', c', A2', c2', zs', us', rfl, hb2, (K.step hbel).weak fun w h => ⟨hF w h, h⟩⟩
end
section
variable {P : Program} {B : Nat} {w0 w : World} {F : World → Prop} {Ls : List Blk} {ops : Array Oper} {o : Oper} {a : Act} {t : Tr} {i : Nat} {Q : Exit → Act → World → Prop}
theorem tm_farRow18 (ho : opAt ops i = o) (hgd : Region.wanted o (yielded ops a.tmps) = true) (ty : TypeId) (x : Operand) (hop : o.op = .load ty x) {g off : Nat} (hx : a.eval x = .pointer (some ⟨g, off, none⟩)) {part : Array Value} (hp : ∀ w, St B w0 Ls F w → ∀ (j : Nat) (v : Value), part[j]? = some v → w.cell? ⟨g, off + j, none⟩ = some v)
    {n : Nat} (hu : RowTy P ty n) (hn : part.size = n)
    (h : wpTree P ops (St B w0 Ls F) Q t (a.put o.dst (.agg part)) w) : wpTree P ops (St B w0 Ls F) Q (.take i t) a w := by
  subst ho
  unfold wpTree
  rw [if_pos hgd]
  refine ⟨.agg part, fun w K => ?_, h⟩
  obtain ⟨d, h1, h2, h3⟩ := hu
  have := run_loadVar_mid (P := P) w g off ty part.toList d (fun j v hv => hp w K j v (by simpa using hv)) h1 (by cases d <;> simp_all) (by rw [Array.length_toList, hn]; exact h3)
  unfold execOp
  simp only [hop, hx, Instr.loadAt, Instr.sureAddr, Sem.run_bind, Sem.run_pure, Result.andThen_ok, this, Array.toArray_toList]
  trivial
end
theorem Both.first18 {p q n : Nat} {zs : List Int} (hn : q * p = n) (hp : 1 ≤ p ∧ p ≤ 8) (hq : 1 ≤ q ∧ q ≤ 8) (hl : zs.length = n) (hb : ∀ z ∈ zs, 0 ≤ z ∧ z ≤ 1073741824) : Both 0 p q n (toN zs) (toN zs) :=
  ⟨hn, hp, hq, by rw [toN_len]; exact hl, ⟨0, by simp [scl]⟩, fun y hy => by
    obtain ⟨z, hz, rfl⟩ := List.mem_map.1 hy
    have := hb z hz
    unfold M17
    rw [Nat.pow_zero]
    omega⟩
section
variable {k p q n : Nat} {X Y S : Int} {zs : List Int} {us : List Nat} {B T : Int} {w : World}
theorem Play18.right (h : Play18 k p q n X Y S zs us B T) : Right14 p q S zs := by
  obtain ⟨⟨ys, hb⟩, hX, hY, hS, hh, hT⟩ := h
  have hp := hb.hp
  have hq := hb.hq
  have hl := hh.lz
  have hn : ((q * p : Nat) : Int) = n := by rw [hb.hn]
  rw [Int.natCast_mul, Int.mul_comm] at hn
  exact ⟨by omega, by omega, by omega, by omega, by omega, by omega, by rw [hl, hn], hh.nums, hh.top, by rw [hl]; exact hh.low⟩
theorem Play18.check {A : Option Addr} {c : Nat} (hb : Play18 k p q n X Y S zs us B T) (h : Rd w A n (ints .i64 zs)) :
    Calls Try.prog 31 #[.agg #[.int .i64 p, .int .i64 q, .int .i64 X, .int .i64 Y, .int .i64 S, .slice A n c]] w fun e w' => e = .returned (.int .i64 0) ∧ Below w.heap.size w w' := by
  have e := GChk14 p q X Y S A n c zs w h (by have := hb.hold.n1; omega)
  rw [right_iff.2 hb.right] at e
  exact e
theorem Play18.over {A A2 : Option Addr} {c c2 : Nat} (hb : Play18 k p q n X Y S zs us B T) (hk : k ≤ 9) (h : Rd w A n (ints .i64 zs)) (h2 : Fn w A2 n us) :
    Calls Try.prog 32 #[.agg #[.int .i64 p, .int .i64 q, .int .i64 X, .int .i64 Y, .int .i64 S, .slice A n c], .agg #[.int .i64 p, .int .i64 q, .slice A2 n c2], .int .i64 B] w fun e w' => e = .returned (.bool false) ∧ Below w.heap.size w w' := by
  obtain ⟨ys, hbo⟩ := hb.both
  have h0 := hb.hold.b0
  have h1 := hb.hold.b1
  have e := Over17 p q X Y S p q A A2 n c c2 (M17 k) zs us B w h hb.hold.nums (by have := hbo.n64; omega) h2 hbo.xb (M17_pos k) (M17_lim hk) ⟨by omega, by omega⟩
  rw [hb.hold.over] at e
  exact e
theorem Play18.first (hn : q * p = n) (hp : 1 ≤ p ∧ p ≤ 8) (hq : 1 ≤ q ∧ q ≤ 8) (hS : S = 16 ∨ S = 32 ∨ S = 64 ∨ S = 128 ∨ S = 256 ∨ S = 512 ∨ S = 1024 ∨ S = 2048 ∨ S = 4096) (hR : Right14 p q S zs) (hl : zs.length = n) (hn1 : 1 ≤ n ∧ n ≤ 64) : Play18 0 p q n 1000 (-1000) S zs (toN zs) 0 0 :=
  ⟨⟨_, Both.first18 hn hp hq hl hR.nums⟩, by omega, by omega, hS, Holds.first hn1 hl hR.nums hR.top (by have := hR.low; rw [hl] at this; exact this), by omega⟩
end
theorem step_of {a S : Int} (h0 : 0 ≤ a ∧ a ≤ 255) (h : S = 16 * 2 ^ (a % 9).toNat) : S = 16 ∨ S = 32 ∨ S = 64 ∨ S = 128 ∨ S = 256 ∨ S = 512 ∨ S = 1024 ∨ S = 2048 ∨ S = 4096 := by
  obtain ⟨e, he⟩ : ∃ e, (a % 9).toNat = e := ⟨_, rfl⟩
  have h9 : e ≤ 8 := by omega
  rw [he] at h
  rcases (by omega : e = 0 ∨ e = 1 ∨ e = 2 ∨ e = 3 ∨ e = 4 ∨ e = 5 ∨ e = 6 ∨ e = 7 ∨ e = 8) with rfl | rfl | rfl | rfl | rfl | rfl | rfl | rfl | rfl <;> subst h <;> decide
end Go.Proofs.Yteancdipmpmjpaa
