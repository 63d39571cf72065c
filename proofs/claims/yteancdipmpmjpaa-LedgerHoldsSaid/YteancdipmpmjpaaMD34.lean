/-
  Lemmas and walks of this claim (the texts Lh18 of the work; what no proof here uses is left out). No claim of their own.
-/
import Derived.Test.YteancdipmpmjpaaMD33
import Derived.Test.YteancdipmpmjpaaMD32
import Derived.Test.YteancdipmpmjpaaMD29
set_option linter.all false
set_option linter.unusedSimpArgs false
set_option linter.unusedVariables false
namespace Go.Proofs.Yteancdipmpmjpaa
open Go.RowKit
attribute [local irreducible] wpHeld wpTree wpList
set_option linter.unusedVariables false
set_option maxRecDepth 100000 in
set_option maxHeartbeats 16000000 in
theorem walk_LedgerHolds (a0 a1 : Int) (a2 : Option Addr) (len2 cap2 : Nat) (z2 : List Int) (a3 : Int) (a4 : Option Addr) (len4 cap4 : Nat) (w : World) (w0 : (Lit.int .u8 a0).wf = true) (w1 : (Lit.int .u8 a1).wf = true) (w2 : IsRow .u16 w a2 len2 cap2 z2) (w3 : (Lit.int .u8 a3).wf = true) (w4 : IsOps w a4 len4 cap4) :
    Calls Try.prog 5 #[.int .u8 a0, .int .u8 a1, .slice a2 len2 cap2, .int .u8 a3, .slice a4 len4 cap4] w fun e w' => e = .returned (.bool true) ∧ Below w.heap.size w w' := by
  obtain ⟨l, hl, hr, hln⟩ := w2.rdI
  obtain ⟨os, hos⟩ := w4.ops
  have hb0 := wf_u8 w0
  have hb1 := wf_u8 w1
  have hb3 := wf_u8 w3
  have hls : ∀ z ∈ l, 0 ≤ z ∧ z ≤ 65535 := fun z hz => wf_u16 (hl z hz)
  have WK := Lib.hid works18_any
  clear w0 w1 w2 w3 w4 z2 hl hln
  have K := St.start w
  by_cases g0 : 100 < len2
  · have t0 : decide (100 < (len2 : Int)) = true := decide_eq_true (by omega)
    have t0n : decide (100 < len2) = true := decide_eq_true g0
    go_enter Try.func5, Try.ntmps5
    go_wp2_with (first|(go_at_call 19; (with_reducible refine (WK.out _).mono ?_); rintro e w2 ⟨rfl, k1⟩; replace K := K.step k1; clear k1; (try clear ww); revert w2; intro ww K))
    go_ret
    exact ⟨rfl, K.below⟩
  have t0 : decide (100 < (len2 : Int)) = false := decide_eq_false (by omega)
  have t0n : decide (100 < len2) = false := decide_eq_false g0
  by_cases g1 : bigOps os = true
  · have LT := Lib.hid (fun w' (h : Ops w' a4 len4 os) => Light17 a4 len4 cap4 os 1 w' h (by rw [g1]; rfl))
    have HO := Lib.hid hos
    go_enter Try.func5, Try.ntmps5
    go_wp2_with (first|(go_at_call 27;(with_reducible refine (LT.out _ HO.out).mono ?_);rintro e w2 ⟨rfl, k1⟩;replace K := K.step k1;clear k1;(try clear ww);revert w2;intro ww K)|(go_at_call 19;(with_reducible refine (WK.out _).mono ?_);rintro e w2 ⟨rfl, k1⟩;replace K := K.step k1;clear k1;(try clear ww);revert w2;intro ww K))
    go_ret
    exact ⟨rfl, K.below⟩
  have LT := Lib.hid (fun w' (h : Ops w' a4 len4 os) => Light17 a4 len4 cap4 os 0 w' h (if_neg g1))
  have ho8 : len4 ≤ 8 := by
    unfold bigOps at g1
    rw [hos.1] at g1
    rcases Nat.lt_or_ge 8 len4 with h | h
    · exact absurd (by rw [decide_eq_true h]; rfl) g1
    · exact h
  have HO := Lib.hid hos
  obtain ⟨p, hp⟩ : ∃ p : Nat, (p : Int) = 1 + a0 % 8 := ⟨(1 + a0 % 8).toNat, by omega⟩
  obtain ⟨q, hq⟩ : ∃ q : Nat, (q : Int) = 1 + a1 % 8 := ⟨(1 + a1 % 8).toNat, by omega⟩
  obtain ⟨S, hS⟩ : ∃ S : Int, S = 16 * 2 ^ (a3 % 9).toNat := ⟨_, rfl⟩
  obtain ⟨n, hn1⟩ : ∃ n, p * q = n := ⟨_, rfl⟩
  have hS9 := step_of hb3 hS
  have hpb : 1 ≤ p ∧ p ≤ 8 := by omega
  have hqb : 1 ≤ q ∧ q ≤ 8 := by omega
  have hn4 : 1 ≤ n ∧ n ≤ 64 := by rw [← hn1]; exact ⟨Nat.mul_le_mul hpb.1 hqb.1, Nat.mul_le_mul hpb.2 hqb.2⟩
  have hnI : (p : Int) * (q : Int) = (n : Int) := by rw [← Int.natCast_mul, hn1]
  have MK := Lib.hid (fun w' (hb : Below w.heap.size w w') => Made14 a0 a1 a3 p q S a2 n len2 cap2 l w' hb0 hb1 hb3 hp hq hS hnI (hr.below hb) hls)
  have hR := mad_right (W := p) (H := q) (S := S) (n := n) (ls := l) (by omega) (by omega) (by omega) hnI hls
  obtain ⟨zs, hzs⟩ : ∃ zs, mad14 n l = zs := ⟨_, rfl⟩
  have hzl : zs.length = n := by rw [← hzs]; exact mad_len _ _
  rw [hzs] at MK hR
  have hn5 : n ≤ 5000 := by omega
  have HZ := Lib.hid hR.nums
  have HB0 := Lib.hid (Play18.first (by rw [Nat.mul_comm]; exact hn1) hpb hqb hS9 hR hzl hn4)
  have FP := Lib.hid (fun (A : Option Addr) (c : Nat) (w : World) (h : Rd w A n (ints .i64 zs)) => From17 p q 1000 (-1000) S A n c zs w h HZ.out hn5)
  generalize toN zs = us at *
  clear hzs hR hr hb0 hb1 hb3 hp hq hS hS9 hnI g0 g1 hls hos hzl hpb hqb hn1 hn4
  go_enter Try.func5, Try.ntmps5
  go_wp2_with (first|((with_reducible refine at_store ?_);(first|(refine wm_store (L' := ?_) (cs := ?_) (t := ?_) (n := ?_) K rfl _ _ _ rfl rfl rfl rfl ?_ ?_ ?_ ?_ ?_ ?_;rotate_left 3;(repeat (exact Put.hd));rotate_left;(with_reducible first|exact row47);(exact rfl);(exact rfl);(simp [Ones, Value.oneCell'])));(try clear K);(try clear ww);intro ww K;(try simp [go_sem] at K))|((first|((with_reducible refine at_alloc ?_);refine wm_alloc (v := ?_) (cs := ?_) K rfl _ rfl ?_ ?_ ?_;rotate_left;(with_reducible first|exact zero47);rotate_left;exact rfl));(try clear K);(try clear ww);((fail_if_success (have _h := b11));intro b11 ww K);(try simp [go_sem, Value.cells] at K))|(go_at_call 27;(with_reducible refine (LT.out _ HO.out).mono ?_);rintro e w2 ⟨rfl, k1⟩;replace K := K.step k1;clear k1;(try clear ww);revert w2;intro ww K)|(go_at_call 28;have zz := MK.out _ K.below;(with_reducible refine zz.mono ?_);clear zz;rintro e w2 ⟨Ag, cg, rfl, ⟨hx, hA⟩, hbel⟩;(try dsimp only);replace K := K.madeRd hbel hx hA;clear hbel hx hA;(try clear ww);revert w2;intro ww K))
  (try simp only [Act.put, List.setIfInBounds_toArray, List.set_cons_zero, List.set_cons_succ])
  go_cut [12] from 30 to 34 (fun p12 wc => ∃ (b12 : Nat) (Af : Option Addr) (cf : Nat), p12 = .pointer (some ⟨b12, 0, none⟩) ∧ St w.heap.size w [(b12, #[.int .i64 p, .int .i64 q, .int .i64 1000, .int .i64 (-1000), .int .i64 S, .slice Ag n cg, .int .i64 p, .int .i64 q, .slice Af n cf, .int .i64 0, .int .i64 0], 54), (b11, #[.int .i64 p, .int .i64 q, .int .i64 1000, .int .i64 (-1000), .int .i64 S, .slice Ag n cg], 47)] (fun w => Rd w Ag n (ints .i64 zs) ∧ Fn w Af n us) wc)
  case first =>
    refine wm_tree _ (.take 0 (.take 1 (.alt 2 (.take 3 (.alt 4 (.alt 5 .done .stop) .stop)) (.alt 4 (.alt 2 (.take 3 (.alt 5 .done .stop)) .stop) .stop)))) K sbr (by kernel_rfl) (by kernel_rfl) ?_; (try clear K); (try clear ww); intro ww K; (try simp [go_sem] at K)
    repeat' (first|exact tree_stop|(refine tm_load (cs := ?_) (t0 := ?_) (n := ?_) rfl rfl _ _ rfl rfl ?_ ?_ ?_ ?_;rotate_left 2;(repeat (exact At.hd));rotate_left;(with_reducible first|exact row47);(exact rfl))|(refine tree_take (fun K' hK' => ?_);simp only [opAt, List.getElem?_toArray, List.getElem?_cons_succ, List.getElem?_cons_zero, Option.getD_some];go_simp;first|(apply Exists.intro;refine ⟨?_, hK' _ ?_⟩;(intro _ _;rfl);clear hK' K'))|(refine tree_alt (fun K' hK' => ?_) ?_;simp only [opAt, List.getElem?_toArray, List.getElem?_cons_succ, List.getElem?_cons_zero, Option.getD_some];go_simp;(go_at_call 29;have zz := fun c => FP.out _ c _ (by first|exact K.fact.1);(with_reducible refine (zz _).mono ?_);clear zz;rintro e w2 ⟨Af, cf, rfl, ⟨hx, hA⟩, hbel⟩;(try dsimp only);have K2 := K.madeFn (noT_of rfl) hbel hx hA;refine hK' _ _ (by apply via sbr;first|exact K2.weak wk1|exact K2.tail.weak wk1) ?_;replace K := K2;clear hK' K' K2 hbel hx hA;(try clear ww);revert w2;intro ww K))|(first|((fail_if_success (have _h := b12));refine tm_alloc (v := ?_) (cs := ?_) K rfl rfl _ rfl ?_ ?_ ?_ ?_;rotate_left;(with_reducible first|exact zero54);rotate_left;exact rfl;intro b12 ww2 K2;(try simp [go_sem, Value.cells] at K2);refine ⟨(by apply via sbr;first|exact K2.tail|exact K2.tail.weak wk1), ?_⟩;replace K := K2;clear K2;(try clear ww);revert ww2;intro ww K))|(refine tm_store (L' := ?_) (cs := ?_) (t0 := ?_) (n := ?_) K rfl rfl _ _ _ rfl rfl rfl rfl ?_ ?_ ?_ ?_ ?_ ?_ ?_;rotate_left 3;(repeat (exact Put.hd));rotate_left;(with_reducible first|exact row54);(exact rfl);(exact rfl);(simp [Ones, Value.oneCell']);intro ww2 K2;(try simp [go_sem] at K2);refine ⟨(by apply via sbr;first|exact K2.tail.weak wk1), ?_⟩;replace K := K2;clear K2;(try clear ww);revert ww2;intro ww K))
    all_goals refine tree_done ?_
    all_goals (try simp only [opAt, List.getElem?_toArray, List.getElem?_cons_succ, List.getElem?_cons_zero, Option.getD_some])
    all_goals (try go_simp)
    all_goals (try go_wp2_with (fail))
    all_goals (try go_meet)
    all_goals exact ⟨_, _, _, rfl, K.weak fun w h => ⟨h.2.1, h.1⟩⟩
  case rest =>
    clear K FP MK LT
    obtain ⟨b12, Af, cf, rfl, K⟩ := hcut
    go_wp2_with (first|((with_reducible refine at_load ?_);first|(refine wm_own (cs := ?_) (t := ?_) (v := ?_) K rfl _ _ rfl rfl ?_ ?_ ?_ ?_;rotate_left 2;(repeat (first|exact At.hd|refine At.tl ?_));rotate_left;(exact rfl);(with_reducible first|exact one45|exact one49))))
    go_loopw [13] (fun i wr => ∃ (k P Q N : Nat) (X Y S2 B T : Int) (A A2 : Option Addr) (c c2 : Nat) (zs : List Int) (us : List Nat), k ≤ len4 ∧ i = .int .i64 k ∧ Hid (Play18 k P Q N X Y S2 zs us B T) ∧ St w.heap.size w [(b12, #[.int .i64 P, .int .i64 Q, .int .i64 X, .int .i64 Y, .int .i64 S2, .slice A N c, .int .i64 P, .int .i64 Q, .slice A2 N c2, .int .i64 B, .int .i64 T], 54), (b11, #[.int .i64 p, .int .i64 q, .int .i64 1000, .int .i64 (-1000), .int .i64 S, .slice Ag n cg], 47)] (fun w => Rd w A N (ints .i64 zs) ∧ Fn w A2 N us) wr) (fun i _ => len4 - (intOf i).toNat)
    case atStart => exact ⟨0, p, q, n, 1000, -1000, S, 0, 0, Ag, Af, cg, cf, zs, us, Nat.zero_le _, rfl, HB0, K⟩
    case round =>
      clear K HB0 HZ
      obtain ⟨i, P, Q, N, X, Y, S2, B, T, A, A2, c, c2, zs, us, hi, rfl, HB, K⟩ := hrel
      by_cases hlt : i < len4
      · have ht : decide ((i : Int) < len4) = true := decide_eq_true (by omega)
        have htn : decide (i < len4) = true := decide_eq_true hlt
        obtain ⟨b, off, r, rfl, hbb, hr, hg, hc⟩ := HO.out.2 i hlt
        have HG := Lib.hid hg
        have HC := Lib.hid hc
        have i8 : i ≤ 8 := by omega
        clear hr hg hc
        go_wp2_with (fail)
        refine wm_tree _ (.take 0 (.take 1 (.take 2 (.take 3 (.take 4 (.alt 5 (.take 6 (.take 7 (.take 8 (.alt 9 (.alt 10 (.take 11 .done) .stop) .stop)))) (.alt 9 (.alt 5 (.take 6 (.take 7 (.take 8 (.alt 10 (.take 11 .done) .stop)))) .stop) .stop))))))) K sbr (by kernel_rfl) (by kernel_rfl) ?_; (try clear K); (try clear ww); intro ww K; (try simp [go_sem] at K)
        repeat' (first|exact tree_stop|(refine tm_farRow18 (part := opCells r) (n := 7) rfl rfl _ _ rfl rfl (fun ww K j v hv => (K.below.cell hbb).trans (HC.out j v hv)) ?_ rfl ?_;(with_reducible first|exact row59))|(refine tm_load (cs := ?_) (t0 := ?_) (n := ?_) rfl rfl _ _ rfl rfl ?_ ?_ ?_ ?_;rotate_left 2;(repeat (exact At.hd));rotate_left;(with_reducible first|exact row54);(exact rfl))|(refine tree_take (fun K' hK' => ?_);simp only [opAt, List.getElem?_toArray, List.getElem?_cons_succ, List.getElem?_cons_zero, Option.getD_some];go_simp;first|(apply Exists.intro;refine ⟨?_, hK' _ ?_⟩;(intro _ _;rfl);clear hK' K'))|(refine tree_alt (fun K' hK' => ?_) ?_;simp only [opAt, List.getElem?_toArray, List.getElem?_cons_succ, List.getElem?_cons_zero, Option.getD_some];go_simp;go_at_call 30;have zz := fun c c2 => K.do18 (c := c) (c2 := c2) rfl (fun _ h => h) HB.out i8 (HG.out.below K.below);(with_reducible refine (zz _ _).mono ?_);clear zz;rintro e w2 ⟨ok, P2, Q2, N2, X2, Y2, S3, B2, T2, A3, c3, A4, c4, zs2, us2, rfl, hB2, K2⟩;(try dsimp only);refine hK' _ _ (by apply via sbr;first|exact K2.weak wk1|exact K2.tail.weak wk1) ?_;replace K := K2;clear hK' K' K2;(try clear ww);revert w2;intro ww K)|(first|((fail_if_success (have _h := b14));refine tm_alloc (v := ?_) (cs := ?_) K rfl rfl _ rfl ?_ ?_ ?_ ?_;rotate_left;(with_reducible first|exact zero54);rotate_left;exact rfl;intro b14 ww2 K2;(try simp [go_sem, Value.cells] at K2);refine ⟨(by apply via sbr;first|exact K2.tail|exact K2.tail.weak wk1), ?_⟩;replace K := K2;clear K2;(try clear ww);revert ww2;intro ww K))|(refine tm_store (L' := ?_) (cs := ?_) (t0 := ?_) (n := ?_) K rfl rfl _ _ _ rfl rfl rfl rfl ?_ ?_ ?_ ?_ ?_ ?_ ?_;rotate_left 3;(repeat (exact Put.hd));rotate_left;(with_reducible first|exact row54);(exact rfl);(exact rfl);(simp [Ones, Value.oneCell']);intro ww2 K2;(try simp [go_sem] at K2);refine ⟨(by apply via sbr;first|exact K2.tail.weak wk1), ?_⟩;replace K := K2;clear K2;(try clear ww);revert ww2;intro ww K))
        all_goals refine tree_done ?_
        all_goals (try simp only [opAt, List.getElem?_toArray, List.getElem?_cons_succ, List.getElem?_cons_zero, Option.getD_some])
        all_goals (try go_simp)
        all_goals have HB2 := Lib.hid hB2
        all_goals have t5 : decide (B2 < 0) = false := decide_eq_false (by have := hB2.hold.b0; omega)
        all_goals have t6 : decide (1099511627776 < B2) = false := decide_eq_false (by have := hB2.hold.b1; omega)
        all_goals have i9 : i + 1 ≤ 9 := by omega
        all_goals clear hB2
        all_goals cases ok
        all_goals (try go_wp2_with (first|((with_reducible refine at_load ?_);first|(refine wm_load (cs := ?_) (t := ?_) (n := ?_) K rfl _ _ rfl rfl ?_ ?_ ?_ ?_;rotate_left 2;(repeat (first|exact At.hd|refine At.tl ?_));rotate_left;(with_reducible first|exact row47|exact row54);(solve|exact rfl|simp))|(refine wm_own (cs := ?_) (t := ?_) (v := ?_) K rfl _ _ rfl rfl ?_ ?_ ?_ ?_;rotate_left 2;(repeat (first|exact At.hd|refine At.tl ?_));rotate_left;(exact rfl);(with_reducible first|exact one2|exact one45|exact one49)))|((with_reducible refine at_store ?_);(first|(refine wm_store (L' := ?_) (cs := ?_) (t := ?_) (n := ?_) K rfl _ _ _ rfl rfl rfl rfl ?_ ?_ ?_ ?_ ?_ ?_;rotate_left 3;(repeat (first|exact Put.hd|(refine Put.tl (L' := ?_) ?_;rotate_left)));rotate_left;(with_reducible first|exact row54);(exact rfl);(exact rfl);(simp [Ones, Value.oneCell'])));(try clear K);(try clear ww);intro ww K;(try simp [go_sem] at K))|((with_reducible refine at_load ?_);refine wm_partE (cs := ?_) (t := ?_) (n := ?_) (l := ?_) K rfl _ _ rfl rfl ?_ ?_ ?_ ?_ ?_;rotate_left 2;(repeat (first|exact At.hd|refine At.tl ?_));rotate_left;(with_reducible first|exact row47|exact row51);rotate_left;(simp only [List.drop_succ_cons, List.drop_zero, List.take_succ_cons, List.take_zero];exact rfl);exact rfl)|(go_at_call 31;have zz := fun c => HB2.out.check (c := c) K.fact.1.1;(with_reducible refine (zz _).mono ?_);clear zz;rintro e w2 ⟨rfl, kk1⟩;replace K := K.step kk1;clear kk1;(try clear ww);revert w2;intro ww K)|(go_at_call 32;have zz := fun c c2 => HB2.out.over (c := c) (c2 := c2) i9 K.fact.1.1 K.fact.1.2;(with_reducible refine (zz _ _).mono ?_);clear zz;rintro e w2 ⟨rfl, kk1⟩;replace K := K.step kk1;clear kk1;(try clear ww);revert w2;intro ww K)))
        all_goals first|exact ⟨⟨i + 1, P, Q, N, X, Y, S2, B, T, A, A2, c, c2, zs, us, by omega, by go_num, Lib.hid HB.out.up, K.tail.weak fun w h => h.2⟩, by simp [intOf];omega⟩|exact ⟨⟨i + 1, P2, Q2, N2, X2, Y2, S3, B2, T2, A3, A4, c3, c4, zs2, us2, by omega, by go_num, HB2, K.tail.weak fun w h => h.1⟩, by simp [intOf];omega⟩
      · obtain rfl : len4 = i := by omega
        have ht : decide ((len4 : Int) < len4) = false := decide_eq_false (by omega)
        have htn : decide (len4 < len4) = false := decide_eq_false (by omega)
        go_wp2_with (first|(go_at_call 19;(with_reducible refine (WK.out _).mono ?_);rintro e w2 ⟨rfl, k1⟩;replace K := K.step k1;clear k1;(try clear ww);revert w2;intro ww K))
        go_ret
        exact ⟨rfl, K.below⟩
end Go.Proofs.Yteancdipmpmjpaa
