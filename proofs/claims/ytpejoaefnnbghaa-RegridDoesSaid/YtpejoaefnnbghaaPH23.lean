/-
  Lemmas and walks of this claim (the texts Mi15 Mj15 Cc19 La15 of the work; what no proof here uses is left out). No claim of their own.
-/
import Derived.Test.YtpejoaefnnbghaaPH22
import Derived.Lib.RabinKarpLaws
import Derived.Test.YtpejoaefnnbghaaPH21
import Derived.Test.YtpejoaefnnbghaaPH18
import Derived.Test.YtpejoaefnnbghaaPH3
import Derived.Test.YtpejoaefnnbghaaPH7
import Derived.Test.YtpejoaefnnbghaaPH8
import Derived.Test.YtpejoaefnnbghaaPH1
import Derived.Test.YtpejoaefnnbghaaPH14
import Derived.Test.YtpejoaefnnbghaaPH17
import Derived.Test.YtpejoaefnnbghaaPH19
import Derived.Test.YtpejoaefnnbghaaPH20
import Derived.Test.YtpejoaefnnbghaaPH10
import Derived.OpenShut
import Derived.Test.YtpejoaefnnbghaaProg
import Derived.Deep.QuietTactic
import Derived.BigQuiet
import Derived.Deep.Cut
import Derived.Deep.LoopGhost
import Derived.WalkLawsBesides
import Derived.WalkSpells
import Derived.Laws.StructEq
import Derived.Test.YtpejoaefnnbghaaPH5
import Derived.Test.YtpejoaefnnbghaaPH11
import Derived.Test.YtpejoaefnnbghaaPH4
set_option linter.all false
set_option linter.unusedSimpArgs false
set_option linter.unusedVariables false
namespace Go.Proofs.Ytpejoaefnnbghaa
open Go.RowKit
attribute [local irreducible] wpHeld wpTree wpList
set_option linter.unusedVariables false
theorem AddS15 (x y s : Int) (hs : x + y = s) (x0 : 0 ≤ x) (x1 : x ≤ 85070591730234615865843651857942052864) (y0 : 0 ≤ y) (y1 : y ≤ 42535295865117307932921825928971026432) : Hid (∀ w, Calls Try.prog 63 #[.agg (wI x), .agg (wI y)] w fun e w' => e = .returned (.tuple #[.agg (wI s), .bool true]) ∧ Below w.heap.size w w') :=
  AddW_at x y s true (by rw [fitsB (z := x) (by omega) (by omega), fitsB (z := y) (by omega) (by omega)]; rfl) (by rw [wrapB (by omega) (by omega)]; exact hs) (fitsB (by omega) (by omega))
set_option maxRecDepth 100000 in
set_option maxHeartbeats 1000000 in
theorem many15 (a b : Int) (n : Nat) (w : World) (a0 : 0 ≤ a) (a1 : a ≤ 1152921504606846976) (hn : n ≤ 4096) (b0 : 0 ≤ b) (b1 : b ≤ 1152921504606846976) :
    Calls Try.prog 65 #[.agg (wI a), .int .i64 n, .agg (wI b)] w fun e w' => e = .returned (.bool (decide (a * n ≤ b))) ∧ Below w.heap.size w w' := by
  have K := St.start w
  have hz : wI 0 = #[.int .i64 0, .int .u64 0] := rfl
  have ht0 := Int.mul_nonneg a0 (Int.natCast_nonneg n)
  have ht1 := Int.mul_le_mul a1 (Int.ofNat_le.2 hn) (Int.natCast_nonneg n) (by decide)
  obtain ⟨t, ht⟩ : ∃ t, a * n = t := ⟨_, rfl⟩
  rw [ht] at ht0 ht1
  rw [ht]
  replace ht := Lib.hid ht
  have t3 : ∀ y, y = t → Hid (decide (cmpI y b ≤ 0) = decide (t ≤ b)) := fun y h => Lib.hid (by
    subst h
    unfold cmpI
    rw [decide_eq_decide]
    split <;> (try split) <;> omega)
  go_enter Try.func65, Try.ntmps65
  go_wp2_with (first|((with_reducible refine at_store ?_);first|(refine wm_store (L' := ?_) (cs := ?_) (t := ?_) (n := ?_) K rfl _ _ _ rfl rfl rfl rfl ?_ ?_ ?_ ?_ ?_ ?_;rotate_left 3;(repeat (exact Put.hd));rotate_left;(with_reducible first|exact row106);(exact rfl);(exact rfl);(simp [Ones, Value.oneCell']);(try clear K);(try clear ww);intro ww K;(try simp [go_sem] at K)))|((first|((with_reducible refine at_box ?_);refine wm_box K rfl _ _ rfl rfl rfl ?_)|((with_reducible refine at_alloc ?_);refine wm_alloc (v := ?_) (cs := ?_) K rfl _ rfl ?_ ?_ ?_;rotate_left;(with_reducible first|exact zero106);rotate_left;exact rfl));(try clear K);(try clear ww);(first|((fail_if_success (have _h := b3));intro b3 ww K)|((fail_if_success (have _h := b5));intro b5 ww K)|((fail_if_success (have _h := b7));intro b7 ww K));(try simp [go_sem, Value.cells] at K)))
  (try go_simp)
  go_loopw [1] (fun i wr => ∃ (k : Nat) (x y : Int), k ≤ 4096 ∧ i = .int .i64 k ∧ (y + x * k = t ∧ 0 ≤ x ∧ x ≤ 9444732965739290427392 ∧ 0 ≤ y) ∧ St w.heap.size w [(b7, wI y, 106), (b5, wI b, 106), (b3, wI x, 106)] Any wr) (fun i _ => (intOf i).toNat)
  case atStart => exact ⟨n, a, 0, hn, rfl, ⟨by rw [Int.zero_add]; exact ht.out, a0, by omega, by omega⟩, K⟩
  case round =>
    clear K
    obtain ⟨k, x, y, hk, rfl, ⟨h1, h2, h3, h4⟩, K⟩ := hrel
    by_cases hk0 : 0 < k
    · have t0 : decide (0 < (k : Int)) = true := decide_eq_true (by omega)
      have hm := Nat.mod_two_eq_zero_or_one k
      have eb := and_one k (by omega)
      have hdiv := Lib.hid (show (k : Int) = 2 * ((k / 2 : Nat) : Int) + ((k % 2 : Nat) : Int) by omega)
      have hE := Lib.hid h1
      have e1 := (show ∀ q r : Int, x * (2 * q + r) = (x + x) * q + x * r from fun q r => by grind) ((k / 2 : Nat) : Int) ((k % 2 : Nat) : Int)
      rw [← hdiv.out] at e1
      replace e1 := Lib.hid e1
      have hxk := Int.mul_nonneg h2 (Int.natCast_nonneg k)
      have hx : x ≤ t := by
        have := Int.mul_le_mul_of_nonneg_left (show (1 : Int) ≤ k by omega) h2
        omega
      have A2 := AddS15 x x (x + x) rfl h2 (by omega) h2 (by omega)
      rcases hm with hm | hm
      · have t2 : bits BinOp.and IntKind.i64 (k : Int) 1 = 0 := by rw [eb, hm]; rfl
        have A1 := A2
        clear eb
        go_wp2_with (first|((with_reducible refine at_load ?_);first|(refine wm_load (cs := ?_) (t := ?_) (n := ?_) K rfl _ _ rfl rfl ?_ ?_ ?_ ?_;rotate_left 2;(repeat (first|exact At.hd|refine At.tl ?_));rotate_left;(with_reducible first|exact row106);((with_reducible exact wI_size _))))|((with_reducible refine at_store ?_);first|(refine wm_store (L' := ?_) (cs := ?_) (t := ?_) (n := ?_) K rfl _ _ _ rfl rfl rfl rfl ?_ ?_ ?_ ?_ ?_ ?_;rotate_left 3;(repeat (first|exact Put.hd|(refine Put.tl (L' := ?_) ?_;rotate_left)));rotate_left;(with_reducible first|exact row106);((with_reducible exact wI_size _));((with_reducible exact wI_size _));((with_reducible exact wI_ones _));(try clear K);(try clear ww);intro ww K;(try simp [go_sem] at K)))|(go_at_call 63;(with_reducible refine (A2.out _).mono ?_);rintro e w2 ⟨rfl, k1⟩;replace K := K.step k1;clear k1;(try clear ww);revert w2;intro ww K))
        exact ⟨⟨k / 2, x + x, y, by omega, congrArg (Value.int .i64) (Int.natCast_ediv k 2).symm, ⟨by have e3 := e1.out; rw [hm] at e3; have e2 := hE.out; simp at e3 ⊢; omega, by omega, by omega, h4⟩, K⟩, by simp [intOf]; omega⟩
      · have t2 : bits BinOp.and IntKind.i64 (k : Int) 1 = 1 := by rw [eb, hm]; rfl
        have A1 := AddS15 y x (y + x) rfl h4 (by omega) h2 (by omega)
        clear eb
        go_wp2_with (first|((with_reducible refine at_load ?_);first|(refine wm_load (cs := ?_) (t := ?_) (n := ?_) K rfl _ _ rfl rfl ?_ ?_ ?_ ?_;rotate_left 2;(repeat (first|exact At.hd|refine At.tl ?_));rotate_left;(with_reducible first|exact row106);((with_reducible exact wI_size _))))|((with_reducible refine at_store ?_);first|(refine wm_store (L' := ?_) (cs := ?_) (t := ?_) (n := ?_) K rfl _ _ _ rfl rfl rfl rfl ?_ ?_ ?_ ?_ ?_ ?_;rotate_left 3;(repeat (first|exact Put.hd|(refine Put.tl (L' := ?_) ?_;rotate_left)));rotate_left;(with_reducible first|exact row106);((with_reducible exact wI_size _));((with_reducible exact wI_size _));((with_reducible exact wI_ones _));(try clear K);(try clear ww);intro ww K;(try simp [go_sem] at K)))|(go_at_call 63;(with_reducible refine (A1.out _).mono ?_);rintro e w2 ⟨rfl, k1⟩;replace K := K.step k1;clear k1;(try clear ww);revert w2;intro ww K)|(go_at_call 63;(with_reducible refine (A2.out _).mono ?_);rintro e w2 ⟨rfl, k1⟩;replace K := K.step k1;clear k1;(try clear ww);revert w2;intro ww K))
        exact ⟨⟨k / 2, x + x, y + x, by omega, congrArg (Value.int .i64) (Int.natCast_ediv k 2).symm, ⟨by have e3 := e1.out; rw [hm] at e3; have e2 := hE.out; simp at e3 ⊢; omega, by omega, by omega, by omega⟩, K⟩, by simp [intOf]; omega⟩
    · obtain rfl : k = 0 := by omega
      have hy : y = t := by rw [← h1]; simp
      have t4 := (t3 y hy).out
      have CW := CmpW_at y b (cmpI y b) rfl
      generalize cmpI y b = r at *
      clear h1 h2 h3 h4 hy t3
      go_wp2_with (first|((with_reducible refine at_load ?_);first|(refine wm_load (cs := ?_) (t := ?_) (n := ?_) K rfl _ _ rfl rfl ?_ ?_ ?_ ?_;rotate_left 2;(repeat (first|exact At.hd|refine At.tl ?_));rotate_left;(with_reducible first|exact row106);((with_reducible exact wI_size _))))|(go_at_call 108;(with_reducible refine (CW.out _).mono ?_);rintro e w2 ⟨rfl, k1⟩;replace K := K.step k1;clear k1;(try clear ww);revert w2;intro ww K))
      go_ret
      exact ⟨rfl, K.below⟩
end Go.Proofs.Ytpejoaefnnbghaa
namespace Go.Proofs.Ytpejoaefnnbghaa
open Go.RowKit
attribute [local irreducible] wpHeld wpTree wpList
attribute [local go_sem] Oper.semAt_some
set_option linter.unusedVariables false
def sqP (zs : List Int) (k : Nat) : Int := lsum sq ((pls zs).take k)
section
variable {p q k : Nat} {zs : List Int} {x : Nat × Int}
theorem sqP_snoc (hx : (pls zs)[k]? = some x) : sqP zs (k + 1) = sqP zs k + x.2 * x.2 := by unfold sqP; rw [lsum_snoc hx]; rfl
theorem Gr.sqP_bd (G : Gr p q zs) : 0 ≤ sqP zs k ∧ sqP zs k ≤ 1152921504606846976 := G.sq_takeP k
theorem Gr.sqP_end (G : Gr p q zs) : sqP zs (pls zs).length = squares zs := by unfold sqP; rw [List.take_length]; exact G.sq_pls
end
theorem meas15 {k M g : Int} (h : k + 1 ≤ M) (h2 : M ≤ g) : (g + 1 - (M + 1)).toNat < (g + 1 - (k + 1)).toNat := by omega
theorem meas16 {k g g2 : Int} (h : g2 < g) (h2 : k + 1 ≤ g) : (g2 + 1 - (k + 1)).toNat < (g + 1 - (k + 1)).toNat := by omega
def evenV (zs : List Int) : Int := if isum zs = 0 then 0 else even15 zs
set_option maxRecDepth 100000 in
set_option maxHeartbeats 4000000 in
theorem Even15 (p q : Nat) (H X Y S : Int) (A : Option Addr) (n c : Nat) (zs : List Int) (w : World) (hG : Gr p q zs) (hl : zs.length = n) (h : Rd w A n (ints .i64 zs)) :
    Calls Try.prog 28 #[.agg #[.int .i64 p, .int .i64 H, .int .i64 X, .int .i64 Y, .int .i64 S, .slice A n c]] w fun e w' => e = .returned (.int .i64 (evenV zs)) ∧ Below w.heap.size w w' := by
  obtain ⟨rv, hrv⟩ : ∃ rv, evenV zs = rv := ⟨_, rfl⟩
  rw [hrv]
  have K := St.start w
  have HG := Lib.hid hG
  have HR := Lib.hid h
  have hn5 := hG.n2
  rw [hl] at hn5
  have PG := fun b => places_gives b p H X Y S A n c zs hG.w0 hG.w1 hl (by omega)
  have PG := Lib.hid PG
  have SM := Lib.hid (fun w h => Sum14 p H X Y S A n c zs w h (fun z hz => by have := hG.nums z hz; omega) (by omega))
  clear h hG
  refine calls_of_wp_marks Try.func28 rfl ?_; simp only [Try.ntmps28, List.size_toArray, List.length_cons, List.length_nil, Nat.reduceAdd, Nat.reduceSub, Array.replicate_succ, Array.replicate_zero, List.push_toArray, List.append_toArray, List.nil_append, List.cons_append]
  go_wp2_with (first|((with_reducible refine at_load ?_);first|(refine wm_load (cs := ?_) (t := ?_) (n := ?_) K rfl _ _ rfl rfl ?_ ?_ ?_ ?_;rotate_left 2;(repeat (first|exact At.hd|refine At.tl ?_));rotate_left;(with_reducible first|exact row26);(exact rfl)))|((with_reducible refine at_store ?_);(first|(refine wm_store (L' := ?_) (cs := ?_) (t := ?_) (n := ?_) K rfl _ _ _ rfl rfl rfl rfl ?_ ?_ ?_ ?_ ?_ ?_;rotate_left 3;(repeat (exact Put.hd));rotate_left;(with_reducible first|exact row106);(exact rfl);(exact rfl);(simp [Ones, Value.oneCell'])));(try clear K);(try clear ww);intro ww K;(try simp [go_sem] at K))|((first|((with_reducible refine at_box ?_);refine wm_box K rfl _ _ rfl rfl rfl ?_)|((with_reducible refine at_alloc ?_);refine wm_alloc (v := ?_) (cs := ?_) K rfl _ rfl ?_ ?_ ?_;rotate_left;(with_reducible first|exact zero106);rotate_left;exact rfl));(try clear K);(try clear ww);(first|((fail_if_success (have _h := b1));intro b1 ww K)|((fail_if_success (have _h := b4));intro b4 ww K));(try simp [go_sem, Value.cells] at K))|(go_at_call 62;(with_reducible refine (SM.out _ (HR.out.below K.below)).mono ?_);rintro e w2 ⟨rfl, k1⟩;replace K := K.step k1;clear k1;(try clear ww);revert w2;intro ww K)|(go_at_call 56;have zz := places15 K p H X Y S A n c;(with_reducible refine zz.mono ?_);clear zz;rintro e w2 ⟨bb, rfl, K2⟩;(try dsimp only);replace K := K2;clear K2;(try clear ww);revert w2;intro ww K))
  (try go_simp)
  refine wm_range (α := Nat × Int) 9 rfl (enters_of Try.func100 (by kernel_rfl) rfl) (PG.out bb) (fun _ => rfl) (fun k V => St w.heap.size w [(bb, #[.int .i64 p, .int .i64 H, .int .i64 X, .int .i64 Y, .int .i64 S, .slice A n c], 26), (b4, wI (sqP zs k), 106), (b1, #[.int .i64 p, .int .i64 H, .int .i64 X, .int .i64 Y, .int .i64 S, .slice A n c], 26)] Any V) (fun _ _ => False) (fun k => stable_st K.size firm_any) (fun _ => stable_false) (fun k V K => ⟨K.get .hd, HR.out.below K.below⟩) K ?round ?done ?stop
  case round =>
    intro lo0 k x V KK hlo hx K1 hK
    obtain ⟨z0, u0, v0⟩ := HG.out.pl_bd hx
    have ea := sqP_snoc hx
    have a0 := HG.out.sqP_bd (k := k)
    have a1 := HG.out.sqP_bd (k := k + 1)
    have hD := K.size
    generalize ww.heap.size = D at *
    clear K hx
    replace K := K1.keepsFrom D
    clear K1
    simp only [encP, List.zip_toArray, List.zip_cons_cons, List.zip_nil_right, List.size_toArray]
    generalize xv p x = u at *
    generalize yv p x = v at *
    generalize x.2 = z at *
    clear x
    have hzz := Int.mul_nonneg z0.1 z0.1
    have M1 := Lib.hid (fun w => Mul_wide z z w (by omega) (by omega) (by omega) (by omega))
    have A1 := AddS15 (sqP zs k) (z * z) (sqP zs (k + 1)) ea.symm a0.1 (by omega) (by omega) (by omega)
    generalize z * z = m at *
    clear ea a0 a1 z0 u0 v0 hzz
    gi_wp2_with ((refine rin_step (fun c e => by cases e) ?_;go_wp2_with (fail));refine qn_out ?_)
    refine hK _ _ K.fact.1 (fun W2 r o o' hr ho hc e => ?_); replace K := K.begun hD firm_any hr ho hc e; clear hr ho hc e hK
    gi_wp2_with fail
    refine wm_treeIn _ (.take 1 (.take 2 (.alt 0 (.alt 3 (.alt 4 (.take 5 (.take 6 (.take 7 (.alt 8 .done .stop)))) .stop) .stop) (.alt 3 (.alt 0 (.alt 4 (.take 5 (.take 6 (.take 7 (.alt 8 .done .stop)))) .stop) .stop) .stop)))) K sb1s (by kernel_rfl) (by kernel_rfl) (by kernel_rfl) (fun _ _ h => h) ?_; (try clear K); (try clear ww); intro ww K; (try simp [go_sem] at K)
    repeat' (first|exact tree_stop|(refine tree_take (fun K' hK' => ?_);simp only [opAt, List.getElem?_toArray, List.getElem?_cons_succ, List.getElem?_cons_zero, Option.getD_some];go_simp;first|(apply Exists.intro;refine ⟨?_, hK' _ ?_⟩;(intro _ _;rfl);clear hK' K'))|(refine tm_nowRow (cs := ?_) (t0 := ?_) (n := ?_) K rfl rfl _ _ rfl rfl ?_ ?_ ?_ (by apply via sb1s;first|exact K) ?_ ?_;rotate_left 2;(repeat (first|exact At.hd|refine At.tl ?_));rotate_left;(with_reducible first|exact row106);((with_reducible exact wI_size _)))|(refine tm_store (L' := ?_) (cs := ?_) (t0 := ?_) (n := ?_) K rfl rfl _ _ _ rfl rfl rfl rfl ?_ ?_ ?_ ?_ ?_ ?_ ?_;rotate_left 3;(repeat (first|exact Put.hd|(refine Put.tl (L' := ?_) ?_;rotate_left)));rotate_left;(with_reducible first|exact row106);((with_reducible exact wI_size _));((with_reducible exact wI_size _));((with_reducible exact wI_ones _));intro ww2 K2;(try simp [go_sem] at K2);refine ⟨(by apply via sb1s;first|exact K2), ?_⟩;replace K := K2;clear K2;(try clear ww);revert ww2;intro ww K)|(refine tree_alt (fun K' hK' => ?_) ?_;simp only [opAt, List.getElem?_toArray, List.getElem?_cons_succ, List.getElem?_cons_zero, Option.getD_some];go_simp;go_at_call 64;(with_reducible refine (M1.out _).mono ?_);rintro e w2 ⟨rfl, k1⟩;replace K := K.step k1;clear k1;(try clear ww);revert w2;intro ww K;(try dsimp only);refine hK' _ _ (by apply via sb1s;first|exact K) ?_;clear hK' K')|(refine tree_alt (fun K' hK' => ?_) ?_;simp only [opAt, List.getElem?_toArray, List.getElem?_cons_succ, List.getElem?_cons_zero, Option.getD_some];go_simp;go_at_call 63;(with_reducible refine (A1.out _).mono ?_);rintro e w2 ⟨rfl, k1⟩;replace K := K.step k1;clear k1;(try clear ww);revert w2;intro ww K;(try dsimp only);refine hK' _ _ (by apply via sb1s;first|exact K) ?_;clear hK' K'))
    all_goals refine tree_done ?_
    all_goals (try simp only [opAt, List.getElem?_toArray, List.getElem?_cons_succ, List.getElem?_cons_zero, Option.getD_some])
    all_goals (try go_simp)
    all_goals (try gi_wp2_with fail)
    all_goals exact ⟨K.fact.1, K.weak fun _ h => h.2⟩
  case done =>
    intro D V hD K1 hk
    rw [HG.out.sqP_end] at K1
    have hB := Nat.le_trans K.size hD
    clear K hD
    have K := K1.mark hk
    clear K1 hk
    have hs0 := HG.out.s0
    have hs1 := HG.out.top
    revert V
    intro ww K
    unfold evenV at hrv
    by_cases hz : isum zs = 0
    · have t0 : decide (isum zs = 0) = true := decide_eq_true hz
      rw [if_pos hz] at hrv
      subst hrv
      rw [hz]
      clear t0 hz hs0 hs1
      go_wp2_with (fail)
      exact retM1 (K.weak fun _ h => h.2) firm_any rfl hB K.fact.1 (fun w' K' => ⟨_, results_tmp rfl _ _ _, rfl, K'.below⟩)
    · have t0 : decide (isum zs = 0) = false := decide_eq_false hz
      have t0n : (isum zs == 0) = false := beq_eq_false_iff_ne.2 hz
      rw [if_neg hz] at hrv
      have hs : 0 < isum zs := by omega
      have hE := HG.out.even_in hs
      rw [hl] at hE
      have hI := Lib.hid (fun m => HG.out.even_iff hs m)
      have hq := HG.out.sq_bd
      rw [hrv] at hE hI
      have hss := Int.mul_le_mul hs1 hs1 hs0 (by decide)
      have hss0 := Int.mul_nonneg hs0 hs0
      have M1 := Lib.hid (fun w => Mul_wide (isum zs) (isum zs) w (by omega) (by omega) (by omega) (by omega))
      have MN := Lib.hid (fun (m : Nat) (hm : m ≤ 4096) w => many15 (squares zs) (isum zs * isum zs) m w hq.1 hq.2 hm hss0 (by omega))
      generalize isum zs * isum zs = s2 at *
      generalize squares zs = sqs at *
      clear hz hrv hq hss hss0 hs hs0 hs1
      go_wp2_with (fail)
      refine wm_held _ [(true, 0), (true, 1), (true, 2), (true, 3), (true, 4)] K sbr (by kernel_rfl) (by kernel_rfl) ?_; (try clear K); (try clear ww); intro ww K; (try simp [go_sem] at K); simp only [pick, List.getElem?_toArray, List.getElem?_cons_succ, List.getElem?_cons_zero]
      repeat (first|(((with_reducible refine ht_load ?_);first|(refine hm_own (cs := ?_) (t := ?_) (v := ?_) rfl _ _ rfl rfl ?_ ?_ ?_ ?_;rotate_left 2;(repeat (first|exact At.hd|refine At.tl ?_));rotate_left;(exact rfl);(with_reducible first|exact one24)));(try simp only [Act.put]);(try go_simp))|(refine held_take (fun K' hK' => ?_);go_simp;first|(apply Exists.intro;refine ⟨?_, hK' _ ?_⟩;(intro _ _;rfl);clear hK' K')))
      refine held_nil ?_
      go_wp2_with fail
      (try go_simp)
      go_loopw [7, 8, 9] (fun m lo hi wr => ∃ (k : Nat) (g : Int), m = .int .i64 k ∧ lo = .int .i64 (k + 1) ∧ hi = .int .i64 g ∧ ((k : Int) ≤ rv ∧ rv ≤ g ∧ g ≤ n) ∧ St w.heap.size w [(bb, #[.int .i64 p, .int .i64 H, .int .i64 X, .int .i64 Y, .int .i64 S, .slice A n c], 26), (b4, wI sqs, 106), (b1, #[.int .i64 p, .int .i64 H, .int .i64 X, .int .i64 Y, .int .i64 S, .slice A n c], 26)] _ wr) (fun _ lo hi _ => (intOf hi + 1 - intOf lo).toNat)
      case atStart => exact ⟨0, n, rfl, rfl, rfl, ⟨by omega, hE.2, by omega⟩, K⟩
      case round =>
        clear K
        obtain ⟨k, g, rfl, rfl, rfl, ⟨h1, h2, h3⟩, K⟩ := hrel
        by_cases hlt : (k : Int) + 1 ≤ g
        · have t1 : decide ((k : Int) + 1 ≤ g) = true := decide_eq_true hlt
          obtain ⟨M, hM⟩ : ∃ M : Nat, (M : Int) = ((k : Int) + 1 + g) / 2 := ⟨(((k : Int) + 1 + g) / 2).toNat, by omega⟩
          have F0 : (k : Int) + 1 ≤ M ∧ (M : Int) ≤ g := by omega
          obtain ⟨e, he⟩ : ∃ e, (k : Int) + 1 + g = e := ⟨_, rfl⟩
          obtain ⟨l, hl1⟩ : ∃ l, (k : Int) + 1 = l := ⟨_, rfl⟩
          rw [he] at hM
          obtain ⟨e1, e2⟩ := wrapI he (by omega) (by omega)
          have hM2 : e.tdiv 2 = M := by rw [Int.tdiv_eq_ediv_of_nonneg (by omega)]; exact hM.symm
          obtain ⟨e3, e4⟩ := wrapI hM2 (by omega) (by omega)
          obtain ⟨e5, e6⟩ := wrapI hM.symm (by omega) (by omega)
          have MK := fun w => MN.out M (by omega) w
          by_cases hMr : (M : Int) ≤ rv
          · have hb : decide (sqs * M ≤ s2) = true := decide_eq_true ((hI.out M).2 hMr)
            have MM := Lib.hid (fun w => by have := MK w; rw [hb] at this; exact this)
            obtain ⟨e7, e8⟩ := wrapI (a := (M : Int) + 1) (b := M + 1) rfl (by omega) (by omega)
            have F1 := Lib.hid (show ((M : Int) ≤ rv ∧ rv ≤ g ∧ g ≤ n) ∧ (k : Int) + 1 ≤ M from ⟨⟨hMr, h2, h3⟩, F0.1⟩)
            clear hM MK hb hMr h1 h2 h3 hE hlt hM2 hl1 he F0
            go_wp2_with (fail)
            refine wm_held _ [(true, 0), (true, 1), (true, 2), (true, 3), (false, 4), (false, 5)] K sbr (by kernel_rfl) (by kernel_rfl) ?_; (try clear K); (try clear ww); intro ww K; (try simp [go_sem] at K); simp only [pick, List.getElem?_toArray, List.getElem?_cons_succ, List.getElem?_cons_zero]
            repeat (first|(((with_reducible refine ht_load ?_);first|(refine hm_load (cs := ?_) (t := ?_) (n := ?_) rfl _ _ rfl rfl ?_ ?_ ?_ ?_;rotate_left 2;(repeat (first|exact At.hd|refine At.tl ?_));rotate_left;(with_reducible first|exact row106);((with_reducible exact wI_size _))));(try simp only [Act.put]);(try go_simp))|(refine held_take (fun K' hK' => ?_);go_simp;first|(apply Exists.intro;refine ⟨?_, hK' _ ?_⟩;(intro _ _;rfl);clear hK' K'))|(refine held_do (fun K' hK' => ?_);go_simp;go_at_call 64;(with_reducible refine (M1.out _).mono ?_);rintro e w2 ⟨rfl, k1⟩;replace K := K.step k1;clear k1;(try clear ww);revert w2;intro ww K;(try dsimp only);refine hK' _ _ (by apply via sbr;first|exact K) ?_;clear hK' K')|(refine held_do (fun K' hK' => ?_);go_simp;go_at_call 65;(with_reducible refine (MM.out _).mono ?_);rintro e w2 ⟨rfl, k1⟩;replace K := K.step k1;clear k1;(try clear ww);revert w2;intro ww K;(try dsimp only);refine hK' _ _ (by apply via sbr;first|exact K) ?_;clear hK' K'))
            refine held_nil ?_
            go_wp2_with (fail)
            exact ⟨⟨M, g, rfl, rfl, rfl, F1.out.1, K⟩, meas15 F1.out.2 (Int.le_trans F1.out.1.1 F1.out.1.2.1)⟩
          · have hb : decide (sqs * M ≤ s2) = false := decide_eq_false fun h => hMr ((hI.out M).1 h)
            have MM := Lib.hid (fun w => by have := MK w; rw [hb] at this; exact this)
            obtain ⟨g2, hg2⟩ : ∃ g2, (M : Int) - 1 = g2 := ⟨_, rfl⟩
            obtain ⟨e7, e8⟩ := wrapI hg2 (by omega) (by omega)
            have F2 : ((k : Int) ≤ rv ∧ rv ≤ g2 ∧ g2 ≤ n) ∧ g2 < g ∧ (k : Int) + 1 ≤ g := ⟨⟨h1, by omega, by omega⟩, by omega, hlt⟩
            have F1 := Lib.hid F2
            clear hM MK hb hMr h1 h2 h3 hE hlt hM2 hl1 he F0 F2 hg2
            go_wp2_with (fail)
            refine wm_held _ [(true, 0), (true, 1), (true, 2), (true, 3), (false, 4), (false, 5)] K sbr (by kernel_rfl) (by kernel_rfl) ?_; (try clear K); (try clear ww); intro ww K; (try simp [go_sem] at K); simp only [pick, List.getElem?_toArray, List.getElem?_cons_succ, List.getElem?_cons_zero]
            repeat (first|(((with_reducible refine ht_load ?_);first|(refine hm_load (cs := ?_) (t := ?_) (n := ?_) rfl _ _ rfl rfl ?_ ?_ ?_ ?_;rotate_left 2;(repeat (first|exact At.hd|refine At.tl ?_));rotate_left;(with_reducible first|exact row106);((with_reducible exact wI_size _))));(try simp only [Act.put]);(try go_simp))|(refine held_take (fun K' hK' => ?_);go_simp;first|(apply Exists.intro;refine ⟨?_, hK' _ ?_⟩;(intro _ _;rfl);clear hK' K'))|(refine held_do (fun K' hK' => ?_);go_simp;go_at_call 64;(with_reducible refine (M1.out _).mono ?_);rintro e w2 ⟨rfl, k1⟩;replace K := K.step k1;clear k1;(try clear ww);revert w2;intro ww K;(try dsimp only);refine hK' _ _ (by apply via sbr;first|exact K) ?_;clear hK' K')|(refine held_do (fun K' hK' => ?_);go_simp;go_at_call 65;(with_reducible refine (MM.out _).mono ?_);rintro e w2 ⟨rfl, k1⟩;replace K := K.step k1;clear k1;(try clear ww);revert w2;intro ww K;(try dsimp only);refine hK' _ _ (by apply via sbr;first|exact K) ?_;clear hK' K'))
            refine held_nil ?_
            go_wp2_with (fail)
            exact ⟨⟨k, g2, rfl, rfl, rfl, F1.out.1, K⟩, meas16 F1.out.2.1 F1.out.2.2⟩
        · have t1 : decide ((k : Int) + 1 ≤ g) = false := decide_eq_false hlt
          have t1b : decide ((k : Int) < g) = false := decide_eq_false (by omega)
          have t1c : ¬((k : Int) + 1 ≤ g) := hlt
          have hr : (k : Int) = rv := by omega
          clear h1 h2 h3 hE hlt
          go_wp2_with (fail)
          exact retM1 (K.weak fun _ h => h.2) firm_any rfl hB K.fact.1 (fun w' K' => ⟨_, results_tmp rfl _ _ _, rfl, K'.below⟩)
  case stop =>
    intro D c W _ h _
    exact h.elim
end Go.Proofs.Ytpejoaefnnbghaa
namespace Go.Proofs.Ytpejoaefnnbghaa
open Go.RowKit
attribute [local irreducible] wpHeld wpTree wpList
set_option linter.unusedVariables false
set_option linter.unusedSimpArgs false
def far19b (x : Int) (m : Nat) : Bool := decide ((m : Int) < x) || decide ((m : Int) < -x)
theorem max_far (x : Int) (m : Nat) : decide ((m : Int) < max x (-x)) = far19b x m := by
  unfold far19b
  rw [Bool.eq_iff_iff]
  simp only [decide_eq_true_eq, Bool.or_eq_true]
  omega
def few19 (zs : List Int) : Bool := decide (even15 zs < 8)
end Go.Proofs.Ytpejoaefnnbghaa
namespace Go.Proofs.Ytpejoaefnnbghaa
open Go.RowKit
attribute [local irreducible] wpHeld wpTree wpList
set_option linter.unusedVariables false
theorem u8_in {a : Int} (h : (Lit.int .u8 a).wf = true) : 0 ≤ a ∧ a ≤ 255 := by
  unfold Lit.wf at h
  simp [IntKind.min, IntKind.max, IntKind.bits, IntKind.signed] at h
  exact h
theorem u16_in {l : List Int} (h : ∀ x ∈ l, (Lit.int .u16 x).wf = true) : ∀ x ∈ l, 0 ≤ x ∧ x ≤ 65535 := fun x hx => by
  have h := h x hx
  unfold Lit.wf at h
  simp [IntKind.min, IntKind.max, IntKind.bits, IntKind.signed] at h
  exact h
theorem step_in : ∀ k : Nat, k ≤ 8 → (16 : Int) ≤ 16 * 2 ^ k ∧ (16 : Int) * 2 ^ k ≤ 4096 := by decide
theorem made15 (a0 a1 : Int) (a2 : Option Addr) (len2 cap2 : Nat) (z2 : List Int) (a3 : Int) (w : World) (w0 : (Lit.int .u8 a0).wf = true) (w1 : (Lit.int .u8 a1).wf = true) (w2 : IsRow .u16 w a2 len2 cap2 z2) (w3 : (Lit.int .u8 a3).wf = true) :
    ∃ (p q n : Nat) (S : Int) (zs : List Int), Gr p q zs ∧ zs.length = n ∧ (1 ≤ n ∧ n ≤ 64) ∧ 0 < isum zs ∧ (16 ≤ S ∧ S ≤ 4096) ∧ (p ≤ 8 ∧ q ≤ 8) ∧ Right14 p q S zs ∧ S = 16 * 2 ^ (a3 % 9).toNat ∧
      Hid (∀ w', Below w.heap.size w w' → Calls Try.prog 13 #[.int .u8 a0, .int .u8 a1, .slice a2 len2 cap2, .int .u8 a3] w' fun e w'' => ∃ A c, e = .returned (.agg #[.int .i64 p, .int .i64 q, .int .i64 1000, .int .i64 (-1000), .int .i64 S, .slice A n c]) ∧ (Rd w'' A n (ints .i64 zs) ∧ Nw w'.heap.size A) ∧ Below w'.heap.size w' w'') := by
  obtain ⟨l, hl, hr, hn⟩ := w2.rdI
  have hb0 := u8_in w0
  have hb1 := u8_in w1
  have hb3 := u8_in w3
  obtain ⟨p, hp⟩ : ∃ p : Nat, (p : Int) = 1 + a0 % 8 := ⟨(1 + a0 % 8).toNat, by omega⟩
  obtain ⟨q, hq⟩ : ∃ q : Nat, (q : Int) = 1 + a1 % 8 := ⟨(1 + a1 % 8).toNat, by omega⟩
  have hpb : 1 ≤ p ∧ p ≤ 8 := by omega
  have hqb : 1 ≤ q ∧ q ≤ 8 := by omega
  have hS := step_in (a3 % 9).toNat (by omega)
  have hnI : (p : Int) * (q : Int) = ((p * q : Nat) : Int) := (Int.natCast_mul p q).symm
  have hn1 : 1 ≤ p * q := Nat.mul_pos (by omega) (by omega)
  have hn4 : p * q ≤ 64 := Nat.mul_le_mul hpb.2 hqb.2
  have hR := mad_right (W := p) (H := q) (S := 16 * 2 ^ (a3 % 9).toNat) (n := p * q) (ls := l) (by omega) (by omega) hS hnI (u16_in hl)
  have hle := mad_len (p * q) l
  refine ⟨p, q, p * q, 16 * 2 ^ (a3 % 9).toNat, mad14 (p * q) l, hR.gr rfl rfl, hle, ⟨hn1, hn4⟩, ?_, hS, ⟨hpb.2, hqb.2⟩, hR, rfl, Lib.hid fun w' hb => ?_⟩
  · have := hR.low
    rw [hle] at this
    omega
  · exact Made14 a0 a1 a3 p q _ a2 (p * q) len2 cap2 l w' hb0 hb1 hb3 hp hq rfl hnI (hr.below hb) (u16_in hl)
end Go.Proofs.Ytpejoaefnnbghaa
