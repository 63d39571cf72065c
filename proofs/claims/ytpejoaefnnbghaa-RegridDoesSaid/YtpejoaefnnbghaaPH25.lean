/-
  Lemmas and walks of this claim (the texts Df19 Cf19 Dg19 Dh19 of the work; what no proof here uses is left out). No claim of their own.
-/
import Derived.Test.YtpejoaefnnbghaaPH24
import Derived.Test.YtpejoaefnnbghaaPH19
import Derived.Test.YtpejoaefnnbghaaPH10
import Derived.Test.YtpejoaefnnbghaaPH14
import Derived.Test.YtpejoaefnnbghaaPH7
import Derived.Test.YtpejoaefnnbghaaPH21
import Derived.Test.YtpejoaefnnbghaaPH22
import Derived.Test.YtpejoaefnnbghaaPH3
import Derived.Test.YtpejoaefnnbghaaPH8
import Derived.Test.YtpejoaefnnbghaaPH1
import Derived.Test.YtpejoaefnnbghaaPH17
import Derived.Test.YtpejoaefnnbghaaPH18
import Derived.Test.YtpejoaefnnbghaaPH23
import Derived.Test.YtpejoaefnnbghaaPH5
import Derived.Test.YtpejoaefnnbghaaPH20
import Derived.Test.YtpejoaefnnbghaaPH11
import Derived.Test.YtpejoaefnnbghaaPH4
import Derived.Test.YtpejoaefnnbghaaProg
import Derived.Deep.QuietTactic
import Derived.BigQuiet
import Derived.Deep.Cut
import Derived.Deep.LoopGhost
import Derived.WalkLawsBesides
import Derived.WalkSpells
import Derived.Laws.StructEq
import Derived.OpenShut
import Derived.Test.YtpejoaefnnbghaaPH15
set_option linter.all false
set_option linter.unusedSimpArgs false
set_option linter.unusedVariables false
namespace Go.Proofs.Ytpejoaefnnbghaa
open Go.RowKit
attribute [local irreducible] wpHeld wpTree wpList
set_option linter.unusedVariables false
set_option linter.unusedSimpArgs false
theorem results_hasD {P : Program} {w : World} {cs : Array Value} {t : TypeId} {fn : Func} {p q r s : Tmp} {ty : TypeId} (h : fn.results = #[.cell p ty, .tmp q, .tmp r, .tmp s]) (tmps : Array Value) {g : Nat} {d : TypeDesc} (hp : tmps.getD p undef = .pointer (some ⟨g, 0, none⟩)) (hg : Has w g cs t)
    (hu : P.underlying ty = some d) (hd : (match d with | .struct _ | .array _ _ => true | _ => false) = true) {n : Nat} (hi : (P.info? ty).map (·.size) = some n) (hn : cs.size = n) :
    (results fn tmps).run P w = .ok (.tuple #[.agg cs, tmps.getD q undef, tmps.getD r undef, tmps.getD s undef]) w := by
  have hp' : tmps[p]?.getD undef = .pointer (some ⟨g, 0, none⟩) := by simpa using hp
  simp [results, h, hp', asAddr, run_loadVar_row w g t ty cs (0, 0) d hg hu hd (by rw [hn]; exact hi)]
theorem St.resD {P : Program} {B : Nat} {w0 w : World} {L : List Blk} {F : World → Prop} (K : St B w0 L F w) {fn : Func} {p q r s : Tmp} {ty : TypeId} (h : fn.results = #[.cell p ty, .tmp q, .tmp r, .tmp s]) (tmps : Array Value) {g : Nat} {cs : Array Value} {t : TypeId} (hp : tmps.getD p undef = .pointer (some ⟨g, 0, none⟩)) (ha : At L g cs t)
    {n : Nat} (hu : RowTy P ty n) (hn : cs.size = n) {v1 v2 v3 : Value} (hq : tmps.getD q undef = v1) (hr : tmps.getD r undef = v2) (hs : tmps.getD s undef = v3) : (results fn tmps).run P w = .ok (.tuple #[.agg cs, v1, v2, v3]) w := by
  obtain ⟨d, h1, h2, h3⟩ := hu
  subst hq hr hs
  exact results_hasD h tmps hp (K.get ha) h1 (by cases d <;> simp_all) h3 hn
set_option maxRecDepth 100000 in
set_option maxHeartbeats 4000000 in
theorem Do19_Split (W H X Y S x y cw ch : Int) (A : Option Addr) (n c : Nat) (zs : List Int) (w : World) (h : Rd w A n (ints .i64 zs)) (hb : ∀ z ∈ zs, 0 ≤ z ∧ z ≤ 1073741824) (hn : n ≤ 5000) (W2 H2 X2 Y2 S2 : Int) (n2 : Nat) (z2 : List Int) (hb2 : ∀ z ∈ z2, 0 ≤ z ∧ z ≤ 1073741824) (hn2 : n2 ≤ 5000) (hs2 : 0 < isum z2)
    (OP : (∀ (w : World), Rd w A n (ints .i64 zs) → Calls Try.prog 74 #[.agg #[.int .i64 W, .int .i64 H, .int .i64 X, .int .i64 Y, .int .i64 S, .slice A n c]] w fun e w' => ∃ A2 c2, e = .returned (.tuple #[.agg #[.int .i64 W2, .int .i64 H2, .int .i64 X2, .int .i64 Y2, .int .i64 S2, .slice A2 n2 c2], .int .i64 0]) ∧ (Rd w' A2 n2 (ints .i64 z2) ∧ Nw w.heap.size A2) ∧ Below w.heap.size w w')) :
    Calls Try.prog 40 #[.agg #[.int .i64 W, .int .i64 H, .int .i64 X, .int .i64 Y, .int .i64 S, .slice A n c], .agg #[.int .i64 1, .int .i64 x, .int .i64 y, .int .i64 cw, .int .i64 ch]] w fun e w' => ∃ A3 c3, e = .returned (.tuple #[.agg #[.int .i64 W2, .int .i64 H2, .int .i64 X2, .int .i64 Y2, .int .i64 S2, .slice A3 n2 c3], .int .i64 (isum zs), .int .i64 (isum z2), .int .i64 0]) ∧ (Rd w' A3 n2 (ints .i64 (norm14 (isum z2) z2)) ∧ Nw w.heap.size A3) ∧ Below w.heap.size w w' := by
  have K := St.start w
  have HR := Lib.hid h
  have SM := Lib.hid (fun w h => Sum14 W H X Y S A n c zs w h (fun z hz => by have := hb z hz; omega) hn)
  have SM2 := Lib.hid (fun (A : Option Addr) (c : Nat) (w : World) (h : Rd w A n2 (ints .i64 z2)) => Sum14 W2 H2 X2 Y2 S2 A n2 c z2 w h (fun z hz => by have := hb2 z hz; omega) hn2)
  have NM := Lib.hid (fun (A : Option Addr) (c : Nat) (w : World) (h : Rd w A n2 (ints .i64 z2)) => GNorm14 W2 H2 X2 Y2 S2 A n2 c z2 w h hb2 hn2 hs2)
  have OQ := Lib.hid OP
  generalize norm14 (isum z2) z2 = nz at *
  generalize isum z2 = s2 at *
  generalize isum zs = s at *
  clear h hb hn hb2 hn2 hs2 OP
  go_enter Try.func40, Try.ntmps40
  go_wp2_with (first|((with_reducible refine at_load ?_);first|(refine wm_load (cs := ?_) (t := ?_) (n := ?_) K rfl _ _ rfl rfl ?_ ?_ ?_ ?_;rotate_left 2;(repeat (first|exact At.hd|refine At.tl ?_));rotate_left;(with_reducible first|exact row26);(exact rfl))|(refine wm_own (cs := ?_) (t := ?_) (v := ?_) K rfl _ _ rfl rfl ?_ ?_ ?_ ?_;rotate_left 2;(repeat (first|exact At.hd|refine At.tl ?_));rotate_left;(exact rfl);(with_reducible first|exact one3)))|((with_reducible refine at_store ?_);(first|(refine wm_store (L' := ?_) (cs := ?_) (t := ?_) (n := ?_) K rfl _ _ _ rfl rfl rfl rfl ?_ ?_ ?_ ?_ ?_ ?_;rotate_left 3;(repeat (exact Put.hd));rotate_left;(with_reducible first|exact row26);(exact rfl);(exact rfl);(simp [Ones, Value.oneCell'])));(try clear K);(try clear ww);intro ww K;(try simp [go_sem] at K))|((first|((with_reducible refine at_box ?_);refine wm_box K rfl _ _ rfl rfl rfl ?_)|((with_reducible refine at_alloc ?_);refine wm_alloc (v := ?_) (cs := ?_) K rfl _ rfl ?_ ?_ ?_;rotate_left;(with_reducible first|exact zero26);rotate_left;exact rfl));(try clear K);(try clear ww);(first|((fail_if_success (have _h := b2));intro b2 ww K)|((fail_if_success (have _h := b3));intro b3 ww K)|((fail_if_success (have _h := b4));intro b4 ww K)|((fail_if_success (have _h := b8));intro b8 ww K));(try simp [go_sem, Value.cells] at K))|(go_at_call 74;(with_reducible refine (OQ.out _ (HR.out.below K.below)).mono ?_);rintro e w2 ⟨A4, c4, rfl, ⟨h2, hA⟩, hbel⟩;(try dsimp only);replace K := K.madeRd hbel h2 hA;clear hbel h2 hA;(try clear ww);revert w2;intro ww K)|(go_at_call 62;(with_reducible refine (SM2.out _ _ _ (by first|exact K.fact.1)).mono ?_);rintro e w2 ⟨rfl, k1⟩;replace K := K.step k1;clear k1;(try clear ww);revert w2;intro ww K)|(go_at_call 84;(with_reducible refine (NM.out _ _ _ (by first|exact K.fact.1)).mono ?_);rintro e w2 ⟨A5, c5, rfl, ⟨h2, hA⟩, hbel⟩;(try dsimp only);have HNW := Lib.hid (hA.mono K.size);replace K := K.madeRd hbel h2 hA;clear hbel h2 hA;(try clear ww);revert w2;intro ww K))
  refine wm_held _ [(true, 0), (true, 1), (true, 3), (false, 2), (false, 4), (true, 5), (true, 6), (true, 7)] K sbk1 (by kernel_rfl) (by kernel_rfl) ?_; (try clear K); (try clear ww); intro ww K; (try simp [go_sem] at K); simp only [pick, List.getElem?_toArray, List.getElem?_cons_succ, List.getElem?_cons_zero]
  repeat (first|(((with_reducible refine ht_load ?_);first|(refine hm_load (cs := ?_) (t := ?_) (n := ?_) rfl _ _ rfl rfl ?_ ?_ ?_ ?_;rotate_left 2;(repeat (first|exact At.hd|refine At.tl ?_));rotate_left;(with_reducible first|exact row26);(exact rfl)));(try simp only [Act.put]);(try go_simp))|(refine held_take (fun K' hK' => ?_);go_simp;first|(apply Exists.intro;refine ⟨?_, hK' _ ?_⟩;(intro _ _;rfl);clear hK' K'))|((with_reducible refine ht_store ?_);first|(refine hm_store (L' := ?_) (cs := ?_) (t := ?_) (n := ?_) K rfl _ _ _ rfl rfl rfl rfl ?_ ?_ ?_ ?_ ?_ ?_;rotate_left 3;(repeat (first|exact Put.hd|(refine Put.tl (L' := ?_) ?_;rotate_left)));rotate_left;(with_reducible first|exact row26);(exact rfl);(exact rfl);(simp [Ones, Value.oneCell']);(try clear K);(try clear ww);intro ww K;(try simp [go_sem] at K);refine ⟨(by apply via sbk1;first|exact K), ?_⟩))|(refine held_do (fun K' hK' => ?_);go_simp;go_at_call 62;(with_reducible refine (SM.out _ (HR.out.below K.below)).mono ?_);rintro e w2 ⟨rfl, k1⟩;replace K := K.step k1;clear k1;(try clear ww);revert w2;intro ww K;(try dsimp only);refine hK' _ _ (by apply via sbk1;first|exact K) ?_;clear hK' K'))
  refine held_nil ?_
  go_wp2_with (fail)
  refine bodyPost_ret (K.resD (cs := ?_) (t := ?_) (n := ?_) rfl _ rfl ?_ ?_ ?_ rfl rfl rfl) rfl ?_
  rotate_left 2
  (repeat (first | exact At.hd | refine At.tl ?_))
  rotate_left
  (with_reducible first | exact row26)
  (solve | exact rfl | simp)
  exact ⟨A5, c5, rfl, ⟨(by first|exact K.fact.1), HNW.out⟩, K.below⟩
set_option maxRecDepth 100000 in
set_option maxHeartbeats 4000000 in
theorem Do19_Split_none (W H X Y S x y cw ch : Int) (A : Option Addr) (n c : Nat) (zs : List Int) (w : World) (h : Rd w A n (ints .i64 zs)) (hb : ∀ z ∈ zs, 0 ≤ z ∧ z ≤ 1073741824) (hn : n ≤ 5000) (W2 H2 X2 Y2 S2 : Int) (n2 : Nat) (z2 : List Int) (hb2 : ∀ z ∈ z2, 0 ≤ z ∧ z ≤ 1073741824) (hn2 : n2 ≤ 5000) (hs2 : isum z2 ≤ 0)
    (OP : (∀ (w : World), Rd w A n (ints .i64 zs) → Calls Try.prog 74 #[.agg #[.int .i64 W, .int .i64 H, .int .i64 X, .int .i64 Y, .int .i64 S, .slice A n c]] w fun e w' => ∃ A2 c2, e = .returned (.tuple #[.agg #[.int .i64 W2, .int .i64 H2, .int .i64 X2, .int .i64 Y2, .int .i64 S2, .slice A2 n2 c2], .int .i64 0]) ∧ (Rd w' A2 n2 (ints .i64 z2) ∧ Nw w.heap.size A2) ∧ Below w.heap.size w w')) :
    Calls Try.prog 40 #[.agg #[.int .i64 W, .int .i64 H, .int .i64 X, .int .i64 Y, .int .i64 S, .slice A n c], .agg #[.int .i64 1, .int .i64 x, .int .i64 y, .int .i64 cw, .int .i64 ch]] w fun e w' => e = .returned (.tuple #[.agg #[.int .i64 W, .int .i64 H, .int .i64 X, .int .i64 Y, .int .i64 S, .slice A n c], .int .i64 0, .int .i64 0, .int .i64 7]) ∧ Below w.heap.size w w' := by
  have K := St.start w
  have HR := Lib.hid h
  have SM2 := Lib.hid (fun (A : Option Addr) (c : Nat) (w : World) (h : Rd w A n2 (ints .i64 z2)) => Sum14 W2 H2 X2 Y2 S2 A n2 c z2 w h (fun z hz => by have := hb2 z hz; omega) hn2)
  have NM := Lib.hid (fun (A : Option Addr) (c : Nat) (w : World) (h : Rd w A n2 (ints .i64 z2)) => GNorm14_none W2 H2 X2 Y2 S2 A n2 c z2 w h hb2 hn2 hs2)
  have OQ := Lib.hid OP
  generalize isum z2 = s2 at *
  clear h hb hn hb2 hn2 hs2 OP
  go_enter Try.func40, Try.ntmps40
  go_wp2_with (first|((with_reducible refine at_load ?_);first|(refine wm_load (cs := ?_) (t := ?_) (n := ?_) K rfl _ _ rfl rfl ?_ ?_ ?_ ?_;rotate_left 2;(repeat (first|exact At.hd|refine At.tl ?_));rotate_left;(with_reducible first|exact row26);(exact rfl))|(refine wm_own (cs := ?_) (t := ?_) (v := ?_) K rfl _ _ rfl rfl ?_ ?_ ?_ ?_;rotate_left 2;(repeat (first|exact At.hd|refine At.tl ?_));rotate_left;(exact rfl);(with_reducible first|exact one3)))|((with_reducible refine at_store ?_);(first|(refine wm_store (L' := ?_) (cs := ?_) (t := ?_) (n := ?_) K rfl _ _ _ rfl rfl rfl rfl ?_ ?_ ?_ ?_ ?_ ?_;rotate_left 3;(repeat (first|exact Put.hd|(refine Put.tl (L' := ?_) ?_;rotate_left)));rotate_left;(with_reducible first|exact row26);(exact rfl);(exact rfl);(simp [Ones, Value.oneCell'])));(try clear K);(try clear ww);intro ww K;(try simp [go_sem] at K))|((first|((with_reducible refine at_box ?_);refine wm_box K rfl _ _ rfl rfl rfl ?_)|((with_reducible refine at_alloc ?_);refine wm_alloc (v := ?_) (cs := ?_) K rfl _ rfl ?_ ?_ ?_;rotate_left;(with_reducible first|exact zero26);rotate_left;exact rfl));(try clear K);(try clear ww);(first|((fail_if_success (have _h := b2));intro b2 ww K)|((fail_if_success (have _h := b3));intro b3 ww K)|((fail_if_success (have _h := b4));intro b4 ww K)|((fail_if_success (have _h := b8));intro b8 ww K));(try simp [go_sem, Value.cells] at K))|(go_at_call 74;(with_reducible refine (OQ.out _ (HR.out.below K.below)).mono ?_);rintro e w2 ⟨A4, c4, rfl, ⟨h2, hA⟩, hbel⟩;(try dsimp only);replace K := K.madeRd hbel h2 hA;clear hbel h2 hA;(try clear ww);revert w2;intro ww K)|(go_at_call 62;(with_reducible refine (SM2.out _ _ _ (by first|exact K.fact.1)).mono ?_);rintro e w2 ⟨rfl, k1⟩;replace K := K.step k1;clear k1;(try clear ww);revert w2;intro ww K)|(go_at_call 84;(with_reducible refine (NM.out _ _ _ (by first|exact K.fact.1)).mono ?_);rintro e w2 ⟨rfl, k1⟩;replace K := K.step k1;clear k1;(try clear ww);revert w2;intro ww K))
  refine bodyPost_ret (K.resD (cs := ?_) (t := ?_) (n := ?_) rfl _ rfl ?_ ?_ ?_ rfl rfl rfl) rfl ?_
  rotate_left 2
  (repeat (first | exact At.hd | refine At.tl ?_))
  rotate_left
  (with_reducible first | exact row26)
  (solve | exact rfl | simp)
  exact ⟨rfl, K.below⟩
set_option maxRecDepth 100000 in
set_option maxHeartbeats 4000000 in
theorem Do19_Split_bad (W H X Y S x y cw ch cd : Int) (A : Option Addr) (n c : Nat) (zs : List Int) (w : World) (h : Rd w A n (ints .i64 zs)) (hcd : cd ≠ 0)
    (OP : (∀ (w : World), Rd w A n (ints .i64 zs) → Calls Try.prog 74 #[.agg #[.int .i64 W, .int .i64 H, .int .i64 X, .int .i64 Y, .int .i64 S, .slice A n c]] w fun e w' => e = .returned (.tuple #[.agg #[.int .i64 W, .int .i64 H, .int .i64 X, .int .i64 Y, .int .i64 S, .slice A n c], .int .i64 cd]) ∧ Below w.heap.size w w')) :
    Calls Try.prog 40 #[.agg #[.int .i64 W, .int .i64 H, .int .i64 X, .int .i64 Y, .int .i64 S, .slice A n c], .agg #[.int .i64 1, .int .i64 x, .int .i64 y, .int .i64 cw, .int .i64 ch]] w fun e w' => e = .returned (.tuple #[.agg #[.int .i64 W, .int .i64 H, .int .i64 X, .int .i64 Y, .int .i64 S, .slice A n c], .int .i64 0, .int .i64 0, .int .i64 cd]) ∧ Below w.heap.size w w' := by
  have K := St.start w
  have HR := Lib.hid h
  have OQ := Lib.hid OP
  have t0 : (cd != 0) = true := by simpa using hcd
  have t1 : ¬(cd = 0) := hcd
  clear h OP hcd
  go_enter Try.func40, Try.ntmps40
  go_wp2_with (first|((with_reducible refine at_load ?_);first|(refine wm_load (cs := ?_) (t := ?_) (n := ?_) K rfl _ _ rfl rfl ?_ ?_ ?_ ?_;rotate_left 2;(repeat (first|exact At.hd|refine At.tl ?_));rotate_left;(with_reducible first|exact row26);(exact rfl))|(refine wm_own (cs := ?_) (t := ?_) (v := ?_) K rfl _ _ rfl rfl ?_ ?_ ?_ ?_;rotate_left 2;(repeat (first|exact At.hd|refine At.tl ?_));rotate_left;(exact rfl);(with_reducible first|exact one3)))|((with_reducible refine at_store ?_);(first|(refine wm_store (L' := ?_) (cs := ?_) (t := ?_) (n := ?_) K rfl _ _ _ rfl rfl rfl rfl ?_ ?_ ?_ ?_ ?_ ?_;rotate_left 3;(repeat (first|exact Put.hd|(refine Put.tl (L' := ?_) ?_;rotate_left)));rotate_left;(with_reducible first|exact row26);(exact rfl);(exact rfl);(simp [Ones, Value.oneCell'])));(try clear K);(try clear ww);intro ww K;(try simp [go_sem] at K))|((first|((with_reducible refine at_box ?_);refine wm_box K rfl _ _ rfl rfl rfl ?_)|((with_reducible refine at_alloc ?_);refine wm_alloc (v := ?_) (cs := ?_) K rfl _ rfl ?_ ?_ ?_;rotate_left;(with_reducible first|exact zero26);rotate_left;exact rfl));(try clear K);(try clear ww);(first|((fail_if_success (have _h := b2));intro b2 ww K)|((fail_if_success (have _h := b3));intro b3 ww K)|((fail_if_success (have _h := b4));intro b4 ww K)|((fail_if_success (have _h := b8));intro b8 ww K));(try simp [go_sem, Value.cells] at K))|(go_at_call 74;(with_reducible refine (OQ.out _ (HR.out.below K.below)).mono ?_);rintro e w2 ⟨rfl, k1⟩;replace K := K.step k1;clear k1;(try clear ww);revert w2;intro ww K))
  refine bodyPost_ret (K.resD (cs := ?_) (t := ?_) (n := ?_) rfl _ rfl ?_ ?_ ?_ rfl rfl rfl) rfl ?_
  rotate_left 2
  (repeat (first | exact At.hd | refine At.tl ?_))
  rotate_left
  (with_reducible first | exact row26)
  (solve | exact rfl | simp)
  exact ⟨rfl, K.below⟩
set_option maxRecDepth 100000 in
set_option maxHeartbeats 4000000 in
theorem Raw19_Split (W H X Y S x y cw ch : Int) (A : Option Addr) (n c : Nat) (zs : List Int) (w : World) (h : Rd w A n (ints .i64 zs)) (W2 H2 X2 Y2 S2 : Int) (n2 : Nat) (z2 : List Int)
    (OP : (∀ (w : World), Rd w A n (ints .i64 zs) → Calls Try.prog 77 #[.agg #[.int .i64 W, .int .i64 H, .int .i64 X, .int .i64 Y, .int .i64 S, .slice A n c]] w fun e w' => ∃ A2 c2, e = .returned (.tuple #[.agg #[.int .i64 W2, .int .i64 H2, .int .i64 X2, .int .i64 Y2, .int .i64 S2, .slice A2 n2 c2], .int .i64 0]) ∧ (Rd w' A2 n2 (ints .i64 z2) ∧ Nw w.heap.size A2) ∧ Below w.heap.size w w')) :
    Calls Try.prog 41 #[.agg #[.int .i64 W, .int .i64 H, .int .i64 X, .int .i64 Y, .int .i64 S, .slice A n c], .agg #[.int .i64 1, .int .i64 x, .int .i64 y, .int .i64 cw, .int .i64 ch]] w fun e w' => ∃ A3 c3, e = .returned (.tuple #[.agg #[.int .i64 W2, .int .i64 H2, .int .i64 X2, .int .i64 Y2, .int .i64 S2, .slice A3 n2 c3], .int .i64 0]) ∧ (Rd w' A3 n2 (ints .i64 z2) ∧ Nw w.heap.size A3) ∧ Below w.heap.size w w' := by
  have K := St.start w
  have HR := Lib.hid h
  have OQ := Lib.hid OP
  clear h OP
  go_enter Try.func41, Try.ntmps41
  go_wp2_with (first|((with_reducible refine at_load ?_);first|(refine wm_load (cs := ?_) (t := ?_) (n := ?_) K rfl _ _ rfl rfl ?_ ?_ ?_ ?_;rotate_left 2;(repeat (first|exact At.hd|refine At.tl ?_));rotate_left;(with_reducible first|exact row26);(exact rfl))|(refine wm_own (cs := ?_) (t := ?_) (v := ?_) K rfl _ _ rfl rfl ?_ ?_ ?_ ?_;rotate_left 2;(repeat (first|exact At.hd|refine At.tl ?_));rotate_left;(exact rfl);(with_reducible first|exact one3)))|((with_reducible refine at_store ?_);(first|(refine wm_store (L' := ?_) (cs := ?_) (t := ?_) (n := ?_) K rfl _ _ _ rfl rfl rfl rfl ?_ ?_ ?_ ?_ ?_ ?_;rotate_left 3;(repeat (exact Put.hd));rotate_left;(with_reducible first|exact row26);(exact rfl);(exact rfl);(simp [Ones, Value.oneCell'])));(try clear K);(try clear ww);intro ww K;(try simp [go_sem] at K))|((first|((with_reducible refine at_box ?_);refine wm_box K rfl _ _ rfl rfl rfl ?_)|((with_reducible refine at_alloc ?_);refine wm_alloc (v := ?_) (cs := ?_) K rfl _ rfl ?_ ?_ ?_;rotate_left;(with_reducible first|exact zero26);rotate_left;exact rfl));(try clear K);(try clear ww);(first|((fail_if_success (have _h := b2));intro b2 ww K)|((fail_if_success (have _h := b3));intro b3 ww K)|((fail_if_success (have _h := b4));intro b4 ww K));(try simp [go_sem, Value.cells] at K))|(go_at_call 77;(with_reducible refine (OQ.out _ (HR.out.below K.below)).mono ?_);rintro e w2 ⟨A5, c5, rfl, ⟨h2, hA⟩, hbel⟩;(try dsimp only);have HNW := Lib.hid (hA.mono K.size);replace K := K.madeRd hbel h2 hA;clear hbel h2 hA;(try clear ww);revert w2;intro ww K))
  refine bodyPost_ret (K.res2 (cs := ?_) (t := ?_) (n := ?_) rfl _ rfl ?_ ?_ ?_ rfl) rfl ?_
  rotate_left 2
  (repeat (first | exact At.hd | refine At.tl ?_))
  rotate_left
  (with_reducible first | exact row26)
  (solve | exact rfl | simp)
  exact ⟨A5, c5, rfl, ⟨(by first|exact K.fact.1), HNW.out⟩, K.below⟩
set_option maxRecDepth 100000 in
set_option maxHeartbeats 4000000 in
theorem Raw19_Split_bad (W H X Y S x y cw ch cd : Int) (A : Option Addr) (n c : Nat) (zs : List Int) (w : World) (h : Rd w A n (ints .i64 zs))
    (OP : (∀ (w : World), Rd w A n (ints .i64 zs) → Calls Try.prog 77 #[.agg #[.int .i64 W, .int .i64 H, .int .i64 X, .int .i64 Y, .int .i64 S, .slice A n c]] w fun e w' => e = .returned (.tuple #[.agg #[.int .i64 W, .int .i64 H, .int .i64 X, .int .i64 Y, .int .i64 S, .slice A n c], .int .i64 cd]) ∧ Below w.heap.size w w')) :
    Calls Try.prog 41 #[.agg #[.int .i64 W, .int .i64 H, .int .i64 X, .int .i64 Y, .int .i64 S, .slice A n c], .agg #[.int .i64 1, .int .i64 x, .int .i64 y, .int .i64 cw, .int .i64 ch]] w fun e w' => e = .returned (.tuple #[.agg #[.int .i64 W, .int .i64 H, .int .i64 X, .int .i64 Y, .int .i64 S, .slice A n c], .int .i64 cd]) ∧ Below w.heap.size w w' := by
  have K := St.start w
  have HR := Lib.hid h
  have OQ := Lib.hid OP
  clear h OP
  go_enter Try.func41, Try.ntmps41
  go_wp2_with (first|((with_reducible refine at_load ?_);first|(refine wm_load (cs := ?_) (t := ?_) (n := ?_) K rfl _ _ rfl rfl ?_ ?_ ?_ ?_;rotate_left 2;(repeat (first|exact At.hd|refine At.tl ?_));rotate_left;(with_reducible first|exact row26);(exact rfl))|(refine wm_own (cs := ?_) (t := ?_) (v := ?_) K rfl _ _ rfl rfl ?_ ?_ ?_ ?_;rotate_left 2;(repeat (first|exact At.hd|refine At.tl ?_));rotate_left;(exact rfl);(with_reducible first|exact one3)))|((with_reducible refine at_store ?_);(first|(refine wm_store (L' := ?_) (cs := ?_) (t := ?_) (n := ?_) K rfl _ _ _ rfl rfl rfl rfl ?_ ?_ ?_ ?_ ?_ ?_;rotate_left 3;(repeat (exact Put.hd));rotate_left;(with_reducible first|exact row26);(exact rfl);(exact rfl);(simp [Ones, Value.oneCell'])));(try clear K);(try clear ww);intro ww K;(try simp [go_sem] at K))|((first|((with_reducible refine at_box ?_);refine wm_box K rfl _ _ rfl rfl rfl ?_)|((with_reducible refine at_alloc ?_);refine wm_alloc (v := ?_) (cs := ?_) K rfl _ rfl ?_ ?_ ?_;rotate_left;(with_reducible first|exact zero26);rotate_left;exact rfl));(try clear K);(try clear ww);(first|((fail_if_success (have _h := b2));intro b2 ww K)|((fail_if_success (have _h := b3));intro b3 ww K)|((fail_if_success (have _h := b4));intro b4 ww K));(try simp [go_sem, Value.cells] at K))|(go_at_call 77;(with_reducible refine (OQ.out _ (HR.out.below K.below)).mono ?_);rintro e w2 ⟨rfl, k1⟩;replace K := K.step k1;clear k1;(try clear ww);revert w2;intro ww K))
  refine bodyPost_ret (K.res2 (cs := ?_) (t := ?_) (n := ?_) rfl _ rfl ?_ ?_ ?_ rfl) rfl ?_
  rotate_left 2
  (repeat (first | exact At.hd | refine At.tl ?_))
  rotate_left
  (with_reducible first | exact row26)
  (solve | exact rfl | simp)
  exact ⟨rfl, K.below⟩
set_option maxRecDepth 100000 in
set_option maxHeartbeats 4000000 in
theorem Do19_Join (W H X Y S x y cw ch : Int) (A : Option Addr) (n c : Nat) (zs : List Int) (w : World) (h : Rd w A n (ints .i64 zs)) (hb : ∀ z ∈ zs, 0 ≤ z ∧ z ≤ 1073741824) (hn : n ≤ 5000) (W2 H2 X2 Y2 S2 : Int) (n2 : Nat) (z2 : List Int) (hb2 : ∀ z ∈ z2, 0 ≤ z ∧ z ≤ 1073741824) (hn2 : n2 ≤ 5000) (hs2 : 0 < isum z2)
    (OP : (∀ (w : World), Rd w A n (ints .i64 zs) → Calls Try.prog 73 #[.agg #[.int .i64 W, .int .i64 H, .int .i64 X, .int .i64 Y, .int .i64 S, .slice A n c]] w fun e w' => ∃ A2 c2, e = .returned (.tuple #[.agg #[.int .i64 W2, .int .i64 H2, .int .i64 X2, .int .i64 Y2, .int .i64 S2, .slice A2 n2 c2], .int .i64 0]) ∧ (Rd w' A2 n2 (ints .i64 z2) ∧ Nw w.heap.size A2) ∧ Below w.heap.size w w')) :
    Calls Try.prog 40 #[.agg #[.int .i64 W, .int .i64 H, .int .i64 X, .int .i64 Y, .int .i64 S, .slice A n c], .agg #[.int .i64 2, .int .i64 x, .int .i64 y, .int .i64 cw, .int .i64 ch]] w fun e w' => ∃ A3 c3, e = .returned (.tuple #[.agg #[.int .i64 W2, .int .i64 H2, .int .i64 X2, .int .i64 Y2, .int .i64 S2, .slice A3 n2 c3], .int .i64 (isum zs), .int .i64 (isum z2), .int .i64 0]) ∧ (Rd w' A3 n2 (ints .i64 (norm14 (isum z2) z2)) ∧ Nw w.heap.size A3) ∧ Below w.heap.size w w' := by
  have K := St.start w
  have HR := Lib.hid h
  have SM := Lib.hid (fun w h => Sum14 W H X Y S A n c zs w h (fun z hz => by have := hb z hz; omega) hn)
  have SM2 := Lib.hid (fun (A : Option Addr) (c : Nat) (w : World) (h : Rd w A n2 (ints .i64 z2)) => Sum14 W2 H2 X2 Y2 S2 A n2 c z2 w h (fun z hz => by have := hb2 z hz; omega) hn2)
  have NM := Lib.hid (fun (A : Option Addr) (c : Nat) (w : World) (h : Rd w A n2 (ints .i64 z2)) => GNorm14 W2 H2 X2 Y2 S2 A n2 c z2 w h hb2 hn2 hs2)
  have OQ := Lib.hid OP
  generalize norm14 (isum z2) z2 = nz at *
  generalize isum z2 = s2 at *
  generalize isum zs = s at *
  clear h hb hn hb2 hn2 hs2 OP
  go_enter Try.func40, Try.ntmps40
  go_wp2_with (first|((with_reducible refine at_load ?_);first|(refine wm_load (cs := ?_) (t := ?_) (n := ?_) K rfl _ _ rfl rfl ?_ ?_ ?_ ?_;rotate_left 2;(repeat (first|exact At.hd|refine At.tl ?_));rotate_left;(with_reducible first|exact row26);(exact rfl))|(refine wm_own (cs := ?_) (t := ?_) (v := ?_) K rfl _ _ rfl rfl ?_ ?_ ?_ ?_;rotate_left 2;(repeat (first|exact At.hd|refine At.tl ?_));rotate_left;(exact rfl);(with_reducible first|exact one3)))|((with_reducible refine at_store ?_);(first|(refine wm_store (L' := ?_) (cs := ?_) (t := ?_) (n := ?_) K rfl _ _ _ rfl rfl rfl rfl ?_ ?_ ?_ ?_ ?_ ?_;rotate_left 3;(repeat (exact Put.hd));rotate_left;(with_reducible first|exact row26);(exact rfl);(exact rfl);(simp [Ones, Value.oneCell'])));(try clear K);(try clear ww);intro ww K;(try simp [go_sem] at K))|((first|((with_reducible refine at_box ?_);refine wm_box K rfl _ _ rfl rfl rfl ?_)|((with_reducible refine at_alloc ?_);refine wm_alloc (v := ?_) (cs := ?_) K rfl _ rfl ?_ ?_ ?_;rotate_left;(with_reducible first|exact zero26);rotate_left;exact rfl));(try clear K);(try clear ww);(first|((fail_if_success (have _h := b2));intro b2 ww K)|((fail_if_success (have _h := b3));intro b3 ww K)|((fail_if_success (have _h := b4));intro b4 ww K)|((fail_if_success (have _h := b8));intro b8 ww K));(try simp [go_sem, Value.cells] at K))|(go_at_call 73;(with_reducible refine (OQ.out _ (HR.out.below K.below)).mono ?_);rintro e w2 ⟨A4, c4, rfl, ⟨h2, hA⟩, hbel⟩;(try dsimp only);replace K := K.madeRd hbel h2 hA;clear hbel h2 hA;(try clear ww);revert w2;intro ww K)|(go_at_call 62;(with_reducible refine (SM2.out _ _ _ (by first|exact K.fact.1)).mono ?_);rintro e w2 ⟨rfl, k1⟩;replace K := K.step k1;clear k1;(try clear ww);revert w2;intro ww K)|(go_at_call 84;(with_reducible refine (NM.out _ _ _ (by first|exact K.fact.1)).mono ?_);rintro e w2 ⟨A5, c5, rfl, ⟨h2, hA⟩, hbel⟩;(try dsimp only);have HNW := Lib.hid (hA.mono K.size);replace K := K.madeRd hbel h2 hA;clear hbel h2 hA;(try clear ww);revert w2;intro ww K))
  refine wm_held _ [(true, 0), (true, 1), (true, 3), (false, 2), (false, 4), (true, 5), (true, 6), (true, 7)] K sbk1 (by kernel_rfl) (by kernel_rfl) ?_; (try clear K); (try clear ww); intro ww K; (try simp [go_sem] at K); simp only [pick, List.getElem?_toArray, List.getElem?_cons_succ, List.getElem?_cons_zero]
  repeat (first|(((with_reducible refine ht_load ?_);first|(refine hm_load (cs := ?_) (t := ?_) (n := ?_) rfl _ _ rfl rfl ?_ ?_ ?_ ?_;rotate_left 2;(repeat (first|exact At.hd|refine At.tl ?_));rotate_left;(with_reducible first|exact row26);(exact rfl)));(try simp only [Act.put]);(try go_simp))|(refine held_take (fun K' hK' => ?_);go_simp;first|(apply Exists.intro;refine ⟨?_, hK' _ ?_⟩;(intro _ _;rfl);clear hK' K'))|((with_reducible refine ht_store ?_);first|(refine hm_store (L' := ?_) (cs := ?_) (t := ?_) (n := ?_) K rfl _ _ _ rfl rfl rfl rfl ?_ ?_ ?_ ?_ ?_ ?_;rotate_left 3;(repeat (first|exact Put.hd|(refine Put.tl (L' := ?_) ?_;rotate_left)));rotate_left;(with_reducible first|exact row26);(exact rfl);(exact rfl);(simp [Ones, Value.oneCell']);(try clear K);(try clear ww);intro ww K;(try simp [go_sem] at K);refine ⟨(by apply via sbk1;first|exact K), ?_⟩))|(refine held_do (fun K' hK' => ?_);go_simp;go_at_call 62;(with_reducible refine (SM.out _ (HR.out.below K.below)).mono ?_);rintro e w2 ⟨rfl, k1⟩;replace K := K.step k1;clear k1;(try clear ww);revert w2;intro ww K;(try dsimp only);refine hK' _ _ (by apply via sbk1;first|exact K) ?_;clear hK' K'))
  refine held_nil ?_
  go_wp2_with (fail)
  refine bodyPost_ret (K.resD (cs := ?_) (t := ?_) (n := ?_) rfl _ rfl ?_ ?_ ?_ rfl rfl rfl) rfl ?_
  rotate_left 2
  (repeat (first | exact At.hd | refine At.tl ?_))
  rotate_left
  (with_reducible first | exact row26)
  (solve | exact rfl | simp)
  exact ⟨A5, c5, rfl, ⟨(by first|exact K.fact.1), HNW.out⟩, K.below⟩
set_option maxRecDepth 100000 in
set_option maxHeartbeats 4000000 in
theorem Do19_Join_none (W H X Y S x y cw ch : Int) (A : Option Addr) (n c : Nat) (zs : List Int) (w : World) (h : Rd w A n (ints .i64 zs)) (hb : ∀ z ∈ zs, 0 ≤ z ∧ z ≤ 1073741824) (hn : n ≤ 5000) (W2 H2 X2 Y2 S2 : Int) (n2 : Nat) (z2 : List Int) (hb2 : ∀ z ∈ z2, 0 ≤ z ∧ z ≤ 1073741824) (hn2 : n2 ≤ 5000) (hs2 : isum z2 ≤ 0)
    (OP : (∀ (w : World), Rd w A n (ints .i64 zs) → Calls Try.prog 73 #[.agg #[.int .i64 W, .int .i64 H, .int .i64 X, .int .i64 Y, .int .i64 S, .slice A n c]] w fun e w' => ∃ A2 c2, e = .returned (.tuple #[.agg #[.int .i64 W2, .int .i64 H2, .int .i64 X2, .int .i64 Y2, .int .i64 S2, .slice A2 n2 c2], .int .i64 0]) ∧ (Rd w' A2 n2 (ints .i64 z2) ∧ Nw w.heap.size A2) ∧ Below w.heap.size w w')) :
    Calls Try.prog 40 #[.agg #[.int .i64 W, .int .i64 H, .int .i64 X, .int .i64 Y, .int .i64 S, .slice A n c], .agg #[.int .i64 2, .int .i64 x, .int .i64 y, .int .i64 cw, .int .i64 ch]] w fun e w' => e = .returned (.tuple #[.agg #[.int .i64 W, .int .i64 H, .int .i64 X, .int .i64 Y, .int .i64 S, .slice A n c], .int .i64 0, .int .i64 0, .int .i64 7]) ∧ Below w.heap.size w w' := by
  have K := St.start w
  have HR := Lib.hid h
  have SM2 := Lib.hid (fun (A : Option Addr) (c : Nat) (w : World) (h : Rd w A n2 (ints .i64 z2)) => Sum14 W2 H2 X2 Y2 S2 A n2 c z2 w h (fun z hz => by have := hb2 z hz; omega) hn2)
  have NM := Lib.hid (fun (A : Option Addr) (c : Nat) (w : World) (h : Rd w A n2 (ints .i64 z2)) => GNorm14_none W2 H2 X2 Y2 S2 A n2 c z2 w h hb2 hn2 hs2)
  have OQ := Lib.hid OP
  generalize isum z2 = s2 at *
  clear h hb hn hb2 hn2 hs2 OP
  go_enter Try.func40, Try.ntmps40
  go_wp2_with (first|((with_reducible refine at_load ?_);first|(refine wm_load (cs := ?_) (t := ?_) (n := ?_) K rfl _ _ rfl rfl ?_ ?_ ?_ ?_;rotate_left 2;(repeat (first|exact At.hd|refine At.tl ?_));rotate_left;(with_reducible first|exact row26);(exact rfl))|(refine wm_own (cs := ?_) (t := ?_) (v := ?_) K rfl _ _ rfl rfl ?_ ?_ ?_ ?_;rotate_left 2;(repeat (first|exact At.hd|refine At.tl ?_));rotate_left;(exact rfl);(with_reducible first|exact one3)))|((with_reducible refine at_store ?_);(first|(refine wm_store (L' := ?_) (cs := ?_) (t := ?_) (n := ?_) K rfl _ _ _ rfl rfl rfl rfl ?_ ?_ ?_ ?_ ?_ ?_;rotate_left 3;(repeat (first|exact Put.hd|(refine Put.tl (L' := ?_) ?_;rotate_left)));rotate_left;(with_reducible first|exact row26);(exact rfl);(exact rfl);(simp [Ones, Value.oneCell'])));(try clear K);(try clear ww);intro ww K;(try simp [go_sem] at K))|((first|((with_reducible refine at_box ?_);refine wm_box K rfl _ _ rfl rfl rfl ?_)|((with_reducible refine at_alloc ?_);refine wm_alloc (v := ?_) (cs := ?_) K rfl _ rfl ?_ ?_ ?_;rotate_left;(with_reducible first|exact zero26);rotate_left;exact rfl));(try clear K);(try clear ww);(first|((fail_if_success (have _h := b2));intro b2 ww K)|((fail_if_success (have _h := b3));intro b3 ww K)|((fail_if_success (have _h := b4));intro b4 ww K)|((fail_if_success (have _h := b8));intro b8 ww K));(try simp [go_sem, Value.cells] at K))|(go_at_call 73;(with_reducible refine (OQ.out _ (HR.out.below K.below)).mono ?_);rintro e w2 ⟨A4, c4, rfl, ⟨h2, hA⟩, hbel⟩;(try dsimp only);replace K := K.madeRd hbel h2 hA;clear hbel h2 hA;(try clear ww);revert w2;intro ww K)|(go_at_call 62;(with_reducible refine (SM2.out _ _ _ (by first|exact K.fact.1)).mono ?_);rintro e w2 ⟨rfl, k1⟩;replace K := K.step k1;clear k1;(try clear ww);revert w2;intro ww K)|(go_at_call 84;(with_reducible refine (NM.out _ _ _ (by first|exact K.fact.1)).mono ?_);rintro e w2 ⟨rfl, k1⟩;replace K := K.step k1;clear k1;(try clear ww);revert w2;intro ww K))
  refine bodyPost_ret (K.resD (cs := ?_) (t := ?_) (n := ?_) rfl _ rfl ?_ ?_ ?_ rfl rfl rfl) rfl ?_
  rotate_left 2
  (repeat (first | exact At.hd | refine At.tl ?_))
  rotate_left
  (with_reducible first | exact row26)
  (solve | exact rfl | simp)
  exact ⟨rfl, K.below⟩
set_option maxRecDepth 100000 in
set_option maxHeartbeats 4000000 in
theorem Do19_Join_bad (W H X Y S x y cw ch cd : Int) (A : Option Addr) (n c : Nat) (zs : List Int) (w : World) (h : Rd w A n (ints .i64 zs)) (hcd : cd ≠ 0)
    (OP : (∀ (w : World), Rd w A n (ints .i64 zs) → Calls Try.prog 73 #[.agg #[.int .i64 W, .int .i64 H, .int .i64 X, .int .i64 Y, .int .i64 S, .slice A n c]] w fun e w' => e = .returned (.tuple #[.agg #[.int .i64 W, .int .i64 H, .int .i64 X, .int .i64 Y, .int .i64 S, .slice A n c], .int .i64 cd]) ∧ Below w.heap.size w w')) :
    Calls Try.prog 40 #[.agg #[.int .i64 W, .int .i64 H, .int .i64 X, .int .i64 Y, .int .i64 S, .slice A n c], .agg #[.int .i64 2, .int .i64 x, .int .i64 y, .int .i64 cw, .int .i64 ch]] w fun e w' => e = .returned (.tuple #[.agg #[.int .i64 W, .int .i64 H, .int .i64 X, .int .i64 Y, .int .i64 S, .slice A n c], .int .i64 0, .int .i64 0, .int .i64 cd]) ∧ Below w.heap.size w w' := by
  have K := St.start w
  have HR := Lib.hid h
  have OQ := Lib.hid OP
  have t0 : (cd != 0) = true := by simpa using hcd
  have t1 : ¬(cd = 0) := hcd
  clear h OP hcd
  go_enter Try.func40, Try.ntmps40
  go_wp2_with (first|((with_reducible refine at_load ?_);first|(refine wm_load (cs := ?_) (t := ?_) (n := ?_) K rfl _ _ rfl rfl ?_ ?_ ?_ ?_;rotate_left 2;(repeat (first|exact At.hd|refine At.tl ?_));rotate_left;(with_reducible first|exact row26);(exact rfl))|(refine wm_own (cs := ?_) (t := ?_) (v := ?_) K rfl _ _ rfl rfl ?_ ?_ ?_ ?_;rotate_left 2;(repeat (first|exact At.hd|refine At.tl ?_));rotate_left;(exact rfl);(with_reducible first|exact one3)))|((with_reducible refine at_store ?_);(first|(refine wm_store (L' := ?_) (cs := ?_) (t := ?_) (n := ?_) K rfl _ _ _ rfl rfl rfl rfl ?_ ?_ ?_ ?_ ?_ ?_;rotate_left 3;(repeat (first|exact Put.hd|(refine Put.tl (L' := ?_) ?_;rotate_left)));rotate_left;(with_reducible first|exact row26);(exact rfl);(exact rfl);(simp [Ones, Value.oneCell'])));(try clear K);(try clear ww);intro ww K;(try simp [go_sem] at K))|((first|((with_reducible refine at_box ?_);refine wm_box K rfl _ _ rfl rfl rfl ?_)|((with_reducible refine at_alloc ?_);refine wm_alloc (v := ?_) (cs := ?_) K rfl _ rfl ?_ ?_ ?_;rotate_left;(with_reducible first|exact zero26);rotate_left;exact rfl));(try clear K);(try clear ww);(first|((fail_if_success (have _h := b2));intro b2 ww K)|((fail_if_success (have _h := b3));intro b3 ww K)|((fail_if_success (have _h := b4));intro b4 ww K)|((fail_if_success (have _h := b8));intro b8 ww K));(try simp [go_sem, Value.cells] at K))|(go_at_call 73;(with_reducible refine (OQ.out _ (HR.out.below K.below)).mono ?_);rintro e w2 ⟨rfl, k1⟩;replace K := K.step k1;clear k1;(try clear ww);revert w2;intro ww K))
  refine bodyPost_ret (K.resD (cs := ?_) (t := ?_) (n := ?_) rfl _ rfl ?_ ?_ ?_ rfl rfl rfl) rfl ?_
  rotate_left 2
  (repeat (first | exact At.hd | refine At.tl ?_))
  rotate_left
  (with_reducible first | exact row26)
  (solve | exact rfl | simp)
  exact ⟨rfl, K.below⟩
set_option maxRecDepth 100000 in
set_option maxHeartbeats 4000000 in
theorem Raw19_Join (W H X Y S x y cw ch : Int) (A : Option Addr) (n c : Nat) (zs : List Int) (w : World) (h : Rd w A n (ints .i64 zs)) (W2 H2 X2 Y2 S2 : Int) (n2 : Nat) (z2 : List Int)
    (OP : (∀ (w : World), Rd w A n (ints .i64 zs) → Calls Try.prog 76 #[.agg #[.int .i64 W, .int .i64 H, .int .i64 X, .int .i64 Y, .int .i64 S, .slice A n c]] w fun e w' => ∃ A2 c2, e = .returned (.tuple #[.agg #[.int .i64 W2, .int .i64 H2, .int .i64 X2, .int .i64 Y2, .int .i64 S2, .slice A2 n2 c2], .int .i64 0]) ∧ (Rd w' A2 n2 (ints .i64 z2) ∧ Nw w.heap.size A2) ∧ Below w.heap.size w w')) :
    Calls Try.prog 41 #[.agg #[.int .i64 W, .int .i64 H, .int .i64 X, .int .i64 Y, .int .i64 S, .slice A n c], .agg #[.int .i64 2, .int .i64 x, .int .i64 y, .int .i64 cw, .int .i64 ch]] w fun e w' => ∃ A3 c3, e = .returned (.tuple #[.agg #[.int .i64 W2, .int .i64 H2, .int .i64 X2, .int .i64 Y2, .int .i64 S2, .slice A3 n2 c3], .int .i64 0]) ∧ (Rd w' A3 n2 (ints .i64 z2) ∧ Nw w.heap.size A3) ∧ Below w.heap.size w w' := by
  have K := St.start w
  have HR := Lib.hid h
  have OQ := Lib.hid OP
  clear h OP
  go_enter Try.func41, Try.ntmps41
  go_wp2_with (first|((with_reducible refine at_load ?_);first|(refine wm_load (cs := ?_) (t := ?_) (n := ?_) K rfl _ _ rfl rfl ?_ ?_ ?_ ?_;rotate_left 2;(repeat (first|exact At.hd|refine At.tl ?_));rotate_left;(with_reducible first|exact row26);(exact rfl))|(refine wm_own (cs := ?_) (t := ?_) (v := ?_) K rfl _ _ rfl rfl ?_ ?_ ?_ ?_;rotate_left 2;(repeat (first|exact At.hd|refine At.tl ?_));rotate_left;(exact rfl);(with_reducible first|exact one3)))|((with_reducible refine at_store ?_);(first|(refine wm_store (L' := ?_) (cs := ?_) (t := ?_) (n := ?_) K rfl _ _ _ rfl rfl rfl rfl ?_ ?_ ?_ ?_ ?_ ?_;rotate_left 3;(repeat (exact Put.hd));rotate_left;(with_reducible first|exact row26);(exact rfl);(exact rfl);(simp [Ones, Value.oneCell'])));(try clear K);(try clear ww);intro ww K;(try simp [go_sem] at K))|((first|((with_reducible refine at_box ?_);refine wm_box K rfl _ _ rfl rfl rfl ?_)|((with_reducible refine at_alloc ?_);refine wm_alloc (v := ?_) (cs := ?_) K rfl _ rfl ?_ ?_ ?_;rotate_left;(with_reducible first|exact zero26);rotate_left;exact rfl));(try clear K);(try clear ww);(first|((fail_if_success (have _h := b2));intro b2 ww K)|((fail_if_success (have _h := b3));intro b3 ww K)|((fail_if_success (have _h := b4));intro b4 ww K));(try simp [go_sem, Value.cells] at K))|(go_at_call 76;(with_reducible refine (OQ.out _ (HR.out.below K.below)).mono ?_);rintro e w2 ⟨A5, c5, rfl, ⟨h2, hA⟩, hbel⟩;(try dsimp only);have HNW := Lib.hid (hA.mono K.size);replace K := K.madeRd hbel h2 hA;clear hbel h2 hA;(try clear ww);revert w2;intro ww K))
  refine bodyPost_ret (K.res2 (cs := ?_) (t := ?_) (n := ?_) rfl _ rfl ?_ ?_ ?_ rfl) rfl ?_
  rotate_left 2
  (repeat (first | exact At.hd | refine At.tl ?_))
  rotate_left
  (with_reducible first | exact row26)
  (solve | exact rfl | simp)
  exact ⟨A5, c5, rfl, ⟨(by first|exact K.fact.1), HNW.out⟩, K.below⟩
set_option maxRecDepth 100000 in
set_option maxHeartbeats 4000000 in
theorem Raw19_Join_bad (W H X Y S x y cw ch cd : Int) (A : Option Addr) (n c : Nat) (zs : List Int) (w : World) (h : Rd w A n (ints .i64 zs))
    (OP : (∀ (w : World), Rd w A n (ints .i64 zs) → Calls Try.prog 76 #[.agg #[.int .i64 W, .int .i64 H, .int .i64 X, .int .i64 Y, .int .i64 S, .slice A n c]] w fun e w' => e = .returned (.tuple #[.agg #[.int .i64 W, .int .i64 H, .int .i64 X, .int .i64 Y, .int .i64 S, .slice A n c], .int .i64 cd]) ∧ Below w.heap.size w w')) :
    Calls Try.prog 41 #[.agg #[.int .i64 W, .int .i64 H, .int .i64 X, .int .i64 Y, .int .i64 S, .slice A n c], .agg #[.int .i64 2, .int .i64 x, .int .i64 y, .int .i64 cw, .int .i64 ch]] w fun e w' => e = .returned (.tuple #[.agg #[.int .i64 W, .int .i64 H, .int .i64 X, .int .i64 Y, .int .i64 S, .slice A n c], .int .i64 cd]) ∧ Below w.heap.size w w' := by
  have K := St.start w
  have HR := Lib.hid h
  have OQ := Lib.hid OP
  clear h OP
  go_enter Try.func41, Try.ntmps41
  go_wp2_with (first|((with_reducible refine at_load ?_);first|(refine wm_load (cs := ?_) (t := ?_) (n := ?_) K rfl _ _ rfl rfl ?_ ?_ ?_ ?_;rotate_left 2;(repeat (first|exact At.hd|refine At.tl ?_));rotate_left;(with_reducible first|exact row26);(exact rfl))|(refine wm_own (cs := ?_) (t := ?_) (v := ?_) K rfl _ _ rfl rfl ?_ ?_ ?_ ?_;rotate_left 2;(repeat (first|exact At.hd|refine At.tl ?_));rotate_left;(exact rfl);(with_reducible first|exact one3)))|((with_reducible refine at_store ?_);(first|(refine wm_store (L' := ?_) (cs := ?_) (t := ?_) (n := ?_) K rfl _ _ _ rfl rfl rfl rfl ?_ ?_ ?_ ?_ ?_ ?_;rotate_left 3;(repeat (exact Put.hd));rotate_left;(with_reducible first|exact row26);(exact rfl);(exact rfl);(simp [Ones, Value.oneCell'])));(try clear K);(try clear ww);intro ww K;(try simp [go_sem] at K))|((first|((with_reducible refine at_box ?_);refine wm_box K rfl _ _ rfl rfl rfl ?_)|((with_reducible refine at_alloc ?_);refine wm_alloc (v := ?_) (cs := ?_) K rfl _ rfl ?_ ?_ ?_;rotate_left;(with_reducible first|exact zero26);rotate_left;exact rfl));(try clear K);(try clear ww);(first|((fail_if_success (have _h := b2));intro b2 ww K)|((fail_if_success (have _h := b3));intro b3 ww K)|((fail_if_success (have _h := b4));intro b4 ww K));(try simp [go_sem, Value.cells] at K))|(go_at_call 76;(with_reducible refine (OQ.out _ (HR.out.below K.below)).mono ?_);rintro e w2 ⟨rfl, k1⟩;replace K := K.step k1;clear k1;(try clear ww);revert w2;intro ww K))
  refine bodyPost_ret (K.res2 (cs := ?_) (t := ?_) (n := ?_) rfl _ rfl ?_ ?_ ?_ rfl) rfl ?_
  rotate_left 2
  (repeat (first | exact At.hd | refine At.tl ?_))
  rotate_left
  (with_reducible first | exact row26)
  (solve | exact rfl | simp)
  exact ⟨rfl, K.below⟩
set_option maxRecDepth 100000 in
set_option maxHeartbeats 4000000 in
theorem Do19_Cut (W H X Y S x y cw ch : Int) (A : Option Addr) (n c : Nat) (zs : List Int) (w : World) (h : Rd w A n (ints .i64 zs)) (hb : ∀ z ∈ zs, 0 ≤ z ∧ z ≤ 1073741824) (hn : n ≤ 5000) (W2 H2 X2 Y2 S2 : Int) (n2 : Nat) (z2 : List Int) (hb2 : ∀ z ∈ z2, 0 ≤ z ∧ z ≤ 1073741824) (hn2 : n2 ≤ 5000) (hs2 : 0 < isum z2)
    (OP : (∀ (w : World), Rd w A n (ints .i64 zs) → Calls Try.prog 83 #[.agg #[.int .i64 W, .int .i64 H, .int .i64 X, .int .i64 Y, .int .i64 S, .slice A n c], .int .i64 x, .int .i64 y, .int .i64 cw, .int .i64 ch] w fun e w' => ∃ A2 c2, e = .returned (.tuple #[.agg #[.int .i64 W2, .int .i64 H2, .int .i64 X2, .int .i64 Y2, .int .i64 S2, .slice A2 n2 c2], .int .i64 0]) ∧ (Rd w' A2 n2 (ints .i64 z2) ∧ Nw w.heap.size A2) ∧ Below w.heap.size w w')) :
    Calls Try.prog 40 #[.agg #[.int .i64 W, .int .i64 H, .int .i64 X, .int .i64 Y, .int .i64 S, .slice A n c], .agg #[.int .i64 3, .int .i64 x, .int .i64 y, .int .i64 cw, .int .i64 ch]] w fun e w' => ∃ A3 c3, e = .returned (.tuple #[.agg #[.int .i64 W2, .int .i64 H2, .int .i64 X2, .int .i64 Y2, .int .i64 S2, .slice A3 n2 c3], .int .i64 (isum zs), .int .i64 (isum z2), .int .i64 0]) ∧ (Rd w' A3 n2 (ints .i64 (norm14 (isum z2) z2)) ∧ Nw w.heap.size A3) ∧ Below w.heap.size w w' := by
  have K := St.start w
  have HR := Lib.hid h
  have SM := Lib.hid (fun w h => Sum14 W H X Y S A n c zs w h (fun z hz => by have := hb z hz; omega) hn)
  have SM2 := Lib.hid (fun (A : Option Addr) (c : Nat) (w : World) (h : Rd w A n2 (ints .i64 z2)) => Sum14 W2 H2 X2 Y2 S2 A n2 c z2 w h (fun z hz => by have := hb2 z hz; omega) hn2)
  have NM := Lib.hid (fun (A : Option Addr) (c : Nat) (w : World) (h : Rd w A n2 (ints .i64 z2)) => GNorm14 W2 H2 X2 Y2 S2 A n2 c z2 w h hb2 hn2 hs2)
  have OQ := Lib.hid OP
  generalize norm14 (isum z2) z2 = nz at *
  generalize isum z2 = s2 at *
  generalize isum zs = s at *
  clear h hb hn hb2 hn2 hs2 OP
  go_enter Try.func40, Try.ntmps40
  go_wp2_with (first|((with_reducible refine at_load ?_);first|(refine wm_load (cs := ?_) (t := ?_) (n := ?_) K rfl _ _ rfl rfl ?_ ?_ ?_ ?_;rotate_left 2;(repeat (first|exact At.hd|refine At.tl ?_));rotate_left;(with_reducible first|exact row26);(exact rfl))|(refine wm_own (cs := ?_) (t := ?_) (v := ?_) K rfl _ _ rfl rfl ?_ ?_ ?_ ?_;rotate_left 2;(repeat (first|exact At.hd|refine At.tl ?_));rotate_left;(exact rfl);(with_reducible first|exact one3)))|((with_reducible refine at_store ?_);(first|(refine wm_store (L' := ?_) (cs := ?_) (t := ?_) (n := ?_) K rfl _ _ _ rfl rfl rfl rfl ?_ ?_ ?_ ?_ ?_ ?_;rotate_left 3;(repeat (exact Put.hd));rotate_left;(with_reducible first|exact row26);(exact rfl);(exact rfl);(simp [Ones, Value.oneCell'])));(try clear K);(try clear ww);intro ww K;(try simp [go_sem] at K))|((first|((with_reducible refine at_box ?_);refine wm_box K rfl _ _ rfl rfl rfl ?_)|((with_reducible refine at_alloc ?_);refine wm_alloc (v := ?_) (cs := ?_) K rfl _ rfl ?_ ?_ ?_;rotate_left;(with_reducible first|exact zero26);rotate_left;exact rfl));(try clear K);(try clear ww);(first|((fail_if_success (have _h := b2));intro b2 ww K)|((fail_if_success (have _h := b3));intro b3 ww K)|((fail_if_success (have _h := b4));intro b4 ww K)|((fail_if_success (have _h := b8));intro b8 ww K));(try simp [go_sem, Value.cells] at K))|(go_at_call 83;(with_reducible refine (OQ.out _ (HR.out.below K.below)).mono ?_);rintro e w2 ⟨A4, c4, rfl, ⟨h2, hA⟩, hbel⟩;(try dsimp only);replace K := K.madeRd hbel h2 hA;clear hbel h2 hA;(try clear ww);revert w2;intro ww K)|(go_at_call 62;(with_reducible refine (SM2.out _ _ _ (by first|exact K.fact.1)).mono ?_);rintro e w2 ⟨rfl, k1⟩;replace K := K.step k1;clear k1;(try clear ww);revert w2;intro ww K)|(go_at_call 84;(with_reducible refine (NM.out _ _ _ (by first|exact K.fact.1)).mono ?_);rintro e w2 ⟨A5, c5, rfl, ⟨h2, hA⟩, hbel⟩;(try dsimp only);have HNW := Lib.hid (hA.mono K.size);replace K := K.madeRd hbel h2 hA;clear hbel h2 hA;(try clear ww);revert w2;intro ww K))
  refine wm_held _ [(true, 0), (true, 1), (true, 3), (false, 2), (false, 4), (true, 5), (true, 6), (true, 7)] K sbk1 (by kernel_rfl) (by kernel_rfl) ?_; (try clear K); (try clear ww); intro ww K; (try simp [go_sem] at K); simp only [pick, List.getElem?_toArray, List.getElem?_cons_succ, List.getElem?_cons_zero]
  repeat (first|(((with_reducible refine ht_load ?_);first|(refine hm_load (cs := ?_) (t := ?_) (n := ?_) rfl _ _ rfl rfl ?_ ?_ ?_ ?_;rotate_left 2;(repeat (first|exact At.hd|refine At.tl ?_));rotate_left;(with_reducible first|exact row26);(exact rfl)));(try simp only [Act.put]);(try go_simp))|(refine held_take (fun K' hK' => ?_);go_simp;first|(apply Exists.intro;refine ⟨?_, hK' _ ?_⟩;(intro _ _;rfl);clear hK' K'))|((with_reducible refine ht_store ?_);first|(refine hm_store (L' := ?_) (cs := ?_) (t := ?_) (n := ?_) K rfl _ _ _ rfl rfl rfl rfl ?_ ?_ ?_ ?_ ?_ ?_;rotate_left 3;(repeat (first|exact Put.hd|(refine Put.tl (L' := ?_) ?_;rotate_left)));rotate_left;(with_reducible first|exact row26);(exact rfl);(exact rfl);(simp [Ones, Value.oneCell']);(try clear K);(try clear ww);intro ww K;(try simp [go_sem] at K);refine ⟨(by apply via sbk1;first|exact K), ?_⟩))|(refine held_do (fun K' hK' => ?_);go_simp;go_at_call 62;(with_reducible refine (SM.out _ (HR.out.below K.below)).mono ?_);rintro e w2 ⟨rfl, k1⟩;replace K := K.step k1;clear k1;(try clear ww);revert w2;intro ww K;(try dsimp only);refine hK' _ _ (by apply via sbk1;first|exact K) ?_;clear hK' K'))
  refine held_nil ?_
  go_wp2_with (fail)
  refine bodyPost_ret (K.resD (cs := ?_) (t := ?_) (n := ?_) rfl _ rfl ?_ ?_ ?_ rfl rfl rfl) rfl ?_
  rotate_left 2
  (repeat (first | exact At.hd | refine At.tl ?_))
  rotate_left
  (with_reducible first | exact row26)
  (solve | exact rfl | simp)
  exact ⟨A5, c5, rfl, ⟨(by first|exact K.fact.1), HNW.out⟩, K.below⟩
set_option maxRecDepth 100000 in
set_option maxHeartbeats 4000000 in
theorem Do19_Cut_none (W H X Y S x y cw ch : Int) (A : Option Addr) (n c : Nat) (zs : List Int) (w : World) (h : Rd w A n (ints .i64 zs)) (hb : ∀ z ∈ zs, 0 ≤ z ∧ z ≤ 1073741824) (hn : n ≤ 5000) (W2 H2 X2 Y2 S2 : Int) (n2 : Nat) (z2 : List Int) (hb2 : ∀ z ∈ z2, 0 ≤ z ∧ z ≤ 1073741824) (hn2 : n2 ≤ 5000) (hs2 : isum z2 ≤ 0)
    (OP : (∀ (w : World), Rd w A n (ints .i64 zs) → Calls Try.prog 83 #[.agg #[.int .i64 W, .int .i64 H, .int .i64 X, .int .i64 Y, .int .i64 S, .slice A n c], .int .i64 x, .int .i64 y, .int .i64 cw, .int .i64 ch] w fun e w' => ∃ A2 c2, e = .returned (.tuple #[.agg #[.int .i64 W2, .int .i64 H2, .int .i64 X2, .int .i64 Y2, .int .i64 S2, .slice A2 n2 c2], .int .i64 0]) ∧ (Rd w' A2 n2 (ints .i64 z2) ∧ Nw w.heap.size A2) ∧ Below w.heap.size w w')) :
    Calls Try.prog 40 #[.agg #[.int .i64 W, .int .i64 H, .int .i64 X, .int .i64 Y, .int .i64 S, .slice A n c], .agg #[.int .i64 3, .int .i64 x, .int .i64 y, .int .i64 cw, .int .i64 ch]] w fun e w' => e = .returned (.tuple #[.agg #[.int .i64 W, .int .i64 H, .int .i64 X, .int .i64 Y, .int .i64 S, .slice A n c], .int .i64 0, .int .i64 0, .int .i64 7]) ∧ Below w.heap.size w w' := by
  have K := St.start w
  have HR := Lib.hid h
  have SM2 := Lib.hid (fun (A : Option Addr) (c : Nat) (w : World) (h : Rd w A n2 (ints .i64 z2)) => Sum14 W2 H2 X2 Y2 S2 A n2 c z2 w h (fun z hz => by have := hb2 z hz; omega) hn2)
  have NM := Lib.hid (fun (A : Option Addr) (c : Nat) (w : World) (h : Rd w A n2 (ints .i64 z2)) => GNorm14_none W2 H2 X2 Y2 S2 A n2 c z2 w h hb2 hn2 hs2)
  have OQ := Lib.hid OP
  generalize isum z2 = s2 at *
  clear h hb hn hb2 hn2 hs2 OP
  go_enter Try.func40, Try.ntmps40
  go_wp2_with (first|((with_reducible refine at_load ?_);first|(refine wm_load (cs := ?_) (t := ?_) (n := ?_) K rfl _ _ rfl rfl ?_ ?_ ?_ ?_;rotate_left 2;(repeat (first|exact At.hd|refine At.tl ?_));rotate_left;(with_reducible first|exact row26);(exact rfl))|(refine wm_own (cs := ?_) (t := ?_) (v := ?_) K rfl _ _ rfl rfl ?_ ?_ ?_ ?_;rotate_left 2;(repeat (first|exact At.hd|refine At.tl ?_));rotate_left;(exact rfl);(with_reducible first|exact one3)))|((with_reducible refine at_store ?_);(first|(refine wm_store (L' := ?_) (cs := ?_) (t := ?_) (n := ?_) K rfl _ _ _ rfl rfl rfl rfl ?_ ?_ ?_ ?_ ?_ ?_;rotate_left 3;(repeat (first|exact Put.hd|(refine Put.tl (L' := ?_) ?_;rotate_left)));rotate_left;(with_reducible first|exact row26);(exact rfl);(exact rfl);(simp [Ones, Value.oneCell'])));(try clear K);(try clear ww);intro ww K;(try simp [go_sem] at K))|((first|((with_reducible refine at_box ?_);refine wm_box K rfl _ _ rfl rfl rfl ?_)|((with_reducible refine at_alloc ?_);refine wm_alloc (v := ?_) (cs := ?_) K rfl _ rfl ?_ ?_ ?_;rotate_left;(with_reducible first|exact zero26);rotate_left;exact rfl));(try clear K);(try clear ww);(first|((fail_if_success (have _h := b2));intro b2 ww K)|((fail_if_success (have _h := b3));intro b3 ww K)|((fail_if_success (have _h := b4));intro b4 ww K)|((fail_if_success (have _h := b8));intro b8 ww K));(try simp [go_sem, Value.cells] at K))|(go_at_call 83;(with_reducible refine (OQ.out _ (HR.out.below K.below)).mono ?_);rintro e w2 ⟨A4, c4, rfl, ⟨h2, hA⟩, hbel⟩;(try dsimp only);replace K := K.madeRd hbel h2 hA;clear hbel h2 hA;(try clear ww);revert w2;intro ww K)|(go_at_call 62;(with_reducible refine (SM2.out _ _ _ (by first|exact K.fact.1)).mono ?_);rintro e w2 ⟨rfl, k1⟩;replace K := K.step k1;clear k1;(try clear ww);revert w2;intro ww K)|(go_at_call 84;(with_reducible refine (NM.out _ _ _ (by first|exact K.fact.1)).mono ?_);rintro e w2 ⟨rfl, k1⟩;replace K := K.step k1;clear k1;(try clear ww);revert w2;intro ww K))
  refine bodyPost_ret (K.resD (cs := ?_) (t := ?_) (n := ?_) rfl _ rfl ?_ ?_ ?_ rfl rfl rfl) rfl ?_
  rotate_left 2
  (repeat (first | exact At.hd | refine At.tl ?_))
  rotate_left
  (with_reducible first | exact row26)
  (solve | exact rfl | simp)
  exact ⟨rfl, K.below⟩
set_option maxRecDepth 100000 in
set_option maxHeartbeats 4000000 in
theorem Do19_Cut_bad (W H X Y S x y cw ch cd : Int) (A : Option Addr) (n c : Nat) (zs : List Int) (w : World) (h : Rd w A n (ints .i64 zs)) (hcd : cd ≠ 0)
    (OP : (∀ (w : World), Rd w A n (ints .i64 zs) → Calls Try.prog 83 #[.agg #[.int .i64 W, .int .i64 H, .int .i64 X, .int .i64 Y, .int .i64 S, .slice A n c], .int .i64 x, .int .i64 y, .int .i64 cw, .int .i64 ch] w fun e w' => e = .returned (.tuple #[.agg #[.int .i64 W, .int .i64 H, .int .i64 X, .int .i64 Y, .int .i64 S, .slice A n c], .int .i64 cd]) ∧ Below w.heap.size w w')) :
    Calls Try.prog 40 #[.agg #[.int .i64 W, .int .i64 H, .int .i64 X, .int .i64 Y, .int .i64 S, .slice A n c], .agg #[.int .i64 3, .int .i64 x, .int .i64 y, .int .i64 cw, .int .i64 ch]] w fun e w' => e = .returned (.tuple #[.agg #[.int .i64 W, .int .i64 H, .int .i64 X, .int .i64 Y, .int .i64 S, .slice A n c], .int .i64 0, .int .i64 0, .int .i64 cd]) ∧ Below w.heap.size w w' := by
  have K := St.start w
  have HR := Lib.hid h
  have OQ := Lib.hid OP
  have t0 : (cd != 0) = true := by simpa using hcd
  have t1 : ¬(cd = 0) := hcd
  clear h OP hcd
  go_enter Try.func40, Try.ntmps40
  go_wp2_with (first|((with_reducible refine at_load ?_);first|(refine wm_load (cs := ?_) (t := ?_) (n := ?_) K rfl _ _ rfl rfl ?_ ?_ ?_ ?_;rotate_left 2;(repeat (first|exact At.hd|refine At.tl ?_));rotate_left;(with_reducible first|exact row26);(exact rfl))|(refine wm_own (cs := ?_) (t := ?_) (v := ?_) K rfl _ _ rfl rfl ?_ ?_ ?_ ?_;rotate_left 2;(repeat (first|exact At.hd|refine At.tl ?_));rotate_left;(exact rfl);(with_reducible first|exact one3)))|((with_reducible refine at_store ?_);(first|(refine wm_store (L' := ?_) (cs := ?_) (t := ?_) (n := ?_) K rfl _ _ _ rfl rfl rfl rfl ?_ ?_ ?_ ?_ ?_ ?_;rotate_left 3;(repeat (first|exact Put.hd|(refine Put.tl (L' := ?_) ?_;rotate_left)));rotate_left;(with_reducible first|exact row26);(exact rfl);(exact rfl);(simp [Ones, Value.oneCell'])));(try clear K);(try clear ww);intro ww K;(try simp [go_sem] at K))|((first|((with_reducible refine at_box ?_);refine wm_box K rfl _ _ rfl rfl rfl ?_)|((with_reducible refine at_alloc ?_);refine wm_alloc (v := ?_) (cs := ?_) K rfl _ rfl ?_ ?_ ?_;rotate_left;(with_reducible first|exact zero26);rotate_left;exact rfl));(try clear K);(try clear ww);(first|((fail_if_success (have _h := b2));intro b2 ww K)|((fail_if_success (have _h := b3));intro b3 ww K)|((fail_if_success (have _h := b4));intro b4 ww K)|((fail_if_success (have _h := b8));intro b8 ww K));(try simp [go_sem, Value.cells] at K))|(go_at_call 83;(with_reducible refine (OQ.out _ (HR.out.below K.below)).mono ?_);rintro e w2 ⟨rfl, k1⟩;replace K := K.step k1;clear k1;(try clear ww);revert w2;intro ww K))
  refine bodyPost_ret (K.resD (cs := ?_) (t := ?_) (n := ?_) rfl _ rfl ?_ ?_ ?_ rfl rfl rfl) rfl ?_
  rotate_left 2
  (repeat (first | exact At.hd | refine At.tl ?_))
  rotate_left
  (with_reducible first | exact row26)
  (solve | exact rfl | simp)
  exact ⟨rfl, K.below⟩
set_option maxRecDepth 100000 in
set_option maxHeartbeats 4000000 in
theorem Raw19_Cut (W H X Y S x y cw ch : Int) (A : Option Addr) (n c : Nat) (zs : List Int) (w : World) (h : Rd w A n (ints .i64 zs)) (W2 H2 X2 Y2 S2 : Int) (n2 : Nat) (z2 : List Int)
    (OP : (∀ (w : World), Rd w A n (ints .i64 zs) → Calls Try.prog 85 #[.agg #[.int .i64 W, .int .i64 H, .int .i64 X, .int .i64 Y, .int .i64 S, .slice A n c], .int .i64 x, .int .i64 y, .int .i64 cw, .int .i64 ch] w fun e w' => ∃ A2 c2, e = .returned (.tuple #[.agg #[.int .i64 W2, .int .i64 H2, .int .i64 X2, .int .i64 Y2, .int .i64 S2, .slice A2 n2 c2], .int .i64 0]) ∧ (Rd w' A2 n2 (ints .i64 z2) ∧ Nw w.heap.size A2) ∧ Below w.heap.size w w')) :
    Calls Try.prog 41 #[.agg #[.int .i64 W, .int .i64 H, .int .i64 X, .int .i64 Y, .int .i64 S, .slice A n c], .agg #[.int .i64 3, .int .i64 x, .int .i64 y, .int .i64 cw, .int .i64 ch]] w fun e w' => ∃ A3 c3, e = .returned (.tuple #[.agg #[.int .i64 W2, .int .i64 H2, .int .i64 X2, .int .i64 Y2, .int .i64 S2, .slice A3 n2 c3], .int .i64 0]) ∧ (Rd w' A3 n2 (ints .i64 z2) ∧ Nw w.heap.size A3) ∧ Below w.heap.size w w' := by
  have K := St.start w
  have HR := Lib.hid h
  have OQ := Lib.hid OP
  clear h OP
  go_enter Try.func41, Try.ntmps41
  go_wp2_with (first|((with_reducible refine at_load ?_);first|(refine wm_load (cs := ?_) (t := ?_) (n := ?_) K rfl _ _ rfl rfl ?_ ?_ ?_ ?_;rotate_left 2;(repeat (first|exact At.hd|refine At.tl ?_));rotate_left;(with_reducible first|exact row26);(exact rfl))|(refine wm_own (cs := ?_) (t := ?_) (v := ?_) K rfl _ _ rfl rfl ?_ ?_ ?_ ?_;rotate_left 2;(repeat (first|exact At.hd|refine At.tl ?_));rotate_left;(exact rfl);(with_reducible first|exact one3)))|((with_reducible refine at_store ?_);(first|(refine wm_store (L' := ?_) (cs := ?_) (t := ?_) (n := ?_) K rfl _ _ _ rfl rfl rfl rfl ?_ ?_ ?_ ?_ ?_ ?_;rotate_left 3;(repeat (exact Put.hd));rotate_left;(with_reducible first|exact row26);(exact rfl);(exact rfl);(simp [Ones, Value.oneCell'])));(try clear K);(try clear ww);intro ww K;(try simp [go_sem] at K))|((first|((with_reducible refine at_box ?_);refine wm_box K rfl _ _ rfl rfl rfl ?_)|((with_reducible refine at_alloc ?_);refine wm_alloc (v := ?_) (cs := ?_) K rfl _ rfl ?_ ?_ ?_;rotate_left;(with_reducible first|exact zero26);rotate_left;exact rfl));(try clear K);(try clear ww);(first|((fail_if_success (have _h := b2));intro b2 ww K)|((fail_if_success (have _h := b3));intro b3 ww K)|((fail_if_success (have _h := b4));intro b4 ww K));(try simp [go_sem, Value.cells] at K))|(go_at_call 85;(with_reducible refine (OQ.out _ (HR.out.below K.below)).mono ?_);rintro e w2 ⟨A5, c5, rfl, ⟨h2, hA⟩, hbel⟩;(try dsimp only);have HNW := Lib.hid (hA.mono K.size);replace K := K.madeRd hbel h2 hA;clear hbel h2 hA;(try clear ww);revert w2;intro ww K))
  refine bodyPost_ret (K.res2 (cs := ?_) (t := ?_) (n := ?_) rfl _ rfl ?_ ?_ ?_ rfl) rfl ?_
  rotate_left 2
  (repeat (first | exact At.hd | refine At.tl ?_))
  rotate_left
  (with_reducible first | exact row26)
  (solve | exact rfl | simp)
  exact ⟨A5, c5, rfl, ⟨(by first|exact K.fact.1), HNW.out⟩, K.below⟩
set_option maxRecDepth 100000 in
set_option maxHeartbeats 4000000 in
theorem Raw19_Cut_bad (W H X Y S x y cw ch cd : Int) (A : Option Addr) (n c : Nat) (zs : List Int) (w : World) (h : Rd w A n (ints .i64 zs))
    (OP : (∀ (w : World), Rd w A n (ints .i64 zs) → Calls Try.prog 85 #[.agg #[.int .i64 W, .int .i64 H, .int .i64 X, .int .i64 Y, .int .i64 S, .slice A n c], .int .i64 x, .int .i64 y, .int .i64 cw, .int .i64 ch] w fun e w' => e = .returned (.tuple #[.agg #[.int .i64 W, .int .i64 H, .int .i64 X, .int .i64 Y, .int .i64 S, .slice A n c], .int .i64 cd]) ∧ Below w.heap.size w w')) :
    Calls Try.prog 41 #[.agg #[.int .i64 W, .int .i64 H, .int .i64 X, .int .i64 Y, .int .i64 S, .slice A n c], .agg #[.int .i64 3, .int .i64 x, .int .i64 y, .int .i64 cw, .int .i64 ch]] w fun e w' => e = .returned (.tuple #[.agg #[.int .i64 W, .int .i64 H, .int .i64 X, .int .i64 Y, .int .i64 S, .slice A n c], .int .i64 cd]) ∧ Below w.heap.size w w' := by
  have K := St.start w
  have HR := Lib.hid h
  have OQ := Lib.hid OP
  clear h OP
  go_enter Try.func41, Try.ntmps41
  go_wp2_with (first|((with_reducible refine at_load ?_);first|(refine wm_load (cs := ?_) (t := ?_) (n := ?_) K rfl _ _ rfl rfl ?_ ?_ ?_ ?_;rotate_left 2;(repeat (first|exact At.hd|refine At.tl ?_));rotate_left;(with_reducible first|exact row26);(exact rfl))|(refine wm_own (cs := ?_) (t := ?_) (v := ?_) K rfl _ _ rfl rfl ?_ ?_ ?_ ?_;rotate_left 2;(repeat (first|exact At.hd|refine At.tl ?_));rotate_left;(exact rfl);(with_reducible first|exact one3)))|((with_reducible refine at_store ?_);(first|(refine wm_store (L' := ?_) (cs := ?_) (t := ?_) (n := ?_) K rfl _ _ _ rfl rfl rfl rfl ?_ ?_ ?_ ?_ ?_ ?_;rotate_left 3;(repeat (exact Put.hd));rotate_left;(with_reducible first|exact row26);(exact rfl);(exact rfl);(simp [Ones, Value.oneCell'])));(try clear K);(try clear ww);intro ww K;(try simp [go_sem] at K))|((first|((with_reducible refine at_box ?_);refine wm_box K rfl _ _ rfl rfl rfl ?_)|((with_reducible refine at_alloc ?_);refine wm_alloc (v := ?_) (cs := ?_) K rfl _ rfl ?_ ?_ ?_;rotate_left;(with_reducible first|exact zero26);rotate_left;exact rfl));(try clear K);(try clear ww);(first|((fail_if_success (have _h := b2));intro b2 ww K)|((fail_if_success (have _h := b3));intro b3 ww K)|((fail_if_success (have _h := b4));intro b4 ww K));(try simp [go_sem, Value.cells] at K))|(go_at_call 85;(with_reducible refine (OQ.out _ (HR.out.below K.below)).mono ?_);rintro e w2 ⟨rfl, k1⟩;replace K := K.step k1;clear k1;(try clear ww);revert w2;intro ww K))
  refine bodyPost_ret (K.res2 (cs := ?_) (t := ?_) (n := ?_) rfl _ rfl ?_ ?_ ?_ rfl) rfl ?_
  rotate_left 2
  (repeat (first | exact At.hd | refine At.tl ?_))
  rotate_left
  (with_reducible first | exact row26)
  (solve | exact rfl | simp)
  exact ⟨rfl, K.below⟩
set_option maxRecDepth 100000 in
set_option maxHeartbeats 4000000 in
theorem Do19_keep (W H X Y S x y cw ch : Int) (A : Option Addr) (n c : Nat) (zs : List Int) (w : World) (h : Rd w A n (ints .i64 zs)) (hb : ∀ z ∈ zs, 0 ≤ z ∧ z ≤ 1073741824) (hn : n ≤ 5000) :
    Calls Try.prog 40 #[.agg #[.int .i64 W, .int .i64 H, .int .i64 X, .int .i64 Y, .int .i64 S, .slice A n c], .agg #[.int .i64 0, .int .i64 x, .int .i64 y, .int .i64 cw, .int .i64 ch]] w fun e w' => e = .returned (.tuple #[.agg #[.int .i64 W, .int .i64 H, .int .i64 X, .int .i64 Y, .int .i64 S, .slice A n c], .int .i64 (isum zs), .int .i64 (isum zs), .int .i64 0]) ∧ Below w.heap.size w w' := by
  have K := St.start w
  have HR := Lib.hid h
  have SM := Lib.hid (fun w h => Sum14 W H X Y S A n c zs w h (fun z hz => by have := hb z hz; omega) hn)
  generalize isum zs = s at *
  clear h hb hn
  go_enter Try.func40, Try.ntmps40
  go_wp2_with (first|((with_reducible refine at_load ?_);first|(refine wm_load (cs := ?_) (t := ?_) (n := ?_) K rfl _ _ rfl rfl ?_ ?_ ?_ ?_;rotate_left 2;(repeat (first|exact At.hd|refine At.tl ?_));rotate_left;(with_reducible first|exact row26);(exact rfl))|(refine wm_own (cs := ?_) (t := ?_) (v := ?_) K rfl _ _ rfl rfl ?_ ?_ ?_ ?_;rotate_left 2;(repeat (first|exact At.hd|refine At.tl ?_));rotate_left;(exact rfl);(with_reducible first|exact one3)))|((with_reducible refine at_store ?_);(first|(refine wm_store (L' := ?_) (cs := ?_) (t := ?_) (n := ?_) K rfl _ _ _ rfl rfl rfl rfl ?_ ?_ ?_ ?_ ?_ ?_;rotate_left 3;(repeat (exact Put.hd));rotate_left;(with_reducible first|exact row26);(exact rfl);(exact rfl);(simp [Ones, Value.oneCell'])));(try clear K);(try clear ww);intro ww K;(try simp [go_sem] at K))|((first|((with_reducible refine at_box ?_);refine wm_box K rfl _ _ rfl rfl rfl ?_)|((with_reducible refine at_alloc ?_);refine wm_alloc (v := ?_) (cs := ?_) K rfl _ rfl ?_ ?_ ?_;rotate_left;(with_reducible first|exact zero26);rotate_left;exact rfl));(try clear K);(try clear ww);(first|((fail_if_success (have _h := b2));intro b2 ww K)|((fail_if_success (have _h := b3));intro b3 ww K)|((fail_if_success (have _h := b4));intro b4 ww K)|((fail_if_success (have _h := b8));intro b8 ww K));(try simp [go_sem, Value.cells] at K)))
  refine wm_held _ [(true, 0), (true, 1), (true, 3), (false, 2), (false, 4), (false, 5), (true, 6), (true, 7), (true, 8)] K sbk1 (by kernel_rfl) (by kernel_rfl) ?_; (try clear K); (try clear ww); intro ww K; (try simp [go_sem] at K); simp only [pick, List.getElem?_toArray, List.getElem?_cons_succ, List.getElem?_cons_zero]
  repeat (first|(((with_reducible refine ht_load ?_);first|(refine hm_load (cs := ?_) (t := ?_) (n := ?_) rfl _ _ rfl rfl ?_ ?_ ?_ ?_;rotate_left 2;(repeat (first|exact At.hd|refine At.tl ?_));rotate_left;(with_reducible first|exact row26);(exact rfl)));(try simp only [Act.put]);(try go_simp))|(refine held_take (fun K' hK' => ?_);go_simp;first|(apply Exists.intro;refine ⟨?_, hK' _ ?_⟩;(intro _ _;rfl);clear hK' K'))|((with_reducible refine ht_store ?_);first|(refine hm_store (L' := ?_) (cs := ?_) (t := ?_) (n := ?_) K rfl _ _ _ rfl rfl rfl rfl ?_ ?_ ?_ ?_ ?_ ?_;rotate_left 3;(repeat (first|exact Put.hd|(refine Put.tl (L' := ?_) ?_;rotate_left)));rotate_left;(with_reducible first|exact row26);(exact rfl);(exact rfl);(simp [Ones, Value.oneCell']);(try clear K);(try clear ww);intro ww K;(try simp [go_sem] at K);refine ⟨(by apply via sbk1;first|exact K), ?_⟩))|(refine held_do (fun K' hK' => ?_);go_simp;go_at_call 62;(with_reducible refine (SM.out _ (HR.out.below K.below)).mono ?_);rintro e w2 ⟨rfl, k1⟩;replace K := K.step k1;clear k1;(try clear ww);revert w2;intro ww K;(try dsimp only);refine hK' _ _ (by apply via sbk1;first|exact K) ?_;clear hK' K'))
  refine held_nil ?_
  go_wp2_with (fail)
  refine bodyPost_ret (K.resD (cs := ?_) (t := ?_) (n := ?_) rfl _ rfl ?_ ?_ ?_ rfl rfl rfl) rfl ?_
  rotate_left 2
  (repeat (first | exact At.hd | refine At.tl ?_))
  rotate_left
  (with_reducible first | exact row26)
  (solve | exact rfl | simp)
  exact ⟨rfl, K.below⟩
set_option maxRecDepth 100000 in
set_option maxHeartbeats 4000000 in
theorem Do19_kind (k W H X Y S x y cw ch : Int) (A : Option Addr) (n c : Nat) (w : World) (k0 : k ≠ 0) (k1 : k ≠ 1) (k2 : k ≠ 2) (k3 : k ≠ 3) :
    Calls Try.prog 40 #[.agg #[.int .i64 W, .int .i64 H, .int .i64 X, .int .i64 Y, .int .i64 S, .slice A n c], .agg #[.int .i64 k, .int .i64 x, .int .i64 y, .int .i64 cw, .int .i64 ch]] w fun e w' => e = .returned (.tuple #[.agg #[.int .i64 W, .int .i64 H, .int .i64 X, .int .i64 Y, .int .i64 S, .slice A n c], .int .i64 0, .int .i64 0, .int .i64 13]) ∧ Below w.heap.size w w' := by
  have K := St.start w
  have t0 : (k == 0) = false := beq_eq_false_iff_ne.2 k0
  have t1 : (k == 1) = false := beq_eq_false_iff_ne.2 k1
  have t2 : (k == 2) = false := beq_eq_false_iff_ne.2 k2
  have t3 : (k == 3) = false := beq_eq_false_iff_ne.2 k3
  clear k0 k1 k2 k3
  go_enter Try.func40, Try.ntmps40
  go_wp2_with (first|((with_reducible refine at_load ?_);first|(refine wm_load (cs := ?_) (t := ?_) (n := ?_) K rfl _ _ rfl rfl ?_ ?_ ?_ ?_;rotate_left 2;(repeat (first|exact At.hd|refine At.tl ?_));rotate_left;(with_reducible first|exact row26);(exact rfl))|(refine wm_own (cs := ?_) (t := ?_) (v := ?_) K rfl _ _ rfl rfl ?_ ?_ ?_ ?_;rotate_left 2;(repeat (first|exact At.hd|refine At.tl ?_));rotate_left;(exact rfl);(with_reducible first|exact one3)))|((with_reducible refine at_store ?_);(first|(refine wm_store (L' := ?_) (cs := ?_) (t := ?_) (n := ?_) K rfl _ _ _ rfl rfl rfl rfl ?_ ?_ ?_ ?_ ?_ ?_;rotate_left 3;(repeat (first|exact Put.hd|(refine Put.tl (L' := ?_) ?_;rotate_left)));rotate_left;(with_reducible first|exact row26);(exact rfl);(exact rfl);(simp [Ones, Value.oneCell'])));(try clear K);(try clear ww);intro ww K;(try simp [go_sem] at K))|((first|((with_reducible refine at_box ?_);refine wm_box K rfl _ _ rfl rfl rfl ?_)|((with_reducible refine at_alloc ?_);refine wm_alloc (v := ?_) (cs := ?_) K rfl _ rfl ?_ ?_ ?_;rotate_left;(with_reducible first|exact zero26);rotate_left;exact rfl));(try clear K);(try clear ww);(first|((fail_if_success (have _h := b2));intro b2 ww K)|((fail_if_success (have _h := b3));intro b3 ww K)|((fail_if_success (have _h := b4));intro b4 ww K)|((fail_if_success (have _h := b8));intro b8 ww K));(try simp [go_sem, Value.cells] at K)))
  refine bodyPost_ret (K.resD (cs := ?_) (t := ?_) (n := ?_) rfl _ rfl ?_ ?_ ?_ rfl rfl rfl) rfl ?_
  rotate_left 2
  (repeat (first | exact At.hd | refine At.tl ?_))
  rotate_left
  (with_reducible first | exact row26)
  (solve | exact rfl | simp)
  exact ⟨rfl, K.below⟩
set_option maxRecDepth 100000 in
set_option maxHeartbeats 4000000 in
theorem Raw19_keep (W H X Y S x y cw ch : Int) (A : Option Addr) (n c : Nat) (w : World) :
    Calls Try.prog 41 #[.agg #[.int .i64 W, .int .i64 H, .int .i64 X, .int .i64 Y, .int .i64 S, .slice A n c], .agg #[.int .i64 0, .int .i64 x, .int .i64 y, .int .i64 cw, .int .i64 ch]] w fun e w' => e = .returned (.tuple #[.agg #[.int .i64 W, .int .i64 H, .int .i64 X, .int .i64 Y, .int .i64 S, .slice A n c], .int .i64 0]) ∧ Below w.heap.size w w' := by
  have K := St.start w
  go_enter Try.func41, Try.ntmps41
  go_wp2_with (first|((with_reducible refine at_load ?_);first|(refine wm_load (cs := ?_) (t := ?_) (n := ?_) K rfl _ _ rfl rfl ?_ ?_ ?_ ?_;rotate_left 2;(repeat (first|exact At.hd|refine At.tl ?_));rotate_left;(with_reducible first|exact row26);(exact rfl))|(refine wm_own (cs := ?_) (t := ?_) (v := ?_) K rfl _ _ rfl rfl ?_ ?_ ?_ ?_;rotate_left 2;(repeat (first|exact At.hd|refine At.tl ?_));rotate_left;(exact rfl);(with_reducible first|exact one3)))|((with_reducible refine at_store ?_);(first|(refine wm_store (L' := ?_) (cs := ?_) (t := ?_) (n := ?_) K rfl _ _ _ rfl rfl rfl rfl ?_ ?_ ?_ ?_ ?_ ?_;rotate_left 3;(repeat (exact Put.hd));rotate_left;(with_reducible first|exact row26);(exact rfl);(exact rfl);(simp [Ones, Value.oneCell'])));(try clear K);(try clear ww);intro ww K;(try simp [go_sem] at K))|((first|((with_reducible refine at_box ?_);refine wm_box K rfl _ _ rfl rfl rfl ?_)|((with_reducible refine at_alloc ?_);refine wm_alloc (v := ?_) (cs := ?_) K rfl _ rfl ?_ ?_ ?_;rotate_left;(with_reducible first|exact zero26);rotate_left;exact rfl));(try clear K);(try clear ww);(first|((fail_if_success (have _h := b2));intro b2 ww K)|((fail_if_success (have _h := b3));intro b3 ww K)|((fail_if_success (have _h := b4));intro b4 ww K));(try simp [go_sem, Value.cells] at K)))
  refine bodyPost_ret (K.res2 (cs := ?_) (t := ?_) (n := ?_) rfl _ rfl ?_ ?_ ?_ rfl) rfl ?_
  rotate_left 2
  (repeat (first | exact At.hd | refine At.tl ?_))
  rotate_left
  (with_reducible first | exact row26)
  (solve | exact rfl | simp)
  exact ⟨rfl, K.below⟩
set_option maxRecDepth 100000 in
set_option maxHeartbeats 4000000 in
theorem Raw19_kind (k W H X Y S x y cw ch : Int) (A : Option Addr) (n c : Nat) (w : World) (k0 : k ≠ 0) (k1 : k ≠ 1) (k2 : k ≠ 2) (k3 : k ≠ 3) :
    Calls Try.prog 41 #[.agg #[.int .i64 W, .int .i64 H, .int .i64 X, .int .i64 Y, .int .i64 S, .slice A n c], .agg #[.int .i64 k, .int .i64 x, .int .i64 y, .int .i64 cw, .int .i64 ch]] w fun e w' => e = .returned (.tuple #[.agg #[.int .i64 W, .int .i64 H, .int .i64 X, .int .i64 Y, .int .i64 S, .slice A n c], .int .i64 13]) ∧ Below w.heap.size w w' := by
  have K := St.start w
  have t0 : (k == 0) = false := beq_eq_false_iff_ne.2 k0
  have t1 : (k == 1) = false := beq_eq_false_iff_ne.2 k1
  have t2 : (k == 2) = false := beq_eq_false_iff_ne.2 k2
  have t3 : (k == 3) = false := beq_eq_false_iff_ne.2 k3
  clear k0 k1 k2 k3
  go_enter Try.func41, Try.ntmps41
  go_wp2_with (first|((with_reducible refine at_load ?_);first|(refine wm_load (cs := ?_) (t := ?_) (n := ?_) K rfl _ _ rfl rfl ?_ ?_ ?_ ?_;rotate_left 2;(repeat (first|exact At.hd|refine At.tl ?_));rotate_left;(with_reducible first|exact row26);(exact rfl))|(refine wm_own (cs := ?_) (t := ?_) (v := ?_) K rfl _ _ rfl rfl ?_ ?_ ?_ ?_;rotate_left 2;(repeat (first|exact At.hd|refine At.tl ?_));rotate_left;(exact rfl);(with_reducible first|exact one3)))|((with_reducible refine at_store ?_);(first|(refine wm_store (L' := ?_) (cs := ?_) (t := ?_) (n := ?_) K rfl _ _ _ rfl rfl rfl rfl ?_ ?_ ?_ ?_ ?_ ?_;rotate_left 3;(repeat (exact Put.hd));rotate_left;(with_reducible first|exact row26);(exact rfl);(exact rfl);(simp [Ones, Value.oneCell'])));(try clear K);(try clear ww);intro ww K;(try simp [go_sem] at K))|((first|((with_reducible refine at_box ?_);refine wm_box K rfl _ _ rfl rfl rfl ?_)|((with_reducible refine at_alloc ?_);refine wm_alloc (v := ?_) (cs := ?_) K rfl _ rfl ?_ ?_ ?_;rotate_left;(with_reducible first|exact zero26);rotate_left;exact rfl));(try clear K);(try clear ww);(first|((fail_if_success (have _h := b2));intro b2 ww K)|((fail_if_success (have _h := b3));intro b3 ww K)|((fail_if_success (have _h := b4));intro b4 ww K));(try simp [go_sem, Value.cells] at K)))
  refine bodyPost_ret (K.res2 (cs := ?_) (t := ?_) (n := ?_) rfl _ rfl ?_ ?_ ?_ rfl) rfl ?_
  rotate_left 2
  (repeat (first | exact At.hd | refine At.tl ?_))
  rotate_left
  (with_reducible first | exact row26)
  (solve | exact rfl | simp)
  exact ⟨rfl, K.below⟩
end Go.Proofs.Ytpejoaefnnbghaa
namespace Go.Proofs.Ytpejoaefnnbghaa
open Go.RowKit
attribute [local irreducible] wpHeld wpTree wpList
set_option linter.unusedVariables false
set_option linter.unusedSimpArgs false
set_option maxRecDepth 100000 in
set_option maxHeartbeats 2000000 in
theorem Choose19_bad (W H X Y S cd : Int) (A : Option Addr) (n c : Nat) (zs : List Int) (w : World) (h : Rd w A n (ints .i64 zs)) (hn : n ≤ 5000) (hc : chk14 W H S zs = cd) (hcd : cd ≠ 0) :
    Calls Try.prog 35 #[.agg #[.int .i64 W, .int .i64 H, .int .i64 X, .int .i64 Y, .int .i64 S, .slice A n c]] w fun e w' => e = .returned (stepV 0 0 0 0 0) ∧ Below w.heap.size w w' := by
  have K := St.start w
  unfold stepV
  have HR := Lib.hid h
  have CH := Lib.hid (fun w h => GChk14 W H X Y S A n c zs w h hn)
  rw [hc] at CH
  clear hc h hn
  go_enter Try.func35, Try.ntmps35
  go_wp2_with (first|((with_reducible refine at_load ?_);first|(refine wm_load (cs := ?_) (t := ?_) (n := ?_) K rfl _ _ rfl rfl ?_ ?_ ?_ ?_;rotate_left 2;(repeat (first|exact At.hd|refine At.tl ?_));rotate_left;(with_reducible first|exact row26);(exact rfl)))|((with_reducible refine at_store ?_);(first|(refine wm_store (L' := ?_) (cs := ?_) (t := ?_) (n := ?_) K rfl _ _ _ rfl rfl rfl rfl ?_ ?_ ?_ ?_ ?_ ?_;rotate_left 3;(repeat (exact Put.hd));rotate_left;(with_reducible first|exact row56);(exact rfl);(exact rfl);(simp [Ones, Value.oneCell'])));(try clear K);(try clear ww);intro ww K;(try simp [go_sem] at K))|((first|((with_reducible refine at_box ?_);refine wm_box K rfl _ _ rfl rfl rfl ?_)|((with_reducible refine at_alloc ?_);refine wm_alloc (v := ?_) (cs := ?_) K rfl _ rfl ?_ ?_ ?_;rotate_left;(with_reducible first|exact zero56);rotate_left;exact rfl));(try clear K);(try clear ww);(first|((fail_if_success (have _h := b1));intro b1 ww K)|((fail_if_success (have _h := b2));intro b2 ww K));(try simp [go_sem, Value.cells] at K))|(go_at_call 37;(with_reducible refine (CH.out _ (HR.out.below K.below)).mono ?_);rintro e w2 ⟨rfl, k1⟩;replace K := K.step k1;clear k1;(try clear ww);revert w2;intro ww K))
  refine bodyPost_ret (K.res (cs := ?_) (t := ?_) (n := ?_) rfl _ rfl ?_ ?_ ?_) rfl ?_;rotate_left 2;(repeat (exact At.hd));rotate_left;(with_reducible first|exact row56);(exact rfl)
  exact ⟨rfl, K.below⟩
set_option maxRecDepth 100000 in
set_option maxHeartbeats 2000000 in
theorem own19 (k x y a b : Int) (w : World) :
    Calls Try.prog 34 #[stepV k x y a b] w fun e w' => e = .returned (stepV k x y a b) ∧ Below w.heap.size w w' := by
  have K := St.start w
  unfold stepV
  go_enter Try.func34, Try.ntmps34
  go_wp2_with (first|((with_reducible refine at_load ?_);first|(refine wm_own (cs := ?_) (t := ?_) (v := ?_) K rfl _ _ rfl rfl ?_ ?_ ?_ ?_;rotate_left 2;(repeat (first|exact At.hd|refine At.tl ?_));rotate_left;(exact rfl);(with_reducible first|exact one3)))|((with_reducible refine at_store ?_);(first|(refine wm_store (L' := ?_) (cs := ?_) (t := ?_) (n := ?_) K rfl _ _ _ rfl rfl rfl rfl ?_ ?_ ?_ ?_ ?_ ?_;rotate_left 3;(repeat (exact Put.hd));rotate_left;(with_reducible first|exact row54);(exact rfl);(exact rfl);(simp [Ones, Value.oneCell'])));(try clear K);(try clear ww);intro ww K;(try simp [go_sem] at K))|((first|((with_reducible refine at_box ?_);refine wm_box K rfl _ _ rfl rfl rfl ?_)|((with_reducible refine at_alloc ?_);refine wm_alloc (v := ?_) (cs := ?_) K rfl _ rfl ?_ ?_ ?_;rotate_left;(with_reducible first|exact zero54);rotate_left;exact rfl));(try clear K);(try clear ww);(first|((fail_if_success (have _h := b1));intro b1 ww K)|((fail_if_success (have _h := b2));intro b2 ww K));(try simp [go_sem, Value.cells] at K)))
  refine bodyPost_ret (K.res (cs := ?_) (t := ?_) (n := ?_) rfl _ rfl ?_ ?_ ?_) rfl ?_;rotate_left 2;(repeat (exact At.hd));rotate_left;(with_reducible first|exact row54);(exact rfl)
  exact ⟨rfl, K.below⟩
theorem guardStep (x y : Operand) (xs ys : Array Value) (w : World) : (eqGuard .eql 56 x y (.agg xs) (.agg ys)).run Try.prog w = .ok () w :=
  run_eqGuard_agg w .eql 56 x y xs ys (by kernel_rfl)
theorem eqStep (a1 a2 a3 a4 a5 b1 b2 b3 b4 b5 : Int) (w : World) : (Op.equalIn 10000 56 (.agg #[.int .i64 a1, .int .i64 a2, .int .i64 a3, .int .i64 a4, .int .i64 a5]) (.agg #[.int .i64 b1, .int .i64 b2, .int .i64 b3, .int .i64 b4, .int .i64 b5])).run Try.prog w = .ok (sameL [.int .i64 a1, .int .i64 a2, .int .i64 a3, .int .i64 a4, .int .i64 a5] [.int .i64 b1, .int .i64 b2, .int .i64 b3, .int .i64 b4, .int .i64 b5]) w :=
  equal_flat [some .i64, some .i64, some .i64, some .i64, some .i64] (by kernel_rfl) (by kernel_rfl) (by kernel_rfl) [.int .i64 a1, .int .i64 a2, .int .i64 a3, .int .i64 a4, .int .i64 a5] [.int .i64 b1, .int .i64 b2, .int .i64 b3, .int .i64 b4, .int .i64 b5] ⟨⟨_, rfl⟩, ⟨_, rfl⟩, ⟨_, rfl⟩, ⟨_, rfl⟩, ⟨_, rfl⟩, trivial⟩ ⟨⟨_, rfl⟩, ⟨_, rfl⟩, ⟨_, rfl⟩, ⟨_, rfl⟩, ⟨_, rfl⟩, trivial⟩ w
theorem choV_step (p q : Nat) (S : Int) (zs : List Int) : ∃ k x y a b, choV p q S zs = stepV k x y a b := by
  unfold choV chV
  split
  · exact ⟨_, _, _, _, _, rfl⟩
  · split
    · exact ⟨_, _, _, _, _, rfl⟩
    · split
      · exact ⟨_, _, _, _, _, rfl⟩
      · exact ⟨_, _, _, _, _, rfl⟩
end Go.Proofs.Ytpejoaefnnbghaa
namespace Go.Proofs.Ytpejoaefnnbghaa
open Go.RowKit
attribute [local irreducible] wpHeld wpTree wpList
set_option linter.unusedVariables false
set_option linter.unusedSimpArgs false
theorem join_bd {p q m q1 n4 : Nat} {S : Int} {zs : List Int} (R : Right14 p q S zs) (hp : p = 2 * m) (hq : q = 2 * q1) (hm : 0 < m) (hn : m * q1 = n4) : (∀ z ∈ join14 p m zs n4, 0 ≤ z ∧ z ≤ 1073741824) ∧ isum (join14 p m zs n4) = isum zs := by
  have hlen : zs.length = 2 * m * (2 * q1) := by
    have := R.len
    rw [hp, hq, ← Int.natCast_mul] at this
    omega
  have hs : isum (join14 p m zs n4) = isum zs := by rw [hp]; exact join_sum hm hn hlen
  have h0 : ∀ z ∈ join14 p m zs n4, 0 ≤ z := gen_mem fun i _ => by
    have key : ∀ j, 0 ≤ zs.getD j 0 := fun j => by
      by_cases hj : j < zs.length
      · exact (R.nums _ (getD_mem hj)).1
      · rw [List.getD, List.getElem?_eq_none (by omega)]; simp
    unfold joinv
    have a1 := key (base14 p m i)
    have a2 := key (base14 p m i + 1)
    have a3 := key (base14 p m i + p)
    have a4 := key (base14 p m i + p + 1)
    omega
  exact ⟨fun z hz => ⟨h0 z hz, by have := isum_mem h0 hz; have := R.top; omega⟩, hs⟩
def NextG (M : Int) (s : Nat) (W2 H2 X2 Y2 S2 : Int) (A2 : Option Addr) (n2 : Nat) (cd : Int) (w' : World) : Prop :=
  cd = 0 → ∃ (p2 q2 : Nat) (z2 : List Int), W2 = p2 ∧ H2 = q2 ∧ Right14 p2 q2 S2 z2 ∧ z2.length = n2 ∧ Rd w' A2 n2 (ints .i64 z2) ∧ Nw s A2 ∧ (-(M + 1048576) ≤ X2 ∧ X2 ≤ M + 1048576) ∧ (-(M + 1048576) ≤ Y2 ∧ Y2 ≤ M + 1048576)
theorem Next19_Split (p q n : Nat) (X Y S M : Int) (A : Option Addr) (c : Nat) (zs : List Int) (w : World) (R : Right14 p q S zs) (hl : zs.length = n) (h : Rd w A n (ints .i64 zs)) (hM : 0 ≤ M ∧ M ≤ 1000000000000) (hX : -M ≤ X ∧ X ≤ M) (hY : -M ≤ Y ∧ Y ≤ M) (x y a b : Int) :
    Calls Try.prog 40 #[.agg #[.int .i64 p, .int .i64 q, .int .i64 X, .int .i64 Y, .int .i64 S, .slice A n c], .agg #[.int .i64 1, .int .i64 x, .int .i64 y, .int .i64 a, .int .i64 b]] w fun e w' => ∃ (W2 H2 X2 Y2 S2 : Int) (A2 : Option Addr) (n2 c2 : Nat) (s1 s2 cd : Int), e = .returned (.tuple #[.agg #[.int .i64 W2, .int .i64 H2, .int .i64 X2, .int .i64 Y2, .int .i64 S2, .slice A2 n2 c2], .int .i64 s1, .int .i64 s2, .int .i64 cd]) ∧ NextG M w.heap.size W2 H2 X2 Y2 S2 A2 n2 cd w' ∧ Below w.heap.size w w' := by
  have G := R.gr rfl rfl
  have hlen := G.len
  rw [hl] at hlen
  have s0 := R.s0
  have s1 := R.s1
  have p1 := G.w0
  have p2 := G.w1
  have q1 := G.h0
  have q2 := G.h1
  have hn5 := G.n2
  rw [hl] at hn5
  cases hs : splok p q S
  · refine (Do19_Split_bad p q X Y S x y a b 12 A n c zs w h (by decide) (fun w hw => GSplit14_bad p q X Y S A n c w (by omega) (by omega) (by omega) hs)).mono ?_
    rintro e w' ⟨rfl, hb⟩
    exact ⟨_, _, _, _, _, _, _, _, _, _, _, rfl, fun e => absurd e (by decide), hb⟩
  · obtain ⟨h1, h2, h3, h4⟩ := splok_iff.1 hs
    have hwx : wrap64 (X - S / 4) = X - S / 4 := (wrapI (b := X - S / 4) rfl (by omega) (by omega)).1
    have hwy : wrap64 (Y - S / 4) = Y - S / 4 := (wrapI (b := Y - S / 4) rfl (by omega) (by omega)).1
    have hp4 : 4 * n ≤ 5000 := by
      have := Nat.mul_le_mul (show p ≤ 32 by omega) (show q ≤ 32 by omega)
      omega
    have hb2 : ∀ z ∈ split14 p zs (4 * n), 0 ≤ z ∧ z ≤ 1073741824 := gen_mem fun i _ => splitv_bd G.nums i
    by_cases hz : 0 < isum (split14 p zs (4 * n))
    · refine (Do19_Split p q X Y S x y a b A n c zs w h G.nums (by omega) (2 * p : Nat) (2 * q : Nat) (X - S / 4) (Y - S / 4) (S / 2) (4 * n) (split14 p zs (4 * n)) hb2 (by exact hp4) hz (fun w hw => GSplitX14 X Y S _ _ p q A n c (4 * n) zs w hw G.nums (by rw [← hlen]) (by omega) (by omega) hwx hwy (by omega) h4 rfl)).mono ?_
      rintro e w' ⟨A3, c3, rfl, ⟨h3, hA⟩, hb⟩
      refine ⟨_, _, _, _, _, _, _, _, _, _, _, rfl, fun _ => ⟨_, _, _, rfl, rfl, norm_right (l := split14 p zs (4 * n)) (by omega) (by omega) (by omega) ?_ (fun z hz => (hb2 z hz).1) hz, ?_, h3, hA, ?_, ?_⟩, hb⟩
      · rw [split14, gen_len]
        have e : 2 * p * (2 * q) = 4 * (p * q) := by rw [Nat.mul_mul_mul_comm]
        rw [← Int.natCast_mul, e, hlen]
      · rw [norm_len, split14, gen_len]
      · omega
      · omega
    · refine (Do19_Split_none p q X Y S x y a b A n c zs w h G.nums (by omega) (2 * p : Nat) (2 * q : Nat) (X - S / 4) (Y - S / 4) (S / 2) (4 * n) (split14 p zs (4 * n)) hb2 (by exact hp4) (by omega) (fun w hw => GSplitX14 X Y S _ _ p q A n c (4 * n) zs w hw G.nums (by rw [← hlen]) (by omega) (by omega) hwx hwy (by omega) h4 rfl)).mono ?_
      rintro e w' ⟨rfl, hb⟩
      exact ⟨_, _, _, _, _, _, _, _, _, _, _, rfl, fun e => absurd e (by decide), hb⟩
theorem Next19_Join (p q n : Nat) (X Y S M : Int) (A : Option Addr) (c : Nat) (zs : List Int) (w : World) (R : Right14 p q S zs) (hl : zs.length = n) (h : Rd w A n (ints .i64 zs)) (hM : 0 ≤ M ∧ M ≤ 1000000000000) (hX : -M ≤ X ∧ X ≤ M) (hY : -M ≤ Y ∧ Y ≤ M) (x y a b : Int) :
    Calls Try.prog 40 #[.agg #[.int .i64 p, .int .i64 q, .int .i64 X, .int .i64 Y, .int .i64 S, .slice A n c], .agg #[.int .i64 2, .int .i64 x, .int .i64 y, .int .i64 a, .int .i64 b]] w fun e w' => ∃ (W2 H2 X2 Y2 S2 : Int) (A2 : Option Addr) (n2 c2 : Nat) (s1 s2 cd : Int), e = .returned (.tuple #[.agg #[.int .i64 W2, .int .i64 H2, .int .i64 X2, .int .i64 Y2, .int .i64 S2, .slice A2 n2 c2], .int .i64 s1, .int .i64 s2, .int .i64 cd]) ∧ NextG M w.heap.size W2 H2 X2 Y2 S2 A2 n2 cd w' ∧ Below w.heap.size w w' := by
  have G := R.gr rfl rfl
  have hlen := G.len
  rw [hl] at hlen
  have s0 := R.s0
  have s1 := R.s1
  have p1 := G.w0
  have p2 := G.w1
  have q1 := G.h0
  have q2 := G.h1
  have hn5 := G.n2
  rw [hl] at hn5
  cases hs : joinok p q S
  · refine (Do19_Join_bad p q X Y S x y a b 12 A n c zs w h (by decide) (fun w hw => GJoin14_bad p q X Y S A n c w (by omega) (by omega) (by omega) hs)).mono ?_
    rintro e w' ⟨rfl, hb⟩
    exact ⟨_, _, _, _, _, _, _, _, _, _, _, rfl, fun e => absurd e (by decide), hb⟩
  · obtain ⟨h1, h2, h3⟩ := joinok_iff.1 hs
    have hwx : wrap64 (X + S / 2) = X + S / 2 := (wrapI (b := X + S / 2) rfl (by omega) (by omega)).1
    have hwy : wrap64 (Y + S / 2) = Y + S / 2 := (wrapI (b := Y + S / 2) rfl (by omega) (by omega)).1
    have hp4 : p / 2 * (q / 2) ≤ 5000 := by
      have := Nat.mul_le_mul (show p / 2 ≤ 32 by omega) (show q / 2 ≤ 32 by omega)
      omega
    have hb2 : ∀ z ∈ join14 p (p / 2) zs (p / 2 * (q / 2)), 0 ≤ z ∧ z ≤ 1073741824 := (join_bd R (q1 := q / 2) (by omega) (by omega) (by omega) rfl).1
    by_cases hz : 0 < isum (join14 p (p / 2) zs (p / 2 * (q / 2)))
    · refine (Do19_Join p q X Y S x y a b A n c zs w h G.nums (by omega) (p / 2 : Nat) (q / 2 : Nat) (X + S / 2) (Y + S / 2) (2 * S) (p / 2 * (q / 2)) (join14 p (p / 2) zs (p / 2 * (q / 2))) hb2 (by exact hp4) hz (fun w hw => GJoinX14 X Y S _ _ p q (p / 2) (q / 2) A n c (p / 2 * (q / 2)) zs w hw G.nums (by rw [← hlen]) (by omega) (by omega) (by omega) (by omega) hwx hwy (by omega) rfl)).mono ?_
      rintro e w' ⟨A3, c3, rfl, ⟨h3, hA⟩, hb⟩
      refine ⟨_, _, _, _, _, _, _, _, _, _, _, rfl, fun _ => ⟨_, _, _, rfl, rfl, norm_right (l := join14 p (p / 2) zs (p / 2 * (q / 2))) (by omega) (by omega) (by omega) ?_ (fun z hz => (hb2 z hz).1) hz, ?_, h3, hA, ?_, ?_⟩, hb⟩
      · rw [join14, gen_len]
        rw [← Int.natCast_mul]
      · rw [norm_len, join14, gen_len]
      · omega
      · omega
    · refine (Do19_Join_none p q X Y S x y a b A n c zs w h G.nums (by omega) (p / 2 : Nat) (q / 2 : Nat) (X + S / 2) (Y + S / 2) (2 * S) (p / 2 * (q / 2)) (join14 p (p / 2) zs (p / 2 * (q / 2))) hb2 (by exact hp4) (by omega) (fun w hw => GJoinX14 X Y S _ _ p q (p / 2) (q / 2) A n c (p / 2 * (q / 2)) zs w hw G.nums (by rw [← hlen]) (by omega) (by omega) (by omega) (by omega) hwx hwy (by omega) rfl)).mono ?_
      rintro e w' ⟨rfl, hb⟩
      exact ⟨_, _, _, _, _, _, _, _, _, _, _, rfl, fun e => absurd e (by decide), hb⟩
theorem Next19_Cut (p q n : Nat) (X Y S M : Int) (A : Option Addr) (c : Nat) (zs : List Int) (w : World) (R : Right14 p q S zs) (hl : zs.length = n) (h : Rd w A n (ints .i64 zs)) (hM : 0 ≤ M ∧ M ≤ 1000000000000) (hX : -M ≤ X ∧ X ≤ M) (hY : -M ≤ Y ∧ Y ≤ M) (x y a b : Int) :
    Calls Try.prog 40 #[.agg #[.int .i64 p, .int .i64 q, .int .i64 X, .int .i64 Y, .int .i64 S, .slice A n c], .agg #[.int .i64 3, .int .i64 x, .int .i64 y, .int .i64 a, .int .i64 b]] w fun e w' => ∃ (W2 H2 X2 Y2 S2 : Int) (A2 : Option Addr) (n2 c2 : Nat) (s1 s2 cd : Int), e = .returned (.tuple #[.agg #[.int .i64 W2, .int .i64 H2, .int .i64 X2, .int .i64 Y2, .int .i64 S2, .slice A2 n2 c2], .int .i64 s1, .int .i64 s2, .int .i64 cd]) ∧ NextG M w.heap.size W2 H2 X2 Y2 S2 A2 n2 cd w' ∧ Below w.heap.size w w' := by
  have G := R.gr rfl rfl
  have hlen := G.len
  rw [hl] at hlen
  have s0 := R.s0
  have s1 := R.s1
  have p1 := G.w0
  have p2 := G.w1
  have q1 := G.h0
  have q2 := G.h1
  have hn5 := G.n2
  rw [hl] at hn5
  cases hs : cutok x y a b
  · refine (Do19_Cut_bad p q X Y S x y a b 2 A n c zs w h (by decide) (fun w hw => GCut14_bad p q X Y S x y a b A n c w hs)).mono ?_
    rintro e w' ⟨rfl, hb⟩
    exact ⟨_, _, _, _, _, _, _, _, _, _, _, rfl, fun e => absurd e (by decide), hb⟩
  · obtain ⟨⟨h1, h2⟩, ⟨h3, h4⟩, ⟨h5, h6⟩, h7, h8⟩ := cutok_iff.1 hs
    obtain ⟨m, hm⟩ : ∃ m : Nat, a * b = m := ⟨(a * b).toNat, by have := Int.mul_nonneg (show 0 ≤ a by omega) (show 0 ≤ b by omega); omega⟩
    have hp4 : m ≤ 5000 := by
      have e1 := Int.mul_le_mul_of_nonneg_right h2 (show 0 ≤ b by omega)
      omega
    have mul : ∀ v : Int, -64 ≤ v → v ≤ 64 → -262144 ≤ v * S ∧ v * S ≤ 262144 := fun v v1 v2 => by
      have e1 := Int.mul_le_mul_of_nonneg_right v2 (show 0 ≤ S by omega)
      have e2 := Int.mul_le_mul_of_nonneg_right v1 (show 0 ≤ S by omega)
      omega
    have mx := mul x h5 h6
    have my := mul y h7 h8
    have hb2 : ∀ z ∈ cut14 p q zs x y a m, 0 ≤ z ∧ z ≤ 1073741824 := gen_mem fun i _ => cutv_bd G.nums i
    by_cases hz : 0 < isum (cut14 p q zs x y a m)
    · refine (Do19_Cut p q X Y S x y a b A n c zs w h G.nums (by omega) a b (X + x * S) (Y + y * S) S m (cut14 p q zs x y a m) hb2 (by exact hp4) hz (fun w hw => GCut14 p q X Y S x y a b A n c m zs w hw (by rw [hlen, Int.natCast_mul]) (by omega) (by omega) (by omega) (by omega) hs hm)).mono ?_
      rintro e w' ⟨A3, c3, rfl, ⟨h3, hA⟩, hb⟩
      refine ⟨_, _, _, _, _, _, _, _, _, _, _, rfl, fun _ => ⟨a.toNat, b.toNat, _, (by omega), (by omega), (by rw [Int.toNat_of_nonneg (by omega), Int.toNat_of_nonneg (by omega)]; exact norm_right (l := cut14 p q zs x y a m) (by omega) (by omega) (by omega) (by rw [cut14, gen_len]; exact hm.symm) (fun z hz => (hb2 z hz).1) hz), ?_, h3, hA, ?_, ?_⟩, hb⟩
      · rw [norm_len, cut14, gen_len]
      · omega
      · omega
    · refine (Do19_Cut_none p q X Y S x y a b A n c zs w h G.nums (by omega) a b (X + x * S) (Y + y * S) S m (cut14 p q zs x y a m) hb2 (by exact hp4) (by omega) (fun w hw => GCut14 p q X Y S x y a b A n c m zs w hw (by rw [hlen, Int.natCast_mul]) (by omega) (by omega) (by omega) (by omega) hs hm)).mono ?_
      rintro e w' ⟨rfl, hb⟩
      exact ⟨_, _, _, _, _, _, _, _, _, _, _, rfl, fun e => absurd e (by decide), hb⟩
theorem chV_kind {c1 jo c2 so c3 : Bool} {x y a b k X Y A B : Int} (h : chV c1 jo c2 so c3 (stepV 3 x y a b) = stepV k X Y A B) : k = 0 ∨ k = 1 ∨ k = 2 ∨ k = 3 := by
  unfold chV at h
  split at h
  · injection h with h; injection h with h; injection h with h h2; injection h with h3 h4; exact .inr (.inr (.inl h4.symm))
  · split at h
    · injection h with h; injection h with h; injection h with h h2; injection h with h3 h4; exact .inr (.inl h4.symm)
    · split at h
      · injection h with h; injection h with h; injection h with h h2; injection h with h3 h4; exact .inr (.inr (.inr h4.symm))
      · injection h with h; injection h with h; injection h with h h2; injection h with h3 h4; exact .inl h4.symm
theorem Next19 (p q n : Nat) (X Y S M : Int) (A : Option Addr) (c : Nat) (zs : List Int) (w : World) (R : Right14 p q S zs) (hl : zs.length = n) (h : Rd w A n (ints .i64 zs)) (hM : 0 ≤ M ∧ M ≤ 1000000000000) (hX : -M ≤ X ∧ X ≤ M) (hY : -M ≤ Y ∧ Y ≤ M) (k x y a b : Int) (hv : choV p q S zs = stepV k x y a b) (hk : k ≠ 0) :
    Calls Try.prog 40 #[.agg #[.int .i64 p, .int .i64 q, .int .i64 X, .int .i64 Y, .int .i64 S, .slice A n c], .agg #[.int .i64 k, .int .i64 x, .int .i64 y, .int .i64 a, .int .i64 b]] w fun e w' => ∃ (W2 H2 X2 Y2 S2 : Int) (A2 : Option Addr) (n2 c2 : Nat) (s1 s2 cd : Int), e = .returned (.tuple #[.agg #[.int .i64 W2, .int .i64 H2, .int .i64 X2, .int .i64 Y2, .int .i64 S2, .slice A2 n2 c2], .int .i64 s1, .int .i64 s2, .int .i64 cd]) ∧ NextG M w.heap.size W2 H2 X2 Y2 S2 A2 n2 cd w' ∧ Below w.heap.size w w' := by
  rcases chV_kind hv with rfl | rfl | rfl | rfl
  · exact absurd rfl hk
  · exact Next19_Split p q n X Y S M A c zs w R hl h hM hX hY x y a b
  · exact Next19_Join p q n X Y S M A c zs w R hl h hM hX hY x y a b
  · exact Next19_Cut p q n X Y S M A c zs w R hl h hM hX hY x y a b
end Go.Proofs.Ytpejoaefnnbghaa
namespace Go.Proofs.Ytpejoaefnnbghaa
open Go.RowKit
attribute [local irreducible] wpHeld wpTree wpList
attribute [local go_sem] Oper.semAt_some
set_option linter.unusedVariables false
set_option linter.unusedSimpArgs false
set_option maxRecDepth 100000 in
theorem All19 {B : Nat} {w0 w : World} {F : World → Prop} {L : List Blk} (K : St B w0 L F w) (W H X Y S : Int) (A : Option Addr) (n c : Nat) :
    Calls Try.prog 72 #[.agg #[.int .i64 W, .int .i64 H, .int .i64 X, .int .i64 Y, .int .i64 S, .slice A n c]] w fun e w' => ∃ b, e = .returned (.func (.func 109) #[] #[.pointer (some ⟨b, 0, none⟩)]) ∧ St B w0 ((b, #[.int .i64 W, .int .i64 H, .int .i64 X, .int .i64 Y, .int .i64 S, .slice A n c], 26) :: L) F w' := by
  revert w
  intro ww K
  go_enter Try.func72, Try.ntmps72
  go_wp2_with (first|((first|((with_reducible refine at_box ?_);refine wm_box K rfl _ _ rfl rfl rfl ?_));(try clear K);(try clear ww);((fail_if_success (have _h := bb));intro bb ww K);(try simp [go_sem, Value.cells] at K)))
  go_ret
  exact ⟨bb, rfl, K⟩
end Go.Proofs.Ytpejoaefnnbghaa
