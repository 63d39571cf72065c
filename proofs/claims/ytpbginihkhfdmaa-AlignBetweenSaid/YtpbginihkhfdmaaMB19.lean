/-
  Lemmas and walks of this claim (the texts Rg35 Sa35 Wk35 of the work; what no proof here uses is left out). No claim of their own.
-/
import Derived.Test.YtpbginihkhfdmaaMB16
import Derived.Test.YtpbginihkhfdmaaMB18
set_option linter.all false
set_option linter.unusedSimpArgs false
set_option linter.unusedVariables false
namespace Go.Proofs.Ytpbginihkhfdmaa
open Go.RowKit
attribute [local irreducible] wpHeld wpTree wpList
set_option linter.unusedVariables false
set_option maxRecDepth 100000 in
theorem own35 (T X : Int) (w : World) :
    Calls Try.prog 11 #[.agg #[.int .u32 T, .int .i64 X]] w fun e w' => e = .returned (.agg #[.int .u32 T, .int .i64 X]) ∧ Below w.heap.size w w' := by
  have K := St.start w
  go_enter Try.func11, Try.ntmps11
  go_wp2_with (first|go_big_skip|((with_reducible refine at_load ?_);first|(refine wm_load (cs := ?_) (t := ?_) (n := ?_) K rfl _ _ rfl rfl ?_ ?_ ?_ ?_;rotate_left 2;(repeat (first|exact At.hd|refine At.tl ?_));rotate_left;(with_reducible first|exact row35);(solve|exact rfl|simp))|(refine wm_own (cs := ?_) (t := ?_) (v := ?_) K rfl _ _ rfl rfl ?_ ?_ ?_ ?_;rotate_left 2;(repeat (first|exact At.hd|refine At.tl ?_));rotate_left;(first|exact rfl|assumption);(with_reducible first|exact one2|exact one22))|(refine wm_cell (v := ?_) rfl _ _ rfl rfl ?_ ?_ ?_;rotate_left;(first|assumption|exact (K.below.cell (by assumption)).trans (by assumption));(with_reducible first|exact one2|exact one22)))|((with_reducible refine at_store ?_);(first|(refine wm_store (L' := ?_) (cs := ?_) (t := ?_) (n := ?_) K rfl _ _ _ rfl rfl rfl rfl ?_ ?_ ?_ ?_ ?_ ?_;rotate_left 3;(repeat (first|exact Put.hd|(refine Put.tl (L' := ?_) ?_;rotate_left)));rotate_left;(with_reducible first|exact row35);(solve|exact rfl|simp);(solve|exact rfl|simp);(solve|exact rfl|simp [Ones, Value.oneCell']))|(refine wm_put (L' := ?_) (cs := ?_) (new := ?_) (t := ?_) K rfl _ _ _ rfl rfl rfl rfl ?_ ?_ ?_ ?_ rfl rfl ?_;rotate_left 4;(repeat (first|exact Put.hd|(refine Put.tl (L' := ?_) ?_;rotate_left)));(solve|exact Nat.le_of_ble_eq_true rfl|decide|(simp only [List.size_toArray, nums_length];first|assumption|omega)|(simp only [List.size_toArray, nums_length, List.length_set];first|assumption|omega)|simp|omega|(simp only [List.size_toArray, nums_length];omega)|assumption);(solve|(simp only [List.setIfInBounds_toArray];exact rfl)|exact nums_set _ _ _ _|simp only [List.setIfInBounds_toArray, List.set_cons_zero]|simp only [List.setIfInBounds_toArray, List.set_cons_zero, List.set_cons_succ]|(simp only [List.setIfInBounds_toArray, List.set_cons_zero, List.set_cons_succ];exact rfl)|exact rfl);(with_reducible first|exact one2|exact one22)));(try clear K);(try clear ww);intro ww K;(try simp [go_sem] at K))|((first|((with_reducible refine at_box ?_);refine wm_box K rfl _ _ rfl rfl rfl ?_)|((with_reducible refine at_alloc ?_);refine wm_alloc (v := ?_) (cs := ?_) K rfl _ rfl ?_ ?_ ?_;rotate_left;(with_reducible first|exact zero35);rotate_left;exact rfl));(try clear K);(try clear ww);(first|((fail_if_success (have _h := b1));intro b1 ww K)|((fail_if_success (have _h := b2));intro b2 ww K));(try simp [go_sem, Value.cells] at K)))
  refine bodyPost_ret (K.res rfl _ rfl At.hd (by (with_reducible first | exact row35)) (by (solve | exact rfl | simp))) rfl ?_
  exact ⟨rfl, K.below⟩
end Go.Proofs.Ytpbginihkhfdmaa
namespace Go.Proofs.Ytpbginihkhfdmaa
open Go.RowKit
attribute [local irreducible] wpHeld wpTree wpList
set_option linter.unusedVariables false
def mk35 (ps : List Pt) : Nat → List Pt
  | 0 => []
  | k + 1 => add35 (mk35 ps k) (ptAt ps k)
theorem mk_rise {ps : List Pt} (h : ∀ i, i < ps.length → 0 ≤ (ptAt ps i).1 ∧ (ptAt ps i).1 < 4294967296) : ∀ k, k ≤ ps.length → Rise (mk35 ps k)
  | 0, _ => Rise.nil
  | k + 1, hk => by
    have := mk_rise h k (by omega)
    have h1 := h k (by omega)
    exact this.add h1.1 h1.2
section
variable {B : Nat} {w0 w w' : World} {L : List Blk} {F : World → Prop}
theorem St.radd {A : Option Addr} {n c : Nat} {ps : List Pt} (K : St B w0 L F w) (hF : ∀ w, F w → Rd w A (n * 2) (ptsV ps)) (hn : n ≤ 16) (T X : Int) :
    Calls Try.prog 9 #[.slice A n c, .agg #[.int .u32 T, .int .i64 X]] w fun e w' => ∃ (A' : Option Addr) (n' c' : Nat), e = .returned (.tuple #[.slice A' n' c', .bool (may35 ps (T, X))]) ∧ n' = (add35 ps (T, X)).length ∧ (A' = A ∨ Nw B A') ∧ St B w0 L (fun w => Rd w A' (n' * 2) (ptsV (add35 ps (T, X))) ∧ F w) w' := by
  refine (RAdd35 A n c ps T X w (hF _ K.fact) hn).mono ?_
  rintro e w' ⟨A', n', c', rfl, hl, ⟨h1, hA⟩, hb⟩
  refine ⟨A', n', c', rfl, hl, hA.imp (fun h => h.1) (fun h => h.mono K.size), ?_⟩
  rcases hA with ⟨rfl, e2⟩ | hA
  · have hln := (hF _ K.fact).1
    rw [ptsV_len] at hln
    rw [e2] at hl ⊢
    obtain rfl : n' = n := by omega
    exact (K.step hb).weak fun w h => ⟨hF w h, h⟩
  · exact K.madeRd hb h1 hA
end
def MadeP (w w' : World) (ps : List Pt) (n : Nat) (hold : Int) (e : Ending) : Prop :=
  ∃ (g : Nat) (A' : Option Addr) (n' c' : Nat) (cs : List Pt) (fr nn : Nat), e = .returned (.tuple #[.pointer (some ⟨g, 0, none⟩), .slice A' n' c']) ∧ n' = (mk35 ps n).length ∧ Ring cs fr nn (mk35 ps n) ∧ Trk w' g (trkA cs fr nn hold) ∧ w.heap.size ≤ g ∧ (Rd w' A' (n' * 2) (ptsV (mk35 ps n)) ∧ Nw w.heap.size A') ∧ Below w.heap.size w w'
set_option maxRecDepth 100000 in
set_option maxHeartbeats 4000000 in
theorem made35 (A : Option Addr) (n c : Nat) (ps : List Pt) (hold : Int) (w : World) (h : Rd w A (n * 2) (ptsV ps)) (hp : ∀ i, i < ps.length → 0 ≤ (ptAt ps i).1 ∧ (ptAt ps i).1 < 4294967296) (h1 : hold ≤ 1048576) (hn : n ≤ 1000) :
    Calls Try.prog 20 #[.int .u32 hold, .slice A n c] w fun e w' => MadeP w w' ps n hold e := by
  have K := St.start w
  have hl : ps.length = n := by have := h.1; rw [ptsV_len] at this; omega
  have HR := Lib.hid h
  have HP := Lib.hid hp
  clear h hp
  go_enter Try.func20, Try.ntmps20
  go_wp2_with (first|(go_at_call 8;have zz := New35 K hold h1;(with_reducible refine zz.mono ?_);clear zz;rintro e w2 ⟨g, rfl, K2⟩;(try dsimp only);replace K := K2;clear K2;(try clear ww);revert w2;intro ww K))
  go_loopw [8, 9] (fun v i wr => ∃ (k : Nat) (A' : Option Addr) (n' c' : Nat) (cs : List Pt) (fr nn : Nat), k ≤ n ∧ v = .slice A' n' c' ∧ i = .int .i64 k ∧ Hid (n' = (mk35 ps k).length) ∧ Hid (Ring cs fr nn (mk35 ps k)) ∧ Hid (Nw w.heap.size A') ∧ St w.heap.size w [(g, trkA cs fr nn hold, 61)] (fun w => Rd w A' (n' * 2) (ptsV (mk35 ps k))) wr) (fun _ i _ => n - (intOf i).toNat)
  case atStart => exact ⟨0, none, 0, 0, _, _, _, Nat.zero_le _, rfl, rfl, Lib.hid rfl, Lib.hid Ring.nil, Lib.hid (fun b off p e => by cases e), K.weak fun w _ => Rd.nil _ _⟩
  case round =>
    clear K
    obtain ⟨i, A', n', c', cs, fr, nn, hi, rfl, rfl, HN, HG, HA, K⟩ := hrel
    by_cases hlt : i < n
    · have ht : decide ((i : Int) < n) = true := decide_eq_true (by omega)
      have htn : decide (i < n) = true := decide_eq_true hlt
      obtain ⟨T, hT⟩ : ∃ T, (ptAt ps i).1 = T := ⟨_, rfl⟩
      obtain ⟨X, hX⟩ : ∃ X, (ptAt ps i).2 = X := ⟨_, rfl⟩
      obtain ⟨b2, off2, hA2, hb, hv1, hv2, hvr⟩ := RdP HR.out hlt hT hX
      cases hA2
      have hpi := HP.out i (by omega)
      rw [hT] at hpi
      have hrise := mk_rise HP.out i (by omega)
      have hl16 : n' ≤ 16 := by rw [HN.out]; exact hrise.len
      have hsucc : Hid (mk35 ps (i + 1) = add35 (mk35 ps i) (T, X)) := Lib.hid (by rw [← hT, ← hX]; rfl)
      have HX := Lib.hid hvr
      have HI := Lib.hid hpi
      have HE := Lib.hid hrise
      clear hvr hT hX hpi hrise hv1 hv2
      generalize mk35 ps i = qs at *
      go_wp2_with (first|go_big_skip|((with_reducible refine at_load ?_);first|(refine wm_load (cs := ?_) (t := ?_) (n := ?_) K rfl _ _ rfl rfl ?_ ?_ ?_ ?_;rotate_left 2;(repeat (first|exact At.hd|refine At.tl ?_));rotate_left;(with_reducible first|exact row33);(solve|exact rfl|simp)))|((with_reducible refine at_store ?_);first|(refine wm_store (L' := ?_) (cs := ?_) (t := ?_) (n := ?_) K rfl _ _ _ rfl rfl rfl rfl ?_ ?_ ?_ ?_ ?_ ?_;rotate_left 3;(repeat (first|exact Put.hd|(refine Put.tl (L' := ?_) ?_;rotate_left)));rotate_left;(with_reducible first|exact row33);(solve|exact rfl|simp);(solve|exact rfl|simp);(solve|exact rfl|simp [Ones, Value.oneCell']);(try clear K);(try clear ww);intro ww K;(try simp [go_sem] at K)))|((with_reducible refine at_load ?_);refine wm_farR (part := #[_, _]) (n := 2) rfl _ _ rfl rfl (fun j v hv => (K.below.cell (by assumption)).trans (HX.out j v hv)) ?_ rfl ?_;(with_reducible first|exact row33))|(go_at_call 11;(with_reducible refine (own35 T X _).mono ?_);rintro e w2 ⟨rfl, k1⟩;replace K := K.step k1;clear k1;(try clear ww);revert w2;intro ww K)|(go_at_call 10;have zz := Add35 (Slot.head _ _ _) K HG.out T X HI.out.1 HI.out.2 HE.out;(with_reducible refine zz.mono ?_);clear zz;rintro e w2 ⟨cs2, fr2, nn2, rfl, hR2, K2⟩;(try dsimp only);(try dsimp only at K2);replace K := K2;clear K2;have HG2 := Lib.hid hR2;clear hR2 HG;(try clear ww);revert w2;intro ww K)|(go_at_call 9;have zz := fun c => K.radd (c := c) (fun _ h => h) hl16 T X;(with_reducible refine (zz _).mono ?_);clear zz;rintro e w2 ⟨A3, n3, c3, rfl, hn3, hA3, K2⟩;(try dsimp only);replace K := K2;clear K2;replace hn3 := Lib.hid hn3;replace hA3 := Lib.hid hA3;(try clear ww);revert w2;intro ww K))
      exact ⟨⟨i + 1, A3, n3, c3, cs2, fr2, nn2, by omega, rfl, by go_num, Lib.hid (by rw [hsucc.out]; exact hn3.out), Lib.hid (by rw [hsucc.out]; exact HG2.out), Lib.hid (by rcases hA3.out with rfl | h; exact HA.out; exact h), by rw [hsucc.out]; exact K.weak fun w h => h.1⟩, by simp [intOf]; omega⟩
    · obtain rfl : n = i := by omega
      have ht : decide ((n : Int) < n) = false := decide_eq_false (by omega)
      have htn : decide (n < n) = false := decide_eq_false (by omega)
      go_wp2_with (first|go_big_skip|((with_reducible refine at_load ?_);first|(refine wm_load (cs := ?_) (t := ?_) (n := ?_) K rfl _ _ rfl rfl ?_ ?_ ?_ ?_;rotate_left 2;(repeat (first|exact At.hd|refine At.tl ?_));rotate_left;(with_reducible first|exact row33);(solve|exact rfl|simp)))|((with_reducible refine at_store ?_);first|(refine wm_store (L' := ?_) (cs := ?_) (t := ?_) (n := ?_) K rfl _ _ _ rfl rfl rfl rfl ?_ ?_ ?_ ?_ ?_ ?_;rotate_left 3;(repeat (first|exact Put.hd|(refine Put.tl (L' := ?_) ?_;rotate_left)));rotate_left;(with_reducible first|exact row33);(solve|exact rfl|simp);(solve|exact rfl|simp);(solve|exact rfl|simp [Ones, Value.oneCell']);(try clear K);(try clear ww);intro ww K;(try simp [go_sem] at K))))
      go_ret2
      exact ⟨g, A', n', c', cs, fr, nn, rfl, HN.out, HG.out, (K.get .hd).trk, K.ge .hd, ⟨K.fact, HA.out⟩, K.below⟩
end Go.Proofs.Ytpbginihkhfdmaa
namespace Go.Proofs.Ytpbginihkhfdmaa
open Go.RowKit
attribute [local irreducible] wpHeld wpTree wpList
attribute [local go_sem] Oper.semAt_some
set_option linter.unusedVariables false
def ps1 : List Pt := [(1000, 50)]
def ps2 : List Pt := [(1000, 50), (2000, -30)]
theorem fnil35 (b : Nat) (w : World) : (binOp .eql 47 (.func (.func 27) #[] #[.pointer (some ⟨b, 0, none⟩)]) Value.nilFunc).run Try.prog w = .ok (.bool false) w := by kernel_rfl
def sumW (k : Nat) : Int := if k = 0 then 0 else if k = 1 then 1000 else 3001
theorem m0 : may35 [] (1000, 50) = true := by decide
theorem m1 : may35 ps1 (1000, 60) = false := by decide
theorem m2 : may35 ps1 (2000, -30) = true := by decide
theorem y0 : add35 [] (1000, 50) = ps1 := by decide
theorem y1 : add35 ps1 (1000, 60) = ps1 := by decide
theorem y2 : add35 ps1 (2000, -30) = ps2 := by decide
theorem r1 : Rise ps1 := by rw [← y0]; exact Rise.nil.add (by decide) (by decide)
theorem r2 : Rise ps2 := by rw [← y2]; exact r1.add (by decide) (by decide)
theorem v0 : at35 [] 500 5 = (0, 7) := by decide
theorem v1 : at35 ps2 500 1250 = (30, 0) := by decide
theorem v2 : at35 ps2 500 2500 = (-30, 0) := by decide
theorem v3 : at35 ps2 500 2501 = (0, 14) := by decide
theorem v4 : at35 ps2 500 999 = (0, 7) := by decide
theorem v5 : rate35 ps2 = (-80, 0) := by decide
theorem v6 : loF ps2 2 = -30 := by decide
theorem v7 : hiF ps2 2 = 50 := by decide
set_option maxRecDepth 100000 in
set_option maxHeartbeats 4000000 in
theorem works35_any (w : World) :
    Calls Try.prog 7 #[] w fun e w' => e = .returned (.bool true) ∧ Below w.heap.size w w' := by
  have K := St.start w
  refine calls_of_wp_marks Try.func7 rfl ?_; simp only [Try.ntmps7, List.size_toArray, List.length_cons, List.length_nil, Nat.reduceAdd, Nat.reduceSub, Array.replicate_succ, Array.replicate_zero, List.push_toArray, List.append_toArray, List.nil_append, List.cons_append]
  go_wp2_with (first|(go_at_call 8;first|(have zz := New35 K 500 (by decide);(with_reducible refine zz.mono ?_);clear zz;rintro e w2 ⟨g, rfl, K2⟩;(try dsimp only);replace K := K2;clear K2;(try clear ww);revert w2;intro ww K)|((with_reducible refine (New35_no 1048577 _ (by decide)).mono ?_);rintro e w2 ⟨rfl, k1⟩;replace K := K.step k1;clear k1;(try clear ww);revert w2;intro ww K))|(go_at_call 13;have zz := At35 g _ [] _ _ 500 5 ww (K.get .hd).trk Ring.nil Rise.nil (by decide) (by decide) (by decide) (by decide);rw [v0] at zz;(with_reducible refine zz.mono ?_);clear zz;rintro e w2 ⟨rfl, kk1⟩;replace K := K.step kk1;clear kk1;(try clear ww);revert w2;intro ww K))
  have zz := Add35 (Slot.head _ _ _) K Ring.nil 1000 50 (by decide) (by decide) Rise.nil
  rw [m0, y0] at zz
  (with_reducible refine zz.mono ?_)
  clear zz
  rintro e w2 ⟨cs, fr, n, rfl, hR2, K2⟩
  (try dsimp only at K2)
  replace K := K2
  clear K2
  have HG := Lib.hid hR2
  clear hR2
  clear ww
  revert w2
  intro ww K
  go_wp2_with (fail)
  have zz := Add35 (Slot.head _ _ _) K HG.out 1000 60 (by decide) (by decide) r1
  rw [m1, y1] at zz
  (with_reducible refine zz.mono ?_)
  clear zz HG
  rintro e w2 ⟨cs, fr, n, rfl, hR2, K2⟩
  (try dsimp only at K2)
  replace K := K2
  clear K2
  have HG := Lib.hid hR2
  clear hR2
  clear ww
  revert w2
  intro ww K
  go_wp2_with (fail)
  have zz := Add35 (Slot.head _ _ _) K HG.out 2000 (-30) (by decide) (by decide) r1
  rw [m2, y2] at zz
  (with_reducible refine zz.mono ?_)
  clear zz HG
  rintro e w2 ⟨cs, fr, n, rfl, hR2, K2⟩
  (try dsimp only at K2)
  replace K := K2
  clear K2
  have hn2 : n = 2 := by rw [← hR2.ln]; rfl
  subst hn2
  have HG := Lib.hid hR2
  clear hR2
  clear ww
  revert w2
  intro ww K
  have MO := Lib.hid (fun (w : World) (h : Trk w g (trkA cs fr 2 500)) => Most35 g cs ps2 fr 2 500 w h HG.out)
  rw [if_neg (by decide), v6, v7] at MO
  have RT := Lib.hid (fun (w : World) (h : Trk w g (trkA cs fr 2 500)) => Rate35 g cs ps2 fr 2 500 w h HG.out r2)
  rw [v5] at RT
  have A1 := Lib.hid (fun (w : World) (h : Trk w g (trkA cs fr 2 500)) => At35 g cs ps2 fr 2 500 1250 w h HG.out r2 (by decide) (by decide) (by decide) (by decide))
  rw [v1] at A1
  have A2 := Lib.hid (fun (w : World) (h : Trk w g (trkA cs fr 2 500)) => At35 g cs ps2 fr 2 500 2500 w h HG.out r2 (by decide) (by decide) (by decide) (by decide))
  rw [v2] at A2
  have A3 := Lib.hid (fun (w : World) (h : Trk w g (trkA cs fr 2 500)) => At35 g cs ps2 fr 2 500 2501 w h HG.out r2 (by decide) (by decide) (by decide) (by decide))
  rw [v3] at A3
  have A4 := Lib.hid (fun (w : World) (h : Trk w g (trkA cs fr 2 500)) => At35 g cs ps2 fr 2 500 999 w h HG.out r2 (by decide) (by decide) (by decide) (by decide))
  rw [v4] at A4
  have fn := fnil35
  have LN := Lib.hid (fun (w : World) (h : Trk w g (trkA cs fr 2 500)) => Len35 g cs fr 2 500 w h HG.out.len)
  go_wp2_with (first|go_big_skip|((with_reducible refine at_load ?_);first|(refine wm_load (cs := ?_) (t := ?_) (n := ?_) K rfl _ _ rfl rfl ?_ ?_ ?_ ?_;rotate_left 2;(repeat (first|exact At.hd|refine At.tl ?_));rotate_left;(with_reducible first|exact row35);(solve|exact rfl|simp))|(refine wm_own (cs := ?_) (t := ?_) (v := ?_) K rfl _ _ rfl rfl ?_ ?_ ?_ ?_;rotate_left 2;(repeat (first|exact At.hd|refine At.tl ?_));rotate_left;(first|exact rfl|assumption);(with_reducible first|exact one3|exact one22))|(refine wm_cell (v := ?_) rfl _ _ rfl rfl ?_ ?_ ?_;rotate_left;(first|assumption|exact (K.below.cell (by assumption)).trans (by assumption));(with_reducible first|exact one3|exact one22)))|((with_reducible refine at_store ?_);(first|(refine wm_store (L' := ?_) (cs := ?_) (t := ?_) (n := ?_) K rfl _ _ _ rfl rfl rfl rfl ?_ ?_ ?_ ?_ ?_ ?_;rotate_left 3;(repeat (first|exact Put.hd|(refine Put.tl (L' := ?_) ?_;rotate_left)));rotate_left;(with_reducible first|exact row35);(solve|exact rfl|simp);(solve|exact rfl|simp);(solve|exact rfl|simp [Ones, Value.oneCell']))|(refine wm_put (L' := ?_) (cs := ?_) (new := ?_) (t := ?_) K rfl _ _ _ rfl rfl rfl rfl ?_ ?_ ?_ ?_ rfl rfl ?_;rotate_left 4;(repeat (first|exact Put.hd|(refine Put.tl (L' := ?_) ?_;rotate_left)));(solve|exact Nat.le_of_ble_eq_true rfl|decide|(simp only [List.size_toArray, nums_length];first|assumption|omega)|(simp only [List.size_toArray, nums_length, List.length_set];first|assumption|omega)|simp|omega|(simp only [List.size_toArray, nums_length];omega)|assumption);(solve|(simp only [List.setIfInBounds_toArray];exact rfl)|exact nums_set _ _ _ _|simp only [List.setIfInBounds_toArray, List.set_cons_zero]|simp only [List.setIfInBounds_toArray, List.set_cons_zero, List.set_cons_succ]|(simp only [List.setIfInBounds_toArray, List.set_cons_zero, List.set_cons_succ];exact rfl)|exact rfl);(with_reducible first|exact one3|exact one22)));(try clear K);(try clear ww);intro ww K;(try simp [go_sem] at K))|((first|((with_reducible refine at_box ?_);refine wm_box K rfl _ _ rfl rfl rfl ?_)|((with_reducible refine at_alloc ?_);refine wm_alloc (v := ?_) (cs := ?_) K rfl _ rfl ?_ ?_ ?_;rotate_left;(with_reducible first|exact zero3|exact zero35);rotate_left;exact rfl));(try clear K);(try clear ww);((fail_if_success (have _h := b24));intro b24 ww K);(try simp [go_sem, Value.cells] at K))|(go_at_call 13;(with_reducible refine (A1.out _ (K.get .hd).trk).mono ?_);rintro e w2 ⟨rfl, k1⟩;replace K := K.step k1;clear k1;(try clear ww);revert w2;intro ww K)|(go_at_call 13;(with_reducible refine (A2.out _ (K.get .hd).trk).mono ?_);rintro e w2 ⟨rfl, k1⟩;replace K := K.step k1;clear k1;(try clear ww);revert w2;intro ww K)|(go_at_call 13;(with_reducible refine (A3.out _ (K.get .hd).trk).mono ?_);rintro e w2 ⟨rfl, k1⟩;replace K := K.step k1;clear k1;(try clear ww);revert w2;intro ww K)|(go_at_call 13;(with_reducible refine (A4.out _ (K.get .hd).trk).mono ?_);rintro e w2 ⟨rfl, k1⟩;replace K := K.step k1;clear k1;(try clear ww);revert w2;intro ww K)|(go_at_call 15;(with_reducible refine (RT.out _ (K.get .hd).trk).mono ?_);rintro e w2 ⟨rfl, k1⟩;replace K := K.step k1;clear k1;(try clear ww);revert w2;intro ww K)|(go_at_call 17;(with_reducible refine (MO.out _ (K.get .hd).trk).mono ?_);rintro e w2 ⟨rfl, k1⟩;replace K := K.step k1;clear k1;(try clear ww);revert w2;intro ww K)|(go_at_call 19;have zz := All35 K g;(with_reducible refine zz.mono ?_);clear zz;rintro e w2 ⟨bb, rfl, K2⟩;(try dsimp only);replace K := K2;clear K2;(try clear ww);revert w2;intro ww K))
  clear MO RT A1 A2 A3 A4 fn
  refine wm_range (α := Nat × Pt) 9 rfl (enters_of Try.func27 (by kernel_rfl) rfl) (each_gives g bb cs ps2 fr 2 500 HG.out) (fun _ => rfl) (fun k W => St w.heap.size w [(b24, #[.int .i64 (sumW k)], 3), (bb, #[.pointer (some ⟨g, 0, none⟩)], 67), (g, trkA cs fr 2 500, 61)] Any W) (fun _ _ => False) (fun k => stable_st K.size firm_any) (fun _ => stable_false) (fun k W K => ⟨(K.get (.tl (.tl .hd))).trk, (K.get (.tl .hd)).trk⟩) K ?round ?done ?stop
  case round =>
    intro lo0 k x W KK hlo hx K1 hK
    obtain ⟨hk, rfl⟩ := numd_some hx
    have hD := K.size
    generalize ww.heap.size = D at *
    clear K hx
    replace K := K1.keepsFrom D
    clear K1 LN HG
    have hk2 : k < 2 := hk
    rcases (by omega : k = 0 ∨ k = 1) with rfl | rfl
    · have hp : ptAt ps2 0 = ((1000 : Int), (50 : Int)) := rfl
      have hs : sumW 0 = 0 := rfl
      rw [hs] at K
      rw [hp]
      clear hk hk2 hp hs
      simp only [numE, List.zip_toArray, List.zip_cons_cons, List.zip_nil_right, List.size_toArray]
      gi_wp2_with ((refine rin_step (fun c e => by cases e) ?_;go_wp2_with (first|go_big_skip|((with_reducible refine at_load ?_);first|(refine wm_load (cs := ?_) (t := ?_) (n := ?_) K rfl _ _ rfl rfl ?_ ?_ ?_ ?_;rotate_left 2;(repeat (first|exact At.hd|refine At.tl ?_));rotate_left;(with_reducible first|exact row35);(solve|exact rfl|simp))|(refine wm_own (cs := ?_) (t := ?_) (v := ?_) K rfl _ _ rfl rfl ?_ ?_ ?_ ?_;rotate_left 2;(repeat (first|exact At.hd|refine At.tl ?_));rotate_left;(first|exact rfl|assumption);(with_reducible first|exact one3|exact one22))|(refine wm_cell (v := ?_) rfl _ _ rfl rfl ?_ ?_ ?_;rotate_left;(first|assumption|exact (K.below.cell (by assumption)).trans (by assumption));(with_reducible first|exact one3|exact one22)))|((with_reducible refine at_store ?_);(first|(refine wm_store (L' := ?_) (cs := ?_) (t := ?_) (n := ?_) K rfl _ _ _ rfl rfl rfl rfl ?_ ?_ ?_ ?_ ?_ ?_;rotate_left 3;(repeat (first|exact Put.hd|(refine Put.tl (L' := ?_) ?_;rotate_left)));rotate_left;(with_reducible first|exact row35);(solve|exact rfl|simp);(solve|exact rfl|simp);(solve|exact rfl|simp [Ones, Value.oneCell']))|(refine wm_put (L' := ?_) (cs := ?_) (new := ?_) (t := ?_) K rfl _ _ _ rfl rfl rfl rfl ?_ ?_ ?_ ?_ rfl rfl ?_;rotate_left 4;(repeat (first|exact Put.hd|(refine Put.tl (L' := ?_) ?_;rotate_left)));(solve|exact Nat.le_of_ble_eq_true rfl|decide|(simp only [List.size_toArray, nums_length];first|assumption|omega)|(simp only [List.size_toArray, nums_length, List.length_set];first|assumption|omega)|simp|omega|(simp only [List.size_toArray, nums_length];omega)|assumption);(solve|(simp only [List.setIfInBounds_toArray];exact rfl)|exact nums_set _ _ _ _|simp only [List.setIfInBounds_toArray, List.set_cons_zero]|simp only [List.setIfInBounds_toArray, List.set_cons_zero, List.set_cons_succ]|(simp only [List.setIfInBounds_toArray, List.set_cons_zero, List.set_cons_succ];exact rfl)|exact rfl);(with_reducible first|exact one3|exact one22)));(try clear K);(try clear ww);intro ww K;(try simp [go_sem] at K))|((first|((with_reducible refine at_box ?_);refine wm_box K rfl _ _ rfl rfl rfl ?_)|((with_reducible refine at_alloc ?_);refine wm_alloc (v := ?_) (cs := ?_) K rfl _ rfl ?_ ?_ ?_;rotate_left;(with_reducible first|exact zero3|exact zero35);rotate_left;exact rfl));(try clear K);(try clear ww);((fail_if_success (have _h := b26));intro b26 ww K);(try simp [go_sem, Value.cells] at K))));refine qn_out ?_)
      refine hK _ _ K.fact.1 (fun W2 r o o' hr ho hc e => ?_); replace K := K.begun hD firm_any hr ho hc e; clear hr ho hc e hK
      gi_wp2_with ((refine rin_step (fun c e => by cases e) ?_;go_wp2_with (first|go_big_skip|((with_reducible refine at_load ?_);first|(refine wm_load (cs := ?_) (t := ?_) (n := ?_) K rfl _ _ rfl rfl ?_ ?_ ?_ ?_;rotate_left 2;(repeat (first|exact At.hd|refine At.tl ?_));rotate_left;(with_reducible first|exact row35);(solve|exact rfl|simp))|(refine wm_own (cs := ?_) (t := ?_) (v := ?_) K rfl _ _ rfl rfl ?_ ?_ ?_ ?_;rotate_left 2;(repeat (first|exact At.hd|refine At.tl ?_));rotate_left;(first|exact rfl|assumption);(with_reducible first|exact one3|exact one22))|(refine wm_cell (v := ?_) rfl _ _ rfl rfl ?_ ?_ ?_;rotate_left;(first|assumption|exact (K.below.cell (by assumption)).trans (by assumption));(with_reducible first|exact one3|exact one22)))|((with_reducible refine at_store ?_);(first|(refine wm_store (L' := ?_) (cs := ?_) (t := ?_) (n := ?_) K rfl _ _ _ rfl rfl rfl rfl ?_ ?_ ?_ ?_ ?_ ?_;rotate_left 3;(repeat (first|exact Put.hd|(refine Put.tl (L' := ?_) ?_;rotate_left)));rotate_left;(with_reducible first|exact row35);(solve|exact rfl|simp);(solve|exact rfl|simp);(solve|exact rfl|simp [Ones, Value.oneCell']))|(refine wm_put (L' := ?_) (cs := ?_) (new := ?_) (t := ?_) K rfl _ _ _ rfl rfl rfl rfl ?_ ?_ ?_ ?_ rfl rfl ?_;rotate_left 4;(repeat (first|exact Put.hd|(refine Put.tl (L' := ?_) ?_;rotate_left)));(solve|exact Nat.le_of_ble_eq_true rfl|decide|(simp only [List.size_toArray, nums_length];first|assumption|omega)|(simp only [List.size_toArray, nums_length, List.length_set];first|assumption|omega)|simp|omega|(simp only [List.size_toArray, nums_length];omega)|assumption);(solve|(simp only [List.setIfInBounds_toArray];exact rfl)|exact nums_set _ _ _ _|simp only [List.setIfInBounds_toArray, List.set_cons_zero]|simp only [List.setIfInBounds_toArray, List.set_cons_zero, List.set_cons_succ]|(simp only [List.setIfInBounds_toArray, List.set_cons_zero, List.set_cons_succ];exact rfl)|exact rfl);(with_reducible first|exact one3|exact one22)));(try clear K);(try clear ww);intro ww K;(try simp [go_sem] at K))));refine qn_out ?_)
      exact ⟨K.fact.1, K.tail.weak fun _ h => h.2⟩
    · have hp : ptAt ps2 1 = ((2000 : Int), (-30 : Int)) := rfl
      have hs : sumW 1 = 1000 := rfl
      rw [hs] at K
      rw [hp]
      clear hk hk2 hp hs
      simp only [numE, List.zip_toArray, List.zip_cons_cons, List.zip_nil_right, List.size_toArray]
      gi_wp2_with ((refine rin_step (fun c e => by cases e) ?_;go_wp2_with (first|go_big_skip|((with_reducible refine at_load ?_);first|(refine wm_load (cs := ?_) (t := ?_) (n := ?_) K rfl _ _ rfl rfl ?_ ?_ ?_ ?_;rotate_left 2;(repeat (first|exact At.hd|refine At.tl ?_));rotate_left;(with_reducible first|exact row35);(solve|exact rfl|simp))|(refine wm_own (cs := ?_) (t := ?_) (v := ?_) K rfl _ _ rfl rfl ?_ ?_ ?_ ?_;rotate_left 2;(repeat (first|exact At.hd|refine At.tl ?_));rotate_left;(first|exact rfl|assumption);(with_reducible first|exact one3|exact one22))|(refine wm_cell (v := ?_) rfl _ _ rfl rfl ?_ ?_ ?_;rotate_left;(first|assumption|exact (K.below.cell (by assumption)).trans (by assumption));(with_reducible first|exact one3|exact one22)))|((with_reducible refine at_store ?_);(first|(refine wm_store (L' := ?_) (cs := ?_) (t := ?_) (n := ?_) K rfl _ _ _ rfl rfl rfl rfl ?_ ?_ ?_ ?_ ?_ ?_;rotate_left 3;(repeat (first|exact Put.hd|(refine Put.tl (L' := ?_) ?_;rotate_left)));rotate_left;(with_reducible first|exact row35);(solve|exact rfl|simp);(solve|exact rfl|simp);(solve|exact rfl|simp [Ones, Value.oneCell']))|(refine wm_put (L' := ?_) (cs := ?_) (new := ?_) (t := ?_) K rfl _ _ _ rfl rfl rfl rfl ?_ ?_ ?_ ?_ rfl rfl ?_;rotate_left 4;(repeat (first|exact Put.hd|(refine Put.tl (L' := ?_) ?_;rotate_left)));(solve|exact Nat.le_of_ble_eq_true rfl|decide|(simp only [List.size_toArray, nums_length];first|assumption|omega)|(simp only [List.size_toArray, nums_length, List.length_set];first|assumption|omega)|simp|omega|(simp only [List.size_toArray, nums_length];omega)|assumption);(solve|(simp only [List.setIfInBounds_toArray];exact rfl)|exact nums_set _ _ _ _|simp only [List.setIfInBounds_toArray, List.set_cons_zero]|simp only [List.setIfInBounds_toArray, List.set_cons_zero, List.set_cons_succ]|(simp only [List.setIfInBounds_toArray, List.set_cons_zero, List.set_cons_succ];exact rfl)|exact rfl);(with_reducible first|exact one3|exact one22)));(try clear K);(try clear ww);intro ww K;(try simp [go_sem] at K))|((first|((with_reducible refine at_box ?_);refine wm_box K rfl _ _ rfl rfl rfl ?_)|((with_reducible refine at_alloc ?_);refine wm_alloc (v := ?_) (cs := ?_) K rfl _ rfl ?_ ?_ ?_;rotate_left;(with_reducible first|exact zero3|exact zero35);rotate_left;exact rfl));(try clear K);(try clear ww);((fail_if_success (have _h := b26));intro b26 ww K);(try simp [go_sem, Value.cells] at K))));refine qn_out ?_)
      refine hK _ _ K.fact.1 (fun W2 r o o' hr ho hc e => ?_); replace K := K.begun hD firm_any hr ho hc e; clear hr ho hc e hK
      gi_wp2_with ((refine rin_step (fun c e => by cases e) ?_;go_wp2_with (first|go_big_skip|((with_reducible refine at_load ?_);first|(refine wm_load (cs := ?_) (t := ?_) (n := ?_) K rfl _ _ rfl rfl ?_ ?_ ?_ ?_;rotate_left 2;(repeat (first|exact At.hd|refine At.tl ?_));rotate_left;(with_reducible first|exact row35);(solve|exact rfl|simp))|(refine wm_own (cs := ?_) (t := ?_) (v := ?_) K rfl _ _ rfl rfl ?_ ?_ ?_ ?_;rotate_left 2;(repeat (first|exact At.hd|refine At.tl ?_));rotate_left;(first|exact rfl|assumption);(with_reducible first|exact one3|exact one22))|(refine wm_cell (v := ?_) rfl _ _ rfl rfl ?_ ?_ ?_;rotate_left;(first|assumption|exact (K.below.cell (by assumption)).trans (by assumption));(with_reducible first|exact one3|exact one22)))|((with_reducible refine at_store ?_);(first|(refine wm_store (L' := ?_) (cs := ?_) (t := ?_) (n := ?_) K rfl _ _ _ rfl rfl rfl rfl ?_ ?_ ?_ ?_ ?_ ?_;rotate_left 3;(repeat (first|exact Put.hd|(refine Put.tl (L' := ?_) ?_;rotate_left)));rotate_left;(with_reducible first|exact row35);(solve|exact rfl|simp);(solve|exact rfl|simp);(solve|exact rfl|simp [Ones, Value.oneCell']))|(refine wm_put (L' := ?_) (cs := ?_) (new := ?_) (t := ?_) K rfl _ _ _ rfl rfl rfl rfl ?_ ?_ ?_ ?_ rfl rfl ?_;rotate_left 4;(repeat (first|exact Put.hd|(refine Put.tl (L' := ?_) ?_;rotate_left)));(solve|exact Nat.le_of_ble_eq_true rfl|decide|(simp only [List.size_toArray, nums_length];first|assumption|omega)|(simp only [List.size_toArray, nums_length, List.length_set];first|assumption|omega)|simp|omega|(simp only [List.size_toArray, nums_length];omega)|assumption);(solve|(simp only [List.setIfInBounds_toArray];exact rfl)|exact nums_set _ _ _ _|simp only [List.setIfInBounds_toArray, List.set_cons_zero]|simp only [List.setIfInBounds_toArray, List.set_cons_zero, List.set_cons_succ]|(simp only [List.setIfInBounds_toArray, List.set_cons_zero, List.set_cons_succ];exact rfl)|exact rfl);(with_reducible first|exact one3|exact one22)));(try clear K);(try clear ww);intro ww K;(try simp [go_sem] at K))));refine qn_out ?_)
      exact ⟨K.fact.1, K.tail.weak fun _ h => h.2⟩
  case done =>
    intro D W hD K1 hk
    have hB := Nat.le_trans K.size hD
    clear K hD
    have hs : sumW (numd ps2).length = 3001 := rfl
    rw [hs] at K1
    have K := K1.mark hk
    clear K1 hk hs
    revert W
    intro ww K
    go_wp2_with (first|go_big_skip|((with_reducible refine at_load ?_);first|(refine wm_load (cs := ?_) (t := ?_) (n := ?_) K rfl _ _ rfl rfl ?_ ?_ ?_ ?_;rotate_left 2;(repeat (first|exact At.hd|refine At.tl ?_));rotate_left;(with_reducible first|exact row35);(solve|exact rfl|simp))|(refine wm_own (cs := ?_) (t := ?_) (v := ?_) K rfl _ _ rfl rfl ?_ ?_ ?_ ?_;rotate_left 2;(repeat (first|exact At.hd|refine At.tl ?_));rotate_left;(first|exact rfl|assumption);(with_reducible first|exact one3|exact one22))|(refine wm_cell (v := ?_) rfl _ _ rfl rfl ?_ ?_ ?_;rotate_left;(first|assumption|exact (K.below.cell (by assumption)).trans (by assumption));(with_reducible first|exact one3|exact one22)))|((with_reducible refine at_store ?_);(first|(refine wm_store (L' := ?_) (cs := ?_) (t := ?_) (n := ?_) K rfl _ _ _ rfl rfl rfl rfl ?_ ?_ ?_ ?_ ?_ ?_;rotate_left 3;(repeat (first|exact Put.hd|(refine Put.tl (L' := ?_) ?_;rotate_left)));rotate_left;(with_reducible first|exact row35);(solve|exact rfl|simp);(solve|exact rfl|simp);(solve|exact rfl|simp [Ones, Value.oneCell']))|(refine wm_put (L' := ?_) (cs := ?_) (new := ?_) (t := ?_) K rfl _ _ _ rfl rfl rfl rfl ?_ ?_ ?_ ?_ rfl rfl ?_;rotate_left 4;(repeat (first|exact Put.hd|(refine Put.tl (L' := ?_) ?_;rotate_left)));(solve|exact Nat.le_of_ble_eq_true rfl|decide|(simp only [List.size_toArray, nums_length];first|assumption|omega)|(simp only [List.size_toArray, nums_length, List.length_set];first|assumption|omega)|simp|omega|(simp only [List.size_toArray, nums_length];omega)|assumption);(solve|(simp only [List.setIfInBounds_toArray];exact rfl)|exact nums_set _ _ _ _|simp only [List.setIfInBounds_toArray, List.set_cons_zero]|simp only [List.setIfInBounds_toArray, List.set_cons_zero, List.set_cons_succ]|(simp only [List.setIfInBounds_toArray, List.set_cons_zero, List.set_cons_succ];exact rfl)|exact rfl);(with_reducible first|exact one3|exact one22)));(try clear K);(try clear ww);intro ww K;(try simp [go_sem] at K))|(go_at_call 12;(with_reducible refine (LN.out _ (K.get (.tl (.tl .hd))).trk).mono ?_);rintro e w2 ⟨rfl, k1⟩;replace K := K.step k1;clear k1;(try clear ww);revert w2;intro ww K))
    exact retM1 (K.weak fun _ h => h.2) firm_any rfl hB K.fact.1 (fun w' K' => ⟨_, results_tmp rfl _ _ _, rfl, K'.below⟩)
  case stop =>
    intro D c W _ h _
    exact h.elim
end Go.Proofs.Ytpbginihkhfdmaa
