/-
  Lemmas and walks of this claim (the texts Ge14 Gf14 Gi14 Gj14 Gk14 Gl14 Gm14 Gn14 Go14 of the work; what no proof here uses is left out). No claim of their own.
-/
import Derived.Test.YteancdipmpmjpaaMD15
import Derived.Test.YteancdipmpmjpaaMD2
import Derived.Test.YteancdipmpmjpaaMD11
import Derived.Test.YteancdipmpmjpaaMD23
import Derived.Test.YteancdipmpmjpaaMD1
import Derived.Test.YteancdipmpmjpaaMD14
import Derived.Test.YteancdipmpmjpaaMD5
set_option linter.all false
set_option linter.unusedSimpArgs false
set_option linter.unusedVariables false
namespace Go.Proofs.Yteancdipmpmjpaa
open Go.RowKit
attribute [local irreducible] wpHeld wpTree wpList
set_option linter.unusedVariables false
set_option maxHeartbeats 1000000 in
set_option maxRecDepth 100000 in
theorem Clone64_own (A : Option Addr) (n c : Nat) (xs : List Value) (w : World) (h : Rd w A n xs) (hn : n ≤ 1000000) (h1 : ∀ u ∈ xs, u.oneCell' = true) :
    Calls Try.prog 84 #[.slice A n c] w fun e w' => ∃ v', e = .returned v' ∧ w'.ownsRow w.heap.size 2 1 v' n xs ∧ Below w.heap.size w w' := by
  rcases A with _ | a
  · have hl := h.1
    have h0 : n = 0 := by
      rcases Nat.eq_zero_or_pos n with h0 | h0
      · exact h0
      · obtain ⟨_, _, e, _⟩ := h.2 h0; cases e
    subst h0
    have e : xs = [] := List.length_eq_zero_iff.1 hl
    subst e
    first | refine (Try.slices_Clone_nil 0 c w).mono ?_ | refine (Try.slices_Clone_nil_f84 0 c w).mono ?_
    rintro e w' ⟨rfl, rfl⟩
    exact ⟨_, rfl, ⟨rfl, .inl ⟨rfl, rfl⟩⟩, Below.refl _ _⟩
  · obtain ⟨i0, hi, hz0, hz1, hz2⟩ := info_parts num2
    have HN := Lib.hid (show ∀ (j : Nat) (u : Value), xs[j]? = some u → w.cell? (a.add j) = some u from fun j u hj => by
      have hj' := (List.getElem?_eq_some_iff.1 hj).1
      rw [h.1] at hj'
      obtain ⟨b, off, e, hb, hc⟩ := h.get hj'
      injection e with e
      subst e
      rw [Addr.add_mid]
      exact hc j u hj)
    have HL := Lib.hid (show xs.length = n * 1 by rw [h.1]; omega)
    have H1 := Lib.hid h1
    have q := fun (w : World) (a : Option Addr) (n c n' c' : Nat) => Lib.run_eql_slice_nil (P := Try.prog) w 45 2 a n c n' c' Try.underlying45
    clear h h1
    go_enter Try.func84, Try.ntmps84
    go_wp2_with (at_builtin; refine wpList_append_own _ rfl _ _ 45 rfl w.heap.size 2 i0 (.int .i64 0) 1 8 Try.underlying45 hi hz0 hz1 hz2 rfl (by decide) _ _ _ rfl (World.ownsRow_made w #[] 0 (Nat.le_refl _) (Nat.zero_le _) rfl) a n c xs rfl HL.out ?qc2 H1.out ?qc4 ?qc5 ?qc6 ?_)
    case qc2 =>
      intro j u hj
      exact Lib.cell?_alloc_some _ (HN.out j u hj)
    case qc4 => unfold maxLen; omega
    case qc5 => omega
    case qc6 => simp
    intro v' w1 hown hgrow hnil
    clear hnil
    have HO := Lib.hid hown
    have HG := Lib.hid hgrow
    clear hown hgrow
    go_wp2
    go_ret
    refine ⟨_, rfl, by simpa using HO.out, ?_⟩
    exact ((Below.refl _ w).alloc (Nat.le_refl _) _).grown HG.out (by simp) (by intro k hk; simp [Value.ownBlock] at hk; omega)
theorem GNorm14_none (W H X Y S : Int) (A : Option Addr) (n c : Nat) (zs : List Int) (w : World) (h : Rd w A n (ints .i64 zs)) (hb : ∀ z ∈ zs, 0 ≤ z ∧ z ≤ 1073741824) (hn : n ≤ 5000) (hp : isum zs ≤ 0) :
    Calls Try.prog 38 #[.agg #[.int .i64 W, .int .i64 H, .int .i64 X, .int .i64 Y, .int .i64 S, .slice A n c]] w fun e w' => e = .returned (.tuple #[.agg #[.int .i64 W, .int .i64 H, .int .i64 X, .int .i64 Y, .int .i64 S, .slice A n c], .int .i64 7]) ∧ Below w.heap.size w w' := by
  have K := St.start w
  have SM := Lib.hid (fun w (h : Rd w A n (ints .i64 zs)) => Sum14 W H X Y S A n c zs w h (small_bd hb) hn)
  have HR := Lib.hid h
  generalize isum zs = s at *
  have t1 : decide (s ≤ 0) = true := decide_eq_true hp
  clear h hb hp
  go_enter Try.func38, Try.ntmps38
  go_wp2_with (first|((with_reducible refine at_load ?_);first|(refine wm_load (cs := ?_) (t := ?_) (n := ?_) K rfl _ _ rfl rfl ?_ ?_ ?_ ?_;rotate_left 2;(repeat (first|exact At.hd|refine At.tl ?_));rotate_left;(with_reducible first|exact row47);(exact rfl)))|((with_reducible refine at_store ?_);(first|(refine wm_store (L' := ?_) (cs := ?_) (t := ?_) (n := ?_) K rfl _ _ _ rfl rfl rfl rfl ?_ ?_ ?_ ?_ ?_ ?_;rotate_left 3;(repeat (exact Put.hd));rotate_left;(with_reducible first|exact row47);(exact rfl);(exact rfl);(simp [Ones, Value.oneCell'])));(try clear K);(try clear ww);intro ww K;(try simp [go_sem] at K))|((first|((with_reducible refine at_box ?_);refine wm_box K rfl _ _ rfl rfl rfl ?_)|((with_reducible refine at_alloc ?_);refine wm_alloc (v := ?_) (cs := ?_) K rfl _ rfl ?_ ?_ ?_;rotate_left;(with_reducible first|exact zero47);rotate_left;exact rfl));(try clear K);(try clear ww);(first|((fail_if_success (have _h := b1));intro b1 ww K)|((fail_if_success (have _h := b2));intro b2 ww K));(try simp [go_sem, Value.cells] at K))|(go_at_call 81;(with_reducible refine (SM.out _ (HR.out.below K.below)).mono ?_);rintro e w2 ⟨rfl, k1⟩;replace K := K.step k1;clear k1;(try clear ww);revert w2;intro ww K))
  refine bodyPost_ret (K.res2 rfl _ rfl (by (repeat (exact At.hd))) (by (with_reducible first|exact row47)) (by (exact rfl)) rfl) rfl ?_
  exact ⟨rfl, K.below⟩
section
variable {B : Nat} {w0 w : World} {L : List Blk} {F : World → Prop}
theorem St.clone64 {A : Option Addr} {n c : Nat} {zs : List Int} (K : St B w0 L F w) (h : Rd w A n (ints .i64 zs)) (hn : n ≤ 1000000) (h0 : 0 < n) :
    Calls Try.prog 84 #[.slice A n c] w fun e w' => ∃ (g cap : Nat) (cur : Array Value), e = .returned (.slice (some ⟨g, 0, none⟩) n cap) ∧ (n ≤ cap ∧ cap ≤ 9223372036854775807 ∧ cur.size = cap ∧ cur.toList.take n = ints .i64 zs) ∧ St B w0 ((g, cur, 2) :: L) F w' := by
  refine (Clone64_own A n c (ints .i64 zs) w h hn (fun u hu => by obtain ⟨z, _, rfl⟩ := List.mem_map.1 hu; rfl)).mono ?_
  rintro e w' ⟨v', rfl, hown, hb⟩
  obtain ⟨g, cap, cur, rfl, hc1, hc2, hcs, hct, K'⟩ := K.row hb hown h0
  exact ⟨g, cap, cur, rfl, ⟨hc1, hc2, hcs, hct⟩, K'⟩
end
set_option maxRecDepth 100000 in
set_option maxHeartbeats 2000000 in
theorem GNorm14 (W H X Y S : Int) (A : Option Addr) (n c : Nat) (zs : List Int) (w : World) (h : Rd w A n (ints .i64 zs)) (hb : ∀ z ∈ zs, 0 ≤ z ∧ z ≤ 1073741824) (hn : n ≤ 5000) (hp : 0 < isum zs) :
    Calls Try.prog 38 #[.agg #[.int .i64 W, .int .i64 H, .int .i64 X, .int .i64 Y, .int .i64 S, .slice A n c]] w fun e w' => ∃ A2 c2, e = .returned (.tuple #[.agg #[.int .i64 W, .int .i64 H, .int .i64 X, .int .i64 Y, .int .i64 S, .slice A2 n c2], .int .i64 0]) ∧ (Rd w' A2 n (ints .i64 (norm14 (isum zs) zs)) ∧ Nw w.heap.size A2) ∧ Below w.heap.size w w' := by
  have K := St.start w
  have hl : zs.length = n := by rw [← h.1, ints_len]
  have SM := Lib.hid (fun w (h : Rd w A n (ints .i64 zs)) => Sum14 W H X Y S A n c zs w h (small_bd hb) hn)
  have HZ := Lib.hid hb
  have HR := Lib.hid h
  have HL := Lib.hid hl
  have HM : Hid (∀ z ∈ zs, z ≤ isum zs) := Lib.hid fun z hz => isum_mem (fun z hz => (hb z hz).1) hz
  have hs := (isum_bd (M := 1073741824) (l := zs) (by omega) (fun z hz => by have := hb z hz; omega)).2
  rw [hl] at hs
  have hn0 : 0 < n := by
    rcases Nat.eq_zero_or_pos n with h0 | h0
    · rw [h0] at hl
      rw [List.length_eq_zero_iff.1 hl] at hp
      simp [isum] at hp
    · exact h0
  obtain ⟨T, hT⟩ : ∃ T, norm14 (isum zs) zs = T := ⟨_, rfl⟩
  have HT : Hid (T.length = n) := Lib.hid (by rw [← hT, norm_len, hl])
  have HG : Hid (∀ i, i < n → T.getD i 0 = zs.getD i 0 * 1073741824 / isum zs) := Lib.hid (fun i hi => by rw [← hT]; exact norm_get _ _ _ (by omega))
  rw [hT]
  generalize isum zs = s at *
  have t1 : decide (s ≤ 0) = false := decide_eq_false (by omega)
  have HP := Lib.hid (And.intro hp hs)
  clear h hb hp hs hl hT
  go_enter Try.func38, Try.ntmps38
  go_wp2_with (first|((with_reducible refine at_load ?_);first|(refine wm_load (cs := ?_) (t := ?_) (n := ?_) K rfl _ _ rfl rfl ?_ ?_ ?_ ?_;rotate_left 2;(repeat (first|exact At.hd|refine At.tl ?_));rotate_left;(with_reducible first|exact row47);(exact rfl))|(refine wm_own (cs := ?_) (t := ?_) (v := ?_) K rfl _ _ rfl rfl ?_ ?_ ?_ ?_;rotate_left 2;(repeat (first|exact At.hd|refine At.tl ?_));rotate_left;(exact rfl);(with_reducible first|exact one45)))|((first|((with_reducible refine at_box ?_);refine wm_box K rfl _ _ rfl rfl rfl ?_)|((with_reducible refine at_alloc ?_);refine wm_alloc (v := ?_) (cs := ?_) K rfl _ rfl ?_ ?_ ?_;rotate_left;(with_reducible first|exact zero47);rotate_left;exact rfl));(try clear K);(try clear ww);(first|((fail_if_success (have _h := b1));intro b1 ww K)|((fail_if_success (have _h := b2));intro b2 ww K));(try simp [go_sem, Value.cells] at K))|(go_at_call 81;(with_reducible refine (SM.out _ (HR.out.below K.below)).mono ?_);rintro e w2 ⟨rfl, k1⟩;replace K := K.step k1;clear k1;(try clear ww);revert w2;intro ww K))
  refine (K.clone64 (HR.out.below K.below) (by omega) hn0).mono ?_
  rintro e w2 ⟨g, cap, cur, rfl, hcl, K2⟩
  dsimp only
  replace K := K2
  clear K2 ww
  revert w2
  intro ww K
  go_wp2_with (first|((with_reducible refine at_load ?_);first|(refine wm_own (cs := ?_) (t := ?_) (v := ?_) K rfl _ _ rfl rfl ?_ ?_ ?_ ?_;rotate_left 2;(repeat (first|exact At.hd|refine At.tl ?_));rotate_left;(exact rfl);(with_reducible first|exact one45)))|((with_reducible refine at_store ?_);(first|(refine wm_put (L' := ?_) (cs := ?_) (new := ?_) (t := ?_) K rfl _ _ _ rfl rfl rfl rfl ?_ ?_ ?_ ?_ rfl rfl ?_;rotate_left 4;(repeat (first|exact Put.hd|(refine Put.tl (L' := ?_) ?_;rotate_left)));(exact Nat.le_of_ble_eq_true rfl);((simp only [List.setIfInBounds_toArray];exact rfl));(with_reducible first|exact one45)));(try clear K);(try clear ww);intro ww K;(try simp [go_sem] at K)))
  have HC := Lib.hid hcl
  clear hcl SM
  go_loopw [19] (fun i wr => ∃ (k : Nat) (cur : Array Value), k ≤ n ∧ i = .int .i64 k ∧ Hid (cur.size = cap ∧ cur.toList.take n = ints .i64 (T.take k ++ zs.drop k)) ∧ St w.heap.size w [(g, cur, 2), (b2, #[.int .i64 0, .int .i64 0, .int .i64 0, .int .i64 0, .int .i64 0, .slice none 0 0], 47), (b1, #[.int .i64 W, .int .i64 H, .int .i64 X, .int .i64 Y, .int .i64 S, .slice (some ⟨g, 0, none⟩) n cap], 47)] Any wr) (fun i _ => n - (intOf i).toNat)
  case atStart => exact ⟨0, cur, Nat.zero_le _, rfl, Lib.hid ⟨HC.out.2.2.1, by rw [List.take_zero, List.drop_zero, List.nil_append]; exact HC.out.2.2.2⟩, K⟩
  case round =>
    clear K
    obtain ⟨i, cur, hi, rfl, HU, K⟩ := hrel
    by_cases hlt : i < n
    · have hil : i < zs.length := by rw [HL.out]; exact hlt
      have hv := row_at HU.out.2 (mix_len HT.out HL.out hi) hlt
      rw [mix_get HT.out HL.out hlt] at hv
      have hg := HG.out i hlt
      have hnew := mix_set HT.out HL.out hlt
      rw [hg] at hnew
      have h3 := HZ.out _ (getD_mem hil)
      have h4 := HM.out _ (getD_mem hil)
      have hp := HP.out
      generalize zs.getD i 0 = z at *
      have ht : decide ((i : Int) < n) = true := decide_eq_true (by omega)
      have hin : i < cur.size := by rw [HU.out.1]; have := HC.out.1; omega
      have q0 : 0 ≤ z * 1073741824 / s := Int.ediv_nonneg (by omega) (by omega)
      have q1 : z * 1073741824 / s ≤ z * 1073741824 := Int.ediv_le_self _ (by omega)
      have MD : Hid (∀ w, Calls Try.prog 60 #[.int .i64 z, .int .i64 1073741824, .int .i64 s, .int .i64 0] w fun e w' => e = .returned (.tuple #[.int .i64 (z * 1073741824 / s), .int .i64 0]) ∧ Below w.heap.size w w') := Lib.hid (fun w => by
        have h := MulDiv_any z 1073741824 s 0 w (by omega) (by omega) (by omega) (by omega) (by omega) (by omega)
        rwa [divM_down (by omega) (by omega) (by omega)] at h)
      generalize z * 1073741824 / s = q at *
      have hput := row_put (i := i) (x := q) HU.out.2
      rw [hnew] at hput
      have HN := Lib.hid (And.intro (show (cur.setIfInBounds i (.int .i64 q)).size = cap by rw [Array.size_setIfInBounds]; exact HU.out.1) hput)
      clear hil h3 h4 hp q0 q1 hg hnew hput
      go_wp2_with (first|((with_reducible refine at_load ?_);first|(refine wm_own (cs := ?_) (t := ?_) (v := ?_) K rfl _ _ rfl rfl ?_ ?_ ?_ ?_;rotate_left 2;(repeat (exact At.hd));rotate_left;(assumption);(with_reducible first|exact one2))))
      refine wm_held _ [(true, 0), (true, 1), (true, 2), (true, 3), (true, 4), (false, 5), (true, 6), (true, 7), (true, 8), (true, 9), (false, 10)] K sbc1 (by kernel_rfl) (by kernel_rfl) ?_; (try clear K); (try clear ww); intro ww K; (try simp [go_sem] at K); simp only [pick, List.getElem?_toArray, List.getElem?_cons_succ, List.getElem?_cons_zero]
      repeat (first|((with_reducible refine ht_load ?_);first|(refine hm_own (cs := ?_) (t := ?_) (v := ?_) rfl _ _ rfl rfl ?_ ?_ ?_ ?_;rotate_left 2;(repeat (first|exact At.hd|refine At.tl ?_));rotate_left;(exact rfl);(with_reducible first|exact one45)))|(refine held_take (fun K' hK' => ?_);go_simp;first|(apply Exists.intro;refine ⟨?_, hK' _ ?_⟩;(intro _ _;rfl);clear hK' K'))|((with_reducible refine ht_store ?_);first|(refine hm_put (L' := ?_) (cs := ?_) (new := ?_) (t := ?_) K rfl _ _ _ rfl rfl rfl rfl ?_ ?_ ?_ ?_ rfl rfl ?_;rotate_left 4;(repeat (exact Put.hd));(omega);(exact rfl);(with_reducible first|exact one2);(try clear K);(try clear ww);intro ww K;(try simp [go_sem] at K);refine ⟨(by apply via sbc1;first|exact K), ?_⟩))|(refine held_do (fun K' hK' => ?_);go_simp;go_at_call 60;(with_reducible refine (MD.out _).mono ?_);rintro e w2 ⟨rfl, k1⟩;replace K := K.step k1;clear k1;(try clear ww);revert w2;intro ww K;(try dsimp only);refine hK' _ _ (by apply via sbc1;first|exact K) ?_;clear hK' K'))
      refine held_nil ?_
      go_wp2_with fail
      exact ⟨⟨i + 1, _, by omega, by go_num, HN, K⟩, by simp [intOf]; omega⟩
    · obtain rfl : n = i := by omega
      have ht : decide ((n : Int) < n) = false := decide_eq_false (by omega)
      have hlast : cur.toList.take n = ints .i64 T := by
        rw [HU.out.2, List.take_of_length_le (by rw [HT.out]; omega), List.drop_of_length_le (by rw [HL.out]; omega), List.append_nil]
      have hcs : n ≤ cur.size := by rw [HU.out.1]; exact HC.out.1
      have HX := Lib.hid (And.intro hlast hcs)
      clear hlast hcs
      go_wp2_with (first|((with_reducible refine at_load ?_);first|(refine wm_load (cs := ?_) (t := ?_) (n := ?_) K rfl _ _ rfl rfl ?_ ?_ ?_ ?_;rotate_left 2;(repeat (first|exact At.hd|refine At.tl ?_));rotate_left;(with_reducible first|exact row47);(exact rfl)))|((with_reducible refine at_store ?_);(first|(refine wm_store (L' := ?_) (cs := ?_) (t := ?_) (n := ?_) K rfl _ _ _ rfl rfl rfl rfl ?_ ?_ ?_ ?_ ?_ ?_;rotate_left 3;(repeat (first|exact Put.hd|(refine Put.tl (L' := ?_) ?_;rotate_left)));rotate_left;(with_reducible first|exact row47);(exact rfl);(exact rfl);(simp [Ones, Value.oneCell'])));(try clear K);(try clear ww);intro ww K;(try simp [go_sem] at K)))
      refine bodyPost_ret (K.res2 rfl _ rfl (At.tl At.hd) (by (with_reducible first | exact row47)) (by (solve | exact rfl | simp)) rfl) rfl ?_
      exact ⟨some ⟨g, 0, none⟩, cap, rfl, ⟨(sl_take (K.get .hd) HX.out.1 HX.out.2).rd, Nw.mk _ _ _ (K.ge .hd)⟩, K.below⟩
end Go.Proofs.Yteancdipmpmjpaa
namespace Go.Proofs.Yteancdipmpmjpaa
open Go.RowKit
attribute [local irreducible] wpHeld wpTree wpList
set_option linter.unusedVariables false
theorem zeros_at (n : Nat) : ((nums .i64 (List.replicate n 0)).toArray : Array Value).size = n ∧ ((nums .i64 (List.replicate n 0)).toArray : Array Value).toList.take n = ints .i64 (List.replicate n 0) := by
  constructor
  · simp [nums]
  · simp [nums, ints]
end Go.Proofs.Yteancdipmpmjpaa
namespace Go.Proofs.Yteancdipmpmjpaa
open Go.RowKit
attribute [local irreducible] wpHeld wpTree wpList
set_option linter.unusedVariables false
theorem results_cc {P : Program} {w : World} {cs cs2 : Array Value} {t t2 : TypeId} {fn : Func} {p p2 r s : Tmp} {ty ty2 : TypeId} (h : fn.results = #[.cell p ty, .cell p2 ty2, .tmp r, .tmp s]) (tmps : Array Value) {g g2 : Nat} {d d2 : TypeDesc} (hp : tmps.getD p undef = .pointer (some ⟨g, 0, none⟩)) (hp2 : tmps.getD p2 undef = .pointer (some ⟨g2, 0, none⟩)) (hg : Has w g cs t) (hg2 : Has w g2 cs2 t2)
    (hu : P.underlying ty = some d) (hd : (match d with | .struct _ | .array _ _ => true | _ => false) = true) {n : Nat} (hi : (P.info? ty).map (·.size) = some n) (hn : cs.size = n)
    (hu2 : P.underlying ty2 = some d2) (hd2 : (match d2 with | .struct _ | .array _ _ => true | _ => false) = true) {n2 : Nat} (hi2 : (P.info? ty2).map (·.size) = some n2) (hn2 : cs2.size = n2) :
    (results fn tmps).run P w = .ok (.tuple #[.agg cs, .agg cs2, tmps.getD r undef, tmps.getD s undef]) w := by
  have hp' : tmps[p]?.getD undef = .pointer (some ⟨g, 0, none⟩) := by simpa using hp
  have hp2' : tmps[p2]?.getD undef = .pointer (some ⟨g2, 0, none⟩) := by simpa using hp2
  simp [results, h, hp', hp2', asAddr, run_loadVar_row w g t ty cs (0, 0) d hg hu hd (by rw [hn]; exact hi), run_loadVar_row w g2 t2 ty2 cs2 (0, 0) d2 hg2 hu2 hd2 (by rw [hn2]; exact hi2)]
theorem St.resCC {P : Program} {B : Nat} {w0 w : World} {L : List Blk} {F : World → Prop} (K : St B w0 L F w) {fn : Func} {p p2 r s : Tmp} {ty ty2 : TypeId} (h : fn.results = #[.cell p ty, .cell p2 ty2, .tmp r, .tmp s]) (tmps : Array Value) {g g2 : Nat} {cs cs2 : Array Value} {t t2 : TypeId} (hp : tmps.getD p undef = .pointer (some ⟨g, 0, none⟩)) (hp2 : tmps.getD p2 undef = .pointer (some ⟨g2, 0, none⟩)) (ha : At L g cs t) (ha2 : At L g2 cs2 t2)
    {n n2 : Nat} (hu : RowTy P ty n) (hn : cs.size = n) (hu2 : RowTy P ty2 n2) (hn2 : cs2.size = n2) {v2 v3 : Value} (hr : tmps.getD r undef = v2) (hs : tmps.getD s undef = v3) : (results fn tmps).run P w = .ok (.tuple #[.agg cs, .agg cs2, v2, v3]) w := by
  obtain ⟨d, h1, h2, h3⟩ := hu
  obtain ⟨d', h1', h2', h3'⟩ := hu2
  subst hr hs
  exact results_cc h tmps hp hp2 (K.get ha) (K.get ha2) h1 (by cases d <;> simp_all) h3 hn h1' (by cases d' <;> simp_all) h3' hn2
theorem wS_small {z : Int} (z0 : 0 ≤ z) (z1 : z ≤ 4611686018427387904) : wI z = #[.int .i64 0, .int .u64 z] := by
  unfold wI
  rw [show z / 18446744073709551616 = 0 by omega, show z % 18446744073709551616 = z by omega]
theorem MulS (x y p : Int) (w : World) (x0 : 0 ≤ x) (x1 : x ≤ 4611686018427387904) (y0 : 0 ≤ y) (y1 : y ≤ 4611686018427387904) (hp : x * y = p) (p0 : 0 ≤ p) (p1 : p ≤ 4611686018427387904) :
    Calls Try.prog 92 #[.int .i64 x, .int .i64 y] w fun e w' => e = .returned (.agg #[.int .i64 0, .int .u64 p]) ∧ Below w.heap.size w w' := by
  have h := Mul_wide x y w (by omega) (by omega) (by omega) (by omega)
  rwa [hp, wS_small p0 p1] at h
theorem AddS (x y : Int) (w : World) (x0 : 0 ≤ x) (x1 : x ≤ 2305843009213693952) (y0 : 0 ≤ y) (y1 : y ≤ 2305843009213693952) :
    Calls Try.prog 91 #[.agg #[.int .i64 0, .int .u64 x], .agg #[.int .i64 0, .int .u64 y]] w fun e w' => e = .returned (.tuple #[.agg #[.int .i64 0, .int .u64 (x + y)], .bool true]) ∧ Below w.heap.size w w' := by
  have h := Add_any x y w (by omega) (by omega) (by omega) (by omega)
  have hf : fits128 (x + y) = true := by unfold fits128; rw [decide_eq_true (by omega), decide_eq_true (by omega)]; rfl
  have hw : wrap128 (x + y) = x + y := by unfold wrap128; omega
  rwa [hf, hw, wS_small x0 (by omega), wS_small y0 (by omega), wS_small (show 0 ≤ x + y by omega) (by omega)] at h
theorem SignS (z : Int) (w : World) (z0 : 0 ≤ z) (z1 : z ≤ 4611686018427387904) :
    Calls Try.prog 59 #[.agg #[.int .i64 0, .int .u64 z]] w fun e w' => e = .returned (.int .i64 (cmpI z 0)) ∧ Below w.heap.size w w' := by
  have h := Sign_any z w
  rwa [wS_small z0 z1] at h
end Go.Proofs.Yteancdipmpmjpaa
namespace Go.Proofs.Yteancdipmpmjpaa
open Go.RowKit
attribute [local irreducible] wpHeld wpTree wpList
set_option linter.unusedVariables false
set_option maxRecDepth 100000 in
set_option maxHeartbeats 2000000 in
theorem GWeigh14_none (W H X Y S : Int) (A A2 : Option Addr) (n c c2 : Nat) (zs ls : List Int) (w : World) (h : Rd w A n (ints .i64 zs)) (h2 : Rd w A2 n (ints .i64 ls)) (hb : ∀ z ∈ zs, 0 ≤ z ∧ z ≤ 1073741824) (hb2 : ∀ z ∈ ls, 0 ≤ z ∧ z ≤ 65536) (hn : n ≤ 5000) (hp : isum (wgh zs ls) = 0) :
    Calls Try.prog 44 #[.agg #[.int .i64 W, .int .i64 H, .int .i64 X, .int .i64 Y, .int .i64 S, .slice A n c], .slice A2 n c2] w fun e w' => e = .returned (.tuple #[.agg #[.int .i64 W, .int .i64 H, .int .i64 X, .int .i64 Y, .int .i64 S, .slice A n c], .agg #[.int .i64 0, .int .u64 (isum (wgh zs ls))], .int .i64 (imax ls), .int .i64 7]) ∧ Below w.heap.size w w' := by
  have K := St.start w
  have hl : zs.length = n := by rw [← h.1, ints_len]
  have hl2 : ls.length = n := by rw [← h2.1, ints_len]
  have HW := Lib.hid (wgh_len hl hl2)
  have HG := Lib.hid (fun i (hi : i < n) => wgh_get (i := i) hl hl2 hi)
  have hwb := wgh_bd hb hb2
  have HBP := Lib.hid hwb
  have HM : Hid (∀ p ∈ wgh zs ls, p ≤ isum (wgh zs ls)) := Lib.hid fun z hz => isum_mem (fun z hz => (hwb z hz).1) hz
  have HTK := Lib.hid (fun k => isum_take_le (l := wgh zs ls) (fun z hz => (hwb z hz).1) k)
  have HT0 := Lib.hid (fun k => isum_nonneg (l := (wgh zs ls).take k) (fun z hz => (hwb z (List.mem_of_mem_take hz)).1))
  have HBM := Lib.hid (fun k => imax_bd (M := 65536) (l := ls.take k) (by omega) fun z hz => (hb2 z (List.mem_of_mem_take hz)).2)
  have hs := (isum_bd (M := 70368744177664) (l := wgh zs ls) (by omega) (fun z hz => by have := hwb z hz; omega)).2
  rw [wgh_len hl hl2] at hs
  have HZ := Lib.hid hb
  have HL65 := Lib.hid hb2
  have HR := Lib.hid h
  have HR2 := Lib.hid h2
  have HL := Lib.hid hl
  have HL2 := Lib.hid hl2
  obtain ⟨s, hsd⟩ : ∃ s, isum (wgh zs ls) = s := ⟨_, rfl⟩
  rw [hsd] at hs hp HM HTK
  rw [hsd]
  have HSD := Lib.hid hsd
  have HP := Lib.hid (And.intro hp hs)
  have hneq : ((n : Int) != (n : Int)) = false := by simp
  clear h h2 hb hb2 hl hl2 hwb hp hs hsd
  go_enter Try.func44, Try.ntmps44
  go_wp2_with (first|((with_reducible refine at_load ?_);first|(refine wm_own (cs := ?_) (t := ?_) (v := ?_) K rfl _ _ rfl rfl ?_ ?_ ?_ ?_;rotate_left 2;(repeat (first|exact At.hd|refine At.tl ?_));rotate_left;(exact rfl);(with_reducible first|exact one45)))|((with_reducible refine at_store ?_);(first|(refine wm_store (L' := ?_) (cs := ?_) (t := ?_) (n := ?_) K rfl _ _ _ rfl rfl rfl rfl ?_ ?_ ?_ ?_ ?_ ?_;rotate_left 3;(repeat (exact Put.hd));rotate_left;(with_reducible first|exact row27);(exact rfl);(exact rfl);(simp [Ones, Value.oneCell'])));(try clear K);(try clear ww);intro ww K;(try simp [go_sem] at K))|((first|((with_reducible refine at_box ?_);refine wm_box K rfl _ _ rfl rfl rfl ?_)|((with_reducible refine at_alloc ?_);refine wm_alloc (v := ?_) (cs := ?_) K rfl _ rfl ?_ ?_ ?_;rotate_left;(with_reducible first|exact zero27|exact zero47);rotate_left;exact rfl));(try clear K);(try clear ww);(first|((fail_if_success (have _h := b2));intro b2 ww K)|((fail_if_success (have _h := b4));intro b4 ww K)|((fail_if_success (have _h := b5));intro b5 ww K)|((fail_if_success (have _h := b8));intro b8 ww K));(try simp [go_sem, Value.cells] at K)))
  go_loopw [9, 27] (fun mv i wr => ∃ (k : Nat), k ≤ n ∧ i = .int .i64 k ∧ mv = .int .i64 (imax (ls.take k)) ∧ St w.heap.size w [(b8, #[.int .i64 0, .int .u64 (isum ((wgh zs ls).take k))], 27), (b5, #[.int .i64 0, .int .u64 0], 27), (b4, #[.int .i64 0, .int .i64 0, .int .i64 0, .int .i64 0, .int .i64 0, .slice none 0 0], 47), (b2, #[.int .i64 W, .int .i64 H, .int .i64 X, .int .i64 Y, .int .i64 S, .slice A n c], 47)] Any wr) (fun _ i _ => n - (intOf i).toNat)
  case atStart => exact ⟨0, Nat.zero_le _, rfl, rfl, K⟩
  case round =>
    clear K
    obtain ⟨i, hi, rfl, rfl, K⟩ := hrel
    by_cases hlt : i < n
    · obtain ⟨b, off, rfl, hb, hc⟩ := HR.out.get hlt
      obtain ⟨b', off', rfl, hb', hc'⟩ := HR2.out.get hlt
      have hil : i < zs.length := by rw [HL.out]; exact hlt
      have hil2 : i < ls.length := by rw [HL2.out]; exact hlt
      have hiw : i < (wgh zs ls).length := by rw [HW.out]; exact hlt
      have hv := hc i _ (ints_get .i64 zs i hil)
      have hv' := hc' i _ (ints_get .i64 ls i hil2)
      have hsn := isum_snoc (wgh zs ls) i hiw
      rw [HG.out i hlt] at hsn
      have hmx := imax_snoc hil2
      have h1 := HTK.out i
      have h1' := HTK.out (i + 1)
      have h2 := HT0.out i
      have h3 := HBP.out _ (getD_mem hiw)
      rw [HG.out i hlt] at h3
      have hz := HZ.out _ (getD_mem hil)
      have hll := HL65.out _ (getD_mem hil2)
      have hp := HP.out
      obtain ⟨s', hs'⟩ : ∃ s', isum ((wgh zs ls).take (i + 1)) = s' := ⟨_, rfl⟩
      obtain ⟨m', hm'⟩ : ∃ m', imax (ls.take (i + 1)) = m' := ⟨_, rfl⟩
      rw [hs'] at hsn h1'
      rw [hm'] at hmx
      have HS := Lib.hid hs'
      have HM' := Lib.hid hm'
      clear hs' hm'
      generalize zs.getD i 0 = z at *
      generalize ls.getD i 0 = l at *
      generalize isum ((wgh zs ls).take i) = t at *
      generalize imax (ls.take i) = m at *
      have ht : decide ((i : Int) < n) = true := decide_eq_true (by omega)
      have t1 : decide (l < 0) = false := decide_eq_false (by omega)
      have t2 : decide (65536 < l) = false := decide_eq_false (by omega)
      obtain ⟨p, hpz⟩ : ∃ p, z * l = p := ⟨_, rfl⟩
      rw [hpz] at hsn h3
      have ML := Lib.hid (fun w => MulS z l p w hz.1 (by omega) hll.1 (by omega) hpz h3.1 (by omega))
      have AD := Lib.hid (fun w => AddS t p w h2 (by omega) h3.1 (by omega))
      rw [← hsn] at AD
      have em : max m l = m' := hmx.symm
      clear hc hc' hil hil2 hiw hsn h1 h1' h2 h3 hz hll hp hpz hmx
      go_wp2_with (first|((with_reducible refine at_load ?_);first|(refine wm_cell (v := ?_) rfl _ _ rfl rfl ?_ ?_ ?_;rotate_left;(first|exact (K.below.cell (by assumption)).trans (by assumption));(with_reducible first|exact one2))))
      refine wm_tree _ (.take 1 (.take 2 (.take 3 (.take 4 (.take 5 (.alt 0 (.alt 6 (.alt 7 (.take 8 (.take 9 (.take 10 (.alt 11 .done .stop)))) .stop) .stop) (.alt 6 (.alt 0 (.alt 7 (.take 8 (.take 9 (.take 10 (.alt 11 .done .stop)))) .stop) .stop) .stop))))))) K sbc1 (by kernel_rfl) (by kernel_rfl) ?_; (try clear K); (try clear ww); intro ww K; (try simp [go_sem] at K)
      repeat' (first|exact tree_stop|(refine tm_farD (v := ?_) rfl rfl _ _ rfl rfl (fun ww K => ?_) ?_ ?_;rotate_left;(first|exact (K.below.cell (by assumption)).trans (by assumption));(with_reducible first|exact one2))|(refine tree_take (fun K' hK' => ?_);simp only [opAt, List.getElem?_toArray, List.getElem?_cons_succ, List.getElem?_cons_zero, Option.getD_some];go_simp;first|(apply Exists.intro;refine ⟨?_, hK' _ ?_⟩;(intro _ _;rfl);clear hK' K'))|(refine tm_nowRow (cs := ?_) (t0 := ?_) (n := ?_) K rfl rfl _ _ rfl rfl ?_ ?_ ?_ (by apply via sbc1;first|exact K) ?_ ?_;rotate_left 2;(repeat (exact At.hd));rotate_left;(with_reducible first|exact row27);(exact rfl))|(refine tree_alt (fun K' hK' => ?_) ?_;simp only [opAt, List.getElem?_toArray, List.getElem?_cons_succ, List.getElem?_cons_zero, Option.getD_some];go_simp;go_at_call 92;(with_reducible refine (ML.out _).mono ?_);rintro e w2 ⟨rfl, k1⟩;replace K := K.step k1;clear k1;(try clear ww);revert w2;intro ww K;(try dsimp only);refine hK' _ _ (by apply via sbc1;first|exact K) ?_;clear hK' K')|(refine tree_alt (fun K' hK' => ?_) ?_;simp only [opAt, List.getElem?_toArray, List.getElem?_cons_succ, List.getElem?_cons_zero, Option.getD_some];go_simp;go_at_call 91;(with_reducible refine (AD.out _).mono ?_);rintro e w2 ⟨rfl, k1⟩;replace K := K.step k1;clear k1;(try clear ww);revert w2;intro ww K;(try dsimp only);refine hK' _ _ (by apply via sbc1;first|exact K) ?_;clear hK' K')|(refine tm_store (L' := ?_) (cs := ?_) (t0 := ?_) (n := ?_) K rfl rfl _ _ _ rfl rfl rfl rfl ?_ ?_ ?_ ?_ ?_ ?_ ?_;rotate_left 3;(repeat (exact Put.hd));rotate_left;(with_reducible first|exact row27);(exact rfl);(exact rfl);(simp [Ones, Value.oneCell']);intro ww2 K2;(try simp [go_sem] at K2);refine ⟨(by apply via sbc1;first|exact K2), ?_⟩;replace K := K2;clear K2;(try clear ww);revert ww2;intro ww K))
      all_goals refine tree_done ?_
      all_goals (try simp only [opAt, List.getElem?_toArray, List.getElem?_cons_succ, List.getElem?_cons_zero, Option.getD_some])
      all_goals (try go_simp)
      all_goals go_wp2_with (first|((with_reducible refine at_load ?_);first|(refine wm_cell (v := ?_) rfl _ _ rfl rfl ?_ ?_ ?_;rotate_left;(first|exact (K.below.cell (by assumption)).trans (by assumption));(with_reducible first|exact one2))))
      all_goals exact ⟨⟨i + 1, by omega, by go_num, by rw [HM'.out], by rw [HS.out]; exact K⟩, by simp [intOf]; omega⟩
    · obtain rfl : n = i := by omega
      have ht : decide ((n : Int) < n) = false := decide_eq_false (by omega)
      have hz : (wgh zs ls).take n = wgh zs ls := List.take_of_length_le (by rw [HW.out]; omega)
      have hz2 : ls.take n = ls := List.take_of_length_le (by rw [HL2.out]; omega)
      rw [hz, HSD.out] at K
      rw [hz2]
      clear hz hz2
      have hp := HP.out
      have SG : Hid (∀ w, Calls Try.prog 59 #[.agg #[.int .i64 0, .int .u64 s]] w fun e w' => e = .returned (.int .i64 0) ∧ Below w.heap.size w w') := Lib.hid (fun w => by
        have h := SignS s w (by omega) (by omega)
        rwa [hp.1] at h ⊢)
      clear hp
      go_wp2_with (first|((with_reducible refine at_load ?_);first|(refine wm_load (cs := ?_) (t := ?_) (n := ?_) K rfl _ _ rfl rfl ?_ ?_ ?_ ?_;rotate_left 2;(repeat (exact At.hd));rotate_left;(with_reducible first|exact row27);(exact rfl)))|(go_at_call 59;(with_reducible refine (SG.out _).mono ?_);rintro e w2 ⟨rfl, k1⟩;replace K := K.step k1;clear k1;(try clear ww);revert w2;intro ww K))
      refine wm_held _ [(true, 0), (true, 1), (true, 2), (false, 3), (false, 4), (true, 5), (true, 6)] K (List.Sublist.cons_cons _ (List.Sublist.cons _ sbc1)) (by kernel_rfl) (by kernel_rfl) ?_; (try clear K); (try clear ww); intro ww K; (try simp [go_sem] at K); simp only [pick, List.getElem?_toArray, List.getElem?_cons_succ, List.getElem?_cons_zero]
      repeat (first|((with_reducible refine ht_load ?_);first|(refine hm_load (cs := ?_) (t := ?_) (n := ?_) rfl _ _ rfl rfl ?_ ?_ ?_ ?_;rotate_left 2;(repeat (first|exact At.hd|refine At.tl ?_));rotate_left;(with_reducible first|exact row27|exact row47);(exact rfl)))|(refine held_take (fun K' hK' => ?_);go_simp;first|(apply Exists.intro;refine ⟨?_, hK' _ ?_⟩;(intro _ _;rfl);clear hK' K'))|((with_reducible refine ht_store ?_);first|(refine hm_store (L' := ?_) (cs := ?_) (t := ?_) (n := ?_) K rfl _ _ _ rfl rfl rfl rfl ?_ ?_ ?_ ?_ ?_ ?_;rotate_left 3;(repeat (first|exact Put.hd|(refine Put.tl (L' := ?_) ?_;rotate_left)));rotate_left;(with_reducible first|exact row27|exact row47);(exact rfl);(exact rfl);(simp [Ones, Value.oneCell']);(try clear K);(try clear ww);intro ww K;(try simp [go_sem] at K);refine ⟨(by apply via (List.Sublist.cons_cons _ (List.Sublist.cons _ sbc1));first|exact K), ?_⟩)))
      refine held_nil ?_
      go_wp2_with fail
      refine bodyPost_ret (K.resCC rfl _ rfl rfl (At.tl (At.tl At.hd)) (At.tl At.hd) (by (with_reducible first|exact row47)) (by (exact rfl)) (by (with_reducible first|exact row27)) (by (exact rfl)) rfl rfl) rfl ?_
      exact ⟨rfl, K.below⟩
set_option maxRecDepth 100000 in
set_option maxHeartbeats 2000000 in
theorem GWeigh14 (W H X Y S : Int) (A A2 : Option Addr) (n c c2 : Nat) (zs ls : List Int) (w : World) (h : Rd w A n (ints .i64 zs)) (h2 : Rd w A2 n (ints .i64 ls)) (hb : ∀ z ∈ zs, 0 ≤ z ∧ z ≤ 1073741824) (hb2 : ∀ z ∈ ls, 0 ≤ z ∧ z ≤ 65536) (hn : n ≤ 5000) (hp : 0 < isum (wgh zs ls)) :
    Calls Try.prog 44 #[.agg #[.int .i64 W, .int .i64 H, .int .i64 X, .int .i64 Y, .int .i64 S, .slice A n c], .slice A2 n c2] w fun e w' => ∃ A3 c3, e = .returned (.tuple #[.agg #[.int .i64 W, .int .i64 H, .int .i64 X, .int .i64 Y, .int .i64 S, .slice A3 n c3], .agg #[.int .i64 0, .int .u64 (isum (wgh zs ls))], .int .i64 (imax ls), .int .i64 0]) ∧ (Rd w' A3 n (ints .i64 (norm14 (isum (wgh zs ls)) (wgh zs ls))) ∧ Nw w.heap.size A3) ∧ Below w.heap.size w w' := by
  have K := St.start w
  have hl : zs.length = n := by rw [← h.1, ints_len]
  have hl2 : ls.length = n := by rw [← h2.1, ints_len]
  have HW := Lib.hid (wgh_len hl hl2)
  have HG := Lib.hid (fun i (hi : i < n) => wgh_get (i := i) hl hl2 hi)
  have hwb := wgh_bd hb hb2
  have HBP := Lib.hid hwb
  have HM : Hid (∀ p ∈ wgh zs ls, p ≤ isum (wgh zs ls)) := Lib.hid fun z hz => isum_mem (fun z hz => (hwb z hz).1) hz
  have HTK := Lib.hid (fun k => isum_take_le (l := wgh zs ls) (fun z hz => (hwb z hz).1) k)
  have HT0 := Lib.hid (fun k => isum_nonneg (l := (wgh zs ls).take k) (fun z hz => (hwb z (List.mem_of_mem_take hz)).1))
  have HBM := Lib.hid (fun k => imax_bd (M := 65536) (l := ls.take k) (by omega) fun z hz => (hb2 z (List.mem_of_mem_take hz)).2)
  have hs := (isum_bd (M := 70368744177664) (l := wgh zs ls) (by omega) (fun z hz => by have := hwb z hz; omega)).2
  rw [wgh_len hl hl2] at hs
  have HZ := Lib.hid hb
  have HL65 := Lib.hid hb2
  have HR := Lib.hid h
  have HR2 := Lib.hid h2
  have HL := Lib.hid hl
  have HL2 := Lib.hid hl2
  obtain ⟨s, hsd⟩ : ∃ s, isum (wgh zs ls) = s := ⟨_, rfl⟩
  rw [hsd] at hs hp HM HTK
  rw [hsd]
  have HSD := Lib.hid hsd
  have HP := Lib.hid (And.intro hp hs)
  have hneq : ((n : Int) != (n : Int)) = false := by simp
  clear h h2 hb hb2 hl hl2 hwb hp hs hsd
  go_enter Try.func44, Try.ntmps44
  go_wp2_with (first|((with_reducible refine at_load ?_);first|(refine wm_own (cs := ?_) (t := ?_) (v := ?_) K rfl _ _ rfl rfl ?_ ?_ ?_ ?_;rotate_left 2;(repeat (first|exact At.hd|refine At.tl ?_));rotate_left;(exact rfl);(with_reducible first|exact one45)))|((with_reducible refine at_store ?_);(first|(refine wm_store (L' := ?_) (cs := ?_) (t := ?_) (n := ?_) K rfl _ _ _ rfl rfl rfl rfl ?_ ?_ ?_ ?_ ?_ ?_;rotate_left 3;(repeat (exact Put.hd));rotate_left;(with_reducible first|exact row27);(exact rfl);(exact rfl);(simp [Ones, Value.oneCell'])));(try clear K);(try clear ww);intro ww K;(try simp [go_sem] at K))|((first|((with_reducible refine at_box ?_);refine wm_box K rfl _ _ rfl rfl rfl ?_)|((with_reducible refine at_alloc ?_);refine wm_alloc (v := ?_) (cs := ?_) K rfl _ rfl ?_ ?_ ?_;rotate_left;(with_reducible first|exact zero27|exact zero47);rotate_left;exact rfl));(try clear K);(try clear ww);(first|((fail_if_success (have _h := b2));intro b2 ww K)|((fail_if_success (have _h := b4));intro b4 ww K)|((fail_if_success (have _h := b5));intro b5 ww K)|((fail_if_success (have _h := b8));intro b8 ww K));(try simp [go_sem, Value.cells] at K)))
  go_loopw [9, 27] (fun mv i wr => ∃ (k : Nat), k ≤ n ∧ i = .int .i64 k ∧ mv = .int .i64 (imax (ls.take k)) ∧ St w.heap.size w [(b8, #[.int .i64 0, .int .u64 (isum ((wgh zs ls).take k))], 27), (b5, #[.int .i64 0, .int .u64 0], 27), (b4, #[.int .i64 0, .int .i64 0, .int .i64 0, .int .i64 0, .int .i64 0, .slice none 0 0], 47), (b2, #[.int .i64 W, .int .i64 H, .int .i64 X, .int .i64 Y, .int .i64 S, .slice A n c], 47)] Any wr) (fun _ i _ => n - (intOf i).toNat)
  case atStart => exact ⟨0, Nat.zero_le _, rfl, rfl, K⟩
  case round =>
    clear K
    obtain ⟨i, hi, rfl, rfl, K⟩ := hrel
    by_cases hlt : i < n
    · obtain ⟨b, off, rfl, hb, hc⟩ := HR.out.get hlt
      obtain ⟨b', off', rfl, hb', hc'⟩ := HR2.out.get hlt
      have hil : i < zs.length := by rw [HL.out]; exact hlt
      have hil2 : i < ls.length := by rw [HL2.out]; exact hlt
      have hiw : i < (wgh zs ls).length := by rw [HW.out]; exact hlt
      have hv := hc i _ (ints_get .i64 zs i hil)
      have hv' := hc' i _ (ints_get .i64 ls i hil2)
      have hsn := isum_snoc (wgh zs ls) i hiw
      rw [HG.out i hlt] at hsn
      have hmx := imax_snoc hil2
      have h1 := HTK.out i
      have h1' := HTK.out (i + 1)
      have h2 := HT0.out i
      have h3 := HBP.out _ (getD_mem hiw)
      rw [HG.out i hlt] at h3
      have hz := HZ.out _ (getD_mem hil)
      have hll := HL65.out _ (getD_mem hil2)
      have hp := HP.out
      obtain ⟨s', hs'⟩ : ∃ s', isum ((wgh zs ls).take (i + 1)) = s' := ⟨_, rfl⟩
      obtain ⟨m', hm'⟩ : ∃ m', imax (ls.take (i + 1)) = m' := ⟨_, rfl⟩
      rw [hs'] at hsn h1'
      rw [hm'] at hmx
      have HS := Lib.hid hs'
      have HM' := Lib.hid hm'
      clear hs' hm'
      generalize zs.getD i 0 = z at *
      generalize ls.getD i 0 = l at *
      generalize isum ((wgh zs ls).take i) = t at *
      generalize imax (ls.take i) = m at *
      have ht : decide ((i : Int) < n) = true := decide_eq_true (by omega)
      have t1 : decide (l < 0) = false := decide_eq_false (by omega)
      have t2 : decide (65536 < l) = false := decide_eq_false (by omega)
      obtain ⟨p, hpz⟩ : ∃ p, z * l = p := ⟨_, rfl⟩
      rw [hpz] at hsn h3
      have ML := Lib.hid (fun w => MulS z l p w hz.1 (by omega) hll.1 (by omega) hpz h3.1 (by omega))
      have AD := Lib.hid (fun w => AddS t p w h2 (by omega) h3.1 (by omega))
      rw [← hsn] at AD
      have em : max m l = m' := hmx.symm
      clear hc hc' hil hil2 hiw hsn h1 h1' h2 h3 hz hll hp hpz hmx
      go_wp2_with (first|((with_reducible refine at_load ?_);first|(refine wm_cell (v := ?_) rfl _ _ rfl rfl ?_ ?_ ?_;rotate_left;(first|exact (K.below.cell (by assumption)).trans (by assumption));(with_reducible first|exact one2))))
      refine wm_tree _ (.take 1 (.take 2 (.take 3 (.take 4 (.take 5 (.alt 0 (.alt 6 (.alt 7 (.take 8 (.take 9 (.take 10 (.alt 11 .done .stop)))) .stop) .stop) (.alt 6 (.alt 0 (.alt 7 (.take 8 (.take 9 (.take 10 (.alt 11 .done .stop)))) .stop) .stop) .stop))))))) K sbc1 (by kernel_rfl) (by kernel_rfl) ?_; (try clear K); (try clear ww); intro ww K; (try simp [go_sem] at K)
      repeat' (first|exact tree_stop|(refine tm_farD (v := ?_) rfl rfl _ _ rfl rfl (fun ww K => ?_) ?_ ?_;rotate_left;(first|exact (K.below.cell (by assumption)).trans (by assumption));(with_reducible first|exact one2))|(refine tree_take (fun K' hK' => ?_);simp only [opAt, List.getElem?_toArray, List.getElem?_cons_succ, List.getElem?_cons_zero, Option.getD_some];go_simp;first|(apply Exists.intro;refine ⟨?_, hK' _ ?_⟩;(intro _ _;rfl);clear hK' K'))|(refine tm_nowRow (cs := ?_) (t0 := ?_) (n := ?_) K rfl rfl _ _ rfl rfl ?_ ?_ ?_ (by apply via sbc1;first|exact K) ?_ ?_;rotate_left 2;(repeat (exact At.hd));rotate_left;(with_reducible first|exact row27);(exact rfl))|(refine tree_alt (fun K' hK' => ?_) ?_;simp only [opAt, List.getElem?_toArray, List.getElem?_cons_succ, List.getElem?_cons_zero, Option.getD_some];go_simp;go_at_call 92;(with_reducible refine (ML.out _).mono ?_);rintro e w2 ⟨rfl, k1⟩;replace K := K.step k1;clear k1;(try clear ww);revert w2;intro ww K;(try dsimp only);refine hK' _ _ (by apply via sbc1;first|exact K) ?_;clear hK' K')|(refine tree_alt (fun K' hK' => ?_) ?_;simp only [opAt, List.getElem?_toArray, List.getElem?_cons_succ, List.getElem?_cons_zero, Option.getD_some];go_simp;go_at_call 91;(with_reducible refine (AD.out _).mono ?_);rintro e w2 ⟨rfl, k1⟩;replace K := K.step k1;clear k1;(try clear ww);revert w2;intro ww K;(try dsimp only);refine hK' _ _ (by apply via sbc1;first|exact K) ?_;clear hK' K')|(refine tm_store (L' := ?_) (cs := ?_) (t0 := ?_) (n := ?_) K rfl rfl _ _ _ rfl rfl rfl rfl ?_ ?_ ?_ ?_ ?_ ?_ ?_;rotate_left 3;(repeat (exact Put.hd));rotate_left;(with_reducible first|exact row27);(exact rfl);(exact rfl);(simp [Ones, Value.oneCell']);intro ww2 K2;(try simp [go_sem] at K2);refine ⟨(by apply via sbc1;first|exact K2), ?_⟩;replace K := K2;clear K2;(try clear ww);revert ww2;intro ww K))
      all_goals refine tree_done ?_
      all_goals (try simp only [opAt, List.getElem?_toArray, List.getElem?_cons_succ, List.getElem?_cons_zero, Option.getD_some])
      all_goals (try go_simp)
      all_goals go_wp2_with (first|((with_reducible refine at_load ?_);first|(refine wm_cell (v := ?_) rfl _ _ rfl rfl ?_ ?_ ?_;rotate_left;(first|exact (K.below.cell (by assumption)).trans (by assumption));(with_reducible first|exact one2))))
      all_goals exact ⟨⟨i + 1, by omega, by go_num, by rw [HM'.out], by rw [HS.out]; exact K⟩, by simp [intOf]; omega⟩
    · obtain rfl : n = i := by omega
      have ht : decide ((n : Int) < n) = false := decide_eq_false (by omega)
      have hz : (wgh zs ls).take n = wgh zs ls := List.take_of_length_le (by rw [HW.out]; omega)
      have hz2 : ls.take n = ls := List.take_of_length_le (by rw [HL2.out]; omega)
      rw [hz, HSD.out] at K
      rw [hz2]
      clear hz hz2
      have hp := HP.out
      have SG : Hid (∀ w, Calls Try.prog 59 #[.agg #[.int .i64 0, .int .u64 s]] w fun e w' => e = .returned (.int .i64 1) ∧ Below w.heap.size w w') := Lib.hid (fun w => by
        have h := SignS s w (by omega) (by omega)
        rwa [show cmpI s 0 = 1 by unfold cmpI; rw [if_neg (by omega), if_neg (by omega)]] at h)
      obtain ⟨T, hT⟩ : ∃ T, norm14 s (wgh zs ls) = T := ⟨_, rfl⟩
      have HT : Hid (T.length = n) := Lib.hid (by rw [← hT, norm_len, HW.out])
      have HGT : Hid (∀ i, i < n → T.getD i 0 = (wgh zs ls).getD i 0 * 1073741824 / s) := Lib.hid (fun i hi => by rw [← hT]; exact norm_get _ _ _ (by rw [HW.out]; exact hi))
      have HTt := Lib.hid hT
      have hn0 : 0 < n := by
        rcases Nat.eq_zero_or_pos n with h0 | h0
        · have h1 := HW.out
          have h2 := HSD.out
          rw [h0] at h1
          rw [List.length_eq_zero_iff.1 h1] at h2
          simp [isum] at h2
          omega
        · exact h0
      have e1h : Hid (wrap64 s = s) := Lib.hid (by unfold wrap64; omega)
      have f1h : Hid (IntKind.i64.wrap s = s) := Lib.hid (IntWalk.i64_in _ (by omega))
      have hneq2 : ((1 : Int) == 0) = false := by decide
      clear hp hT
      have e1 := e1h.out
      have f1 := f1h.out
      go_wp2_with (first|((with_reducible refine at_load ?_);first|(refine wm_load (cs := ?_) (t := ?_) (n := ?_) K rfl _ _ rfl rfl ?_ ?_ ?_ ?_;rotate_left 2;(repeat (exact At.hd));rotate_left;(with_reducible first|exact row27);(exact rfl))|(refine wm_own (cs := ?_) (t := ?_) (v := ?_) K rfl _ _ rfl rfl ?_ ?_ ?_ ?_;rotate_left 2;(repeat (first|exact At.hd|refine At.tl ?_));rotate_left;(exact rfl);(with_reducible first|exact one23|exact one45)))|(go_at_call 59;(with_reducible refine (SG.out _).mono ?_);rintro e w2 ⟨rfl, k1⟩;replace K := K.step k1;clear k1;(try clear ww);revert w2;intro ww K))
      clear e1 f1 SG
      refine (K.clone64 (HR.out.below K.below) (by omega) hn0).mono ?_
      rintro e w2 ⟨g, cap, cur, rfl, hcl, K2⟩
      dsimp only
      replace K := K2
      clear K2 wr
      revert w2
      intro ww K
      go_wp2_with (first|((with_reducible refine at_load ?_);first|(refine wm_own (cs := ?_) (t := ?_) (v := ?_) K rfl _ _ rfl rfl ?_ ?_ ?_ ?_;rotate_left 2;(repeat (first|exact At.hd|refine At.tl ?_));rotate_left;(exact rfl);(with_reducible first|exact one45)))|((with_reducible refine at_store ?_);(first|(refine wm_put (L' := ?_) (cs := ?_) (new := ?_) (t := ?_) K rfl _ _ _ rfl rfl rfl rfl ?_ ?_ ?_ ?_ rfl rfl ?_;rotate_left 4;(repeat (first|exact Put.hd|(refine Put.tl (L' := ?_) ?_;rotate_left)));(exact Nat.le_of_ble_eq_true rfl);((simp only [List.setIfInBounds_toArray];exact rfl));(with_reducible first|exact one45)));(try clear K);(try clear ww);intro ww K;(try simp [go_sem] at K)))
      have HC := Lib.hid hcl
      clear hcl
      go_loopw [80] (fun i wr => ∃ (k : Nat) (cur : Array Value), k ≤ n ∧ i = .int .i64 k ∧ Hid (cur.size = cap ∧ cur.toList.take n = ints .i64 (T.take k ++ zs.drop k)) ∧ St w.heap.size w [(g, cur, 2), (b8, #[.int .i64 0, .int .u64 s], 27), (b5, #[.int .i64 0, .int .u64 0], 27), (b4, #[.int .i64 0, .int .i64 0, .int .i64 0, .int .i64 0, .int .i64 0, .slice none 0 0], 47), (b2, #[.int .i64 W, .int .i64 H, .int .i64 X, .int .i64 Y, .int .i64 S, .slice (some ⟨g, 0, none⟩) n cap], 47)] Any wr) (fun i _ => n - (intOf i).toNat)
      case atStart => exact ⟨0, cur, Nat.zero_le _, rfl, Lib.hid ⟨HC.out.2.2.1, by rw [List.take_zero, List.drop_zero, List.nil_append]; exact HC.out.2.2.2⟩, K⟩
      case round =>
        clear K
        obtain ⟨i, cur, hi, rfl, HU, K⟩ := hrel
        by_cases hlt : i < n
        · obtain ⟨b', off', rfl, hb', hc'⟩ := HR2.out.get hlt
          have hil2 : i < ls.length := by rw [HL2.out]; exact hlt
          have hiw : i < (wgh zs ls).length := by rw [HW.out]; exact hlt
          have hv' := hc' i _ (ints_get .i64 ls i hil2)
          have hv := row_at HU.out.2 (mix_len HT.out HL.out hi) hlt
          rw [mix_get HT.out HL.out hlt] at hv
          have hg := HGT.out i hlt
          have hnew := mix_set HT.out HL.out hlt
          rw [hg] at hnew
          have h3 := HBP.out _ (getD_mem hiw)
          have h4 := HM.out _ (getD_mem hiw)
          rw [HG.out i hlt] at h3 h4 hnew
          have hp := HP.out
          generalize zs.getD i 0 = z at *
          generalize ls.getD i 0 = l at *
          obtain ⟨p, hpz⟩ : ∃ p, z * l = p := ⟨_, rfl⟩
          rw [hpz] at h3 h4 hnew
          have ht : decide ((i : Int) < n) = true := decide_eq_true (by omega)
          have hin : i < cur.size := by rw [HU.out.1]; have := HC.out.1; omega
          have e1h : Hid (wrap64 (z * l) = p) := Lib.hid (by rw [hpz]; unfold wrap64; omega)
          have f1h : Hid (IntKind.i64.wrap (z * l) = p) := Lib.hid (by rw [hpz]; exact IntWalk.i64_in _ (by omega))
          have q1 : p * 1073741824 / s ≤ 1073741824 := Int.lt_add_one_iff.1 (Int.ediv_lt_of_lt_mul (by omega) (by omega))
          have q0 : 0 ≤ p * 1073741824 / s := Int.ediv_nonneg (by omega) (by omega)
          have MD : Hid (∀ w, Calls Try.prog 60 #[.int .i64 p, .int .i64 1073741824, .int .i64 s, .int .i64 0] w fun e w' => e = .returned (.tuple #[.int .i64 (p * 1073741824 / s), .int .i64 0]) ∧ Below w.heap.size w w') := Lib.hid (fun w => by
            have h := MulDiv_any p 1073741824 s 0 w (by omega) (by omega) (by omega) (by omega) (by omega) (by omega)
            rwa [divM_down (by omega) (by omega) (by omega)] at h)
          generalize p * 1073741824 / s = q at *
          have hput := row_put (i := i) (x := q) HU.out.2
          rw [hnew] at hput
          have HN := Lib.hid (And.intro (show (cur.setIfInBounds i (.int .i64 q)).size = cap by rw [Array.size_setIfInBounds]; exact HU.out.1) hput)
          clear hc' hil2 hiw h3 h4 hp q0 q1 hg hnew hput hpz
          have e1 := e1h.out
          have f1 := f1h.out
          go_wp2_with (first|((with_reducible refine at_load ?_);first|(refine wm_own (cs := ?_) (t := ?_) (v := ?_) K rfl _ _ rfl rfl ?_ ?_ ?_ ?_;rotate_left 2;(repeat (exact At.hd));rotate_left;(assumption);(with_reducible first|exact one2))))
          refine wm_held _ [(true, 0), (true, 1), (true, 2), (true, 3), (true, 4), (true, 5), (true, 6), (true, 7), (true, 8), (true, 9), (false, 10), (true, 11), (true, 12), (true, 13), (true, 14), (false, 15)] K sbc1 (by kernel_rfl) (by kernel_rfl) ?_; (try clear K); (try clear ww); intro ww K; (try simp [go_sem] at K); simp only [pick, List.getElem?_toArray, List.getElem?_cons_succ, List.getElem?_cons_zero]
          repeat (first|((with_reducible refine ht_load ?_);first|(refine hm_own (cs := ?_) (t := ?_) (v := ?_) rfl _ _ rfl rfl ?_ ?_ ?_ ?_;rotate_left 2;(repeat (first|exact At.hd|refine At.tl ?_));rotate_left;(first|exact rfl|assumption);(with_reducible first|exact one45))|(refine hm_cell (v := ?_) rfl _ _ rfl rfl (fun ww K => ?_) ?_ ?_;rotate_left;(first|exact (K.below.cell (by assumption)).trans (by assumption));(with_reducible first|exact one2)))|(refine held_take (fun K' hK' => ?_);go_simp;first|(apply Exists.intro;refine ⟨?_, hK' _ ?_⟩;(intro _ _;rfl);clear hK' K'))|((with_reducible refine ht_store ?_);first|(refine hm_put (L' := ?_) (cs := ?_) (new := ?_) (t := ?_) K rfl _ _ _ rfl rfl rfl rfl ?_ ?_ ?_ ?_ rfl rfl ?_;rotate_left 4;(repeat (exact Put.hd));(omega);(exact rfl);(with_reducible first|exact one2);(try clear K);(try clear ww);intro ww K;(try simp [go_sem] at K);refine ⟨(by apply via sbc1;first|exact K), ?_⟩))|(refine held_do (fun K' hK' => ?_);go_simp;go_at_call 60;(with_reducible refine (MD.out _).mono ?_);rintro e w2 ⟨rfl, k1⟩;replace K := K.step k1;clear k1;(try clear ww);revert w2;intro ww K;(try dsimp only);refine hK' _ _ (by apply via sbc1;first|exact K) ?_;clear hK' K'))
          refine held_nil ?_
          go_wp2_with fail
          clear e1 f1
          exact ⟨⟨i + 1, _, by omega, by go_num, HN, K⟩, by simp [intOf]; omega⟩
        · obtain rfl : n = i := by omega
          have ht : decide ((n : Int) < n) = false := decide_eq_false (by omega)
          have hlast : cur.toList.take n = ints .i64 T := by
            rw [HU.out.2, List.take_of_length_le (by rw [HT.out]; omega), List.drop_of_length_le (by rw [HL.out]; omega), List.append_nil]
          have hcs : n ≤ cur.size := by rw [HU.out.1]; exact HC.out.1
          have HX := Lib.hid (And.intro hlast hcs)
          clear hlast hcs
          go_wp2_with (fail)
          refine wm_held _ [(true, 0), (true, 1), (true, 2), (false, 3), (false, 4), (true, 5), (true, 6)] K (List.Sublist.cons_cons _ (List.Sublist.cons_cons _ (List.Sublist.cons _ sbc1))) (by kernel_rfl) (by kernel_rfl) ?_; (try clear K); (try clear ww); intro ww K; (try simp [go_sem] at K); simp only [pick, List.getElem?_toArray, List.getElem?_cons_succ, List.getElem?_cons_zero]
          repeat (first|((with_reducible refine ht_load ?_);first|(refine hm_load (cs := ?_) (t := ?_) (n := ?_) rfl _ _ rfl rfl ?_ ?_ ?_ ?_;rotate_left 2;(repeat (first|exact At.hd|refine At.tl ?_));rotate_left;(with_reducible first|exact row27|exact row47);(exact rfl)))|(refine held_take (fun K' hK' => ?_);go_simp;first|(apply Exists.intro;refine ⟨?_, hK' _ ?_⟩;(intro _ _;rfl);clear hK' K'))|((with_reducible refine ht_store ?_);first|(refine hm_store (L' := ?_) (cs := ?_) (t := ?_) (n := ?_) K rfl _ _ _ rfl rfl rfl rfl ?_ ?_ ?_ ?_ ?_ ?_;rotate_left 3;(repeat (first|exact Put.hd|(refine Put.tl (L' := ?_) ?_;rotate_left)));rotate_left;(with_reducible first|exact row27|exact row47);(exact rfl);(exact rfl);(simp [Ones, Value.oneCell']);(try clear K);(try clear ww);intro ww K;(try simp [go_sem] at K);refine ⟨(by apply via (List.Sublist.cons_cons _ (List.Sublist.cons_cons _ (List.Sublist.cons _ sbc1)));first|exact K), ?_⟩)))
          refine held_nil ?_
          go_wp2_with fail
          refine bodyPost_ret (K.resCC rfl _ rfl rfl (At.tl (At.tl (At.tl At.hd))) (At.tl (At.tl At.hd)) (by (with_reducible first|exact row47)) (by (exact rfl)) (by (with_reducible first|exact row27)) (by (exact rfl)) rfl rfl) rfl ?_
          exact ⟨some ⟨g, 0, none⟩, cap, rfl, ⟨by rw [HTt.out]; exact (sl_take (K.get .hd) HX.out.1 HX.out.2).rd, Nw.mk _ _ _ (K.ge .hd)⟩, K.below⟩
end Go.Proofs.Yteancdipmpmjpaa
namespace Go.Proofs.Yteancdipmpmjpaa
open Go.RowKit
attribute [local irreducible] wpHeld wpTree wpList
set_option linter.unusedVariables false
section
variable {B : Nat} {w0 w w' : World} {L : List Blk} {F : World → Prop}
theorem St.rnorm {W H X Y S : Int} {A : Option Addr} {n c : Nat} {zs : List Int} (K : St B w0 L F w) (h : Rd w A n (ints .i64 zs)) (hb : ∀ z ∈ zs, 0 ≤ z ∧ z ≤ 1073741824) (hn : n ≤ 5000) (hp : 0 < isum zs) :
    Calls Try.prog 39 #[.agg #[.int .i64 W, .int .i64 H, .int .i64 X, .int .i64 Y, .int .i64 S, .slice A n c]] w fun e w' => ∃ A2 c2, e = .returned (.tuple #[.agg #[.int .i64 W, .int .i64 H, .int .i64 X, .int .i64 Y, .int .i64 S, .slice A2 n c2], .int .i64 0]) ∧ Nw B A2 ∧ St B w0 L (fun w => Rd w A2 n (ints .i64 (norm14 (isum zs) zs)) ∧ F w) w' := by
  refine (RNorm14 W H X Y S A n c zs w h hb hn hp).mono ?_
  rintro e w' ⟨A2, c2, rfl, ⟨h1, h2⟩, h3⟩
  exact ⟨A2, c2, rfl, h2.mono K.size, K.madeRd h3 h1 h2⟩
end
set_option maxRecDepth 100000 in
theorem Weights14 (W H X Y S : Int) (A A2 : Option Addr) (n c len cap : Nat) (ls : List Int) (w : World) (h2 : Rd w A2 len (ints .u16 ls)) (hb2 : ∀ z ∈ ls, 0 ≤ z ∧ z ≤ 65535) (hn : n ≤ 5000) :
    Calls Try.prog 43 #[.agg #[.int .i64 W, .int .i64 H, .int .i64 X, .int .i64 Y, .int .i64 S, .slice A n c], .slice A2 len cap] w fun e w' => ∃ A3 c3, e = .returned (.slice A3 n c3) ∧ (Rd w' A3 n (ints .i64 (wts14 n ls)) ∧ Nw w.heap.size A3) ∧ (0 < n → ∃ g cur, A3 = some ⟨g, 0, none⟩ ∧ n ≤ cur.size ∧ Has w' g cur 2) ∧ Below w.heap.size w w' := by
  have K := St.start w
  have hl2 : ls.length = len := by rw [← h2.1, ints_len]
  have HR2 := Lib.hid h2
  have HL2 := Lib.hid hl2
  have HLB := Lib.hid hb2
  clear h2 hl2 hb2
  go_enter Try.func43, Try.ntmps43
  go_wp2_with (first|((first|((with_reducible refine at_box ?_);refine wm_box K rfl _ _ rfl rfl rfl ?_));(try clear K);(try clear ww);((fail_if_success (have _h := b2));intro b2 ww K);(try simp [go_sem, Value.cells] at K)))
  go_loopw [5, 6] (fun v i wr => ∃ (k : Nat) (Lo : List Blk), k ≤ n ∧ i = .int .i64 k ∧ OwnT v 2 (ints .i64 ((wts14 n ls).take k)) Lo ∧ St w.heap.size w ((b2, #[.int .i64 W, .int .i64 H, .int .i64 X, .int .i64 Y, .int .i64 S, .slice A n c], 47) :: Lo) Any wr) (fun _ i _ => n - (intOf i).toNat)
  case atStart => exact ⟨0, _, Nat.zero_le _, rfl, OwnT.nil _, K⟩
  case round =>
    clear K
    obtain ⟨i, Lo, hi, rfl, hO, K⟩ := hrel
    by_cases hlt : i < n
    · have ht : decide ((i : Int) < n) = true := decide_eq_true (by omega)
      have hol : (ints .i64 ((wts14 n ls).take i)).length ≤ 5000 := by rw [ints_len, List.length_take]; omega
      by_cases hll : i < len
      · skip
        obtain ⟨b, off, rfl, hb, hc⟩ := HR2.out.get hll
        have hv := hc i _ (ints_get .u16 ls i (by rw [HL2.out]; exact hll))
        have hz := HLB.out _ (getD_mem (show i < ls.length by rw [HL2.out]; exact hll))
        have hsn0 := take_snoc (wts14 n ls) i (by rw [wts_len]; exact hlt)
        rw [wts_get hlt, if_pos (by rw [HL2.out]; exact hll)] at hsn0
        have hsn := Lib.hid hsn0
        generalize ls.getD i 0 = z at *
        have ht2 : decide ((i : Int) < (len : Int)) = true := decide_eq_true (by omega)
        have e1h : Hid (wrap64 z = z) := Lib.hid (by unfold wrap64; omega)
        clear hc hz hsn0
        have e1 := e1h.out
        go_wp2_with (first|((with_reducible refine at_load ?_);first|(refine wm_own (cs := ?_) (t := ?_) (v := ?_) K rfl _ _ rfl rfl ?_ ?_ ?_ ?_;rotate_left 2;(repeat (first|exact At.hd|refine At.tl ?_));rotate_left;(first|exact rfl|assumption);(with_reducible first|exact one45))|(refine wm_cell (v := ?_) rfl _ _ rfl rfl ?_ ?_ ?_;rotate_left;(first|exact (K.below.cell (by assumption)).trans (by assumption));(with_reducible first|exact one22)))|((with_reducible refine at_bsl ?_);refine wm_one K rfl _ _ rfl Try.underlying45 num2 rfl ?_;(try clear K);(try clear ww);intro bb ww K;(try simp [go_sem] at K))|((with_reducible refine at_app ?_);refine wm_appT (L0 := ?_) K ?_ rfl _ _ _ rfl Try.underlying45 num2 rfl hO rfl rfl (by first|omega) (by first|(unfold maxLen;omega)) ?_;rotate_left;(repeat (first|exact Tl.nil|(refine Tl.cons (L0 := ?_) ?_;rotate_left)));(try clear K hO);(try clear ww);intro v ww Lo hO K;simp only [List.cons_append, List.nil_append] at K))
        rw [e1] at hO
        clear e1
        exact ⟨⟨i + 1, Lo, by omega, by go_num, by rw [hsn.out, ints_app]; exact hO, K⟩, by simp [intOf]; omega⟩
      · have hsn0 := take_snoc (wts14 n ls) i (by rw [wts_len]; exact hlt)
        rw [wts_get hlt, if_neg (by rw [HL2.out]; exact hll)] at hsn0
        have hsn := Lib.hid hsn0
        clear hsn0
        have ht2 : decide ((i : Int) < (len : Int)) = false := decide_eq_false (by omega)
        go_wp2_with (first|((with_reducible refine at_load ?_);first|(refine wm_own (cs := ?_) (t := ?_) (v := ?_) K rfl _ _ rfl rfl ?_ ?_ ?_ ?_;rotate_left 2;(repeat (exact At.hd));rotate_left;(exact rfl);(with_reducible first|exact one45)))|((with_reducible refine at_bsl ?_);refine wm_one K rfl _ _ rfl Try.underlying45 num2 rfl ?_;(try clear K);(try clear ww);intro bb ww K;(try simp [go_sem] at K))|((with_reducible refine at_app ?_);refine wm_appT (L0 := ?_) K ?_ rfl _ _ _ rfl Try.underlying45 num2 rfl hO rfl rfl (by first|omega) (by first|(unfold maxLen;omega)) ?_;rotate_left;(repeat (first|exact Tl.nil|(refine Tl.cons (L0 := ?_) ?_;rotate_left)));(try clear K hO);(try clear ww);intro v ww Lo hO K;simp only [List.cons_append, List.nil_append] at K))
        exact ⟨⟨i + 1, Lo, by omega, by go_num, by rw [hsn.out, ints_app]; exact hO, K⟩, by simp [intOf]; omega⟩
    · obtain rfl : n = i := by omega
      have ht : decide ((n : Int) < n) = false := decide_eq_false (by omega)
      have hz : (wts14 n ls).take n = wts14 n ls := List.take_of_length_le (by rw [wts_len]; omega)
      rw [hz] at hO
      have hlen : (ints .i64 (wts14 n ls)).length = n := by rw [ints_len, wts_len]
      obtain ⟨A3, c3, rfl, hc1, hc2, hA, K2⟩ := hO.fix (L0 := [(b2, #[.int .i64 W, .int .i64 H, .int .i64 X, .int .i64 Y, .int .i64 S, .slice A n c], 47)]) K
      have hbk : 0 < n → ∃ g cur, A3 = some ⟨g, 0, none⟩ ∧ n ≤ cur.size ∧ Has wr g cur 2 := by
        intro h0
        rcases hO with ⟨h1, h2, _⟩ | ⟨g, cap, cur, h1, h2, h3, h4, h5, rfl⟩
        · rw [h2] at hlen; simp at hlen; omega
        · injection h1 with h1 _ _
          exact ⟨g, cur, h1, by rw [hlen] at h2; omega, K.get (.tl .hd)⟩
      rw [hlen] at K2 ⊢
      have G := Lib.hid (And.intro K2.fact.1 (And.intro hA (And.intro hbk K2.below)))
      clear K hO hz hc1 hc2 hlen hA hbk
      replace K := K2
      clear K2
      go_wp2_with (first|((with_reducible refine at_load ?_);first|(refine wm_own (cs := ?_) (t := ?_) (v := ?_) K rfl _ _ rfl rfl ?_ ?_ ?_ ?_;rotate_left 2;(repeat (exact At.hd));rotate_left;(exact rfl);(with_reducible first|exact one45))))
      go_ret
      exact ⟨A3, c3, rfl, ⟨G.out.1, G.out.2.1⟩, G.out.2.2.1, G.out.2.2.2⟩
end Go.Proofs.Yteancdipmpmjpaa
namespace Go.Proofs.Yteancdipmpmjpaa
open Go.RowKit
attribute [local irreducible] wpHeld wpTree wpList
set_option linter.unusedVariables false
theorem small_any {l : List Int} (h : ∀ z ∈ l, 0 ≤ z ∧ z ≤ 65535) : ∀ z ∈ l, 0 ≤ z ∧ z ≤ 1073741824 := fun z hz => by have := h z hz; omega
set_option maxRecDepth 100000 in
set_option maxHeartbeats 4000000 in
theorem Made14 (a0 a1 a3 W H S : Int) (A2 : Option Addr) (n len cap : Nat) (ls : List Int) (w : World) (h0 : 0 ≤ a0 ∧ a0 ≤ 255) (h1 : 0 ≤ a1 ∧ a1 ≤ 255) (h3 : 0 ≤ a3 ∧ a3 ≤ 255) (hW : W = 1 + a0 % 8) (hH : H = 1 + a1 % 8) (hS : S = 16 * 2 ^ (a3 % 9).toNat) (hn : W * H = n)
    (h2 : Rd w A2 len (ints .u16 ls)) (hb2 : ∀ z ∈ ls, 0 ≤ z ∧ z ≤ 65535) :
    Calls Try.prog 28 #[.int .u8 a0, .int .u8 a1, .slice A2 len cap, .int .u8 a3] w fun e w' => ∃ A c, e = .returned (.agg #[.int .i64 W, .int .i64 H, .int .i64 1000, .int .i64 (-1000), .int .i64 S, .slice A n c]) ∧ (Rd w' A n (ints .i64 (mad14 n ls)) ∧ Nw w.heap.size A) ∧ Below w.heap.size w w' := by
  have K := St.start w
  have hl2 : ls.length = len := by rw [← h2.1, ints_len]
  have HR2 := Lib.hid h2
  have HL2 := Lib.hid hl2
  have HLB := Lib.hid hb2
  have hw : 1 ≤ W ∧ W ≤ 8 := by omega
  have hh : 1 ≤ H ∧ H ≤ 8 := by omega
  have hn1 : 1 ≤ n ∧ n ≤ 64 := by
    have x1 := Int.mul_le_mul hw.2 hh.2 (by omega) (by omega)
    have x2 := Int.mul_le_mul hw.1 hh.1 (by omega) (by omega)
    omega
  have hsb := src_bd (n := n) hb2
  have HSB := Lib.hid hsb
  have HFP := Lib.hid (fix_pos hsb (by rw [src_len]; omega))
  have e0h : Hid (wrap64 a0 = a0) := Lib.hid (by unfold wrap64; omega)
  have e1h : Hid (wrap64 a1 = a1) := Lib.hid (by unfold wrap64; omega)
  have e2h : Hid (wrap64 (1 + a0.tmod 8) = W) := Lib.hid (by rw [Int.tmod_eq_emod_of_nonneg h0.1]; unfold wrap64; omega)
  have e3h : Hid (wrap64 (1 + a1.tmod 8) = H) := Lib.hid (by rw [Int.tmod_eq_emod_of_nonneg h1.1]; unfold wrap64; omega)
  obtain ⟨k, hk⟩ : ∃ k : Nat, k = (a3 % 9).toNat := ⟨_, rfl⟩
  have hk8 : k ≤ 8 := by omega
  have e4h : Hid (a3.tmod 9 = (k : Int)) := Lib.hid (by rw [Int.tmod_eq_emod_of_nonneg h3.1]; omega)
  have m1 : min k 64 = k := by omega
  have hS2 : (16 : Int) * 2 ^ k = S := by rw [hS, hk]
  have hSb : 16 ≤ S ∧ S ≤ 4096 := by
    have p1 := Nat.one_le_two_pow (n := k)
    have p2 := Nat.pow_le_pow_right (n := 2) (by omega) hk8
    have p3 : ((2 ^ k : Nat) : Int) = 2 ^ k := Int.natCast_pow 2 k
    omega
  have e5h : Hid (IntKind.i64.wrap ((16 : Int) * 2 ^ k) = S) := Lib.hid (by rw [hS2]; exact IntWalk.i64_in _ (by omega))
  have e6h : Hid (wrap64 (W * H) = n) := Lib.hid (by rw [hn]; unfold wrap64; omega)
  have e7h : Hid (IntKind.u8.wrap (k : Int) = k) := Lib.hid (by unfold IntKind.wrap; simp [IntKind.bits, IntKind.signed]; omega)
  clear h2 hl2 hb2 hW hH hS hn h0 h1 h3 hk hk8 hS2 hSb hsb
  have e0 := e0h.out
  have e1 := e1h.out
  have e2 := e2h.out
  have e3 := e3h.out
  have e4 := e4h.out
  have e5 := e5h.out
  have e7 := e7h.out
  go_enter Try.func28, Try.ntmps28
  go_wp2_with (first|((with_reducible refine at_store ?_);(first|(refine wm_store (L' := ?_) (cs := ?_) (t := ?_) (n := ?_) K rfl _ _ _ rfl rfl rfl rfl ?_ ?_ ?_ ?_ ?_ ?_;rotate_left 3;(repeat (exact Put.hd));rotate_left;(with_reducible first|exact row47);(exact rfl);(exact rfl);(simp [Ones, Value.oneCell'])));(try clear K);(try clear ww);intro ww K;(try simp [go_sem] at K))|((first|((with_reducible refine at_alloc ?_);refine wm_alloc (v := ?_) (cs := ?_) K rfl _ rfl ?_ ?_ ?_;rotate_left;(with_reducible first|exact zero47);rotate_left;exact rfl));(try clear K);(try clear ww);(first|((fail_if_success (have _h := b8));intro b8 ww K)|((fail_if_success (have _h := b9));intro b9 ww K));(try simp [go_sem, Value.cells] at K)))
  clear e0 e1 e2 e3 e4 e5 e7
  go_loopw [10] (fun i wr => ∃ (k : Nat) (v : Value) (Lo : List Blk), k ≤ n ∧ i = .int .i64 k ∧ OwnT v 2 (ints .i64 ((src14 n ls).take k)) Lo ∧ St w.heap.size w ((b9, #[.int .i64 W, .int .i64 H, .int .i64 1000, .int .i64 (-1000), .int .i64 S, v], 47) :: (b8, #[.int .i64 0, .int .i64 0, .int .i64 0, .int .i64 0, .int .i64 0, .slice none 0 0], 47) :: Lo) Any wr) (fun i _ => n - (intOf i).toNat)
  case atStart => exact ⟨0, _, _, Nat.zero_le _, rfl, OwnT.nil _, K⟩
  case round =>
    clear K
    obtain ⟨i, v, Lo, hi, rfl, hO, K⟩ := hrel
    by_cases hlt : i < n
    · have ht : decide ((i : Int) < n) = true := decide_eq_true (by omega)
      have hol : (ints .i64 ((src14 n ls).take i)).length ≤ 5000 := by rw [ints_len, List.length_take]; omega
      by_cases hll : i < len
      · obtain ⟨b, off, rfl, hb, hc⟩ := HR2.out.get hll
        have hv := hc i _ (ints_get .u16 ls i (by rw [HL2.out]; exact hll))
        have hz := HLB.out _ (getD_mem (show i < ls.length by rw [HL2.out]; exact hll))
        have hsn0 := take_snoc (src14 n ls) i (by rw [src_len]; exact hlt)
        rw [src_get hlt, if_pos (by rw [HL2.out]; exact hll)] at hsn0
        have hsn := Lib.hid hsn0
        generalize ls.getD i 0 = z at *
        have ht2 : decide ((i : Int) < (len : Int)) = true := decide_eq_true (by omega)
        have e1h : Hid (wrap64 z = z) := Lib.hid (by unfold wrap64; omega)
        clear hc hz hsn0
        have e1 := e1h.out
        have e6 := e6h.out
        go_wp2_with (first|go_big_skip|((with_reducible refine at_load ?_);first|(refine wm_own (cs := ?_) (t := ?_) (v := ?_) K rfl _ _ rfl rfl ?_ ?_ ?_ ?_;rotate_left 2;(repeat (first|exact At.hd|refine At.tl ?_));rotate_left;(first|exact rfl|assumption);(with_reducible first|exact one3|exact one45))|(refine wm_cell (v := ?_) rfl _ _ rfl rfl ?_ ?_ ?_;rotate_left;(first|exact (K.below.cell (by assumption)).trans (by assumption));(with_reducible first|exact one22)))|((with_reducible refine at_store ?_);(first|(refine wm_put (L' := ?_) (cs := ?_) (new := ?_) (t := ?_) K rfl _ _ _ rfl rfl rfl rfl ?_ ?_ ?_ ?_ rfl rfl ?_;rotate_left 4;(repeat (exact Put.hd));(exact Nat.le_of_ble_eq_true rfl);((simp only [List.setIfInBounds_toArray];exact rfl));(with_reducible first|exact one45)));(try clear K);(try clear ww);intro ww K;(try simp [go_sem] at K))|((with_reducible refine at_bsl ?_);refine wm_one K rfl _ _ rfl Try.underlying45 num2 rfl ?_;(try clear K);(try clear ww);intro bb ww K;(try simp [go_sem] at K))|((with_reducible refine at_app ?_);refine wm_appT (L0 := ?_) K ?_ rfl _ _ _ rfl Try.underlying45 num2 rfl hO rfl rfl (by first|omega) (by first|(unfold maxLen;omega)) ?_;rotate_left;(repeat (first|exact Tl.nil|(refine Tl.cons (L0 := ?_) ?_;rotate_left)));(try clear K hO);(try clear ww);intro v ww Lo hO K;obtain ⟨_, _, _, rfl, _⟩ := hO.val;simp only [List.cons_append, List.nil_append] at K))
        (try rw [e1] at hO)
        clear e1 e6
        exact ⟨⟨i + 1, _, Lo, by omega, by go_num, by rw [hsn.out, ints_app]; exact hO, K⟩, by simp [intOf]; omega⟩
      · have hsn0 := take_snoc (src14 n ls) i (by rw [src_len]; exact hlt)
        rw [src_get hlt, if_neg (by rw [HL2.out]; exact hll)] at hsn0
        have hsn := Lib.hid hsn0
        clear hsn0
        have ht2 : decide ((i : Int) < (len : Int)) = false := decide_eq_false (by omega)
        have e6 := e6h.out
        go_wp2_with (first|go_big_skip|((with_reducible refine at_load ?_);first|(refine wm_own (cs := ?_) (t := ?_) (v := ?_) K rfl _ _ rfl rfl ?_ ?_ ?_ ?_;rotate_left 2;(repeat (exact At.hd));rotate_left;(exact rfl);(with_reducible first|exact one3|exact one45)))|((with_reducible refine at_store ?_);(first|(refine wm_put (L' := ?_) (cs := ?_) (new := ?_) (t := ?_) K rfl _ _ _ rfl rfl rfl rfl ?_ ?_ ?_ ?_ rfl rfl ?_;rotate_left 4;(repeat (exact Put.hd));(exact Nat.le_of_ble_eq_true rfl);((simp only [List.setIfInBounds_toArray];exact rfl));(with_reducible first|exact one45)));(try clear K);(try clear ww);intro ww K;(try simp [go_sem] at K))|((with_reducible refine at_bsl ?_);refine wm_one K rfl _ _ rfl Try.underlying45 num2 rfl ?_;(try clear K);(try clear ww);intro bb ww K;(try simp [go_sem] at K))|((with_reducible refine at_app ?_);refine wm_appT (L0 := ?_) K ?_ rfl _ _ _ rfl Try.underlying45 num2 rfl hO rfl rfl (by first|omega) (by first|(unfold maxLen;omega)) ?_;rotate_left;(repeat (first|exact Tl.nil|(refine Tl.cons (L0 := ?_) ?_;rotate_left)));(try clear K hO);(try clear ww);intro v ww Lo hO K;obtain ⟨_, _, _, rfl, _⟩ := hO.val;simp only [List.cons_append, List.nil_append] at K))
        clear e6
        exact ⟨⟨i + 1, _, Lo, by omega, by go_num, by rw [hsn.out, ints_app]; exact hO, K⟩, by simp [intOf]; omega⟩
    · obtain rfl : n = i := by omega
      have ht : decide ((n : Int) < n) = false := decide_eq_false (by omega)
      have hz : (src14 n ls).take n = src14 n ls := List.take_of_length_le (by rw [src_len]; omega)
      rw [hz] at hO
      have hlen : (ints .i64 (src14 n ls)).length = n := by rw [ints_len, src_len]
      clear hz
      rcases hO with ⟨_, h2, _⟩ | ⟨g, cap', cur, rfl, h2, h3, h4, h5, rfl⟩
      · rw [h2] at hlen; simp at hlen; omega
      · rw [hlen] at h2 h5 K
        have HC := Lib.hid (And.intro h2 (And.intro h4 h5))
        clear h2 h3 h4 h5 hlen
        have e6 := e6h.out
        have SM := Lib.hid (fun w (h : Rd w (some ⟨g, 0, none⟩) n (ints .i64 (src14 n ls))) => RSum14 (some ⟨g, 0, none⟩) n cap' (src14 n ls) w h (small_bd (small_any HSB.out)) (by omega))
        have HRD := Lib.hid ((sl_take (K.get (.tl (.tl .hd))) HC.out.2.2 (by rw [HC.out.2.1]; exact HC.out.1)).rd)
        by_cases hz0 : isum (src14 n ls) = 0
        · have hfx : Hid (fix14 (src14 n ls) = (src14 n ls).set 0 1) := Lib.hid (by unfold fix14; rw [if_pos hz0])
          rw [hz0] at SM
          have hin : 0 < cur.size := by have := HC.out.2.1; have := HC.out.1; omega
          clear hz0
          go_wp2_with (first|((with_reducible refine at_load ?_);first|(refine wm_load (cs := ?_) (t := ?_) (n := ?_) K rfl _ _ rfl rfl ?_ ?_ ?_ ?_;rotate_left 2;(repeat (exact At.hd));rotate_left;(with_reducible first|exact row47);(exact rfl))|(refine wm_own (cs := ?_) (t := ?_) (v := ?_) K rfl _ _ rfl rfl ?_ ?_ ?_ ?_;rotate_left 2;(repeat (exact At.hd));rotate_left;(exact rfl);(with_reducible first|exact one3|exact one45)))|((with_reducible refine at_store ?_);(first|(refine wm_put (L' := ?_) (cs := ?_) (new := ?_) (t := ?_) K rfl _ _ _ rfl rfl rfl rfl ?_ ?_ ?_ ?_ rfl rfl ?_;rotate_left 4;(repeat (first|exact Put.hd|(refine Put.tl (L' := ?_) ?_;rotate_left)));(omega);(exact rfl);(with_reducible first|exact one2)));(try clear K);(try clear ww);intro ww K;(try simp [go_sem] at K))|(go_at_call 42;(with_reducible refine (SM.out _ HRD.out).mono ?_);rintro e w2 ⟨rfl, k1⟩;replace K := K.step k1;clear k1;(try clear ww);revert w2;intro ww K))
          have HRF : Rd ww (some ⟨g, 0, none⟩) n (ints .i64 (fix14 (src14 n ls))) := by
            rw [hfx.out]
            exact (sl_take (K.get (.tl (.tl .hd))) (row_put HC.out.2.2) (by rw [Array.size_setIfInBounds, HC.out.2.1]; exact HC.out.1)).rd
          refine (K.rnorm HRF (small_any (fix_bd HSB.out)) (by omega) HFP.out).mono ?_
          rintro e w2 ⟨A3, c3, rfl, hA3, K2⟩
          dsimp only
          replace K := K2
          clear K2
          have HA3 := Lib.hid hA3
          clear hA3 HRF
          revert w2
          intro ww K
          go_wp2_with (first|((with_reducible refine at_load ?_);first|(refine wm_load (cs := ?_) (t := ?_) (n := ?_) K rfl _ _ rfl rfl ?_ ?_ ?_ ?_;rotate_left 2;(repeat (exact At.hd));rotate_left;(with_reducible first|exact row47);(exact rfl)))|((with_reducible refine at_store ?_);(first|(refine wm_store (L' := ?_) (cs := ?_) (t := ?_) (n := ?_) K rfl _ _ _ rfl rfl rfl rfl ?_ ?_ ?_ ?_ ?_ ?_;rotate_left 3;(repeat (first|exact Put.hd|(refine Put.tl (L' := ?_) ?_;rotate_left)));rotate_left;(with_reducible first|exact row47);(exact rfl);(exact rfl);(simp [Ones, Value.oneCell'])));(try clear K);(try clear ww);intro ww K;(try simp [go_sem] at K))|((first|((with_reducible refine at_alloc ?_);refine wm_alloc (v := ?_) (cs := ?_) K rfl _ rfl ?_ ?_ ?_;rotate_left;(with_reducible first|exact zero47);rotate_left;exact rfl));(try clear K);(try clear ww);((fail_if_success (have _h := b12));intro b12 ww K);(try simp [go_sem, Value.cells] at K)))
          refine bodyPost_ret (K.res rfl _ rfl (At.tl (At.tl At.hd)) (by (with_reducible first | exact row47)) (by (solve | exact rfl | simp))) rfl ?_
          exact ⟨A3, c3, rfl, ⟨K.fact.1, HA3.out⟩, K.below⟩
        · have hfx : Hid (fix14 (src14 n ls) = src14 n ls) := Lib.hid (by unfold fix14; rw [if_neg hz0])
          have t0 : (isum (src14 n ls) == 0) = false := by simpa using hz0
          clear hz0
          go_wp2_with (first|((with_reducible refine at_load ?_);first|(refine wm_load (cs := ?_) (t := ?_) (n := ?_) K rfl _ _ rfl rfl ?_ ?_ ?_ ?_;rotate_left 2;(repeat (exact At.hd));rotate_left;(with_reducible first|exact row47);(exact rfl))|(refine wm_own (cs := ?_) (t := ?_) (v := ?_) K rfl _ _ rfl rfl ?_ ?_ ?_ ?_;rotate_left 2;(repeat (exact At.hd));rotate_left;(exact rfl);(with_reducible first|exact one3|exact one45)))|(go_at_call 42;(with_reducible refine (SM.out _ HRD.out).mono ?_);rintro e w2 ⟨rfl, k1⟩;replace K := K.step k1;clear k1;(try clear ww);revert w2;intro ww K))
          have HRF : Rd ww (some ⟨g, 0, none⟩) n (ints .i64 (fix14 (src14 n ls))) := by
            rw [hfx.out]
            exact (sl_take (K.get (.tl (.tl .hd))) HC.out.2.2 (by rw [HC.out.2.1]; exact HC.out.1)).rd
          refine (K.rnorm HRF (small_any (fix_bd HSB.out)) (by omega) HFP.out).mono ?_
          rintro e w2 ⟨A3, c3, rfl, hA3, K2⟩
          dsimp only
          replace K := K2
          clear K2
          have HA3 := Lib.hid hA3
          clear hA3 HRF
          revert w2
          intro ww K
          go_wp2_with (first|((with_reducible refine at_load ?_);first|(refine wm_load (cs := ?_) (t := ?_) (n := ?_) K rfl _ _ rfl rfl ?_ ?_ ?_ ?_;rotate_left 2;(repeat (exact At.hd));rotate_left;(with_reducible first|exact row47);(exact rfl)))|((with_reducible refine at_store ?_);(first|(refine wm_store (L' := ?_) (cs := ?_) (t := ?_) (n := ?_) K rfl _ _ _ rfl rfl rfl rfl ?_ ?_ ?_ ?_ ?_ ?_;rotate_left 3;(repeat (first|exact Put.hd|(refine Put.tl (L' := ?_) ?_;rotate_left)));rotate_left;(with_reducible first|exact row47);(exact rfl);(exact rfl);(simp [Ones, Value.oneCell'])));(try clear K);(try clear ww);intro ww K;(try simp [go_sem] at K))|((first|((with_reducible refine at_alloc ?_);refine wm_alloc (v := ?_) (cs := ?_) K rfl _ rfl ?_ ?_ ?_;rotate_left;(with_reducible first|exact zero47);rotate_left;exact rfl));(try clear K);(try clear ww);((fail_if_success (have _h := b12));intro b12 ww K);(try simp [go_sem, Value.cells] at K)))
          refine bodyPost_ret (K.res rfl _ rfl (At.tl (At.tl At.hd)) (by (with_reducible first | exact row47)) (by (solve | exact rfl | simp))) rfl ?_
          exact ⟨A3, c3, rfl, ⟨K.fact.1, HA3.out⟩, K.below⟩
end Go.Proofs.Yteancdipmpmjpaa
namespace Go.Proofs.Yteancdipmpmjpaa
open Go.RowKit
attribute [local irreducible] wpHeld wpTree wpList
set_option linter.unusedVariables false
theorem w64 {x : Int} (h0 : -4611686018427387904 ≤ x) (h1 : x ≤ 4611686018427387904) : wrap64 x = x := by unfold wrap64; omega
theorem w64e {x y : Int} (h0 : -4611686018427387904 ≤ x) (h1 : x ≤ 4611686018427387904) (h : x = y) : wrap64 x = y := by rw [w64 h0 h1, h]
theorem mulI_bd4 {x S : Int} (h1 : -64 ≤ x) (h2 : x ≤ 64) (h3 : 0 ≤ S) (h4 : S ≤ 4096) : -262144 ≤ x * S ∧ x * S ≤ 262144 := by
  have a := Int.mul_le_mul_of_nonneg_right h2 h3
  have b := Int.mul_le_mul_of_nonneg_right h1 h3
  omega
end Go.Proofs.Yteancdipmpmjpaa
namespace Go.Proofs.Yteancdipmpmjpaa
open Go.RowKit
attribute [local irreducible] wpHeld wpTree wpList
set_option linter.unusedVariables false
set_option maxRecDepth 100000 in
theorem GCut14_bad (W H X Y S x y cw ch : Int) (A : Option Addr) (n c : Nat) (w : World) (hs : cutok x y cw ch = false) :
    Calls Try.prog 47 #[.agg #[.int .i64 W, .int .i64 H, .int .i64 X, .int .i64 Y, .int .i64 S, .slice A n c], .int .i64 x, .int .i64 y, .int .i64 cw, .int .i64 ch] w fun e w' => e = .returned (.tuple #[.agg #[.int .i64 W, .int .i64 H, .int .i64 X, .int .i64 Y, .int .i64 S, .slice A n c], .int .i64 2]) ∧ Below w.heap.size w w' := by
  have K := St.start w
  obtain ⟨u1, u2, u3, u4, u5, u6, u7, u8, d1, d2, d3, d4, d5, d6, d7, d8, hu⟩ := cutok_not hs
  clear hs
  cases u1
  case' false => cases u3
  case' false.false => cases u2
  case' false.false.false => cases u4
  case' false.false.false.false => cases u5
  case' false.false.false.false.false => cases u7
  case' false.false.false.false.false.false => cases u6
  case' false.false.false.false.false.false.false => cases u8
  case false.false.false.false.false.false.false.false => cases hu
  all_goals
    clear hu
    go_enter Try.func47, Try.ntmps47
    go_wp2_with (first|((with_reducible refine at_load ?_);first|(refine wm_load (cs := ?_) (t := ?_) (n := ?_) K rfl _ _ rfl rfl ?_ ?_ ?_ ?_;rotate_left 2;(repeat (first|exact At.hd|refine At.tl ?_));rotate_left;(with_reducible first|exact row47);(exact rfl)))|((with_reducible refine at_store ?_);(first|(refine wm_store (L' := ?_) (cs := ?_) (t := ?_) (n := ?_) K rfl _ _ _ rfl rfl rfl rfl ?_ ?_ ?_ ?_ ?_ ?_;rotate_left 3;(repeat (exact Put.hd));rotate_left;(with_reducible first|exact row47);(exact rfl);(exact rfl);(simp [Ones, Value.oneCell'])));(try clear K);(try clear ww);intro ww K;(try simp [go_sem] at K))|((first|((with_reducible refine at_box ?_);refine wm_box K rfl _ _ rfl rfl rfl ?_)|((with_reducible refine at_alloc ?_);refine wm_alloc (v := ?_) (cs := ?_) K rfl _ rfl ?_ ?_ ?_;rotate_left;(with_reducible first|exact zero47);rotate_left;exact rfl));(try clear K);(try clear ww);(first|((fail_if_success (have _h := b5));intro b5 ww K)|((fail_if_success (have _h := b10));intro b10 ww K));(try simp [go_sem, Value.cells] at K)))
    refine bodyPost_ret (K.res2 rfl _ rfl At.hd (by (with_reducible first | exact row47)) (by (solve | exact rfl | simp)) rfl) rfl ?_
    exact ⟨rfl, K.below⟩
theorem mix_keep {T Z : List Int} {n k : Nat} (hT : T.length = n) (hZ : Z.length = n) (hk : k < n) (h : T.getD k 0 = Z.getD k 0) : T.take (k + 1) ++ Z.drop (k + 1) = T.take k ++ Z.drop k := by
  rw [← mix_set hT hZ hk, h]
  apply List.ext_getElem?
  intro j
  by_cases hj : k = j
  · subst hj
    have h1 := mix_get (T := T) (Z := Z) hT hZ hk
    have h2 := mix_len (T := T) (Z := Z) hT hZ (Nat.le_of_lt hk)
    rw [List.getElem?_set_self (by omega), ← h1, List.getD, List.getElem?_eq_getElem (by omega)]
    rfl
  · rw [List.getElem?_set_ne hj]
theorem at_div {r q c : Nat} (hq : q < c) : (((r * c + q : Nat) : Int) % (c : Int) = q) ∧ ((r * c + q : Nat) : Int) / (c : Int) = r := by
  have h1 : (r * c + q) % c = q := by rw [Nat.mul_comm, Nat.mul_add_mod]; exact Nat.mod_eq_of_lt hq
  have h2 : (r * c + q) / c = r := by rw [Nat.mul_comm, Nat.mul_add_div (by omega), Nat.div_eq_of_lt hq, Nat.add_zero]
  constructor
  · rw [← Int.natCast_emod, h1]
  · rw [← Int.natCast_ediv, h2]
set_option maxRecDepth 100000 in
set_option maxHeartbeats 4000000 in
theorem GCut14 (W H X Y S x y cw ch : Int) (A : Option Addr) (n c m : Nat) (zs : List Int) (w : World) (h : Rd w A n (ints .i64 zs)) (hn : W * H = n) (hWH : (1 ≤ W ∧ W ≤ 64) ∧ 1 ≤ H ∧ H ≤ 64) (hX : -1125899906842624 ≤ X ∧ X ≤ 1125899906842624) (hY : -1125899906842624 ≤ Y ∧ Y ≤ 1125899906842624) (hS : 0 ≤ S ∧ S ≤ 4096) (hs : cutok x y cw ch = true) (hcm : cw * ch = m) :
    Calls Try.prog 47 #[.agg #[.int .i64 W, .int .i64 H, .int .i64 X, .int .i64 Y, .int .i64 S, .slice A n c], .int .i64 x, .int .i64 y, .int .i64 cw, .int .i64 ch] w fun e w' => ∃ A2 c2, e = .returned (.tuple #[.agg #[.int .i64 cw, .int .i64 ch, .int .i64 (X + x * S), .int .i64 (Y + y * S), .int .i64 S, .slice A2 m c2], .int .i64 0]) ∧ (Rd w' A2 m (ints .i64 (cut14 W H zs x y cw m)) ∧ Nw w.heap.size A2) ∧ Below w.heap.size w w' := by
  have K := St.start w
  have hl : zs.length = n := by rw [← h.1, ints_len]
  obtain ⟨⟨w0, w1⟩, ⟨h0, h1⟩, ⟨x0, x1⟩, y0, y1⟩ := cutok_iff.1 hs
  have d1 : decide (cw < 1) = false := decide_eq_false (by omega)
  have d2 : decide (64 < cw) = false := decide_eq_false (by omega)
  have d3 : decide (ch < 1) = false := decide_eq_false (by omega)
  have d4 : decide (64 < ch) = false := decide_eq_false (by omega)
  have d5 : decide (x < -64) = false := decide_eq_false (by omega)
  have d6 : decide (64 < x) = false := decide_eq_false (by omega)
  have d7 : decide (y < -64) = false := decide_eq_false (by omega)
  have d8 : decide (64 < y) = false := decide_eq_false (by omega)
  have hm : 1 ≤ m ∧ m ≤ 4096 := by
    have a1 := Int.mul_le_mul w1 h1 (by omega) (by omega)
    have a2 := Int.mul_le_mul w0 h0 (by omega) (by omega)
    omega
  have xs := mulI_bd4 x0 x1 (by omega) hS.2
  have ys := mulI_bd4 y0 y1 (by omega) hS.2
  have e1h : Hid (wrap64 (x * S) = x * S) := Lib.hid (by unfold wrap64; omega)
  have e2h : Hid (wrap64 (y * S) = y * S) := Lib.hid (by unfold wrap64; omega)
  have e3h : Hid (wrap64 (X + x * S) = X + x * S) := Lib.hid (by unfold wrap64; omega)
  have e4h : Hid (wrap64 (Y + y * S) = Y + y * S) := Lib.hid (by unfold wrap64; omega)
  have f1h : Hid (IntKind.i64.wrap (x * S) = x * S) := Lib.hid (IntWalk.i64_in _ (by omega))
  have f2h : Hid (IntKind.i64.wrap (y * S) = y * S) := Lib.hid (IntWalk.i64_in _ (by omega))
  have f3h : Hid (IntKind.i64.wrap (X + x * S) = X + x * S) := Lib.hid (IntWalk.i64_in _ (by omega))
  have f4h : Hid (IntKind.i64.wrap (Y + y * S) = Y + y * S) := Lib.hid (IntWalk.i64_in _ (by omega))
  have e5h : Hid (wrap64 (cw * ch) = m) := Lib.hid (by rw [hcm]; unfold wrap64; omega)
  have f5h : Hid (IntKind.i64.wrap (cw * ch) = m) := Lib.hid (by rw [hcm]; exact IntWalk.i64_in _ (by omega))
  have HR := Lib.hid h
  have HL := Lib.hid hl
  have HN := Lib.hid hn
  have HW := Lib.hid (And.intro w0 w1)
  have HGB := Lib.hid hWH
  have HXY := Lib.hid (And.intro (And.intro x0 x1) (And.intro y0 y1))
  have HM := Lib.hid hm
  have hm5 : m ≤ 5000 := by omega
  have HNB : Hid (n ≤ 4096) := Lib.hid (by
    have a1 := Int.mul_le_mul hWH.1.2 hWH.2.2 (by omega) (by omega)
    omega)
  have m1 : 8 * m ≤ 281474976710656 := by omega
  have m2 : m ≤ 4611686018427387904 := by omega
  obtain ⟨p, hp⟩ : ∃ p : Nat, cw = p := ⟨cw.toNat, by omega⟩
  obtain ⟨q, hq⟩ : ∃ q : Nat, ch = q := ⟨ch.toNat, by omega⟩
  have HPQ : Hid (p * q = m) := Lib.hid (by rw [hp, hq, ← Int.natCast_mul] at hcm; exact Int.ofNat.inj hcm)
  subst hp hq
  have hp64 : p ≤ 64 := by omega
  have hq64 : q ≤ 64 := by omega
  clear h hl hn hWH hX hY hS hs hcm hm w0 w1 h0 h1 x0 x1 y0 y1 xs ys
  have e1 := e1h.out
  have e2 := e2h.out
  have e3 := e3h.out
  have e4 := e4h.out
  have f1 := f1h.out
  have f2 := f2h.out
  have f3 := f3h.out
  have f4 := f4h.out
  have e5 := e5h.out
  have f5 := f5h.out
  go_enter Try.func47, Try.ntmps47
  go_wp2_with (first|((first|((with_reducible refine at_box ?_);refine wm_box K rfl _ _ rfl rfl rfl ?_)|((with_reducible refine at_alloc ?_);refine wm_alloc (v := ?_) (cs := ?_) K rfl _ rfl ?_ ?_ ?_;rotate_left;(with_reducible first|exact zero47);rotate_left;exact rfl));(try clear K);(try clear ww);(first|((fail_if_success (have _h := b5));intro b5 ww K)|((fail_if_success (have _h := b10));intro b10 ww K));(try simp [go_sem, Value.cells] at K)))
  (try simp only [Act.put, List.setIfInBounds_toArray, List.set_cons_zero, List.set_cons_succ])
  go_cut [12] from 48 to 70 (fun p12 wc => ∃ b12 g : Nat, p12 = .pointer (some ⟨b12, 0, none⟩) ∧ St w.heap.size w [(b12, #[.int .i64 p, .int .i64 q, .int .i64 (X + x * S), .int .i64 (Y + y * S), .int .i64 S, .slice (some ⟨g, 0, none⟩) m m], 47), (g, (nums .i64 (List.replicate m 0)).toArray, 2), (b10, #[.int .i64 0, .int .i64 0, .int .i64 0, .int .i64 0, .int .i64 0, .slice none 0 0], 47), (b5, #[.int .i64 W, .int .i64 H, .int .i64 X, .int .i64 Y, .int .i64 S, .slice A n c], 47)] Any wc)
  case first =>
    refine wm_tree _ (.take 0 (.take 1 (.take 2 (.take 3 (.take 4 (.take 5 (.take 6 (.take 7 (.take 8 (.take 9 (.take 10 (.take 11 (.take 12 (.take 13 (.take 14 (.take 15 (.take 16 (.take 17 (.take 18 (.take 19 (.take 20 (.alt 21 (.take 22 (.alt 23 (.alt 24 .done .stop) .stop)) (.alt 23 (.alt 21 (.take 22 (.alt 24 .done .stop)) .stop) .stop))))))))))))))))))))))) K sbr (by kernel_rfl) (by kernel_rfl) ?_; (try clear K); (try clear ww); intro ww K; (try simp [go_sem] at K)
    repeat' (first|exact tree_stop|(refine tm_own (cs := ?_) (t0 := ?_) (v := ?_) rfl rfl _ _ rfl rfl ?_ ?_ ?_ ?_;rotate_left 2;(repeat (first|exact At.hd|refine At.tl ?_));rotate_left;(exact rfl);(with_reducible first|exact one2))|(refine tree_take (fun K' hK' => ?_);simp only [opAt, List.getElem?_toArray, List.getElem?_cons_succ, List.getElem?_cons_zero, Option.getD_some];go_simp;first|(apply Exists.intro;refine ⟨?_, hK' _ ?_⟩;(intro _ _;rfl);clear hK' K'))|(refine tree_list rfl ?_ ?_;refine wm_make K rfl _ _ _ rfl Try.underlying45 num2 m rfl rfl rfl rfl m1 m2 ?_;intro g ww2 K2;refine wl_nil ⟨(by apply via sbr;first|exact K2.tail|exact K2.tail.tail), ?_⟩;replace K := K2;clear K2;(try clear ww);revert ww2;intro ww K)|(first|((fail_if_success (have _h := b12));refine tm_alloc (v := ?_) (cs := ?_) K rfl rfl _ rfl ?_ ?_ ?_ ?_;rotate_left;(with_reducible first|exact zero47);rotate_left;exact rfl;intro b12 ww2 K2;(try simp [go_sem, Value.cells] at K2);refine ⟨(by apply via sbr;first|exact K2.tail|exact K2.tail.tail), ?_⟩;replace K := K2;clear K2;(try clear ww);revert ww2;intro ww K))|(refine tm_store (L' := ?_) (cs := ?_) (t0 := ?_) (n := ?_) K rfl rfl _ _ _ rfl rfl rfl rfl ?_ ?_ ?_ ?_ ?_ ?_ ?_;rotate_left 3;(repeat (first|exact Put.hd|(refine Put.tl (L' := ?_) ?_;rotate_left)));rotate_left;(with_reducible first|exact row47);(exact rfl);(exact rfl);(simp [Ones, Value.oneCell']);intro ww2 K2;(try simp [go_sem] at K2);refine ⟨(by apply via sbr;first|exact K2.tail.tail), ?_⟩;replace K := K2;clear K2;(try clear ww);revert ww2;intro ww K))
    all_goals refine tree_done ?_
    all_goals (try simp only [opAt, List.getElem?_toArray, List.getElem?_cons_succ, List.getElem?_cons_zero, Option.getD_some])
    all_goals (try go_simp)
    all_goals (try go_wp2_with (fail))
    all_goals (try go_meet)
    all_goals first | exact ⟨_, _, rfl, K⟩ | exact ⟨_, _, rfl, K.perm (List.Perm.swap _ _ _)⟩
  case rest =>
    clear K
    obtain ⟨b12, g, rfl, K⟩ := hcut
    clear e1 e2 e3 e4 f1 f2 f3 f4 e5 f5 e1h e2h e3h e4h f1h f2h f3h f4h e5h f5h d1 d2 d3 d4 d5 d6 d7 d8 m1 m2
    obtain ⟨X2, hX2⟩ : ∃ X2, X + x * S = X2 := ⟨_, rfl⟩
    obtain ⟨Y2, hY2⟩ : ∃ Y2, Y + y * S = Y2 := ⟨_, rfl⟩
    rw [hX2, hY2] at K
    have HXX := Lib.hid (And.intro hX2 hY2)
    clear hX2 hY2
    obtain ⟨T, hT⟩ : ∃ T, cut14 W H zs x y (p : Int) m = T := ⟨_, rfl⟩
    have HTE := Lib.hid hT
    have HTL : Hid (T.length = m) := Lib.hid (by rw [← hT]; exact gen_len _ _)
    have HTG : Hid (∀ k, k < m → T.getD k 0 = cutv W H zs x y p k) := Lib.hid (fun k hk => by rw [← hT]; exact gen_get _ hk)
    clear hT
    obtain ⟨Z, hZ⟩ : ∃ Z : List Int, List.replicate m 0 = Z := ⟨_, rfl⟩
    have HZL : Hid (Z.length = m) := Lib.hid (by rw [← hZ]; simp)
    have HZG : Hid (∀ k, k < m → Z.getD k 0 = 0) := Lib.hid (fun k hk => by rw [← hZ]; simp [List.getD, hk])
    have HZ0 : Hid (((nums .i64 (List.replicate m 0)).toArray : Array Value).size = m ∧ ((nums .i64 (List.replicate m 0)).toArray : Array Value).toList.take m = ints .i64 (T.take (0 * p) ++ Z.drop (0 * p))) := Lib.hid (by
      rw [Nat.zero_mul, List.take_zero, List.drop_zero, List.nil_append, ← hZ]; exact zeros_at m)
    generalize (nums .i64 (List.replicate m 0)).toArray = cur0 at *
    clear hZ
    go_wp2_with fail
    go_loopw [72] (fun i wr => ∃ (r : Nat) (cur : Array Value), r ≤ q ∧ i = .int .i64 r ∧ Hid (cur.size = m ∧ cur.toList.take m = ints .i64 (T.take (r * p) ++ Z.drop (r * p))) ∧ St w.heap.size w [(b12, #[.int .i64 p, .int .i64 q, .int .i64 X2, .int .i64 Y2, .int .i64 S, .slice (some ⟨g, 0, none⟩) m m], 47), (g, cur, 2), (b10, #[.int .i64 0, .int .i64 0, .int .i64 0, .int .i64 0, .int .i64 0, .slice none 0 0], 47), (b5, #[.int .i64 W, .int .i64 H, .int .i64 X, .int .i64 Y, .int .i64 S, .slice A n c], 47)] Any wr) (fun i _ => q - (intOf i).toNat)
    case atStart => exact ⟨0, cur0, Nat.zero_le _, rfl, HZ0, K⟩
    case round =>
      clear K HZ0
      obtain ⟨r, cur, hr, rfl, HU, K⟩ := hrel
      by_cases hrq : r < q
      · have ht : decide ((r : Int) < q) = true := decide_eq_true (by omega)
        go_wp2_with fail
        go_loopw [76] (fun i wr => ∃ (cc : Nat) (cur : Array Value), cc ≤ p ∧ i = .int .i64 cc ∧ Hid (cur.size = m ∧ cur.toList.take m = ints .i64 (T.take (r * p + cc) ++ Z.drop (r * p + cc))) ∧ St w.heap.size w [(b12, #[.int .i64 p, .int .i64 q, .int .i64 X2, .int .i64 Y2, .int .i64 S, .slice (some ⟨g, 0, none⟩) m m], 47), (g, cur, 2), (b10, #[.int .i64 0, .int .i64 0, .int .i64 0, .int .i64 0, .int .i64 0, .slice none 0 0], 47), (b5, #[.int .i64 W, .int .i64 H, .int .i64 X, .int .i64 Y, .int .i64 S, .slice A n c], 47)] Any wr) (fun i _ => p - (intOf i).toNat)
        case atStart => exact ⟨0, cur, Nat.zero_le _, rfl, HU, K⟩
        case round =>
          clear K HU
          obtain ⟨cc, cur, hcc, rfl, HU, K⟩ := hrel
          by_cases hcp : cc < p
          · have ht2 : decide ((cc : Int) < p) = true := decide_eq_true (by omega)
            have hkm0 : r * p + cc < m := by
              have h1 := Nat.mul_le_mul_right p (show r + 1 ≤ q by omega)
              rw [Nat.succ_mul, Nat.mul_comm q p, HPQ.out] at h1
              omega
            obtain ⟨hmd, hdv⟩ := at_div (r := r) (q := cc) (c := p) hcp
            obtain ⟨R, hR⟩ : ∃ R : Nat, r * p = R := ⟨_, rfl⟩
            rw [hR] at hkm0 hmd hdv
            obtain ⟨k, hk⟩ : ∃ k : Nat, R + cc = k := ⟨_, rfl⟩
            rw [hk] at hkm0 hmd hdv
            have HK : Hid (r * p + cc = k ∧ r * p + (cc + 1) = k + 1) := Lib.hid (by rw [hR]; omega)
            have HU2 : Hid (cur.size = m ∧ cur.toList.take m = ints .i64 (T.take k ++ Z.drop k)) := Lib.hid (by have := HU.out; rw [HK.out.1] at this; exact this)
            have hxy := HXY.out
            have s1h : Hid (wrap64 ((r : Int) * (p : Int)) = (R : Int)) := Lib.hid (by rw [← Int.natCast_mul, hR]; exact w64 (by omega) (by omega))
            have s2h : Hid (wrap64 ((R : Int) + (cc : Int)) = (k : Int)) := Lib.hid (w64e (by omega) (by omega) (by omega))
            obtain ⟨a, ha⟩ : ∃ a, x + (cc : Int) = a := ⟨_, rfl⟩
            obtain ⟨b, hb⟩ : ∃ b, y + (r : Int) = b := ⟨_, rfl⟩
            have g4h : Hid (wrap64 (x + (cc : Int)) = a) := Lib.hid (w64e (by omega) (by omega) ha)
            have g5h : Hid (wrap64 (y + (r : Int)) = b) := Lib.hid (w64e (by omega) (by omega) hb)
            have hE : T.getD k 0 = if 0 ≤ a ∧ a < W ∧ 0 ≤ b ∧ b < H then zs.getD (b * W + a).toNat 0 else 0 := by rw [HTG.out k hkm0]; unfold cutv; rw [hmd, hdv, ha, hb]
            by_cases hin : 0 ≤ a ∧ a < W ∧ 0 ≤ b ∧ b < H
            · rw [if_pos hin] at hE
              obtain ⟨q0, q1⟩ := place_bd HN.out hin.1 hin.2.1 hin.2.2.1 hin.2.2.2
              obtain ⟨j, hj⟩ : ∃ j : Nat, b * W + a = j := ⟨(b * W + a).toNat, by omega⟩
              rw [hj, Int.toNat_natCast] at hE
              have hjn : j < n := by omega
              have hgb := HGB.out
              have hnb := HNB.out
              have hbw := Int.mul_nonneg hin.2.2.1 (show 0 ≤ W by omega)
              have t1 : decide (0 ≤ a) = true := decide_eq_true hin.1
              have t2 : decide (a < W) = true := decide_eq_true hin.2.1
              have t3 : decide (0 ≤ b) = true := decide_eq_true hin.2.2.1
              have t4 : decide (b < H) = true := decide_eq_true hin.2.2.2
              obtain ⟨bb0, off, rfl, hbb, hc⟩ := HR.out.get hjn
              have hv := hc j _ (ints_get .i64 zs j (by rw [HL.out]; exact hjn))
              rw [← hE] at hv
              have hnew := mix_set HTL.out HZL.out hkm0
              generalize T.getD k 0 = v at *
              have hput := row_put (i := k) (x := v) HU2.out.2
              rw [hnew] at hput
              have HN2 : Hid ((cur.setIfInBounds k (.int .i64 v)).size = m ∧ (cur.setIfInBounds k (.int .i64 v)).toList.take m = ints .i64 (T.take (r * p + (cc + 1)) ++ Z.drop (r * p + (cc + 1)))) := Lib.hid (by rw [HK.out.2]; exact ⟨by rw [Array.size_setIfInBounds]; exact HU2.out.1, hput⟩)
              have hink : k < cur.size := by rw [HU2.out.1]; exact hkm0
              have k1h : Hid (wrap64 (b * W) = b * W) := Lib.hid (w64 (by omega) (by omega))
              have k2h : Hid (wrap64 (b * W + a) = j) := Lib.hid (w64e (by omega) (by omega) hj)
              have l1h : Hid (IntKind.i64.wrap (b * W) = b * W) := Lib.hid (IntWalk.i64_in _ (by omega))
              have l2h : Hid (IntKind.i64.wrap (b * W + a) = j) := Lib.hid ((IntWalk.i64_in _ (by omega)).trans hj)
              have l3h : Hid (IntKind.i64.wrap ((r : Int) * (p : Int)) = (R : Int)) := Lib.hid (by rw [← Int.natCast_mul, hR]; exact IntWalk.i64_in _ (by omega))
              have l4h : Hid (IntKind.i64.wrap ((R : Int) + (cc : Int)) = (k : Int)) := Lib.hid ((IntWalk.i64_in _ (by omega)).trans (by omega))
              clear hc hmd hdv hR hk hxy hnb ha hb hE hin q0 q1 hj hgb hbw hnew hput
              have s1 := s1h.out
              have s2 := s2h.out
              have g4 := g4h.out
              have g5 := g5h.out
              have k1 := k1h.out
              have k2 := k2h.out
              have l1 := l1h.out
              have l2 := l2h.out
              have l3 := l3h.out
              have l4 := l4h.out
              go_wp2_with (first|((with_reducible refine at_load ?_);first|(refine wm_own (cs := ?_) (t := ?_) (v := ?_) K rfl _ _ rfl rfl ?_ ?_ ?_ ?_;rotate_left 2;(repeat (first|exact At.hd|refine At.tl ?_));rotate_left;(exact rfl);(with_reducible first|exact one3))))
              refine wm_held _ [(true, 0), (true, 1), (true, 2), (true, 3), (true, 4), (true, 5), (true, 6), (true, 7), (true, 8), (true, 9), (true, 10), (true, 11), (true, 12), (true, 13), (true, 14), (true, 15), (true, 16), (true, 17), (false, 18)] K sbk1 (by kernel_rfl) (by kernel_rfl) ?_; (try clear K); (try clear ww); intro ww K; (try simp [go_sem] at K); simp only [pick, List.getElem?_toArray, List.getElem?_cons_succ, List.getElem?_cons_zero]
              repeat (first|((with_reducible refine ht_load ?_);first|(refine hm_own (cs := ?_) (t := ?_) (v := ?_) rfl _ _ rfl rfl ?_ ?_ ?_ ?_;rotate_left 2;(repeat (first|exact At.hd|refine At.tl ?_));rotate_left;(first|exact rfl|assumption);(with_reducible first|exact one3|exact one45))|(refine hm_cell (v := ?_) rfl _ _ rfl rfl (fun ww K => ?_) ?_ ?_;rotate_left;(first|exact (K.below.cell (by assumption)).trans (by assumption));(with_reducible first|exact one2)))|(refine held_take (fun K' hK' => ?_);go_simp;first|(apply Exists.intro;refine ⟨?_, hK' _ ?_⟩;(intro _ _;rfl);clear hK' K'))|((with_reducible refine ht_store ?_);first|(refine hm_put (L' := ?_) (cs := ?_) (new := ?_) (t := ?_) K rfl _ _ _ rfl rfl rfl rfl ?_ ?_ ?_ ?_ rfl rfl ?_;rotate_left 4;(repeat (first|exact Put.hd|(refine Put.tl (L' := ?_) ?_;rotate_left)));(omega);(exact rfl);(with_reducible first|exact one2);(try clear K);(try clear ww);intro ww K;(try simp [go_sem] at K);refine ⟨(by apply via sbk1;first|exact K), ?_⟩)))
              refine held_nil ?_
              go_wp2_with fail
              clear s1 s2 g4 g5 k1 k2 l1 l2 l3 l4
              exact ⟨⟨cc + 1, _, by omega, by go_num, HN2, K⟩, by simp [intOf]; omega⟩
            · rw [if_neg hin] at hE
              obtain ⟨u1, u2, u3, u4, t1, t2, t3, t4, hu⟩ := four_not hin
              have HN2 : Hid (cur.size = m ∧ cur.toList.take m = ints .i64 (T.take (r * p + (cc + 1)) ++ Z.drop (r * p + (cc + 1)))) := Lib.hid (by rw [HK.out.2, mix_keep HTL.out HZL.out hkm0 (by rw [hE, HZG.out k hkm0])]; exact HU2.out)
              clear hmd hdv hR hk hxy ha hb hE hin
              have g4 := g4h.out
              have g5 := g5h.out
              cases u1
              case' true => cases u3
              case' true.true => cases u2
              case' true.true.true => cases u4
              case true.true.true.true => cases hu
              all_goals
                clear hu
                go_wp2_with (first|((with_reducible refine at_load ?_);first|(refine wm_own (cs := ?_) (t := ?_) (v := ?_) K rfl _ _ rfl rfl ?_ ?_ ?_ ?_;rotate_left 2;(repeat (first|exact At.hd|refine At.tl ?_));rotate_left;(exact rfl);(with_reducible first|exact one3))))
                clear g4 g5
                exact ⟨⟨cc + 1, cur, by omega, by go_num, HN2, K⟩, by simp [intOf]; omega⟩
          · obtain rfl : cc = p := by omega
            have ht2 : decide ((cc : Int) < cc) = false := decide_eq_false (by omega)
            have HU2 : Hid (cur.size = m ∧ cur.toList.take m = ints .i64 (T.take ((r + 1) * cc) ++ Z.drop ((r + 1) * cc))) := Lib.hid (by rw [Nat.succ_mul]; exact HU.out)
            go_wp2_with fail
            exact ⟨⟨r + 1, cur, by omega, by go_num, HU2, K⟩, by simp [intOf]; omega⟩
      · obtain rfl : r = q := by omega
        have ht : decide ((r : Int) < r) = false := decide_eq_false (by omega)
        have hlast : cur.toList.take m = ints .i64 T := by
          have h1 := HU.out.2
          rw [show r * p = m by rw [Nat.mul_comm]; exact HPQ.out, show T.take m = T from List.take_of_length_le (by rw [HTL.out]; omega), show Z.drop m = [] from List.drop_of_length_le (by rw [HZL.out]; omega), List.append_nil] at h1
          exact h1
        have HX := Lib.hid (And.intro hlast (show m ≤ cur.size by rw [HU.out.1]; exact Nat.le_refl _))
        clear hlast
        go_wp2_with (first|((with_reducible refine at_load ?_);first|(refine wm_load (cs := ?_) (t := ?_) (n := ?_) K rfl _ _ rfl rfl ?_ ?_ ?_ ?_;rotate_left 2;(repeat (exact At.hd));rotate_left;(with_reducible first|exact row47);(exact rfl)))|((with_reducible refine at_store ?_);(first|(refine wm_store (L' := ?_) (cs := ?_) (t := ?_) (n := ?_) K rfl _ _ _ rfl rfl rfl rfl ?_ ?_ ?_ ?_ ?_ ?_;rotate_left 3;(repeat (first|exact Put.hd|(refine Put.tl (L' := ?_) ?_;rotate_left)));rotate_left;(with_reducible first|exact row47);(exact rfl);(exact rfl);(simp [Ones, Value.oneCell'])));(try clear K);(try clear ww);intro ww K;(try simp [go_sem] at K)))
        refine bodyPost_ret (K.res2 rfl _ rfl (At.tl (At.tl At.hd)) (by (with_reducible first|exact row47)) (by (exact rfl)) rfl) rfl ?_
        exact ⟨some ⟨g, 0, none⟩, m, by rw [HXX.out.1, HXX.out.2]; rfl, ⟨by rw [HTE.out]; exact (sl_take (K.get (.tl .hd)) HX.out.1 HX.out.2).rd, Nw.mk _ _ _ (K.ge (.tl .hd))⟩, K.below⟩
end Go.Proofs.Yteancdipmpmjpaa
namespace Go.Proofs.Yteancdipmpmjpaa
open Go.RowKit
attribute [local irreducible] wpHeld wpTree wpList
set_option linter.unusedVariables false
def clI (i n : Int) : Int := min (max i 0) (n - 1)
theorem clamp14 (i n : Int) (w : World) (h : -1000000 ≤ n ∧ n ≤ 1000000) :
    Calls Try.prog 88 #[.int .i64 i, .int .i64 n] w fun e w' => e = .returned (.int .i64 (clI i n)) ∧ w = w' := by
  unfold clI
  obtain ⟨m, hm⟩ : ∃ m, max i 0 = m := ⟨_, rfl⟩
  obtain ⟨k, hk⟩ : ∃ k, n - 1 = k := ⟨_, rfl⟩
  rw [hm, hk]
  obtain ⟨r, hr⟩ : ∃ r, min m k = r := ⟨_, rfl⟩
  rw [hr]
  have e1 : wrap64 (n - 1) = k := w64e (by omega) (by omega) hk
  clear hk h
  go_enter Try.func88, Try.ntmps88
  go_wp2
  go_ret
  exact ⟨rfl, rfl⟩
end Go.Proofs.Yteancdipmpmjpaa
