/-
  Lemmas and walks of this claim (the texts Ge14 Gf14 Gk14 Gl14 Gm14 Gn14 Gr14 Gs14 Gt14 of the work; what no proof here uses is left out). No claim of their own.
-/
import Derived.Test.YtpejoaefnnbghaaPH13
import Derived.Test.YtpejoaefnnbghaaPH2
import Derived.Test.YtpejoaefnnbghaaPH7
import Derived.Test.YtpejoaefnnbghaaPH17
import Derived.Test.YtpejoaefnnbghaaPH1
import Derived.Laws.CopyOwn
import Derived.Test.YtpejoaefnnbghaaPH11
import Derived.Test.YtpejoaefnnbghaaPH5
set_option linter.all false
set_option linter.unusedSimpArgs false
set_option linter.unusedVariables false
namespace Go.Proofs.Ytpejoaefnnbghaa
open Go.RowKit
attribute [local irreducible] wpHeld wpTree wpList
set_option linter.unusedVariables false
set_option maxHeartbeats 1000000 in
set_option maxRecDepth 100000 in
theorem Clone64_own (A : Option Addr) (n c : Nat) (xs : List Value) (w : World) (h : Rd w A n xs) (hn : n ≤ 1000000) (h1 : ∀ u ∈ xs, u.oneCell' = true) :
    Calls Try.prog 111 #[.slice A n c] w fun e w' => ∃ v', e = .returned v' ∧ w'.ownsRow w.heap.size 2 1 v' n xs ∧ Below w.heap.size w w' := by
  rcases A with _ | a
  · have hl := h.1
    have h0 : n = 0 := by
      rcases Nat.eq_zero_or_pos n with h0 | h0
      · exact h0
      · obtain ⟨_, _, e, _⟩ := h.2 h0; cases e
    subst h0
    have e : xs = [] := List.length_eq_zero_iff.1 hl
    subst e
    first | refine (Try.slices_Clone_nil 0 c w).mono ?_ | refine (Try.slices_Clone_nil_f111 0 c w).mono ?_
    rintro e w' ⟨rfl, rfl⟩
    exact ⟨_, rfl, ⟨rfl, .inl ⟨rfl, rfl⟩⟩, Below.refl _ _⟩
  · obtain ⟨i0, hi, hz0, hz1, hz2⟩ := info_parts num2
    have HN := Lib.hid (show ∀ (j : Nat) (u : Value), xs[j]? = some u → w.cell? (a.add j) = some u from fun j u hj => by
      have hj' := (List.getElem?_eq_some_iff.1 hj).1
      rw [h.1] at hj'
      obtain ⟨b, off, e, hb, hc⟩ := h.get hj'
      injection e with e
      subst e
      rw [Addr.add_mid]
      exact hc j u hj)
    have HL := Lib.hid (show xs.length = n * 1 by rw [h.1]; omega)
    have H1 := Lib.hid h1
    have q := fun (w : World) (a : Option Addr) (n c n' c' : Nat) => Lib.run_eql_slice_nil (P := Try.prog) w 24 2 a n c n' c' Try.underlying24
    clear h h1
    go_enter Try.func111, Try.ntmps111
    go_wp2_with (at_builtin; refine wpList_append_own _ rfl _ _ 24 rfl w.heap.size 2 i0 (.int .i64 0) 1 8 Try.underlying24 hi hz0 hz1 hz2 rfl (by decide) _ _ _ rfl (World.ownsRow_made w #[] 0 (Nat.le_refl _) (Nat.zero_le _) rfl) a n c xs rfl HL.out ?qc2 H1.out ?qc4 ?qc5 ?qc6 ?_)
    case qc2 =>
      intro j u hj
      exact Lib.cell?_alloc_some _ (HN.out j u hj)
    case qc4 => unfold maxLen; omega
    case qc5 => omega
    case qc6 => simp
    intro v' w1 hown hgrow hnil
    clear hnil
    have HO := Lib.hid hown
    have HG := Lib.hid hgrow
    clear hown hgrow
    go_wp2
    go_ret
    refine ⟨_, rfl, by simpa using HO.out, ?_⟩
    exact ((Below.refl _ w).alloc (Nat.le_refl _) _).grown HG.out (by simp) (by intro k hk; simp [Value.ownBlock] at hk; omega)
theorem GNorm14_none (W H X Y S : Int) (A : Option Addr) (n c : Nat) (zs : List Int) (w : World) (h : Rd w A n (ints .i64 zs)) (hb : ∀ z ∈ zs, 0 ≤ z ∧ z ≤ 1073741824) (hn : n ≤ 5000) (hp : isum zs ≤ 0) :
    Calls Try.prog 84 #[.agg #[.int .i64 W, .int .i64 H, .int .i64 X, .int .i64 Y, .int .i64 S, .slice A n c]] w fun e w' => e = .returned (.tuple #[.agg #[.int .i64 W, .int .i64 H, .int .i64 X, .int .i64 Y, .int .i64 S, .slice A n c], .int .i64 7]) ∧ Below w.heap.size w w' := by
  have K := St.start w
  have SM := Lib.hid (fun w (h : Rd w A n (ints .i64 zs)) => Sum14 W H X Y S A n c zs w h (small_bd hb) hn)
  have HR := Lib.hid h
  generalize isum zs = s at *
  have t1 : decide (s ≤ 0) = true := decide_eq_true hp
  clear h hb hp
  go_enter Try.func84, Try.ntmps84
  go_wp2_with (first|((with_reducible refine at_load ?_);first|(refine wm_load (cs := ?_) (t := ?_) (n := ?_) K rfl _ _ rfl rfl ?_ ?_ ?_ ?_;rotate_left 2;(repeat (first|exact At.hd|refine At.tl ?_));rotate_left;(with_reducible first|exact row26);(exact rfl)))|((with_reducible refine at_store ?_);(first|(refine wm_store (L' := ?_) (cs := ?_) (t := ?_) (n := ?_) K rfl _ _ _ rfl rfl rfl rfl ?_ ?_ ?_ ?_ ?_ ?_;rotate_left 3;(repeat (exact Put.hd));rotate_left;(with_reducible first|exact row26);(exact rfl);(exact rfl);(simp [Ones, Value.oneCell'])));(try clear K);(try clear ww);intro ww K;(try simp [go_sem] at K))|((first|((with_reducible refine at_box ?_);refine wm_box K rfl _ _ rfl rfl rfl ?_)|((with_reducible refine at_alloc ?_);refine wm_alloc (v := ?_) (cs := ?_) K rfl _ rfl ?_ ?_ ?_;rotate_left;(with_reducible first|exact zero26);rotate_left;exact rfl));(try clear K);(try clear ww);(first|((fail_if_success (have _h := b1));intro b1 ww K)|((fail_if_success (have _h := b2));intro b2 ww K));(try simp [go_sem, Value.cells] at K))|(go_at_call 62;(with_reducible refine (SM.out _ (HR.out.below K.below)).mono ?_);rintro e w2 ⟨rfl, k1⟩;replace K := K.step k1;clear k1;(try clear ww);revert w2;intro ww K))
  refine bodyPost_ret (K.res2 rfl _ rfl (by (repeat (exact At.hd))) (by (with_reducible first|exact row26)) (by (exact rfl)) rfl) rfl ?_
  exact ⟨rfl, K.below⟩
section
variable {B : Nat} {w0 w : World} {L : List Blk} {F : World → Prop}
theorem St.clone64 {A : Option Addr} {n c : Nat} {zs : List Int} (K : St B w0 L F w) (h : Rd w A n (ints .i64 zs)) (hn : n ≤ 1000000) (h0 : 0 < n) :
    Calls Try.prog 111 #[.slice A n c] w fun e w' => ∃ (g cap : Nat) (cur : Array Value), e = .returned (.slice (some ⟨g, 0, none⟩) n cap) ∧ (n ≤ cap ∧ cap ≤ 9223372036854775807 ∧ cur.size = cap ∧ cur.toList.take n = ints .i64 zs) ∧ St B w0 ((g, cur, 2) :: L) F w' := by
  refine (Clone64_own A n c (ints .i64 zs) w h hn (fun u hu => by obtain ⟨z, _, rfl⟩ := List.mem_map.1 hu; rfl)).mono ?_
  rintro e w' ⟨v', rfl, hown, hb⟩
  obtain ⟨g, cap, cur, rfl, hc1, hc2, hcs, hct, K'⟩ := K.row hb hown h0
  exact ⟨g, cap, cur, rfl, ⟨hc1, hc2, hcs, hct⟩, K'⟩
end
set_option maxRecDepth 100000 in
set_option maxHeartbeats 2000000 in
theorem GNorm14 (W H X Y S : Int) (A : Option Addr) (n c : Nat) (zs : List Int) (w : World) (h : Rd w A n (ints .i64 zs)) (hb : ∀ z ∈ zs, 0 ≤ z ∧ z ≤ 1073741824) (hn : n ≤ 5000) (hp : 0 < isum zs) :
    Calls Try.prog 84 #[.agg #[.int .i64 W, .int .i64 H, .int .i64 X, .int .i64 Y, .int .i64 S, .slice A n c]] w fun e w' => ∃ A2 c2, e = .returned (.tuple #[.agg #[.int .i64 W, .int .i64 H, .int .i64 X, .int .i64 Y, .int .i64 S, .slice A2 n c2], .int .i64 0]) ∧ (Rd w' A2 n (ints .i64 (norm14 (isum zs) zs)) ∧ Nw w.heap.size A2) ∧ Below w.heap.size w w' := by
  have K := St.start w
  have hl : zs.length = n := by rw [← h.1, ints_len]
  have SM := Lib.hid (fun w (h : Rd w A n (ints .i64 zs)) => Sum14 W H X Y S A n c zs w h (small_bd hb) hn)
  have HZ := Lib.hid hb
  have HR := Lib.hid h
  have HL := Lib.hid hl
  have HM : Hid (∀ z ∈ zs, z ≤ isum zs) := Lib.hid fun z hz => isum_mem (fun z hz => (hb z hz).1) hz
  have hs := (isum_bd (M := 1073741824) (l := zs) (by omega) (fun z hz => by have := hb z hz; omega)).2
  rw [hl] at hs
  have hn0 : 0 < n := by
    rcases Nat.eq_zero_or_pos n with h0 | h0
    · rw [h0] at hl
      rw [List.length_eq_zero_iff.1 hl] at hp
      simp [isum] at hp
    · exact h0
  obtain ⟨T, hT⟩ : ∃ T, norm14 (isum zs) zs = T := ⟨_, rfl⟩
  have HT : Hid (T.length = n) := Lib.hid (by rw [← hT, norm_len, hl])
  have HG : Hid (∀ i, i < n → T.getD i 0 = zs.getD i 0 * 1073741824 / isum zs) := Lib.hid (fun i hi => by rw [← hT]; exact norm_get _ _ _ (by omega))
  rw [hT]
  generalize isum zs = s at *
  have t1 : decide (s ≤ 0) = false := decide_eq_false (by omega)
  have HP := Lib.hid (And.intro hp hs)
  clear h hb hp hs hl hT
  go_enter Try.func84, Try.ntmps84
  go_wp2_with (first|((with_reducible refine at_load ?_);first|(refine wm_load (cs := ?_) (t := ?_) (n := ?_) K rfl _ _ rfl rfl ?_ ?_ ?_ ?_;rotate_left 2;(repeat (first|exact At.hd|refine At.tl ?_));rotate_left;(with_reducible first|exact row26);(exact rfl))|(refine wm_own (cs := ?_) (t := ?_) (v := ?_) K rfl _ _ rfl rfl ?_ ?_ ?_ ?_;rotate_left 2;(repeat (first|exact At.hd|refine At.tl ?_));rotate_left;(exact rfl);(with_reducible first|exact one24)))|((first|((with_reducible refine at_box ?_);refine wm_box K rfl _ _ rfl rfl rfl ?_)|((with_reducible refine at_alloc ?_);refine wm_alloc (v := ?_) (cs := ?_) K rfl _ rfl ?_ ?_ ?_;rotate_left;(with_reducible first|exact zero26);rotate_left;exact rfl));(try clear K);(try clear ww);(first|((fail_if_success (have _h := b1));intro b1 ww K)|((fail_if_success (have _h := b2));intro b2 ww K));(try simp [go_sem, Value.cells] at K))|(go_at_call 62;(with_reducible refine (SM.out _ (HR.out.below K.below)).mono ?_);rintro e w2 ⟨rfl, k1⟩;replace K := K.step k1;clear k1;(try clear ww);revert w2;intro ww K))
  refine (K.clone64 (HR.out.below K.below) (by omega) hn0).mono ?_
  rintro e w2 ⟨g, cap, cur, rfl, hcl, K2⟩
  dsimp only
  replace K := K2
  clear K2 ww
  revert w2
  intro ww K
  go_wp2_with (first|((with_reducible refine at_load ?_);first|(refine wm_own (cs := ?_) (t := ?_) (v := ?_) K rfl _ _ rfl rfl ?_ ?_ ?_ ?_;rotate_left 2;(repeat (first|exact At.hd|refine At.tl ?_));rotate_left;(exact rfl);(with_reducible first|exact one24)))|((with_reducible refine at_store ?_);(first|(refine wm_put (L' := ?_) (cs := ?_) (new := ?_) (t := ?_) K rfl _ _ _ rfl rfl rfl rfl ?_ ?_ ?_ ?_ rfl rfl ?_;rotate_left 4;(repeat (first|exact Put.hd|(refine Put.tl (L' := ?_) ?_;rotate_left)));(exact Nat.le_of_ble_eq_true rfl);((simp only [List.setIfInBounds_toArray];exact rfl));(with_reducible first|exact one24)));(try clear K);(try clear ww);intro ww K;(try simp [go_sem] at K)))
  have HC := Lib.hid hcl
  clear hcl SM
  go_loopw [19] (fun i wr => ∃ (k : Nat) (cur : Array Value), k ≤ n ∧ i = .int .i64 k ∧ Hid (cur.size = cap ∧ cur.toList.take n = ints .i64 (T.take k ++ zs.drop k)) ∧ St w.heap.size w [(g, cur, 2), (b2, #[.int .i64 0, .int .i64 0, .int .i64 0, .int .i64 0, .int .i64 0, .slice none 0 0], 26), (b1, #[.int .i64 W, .int .i64 H, .int .i64 X, .int .i64 Y, .int .i64 S, .slice (some ⟨g, 0, none⟩) n cap], 26)] Any wr) (fun i _ => n - (intOf i).toNat)
  case atStart => exact ⟨0, cur, Nat.zero_le _, rfl, Lib.hid ⟨HC.out.2.2.1, by rw [List.take_zero, List.drop_zero, List.nil_append]; exact HC.out.2.2.2⟩, K⟩
  case round =>
    clear K
    obtain ⟨i, cur, hi, rfl, HU, K⟩ := hrel
    by_cases hlt : i < n
    · have hil : i < zs.length := by rw [HL.out]; exact hlt
      have hv := row_at HU.out.2 (mix_len HT.out HL.out hi) hlt
      rw [mix_get HT.out HL.out hlt] at hv
      have hg := HG.out i hlt
      have hnew := mix_set HT.out HL.out hlt
      rw [hg] at hnew
      have h3 := HZ.out _ (getD_mem hil)
      have h4 := HM.out _ (getD_mem hil)
      have hp := HP.out
      generalize zs.getD i 0 = z at *
      have ht : decide ((i : Int) < n) = true := decide_eq_true (by omega)
      have hin : i < cur.size := by rw [HU.out.1]; have := HC.out.1; omega
      have q0 : 0 ≤ z * 1073741824 / s := Int.ediv_nonneg (by omega) (by omega)
      have q1 : z * 1073741824 / s ≤ z * 1073741824 := Int.ediv_le_self _ (by omega)
      have MD : Hid (∀ w, Calls Try.prog 57 #[.int .i64 z, .int .i64 1073741824, .int .i64 s, .int .i64 0] w fun e w' => e = .returned (.tuple #[.int .i64 (z * 1073741824 / s), .int .i64 0]) ∧ Below w.heap.size w w') := Lib.hid (fun w => by
        have h := MulDiv_any z 1073741824 s 0 w (by omega) (by omega) (by omega) (by omega) (by omega) (by omega)
        rwa [divM_down (by omega) (by omega) (by omega)] at h)
      generalize z * 1073741824 / s = q at *
      have hput := row_put (i := i) (x := q) HU.out.2
      rw [hnew] at hput
      have HN := Lib.hid (And.intro (show (cur.setIfInBounds i (.int .i64 q)).size = cap by rw [Array.size_setIfInBounds]; exact HU.out.1) hput)
      clear hil h3 h4 hp q0 q1 hg hnew hput
      go_wp2_with (first|((with_reducible refine at_load ?_);first|(refine wm_own (cs := ?_) (t := ?_) (v := ?_) K rfl _ _ rfl rfl ?_ ?_ ?_ ?_;rotate_left 2;(repeat (exact At.hd));rotate_left;(assumption);(with_reducible first|exact one2))))
      refine wm_held _ [(true, 0), (true, 1), (true, 2), (true, 3), (true, 4), (false, 5), (true, 6), (true, 7), (true, 8), (true, 9), (false, 10)] K sbc1 (by kernel_rfl) (by kernel_rfl) ?_; (try clear K); (try clear ww); intro ww K; (try simp [go_sem] at K); simp only [pick, List.getElem?_toArray, List.getElem?_cons_succ, List.getElem?_cons_zero]
      repeat (first|((with_reducible refine ht_load ?_);first|(refine hm_own (cs := ?_) (t := ?_) (v := ?_) rfl _ _ rfl rfl ?_ ?_ ?_ ?_;rotate_left 2;(repeat (first|exact At.hd|refine At.tl ?_));rotate_left;(exact rfl);(with_reducible first|exact one24)))|(refine held_take (fun K' hK' => ?_);go_simp;first|(apply Exists.intro;refine ⟨?_, hK' _ ?_⟩;(intro _ _;rfl);clear hK' K'))|((with_reducible refine ht_store ?_);first|(refine hm_put (L' := ?_) (cs := ?_) (new := ?_) (t := ?_) K rfl _ _ _ rfl rfl rfl rfl ?_ ?_ ?_ ?_ rfl rfl ?_;rotate_left 4;(repeat (exact Put.hd));(omega);(exact rfl);(with_reducible first|exact one2);(try clear K);(try clear ww);intro ww K;(try simp [go_sem] at K);refine ⟨(by apply via sbc1;first|exact K), ?_⟩))|(refine held_do (fun K' hK' => ?_);go_simp;go_at_call 57;(with_reducible refine (MD.out _).mono ?_);rintro e w2 ⟨rfl, k1⟩;replace K := K.step k1;clear k1;(try clear ww);revert w2;intro ww K;(try dsimp only);refine hK' _ _ (by apply via sbc1;first|exact K) ?_;clear hK' K'))
      refine held_nil ?_
      go_wp2_with fail
      exact ⟨⟨i + 1, _, by omega, by go_num, HN, K⟩, by simp [intOf]; omega⟩
    · obtain rfl : n = i := by omega
      have ht : decide ((n : Int) < n) = false := decide_eq_false (by omega)
      have hlast : cur.toList.take n = ints .i64 T := by
        rw [HU.out.2, List.take_of_length_le (by rw [HT.out]; omega), List.drop_of_length_le (by rw [HL.out]; omega), List.append_nil]
      have hcs : n ≤ cur.size := by rw [HU.out.1]; exact HC.out.1
      have HX := Lib.hid (And.intro hlast hcs)
      clear hlast hcs
      go_wp2_with (first|((with_reducible refine at_load ?_);first|(refine wm_load (cs := ?_) (t := ?_) (n := ?_) K rfl _ _ rfl rfl ?_ ?_ ?_ ?_;rotate_left 2;(repeat (first|exact At.hd|refine At.tl ?_));rotate_left;(with_reducible first|exact row26);(exact rfl)))|((with_reducible refine at_store ?_);(first|(refine wm_store (L' := ?_) (cs := ?_) (t := ?_) (n := ?_) K rfl _ _ _ rfl rfl rfl rfl ?_ ?_ ?_ ?_ ?_ ?_;rotate_left 3;(repeat (first|exact Put.hd|(refine Put.tl (L' := ?_) ?_;rotate_left)));rotate_left;(with_reducible first|exact row26);(exact rfl);(exact rfl);(simp [Ones, Value.oneCell'])));(try clear K);(try clear ww);intro ww K;(try simp [go_sem] at K)))
      refine bodyPost_ret (K.res2 rfl _ rfl (At.tl At.hd) (by (with_reducible first | exact row26)) (by (solve | exact rfl | simp)) rfl) rfl ?_
      exact ⟨some ⟨g, 0, none⟩, cap, rfl, ⟨(sl_take (K.get .hd) HX.out.1 HX.out.2).rd, Nw.mk _ _ _ (K.ge .hd)⟩, K.below⟩
end Go.Proofs.Ytpejoaefnnbghaa
namespace Go.Proofs.Ytpejoaefnnbghaa
open Go.RowKit
attribute [local irreducible] wpHeld wpTree wpList
set_option linter.unusedVariables false
theorem zeros_at (n : Nat) : ((nums .i64 (List.replicate n 0)).toArray : Array Value).size = n ∧ ((nums .i64 (List.replicate n 0)).toArray : Array Value).toList.take n = ints .i64 (List.replicate n 0) := by
  constructor
  · simp [nums]
  · simp [nums, ints]
end Go.Proofs.Ytpejoaefnnbghaa
namespace Go.Proofs.Ytpejoaefnnbghaa
open Go.RowKit
attribute [local irreducible] wpHeld wpTree wpList
set_option linter.unusedVariables false
section
variable {B : Nat} {w0 w w' : World} {L : List Blk} {F : World → Prop}
theorem St.rnorm {W H X Y S : Int} {A : Option Addr} {n c : Nat} {zs : List Int} (K : St B w0 L F w) (h : Rd w A n (ints .i64 zs)) (hb : ∀ z ∈ zs, 0 ≤ z ∧ z ≤ 1073741824) (hn : n ≤ 5000) (hp : 0 < isum zs) :
    Calls Try.prog 43 #[.agg #[.int .i64 W, .int .i64 H, .int .i64 X, .int .i64 Y, .int .i64 S, .slice A n c]] w fun e w' => ∃ A2 c2, e = .returned (.tuple #[.agg #[.int .i64 W, .int .i64 H, .int .i64 X, .int .i64 Y, .int .i64 S, .slice A2 n c2], .int .i64 0]) ∧ Nw B A2 ∧ St B w0 L (fun w => Rd w A2 n (ints .i64 (norm14 (isum zs) zs)) ∧ F w) w' := by
  refine (RNorm14 W H X Y S A n c zs w h hb hn hp).mono ?_
  rintro e w' ⟨A2, c2, rfl, ⟨h1, h2⟩, h3⟩
  exact ⟨A2, c2, rfl, h2.mono K.size, K.madeRd h3 h1 h2⟩
end
end Go.Proofs.Ytpejoaefnnbghaa
namespace Go.Proofs.Ytpejoaefnnbghaa
open Go.RowKit
attribute [local irreducible] wpHeld wpTree wpList
set_option linter.unusedVariables false
theorem small_any {l : List Int} (h : ∀ z ∈ l, 0 ≤ z ∧ z ≤ 65535) : ∀ z ∈ l, 0 ≤ z ∧ z ≤ 1073741824 := fun z hz => by have := h z hz; omega
set_option maxRecDepth 100000 in
set_option maxHeartbeats 4000000 in
theorem Made14 (a0 a1 a3 W H S : Int) (A2 : Option Addr) (n len cap : Nat) (ls : List Int) (w : World) (h0 : 0 ≤ a0 ∧ a0 ≤ 255) (h1 : 0 ≤ a1 ∧ a1 ≤ 255) (h3 : 0 ≤ a3 ∧ a3 ≤ 255) (hW : W = 1 + a0 % 8) (hH : H = 1 + a1 % 8) (hS : S = 16 * 2 ^ (a3 % 9).toNat) (hn : W * H = n)
    (h2 : Rd w A2 len (ints .u16 ls)) (hb2 : ∀ z ∈ ls, 0 ≤ z ∧ z ≤ 65535) :
    Calls Try.prog 13 #[.int .u8 a0, .int .u8 a1, .slice A2 len cap, .int .u8 a3] w fun e w' => ∃ A c, e = .returned (.agg #[.int .i64 W, .int .i64 H, .int .i64 1000, .int .i64 (-1000), .int .i64 S, .slice A n c]) ∧ (Rd w' A n (ints .i64 (mad14 n ls)) ∧ Nw w.heap.size A) ∧ Below w.heap.size w w' := by
  have K := St.start w
  have hl2 : ls.length = len := by rw [← h2.1, ints_len]
  have HR2 := Lib.hid h2
  have HL2 := Lib.hid hl2
  have HLB := Lib.hid hb2
  have hw : 1 ≤ W ∧ W ≤ 8 := by omega
  have hh : 1 ≤ H ∧ H ≤ 8 := by omega
  have hn1 : 1 ≤ n ∧ n ≤ 64 := by
    have x1 := Int.mul_le_mul hw.2 hh.2 (by omega) (by omega)
    have x2 := Int.mul_le_mul hw.1 hh.1 (by omega) (by omega)
    omega
  have hsb := src_bd (n := n) hb2
  have HSB := Lib.hid hsb
  have HFP := Lib.hid (fix_pos hsb (by rw [src_len]; omega))
  have e0h : Hid (wrap64 a0 = a0) := Lib.hid (by unfold wrap64; omega)
  have e1h : Hid (wrap64 a1 = a1) := Lib.hid (by unfold wrap64; omega)
  have e2h : Hid (wrap64 (1 + a0.tmod 8) = W) := Lib.hid (by rw [Int.tmod_eq_emod_of_nonneg h0.1]; unfold wrap64; omega)
  have e3h : Hid (wrap64 (1 + a1.tmod 8) = H) := Lib.hid (by rw [Int.tmod_eq_emod_of_nonneg h1.1]; unfold wrap64; omega)
  obtain ⟨k, hk⟩ : ∃ k : Nat, k = (a3 % 9).toNat := ⟨_, rfl⟩
  have hk8 : k ≤ 8 := by omega
  have e4h : Hid (a3.tmod 9 = (k : Int)) := Lib.hid (by rw [Int.tmod_eq_emod_of_nonneg h3.1]; omega)
  have m1 : min k 64 = k := by omega
  have hS2 : (16 : Int) * 2 ^ k = S := by rw [hS, hk]
  have hSb : 16 ≤ S ∧ S ≤ 4096 := by
    have p1 := Nat.one_le_two_pow (n := k)
    have p2 := Nat.pow_le_pow_right (n := 2) (by omega) hk8
    have p3 : ((2 ^ k : Nat) : Int) = 2 ^ k := Int.natCast_pow 2 k
    omega
  have e5h : Hid (IntKind.i64.wrap ((16 : Int) * 2 ^ k) = S) := Lib.hid (by rw [hS2]; exact IntWalk.i64_in _ (by omega))
  have e6h : Hid (wrap64 (W * H) = n) := Lib.hid (by rw [hn]; unfold wrap64; omega)
  have e7h : Hid (IntKind.u8.wrap (k : Int) = k) := Lib.hid (by unfold IntKind.wrap; simp [IntKind.bits, IntKind.signed]; omega)
  clear h2 hl2 hb2 hW hH hS hn h0 h1 h3 hk hk8 hS2 hSb hsb
  have e0 := e0h.out
  have e1 := e1h.out
  have e2 := e2h.out
  have e3 := e3h.out
  have e4 := e4h.out
  have e5 := e5h.out
  have e7 := e7h.out
  go_enter Try.func13, Try.ntmps13
  go_wp2_with (first|((with_reducible refine at_store ?_);(first|(refine wm_store (L' := ?_) (cs := ?_) (t := ?_) (n := ?_) K rfl _ _ _ rfl rfl rfl rfl ?_ ?_ ?_ ?_ ?_ ?_;rotate_left 3;(repeat (exact Put.hd));rotate_left;(with_reducible first|exact row26);(exact rfl);(exact rfl);(simp [Ones, Value.oneCell'])));(try clear K);(try clear ww);intro ww K;(try simp [go_sem] at K))|((first|((with_reducible refine at_alloc ?_);refine wm_alloc (v := ?_) (cs := ?_) K rfl _ rfl ?_ ?_ ?_;rotate_left;(with_reducible first|exact zero26);rotate_left;exact rfl));(try clear K);(try clear ww);(first|((fail_if_success (have _h := b8));intro b8 ww K)|((fail_if_success (have _h := b9));intro b9 ww K));(try simp [go_sem, Value.cells] at K)))
  clear e0 e1 e2 e3 e4 e5 e7
  go_loopw [10] (fun i wr => ∃ (k : Nat) (v : Value) (Lo : List Blk), k ≤ n ∧ i = .int .i64 k ∧ OwnT v 2 (ints .i64 ((src14 n ls).take k)) Lo ∧ St w.heap.size w ((b9, #[.int .i64 W, .int .i64 H, .int .i64 1000, .int .i64 (-1000), .int .i64 S, v], 26) :: (b8, #[.int .i64 0, .int .i64 0, .int .i64 0, .int .i64 0, .int .i64 0, .slice none 0 0], 26) :: Lo) Any wr) (fun i _ => n - (intOf i).toNat)
  case atStart => exact ⟨0, _, _, Nat.zero_le _, rfl, OwnT.nil _, K⟩
  case round =>
    clear K
    obtain ⟨i, v, Lo, hi, rfl, hO, K⟩ := hrel
    by_cases hlt : i < n
    · have ht : decide ((i : Int) < n) = true := decide_eq_true (by omega)
      have hol : (ints .i64 ((src14 n ls).take i)).length ≤ 5000 := by rw [ints_len, List.length_take]; omega
      by_cases hll : i < len
      · obtain ⟨b, off, rfl, hb, hc⟩ := HR2.out.get hll
        have hv := hc i _ (ints_get .u16 ls i (by rw [HL2.out]; exact hll))
        have hz := HLB.out _ (getD_mem (show i < ls.length by rw [HL2.out]; exact hll))
        have hsn0 := take_snoc (src14 n ls) i (by rw [src_len]; exact hlt)
        rw [src_get hlt, if_pos (by rw [HL2.out]; exact hll)] at hsn0
        have hsn := Lib.hid hsn0
        generalize ls.getD i 0 = z at *
        have ht2 : decide ((i : Int) < (len : Int)) = true := decide_eq_true (by omega)
        have e1h : Hid (wrap64 z = z) := Lib.hid (by unfold wrap64; omega)
        clear hc hz hsn0
        have e1 := e1h.out
        have e6 := e6h.out
        go_wp2_with (first|go_big_skip|((with_reducible refine at_load ?_);first|(refine wm_own (cs := ?_) (t := ?_) (v := ?_) K rfl _ _ rfl rfl ?_ ?_ ?_ ?_;rotate_left 2;(repeat (first|exact At.hd|refine At.tl ?_));rotate_left;(first|exact rfl|assumption);(with_reducible first|exact one3|exact one24))|(refine wm_cell (v := ?_) rfl _ _ rfl rfl ?_ ?_ ?_;rotate_left;(first|exact (K.below.cell (by assumption)).trans (by assumption));(with_reducible first|exact one72)))|((with_reducible refine at_store ?_);(first|(refine wm_put (L' := ?_) (cs := ?_) (new := ?_) (t := ?_) K rfl _ _ _ rfl rfl rfl rfl ?_ ?_ ?_ ?_ rfl rfl ?_;rotate_left 4;(repeat (exact Put.hd));(exact Nat.le_of_ble_eq_true rfl);((simp only [List.setIfInBounds_toArray];exact rfl));(with_reducible first|exact one24)));(try clear K);(try clear ww);intro ww K;(try simp [go_sem] at K))|((with_reducible refine at_bsl ?_);refine wm_one K rfl _ _ rfl Try.underlying24 num2 rfl ?_;(try clear K);(try clear ww);intro bb ww K;(try simp [go_sem] at K))|((with_reducible refine at_app ?_);refine wm_appT (L0 := ?_) K ?_ rfl _ _ _ rfl Try.underlying24 num2 rfl hO rfl rfl (by first|omega) (by first|(unfold maxLen;omega)) ?_;rotate_left;(repeat (first|exact Tl.nil|(refine Tl.cons (L0 := ?_) ?_;rotate_left)));(try clear K hO);(try clear ww);intro v ww Lo hO K;obtain ⟨_, _, _, rfl, _⟩ := hO.val;simp only [List.cons_append, List.nil_append] at K))
        (try rw [e1] at hO)
        clear e1 e6
        exact ⟨⟨i + 1, _, Lo, by omega, by go_num, by rw [hsn.out, ints_app]; exact hO, K⟩, by simp [intOf]; omega⟩
      · have hsn0 := take_snoc (src14 n ls) i (by rw [src_len]; exact hlt)
        rw [src_get hlt, if_neg (by rw [HL2.out]; exact hll)] at hsn0
        have hsn := Lib.hid hsn0
        clear hsn0
        have ht2 : decide ((i : Int) < (len : Int)) = false := decide_eq_false (by omega)
        have e6 := e6h.out
        go_wp2_with (first|go_big_skip|((with_reducible refine at_load ?_);first|(refine wm_own (cs := ?_) (t := ?_) (v := ?_) K rfl _ _ rfl rfl ?_ ?_ ?_ ?_;rotate_left 2;(repeat (exact At.hd));rotate_left;(exact rfl);(with_reducible first|exact one3|exact one24)))|((with_reducible refine at_store ?_);(first|(refine wm_put (L' := ?_) (cs := ?_) (new := ?_) (t := ?_) K rfl _ _ _ rfl rfl rfl rfl ?_ ?_ ?_ ?_ rfl rfl ?_;rotate_left 4;(repeat (exact Put.hd));(exact Nat.le_of_ble_eq_true rfl);((simp only [List.setIfInBounds_toArray];exact rfl));(with_reducible first|exact one24)));(try clear K);(try clear ww);intro ww K;(try simp [go_sem] at K))|((with_reducible refine at_bsl ?_);refine wm_one K rfl _ _ rfl Try.underlying24 num2 rfl ?_;(try clear K);(try clear ww);intro bb ww K;(try simp [go_sem] at K))|((with_reducible refine at_app ?_);refine wm_appT (L0 := ?_) K ?_ rfl _ _ _ rfl Try.underlying24 num2 rfl hO rfl rfl (by first|omega) (by first|(unfold maxLen;omega)) ?_;rotate_left;(repeat (first|exact Tl.nil|(refine Tl.cons (L0 := ?_) ?_;rotate_left)));(try clear K hO);(try clear ww);intro v ww Lo hO K;obtain ⟨_, _, _, rfl, _⟩ := hO.val;simp only [List.cons_append, List.nil_append] at K))
        clear e6
        exact ⟨⟨i + 1, _, Lo, by omega, by go_num, by rw [hsn.out, ints_app]; exact hO, K⟩, by simp [intOf]; omega⟩
    · obtain rfl : n = i := by omega
      have ht : decide ((n : Int) < n) = false := decide_eq_false (by omega)
      have hz : (src14 n ls).take n = src14 n ls := List.take_of_length_le (by rw [src_len]; omega)
      rw [hz] at hO
      have hlen : (ints .i64 (src14 n ls)).length = n := by rw [ints_len, src_len]
      clear hz
      rcases hO with ⟨_, h2, _⟩ | ⟨g, cap', cur, rfl, h2, h3, h4, h5, rfl⟩
      · rw [h2] at hlen; simp at hlen; omega
      · rw [hlen] at h2 h5 K
        have HC := Lib.hid (And.intro h2 (And.intro h4 h5))
        clear h2 h3 h4 h5 hlen
        have e6 := e6h.out
        have SM := Lib.hid (fun w (h : Rd w (some ⟨g, 0, none⟩) n (ints .i64 (src14 n ls))) => RSum14 (some ⟨g, 0, none⟩) n cap' (src14 n ls) w h (small_bd (small_any HSB.out)) (by omega))
        have HRD := Lib.hid ((sl_take (K.get (.tl (.tl .hd))) HC.out.2.2 (by rw [HC.out.2.1]; exact HC.out.1)).rd)
        by_cases hz0 : isum (src14 n ls) = 0
        · have hfx : Hid (fix14 (src14 n ls) = (src14 n ls).set 0 1) := Lib.hid (by unfold fix14; rw [if_pos hz0])
          rw [hz0] at SM
          have hin : 0 < cur.size := by have := HC.out.2.1; have := HC.out.1; omega
          clear hz0
          go_wp2_with (first|((with_reducible refine at_load ?_);first|(refine wm_load (cs := ?_) (t := ?_) (n := ?_) K rfl _ _ rfl rfl ?_ ?_ ?_ ?_;rotate_left 2;(repeat (exact At.hd));rotate_left;(with_reducible first|exact row26);(exact rfl))|(refine wm_own (cs := ?_) (t := ?_) (v := ?_) K rfl _ _ rfl rfl ?_ ?_ ?_ ?_;rotate_left 2;(repeat (exact At.hd));rotate_left;(exact rfl);(with_reducible first|exact one3|exact one24)))|((with_reducible refine at_store ?_);(first|(refine wm_put (L' := ?_) (cs := ?_) (new := ?_) (t := ?_) K rfl _ _ _ rfl rfl rfl rfl ?_ ?_ ?_ ?_ rfl rfl ?_;rotate_left 4;(repeat (first|exact Put.hd|(refine Put.tl (L' := ?_) ?_;rotate_left)));(omega);(exact rfl);(with_reducible first|exact one2)));(try clear K);(try clear ww);intro ww K;(try simp [go_sem] at K))|(go_at_call 17;(with_reducible refine (SM.out _ HRD.out).mono ?_);rintro e w2 ⟨rfl, k1⟩;replace K := K.step k1;clear k1;(try clear ww);revert w2;intro ww K))
          have HRF : Rd ww (some ⟨g, 0, none⟩) n (ints .i64 (fix14 (src14 n ls))) := by
            rw [hfx.out]
            exact (sl_take (K.get (.tl (.tl .hd))) (row_put HC.out.2.2) (by rw [Array.size_setIfInBounds, HC.out.2.1]; exact HC.out.1)).rd
          refine (K.rnorm HRF (small_any (fix_bd HSB.out)) (by omega) HFP.out).mono ?_
          rintro e w2 ⟨A3, c3, rfl, hA3, K2⟩
          dsimp only
          replace K := K2
          clear K2
          have HA3 := Lib.hid hA3
          clear hA3 HRF
          revert w2
          intro ww K
          go_wp2_with (first|((with_reducible refine at_load ?_);first|(refine wm_load (cs := ?_) (t := ?_) (n := ?_) K rfl _ _ rfl rfl ?_ ?_ ?_ ?_;rotate_left 2;(repeat (exact At.hd));rotate_left;(with_reducible first|exact row26);(exact rfl)))|((with_reducible refine at_store ?_);(first|(refine wm_store (L' := ?_) (cs := ?_) (t := ?_) (n := ?_) K rfl _ _ _ rfl rfl rfl rfl ?_ ?_ ?_ ?_ ?_ ?_;rotate_left 3;(repeat (first|exact Put.hd|(refine Put.tl (L' := ?_) ?_;rotate_left)));rotate_left;(with_reducible first|exact row26);(exact rfl);(exact rfl);(simp [Ones, Value.oneCell'])));(try clear K);(try clear ww);intro ww K;(try simp [go_sem] at K))|((first|((with_reducible refine at_alloc ?_);refine wm_alloc (v := ?_) (cs := ?_) K rfl _ rfl ?_ ?_ ?_;rotate_left;(with_reducible first|exact zero26);rotate_left;exact rfl));(try clear K);(try clear ww);((fail_if_success (have _h := b12));intro b12 ww K);(try simp [go_sem, Value.cells] at K)))
          refine bodyPost_ret (K.res rfl _ rfl (At.tl (At.tl At.hd)) (by (with_reducible first | exact row26)) (by (solve | exact rfl | simp))) rfl ?_
          exact ⟨A3, c3, rfl, ⟨K.fact.1, HA3.out⟩, K.below⟩
        · have hfx : Hid (fix14 (src14 n ls) = src14 n ls) := Lib.hid (by unfold fix14; rw [if_neg hz0])
          have t0 : (isum (src14 n ls) == 0) = false := by simpa using hz0
          clear hz0
          go_wp2_with (first|((with_reducible refine at_load ?_);first|(refine wm_load (cs := ?_) (t := ?_) (n := ?_) K rfl _ _ rfl rfl ?_ ?_ ?_ ?_;rotate_left 2;(repeat (exact At.hd));rotate_left;(with_reducible first|exact row26);(exact rfl))|(refine wm_own (cs := ?_) (t := ?_) (v := ?_) K rfl _ _ rfl rfl ?_ ?_ ?_ ?_;rotate_left 2;(repeat (exact At.hd));rotate_left;(exact rfl);(with_reducible first|exact one3|exact one24)))|(go_at_call 17;(with_reducible refine (SM.out _ HRD.out).mono ?_);rintro e w2 ⟨rfl, k1⟩;replace K := K.step k1;clear k1;(try clear ww);revert w2;intro ww K))
          have HRF : Rd ww (some ⟨g, 0, none⟩) n (ints .i64 (fix14 (src14 n ls))) := by
            rw [hfx.out]
            exact (sl_take (K.get (.tl (.tl .hd))) HC.out.2.2 (by rw [HC.out.2.1]; exact HC.out.1)).rd
          refine (K.rnorm HRF (small_any (fix_bd HSB.out)) (by omega) HFP.out).mono ?_
          rintro e w2 ⟨A3, c3, rfl, hA3, K2⟩
          dsimp only
          replace K := K2
          clear K2
          have HA3 := Lib.hid hA3
          clear hA3 HRF
          revert w2
          intro ww K
          go_wp2_with (first|((with_reducible refine at_load ?_);first|(refine wm_load (cs := ?_) (t := ?_) (n := ?_) K rfl _ _ rfl rfl ?_ ?_ ?_ ?_;rotate_left 2;(repeat (exact At.hd));rotate_left;(with_reducible first|exact row26);(exact rfl)))|((with_reducible refine at_store ?_);(first|(refine wm_store (L' := ?_) (cs := ?_) (t := ?_) (n := ?_) K rfl _ _ _ rfl rfl rfl rfl ?_ ?_ ?_ ?_ ?_ ?_;rotate_left 3;(repeat (first|exact Put.hd|(refine Put.tl (L' := ?_) ?_;rotate_left)));rotate_left;(with_reducible first|exact row26);(exact rfl);(exact rfl);(simp [Ones, Value.oneCell'])));(try clear K);(try clear ww);intro ww K;(try simp [go_sem] at K))|((first|((with_reducible refine at_alloc ?_);refine wm_alloc (v := ?_) (cs := ?_) K rfl _ rfl ?_ ?_ ?_;rotate_left;(with_reducible first|exact zero26);rotate_left;exact rfl));(try clear K);(try clear ww);((fail_if_success (have _h := b12));intro b12 ww K);(try simp [go_sem, Value.cells] at K)))
          refine bodyPost_ret (K.res rfl _ rfl (At.tl (At.tl At.hd)) (by (with_reducible first | exact row26)) (by (solve | exact rfl | simp))) rfl ?_
          exact ⟨A3, c3, rfl, ⟨K.fact.1, HA3.out⟩, K.below⟩
end Go.Proofs.Ytpejoaefnnbghaa
namespace Go.Proofs.Ytpejoaefnnbghaa
open Go.RowKit
attribute [local irreducible] wpHeld wpTree wpList
set_option linter.unusedVariables false
theorem w64 {x : Int} (h0 : -4611686018427387904 ≤ x) (h1 : x ≤ 4611686018427387904) : wrap64 x = x := by unfold wrap64; omega
theorem iwrap_eq (a : Int) : IntKind.i64.wrap a = wrap64 a := by unfold wrap64 IntKind.wrap; simp [IntKind.bits, IntKind.signed]; split <;> omega
theorem w64e {x y : Int} (h0 : -4611686018427387904 ≤ x) (h1 : x ≤ 4611686018427387904) (h : x = y) : wrap64 x = y := by rw [w64 h0 h1, h]
theorem RCut14_bad (W H X Y S x y cw ch : Int) (A : Option Addr) (n c : Nat) (w : World) (hs : cutok x y cw ch = false) :
    Calls Try.prog 85 #[.agg #[.int .i64 W, .int .i64 H, .int .i64 X, .int .i64 Y, .int .i64 S, .slice A n c], .int .i64 x, .int .i64 y, .int .i64 cw, .int .i64 ch] w fun e w' => e = .returned (.tuple #[.agg #[.int .i64 W, .int .i64 H, .int .i64 X, .int .i64 Y, .int .i64 S, .slice A n c], .int .i64 2]) ∧ Below w.heap.size w w' := by
  have K := St.start w
  obtain ⟨u1, u2, u3, u4, u5, u6, u7, u8, d1, d2, d3, d4, d5, d6, d7, d8, hu⟩ := cutok_not hs
  clear hs
  cases u1
  case' false => cases u2
  case' false.false => cases u3
  case' false.false.false => cases u4
  case' false.false.false.false => cases u5
  case' false.false.false.false.false => cases u6
  case' false.false.false.false.false.false => cases u7
  case' false.false.false.false.false.false.false => cases u8
  case false.false.false.false.false.false.false.false => cases hu
  all_goals
    clear hu
    go_enter Try.func85, Try.ntmps85
    go_wp2_with (first|((with_reducible refine at_load ?_);first|(refine wm_load (cs := ?_) (t := ?_) (n := ?_) K rfl _ _ rfl rfl ?_ ?_ ?_ ?_;rotate_left 2;(repeat (first|exact At.hd|refine At.tl ?_));rotate_left;(with_reducible first|exact row26);(exact rfl)))|((with_reducible refine at_store ?_);(first|(refine wm_store (L' := ?_) (cs := ?_) (t := ?_) (n := ?_) K rfl _ _ _ rfl rfl rfl rfl ?_ ?_ ?_ ?_ ?_ ?_;rotate_left 3;(repeat (exact Put.hd));rotate_left;(with_reducible first|exact row26);(exact rfl);(exact rfl);(simp [Ones, Value.oneCell'])));(try clear K);(try clear ww);intro ww K;(try simp [go_sem] at K))|((first|((with_reducible refine at_box ?_);refine wm_box K rfl _ _ rfl rfl rfl ?_)|((with_reducible refine at_alloc ?_);refine wm_alloc (v := ?_) (cs := ?_) K rfl _ rfl ?_ ?_ ?_;rotate_left;(with_reducible first|exact zero26);rotate_left;exact rfl));(try clear K);(try clear ww);(first|((fail_if_success (have _h := b5));intro b5 ww K)|((fail_if_success (have _h := b10));intro b10 ww K));(try simp [go_sem, Value.cells] at K)))
    refine bodyPost_ret (K.res2 rfl _ rfl At.hd (by (with_reducible first | exact row26)) (by (solve | exact rfl | simp)) rfl) rfl ?_
    exact ⟨rfl, K.below⟩
theorem mulI_bd4 {x S : Int} (h1 : -64 ≤ x) (h2 : x ≤ 64) (h3 : 0 ≤ S) (h4 : S ≤ 4096) : -262144 ≤ x * S ∧ x * S ≤ 262144 := by
  have a := Int.mul_le_mul_of_nonneg_right h2 h3
  have b := Int.mul_le_mul_of_nonneg_right h1 h3
  omega
set_option maxRecDepth 100000 in
set_option maxHeartbeats 4000000 in
theorem RCut14 (W H X Y S x y cw ch : Int) (A : Option Addr) (n c m : Nat) (zs : List Int) (w : World) (h : Rd w A n (ints .i64 zs)) (hn : W * H = n) (hWH : (1 ≤ W ∧ W ≤ 64) ∧ 1 ≤ H ∧ H ≤ 64) (hX : -1125899906842624 ≤ X ∧ X ≤ 1125899906842624) (hY : -1125899906842624 ≤ Y ∧ Y ≤ 1125899906842624) (hS : 0 ≤ S ∧ S ≤ 4096) (hs : cutok x y cw ch = true) (hcm : cw * ch = m) :
    Calls Try.prog 85 #[.agg #[.int .i64 W, .int .i64 H, .int .i64 X, .int .i64 Y, .int .i64 S, .slice A n c], .int .i64 x, .int .i64 y, .int .i64 cw, .int .i64 ch] w fun e w' => ∃ A2 c2, e = .returned (.tuple #[.agg #[.int .i64 cw, .int .i64 ch, .int .i64 (X + x * S), .int .i64 (Y + y * S), .int .i64 S, .slice A2 m c2], .int .i64 0]) ∧ (Rd w' A2 m (ints .i64 (cut14 W H zs x y cw m)) ∧ Nw w.heap.size A2) ∧ Below w.heap.size w w' := by
  have K := St.start w
  have hl : zs.length = n := by rw [← h.1, ints_len]
  obtain ⟨⟨w0, w1⟩, ⟨h0, h1⟩, ⟨x0, x1⟩, y0, y1⟩ := cutok_iff.1 hs
  have d1 : decide (cw < 1) = false := decide_eq_false (by omega)
  have d2 : decide (64 < cw) = false := decide_eq_false (by omega)
  have d3 : decide (ch < 1) = false := decide_eq_false (by omega)
  have d4 : decide (64 < ch) = false := decide_eq_false (by omega)
  have d5 : decide (x < -64) = false := decide_eq_false (by omega)
  have d6 : decide (64 < x) = false := decide_eq_false (by omega)
  have d7 : decide (y < -64) = false := decide_eq_false (by omega)
  have d8 : decide (64 < y) = false := decide_eq_false (by omega)
  have hm : 1 ≤ m ∧ m ≤ 4096 := by
    have a1 := Int.mul_le_mul w1 h1 (by omega) (by omega)
    have a2 := Int.mul_le_mul w0 h0 (by omega) (by omega)
    omega
  have xs := mulI_bd4 x0 x1 (by omega) hS.2
  have ys := mulI_bd4 y0 y1 (by omega) hS.2
  have e1h : Hid (wrap64 (x * S) = x * S) := Lib.hid (by unfold wrap64; omega)
  have e2h : Hid (wrap64 (y * S) = y * S) := Lib.hid (by unfold wrap64; omega)
  have e3h : Hid (wrap64 (X + x * S) = X + x * S) := Lib.hid (by unfold wrap64; omega)
  have e4h : Hid (wrap64 (Y + y * S) = Y + y * S) := Lib.hid (by unfold wrap64; omega)
  have f1h : Hid (IntKind.i64.wrap (x * S) = x * S) := Lib.hid (IntWalk.i64_in _ (by omega))
  have f2h : Hid (IntKind.i64.wrap (y * S) = y * S) := Lib.hid (IntWalk.i64_in _ (by omega))
  have f3h : Hid (IntKind.i64.wrap (X + x * S) = X + x * S) := Lib.hid (IntWalk.i64_in _ (by omega))
  have f4h : Hid (IntKind.i64.wrap (Y + y * S) = Y + y * S) := Lib.hid (IntWalk.i64_in _ (by omega))
  have e5h : Hid (wrap64 (cw * ch) = m) := Lib.hid (by rw [hcm]; unfold wrap64; omega)
  have f5h : Hid (IntKind.i64.wrap (cw * ch) = m) := Lib.hid (by rw [hcm]; exact IntWalk.i64_in _ (by omega))
  have HR := Lib.hid h
  have HL := Lib.hid hl
  have HN := Lib.hid hn
  have HW := Lib.hid (And.intro w0 w1)
  have HGB := Lib.hid hWH
  have HXY := Lib.hid (And.intro (And.intro x0 x1) (And.intro y0 y1))
  have HM := Lib.hid hm
  have hm5 : m ≤ 5000 := by omega
  have HNB : Hid (n ≤ 4096) := Lib.hid (by
    have a1 := Int.mul_le_mul hWH.1.2 hWH.2.2 (by omega) (by omega)
    omega)
  clear h hl hn hWH hX hY hS hs hcm hm w0 w1 h0 h1 x0 x1 y0 y1 xs ys
  have e1 := e1h.out
  have e2 := e2h.out
  have e3 := e3h.out
  have e4 := e4h.out
  have f1 := f1h.out
  have f2 := f2h.out
  have f3 := f3h.out
  have f4 := f4h.out
  go_enter Try.func85, Try.ntmps85
  go_wp2_with (first|((with_reducible refine at_load ?_);first|(refine wm_own (cs := ?_) (t := ?_) (v := ?_) K rfl _ _ rfl rfl ?_ ?_ ?_ ?_;rotate_left 2;(repeat (first|exact At.hd|refine At.tl ?_));rotate_left;(exact rfl);(with_reducible first|exact one2)))|((with_reducible refine at_store ?_);(first|(refine wm_store (L' := ?_) (cs := ?_) (t := ?_) (n := ?_) K rfl _ _ _ rfl rfl rfl rfl ?_ ?_ ?_ ?_ ?_ ?_;rotate_left 3;(repeat (exact Put.hd));rotate_left;(with_reducible first|exact row26);(exact rfl);(exact rfl);(simp [Ones, Value.oneCell'])));(try clear K);(try clear ww);intro ww K;(try simp [go_sem] at K))|((first|((with_reducible refine at_box ?_);refine wm_box K rfl _ _ rfl rfl rfl ?_)|((with_reducible refine at_alloc ?_);refine wm_alloc (v := ?_) (cs := ?_) K rfl _ rfl ?_ ?_ ?_;rotate_left;(with_reducible first|exact zero26);rotate_left;exact rfl));(try clear K);(try clear ww);(first|((fail_if_success (have _h := b5));intro b5 ww K)|((fail_if_success (have _h := b10));intro b10 ww K)|((fail_if_success (have _h := b12));intro b12 ww K));(try simp [go_sem, Value.cells] at K)))
  clear e1 e2 e3 e4 f1 f2 f3 f4 e1h e2h e3h e4h f1h f2h f3h f4h d1 d2 d3 d4 d5 d6 d7 d8
  obtain ⟨X2, hX2⟩ : ∃ X2, X + x * S = X2 := ⟨_, rfl⟩
  obtain ⟨Y2, hY2⟩ : ∃ Y2, Y + y * S = Y2 := ⟨_, rfl⟩
  rw [hX2, hY2] at K ⊢
  have HXX := Lib.hid (And.intro hX2 hY2)
  clear hX2 hY2
  go_loopw [13] (fun i wr => ∃ (k : Nat) (v : Value) (Lo : List Blk), k ≤ m ∧ i = .int .i64 k ∧ OwnT v 2 (ints .i64 ((cut14 W H zs x y cw m).take k)) Lo ∧ St w.heap.size w ((b12, #[.int .i64 cw, .int .i64 ch, .int .i64 X2, .int .i64 Y2, .int .i64 S, v], 26) :: (b10, #[.int .i64 0, .int .i64 0, .int .i64 0, .int .i64 0, .int .i64 0, .slice none 0 0], 26) :: (b5, #[.int .i64 W, .int .i64 H, .int .i64 X, .int .i64 Y, .int .i64 S, .slice A n c], 26) :: Lo) Any wr) (fun i _ => m - (intOf i).toNat)
  case atStart => exact ⟨0, _, _, Nat.zero_le _, rfl, OwnT.nil _, K⟩
  case round =>
    clear K
    obtain ⟨i, v, Lo, hi, rfl, hO, K⟩ := hrel
    by_cases hlt : i < m
    · have ht : decide ((i : Int) < m) = true := decide_eq_true (by omega)
      have hol : (ints .i64 ((cut14 W H zs x y cw m).take i)).length ≤ 5000 := by rw [ints_len, List.length_take]; have := HM.out; omega
      obtain ⟨p, hp⟩ : ∃ p, cutv W H zs x y cw i = p := ⟨_, rfl⟩
      have hsn : Hid ((cut14 W H zs x y cw m).take (i + 1) = (cut14 W H zs x y cw m).take i ++ [p]) := Lib.hid (by rw [← hp]; exact gen_snoc _ hlt)
      have hmod := Int.emod_nonneg (i : Int) (show cw ≠ 0 by have := HW.out; omega)
      have hmod2 := Int.emod_lt_of_pos (i : Int) (show 0 < cw by have := HW.out; omega)
      have hdiv := Int.ediv_nonneg (a := (i : Int)) (b := cw) (by omega) (by have := HW.out; omega)
      have hdiv2 := Int.ediv_le_self (a := (i : Int)) cw (by omega)
      have hxy := HXY.out
      have hmm := HM.out
      have hww := HW.out
      have g1h : Hid ((i : Int).tmod cw = (i : Int) % cw) := Lib.hid (Int.tmod_eq_emod_of_nonneg (by omega))
      have g2h : Hid ((i : Int).tdiv cw = (i : Int) / cw) := Lib.hid (Int.tdiv_eq_ediv_of_nonneg (by omega))
      have g3h : Hid ((cw = 0) = False) := Lib.hid (by have := HW.out; simp; omega)
      have g6h : Hid (wrap64 ((i : Int) / cw) = (i : Int) / cw) := Lib.hid (w64 (by omega) (by omega))
      have g7h : Hid (IntKind.i64.wrap ((i : Int) / cw) = (i : Int) / cw) := Lib.hid (IntWalk.i64_in _ (by omega))
      obtain ⟨a, ha⟩ : ∃ a, x + (i : Int) % cw = a := ⟨_, rfl⟩
      obtain ⟨b, hb⟩ : ∃ b, y + (i : Int) / cw = b := ⟨_, rfl⟩
      have g4h : Hid (wrap64 (x + (i : Int) % cw) = a) := Lib.hid (w64e (by omega) (by omega) ha)
      have g5h : Hid (wrap64 (y + (i : Int) / cw) = b) := Lib.hid (w64e (by omega) (by omega) hb)
      have hE : cutv W H zs x y cw i = if 0 ≤ a ∧ a < W ∧ 0 ≤ b ∧ b < H then zs.getD (b * W + a).toNat 0 else 0 := by unfold cutv; rw [ha, hb]
      rw [hp] at hE
      clear hp
      by_cases hin : 0 ≤ a ∧ a < W ∧ 0 ≤ b ∧ b < H
      · rw [if_pos hin] at hE
        obtain ⟨q0, q1⟩ := place_bd HN.out hin.1 hin.2.1 hin.2.2.1 hin.2.2.2
        obtain ⟨j, hj⟩ : ∃ j : Nat, b * W + a = j := ⟨(b * W + a).toNat, by omega⟩
        rw [hj, Int.toNat_natCast] at hE
        have hjn : j < n := by omega
        have hgb := HGB.out
        have hnb := HNB.out
        have hbw := Int.mul_nonneg hin.2.2.1 (show 0 ≤ W by omega)
        have t1 : decide (0 ≤ a) = true := decide_eq_true hin.1
        have t2 : decide (a < W) = true := decide_eq_true hin.2.1
        have t3 : decide (0 ≤ b) = true := decide_eq_true hin.2.2.1
        have t4 : decide (b < H) = true := decide_eq_true hin.2.2.2
        obtain ⟨bb0, off, rfl, hbb, hc⟩ := HR.out.get hjn
        have hv := hc j _ (ints_get .i64 zs j (by rw [HL.out]; exact hjn))
        rw [← hE] at hv
        have k1h : Hid (wrap64 (b * W) = b * W) := Lib.hid (w64 (by omega) (by omega))
        have k2h : Hid (wrap64 (b * W + a) = j) := Lib.hid (w64e (by omega) (by omega) hj)
        clear hc hmod hmod2 hdiv hdiv2 hxy hmm hww hnb ha hb hE hin q0 q1 hj hgb hbw
        have g1 := g1h.out
        have g2 := g2h.out
        have g3 := g3h.out
        have g4 := g4h.out
        have g5 := g5h.out
        have g6 := g6h.out
        have g7 := g7h.out
        have k1 := k1h.out
        have k2 := k2h.out
        have e5 := e5h.out
        go_wp2_with (first|go_big_skip|((with_reducible refine at_load ?_);first|(refine wm_own (cs := ?_) (t := ?_) (v := ?_) K rfl _ _ rfl rfl ?_ ?_ ?_ ?_;rotate_left 2;(repeat (first|exact At.hd|refine At.tl ?_));rotate_left;(first|exact rfl|assumption);(with_reducible first|exact one3|exact one24))|(refine wm_cell (v := ?_) rfl _ _ rfl rfl ?_ ?_ ?_;rotate_left;(first|exact (K.below.cell (by assumption)).trans (by assumption));(with_reducible first|exact one2)))|((with_reducible refine at_store ?_);(first|(refine wm_put (L' := ?_) (cs := ?_) (new := ?_) (t := ?_) K rfl _ _ _ rfl rfl rfl rfl ?_ ?_ ?_ ?_ rfl rfl ?_;rotate_left 4;(repeat (exact Put.hd));(exact Nat.le_of_ble_eq_true rfl);((simp only [List.setIfInBounds_toArray];exact rfl));(with_reducible first|exact one24)));(try clear K);(try clear ww);intro ww K;(try simp [go_sem] at K))|((with_reducible refine at_bsl ?_);refine wm_one K rfl _ _ rfl Try.underlying24 num2 rfl ?_;(try clear K);(try clear ww);intro bb ww K;(try simp [go_sem] at K))|((with_reducible refine at_app ?_);refine wm_appT (L0 := ?_) K ?_ rfl _ _ _ rfl Try.underlying24 num2 rfl hO rfl rfl (by first|omega) (by first|(unfold maxLen;omega)) ?_;rotate_left;(repeat (first|exact Tl.nil|(refine Tl.cons (L0 := ?_) ?_;rotate_left)));(try clear K hO);(try clear ww);intro v ww Lo hO K;obtain ⟨_, _, _, rfl, _⟩ := hO.val;simp only [List.cons_append, List.nil_append] at K))
        clear g1 g2 g3 g4 g5 g6 g7 k1 k2 e5
        exact ⟨⟨i + 1, _, Lo, by omega, by go_num, by rw [hsn.out, ints_app]; exact hO, K⟩, by simp [intOf]; omega⟩
      · rw [if_neg hin] at hE
        obtain ⟨u1, u2, u3, u4, t1, t2, t3, t4, hu⟩ := four_not hin
        subst hE
        clear hmod hmod2 hdiv hdiv2 hxy hmm hww ha hb hin
        have g1 := g1h.out
        have g2 := g2h.out
        have g3 := g3h.out
        have g4 := g4h.out
        have g5 := g5h.out
        have g6 := g6h.out
        have g7 := g7h.out
        have e5 := e5h.out
        cases u1
        case' true => cases u2
        case' true.true => cases u3
        case' true.true.true => cases u4
        case true.true.true.true => cases hu
        all_goals
          clear hu
          go_wp2_with (first|go_big_skip|((with_reducible refine at_load ?_);first|(refine wm_own (cs := ?_) (t := ?_) (v := ?_) K rfl _ _ rfl rfl ?_ ?_ ?_ ?_;rotate_left 2;(repeat (first|exact At.hd|refine At.tl ?_));rotate_left;(exact rfl);(with_reducible first|exact one3|exact one24)))|((with_reducible refine at_store ?_);(first|(refine wm_put (L' := ?_) (cs := ?_) (new := ?_) (t := ?_) K rfl _ _ _ rfl rfl rfl rfl ?_ ?_ ?_ ?_ rfl rfl ?_;rotate_left 4;(repeat (exact Put.hd));(exact Nat.le_of_ble_eq_true rfl);((simp only [List.setIfInBounds_toArray];exact rfl));(with_reducible first|exact one24)));(try clear K);(try clear ww);intro ww K;(try simp [go_sem] at K))|((with_reducible refine at_bsl ?_);refine wm_one K rfl _ _ rfl Try.underlying24 num2 rfl ?_;(try clear K);(try clear ww);intro bb ww K;(try simp [go_sem] at K))|((with_reducible refine at_app ?_);refine wm_appT (L0 := ?_) K ?_ rfl _ _ _ rfl Try.underlying24 num2 rfl hO rfl rfl (by first|omega) (by first|(unfold maxLen;omega)) ?_;rotate_left;(repeat (first|exact Tl.nil|(refine Tl.cons (L0 := ?_) ?_;rotate_left)));(try clear K hO);(try clear ww);intro v ww Lo hO K;obtain ⟨_, _, _, rfl, _⟩ := hO.val;simp only [List.cons_append, List.nil_append] at K))
          clear g1 g2 g3 g4 g5 g6 g7 e5
          exact ⟨⟨i + 1, _, Lo, by omega, by go_num, by rw [hsn.out, ints_app]; exact hO, K⟩, by simp [intOf]; omega⟩
    · obtain rfl : m = i := by omega
      have ht : decide ((m : Int) < m) = false := decide_eq_false (by omega)
      rw [show (cut14 W H zs x y cw m).take m = cut14 W H zs x y cw m from gen_all _] at hO
      have hlen : (ints .i64 (cut14 W H zs x y cw m)).length = m := by rw [ints_len]; exact gen_len _ _
      obtain ⟨A2, c2, rfl, hc1, hc2, hA, K2⟩ := hO.fix (L0 := [(b12, #[.int .i64 cw, .int .i64 ch, .int .i64 X2, .int .i64 Y2, .int .i64 S, v], 26), (b10, #[.int .i64 0, .int .i64 0, .int .i64 0, .int .i64 0, .int .i64 0, .slice none 0 0], 26), (b5, #[.int .i64 W, .int .i64 H, .int .i64 X, .int .i64 Y, .int .i64 S, .slice A n c], 26)]) K
      rw [hlen] at K2
      have HA := Lib.hid hA
      clear K hO hc1 hc2 hlen hA
      replace K := K2
      clear K2
      have e5 := e5h.out
      go_wp2_with (first|((with_reducible refine at_load ?_);first|(refine wm_load (cs := ?_) (t := ?_) (n := ?_) K rfl _ _ rfl rfl ?_ ?_ ?_ ?_;rotate_left 2;(repeat (exact At.hd));rotate_left;(with_reducible first|exact row26);(exact rfl)))|((with_reducible refine at_store ?_);(first|(refine wm_store (L' := ?_) (cs := ?_) (t := ?_) (n := ?_) K rfl _ _ _ rfl rfl rfl rfl ?_ ?_ ?_ ?_ ?_ ?_;rotate_left 3;(repeat (first|exact Put.hd|(refine Put.tl (L' := ?_) ?_;rotate_left)));rotate_left;(with_reducible first|exact row26);(exact rfl);(exact rfl);(simp [Ones, Value.oneCell'])));(try clear K);(try clear ww);intro ww K;(try simp [go_sem] at K)))
      clear e5
      refine bodyPost_ret (K.res2 rfl _ rfl (At.tl At.hd) (by (with_reducible first | exact row26)) (by (solve | exact rfl | simp)) rfl) rfl ?_
      exact ⟨A2, c2, by rw [HXX.out.1, HXX.out.2]; rfl, ⟨K.fact.1, HA.out⟩, K.below⟩
end Go.Proofs.Ytpejoaefnnbghaa
namespace Go.Proofs.Ytpejoaefnnbghaa
open Go.RowKit
attribute [local irreducible] wpHeld wpTree wpList
set_option linter.unusedVariables false
set_option maxRecDepth 100000 in
theorem GCut14_bad (W H X Y S x y cw ch : Int) (A : Option Addr) (n c : Nat) (w : World) (hs : cutok x y cw ch = false) :
    Calls Try.prog 83 #[.agg #[.int .i64 W, .int .i64 H, .int .i64 X, .int .i64 Y, .int .i64 S, .slice A n c], .int .i64 x, .int .i64 y, .int .i64 cw, .int .i64 ch] w fun e w' => e = .returned (.tuple #[.agg #[.int .i64 W, .int .i64 H, .int .i64 X, .int .i64 Y, .int .i64 S, .slice A n c], .int .i64 2]) ∧ Below w.heap.size w w' := by
  have K := St.start w
  obtain ⟨u1, u2, u3, u4, u5, u6, u7, u8, d1, d2, d3, d4, d5, d6, d7, d8, hu⟩ := cutok_not hs
  clear hs
  cases u1
  case' false => cases u3
  case' false.false => cases u2
  case' false.false.false => cases u4
  case' false.false.false.false => cases u5
  case' false.false.false.false.false => cases u7
  case' false.false.false.false.false.false => cases u6
  case' false.false.false.false.false.false.false => cases u8
  case false.false.false.false.false.false.false.false => cases hu
  all_goals
    clear hu
    go_enter Try.func83, Try.ntmps83
    go_wp2_with (first|((with_reducible refine at_load ?_);first|(refine wm_load (cs := ?_) (t := ?_) (n := ?_) K rfl _ _ rfl rfl ?_ ?_ ?_ ?_;rotate_left 2;(repeat (first|exact At.hd|refine At.tl ?_));rotate_left;(with_reducible first|exact row26);(exact rfl)))|((with_reducible refine at_store ?_);(first|(refine wm_store (L' := ?_) (cs := ?_) (t := ?_) (n := ?_) K rfl _ _ _ rfl rfl rfl rfl ?_ ?_ ?_ ?_ ?_ ?_;rotate_left 3;(repeat (exact Put.hd));rotate_left;(with_reducible first|exact row26);(exact rfl);(exact rfl);(simp [Ones, Value.oneCell'])));(try clear K);(try clear ww);intro ww K;(try simp [go_sem] at K))|((first|((with_reducible refine at_box ?_);refine wm_box K rfl _ _ rfl rfl rfl ?_)|((with_reducible refine at_alloc ?_);refine wm_alloc (v := ?_) (cs := ?_) K rfl _ rfl ?_ ?_ ?_;rotate_left;(with_reducible first|exact zero26);rotate_left;exact rfl));(try clear K);(try clear ww);(first|((fail_if_success (have _h := b5));intro b5 ww K)|((fail_if_success (have _h := b10));intro b10 ww K));(try simp [go_sem, Value.cells] at K)))
    refine bodyPost_ret (K.res2 rfl _ rfl At.hd (by (with_reducible first | exact row26)) (by (solve | exact rfl | simp)) rfl) rfl ?_
    exact ⟨rfl, K.below⟩
theorem mix_keep {T Z : List Int} {n k : Nat} (hT : T.length = n) (hZ : Z.length = n) (hk : k < n) (h : T.getD k 0 = Z.getD k 0) : T.take (k + 1) ++ Z.drop (k + 1) = T.take k ++ Z.drop k := by
  rw [← mix_set hT hZ hk, h]
  apply List.ext_getElem?
  intro j
  by_cases hj : k = j
  · subst hj
    have h1 := mix_get (T := T) (Z := Z) hT hZ hk
    have h2 := mix_len (T := T) (Z := Z) hT hZ (Nat.le_of_lt hk)
    rw [List.getElem?_set_self (by omega), ← h1, List.getD, List.getElem?_eq_getElem (by omega)]
    rfl
  · rw [List.getElem?_set_ne hj]
theorem at_div {r q c : Nat} (hq : q < c) : (((r * c + q : Nat) : Int) % (c : Int) = q) ∧ ((r * c + q : Nat) : Int) / (c : Int) = r := by
  have h1 : (r * c + q) % c = q := by rw [Nat.mul_comm, Nat.mul_add_mod]; exact Nat.mod_eq_of_lt hq
  have h2 : (r * c + q) / c = r := by rw [Nat.mul_comm, Nat.mul_add_div (by omega), Nat.div_eq_of_lt hq, Nat.add_zero]
  constructor
  · rw [← Int.natCast_emod, h1]
  · rw [← Int.natCast_ediv, h2]
set_option maxRecDepth 100000 in
set_option maxHeartbeats 4000000 in
theorem GCut14 (W H X Y S x y cw ch : Int) (A : Option Addr) (n c m : Nat) (zs : List Int) (w : World) (h : Rd w A n (ints .i64 zs)) (hn : W * H = n) (hWH : (1 ≤ W ∧ W ≤ 64) ∧ 1 ≤ H ∧ H ≤ 64) (hX : -1125899906842624 ≤ X ∧ X ≤ 1125899906842624) (hY : -1125899906842624 ≤ Y ∧ Y ≤ 1125899906842624) (hS : 0 ≤ S ∧ S ≤ 4096) (hs : cutok x y cw ch = true) (hcm : cw * ch = m) :
    Calls Try.prog 83 #[.agg #[.int .i64 W, .int .i64 H, .int .i64 X, .int .i64 Y, .int .i64 S, .slice A n c], .int .i64 x, .int .i64 y, .int .i64 cw, .int .i64 ch] w fun e w' => ∃ A2 c2, e = .returned (.tuple #[.agg #[.int .i64 cw, .int .i64 ch, .int .i64 (X + x * S), .int .i64 (Y + y * S), .int .i64 S, .slice A2 m c2], .int .i64 0]) ∧ (Rd w' A2 m (ints .i64 (cut14 W H zs x y cw m)) ∧ Nw w.heap.size A2) ∧ Below w.heap.size w w' := by
  have K := St.start w
  have hl : zs.length = n := by rw [← h.1, ints_len]
  obtain ⟨⟨w0, w1⟩, ⟨h0, h1⟩, ⟨x0, x1⟩, y0, y1⟩ := cutok_iff.1 hs
  have d1 : decide (cw < 1) = false := decide_eq_false (by omega)
  have d2 : decide (64 < cw) = false := decide_eq_false (by omega)
  have d3 : decide (ch < 1) = false := decide_eq_false (by omega)
  have d4 : decide (64 < ch) = false := decide_eq_false (by omega)
  have d5 : decide (x < -64) = false := decide_eq_false (by omega)
  have d6 : decide (64 < x) = false := decide_eq_false (by omega)
  have d7 : decide (y < -64) = false := decide_eq_false (by omega)
  have d8 : decide (64 < y) = false := decide_eq_false (by omega)
  have hm : 1 ≤ m ∧ m ≤ 4096 := by
    have a1 := Int.mul_le_mul w1 h1 (by omega) (by omega)
    have a2 := Int.mul_le_mul w0 h0 (by omega) (by omega)
    omega
  have xs := mulI_bd4 x0 x1 (by omega) hS.2
  have ys := mulI_bd4 y0 y1 (by omega) hS.2
  have e1h : Hid (wrap64 (x * S) = x * S) := Lib.hid (by unfold wrap64; omega)
  have e2h : Hid (wrap64 (y * S) = y * S) := Lib.hid (by unfold wrap64; omega)
  have e3h : Hid (wrap64 (X + x * S) = X + x * S) := Lib.hid (by unfold wrap64; omega)
  have e4h : Hid (wrap64 (Y + y * S) = Y + y * S) := Lib.hid (by unfold wrap64; omega)
  have f1h : Hid (IntKind.i64.wrap (x * S) = x * S) := Lib.hid (IntWalk.i64_in _ (by omega))
  have f2h : Hid (IntKind.i64.wrap (y * S) = y * S) := Lib.hid (IntWalk.i64_in _ (by omega))
  have f3h : Hid (IntKind.i64.wrap (X + x * S) = X + x * S) := Lib.hid (IntWalk.i64_in _ (by omega))
  have f4h : Hid (IntKind.i64.wrap (Y + y * S) = Y + y * S) := Lib.hid (IntWalk.i64_in _ (by omega))
  have e5h : Hid (wrap64 (cw * ch) = m) := Lib.hid (by rw [hcm]; unfold wrap64; omega)
  have f5h : Hid (IntKind.i64.wrap (cw * ch) = m) := Lib.hid (by rw [hcm]; exact IntWalk.i64_in _ (by omega))
  have HR := Lib.hid h
  have HL := Lib.hid hl
  have HN := Lib.hid hn
  have HW := Lib.hid (And.intro w0 w1)
  have HGB := Lib.hid hWH
  have HXY := Lib.hid (And.intro (And.intro x0 x1) (And.intro y0 y1))
  have HM := Lib.hid hm
  have hm5 : m ≤ 5000 := by omega
  have HNB : Hid (n ≤ 4096) := Lib.hid (by
    have a1 := Int.mul_le_mul hWH.1.2 hWH.2.2 (by omega) (by omega)
    omega)
  have m1 : 8 * m ≤ 281474976710656 := by omega
  have m2 : m ≤ 4611686018427387904 := by omega
  obtain ⟨p, hp⟩ : ∃ p : Nat, cw = p := ⟨cw.toNat, by omega⟩
  obtain ⟨q, hq⟩ : ∃ q : Nat, ch = q := ⟨ch.toNat, by omega⟩
  have HPQ : Hid (p * q = m) := Lib.hid (by rw [hp, hq, ← Int.natCast_mul] at hcm; exact Int.ofNat.inj hcm)
  subst hp hq
  have hp64 : p ≤ 64 := by omega
  have hq64 : q ≤ 64 := by omega
  clear h hl hn hWH hX hY hS hs hcm hm w0 w1 h0 h1 x0 x1 y0 y1 xs ys
  have e1 := e1h.out
  have e2 := e2h.out
  have e3 := e3h.out
  have e4 := e4h.out
  have f1 := f1h.out
  have f2 := f2h.out
  have f3 := f3h.out
  have f4 := f4h.out
  have e5 := e5h.out
  have f5 := f5h.out
  go_enter Try.func83, Try.ntmps83
  go_wp2_with (first|((first|((with_reducible refine at_box ?_);refine wm_box K rfl _ _ rfl rfl rfl ?_)|((with_reducible refine at_alloc ?_);refine wm_alloc (v := ?_) (cs := ?_) K rfl _ rfl ?_ ?_ ?_;rotate_left;(with_reducible first|exact zero26);rotate_left;exact rfl));(try clear K);(try clear ww);(first|((fail_if_success (have _h := b5));intro b5 ww K)|((fail_if_success (have _h := b10));intro b10 ww K));(try simp [go_sem, Value.cells] at K)))
  (try simp only [Act.put, List.setIfInBounds_toArray, List.set_cons_zero, List.set_cons_succ])
  go_cut [12] from 48 to 70 (fun p12 wc => ∃ b12 g : Nat, p12 = .pointer (some ⟨b12, 0, none⟩) ∧ St w.heap.size w [(b12, #[.int .i64 p, .int .i64 q, .int .i64 (X + x * S), .int .i64 (Y + y * S), .int .i64 S, .slice (some ⟨g, 0, none⟩) m m], 26), (g, (nums .i64 (List.replicate m 0)).toArray, 2), (b10, #[.int .i64 0, .int .i64 0, .int .i64 0, .int .i64 0, .int .i64 0, .slice none 0 0], 26), (b5, #[.int .i64 W, .int .i64 H, .int .i64 X, .int .i64 Y, .int .i64 S, .slice A n c], 26)] Any wc)
  case first =>
    refine wm_tree _ (.take 0 (.take 1 (.take 2 (.take 3 (.take 4 (.take 5 (.take 6 (.take 7 (.take 8 (.take 9 (.take 10 (.take 11 (.take 12 (.take 13 (.take 14 (.take 15 (.take 16 (.take 17 (.take 18 (.take 19 (.take 20 (.alt 21 (.take 22 (.alt 23 (.alt 24 .done .stop) .stop)) (.alt 23 (.alt 21 (.take 22 (.alt 24 .done .stop)) .stop) .stop))))))))))))))))))))))) K sbr (by kernel_rfl) (by kernel_rfl) ?_; (try clear K); (try clear ww); intro ww K; (try simp [go_sem] at K)
    repeat' (first|exact tree_stop|(refine tm_own (cs := ?_) (t0 := ?_) (v := ?_) rfl rfl _ _ rfl rfl ?_ ?_ ?_ ?_;rotate_left 2;(repeat (first|exact At.hd|refine At.tl ?_));rotate_left;(exact rfl);(with_reducible first|exact one2))|(refine tree_take (fun K' hK' => ?_);simp only [opAt, List.getElem?_toArray, List.getElem?_cons_succ, List.getElem?_cons_zero, Option.getD_some];go_simp;first|(apply Exists.intro;refine ⟨?_, hK' _ ?_⟩;(intro _ _;rfl);clear hK' K'))|(refine tree_list rfl ?_ ?_;refine wm_make K rfl _ _ _ rfl Try.underlying24 num2 m rfl rfl rfl rfl m1 m2 ?_;intro g ww2 K2;refine wl_nil ⟨(by apply via sbr;first|exact K2.tail|exact K2.tail.tail), ?_⟩;replace K := K2;clear K2;(try clear ww);revert ww2;intro ww K)|(first|((fail_if_success (have _h := b12));refine tm_alloc (v := ?_) (cs := ?_) K rfl rfl _ rfl ?_ ?_ ?_ ?_;rotate_left;(with_reducible first|exact zero26);rotate_left;exact rfl;intro b12 ww2 K2;(try simp [go_sem, Value.cells] at K2);refine ⟨(by apply via sbr;first|exact K2.tail|exact K2.tail.tail), ?_⟩;replace K := K2;clear K2;(try clear ww);revert ww2;intro ww K))|(refine tm_store (L' := ?_) (cs := ?_) (t0 := ?_) (n := ?_) K rfl rfl _ _ _ rfl rfl rfl rfl ?_ ?_ ?_ ?_ ?_ ?_ ?_;rotate_left 3;(repeat (first|exact Put.hd|(refine Put.tl (L' := ?_) ?_;rotate_left)));rotate_left;(with_reducible first|exact row26);(exact rfl);(exact rfl);(simp [Ones, Value.oneCell']);intro ww2 K2;(try simp [go_sem] at K2);refine ⟨(by apply via sbr;first|exact K2.tail.tail), ?_⟩;replace K := K2;clear K2;(try clear ww);revert ww2;intro ww K))
    all_goals refine tree_done ?_
    all_goals (try simp only [opAt, List.getElem?_toArray, List.getElem?_cons_succ, List.getElem?_cons_zero, Option.getD_some])
    all_goals (try go_simp)
    all_goals (try go_wp2_with (fail))
    all_goals (try go_meet)
    all_goals first | exact ⟨_, _, rfl, K⟩ | exact ⟨_, _, rfl, K.perm (List.Perm.swap _ _ _)⟩
  case rest =>
    clear K
    obtain ⟨b12, g, rfl, K⟩ := hcut
    clear e1 e2 e3 e4 f1 f2 f3 f4 e5 f5 e1h e2h e3h e4h f1h f2h f3h f4h e5h f5h d1 d2 d3 d4 d5 d6 d7 d8 m1 m2
    obtain ⟨X2, hX2⟩ : ∃ X2, X + x * S = X2 := ⟨_, rfl⟩
    obtain ⟨Y2, hY2⟩ : ∃ Y2, Y + y * S = Y2 := ⟨_, rfl⟩
    rw [hX2, hY2] at K
    have HXX := Lib.hid (And.intro hX2 hY2)
    clear hX2 hY2
    obtain ⟨T, hT⟩ : ∃ T, cut14 W H zs x y (p : Int) m = T := ⟨_, rfl⟩
    have HTE := Lib.hid hT
    have HTL : Hid (T.length = m) := Lib.hid (by rw [← hT]; exact gen_len _ _)
    have HTG : Hid (∀ k, k < m → T.getD k 0 = cutv W H zs x y p k) := Lib.hid (fun k hk => by rw [← hT]; exact gen_get _ hk)
    clear hT
    obtain ⟨Z, hZ⟩ : ∃ Z : List Int, List.replicate m 0 = Z := ⟨_, rfl⟩
    have HZL : Hid (Z.length = m) := Lib.hid (by rw [← hZ]; simp)
    have HZG : Hid (∀ k, k < m → Z.getD k 0 = 0) := Lib.hid (fun k hk => by rw [← hZ]; simp [List.getD, hk])
    have HZ0 : Hid (((nums .i64 (List.replicate m 0)).toArray : Array Value).size = m ∧ ((nums .i64 (List.replicate m 0)).toArray : Array Value).toList.take m = ints .i64 (T.take (0 * p) ++ Z.drop (0 * p))) := Lib.hid (by
      rw [Nat.zero_mul, List.take_zero, List.drop_zero, List.nil_append, ← hZ]; exact zeros_at m)
    generalize (nums .i64 (List.replicate m 0)).toArray = cur0 at *
    clear hZ
    go_wp2_with fail
    go_loopw [72] (fun i wr => ∃ (r : Nat) (cur : Array Value), r ≤ q ∧ i = .int .i64 r ∧ Hid (cur.size = m ∧ cur.toList.take m = ints .i64 (T.take (r * p) ++ Z.drop (r * p))) ∧ St w.heap.size w [(b12, #[.int .i64 p, .int .i64 q, .int .i64 X2, .int .i64 Y2, .int .i64 S, .slice (some ⟨g, 0, none⟩) m m], 26), (g, cur, 2), (b10, #[.int .i64 0, .int .i64 0, .int .i64 0, .int .i64 0, .int .i64 0, .slice none 0 0], 26), (b5, #[.int .i64 W, .int .i64 H, .int .i64 X, .int .i64 Y, .int .i64 S, .slice A n c], 26)] Any wr) (fun i _ => q - (intOf i).toNat)
    case atStart => exact ⟨0, cur0, Nat.zero_le _, rfl, HZ0, K⟩
    case round =>
      clear K HZ0
      obtain ⟨r, cur, hr, rfl, HU, K⟩ := hrel
      by_cases hrq : r < q
      · have ht : decide ((r : Int) < q) = true := decide_eq_true (by omega)
        go_wp2_with fail
        go_loopw [76] (fun i wr => ∃ (cc : Nat) (cur : Array Value), cc ≤ p ∧ i = .int .i64 cc ∧ Hid (cur.size = m ∧ cur.toList.take m = ints .i64 (T.take (r * p + cc) ++ Z.drop (r * p + cc))) ∧ St w.heap.size w [(b12, #[.int .i64 p, .int .i64 q, .int .i64 X2, .int .i64 Y2, .int .i64 S, .slice (some ⟨g, 0, none⟩) m m], 26), (g, cur, 2), (b10, #[.int .i64 0, .int .i64 0, .int .i64 0, .int .i64 0, .int .i64 0, .slice none 0 0], 26), (b5, #[.int .i64 W, .int .i64 H, .int .i64 X, .int .i64 Y, .int .i64 S, .slice A n c], 26)] Any wr) (fun i _ => p - (intOf i).toNat)
        case atStart => exact ⟨0, cur, Nat.zero_le _, rfl, HU, K⟩
        case round =>
          clear K HU
          obtain ⟨cc, cur, hcc, rfl, HU, K⟩ := hrel
          by_cases hcp : cc < p
          · have ht2 : decide ((cc : Int) < p) = true := decide_eq_true (by omega)
            have hkm0 : r * p + cc < m := by
              have h1 := Nat.mul_le_mul_right p (show r + 1 ≤ q by omega)
              rw [Nat.succ_mul, Nat.mul_comm q p, HPQ.out] at h1
              omega
            obtain ⟨hmd, hdv⟩ := at_div (r := r) (q := cc) (c := p) hcp
            obtain ⟨R, hR⟩ : ∃ R : Nat, r * p = R := ⟨_, rfl⟩
            rw [hR] at hkm0 hmd hdv
            obtain ⟨k, hk⟩ : ∃ k : Nat, R + cc = k := ⟨_, rfl⟩
            rw [hk] at hkm0 hmd hdv
            have HK : Hid (r * p + cc = k ∧ r * p + (cc + 1) = k + 1) := Lib.hid (by rw [hR]; omega)
            have HU2 : Hid (cur.size = m ∧ cur.toList.take m = ints .i64 (T.take k ++ Z.drop k)) := Lib.hid (by have := HU.out; rw [HK.out.1] at this; exact this)
            have hxy := HXY.out
            have s1h : Hid (wrap64 ((r : Int) * (p : Int)) = (R : Int)) := Lib.hid (by rw [← Int.natCast_mul, hR]; exact w64 (by omega) (by omega))
            have s2h : Hid (wrap64 ((R : Int) + (cc : Int)) = (k : Int)) := Lib.hid (w64e (by omega) (by omega) (by omega))
            obtain ⟨a, ha⟩ : ∃ a, x + (cc : Int) = a := ⟨_, rfl⟩
            obtain ⟨b, hb⟩ : ∃ b, y + (r : Int) = b := ⟨_, rfl⟩
            have g4h : Hid (wrap64 (x + (cc : Int)) = a) := Lib.hid (w64e (by omega) (by omega) ha)
            have g5h : Hid (wrap64 (y + (r : Int)) = b) := Lib.hid (w64e (by omega) (by omega) hb)
            have hE : T.getD k 0 = if 0 ≤ a ∧ a < W ∧ 0 ≤ b ∧ b < H then zs.getD (b * W + a).toNat 0 else 0 := by rw [HTG.out k hkm0]; unfold cutv; rw [hmd, hdv, ha, hb]
            by_cases hin : 0 ≤ a ∧ a < W ∧ 0 ≤ b ∧ b < H
            · rw [if_pos hin] at hE
              obtain ⟨q0, q1⟩ := place_bd HN.out hin.1 hin.2.1 hin.2.2.1 hin.2.2.2
              obtain ⟨j, hj⟩ : ∃ j : Nat, b * W + a = j := ⟨(b * W + a).toNat, by omega⟩
              rw [hj, Int.toNat_natCast] at hE
              have hjn : j < n := by omega
              have hgb := HGB.out
              have hnb := HNB.out
              have hbw := Int.mul_nonneg hin.2.2.1 (show 0 ≤ W by omega)
              have t1 : decide (0 ≤ a) = true := decide_eq_true hin.1
              have t2 : decide (a < W) = true := decide_eq_true hin.2.1
              have t3 : decide (0 ≤ b) = true := decide_eq_true hin.2.2.1
              have t4 : decide (b < H) = true := decide_eq_true hin.2.2.2
              obtain ⟨bb0, off, rfl, hbb, hc⟩ := HR.out.get hjn
              have hv := hc j _ (ints_get .i64 zs j (by rw [HL.out]; exact hjn))
              rw [← hE] at hv
              have hnew := mix_set HTL.out HZL.out hkm0
              generalize T.getD k 0 = v at *
              have hput := row_put (i := k) (x := v) HU2.out.2
              rw [hnew] at hput
              have HN2 : Hid ((cur.setIfInBounds k (.int .i64 v)).size = m ∧ (cur.setIfInBounds k (.int .i64 v)).toList.take m = ints .i64 (T.take (r * p + (cc + 1)) ++ Z.drop (r * p + (cc + 1)))) := Lib.hid (by rw [HK.out.2]; exact ⟨by rw [Array.size_setIfInBounds]; exact HU2.out.1, hput⟩)
              have hink : k < cur.size := by rw [HU2.out.1]; exact hkm0
              have k1h : Hid (wrap64 (b * W) = b * W) := Lib.hid (w64 (by omega) (by omega))
              have k2h : Hid (wrap64 (b * W + a) = j) := Lib.hid (w64e (by omega) (by omega) hj)
              have l1h : Hid (IntKind.i64.wrap (b * W) = b * W) := Lib.hid (IntWalk.i64_in _ (by omega))
              have l2h : Hid (IntKind.i64.wrap (b * W + a) = j) := Lib.hid ((IntWalk.i64_in _ (by omega)).trans hj)
              have l3h : Hid (IntKind.i64.wrap ((r : Int) * (p : Int)) = (R : Int)) := Lib.hid (by rw [← Int.natCast_mul, hR]; exact IntWalk.i64_in _ (by omega))
              have l4h : Hid (IntKind.i64.wrap ((R : Int) + (cc : Int)) = (k : Int)) := Lib.hid ((IntWalk.i64_in _ (by omega)).trans (by omega))
              clear hc hmd hdv hR hk hxy hnb ha hb hE hin q0 q1 hj hgb hbw hnew hput
              have s1 := s1h.out
              have s2 := s2h.out
              have g4 := g4h.out
              have g5 := g5h.out
              have k1 := k1h.out
              have k2 := k2h.out
              have l1 := l1h.out
              have l2 := l2h.out
              have l3 := l3h.out
              have l4 := l4h.out
              go_wp2_with (first|((with_reducible refine at_load ?_);first|(refine wm_own (cs := ?_) (t := ?_) (v := ?_) K rfl _ _ rfl rfl ?_ ?_ ?_ ?_;rotate_left 2;(repeat (first|exact At.hd|refine At.tl ?_));rotate_left;(exact rfl);(with_reducible first|exact one3))))
              refine wm_held _ [(true, 0), (true, 1), (true, 2), (true, 3), (true, 4), (true, 5), (true, 6), (true, 7), (true, 8), (true, 9), (true, 10), (true, 11), (true, 12), (true, 13), (true, 14), (true, 15), (true, 16), (true, 17), (false, 18)] K sbk1 (by kernel_rfl) (by kernel_rfl) ?_; (try clear K); (try clear ww); intro ww K; (try simp [go_sem] at K); simp only [pick, List.getElem?_toArray, List.getElem?_cons_succ, List.getElem?_cons_zero]
              repeat (first|((with_reducible refine ht_load ?_);first|(refine hm_own (cs := ?_) (t := ?_) (v := ?_) rfl _ _ rfl rfl ?_ ?_ ?_ ?_;rotate_left 2;(repeat (first|exact At.hd|refine At.tl ?_));rotate_left;(first|exact rfl|assumption);(with_reducible first|exact one3|exact one24))|(refine hm_cell (v := ?_) rfl _ _ rfl rfl (fun ww K => ?_) ?_ ?_;rotate_left;(first|exact (K.below.cell (by assumption)).trans (by assumption));(with_reducible first|exact one2)))|(refine held_take (fun K' hK' => ?_);go_simp;first|(apply Exists.intro;refine ⟨?_, hK' _ ?_⟩;(intro _ _;rfl);clear hK' K'))|((with_reducible refine ht_store ?_);first|(refine hm_put (L' := ?_) (cs := ?_) (new := ?_) (t := ?_) K rfl _ _ _ rfl rfl rfl rfl ?_ ?_ ?_ ?_ rfl rfl ?_;rotate_left 4;(repeat (first|exact Put.hd|(refine Put.tl (L' := ?_) ?_;rotate_left)));(omega);(exact rfl);(with_reducible first|exact one2);(try clear K);(try clear ww);intro ww K;(try simp [go_sem] at K);refine ⟨(by apply via sbk1;first|exact K), ?_⟩)))
              refine held_nil ?_
              go_wp2_with fail
              clear s1 s2 g4 g5 k1 k2 l1 l2 l3 l4
              exact ⟨⟨cc + 1, _, by omega, by go_num, HN2, K⟩, by simp [intOf]; omega⟩
            · rw [if_neg hin] at hE
              obtain ⟨u1, u2, u3, u4, t1, t2, t3, t4, hu⟩ := four_not hin
              have HN2 : Hid (cur.size = m ∧ cur.toList.take m = ints .i64 (T.take (r * p + (cc + 1)) ++ Z.drop (r * p + (cc + 1)))) := Lib.hid (by rw [HK.out.2, mix_keep HTL.out HZL.out hkm0 (by rw [hE, HZG.out k hkm0])]; exact HU2.out)
              clear hmd hdv hR hk hxy ha hb hE hin
              have g4 := g4h.out
              have g5 := g5h.out
              cases u1
              case' true => cases u3
              case' true.true => cases u2
              case' true.true.true => cases u4
              case true.true.true.true => cases hu
              all_goals
                clear hu
                go_wp2_with (first|((with_reducible refine at_load ?_);first|(refine wm_own (cs := ?_) (t := ?_) (v := ?_) K rfl _ _ rfl rfl ?_ ?_ ?_ ?_;rotate_left 2;(repeat (first|exact At.hd|refine At.tl ?_));rotate_left;(exact rfl);(with_reducible first|exact one3))))
                clear g4 g5
                exact ⟨⟨cc + 1, cur, by omega, by go_num, HN2, K⟩, by simp [intOf]; omega⟩
          · obtain rfl : cc = p := by omega
            have ht2 : decide ((cc : Int) < cc) = false := decide_eq_false (by omega)
            have HU2 : Hid (cur.size = m ∧ cur.toList.take m = ints .i64 (T.take ((r + 1) * cc) ++ Z.drop ((r + 1) * cc))) := Lib.hid (by rw [Nat.succ_mul]; exact HU.out)
            go_wp2_with fail
            exact ⟨⟨r + 1, cur, by omega, by go_num, HU2, K⟩, by simp [intOf]; omega⟩
      · obtain rfl : r = q := by omega
        have ht : decide ((r : Int) < r) = false := decide_eq_false (by omega)
        have hlast : cur.toList.take m = ints .i64 T := by
          have h1 := HU.out.2
          rw [show r * p = m by rw [Nat.mul_comm]; exact HPQ.out, show T.take m = T from List.take_of_length_le (by rw [HTL.out]; omega), show Z.drop m = [] from List.drop_of_length_le (by rw [HZL.out]; omega), List.append_nil] at h1
          exact h1
        have HX := Lib.hid (And.intro hlast (show m ≤ cur.size by rw [HU.out.1]; exact Nat.le_refl _))
        clear hlast
        go_wp2_with (first|((with_reducible refine at_load ?_);first|(refine wm_load (cs := ?_) (t := ?_) (n := ?_) K rfl _ _ rfl rfl ?_ ?_ ?_ ?_;rotate_left 2;(repeat (exact At.hd));rotate_left;(with_reducible first|exact row26);(exact rfl)))|((with_reducible refine at_store ?_);(first|(refine wm_store (L' := ?_) (cs := ?_) (t := ?_) (n := ?_) K rfl _ _ _ rfl rfl rfl rfl ?_ ?_ ?_ ?_ ?_ ?_;rotate_left 3;(repeat (first|exact Put.hd|(refine Put.tl (L' := ?_) ?_;rotate_left)));rotate_left;(with_reducible first|exact row26);(exact rfl);(exact rfl);(simp [Ones, Value.oneCell'])));(try clear K);(try clear ww);intro ww K;(try simp [go_sem] at K)))
        refine bodyPost_ret (K.res2 rfl _ rfl (At.tl (At.tl At.hd)) (by (with_reducible first|exact row26)) (by (exact rfl)) rfl) rfl ?_
        exact ⟨some ⟨g, 0, none⟩, m, by rw [HXX.out.1, HXX.out.2]; rfl, ⟨by rw [HTE.out]; exact (sl_take (K.get (.tl .hd)) HX.out.1 HX.out.2).rd, Nw.mk _ _ _ (K.ge (.tl .hd))⟩, K.below⟩
end Go.Proofs.Ytpejoaefnnbghaa
namespace Go.Proofs.Ytpejoaefnnbghaa
open Go.RowKit
attribute [local irreducible] wpHeld wpTree wpList
set_option linter.unusedVariables false
theorem splok_not {W H S : Int} (hs : splok W H S = false) : ∃ (u1 u2 u3 u4 : Bool), decide (32 < W) = u1 ∧ decide (32 < H) = u2 ∧ decide (S < 32) = u3 ∧ (S % 4 != 0) = u4 ∧ (u1 || u2 || u3 || u4) = true := by
  refine ⟨_, _, _, _, rfl, rfl, rfl, rfl, ?_⟩
  unfold splok at hs
  rw [Bool.eq_iff_iff] at hs ⊢
  simp only [Bool.and_eq_true, Bool.or_eq_true, decide_eq_true_eq, Bool.false_eq_true, iff_false, iff_true, bne_iff_ne, ne_eq] at hs ⊢
  omega
set_option maxRecDepth 100000 in
theorem RSplit14_bad (W H X Y S : Int) (A : Option Addr) (n c : Nat) (w : World) (hS : 0 ≤ S) (hs : splok W H S = false) :
    Calls Try.prog 77 #[.agg #[.int .i64 W, .int .i64 H, .int .i64 X, .int .i64 Y, .int .i64 S, .slice A n c]] w fun e w' => e = .returned (.tuple #[.agg #[.int .i64 W, .int .i64 H, .int .i64 X, .int .i64 Y, .int .i64 S, .slice A n c], .int .i64 12]) ∧ Below w.heap.size w w' := by
  have K := St.start w
  obtain ⟨u1, u2, u3, u4, d1, d2, d3, d4, hu⟩ := splok_not hs
  have hm : S.tmod 4 = S % 4 := Int.tmod_eq_emod_of_nonneg hS
  obtain ⟨v, hv⟩ : ∃ v, S % 4 = v := ⟨_, rfl⟩
  rw [hv] at hm d4
  clear hs hv hS
  cases u1
  case' false => cases u2
  case' false.false => cases u3
  case' false.false.false => cases u4
  case false.false.false.false => cases hu
  all_goals
    clear hu
    go_enter Try.func77, Try.ntmps77
    go_wp2_with (first|go_big_skip|((with_reducible refine at_load ?_);first|(refine wm_load (cs := ?_) (t := ?_) (n := ?_) K rfl _ _ rfl rfl ?_ ?_ ?_ ?_;rotate_left 2;(repeat (first|exact At.hd|refine At.tl ?_));rotate_left;(with_reducible first|exact row26);(exact rfl))|(refine wm_own (cs := ?_) (t := ?_) (v := ?_) K rfl _ _ rfl rfl ?_ ?_ ?_ ?_;rotate_left 2;(repeat (first|exact At.hd|refine At.tl ?_));rotate_left;(exact rfl);(with_reducible first|exact one2|exact one3)))|((with_reducible refine at_store ?_);(first|(refine wm_store (L' := ?_) (cs := ?_) (t := ?_) (n := ?_) K rfl _ _ _ rfl rfl rfl rfl ?_ ?_ ?_ ?_ ?_ ?_;rotate_left 3;(repeat (exact Put.hd));rotate_left;(with_reducible first|exact row26);(exact rfl);(exact rfl);(simp [Ones, Value.oneCell'])));(try clear K);(try clear ww);intro ww K;(try simp [go_sem] at K))|((first|((with_reducible refine at_box ?_);refine wm_box K rfl _ _ rfl rfl rfl ?_)|((with_reducible refine at_alloc ?_);refine wm_alloc (v := ?_) (cs := ?_) K rfl _ rfl ?_ ?_ ?_;rotate_left;(with_reducible first|exact zero26);rotate_left;exact rfl));(try clear K);(try clear ww);(first|((fail_if_success (have _h := r1));intro r1 ww K)|((fail_if_success (have _h := r2));intro r2 ww K));(try simp [go_sem, Value.cells] at K)))
    refine bodyPost_ret (K.res2 rfl _ rfl At.hd (by (with_reducible first | exact row26)) (by (solve | exact rfl | simp)) rfl) rfl ?_
    exact ⟨rfl, K.below⟩
set_option maxRecDepth 100000 in
theorem GSplit14_bad (W H X Y S : Int) (A : Option Addr) (n c : Nat) (w : World) (hS : 0 ≤ S) (hW : 0 ≤ W ∧ W ≤ 1000000) (hH : 0 ≤ H ∧ H ≤ 1000000) (hs : splok W H S = false) :
    Calls Try.prog 74 #[.agg #[.int .i64 W, .int .i64 H, .int .i64 X, .int .i64 Y, .int .i64 S, .slice A n c]] w fun e w' => e = .returned (.tuple #[.agg #[.int .i64 W, .int .i64 H, .int .i64 X, .int .i64 Y, .int .i64 S, .slice A n c], .int .i64 12]) ∧ Below w.heap.size w w' := by
  have K := St.start w
  obtain ⟨u1, u2, u3, u4, d1, d2, d3, d4, hu⟩ := splok_not hs
  have hm : S.tmod 4 = S % 4 := Int.tmod_eq_emod_of_nonneg hS
  obtain ⟨v, hv⟩ : ∃ v, S % 4 = v := ⟨_, rfl⟩
  rw [hv] at hm d4
  obtain ⟨W2, hW2⟩ : ∃ W2, 2 * W = W2 := ⟨_, rfl⟩
  obtain ⟨H2, hH2⟩ : ∃ H2, 2 * H = H2 := ⟨_, rfl⟩
  have f1 : decide (64 < W2) = u1 := by rw [← d1, decide_eq_decide]; omega
  have f2 : decide (64 < H2) = u2 := by rw [← d2, decide_eq_decide]; omega
  have e1h : Hid (wrap64 (2 * W) = W2) := Lib.hid (w64e (by omega) (by omega) hW2)
  have e2h : Hid (wrap64 (2 * H) = H2) := Lib.hid (w64e (by omega) (by omega) hH2)
  clear hs hv hS hW hH hW2 hH2 d1 d2
  have e1 := e1h.out
  have e2 := e2h.out
  cases u1
  case' false => cases u2
  case' false.false => cases u3
  case' false.false.false => cases u4
  case false.false.false.false => cases hu
  all_goals
    clear hu
    go_enter Try.func74, Try.ntmps74
    go_wp2_with (first|go_big_skip|((with_reducible refine at_load ?_);first|(refine wm_load (cs := ?_) (t := ?_) (n := ?_) K rfl _ _ rfl rfl ?_ ?_ ?_ ?_;rotate_left 2;(repeat (first|exact At.hd|refine At.tl ?_));rotate_left;(with_reducible first|exact row26);(exact rfl))|(refine wm_own (cs := ?_) (t := ?_) (v := ?_) K rfl _ _ rfl rfl ?_ ?_ ?_ ?_;rotate_left 2;(repeat (first|exact At.hd|refine At.tl ?_));rotate_left;(exact rfl);(with_reducible first|exact one2|exact one3)))|((with_reducible refine at_store ?_);(first|(refine wm_store (L' := ?_) (cs := ?_) (t := ?_) (n := ?_) K rfl _ _ _ rfl rfl rfl rfl ?_ ?_ ?_ ?_ ?_ ?_;rotate_left 3;(repeat (exact Put.hd));rotate_left;(with_reducible first|exact row26);(exact rfl);(exact rfl);(simp [Ones, Value.oneCell'])));(try clear K);(try clear ww);intro ww K;(try simp [go_sem] at K))|((first|((with_reducible refine at_box ?_);refine wm_box K rfl _ _ rfl rfl rfl ?_)|((with_reducible refine at_alloc ?_);refine wm_alloc (v := ?_) (cs := ?_) K rfl _ rfl ?_ ?_ ?_;rotate_left;(with_reducible first|exact zero26);rotate_left;exact rfl));(try clear K);(try clear ww);(first|((fail_if_success (have _h := r1));intro r1 ww K)|((fail_if_success (have _h := r2));intro r2 ww K));(try simp [go_sem, Value.cells] at K)))
    clear e1 e2
    refine bodyPost_ret (K.res2 rfl _ rfl At.hd (by (with_reducible first | exact row26)) (by (solve | exact rfl | simp)) rfl) rfl ?_
    exact ⟨rfl, K.below⟩
end Go.Proofs.Ytpejoaefnnbghaa
namespace Go.Proofs.Ytpejoaefnnbghaa
open Go.RowKit
attribute [local irreducible] wpHeld wpTree wpList
set_option linter.unusedVariables false
theorem gen_zero {p m n4 : Nat} {zs : List Int} : gen14 n4 (pjoin p m zs 0) = List.replicate n4 0 := by
  apply List.ext_getElem?
  intro k
  by_cases hk : k < n4
  · simp [gen14, hk, pjoin_zero]
  · rw [List.getElem?_eq_none (by rw [gen_len]; omega), List.getElem?_eq_none (by simp; omega)]
theorem pjoin_bd {p m i k : Nat} {zs : List Int} (h : ∀ z ∈ zs, 0 ≤ z ∧ z ≤ 1073741824) : 0 ≤ pjoin p m zs i k ∧ pjoin p m zs i k ≤ 4294967296 := by
  have b : ∀ (P : Prop) [Decidable P] (j : Nat), 0 ≤ (if P then zs.getD j 0 else 0) ∧ (if P then zs.getD j 0 else 0) ≤ 1073741824 := by
    intro P _ j
    split
    · by_cases hj : j < zs.length
      · exact h _ (getD_mem hj)
      · rw [List.getD, List.getElem?_eq_none (by omega)]; simp
    · omega
  unfold pjoin
  have b1 := b (base14 p m k < i) (base14 p m k)
  have b2 := b (base14 p m k + 1 < i) (base14 p m k + 1)
  have b3 := b (base14 p m k + p < i) (base14 p m k + p)
  have b4 := b (base14 p m k + p + 1 < i) (base14 p m k + p + 1)
  omega
theorem gen_join {p m q1 : Nat} {zs : List Int} (hp : p = 2 * m) (hm : 0 < m) : gen14 (m * q1) (pjoin p m zs (p * (2 * q1))) = join14 p m zs (m * q1) := by
  apply List.ext_getElem?
  intro k
  unfold join14
  by_cases hk : k < m * q1
  · simp [gen14, hk, pjoin_all hp hm hk]
  · rw [List.getElem?_eq_none (by rw [gen_len]; omega), List.getElem?_eq_none (by rw [gen_len]; omega)]
set_option maxRecDepth 100000 in
set_option maxHeartbeats 4000000 in
theorem GJoinX14 (X Y S X2 Y2 : Int) (p q m1 q1 : Nat) (A : Option Addr) (n c n4 : Nat) (zs : List Int) (w : World) (h : Rd w A n (ints .i64 zs)) (hb : ∀ z ∈ zs, 0 ≤ z ∧ z ≤ 1073741824) (hn : p * q = n) (hp : p = 2 * m1) (hq : q = 2 * q1) (hm : 1 ≤ m1 ∧ m1 ≤ 32) (hq1 : 1 ≤ q1 ∧ q1 ≤ 32) (hX : wrap64 (X + S / 2) = X2) (hY : wrap64 (Y + S / 2) = Y2) (hS : 16 ≤ S ∧ S ≤ 2048) (hm4 : m1 * q1 = n4) :
    Calls Try.prog 73 #[.agg #[.int .i64 p, .int .i64 q, .int .i64 X, .int .i64 Y, .int .i64 S, .slice A n c]] w fun e w' => ∃ A2 c2, e = .returned (.tuple #[.agg #[.int .i64 m1, .int .i64 q1, .int .i64 X2, .int .i64 Y2, .int .i64 (2 * S), .slice A2 n4 c2], .int .i64 0]) ∧ (Rd w' A2 n4 (ints .i64 (join14 p m1 zs n4)) ∧ Nw w.heap.size A2) ∧ Below w.heap.size w w' := by
  have K := St.start w
  have hl : zs.length = n := by rw [← h.1, ints_len]
  have h4 : 4 * n4 = n := by rw [← hn, hp, hq, Nat.mul_mul_mul_comm, hm4]
  have hn1 : 1 ≤ n4 ∧ n4 ≤ 1024 := by
    have a1 := Nat.mul_le_mul hm.2 hq1.2
    have a2 := Nat.mul_le_mul hm.1 hq1.1
    omega
  have hn5 : n ≤ 5000 := by omega
  have m1' : 8 * n4 ≤ 281474976710656 := by omega
  have m2' : n4 ≤ 4611686018427387904 := by omega
  obtain ⟨S4, hS4⟩ : ∃ S4, S / 2 = S4 := ⟨_, rfl⟩
  obtain ⟨S2, hS2⟩ : ∃ S2, 2 * S = S2 := ⟨_, rfl⟩
  rw [hS4] at hX hY
  rw [hS2]
  have d3 : decide (4096 < S2) = false := decide_eq_false (by omega)
  have c1h : Hid ((p : Int).tmod 2 = 0) := Lib.hid (by rw [Int.tmod_eq_emod_of_nonneg (by omega)]; omega)
  have c2h : Hid ((q : Int).tmod 2 = 0) := Lib.hid (by rw [Int.tmod_eq_emod_of_nonneg (by omega)]; omega)
  have c3h : Hid ((p : Int).tdiv 2 = (m1 : Int)) := Lib.hid (by rw [Int.tdiv_eq_ediv_of_nonneg (by omega)]; omega)
  have c4h : Hid ((q : Int).tdiv 2 = (q1 : Int)) := Lib.hid (by rw [Int.tdiv_eq_ediv_of_nonneg (by omega)]; omega)
  have c5h : Hid (S.tdiv 2 = S4) := Lib.hid (by rw [Int.tdiv_eq_ediv_of_nonneg (by omega)]; exact hS4)
  have c6h : Hid (wrap64 (2 * S) = S2) := Lib.hid (w64e (by omega) (by omega) hS2)
  have c7h : Hid ((n : Int).tdiv 4 = (n4 : Int)) := Lib.hid (by rw [Int.tdiv_eq_ediv_of_nonneg (by omega)]; omega)
  have e1h : Hid (IntKind.i64.wrap (m1 : Int) = m1) := Lib.hid (IntWalk.i64_in _ (by omega))
  have e2h : Hid (IntKind.i64.wrap (q1 : Int) = q1) := Lib.hid (IntWalk.i64_in _ (by omega))
  have e3h : Hid (IntKind.i64.wrap S4 = S4) := Lib.hid (IntWalk.i64_in _ (by omega))
  have e4h : Hid (IntKind.i64.wrap (2 * S) = S2) := Lib.hid ((IntWalk.i64_in _ (by omega)).trans hS2)
  have e5h : Hid (IntKind.i64.wrap (X + S4) = X2) := Lib.hid ((iwrap_eq _).trans hX)
  have e6h : Hid (IntKind.i64.wrap (Y + S4) = Y2) := Lib.hid ((iwrap_eq _).trans hY)
  have e7h : Hid (IntKind.i64.wrap (n4 : Int) = n4) := Lib.hid (IntWalk.i64_in _ (by omega))
  have HR := Lib.hid h
  have HL := Lib.hid hl
  have HZ := Lib.hid hb
  have HN := Lib.hid (And.intro hn (And.intro hp (And.intro hq (And.intro hm (And.intro hm4 (And.intro h4 (And.intro hq1 hn1)))))))
  clear h hl hb hn hp hq hm hq1 hX hY hS hm4 h4 hn1 hS4 hS2
  have c1 := c1h.out
  have c2 := c2h.out
  have c3 := c3h.out
  have c4 := c4h.out
  have c5 := c5h.out
  have c6 := c6h.out
  have c7 := c7h.out
  have e1 := e1h.out
  have e2 := e2h.out
  have e3 := e3h.out
  have e4 := e4h.out
  have e5 := e5h.out
  have e6 := e6h.out
  have e7 := e7h.out
  go_enter Try.func73, Try.ntmps73
  go_wp2_with (first|((with_reducible refine at_load ?_);first|(refine wm_own (cs := ?_) (t := ?_) (v := ?_) K rfl _ _ rfl rfl ?_ ?_ ?_ ?_;rotate_left 2;(repeat (first|exact At.hd|refine At.tl ?_));rotate_left;(exact rfl);(with_reducible first|exact one2|exact one3)))|((first|((with_reducible refine at_box ?_);refine wm_box K rfl _ _ rfl rfl rfl ?_)|((with_reducible refine at_alloc ?_);refine wm_alloc (v := ?_) (cs := ?_) K rfl _ rfl ?_ ?_ ?_;rotate_left;(with_reducible first|exact zero26);rotate_left;exact rfl));(try clear K);(try clear ww);(first|((fail_if_success (have _h := r1));intro r1 ww K)|((fail_if_success (have _h := r2));intro r2 ww K));(try simp [go_sem, Value.cells] at K)))
  (try simp only [Act.put, List.setIfInBounds_toArray, List.set_cons_zero, List.set_cons_succ])
  go_cut [4] from 24 to 50 (fun p4 wc => ∃ r4 g : Nat, p4 = .pointer (some ⟨r4, 0, none⟩) ∧ St w.heap.size w [(r4, #[.int .i64 m1, .int .i64 q1, .int .i64 X2, .int .i64 Y2, .int .i64 S2, .slice (some ⟨g, 0, none⟩) n4 n4], 26), (g, (nums .i64 (List.replicate n4 0)).toArray, 2), (r2, #[.int .i64 0, .int .i64 0, .int .i64 0, .int .i64 0, .int .i64 0, .slice none 0 0], 26), (r1, #[.int .i64 p, .int .i64 q, .int .i64 X, .int .i64 Y, .int .i64 S, .slice A n c], 26)] Any wc)
  case first =>
    refine wm_tree _ (.take 0 (.take 1 (.take 2 (.take 3 (.take 4 (.take 5 (.take 6 (.take 7 (.take 8 (.take 9 (.take 10 (.take 11 (.take 12 (.take 13 (.take 14 (.take 15 (.take 16 (.take 17 (.take 18 (.take 19 (.take 20 (.take 21 (.take 22 (.take 23 (.take 24 (.alt 25 (.take 26 (.alt 27 (.alt 28 .done .stop) .stop)) (.alt 27 (.alt 25 (.take 26 (.alt 28 .done .stop)) .stop) .stop))))))))))))))))))))))))))) K sbr (by kernel_rfl) (by kernel_rfl) ?_; (try clear K); (try clear ww); intro ww K; (try simp [go_sem] at K)
    repeat' (first|exact tree_stop|(refine tm_own (cs := ?_) (t0 := ?_) (v := ?_) rfl rfl _ _ rfl rfl ?_ ?_ ?_ ?_;rotate_left 2;(repeat (first|exact At.hd|refine At.tl ?_));rotate_left;(exact rfl);(with_reducible first|exact one2|exact one3|exact one24))|(refine tree_take (fun K' hK' => ?_);simp only [opAt, List.getElem?_toArray, List.getElem?_cons_succ, List.getElem?_cons_zero, Option.getD_some];go_simp;first|(apply Exists.intro;refine ⟨?_, hK' _ ?_⟩;(intro _ _;rfl);clear hK' K'))|(refine tree_list rfl ?_ ?_;refine wm_make K rfl _ _ _ rfl Try.underlying24 num2 n4 rfl rfl rfl rfl m1' m2' ?_;intro g ww2 K2;refine wl_nil ⟨(by apply via sbr;first|exact K2.tail|exact K2.tail.tail), ?_⟩;replace K := K2;clear K2;(try clear ww);revert ww2;intro ww K)|(first|((fail_if_success (have _h := r4));refine tm_alloc (v := ?_) (cs := ?_) K rfl rfl _ rfl ?_ ?_ ?_ ?_;rotate_left;(with_reducible first|exact zero26);rotate_left;exact rfl;intro r4 ww2 K2;(try simp [go_sem, Value.cells] at K2);refine ⟨(by apply via sbr;first|exact K2.tail|exact K2.tail.tail), ?_⟩;replace K := K2;clear K2;(try clear ww);revert ww2;intro ww K))|(refine tm_store (L' := ?_) (cs := ?_) (t0 := ?_) (n := ?_) K rfl rfl _ _ _ rfl rfl rfl rfl ?_ ?_ ?_ ?_ ?_ ?_ ?_;rotate_left 3;(repeat (first|exact Put.hd|(refine Put.tl (L' := ?_) ?_;rotate_left)));rotate_left;(with_reducible first|exact row26);(exact rfl);(exact rfl);(simp [Ones, Value.oneCell']);intro ww2 K2;(try simp [go_sem] at K2);refine ⟨(by apply via sbr;first|exact K2.tail.tail), ?_⟩;replace K := K2;clear K2;(try clear ww);revert ww2;intro ww K))
    all_goals refine tree_done ?_
    all_goals (try simp only [opAt, List.getElem?_toArray, List.getElem?_cons_succ, List.getElem?_cons_zero, Option.getD_some])
    all_goals (try go_simp)
    all_goals (try go_wp2_with (fail))
    all_goals (try go_meet)
    all_goals first | exact ⟨_, _, rfl, K⟩ | exact ⟨_, _, rfl, K.perm (List.Perm.swap _ _ _)⟩
  case rest =>
    clear K
    obtain ⟨r4, g, rfl, K⟩ := hcut
    clear c1 c2 c3 c4 c5 c6 c7 e1 e2 e3 e4 e5 e6 e7 c1h c2h c3h c4h c5h c6h c7h e1h e2h e3h e4h e5h e6h e7h d3 m1' m2'
    have HZ0 : Hid (((nums .i64 (List.replicate n4 0)).toArray : Array Value).size = n4 ∧ ((nums .i64 (List.replicate n4 0)).toArray : Array Value).toList.take n4 = ints .i64 (gen14 n4 (pjoin p m1 zs 0))) := Lib.hid (by
      rw [gen_zero]; exact zeros_at n4)
    generalize (nums .i64 (List.replicate n4 0)).toArray = cur0 at *
    go_wp2_with (first|((with_reducible refine at_load ?_);first|(refine wm_own (cs := ?_) (t := ?_) (v := ?_) K rfl _ _ rfl rfl ?_ ?_ ?_ ?_;rotate_left 2;(repeat (first|exact At.hd|refine At.tl ?_));rotate_left;(exact rfl);(with_reducible first|exact one24))))
    go_loopw [54] (fun i wr => ∃ (k : Nat) (cur : Array Value), k ≤ n ∧ i = .int .i64 k ∧ Hid (cur.size = n4 ∧ cur.toList.take n4 = ints .i64 (gen14 n4 (pjoin p m1 zs k))) ∧ St w.heap.size w [(r4, #[.int .i64 m1, .int .i64 q1, .int .i64 X2, .int .i64 Y2, .int .i64 S2, .slice (some ⟨g, 0, none⟩) n4 n4], 26), (g, cur, 2), (r2, #[.int .i64 0, .int .i64 0, .int .i64 0, .int .i64 0, .int .i64 0, .slice none 0 0], 26), (r1, #[.int .i64 p, .int .i64 q, .int .i64 X, .int .i64 Y, .int .i64 S, .slice A n c], 26)] Any wr) (fun i _ => n - (intOf i).toNat)
    case atStart => exact ⟨0, cur0, Nat.zero_le _, rfl, HZ0, K⟩
    case round =>
      clear K HZ0
      obtain ⟨i, cur, hi, rfl, HU, K⟩ := hrel
      by_cases hlt : i < n
      · have ht : decide ((i : Int) < n) = true := decide_eq_true (by omega)
        obtain ⟨hn, hp, hq, hm, hm4, h4, hq1, hn1⟩ := HN.out
        have hd := dest_lt (p := p) (m := m1) (q2 := q1) (i := i) hp (by omega) (by rw [← hq, hn]; exact hlt)
        rw [hm4] at hd
        have hsc := scatter_step (n4 := n4) (zs := zs) hp (by omega) hd
        have hcell := row_at HU.out.2 (gen_len _ _) hd
        have hob := pjoin_bd (p := p) (m := m1) (i := i) (k := dest14 p m1 i) HZ.out
        rw [gen_get _ hd] at hsc hcell
        obtain ⟨j, hj⟩ : ∃ j, dest14 p m1 i = j := ⟨_, rfl⟩
        rw [hj] at hd hsc hcell hob
        unfold dest14 at hj
        obtain ⟨d, hdd⟩ : ∃ d, i / p = d := ⟨_, rfl⟩
        obtain ⟨e, he⟩ : ∃ e, i % p = e := ⟨_, rfl⟩
        rw [hdd, he] at hj
        obtain ⟨yy, hyy⟩ : ∃ yy, d / 2 = yy := ⟨_, rfl⟩
        obtain ⟨xx, hxx⟩ : ∃ xx, e / 2 = xx := ⟨_, rfl⟩
        rw [hyy, hxx] at hj
        obtain ⟨R, hR⟩ : ∃ R, yy * m1 = R := ⟨_, rfl⟩
        rw [hR] at hj
        have hd2 : d ≤ i := by rw [← hdd]; exact Nat.div_le_self _ _
        have c1h : Hid ((i : Int).tmod (p : Int) = (e : Int)) := Lib.hid (by rw [Int.tmod_eq_emod_of_nonneg (by omega), ← Int.natCast_emod, he])
        have c2h : Hid ((e : Int).tdiv 2 = (xx : Int)) := Lib.hid (by rw [Int.tdiv_eq_ediv_of_nonneg (by omega)]; omega)
        have c3h : Hid ((i : Int).tdiv (p : Int) = (d : Int)) := Lib.hid (by rw [Int.tdiv_eq_ediv_of_nonneg (by omega), ← Int.natCast_ediv, hdd])
        have c4h : Hid ((d : Int).tdiv 2 = (yy : Int)) := Lib.hid (by rw [Int.tdiv_eq_ediv_of_nonneg (by omega)]; omega)
        have c5h : Hid (IntKind.i64.wrap (xx : Int) = xx) := Lib.hid (IntWalk.i64_in _ (by omega))
        have c6h : Hid (IntKind.i64.wrap (yy : Int) = yy) := Lib.hid (IntWalk.i64_in _ (by omega))
        have c7h : Hid (IntKind.i64.wrap (d : Int) = d) := Lib.hid (IntWalk.i64_in _ (by omega))
        have c8h : Hid (IntKind.i64.wrap ((yy : Int) * (m1 : Int)) = (R : Int)) := Lib.hid (by rw [← Int.natCast_mul, hR]; exact IntWalk.i64_in _ (by omega))
        have c9h : Hid (IntKind.i64.wrap ((R : Int) + (xx : Int)) = (j : Int)) := Lib.hid ((IntWalk.i64_in _ (by omega)).trans (by omega))
        have c0 : (p = 0) = False := by simp; omega
        have hil : i < zs.length := by rw [HL.out]; exact hlt
        have hz := HZ.out _ (getD_mem hil)
        obtain ⟨r0, off, rfl, hbb, hc⟩ := HR.out.get hlt
        have hv := hc i _ (ints_get .i64 zs i hil)
        generalize zs.getD i 0 = z at *
        generalize pjoin p m1 zs i j = o at *
        have z1h : Hid (IntKind.i64.wrap (o + z) = o + z) := Lib.hid (IntWalk.i64_in _ (by omega))
        have hput := row_put (i := j) (x := o + z) HU.out.2
        rw [hsc] at hput
        have HN2 : Hid ((cur.setIfInBounds j (.int .i64 (o + z))).size = n4 ∧ (cur.setIfInBounds j (.int .i64 (o + z))).toList.take n4 = ints .i64 (gen14 n4 (pjoin p m1 zs (i + 1)))) := Lib.hid ⟨by rw [Array.size_setIfInBounds]; exact HU.out.1, hput⟩
        have hink : j < cur.size := by rw [HU.out.1]; exact hd
        clear hn hp hq hm hm4 h4 hq1 hn1 hsc hob hj hdd he hyy hxx hR hd2 hil hz hc hput
        have c1 := c1h.out
        have c2 := c2h.out
        have c3 := c3h.out
        have c4 := c4h.out
        have c5 := c5h.out
        have c6 := c6h.out
        have c7 := c7h.out
        have c8 := c8h.out
        have c9 := c9h.out
        have z1 := z1h.out
        go_wp2_with (first|((with_reducible refine at_load ?_);first|(refine wm_cell (v := ?_) rfl _ _ rfl rfl ?_ ?_ ?_;rotate_left;(first|exact (K.below.cell (by assumption)).trans (by assumption));(with_reducible first|exact one2))))
        refine wm_held _ [(true, 0), (true, 1), (true, 2), (true, 3), (true, 4), (true, 5), (true, 6), (true, 7), (true, 8), (true, 9), (true, 10), (true, 11), (true, 12), (true, 13), (true, 14), (true, 15), (true, 16), (true, 18), (false, 17), (true, 19), (true, 20), (false, 21)] K sbk1 (by kernel_rfl) (by kernel_rfl) ?_; (try clear K); (try clear ww); intro ww K; (try simp [go_sem] at K); simp only [pick, List.getElem?_toArray, List.getElem?_cons_succ, List.getElem?_cons_zero]
        have hnow := (K.get (At.tl At.hd)).cell hcell
        repeat (first|((with_reducible refine ht_load ?_);first|(refine hm_own (cs := ?_) (t := ?_) (v := ?_) rfl _ _ rfl rfl ?_ ?_ ?_ ?_;rotate_left 2;(repeat (first|exact At.hd|refine At.tl ?_));rotate_left;(exact rfl);(with_reducible first|exact one3|exact one24)))|(refine held_take (fun K' hK' => ?_);go_simp;first|(apply Exists.intro;refine ⟨?_, hK' _ ?_⟩;(intro _ _;rfl);clear hK' K'))|((with_reducible refine ht_store ?_);first|(refine hm_put (L' := ?_) (cs := ?_) (new := ?_) (t := ?_) K rfl _ _ _ rfl rfl rfl rfl ?_ ?_ ?_ ?_ rfl rfl ?_;rotate_left 4;(repeat (first|exact Put.hd|(refine Put.tl (L' := ?_) ?_;rotate_left)));(omega);(exact rfl);(with_reducible first|exact one2);(try clear K);(try clear ww);intro ww K;(try simp [go_sem] at K);refine ⟨(by apply via sbk1;first|exact K), ?_⟩))|((with_reducible refine ht_load ?_);refine hm_now (v := ?_) rfl _ _ rfl rfl ?_ ?_ (by apply via sbk1;first|exact K) ?_;rotate_left;(assumption);(with_reducible first|exact one2)))
        refine held_nil ?_
        clear c1 c2 c3 c4 c5 c6 c7 c8 c9 z1
        go_wp2_with fail
        exact ⟨⟨i + 1, _, by omega, by go_num, HN2, K⟩, by simp [intOf]; omega⟩
      · obtain rfl : n = i := by omega
        have ht : decide ((n : Int) < n) = false := decide_eq_false (by omega)
        have hlast : cur.toList.take n4 = ints .i64 (join14 p m1 zs n4) := by
          obtain ⟨hn, hp, hq, hm, hm4, h4, hq1, hn1⟩ := HN.out
          have hg := gen_join (zs := zs) (q1 := q1) hp (by omega)
          rw [← hq, hn, hm4] at hg
          rw [HU.out.2, hg]
        have HX := Lib.hid (And.intro hlast (show n4 ≤ cur.size by rw [HU.out.1]; exact Nat.le_refl _))
        clear hlast
        go_wp2_with (first|((with_reducible refine at_load ?_);first|(refine wm_load (cs := ?_) (t := ?_) (n := ?_) K rfl _ _ rfl rfl ?_ ?_ ?_ ?_;rotate_left 2;(repeat (exact At.hd));rotate_left;(with_reducible first|exact row26);(exact rfl)))|((with_reducible refine at_store ?_);(first|(refine wm_store (L' := ?_) (cs := ?_) (t := ?_) (n := ?_) K rfl _ _ _ rfl rfl rfl rfl ?_ ?_ ?_ ?_ ?_ ?_;rotate_left 3;(repeat (first|exact Put.hd|(refine Put.tl (L' := ?_) ?_;rotate_left)));rotate_left;(with_reducible first|exact row26);(exact rfl);(exact rfl);(simp [Ones, Value.oneCell'])));(try clear K);(try clear ww);intro ww K;(try simp [go_sem] at K)))
        refine bodyPost_ret (K.res2 rfl _ rfl (At.tl (At.tl At.hd)) (by (with_reducible first|exact row26)) (by (exact rfl)) rfl) rfl ?_
        exact ⟨some ⟨g, 0, none⟩, n4, rfl, ⟨(sl_take (K.get (.tl .hd)) HX.out.1 HX.out.2).rd, Nw.mk _ _ _ (K.ge (.tl .hd))⟩, K.below⟩
end Go.Proofs.Ytpejoaefnnbghaa
namespace Go.Proofs.Ytpejoaefnnbghaa
open Go.RowKit
attribute [local irreducible] wpHeld wpTree wpList
set_option linter.unusedVariables false
def joinok (W H S : Int) : Bool := decide (W % 2 = 0) && decide (H % 2 = 0) && decide (S ≤ 2048)
theorem joinok_iff {W H S : Int} : joinok W H S = true ↔ W % 2 = 0 ∧ H % 2 = 0 ∧ S ≤ 2048 := by unfold joinok; simp [and_assoc]
theorem joinok_not {W H S : Int} (hs : joinok W H S = false) : ∃ (u1 u2 u3 : Bool), (W % 2 != 0) = u1 ∧ (H % 2 != 0) = u2 ∧ decide (2048 < S) = u3 ∧ (u1 || u2 || u3) = true := by
  refine ⟨_, _, _, rfl, rfl, rfl, ?_⟩
  unfold joinok at hs
  rw [Bool.eq_iff_iff] at hs ⊢
  simp only [Bool.and_eq_true, Bool.or_eq_true, decide_eq_true_eq, Bool.false_eq_true, iff_false, iff_true, bne_iff_ne, ne_eq] at hs ⊢
  omega
set_option maxRecDepth 100000 in
theorem GJoin14_bad (W H X Y S : Int) (A : Option Addr) (n c : Nat) (w : World) (hW : 0 ≤ W) (hH : 0 ≤ H) (hS : 0 ≤ S ∧ S ≤ 1000000) (hs : joinok W H S = false) :
    Calls Try.prog 73 #[.agg #[.int .i64 W, .int .i64 H, .int .i64 X, .int .i64 Y, .int .i64 S, .slice A n c]] w fun e w' => e = .returned (.tuple #[.agg #[.int .i64 W, .int .i64 H, .int .i64 X, .int .i64 Y, .int .i64 S, .slice A n c], .int .i64 12]) ∧ Below w.heap.size w w' := by
  have K := St.start w
  obtain ⟨u1, u2, u3, d1, d2, d3, hu⟩ := joinok_not hs
  have hm1 : W.tmod 2 = W % 2 := Int.tmod_eq_emod_of_nonneg hW
  have hm2 : H.tmod 2 = H % 2 := Int.tmod_eq_emod_of_nonneg hH
  obtain ⟨v1, hv1⟩ : ∃ v, W % 2 = v := ⟨_, rfl⟩
  obtain ⟨v2, hv2⟩ : ∃ v, H % 2 = v := ⟨_, rfl⟩
  rw [hv1] at hm1 d1
  rw [hv2] at hm2 d2
  obtain ⟨S2, hS2⟩ : ∃ S2, 2 * S = S2 := ⟨_, rfl⟩
  have f3 : decide (4096 < S2) = u3 := by rw [← d3, decide_eq_decide]; omega
  have e1h : Hid (wrap64 (2 * S) = S2) := Lib.hid (w64e (by omega) (by omega) hS2)
  clear hs hv1 hv2 hS hW hH hS2 d3
  have e1 := e1h.out
  cases u1
  case' false => cases u2
  case' false.false => cases u3
  case false.false.false => cases hu
  all_goals
    clear hu
    go_enter Try.func73, Try.ntmps73
    go_wp2_with (first|go_big_skip|((with_reducible refine at_load ?_);first|(refine wm_load (cs := ?_) (t := ?_) (n := ?_) K rfl _ _ rfl rfl ?_ ?_ ?_ ?_;rotate_left 2;(repeat (first|exact At.hd|refine At.tl ?_));rotate_left;(with_reducible first|exact row26);(exact rfl))|(refine wm_own (cs := ?_) (t := ?_) (v := ?_) K rfl _ _ rfl rfl ?_ ?_ ?_ ?_;rotate_left 2;(repeat (first|exact At.hd|refine At.tl ?_));rotate_left;(exact rfl);(with_reducible first|exact one2|exact one3)))|((with_reducible refine at_store ?_);(first|(refine wm_store (L' := ?_) (cs := ?_) (t := ?_) (n := ?_) K rfl _ _ _ rfl rfl rfl rfl ?_ ?_ ?_ ?_ ?_ ?_;rotate_left 3;(repeat (exact Put.hd));rotate_left;(with_reducible first|exact row26);(exact rfl);(exact rfl);(simp [Ones, Value.oneCell'])));(try clear K);(try clear ww);intro ww K;(try simp [go_sem] at K))|((first|((with_reducible refine at_box ?_);refine wm_box K rfl _ _ rfl rfl rfl ?_)|((with_reducible refine at_alloc ?_);refine wm_alloc (v := ?_) (cs := ?_) K rfl _ rfl ?_ ?_ ?_;rotate_left;(with_reducible first|exact zero26);rotate_left;exact rfl));(try clear K);(try clear ww);(first|((fail_if_success (have _h := r1));intro r1 ww K)|((fail_if_success (have _h := r2));intro r2 ww K));(try simp [go_sem, Value.cells] at K)))
    clear e1
    refine bodyPost_ret (K.res2 rfl _ rfl At.hd (by (with_reducible first | exact row26)) (by (solve | exact rfl | simp)) rfl) rfl ?_
    exact ⟨rfl, K.below⟩
end Go.Proofs.Ytpejoaefnnbghaa
