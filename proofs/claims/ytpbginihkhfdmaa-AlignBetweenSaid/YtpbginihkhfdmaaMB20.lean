/-
  Lemmas and walks of this claim (the texts Lf35 Lb35 of the work; what no proof here uses is left out). No claim of their own.
-/
import Derived.Test.YtpbginihkhfdmaaMB19
import Derived.Test.YtpbginihkhfdmaaMB11
set_option linter.all false
set_option linter.unusedSimpArgs false
set_option linter.unusedVariables false
namespace Go.Proofs.Ytpbginihkhfdmaa
open Go.RowKit
attribute [local irreducible] wpHeld wpTree wpList
set_option linter.unusedVariables false
theorem wf_u32p {a : Int} (h : (Lit.int .u32 a).wf = true) : 0 ≤ a ∧ a < 4294967296 := by
  unfold Lit.wf at h
  simp [IntKind.min, IntKind.max, IntKind.bits, IntKind.signed] at h
  omega
theorem recs_pts {w : World} {A : Option Addr} {n cap : Nat} (h : IsRecs [fInt .u32, fInt .i64] w A n cap) : ∃ ps : List Pt, ps.length = n ∧ Rd w A (n * 2) (ptsV ps) ∧ ∀ i, i < ps.length → 0 ≤ (ptAt ps i).1 ∧ (ptAt ps i).1 < 4294967296 := by
  have key : ∀ i, ∃ p : Pt, i < n → (0 ≤ p.1 ∧ p.1 < 4294967296) ∧ ∃ b off, A = some ⟨b, off, none⟩ ∧ b < w.heap.size ∧ w.cell? ⟨b, off + i * 2, none⟩ = some (.int .u32 p.1) ∧ w.cell? ⟨b, off + i * 2 + 1, none⟩ = some (.int .i64 p.2) := fun i => by
    by_cases hi : i < n
    · obtain ⟨b, off, hA, hb, v0, v1, ⟨c0, T, rfl, hT⟩, ⟨c1, X, rfl, hX⟩⟩ := h.get2 hi
      exact ⟨(T, X), fun _ => ⟨wf_u32p hT, b, off, hA, hb, c0, c1⟩⟩
    · exact ⟨(0, 0), fun h => absurd h hi⟩
  obtain ⟨f, hf⟩ : ∃ f : Nat → Pt, ∀ i, i < n → (0 ≤ (f i).1 ∧ (f i).1 < 4294967296) ∧ ∃ b off, A = some ⟨b, off, none⟩ ∧ b < w.heap.size ∧ w.cell? ⟨b, off + i * 2, none⟩ = some (.int .u32 (f i).1) ∧ w.cell? ⟨b, off + i * 2 + 1, none⟩ = some (.int .i64 (f i).2) :=
    ⟨fun i => Classical.choose (key i), fun i => Classical.choose_spec (key i)⟩
  have hl : ((List.range n).map f).length = n := by simp
  have hg : ∀ i, i < n → ptAt ((List.range n).map f) i = f i := fun i hi => by
    unfold ptAt
    simp [List.getD, hi]
  refine ⟨(List.range n).map f, hl, ⟨by rw [ptsV_len, hl, Nat.mul_comm], fun h0 => ?_⟩, fun i hi => by rw [hl] at hi; rw [hg i hi]; exact (hf i hi).1⟩
  have hn : 0 < n := by omega
  obtain ⟨_, b, off, hA, hb, _⟩ := hf 0 hn
  refine ⟨b, off, hA, hb, fun j u hu => ?_⟩
  have hj : j < n * 2 := by
    have := (List.getElem?_eq_some_iff.1 hu).1
    rw [ptsV_len, hl] at this
    omega
  obtain ⟨i, hi, hji⟩ : ∃ i, i < n ∧ (j = i * 2 ∨ j = i * 2 + 1) := ⟨j / 2, by omega, by omega⟩
  obtain ⟨_, b2, off2, hA2, _, c0, c1⟩ := hf i hi
  rw [hA] at hA2
  injection hA2 with hA2
  injection hA2 with e1 e2
  subst e1 e2
  have hv := ptsV_get ((List.range n).map f) i (by rw [hl]; exact hi)
  rw [hg i hi, Nat.mul_comm] at hv
  rcases hji with rfl | rfl
  · rw [hv.1] at hu; rw [← Option.some.inj hu]; exact c0
  · rw [hv.2] at hu; rw [← Option.some.inj hu, ← Nat.add_assoc]; exact c1
section
variable {B : Nat} {w0 w w' : World} {F : World → Prop}
end
end Go.Proofs.Ytpbginihkhfdmaa
namespace Go.Proofs.Ytpbginihkhfdmaa
open Go.RowKit
attribute [local irreducible] wpHeld wpTree wpList
set_option linter.unusedVariables false
theorem rq_zero (d : Int) : rq 0 d 2 = 0 := by
  unfold rq qMag
  simp [upB, wv]
theorem at_self {l : List Pt} {hold : Int} {i : Nat} (hr : Rise l) (h0 : 0 ≤ hold) (hi : i < l.length) : at35 l hold (ptAt l i).1 = ((ptAt l i).2, 0) := by
  have hle : (ptAt l 0).1 ≤ (ptAt l i).1 := by
    by_cases e : i = 0
    · rw [e]; exact Int.le_refl _
    · exact Int.le_of_lt (hr.up 0 i (by omega) hi)
  by_cases e : i = l.length - 1
  · unfold at35
    rw [if_neg (by omega), ← e, if_pos (Int.le_refl _), if_neg (by omega)]
  · have hlast := hr.up i (l.length - 1) (by omega) (by omega)
    have hnext := hr.up i (i + 1) (by omega) (by omega)
    rw [(at_mid (k := i + 1) hle (by omega) (fun j hj => by
      by_cases e : j = i
      · rw [e]; exact Int.le_refl _
      · exact Int.le_of_lt (hr.up j i (by omega) hi)) hnext hlast).1, prev_succ]
    unfold mid35
    have h1 := hr.ok i hi
    have h2 := hr.ok (i + 1) (by omega)
    obtain ⟨_, _, a1, a2⟩ := h1
    obtain ⟨_, _, b1, b2⟩ := h2
    rw [divM_part (by omega) (by omega) (by omega) (by omega) (by omega), Int.sub_self, Int.mul_zero, rq_zero, Int.add_zero]
theorem at_between {l : List Pt} {hold t : Int} {i : Nat} (hr : Rise l) (h0 : 0 ≤ hold) (hi : i + 1 < l.length) (h1 : (ptAt l i).1 ≤ t) (h2 : t ≤ (ptAt l (i + 1)).1) :
    (at35 l hold t).2 = 0 ∧ min (ptAt l i).2 (ptAt l (i + 1)).2 ≤ (at35 l hold t).1 ∧ (at35 l hold t).1 ≤ max (ptAt l i).2 (ptAt l (i + 1)).2 := by
  by_cases e : t = (ptAt l (i + 1)).1
  · rw [e, at_self hr h0 hi]
    dsimp only
    omega
  · have hlt : t < (ptAt l (i + 1)).1 := by omega
    have hlast : t < (ptAt l (l.length - 1)).1 := by
      by_cases e2 : i + 1 = l.length - 1
      · rw [← e2]; exact hlt
      · have := hr.up (i + 1) (l.length - 1) (by omega) (by omega); omega
    have hle : (ptAt l 0).1 ≤ t := by
      by_cases e2 : i = 0
      · rw [← e2]; exact h1
      · have := hr.up 0 i (by omega) (by omega); omega
    rw [(at_mid (k := i + 1) hle hi (fun j hj => by
      by_cases e : j = i
      · rw [e]; exact h1
      · have := hr.up j i (by omega) (by omega); omega) hlt hlast).1, prev_succ]
    have hb := mid_bd (hr.ok i (by omega)) (hr.ok (i + 1) hi) h1 (Int.le_of_lt hlt) (hr.up i (i + 1) (by omega) hi)
    dsimp only
    rcases Int.le_total (ptAt l i).2 (ptAt l (i + 1)).2 with h | h
    · have := hb.1 h; omega
    · have := hb.2 h; omega
set_option maxRecDepth 100000 in
set_option maxHeartbeats 4000000 in
theorem walk_AlignBetween (hold : Int) (A : Option Addr) (n c : Nat) (t : Int) (w : World) (w0 : (Lit.int .u32 hold).wf = true) (w1 : IsRecs [fInt .u32, fInt .i64] w A n c) (w2 : (Lit.int .u32 t).wf = true) :
    Calls Try.prog 4 #[.int .u32 hold, .slice A n c, .int .u32 t] w fun e w' => e = .returned (.bool true) ∧ Below w.heap.size w w' := by
  have K := St.start w
  have hh := wf_u32p w0
  have ht := wf_u32p w2
  obtain ⟨ps, hl, hr, hp⟩ := recs_pts w1
  have WK := Lib.hid works35_any
  clear w0 w1 w2
  by_cases c0 : 100 < n
  · have t0 : decide (100 < (n : Int)) = true := decide_eq_true (by omega)
    have t0n : decide (100 < n) = true := decide_eq_true c0
    clear hr hp
    go_enter Try.func4, Try.ntmps4
    go_wp2_with (first | (go_at_call 7; (with_reducible refine (WK.out _).mono ?_); rintro e w2 ⟨rfl, k1⟩; replace K := K.step k1; clear k1; (try clear ww); revert w2; intro ww K))
    go_ret
    exact ⟨rfl, K.below⟩
  have t0 : decide (100 < (n : Int)) = false := decide_eq_false (by omega)
  have t0n : decide (100 < n) = false := decide_eq_false c0
  by_cases c1 : 1048576 < hold
  · have t1 : decide (1048576 < hold) = true := decide_eq_true c1
    clear hr hp
    go_enter Try.func4, Try.ntmps4
    go_wp2_with (first | (go_at_call 7; (with_reducible refine (WK.out _).mono ?_); rintro e w2 ⟨rfl, k1⟩; replace K := K.step k1; clear k1; (try clear ww); revert w2; intro ww K))
    go_ret
    exact ⟨rfl, K.below⟩
  have t1 : decide (1048576 < hold) = false := decide_eq_false c1
  have HQ := mk_rise hp n (by omega)
  have h16 := HQ.len
  go_enter Try.func4, Try.ntmps4
  go_wp2_with (fail)
  (with_reducible refine (made35 A n c ps hold _ (hr.below K.below) hp (by omega) (by omega)).mono ?_)
  rintro e W ⟨g, A', n', c', cs, fr, nn, rfl, hn', hR, hT, hg, ⟨hx, hA⟩, hbel⟩
  have hBW := below_step K.below hbel K.size
  have hSW := Nat.le_trans K.size hbel.size
  clear K hbel hA hg hp hr
  have K := St.start W
  have HN := Lib.hid hn'
  have HG := Lib.hid hR
  have HX := Lib.hid hx
  have HT := Lib.hid hT
  have hle : n' ≤ 16 := by omega
  have HS := Lib.hid (fun (i : Nat) (hi : i < n') => at_self (hold := hold) HQ hh.1 (i := i) (by rw [← hn']; exact hi))
  have HB := Lib.hid (fun (i : Nat) (hi : i + 1 < n') => at_between (hold := hold) (t := t) HQ hh.1 (i := i) (by rw [← hn']; exact hi))
  have AT := Lib.hid (fun (w : World) (h : Trk w g (trkA cs fr nn hold)) (t : Int) (h1 : 0 ≤ t) (h2 : t < 4294967296) => At35 g cs _ fr nn hold t w h hR HQ h1 h2 hh.1 (by omega))
  have HO := Lib.hid HQ.ok
  rw [← hn'] at HO
  clear hn' hR hx hT HQ h16
  generalize mk35 ps n = qs at *
  go_wp2_with (fail)
  go_loopw [9] (fun i wr => ∃ (k : Nat), k ≤ n' ∧ i = .int .i64 k ∧ St W.heap.size W [] Any wr) (fun i _ => n' - (intOf i).toNat)
  case atStart => exact ⟨0, Nat.zero_le _, rfl, K⟩
  case round =>
    clear K
    obtain ⟨i, hi, rfl, K⟩ := hrel
    by_cases hlt : i < n'
    · have ht1 : decide ((i : Int) < n') = true := decide_eq_true (by omega)
      have ht2 : decide (i < n') = true := decide_eq_true hlt
      have ok := HO.out i hlt
      have e := HS.out i hlt
      obtain ⟨Ti, hTi⟩ : ∃ Ti, (ptAt qs i).1 = Ti := ⟨_, rfl⟩
      obtain ⟨Xi, hXi⟩ : ∃ Xi, (ptAt qs i).2 = Xi := ⟨_, rfl⟩
      obtain ⟨b2, off2, hA2, hb, hv1, hv2, -⟩ := RdP HX.out hlt hTi hXi
      cases hA2
      have ok0 := ok.t0
      have ok1 := ok.t1
      rw [hTi] at ok0 ok1
      have AI := Lib.hid (fun (w : World) (h : Trk w g (trkA cs fr nn hold)) => AT.out w h Ti ok0 ok1)
      rw [hTi, hXi] at e
      rw [e] at AI
      clear ok e hTi hXi ok0 ok1
      go_wp2_with (first|((with_reducible refine at_load ?_);first|(refine wm_own (cs := ?_) (t := ?_) (v := ?_) K rfl _ _ rfl rfl ?_ ?_ ?_ ?_;rotate_left 2;(repeat (first|exact At.hd|refine At.tl ?_));rotate_left;(first|exact rfl|assumption);(with_reducible first|exact one2|exact one22))|(refine wm_cell (v := ?_) rfl _ _ rfl rfl ?_ ?_ ?_;rotate_left;(first|assumption|exact (K.below.cell (by assumption)).trans (by assumption));(with_reducible first|exact one2|exact one22)))|(go_at_call 13;(with_reducible refine (AI.out _ (HT.out.below K.below)).mono ?_);rintro e w2 ⟨rfl, k1⟩;replace K := K.step k1;clear k1;(try clear ww);revert w2;intro ww K))
      exact ⟨⟨i + 1, by omega, by go_num, K⟩, by simp [intOf]; omega⟩
    · obtain rfl : n' = i := by omega
      have ht1 : decide ((n' : Int) < n') = false := decide_eq_false (by omega)
      have ht2 : decide (n' < n') = false := decide_eq_false (by omega)
      have AI := Lib.hid (fun (w : World) (h : Trk w g (trkA cs fr nn hold)) => AT.out w h t ht.1 ht.2)
      generalize (at35 qs hold t).1 = r1 at *
      generalize (at35 qs hold t).2 = r2 at *
      clear AT HS
      go_wp2_with (first|((with_reducible refine at_load ?_);first|(refine wm_own (cs := ?_) (t := ?_) (v := ?_) K rfl _ _ rfl rfl ?_ ?_ ?_ ?_;rotate_left 2;(repeat (first|exact At.hd|refine At.tl ?_));rotate_left;(first|exact rfl|assumption);(with_reducible first|exact one2|exact one22))|(refine wm_cell (v := ?_) rfl _ _ rfl rfl ?_ ?_ ?_;rotate_left;(first|assumption|exact (K.below.cell (by assumption)).trans (by assumption));(with_reducible first|exact one2|exact one22)))|(go_at_call 13;(with_reducible refine (AI.out _ (HT.out.below K.below)).mono ?_);rintro e w2 ⟨rfl, k1⟩;replace K := K.step k1;clear k1;(try clear ww);revert w2;intro ww K))
      clear AI ht1 ht2 hi
      go_loopw [14] (fun i wr => ∃ (k : Nat), k ≤ n' ∧ i = .int .i64 k ∧ St W.heap.size W [] Any wr) (fun i _ => n' - (intOf i).toNat)
      case atStart => exact ⟨0, Nat.zero_le _, rfl, K⟩
      case round =>
        clear K
        obtain ⟨i, hi, rfl, K⟩ := hrel
        obtain ⟨j, hj⟩ : ∃ j, i + 1 = j := ⟨_, rfl⟩
        have a1h : Hid (IntKind.i64.wrap ((i : Int) + 1) = (j : Int)) := Lib.hid ((IntWalk.i64_in _ (by omega)).trans (by omega))
        have a2h : Hid (wrap64 ((i : Int) + 1) = (j : Int)) := Lib.hid (by unfold wrap64; omega)
        by_cases hlt : j < n'
        · have ht1 : decide ((j : Int) < n') = true := decide_eq_true (by omega)
          have ht2 : decide (j < n') = true := decide_eq_true hlt
          have hbt := HB.out i (by omega)
          rw [hj] at hbt
          obtain ⟨Ti, hTi⟩ : ∃ Ti, (ptAt qs i).1 = Ti := ⟨_, rfl⟩
          obtain ⟨Xi, hXi⟩ : ∃ Xi, (ptAt qs i).2 = Xi := ⟨_, rfl⟩
          obtain ⟨Tj, hTj⟩ : ∃ Tj, (ptAt qs j).1 = Tj := ⟨_, rfl⟩
          obtain ⟨Xj, hXj⟩ : ∃ Xj, (ptAt qs j).2 = Xj := ⟨_, rfl⟩
          have hin : i < n' := by omega
          have hinI : (i : Int) < n' := by omega
          have hjnI : (j : Int) < n' := by omega
          obtain ⟨b2, off2, hA2, hb, hv1, hv2, -⟩ := RdP HX.out hin hTi hXi
          cases hA2
          obtain ⟨b3, off3, hA3, -, hv3, hv4, -⟩ := RdP HX.out hlt hTj hXj
          cases hA3
          rw [hTi, hXi, hTj, hXj] at hbt
          have hm : j ≤ n' := by omega
          have hdec : n' - j < n' - i := by omega
          clear hTi hXi hTj hXj hj hi
          have a1 := a1h.out
          by_cases s1 : Ti ≤ t
          · have s1t : decide (Ti ≤ t) = true := decide_eq_true s1
            by_cases s2 : t ≤ Tj
            · have s2t : decide (t ≤ Tj) = true := decide_eq_true s2
              obtain ⟨q1, q2, q3⟩ := hbt s1 s2
              have f1 : (r2 != 0) = false := by rw [q1]; rfl
              have f2 : decide (r1 < min Xi Xj) = false := decide_eq_false (by omega)
              have f3 : decide (max Xi Xj < r1) = false := decide_eq_false (by omega)
              clear hbt s1 s2 q2 q3 q1
              go_wp2_with (first|((with_reducible refine at_load ?_);first|(refine wm_own (cs := ?_) (t := ?_) (v := ?_) K rfl _ _ rfl rfl ?_ ?_ ?_ ?_;rotate_left 2;(repeat (first|exact At.hd|refine At.tl ?_));rotate_left;(first|exact rfl|assumption);(with_reducible first|exact one2|exact one22))|(refine wm_cell (v := ?_) rfl _ _ rfl rfl ?_ ?_ ?_;rotate_left;(first|assumption|exact (K.below.cell (by assumption)).trans (by assumption));(with_reducible first|exact one2|exact one22))))
              refine wm_held _ [(true, 0), (true, 1), (true, 2), (true, 3), (true, 4), (true, 5), (true, 6), (true, 7), (true, 8), (true, 9), (true, 10), (true, 11), (true, 12), (true, 13), (true, 14), (true, 15), (true, 16), (true, 17), (true, 18), (true, 19), (true, 20), (true, 21), (true, 22), (true, 23), (true, 24), (true, 25), (true, 26), (true, 27), (true, 28), (true, 29), (true, 30), (true, 31), (true, 32), (true, 33)] K sbr (by kernel_rfl) (by kernel_rfl) ?_; (try clear K); (try clear ww); intro ww K; (try simp [go_sem] at K); simp only [pick, List.getElem?_toArray, List.getElem?_cons_succ, List.getElem?_cons_zero]
              repeat (first|((with_reducible refine ht_load ?_);first|(refine hm_own (cs := ?_) (t := ?_) (v := ?_) rfl _ _ rfl rfl ?_ ?_ ?_ ?_;rotate_left 2;(repeat (first|exact At.hd|refine At.tl ?_));rotate_left;(first|exact rfl|assumption);(with_reducible first|exact one2|exact one22))|(refine hm_cell (v := ?_) rfl _ _ rfl rfl (fun ww K => ?_) ?_ ?_;rotate_left;(first|assumption|exact (K.below.cell (by assumption)).trans (by assumption));(with_reducible first|exact one2|exact one22)))|(refine held_take (fun K' hK' => ?_);go_simp;first|(refine hK' _ ?_;clear hK' K')|(apply Exists.intro;refine ⟨?_, hK' _ ?_⟩;(intro _ _;rfl);clear hK' K'))|((with_reducible refine ht_store ?_);first|(refine hm_put (L' := ?_) (cs := ?_) (new := ?_) (t := ?_) K rfl _ _ _ rfl rfl rfl rfl ?_ ?_ ?_ ?_ rfl rfl ?_;rotate_left 4;(repeat (first|exact Put.hd|(refine Put.tl (L' := ?_) ?_;rotate_left)));(solve|exact Nat.le_of_ble_eq_true rfl|decide|(simp only [List.size_toArray, nums_length];first|assumption|omega)|(simp only [List.size_toArray, nums_length, List.length_set];first|assumption|omega)|simp|omega|(simp only [List.size_toArray, nums_length];omega)|assumption);(solve|(simp only [List.setIfInBounds_toArray];exact rfl)|exact nums_set _ _ _ _|simp only [List.setIfInBounds_toArray, List.set_cons_zero]|simp only [List.setIfInBounds_toArray, List.set_cons_zero, List.set_cons_succ]|(simp only [List.setIfInBounds_toArray, List.set_cons_zero, List.set_cons_succ];exact rfl)|exact rfl);(with_reducible first|exact one2|exact one22);(try clear K);(try clear ww);intro ww K;(try simp [go_sem] at K);refine ⟨(by apply via sbr;first|exact K|exact K.weak wk1|exact K.weak wk2|exact K.weak wk3|exact K.weak wk4|exact K.weak wk5|exact K.tail|exact K.tail.weak wk1|exact K.tail.weak wk2|exact K.tail.weak wk3|exact K.tail.weak wk4|exact K.tail.weak wk5), ?_⟩)))
              refine held_nil ?_
              go_wp2_with (first|((with_reducible refine at_load ?_);first|(refine wm_own (cs := ?_) (t := ?_) (v := ?_) K rfl _ _ rfl rfl ?_ ?_ ?_ ?_;rotate_left 2;(repeat (first|exact At.hd|refine At.tl ?_));rotate_left;(first|exact rfl|assumption);(with_reducible first|exact one2|exact one22))|(refine wm_cell (v := ?_) rfl _ _ rfl rfl ?_ ?_ ?_;rotate_left;(first|assumption|exact (K.below.cell (by assumption)).trans (by assumption));(with_reducible first|exact one2|exact one22))))
              exact ⟨⟨j, hm, rfl, K⟩, by simp [intOf]; omega⟩
            · have s2t : decide (t ≤ Tj) = false := decide_eq_false s2
              clear hbt s1 s2
              go_wp2_with (first|((with_reducible refine at_load ?_);first|(refine wm_own (cs := ?_) (t := ?_) (v := ?_) K rfl _ _ rfl rfl ?_ ?_ ?_ ?_;rotate_left 2;(repeat (first|exact At.hd|refine At.tl ?_));rotate_left;(first|exact rfl|assumption);(with_reducible first|exact one2|exact one22))|(refine wm_cell (v := ?_) rfl _ _ rfl rfl ?_ ?_ ?_;rotate_left;(first|assumption|exact (K.below.cell (by assumption)).trans (by assumption));(with_reducible first|exact one2|exact one22))))
              exact ⟨⟨j, hm, rfl, K⟩, by simp [intOf]; omega⟩
          · have s1t : decide (Ti ≤ t) = false := decide_eq_false s1
            clear hbt s1
            go_wp2_with (first|((with_reducible refine at_load ?_);first|(refine wm_own (cs := ?_) (t := ?_) (v := ?_) K rfl _ _ rfl rfl ?_ ?_ ?_ ?_;rotate_left 2;(repeat (first|exact At.hd|refine At.tl ?_));rotate_left;(first|exact rfl|assumption);(with_reducible first|exact one2|exact one22))|(refine wm_cell (v := ?_) rfl _ _ rfl rfl ?_ ?_ ?_;rotate_left;(first|assumption|exact (K.below.cell (by assumption)).trans (by assumption));(with_reducible first|exact one2|exact one22))))
            exact ⟨⟨j, hm, rfl, K⟩, by simp [intOf]; omega⟩
        · have ht1 : decide ((j : Int) < n') = false := decide_eq_false (by omega)
          have ht2 : decide (j < n') = false := decide_eq_false hlt
          have a1 := a1h.out
          go_wp2_with (first|((with_reducible refine at_load ?_);first|(refine wm_own (cs := ?_) (t := ?_) (v := ?_) K rfl _ _ rfl rfl ?_ ?_ ?_ ?_;rotate_left 2;(repeat (first|exact At.hd|refine At.tl ?_));rotate_left;(first|exact rfl|assumption);(with_reducible first|exact one2|exact one22))|(refine wm_cell (v := ?_) rfl _ _ rfl rfl ?_ ?_ ?_;rotate_left;(first|assumption|exact (K.below.cell (by assumption)).trans (by assumption));(with_reducible first|exact one2|exact one22)))|(go_at_call 7;(with_reducible refine (WK.out _).mono ?_);rintro e w2 ⟨rfl, k1⟩;replace K := K.step k1;clear k1;(try clear ww);revert w2;intro ww K))
          go_ret
          exact ⟨rfl, below_step hBW K.below hSW⟩
end Go.Proofs.Ytpbginihkhfdmaa
