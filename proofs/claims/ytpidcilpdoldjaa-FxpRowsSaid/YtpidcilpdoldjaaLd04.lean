/-
  The law of rows.
-/
import Derived.Test.YtpidcilpdoldjaaLb04
namespace Go.Proofs.Ytpidcilpdoldjaa
open Go.RowKit
attribute [local irreducible] wpHeld wpTree wpList
set_option linter.unusedVariables false
theorem Rd.heap {A : Option Addr} {n : Nat} {cs : List Value} {a b : World} (h : Rd a A n cs) (e : a.heap = b.heap) : Rd b A n cs :=
  h.keep (by rw [e]; exact Nat.le_refl _) fun p _ => by unfold World.cell?; rw [e]
theorem dotS_step (q mode : Int) (p : Int × Bool) (l l2 : List Int) (i : Nat) (h : i < l.length) (h2 : i < l2.length) : dotS q mode p ((l.zip l2).take (i + 1)) = dotA q mode (dotS q mode p ((l.zip l2).take i)) (l.getD i 0, l2.getD i 0) := by rw [zip_snoc l l2 i h h2, dotS_snoc]
set_option maxHeartbeats 8000000 in
set_option maxRecDepth 100000 in
theorem walk_FxpRows (a0 : Option Addr) (len0 cap0 : Nat) (z0 : List Int) (a1 : Option Addr) (len1 cap1 : Nat) (z1 : List Int) (q mode x lo hi : Int) (w : World) (w0 : IsRow .i64 w a0 len0 cap0 z0) (w1 : IsRow .i64 w a1 len1 cap1 z1) (w2 : (Lit.int .i64 q).wf = true) (w3 : (Lit.int .i64 mode).wf = true) (w4 : (Lit.int .i64 x).wf = true) (w5 : (Lit.int .i64 lo).wf = true) (w6 : (Lit.int .i64 hi).wf = true) :
    Calls Try.prog 12 #[.slice a0 len0 cap0, .slice a1 len1 cap1, .int .i64 q, .int .i64 mode, .int .i64 x, .int .i64 lo, .int .i64 hi] w fun e w' => e = .returned (.bool true) ∧ Below w.heap.size w w' := by
  obtain ⟨l0, hl0, hr0, hn0⟩ := w0.rdI
  obtain ⟨l1, hl1, hr1, hn1⟩ := w1.rdI
  clear w0 w1 w2 w3 w4 w5 w6 z0 z1
  have WK := Lib.hid works4
  by_cases g0 : 60 < len0
  · have K := St.start w
    have t0 : decide (60 < (len0 : Int)) = true := decide_eq_true (by omega)
    go_enter Try.func12, Try.ntmps12
    go_wp2_with (first | (go_at_call 38; (with_reducible refine (WK.out _).mono ?_); rintro e w2 ⟨rfl, k1⟩; replace K := K.step k1; clear k1; (try clear ww); revert w2; intro ww K))
    go_ret
    exact ⟨rfl, K.below⟩
  have t0 : decide (60 < (len0 : Int)) = false := decide_eq_false (by omega)
  by_cases g1 : 60 < len1
  · have K := St.start w
    have t1 : decide (60 < (len1 : Int)) = true := decide_eq_true (by omega)
    go_enter Try.func12, Try.ntmps12
    go_wp2_with (first | (go_at_call 38; (with_reducible refine (WK.out _).mono ?_); rintro e w2 ⟨rfl, k1⟩; replace K := K.step k1; clear k1; (try clear ww); revert w2; intro ww K))
    go_ret
    exact ⟨rfl, K.below⟩
  have t1 : decide (60 < (len1 : Int)) = false := decide_eq_false (by omega)
  have K := St.startF w (fun w => Rd w a0 len0 (ints .i64 l0) ∧ Rd w a1 len1 (ints .i64 l1)) (fun w' hb => ⟨hr0.below hb, hr1.below hb⟩) (fun a b e h => ⟨h.1.heap e, h.2.heap e⟩)
  have R0 := Lib.hid hr0
  have R1 := Lib.hid hr1
  have L0 := Lib.hid (in64_all hl0)
  have L1 := Lib.hid (in64_all hl1)
  have HN0 := Lib.hid hn0
  have HN1 := Lib.hid hn1
  obtain ⟨N, hN⟩ : ∃ N, N = min len0 len1 := ⟨_, rfl⟩
  have hN0 : N ≤ len0 := by omega
  have hN1 : N ≤ len1 := by omega
  have HE : Hid (N = len0 ∨ N = len1) := Lib.hid (by omega)
  have HZ : Hid ((l0.zip l1).length = N) := Lib.hid (by rw [List.length_zip, HN0.out, HN1.out, hN])
  have SU := Lib.hid (fun (g : Nat) (Lf : Array Value → List Blk) (hS : Slot g 61 Lf) (B : Nat) (w0 : World) (F : World → Prop) (w : World) (K : St B w0 (Lf (un false 0)) F w) (hR : ∀ w, F w → Rd w a0 len0 (ints .i64 l0)) => Sum_i64 hS K a0 len0 cap0 l0 hR (in64_all hl0) (by omega) (by omega))
  have DO := Lib.hid (fun (g : Nat) (Lf : Array Value → List Blk) (hS : Slot g 61 Lf) (B : Nat) (w0 : World) (F : World → Prop) (w : World) (K : St B w0 (Lf (un false 0)) F w) (hR : ∀ w, F w → Rd w a0 len0 (ints .i64 l0) ∧ Rd w a1 len1 (ints .i64 l1)) => Dot_fxp hS K a0 a1 len0 cap0 len1 cap1 q mode l0 l1 (fun w h => (hR w h).1) (fun w h => (hR w h).2) (in64_all hl0) (in64_all hl1) (by omega) (by omega) (by omega))
  obtain ⟨sv, hsv⟩ : ∃ sv, sv = sumS (0, false) l0 := ⟨_, rfl⟩
  obtain ⟨dv, hdv⟩ : ∃ dv, dv = dotS q mode (0, false) (l0.zip l1) := ⟨_, rfl⟩
  rw [← hsv] at SU
  rw [← hdv] at DO
  have SV := Lib.hid hsv
  have DV := Lib.hid hdv
  obtain ⟨sv, sb⟩ := sv
  obtain ⟨dv, db⟩ := dv
  dsimp only at SU DO
  have CL : Hid (∃ v, (∀ w, Calls Try.prog 49 #[.int .i64 x, .int .i64 lo, .int .i64 hi] w fun e w' => e = .returned (.int .i64 v) ∧ w = w') ∧ ((decide (hi < x) = true ∧ decide (hi < lo) = true ∧ v = lo) ∨ (decide (hi < x) = true ∧ decide (hi < lo) = false ∧ v = hi) ∨ (decide (hi < x) = false ∧ decide (x < lo) = true ∧ v = lo) ∨ (decide (hi < x) = false ∧ decide (x < lo) = false ∧ v = x))) := Lib.hid ⟨_, fun w => Clamp_any x lo hi w, by
    simp only [decide_eq_true_eq, decide_eq_false_iff_not]
    omega⟩
  clear hl0 hr0 hn0 hl1 hr1 hn1 hN hsv hdv
  go_enter Try.func12, Try.ntmps12
  go_wp2_with (first | go_big_skip | ((fail_if_success (have _h := u0)); go_at_call 31; (with_reducible refine (one_at K).mono ?_); rintro e w2 ⟨u0, rfl, K2⟩; (try dsimp only); replace K := K2; clear K2; (try clear ww); revert w2; intro ww K) | ((fail_if_success (have _h := u1)); go_at_call 31; (with_reducible refine (one_at K).mono ?_); rintro e w2 ⟨u1, rfl, K2⟩; (try dsimp only); replace K := K2; clear K2; (try clear ww); revert w2; intro ww K))
  go_loopw [17, 18, 19] (fun p s i wr => ∃ (k : Nat), k ≤ len0 ∧ i = .int .i64 k ∧ p = .int .i64 (sumS (0, false) (l0.take k)).1 ∧ s = .bool (sumS (0, false) (l0.take k)).2 ∧ St w.heap.size w [(u1, un false 0, 61), (u0, un false 0, 61)] (fun w => Rd w a0 len0 (ints .i64 l0) ∧ Rd w a1 len1 (ints .i64 l1)) wr) (fun _ _ i _ => len0 - (intOf i).toNat)
  case atStart => exact ⟨0, Nat.zero_le _, rfl, rfl, rfl, K⟩
  case round =>
    clear K
    obtain ⟨i, hi, rfl, rfl, rfl, K⟩ := hrel
    by_cases hlt : i < len0
    · obtain ⟨b, off, rfl, hb, hc⟩ := R0.out.get hlt
      have hil : i < l0.length := by rw [HN0.out]; exact hlt
      have hv := hc i _ (ints_get .i64 _ i hil)
      have hx := getD_in l0 i L0.out hil
      have hsn : Hid (sumS (0, false) (l0.take (i + 1)) = addS (sumS (0, false) (l0.take i)) (l0.getD i 0)) := Lib.hid (by rw [take_snoc l0 i hil, sumS_snoc])
      have hp := sumS_in (0, false) (l0.take i) (by rfl)
      generalize sumS (0, false) (l0.take i) = p at *
      generalize l0.getD i 0 = y at *
      obtain ⟨p, u⟩ := p
      have A2 := Lib.hid (fun w => RAdd_any p y w hp hx)
      clear hc hil hp hx CL SU DO SV DV L0 L1 R1
      have ht : decide (i < len0) = true := decide_eq_true hlt
      unfold addS at hsn
      dsimp only at hsn
      generalize cutV (p + y) = r at *
      generalize cutB (p + y) = rb at *
      cases u
      all_goals
        go_wp2_with (first | go_big_skip | ((with_reducible refine at_load ?_); first | (refine wm_load (cs := ?_) (t := ?_) (n := ?_) K rfl _ _ rfl rfl ?_ ?_ ?_ ?_; rotate_left 2; (repeat (first | exact At.hd | exact hS.get _ | refine At.tl ?_)); rotate_left; (first | (with_reducible exact row25) | (with_reducible exact row27) | (with_reducible exact row29) | (with_reducible exact row61)); (solve | (with_reducible exact wI_size _) | (with_reducible exact numA_size _ _) | (with_reducible exact bitsA_size _) | (with_reducible exact numI_size _) | exact rfl | simp)) | (refine wm_own (cs := ?_) (t := ?_) (v := ?_) K rfl _ _ rfl rfl ?_ ?_ ?_ ?_; rotate_left 2; (repeat (first | exact At.hd | exact hS.get _ | refine At.tl ?_)); rotate_left; (first | (with_reducible exact un_0 _ _) | (with_reducible exact un_1 _ _) | (with_reducible exact wI_hi _) | (with_reducible exact wI_lo _) | (with_reducible exact numA_sign _ _) | exact rfl | assumption); (first | (with_reducible exact one2) | (with_reducible exact one3) | (with_reducible exact one4) | (with_reducible exact one5) | (with_reducible exact one23) | (with_reducible exact one105))) | (refine wm_cell (v := ?_) rfl _ _ rfl rfl ?_ ?_ ?_; rotate_left; (first | assumption | exact hF1 _ K | exact hF2 _ K | exact (K.below.cell (by assumption)).trans (by assumption)); (first | (with_reducible exact one2) | (with_reducible exact one3) | (with_reducible exact one4) | (with_reducible exact one5) | (with_reducible exact one23) | (with_reducible exact one105)))) | (go_at_call 32; (with_reducible refine (A2.out _).mono ?_); rintro e w2 ⟨rfl, k1⟩; replace K := K.step k1; clear k1; (try clear ww); revert w2; intro ww K))
        exact ⟨⟨i + 1, by omega, by go_num, by rw [hsn.out], by rw [hsn.out]; rfl, K⟩, by simp [intOf]; omega⟩
    · obtain rfl : len0 = i := by omega
      rw [List.take_of_length_le (by rw [HN0.out]; omega), ← SV.out]
      dsimp only
      go_wp2_with fail
      go_loopw [22, 23, 24] (fun p s i wr => ∃ (k : Nat), k ≤ N ∧ i = .int .i64 k ∧ p = .int .i64 (dotS q mode (0, false) ((l0.zip l1).take k)).1 ∧ s = .bool (dotS q mode (0, false) ((l0.zip l1).take k)).2 ∧ St w.heap.size w [(u1, un false 0, 61), (u0, un false 0, 61)] (fun w => Rd w a0 len0 (ints .i64 l0) ∧ Rd w a1 len1 (ints .i64 l1)) wr) (fun _ _ i _ => N - (intOf i).toNat)
      case atStart => exact ⟨0, Nat.zero_le _, rfl, rfl, rfl, K⟩
      case round =>
        clear K
        obtain ⟨i, hi, rfl, rfl, rfl, K⟩ := hrel
        by_cases hlt : i < N
        · obtain ⟨b, off, rfl, hb, hc⟩ := R0.out.get (k := i) (by omega)
          obtain ⟨b2, off2, rfl, hb2, hc2⟩ := R1.out.get (k := i) (by omega)
          have hil : i < l0.length := by rw [HN0.out]; omega
          have hil2 : i < l1.length := by rw [HN1.out]; omega
          have hv := hc i _ (ints_get .i64 _ i hil)
          have hv2 := hc2 i _ (ints_get .i64 _ i hil2)
          have hx := getD_in l0 i L0.out hil
          have hy := getD_in l1 i L1.out hil2
          have hsn := Lib.hid (dotS_step q mode (0, false) l0 l1 i hil hil2)
          have hp := dotS_in q mode (0, false) ((l0.zip l1).take i) (by rfl)
          generalize dotS q mode (0, false) ((l0.zip l1).take i) = p at *
          generalize l0.getD i 0 = x at *
          generalize l1.getD i 0 = y at *
          obtain ⟨p, u⟩ := p
          have M2 := Lib.hid (fun w => RMul_any x y q mode w hx hy)
          have hpin := partV_in x y (2 ^ plQ q) mode
          unfold dotA addS at hsn
          dsimp only at hsn
          generalize partV x y (2 ^ plQ q) mode = r at *
          obtain ⟨r, t⟩ := r
          dsimp only at hsn M2 hpin
          have A2 := Lib.hid (fun w => RAdd_any p r w hp hpin)
          generalize cutV (p + r) = r2 at *
          generalize cutB (p + r) = t2 at *
          generalize (t || plB q) = t3 at *
          have h1 : decide (i < len0) = true := decide_eq_true (by omega)
          have h2 : decide (i < len1) = true := decide_eq_true (by omega)
          have i1 : i < len0 := by omega
          have i2 : i < len1 := by omega
          clear hc hc2 hil hil2 hp hx hy hpin CL SU DO SV DV L0 L1 R1 R0
          cases u <;> cases t3
          all_goals
            go_wp2_with fail
            refine wm_held _ [(true, 0), (true, 1), (true, 2), (true, 3), (true, 4), (true, 5), (true, 6), (true, 7), (true, 8), (true, 9), (false, 10), (true, 11), (true, 12), (true, 13), (true, 14), (true, 15)] K (List.Sublist.refl _) (by kernel_rfl) (by kernel_rfl) ?_; (try clear K); (try clear ww); intro ww K; (try simp [go_sem] at K); simp only [pick, List.getElem?_toArray, List.getElem?_cons_succ, List.getElem?_cons_zero]
            repeat (first | ((with_reducible refine ht_load ?_); first | (refine hm_load (cs := ?_) (t := ?_) (n := ?_) rfl _ _ rfl rfl ?_ ?_ ?_ ?_; rotate_left 2; (repeat (first | exact At.hd | exact hS.get _ | refine At.tl ?_)); rotate_left; (first | (with_reducible exact row25) | (with_reducible exact row27) | (with_reducible exact row29) | (with_reducible exact row61)); (solve | (with_reducible exact wI_size _) | (with_reducible exact numA_size _ _) | (with_reducible exact bitsA_size _) | (with_reducible exact numI_size _) | exact rfl | simp)) | (refine hm_own (cs := ?_) (t := ?_) (v := ?_) rfl _ _ rfl rfl ?_ ?_ ?_ ?_; rotate_left 2; (repeat (first | exact At.hd | exact hS.get _ | refine At.tl ?_)); rotate_left; (first | (with_reducible exact un_0 _ _) | (with_reducible exact un_1 _ _) | (with_reducible exact wI_hi _) | (with_reducible exact wI_lo _) | (with_reducible exact numA_sign _ _) | exact rfl | assumption); (first | (with_reducible exact one2) | (with_reducible exact one3) | (with_reducible exact one4) | (with_reducible exact one5) | (with_reducible exact one23) | (with_reducible exact one105))) | (refine hm_cell (v := ?_) rfl _ _ rfl rfl (fun ww K => ?_) ?_ ?_; rotate_left; (first | assumption | exact hF1 _ K | exact hF2 _ K | exact (K.below.cell (by assumption)).trans (by assumption)); (first | (with_reducible exact one2) | (with_reducible exact one3) | (with_reducible exact one4) | (with_reducible exact one5) | (with_reducible exact one23) | (with_reducible exact one105)))) | (refine held_take (fun K' hK' => ?_); go_simp; first | (refine hK' _ ?_; clear hK' K') | (apply Exists.intro; refine ⟨?_, hK' _ ?_⟩; (intro _ _; rfl); clear hK' K')) | ((with_reducible refine ht_store ?_); first | (refine hm_store (L' := ?_) (cs := ?_) (t := ?_) (n := ?_) K rfl _ _ _ rfl rfl rfl rfl ?_ ?_ ?_ ?_ ?_ ?_; rotate_left 3; (repeat (first | exact Put.hd | exact hS.set _ _ | (refine Put.tl (L' := ?_) ?_; rotate_left))); rotate_left; (first | (with_reducible exact row25) | (with_reducible exact row27) | (with_reducible exact row29) | (with_reducible exact row61)); (solve | (with_reducible exact wI_size _) | (with_reducible exact numA_size _ _) | (with_reducible exact bitsA_size _) | (with_reducible exact numI_size _) | exact rfl | simp); (solve | (with_reducible exact wI_size _) | (with_reducible exact numA_size _ _) | (with_reducible exact bitsA_size _) | (with_reducible exact numI_size _) | exact rfl | simp); (solve | (with_reducible exact wI_ones _) | (with_reducible exact nOnes _ _) | (with_reducible exact bOnes _) | (with_reducible exact iOnes _) | exact rfl | simp [Ones, Value.oneCell']); (try clear K); (try clear ww); intro ww K; (try simp [go_sem] at K); refine ⟨(by first | exact (K).sub (List.Sublist.refl _) | exact (K.weak fun _ h => h.2).sub (List.Sublist.refl _)), ?_⟩) | (refine hm_put (L' := ?_) (cs := ?_) (new := ?_) (t := ?_) K rfl _ _ _ rfl rfl rfl rfl ?_ ?_ ?_ ?_ rfl rfl ?_; rotate_left 4; (repeat (first | exact Put.hd | exact hS.set _ _ | (refine Put.tl (L' := ?_) ?_; rotate_left))); (solve | exact un_lt _ _ (by omega) | (rw [numA_size]; omega) | (simp only [List.size_toArray, nums_length]; first | assumption | omega) | (simp only [List.size_toArray, nums_length, List.length_set]; first | assumption | omega) | simp | omega | (simp only [List.size_toArray, nums_length]; omega) | assumption); (solve | exact un_set0 _ _ _ | exact un_inc _ _ | exact numA_setSign _ _ _ | exact nums_set _ _ _ _ | simp only [List.setIfInBounds_toArray, List.set_cons_zero, List.set_cons_succ] | (simp only [List.setIfInBounds_toArray, List.set_cons_zero, List.set_cons_succ]; exact rfl) | exact rfl); (first | (with_reducible exact one2) | (with_reducible exact one3) | (with_reducible exact one4) | (with_reducible exact one5) | (with_reducible exact one23) | (with_reducible exact one105)); (try clear K); (try clear ww); intro ww K; (try simp [go_sem] at K); refine ⟨(by first | exact (K).sub (List.Sublist.refl _) | exact (K.weak fun _ h => h.2).sub (List.Sublist.refl _)), ?_⟩)) | (refine held_do (fun K' hK' => ?_); go_simp; go_at_call 39; (with_reducible refine (M2.out _).mono ?_); rintro e w2 ⟨rfl, k1⟩; replace K := K.step k1; clear k1; (try clear ww); revert w2; intro ww K; (try dsimp only); refine hK' _ _ (by first | exact (K).sub (List.Sublist.refl _) | exact (K.weak fun _ h => h.2).sub (List.Sublist.refl _)) ?_; clear hK' K'))
            refine held_nil ?_
            go_wp2_with (first | (go_at_call 32; (with_reducible refine (A2.out _).mono ?_); rintro e w2 ⟨rfl, k1⟩; replace K := K.step k1; clear k1; (try clear ww); revert w2; intro ww K))
            exact ⟨⟨i + 1, by omega, by go_num, by rw [hsn.out], by rw [hsn.out]; rfl, K⟩, by simp [intOf]; omega⟩
        · obtain rfl : N = i := by omega
          rw [List.take_of_length_le (by rw [HZ.out]; omega), ← DV.out]
          dsimp only
          obtain ⟨v, C1, C2⟩ := CL.out
          have C1 := Lib.hid C1
          clear CL SV DV HZ L0 L1 R0 R1
          have hd : (decide (N < len0) = false ∨ decide (N < len0) = true ∧ decide (N < len1) = false) := by
            rcases HE.out with h | h
            · left; exact decide_eq_false (by omega)
            · by_cases h2 : N < len0
              · right; exact ⟨decide_eq_true h2, decide_eq_false (by omega)⟩
              · left; exact decide_eq_false h2
          clear HE
          rcases hd with hd | ⟨hd, hd2⟩ <;> rcases C2 with ⟨c1, c2, rfl⟩ | ⟨c1, c2, rfl⟩ | ⟨c1, c2, rfl⟩ | ⟨c1, c2, rfl⟩
          all_goals
            go_wp2_with (first | go_big_skip | ((with_reducible refine at_load ?_); first | (refine wm_load (cs := ?_) (t := ?_) (n := ?_) K rfl _ _ rfl rfl ?_ ?_ ?_ ?_; rotate_left 2; (repeat (first | exact At.hd | exact hS.get _ | refine At.tl ?_)); rotate_left; (first | (with_reducible exact row25) | (with_reducible exact row27) | (with_reducible exact row29) | (with_reducible exact row61)); (solve | (with_reducible exact wI_size _) | (with_reducible exact numA_size _ _) | (with_reducible exact bitsA_size _) | (with_reducible exact numI_size _) | exact rfl | simp)) | (refine wm_own (cs := ?_) (t := ?_) (v := ?_) K rfl _ _ rfl rfl ?_ ?_ ?_ ?_; rotate_left 2; (repeat (first | exact At.hd | exact hS.get _ | refine At.tl ?_)); rotate_left; (first | (with_reducible exact un_0 _ _) | (with_reducible exact un_1 _ _) | (with_reducible exact wI_hi _) | (with_reducible exact wI_lo _) | (with_reducible exact numA_sign _ _) | exact rfl | assumption); (first | (with_reducible exact one2) | (with_reducible exact one3) | (with_reducible exact one4) | (with_reducible exact one5) | (with_reducible exact one23) | (with_reducible exact one105))) | (refine wm_cell (v := ?_) rfl _ _ rfl rfl ?_ ?_ ?_; rotate_left; (first | assumption | exact hF1 _ K | exact hF2 _ K | exact (K.below.cell (by assumption)).trans (by assumption)); (first | (with_reducible exact one2) | (with_reducible exact one3) | (with_reducible exact one4) | (with_reducible exact one5) | (with_reducible exact one23) | (with_reducible exact one105)))) | (go_at_call 47; (with_reducible refine (SU.out _ _ (Slot.next _ (Slot.head _ _ _)) _ _ _ _ K (fun _ h => h.1)).mono ?_); rintro e w2 ⟨rfl, K2⟩; (try dsimp only); replace K := K2; clear K2; (try clear ww); revert w2; intro ww K) | (go_at_call 48; (with_reducible refine (DO.out _ _ (Slot.head _ _ _) _ _ _ _ K (fun _ h => h)).mono ?_); rintro e w2 ⟨rfl, K2⟩; (try dsimp only); replace K := K2; clear K2; (try clear ww); revert w2; intro ww K) | (go_at_call 49; (with_reducible refine (C1.out _).mono ?_); rintro e w2 ⟨rfl, rfl⟩; (try dsimp only)) | (go_at_call 38; (with_reducible refine (WK.out _).mono ?_); rintro e w2 ⟨rfl, k1⟩; replace K := K.step k1; clear k1; (try clear ww); revert w2; intro ww K))
            go_ret
            exact ⟨rfl, K.below⟩
end Go.Proofs.Ytpidcilpdoldjaa
