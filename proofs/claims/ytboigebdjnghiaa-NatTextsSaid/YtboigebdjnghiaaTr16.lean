/-
  The walk of the reference's Text.
-/
import Derived.Test.YtboigebdjnghiaaTp16
import Derived.Test.YtboigebdjnghiaaRv16
namespace Go.Proofs.Ytboigebdjnghiaa
open Go.RowKit
set_option linter.unusedVariables false
set_option exponentiation.threshold 2000

/-- The row of decimal digits: a slice at the head of a block of its own. -/
structure Tn (v : Value) (l : List Nat) (g cap : Nat) (cur : Array Value) : Prop where
  val : v = .slice (some ⟨g, 0, none⟩) l.length cap
  le : l.length ≤ cap
  big : cap ≤ 9223372036854775807
  size : cur.size = cap
  row : cur.toList.take l.length = nums .i64 l
theorem Tn.of {v : Value} {l : List Nat} {L0 L : List Blk} (h : Own v 3 (nums .i64 l) L0 L) (hl : 1 ≤ l.length) : ∃ g cap cur, Tn v l g cap cur ∧ L = (g, cur, 3) :: L0 := by
  rcases h with ⟨_, h, _⟩ | ⟨g, cap, cur, rfl, h1, h2, h3, h4, rfl⟩
  · have : (nums IntKind.i64 l).length = 0 := by rw [h]; rfl
    rw [nums_length] at this; omega
  · rw [nums_length] at h1 h4 ⊢
    exact ⟨g, cap, cur, ⟨rfl, h1, h2, h3, h4⟩, rfl⟩
theorem Tn.own {v : Value} {l : List Nat} {g cap : Nat} {cur : Array Value} (h : Tn v l g cap cur) (L0 : List Blk) : Own v 3 (nums .i64 l) L0 ((g, cur, 3) :: L0) :=
  .inr ⟨g, cap, cur, by rw [nums_length]; exact h.val, by rw [nums_length]; exact h.le, h.big, h.size, by rw [nums_length]; exact h.row, rfl⟩
theorem Tn.set {v : Value} {l : List Nat} {g cap i x : Nat} {cur : Array Value} (h : Tn v l g cap cur) : Tn v (l.set i x) g cap (cur.setIfInBounds i (.int .i64 x)) :=
  ⟨by rw [List.length_set]; exact h.val, by rw [List.length_set]; exact h.le, h.big, by rw [Array.size_setIfInBounds]; exact h.size, by rw [List.length_set]; exact rowK_set h.row⟩
theorem Tn.at {v : Value} {l : List Nat} {g cap i : Nat} {cur : Array Value} (h : Tn v l g cap cur) (hi : i < l.length) : cur[i]? = some (.int .i64 (l.getD i 0 : Nat)) := rowK_at h.row hi
theorem dc_len {m X n : Nat} (h : Dc m X) (hX : X < 256 ^ n) : m ≤ 3 * n + 1 := by
  rcases h.top with h1 | h1
  · omega
  · have h2 : (10 : Nat) ^ (m - 1) < 10 ^ (3 * n) := by
      refine Nat.lt_of_le_of_lt h1 (Nat.lt_of_lt_of_le hX ?_)
      rw [Nat.pow_mul]
      exact Nat.pow_le_pow_left (by omega) n
    have := (Nat.pow_lt_pow_iff_right (by omega)).1 h2
    omega

theorem strOf_size (l : List Nat) : (strOf l).size = l.length := by simp [strOf, ByteArray.size]
theorem strOf_append (l r : List Nat) : strOf (l ++ r) = strOf l ++ strOf r := by
  apply ByteArray.ext
  simp [strOf]

set_option maxHeartbeats 4000000 in
theorem TextR (A : Option Addr) (n c X : Nat) (w : World) (h : Rf w A n c X) (hn : n ≤ 1000) :
    Calls Try.prog 32 #[.slice A n c] w fun e w' => e = .returned (.string (decS X)) ∧ Below w.heap.size w w' := by
  have K := St.start w
  have H := Lib.hid h
  have hlim := Lib.hid h.lim
  clear h
  go_enter Try.func32, Try.ntmps32
  go_wp2_with (first | ((with_reducible refine at_load ?_); first | (refine wm_load (cs := ?_) (t := ?_) (n := ?_) K rfl _ _ rfl rfl ?_ ?_ ?_ ?_; rotate_left 2; (repeat (first | exact At.hd | refine At.tl ?_)); rotate_left; (first | exact row25 | exact row26); (solve | exact rfl | simp)) | (refine wm_own (cs := ?_) (t := ?_) (v := ?_) K rfl _ _ rfl rfl ?_ ?_ ?_ ?_; rotate_left 2; (repeat (first | exact At.hd | refine At.tl ?_)); rotate_left; (first | exact rfl | assumption); (first | exact one2 | exact one3 | exact one4 | exact one5 | exact one9 | exact one12 | exact one21 | exact one22 | exact one28 | exact one37 | exact one38 | exact one39 | exact one48 | exact one53 | exact one63 | exact one73 | exact one78)) | (refine wm_cell (v := ?_) rfl _ _ rfl rfl ?_ ?_ ?_; rotate_left; (first | assumption | exact (K.below.cell (by assumption)).trans (by assumption)); (first | exact one2 | exact one3 | exact one4 | exact one5 | exact one9 | exact one12 | exact one21 | exact one22 | exact one28 | exact one37 | exact one38 | exact one39 | exact one48 | exact one53 | exact one63 | exact one73 | exact one78))) | ((with_reducible refine at_store ?_); first | (refine wm_store (L' := ?_) (cs := ?_) (t := ?_) (n := ?_) K rfl _ _ _ rfl rfl rfl rfl ?_ ?_ ?_ ?_ ?_ ?_; rotate_left 3; (repeat (first | exact Put.hd | (refine Put.tl (L' := ?_) ?_; rotate_left))); rotate_left; (first | exact row25 | exact row26); (solve | exact rfl | simp); (solve | exact rfl | simp); (solve | exact rfl | simp [Ones, Value.oneCell']); (try clear K); (try clear ww); intro ww K; (try simp [go_sem] at K)) | (refine wm_put (L' := ?_) (cs := ?_) (new := ?_) (t := ?_) K rfl _ _ _ rfl rfl rfl rfl ?_ ?_ ?_ ?_ rfl rfl ?_; rotate_left 4; (repeat (first | exact Put.hd | (refine Put.tl (L' := ?_) ?_; rotate_left))); (solve | (simp only [List.size_toArray, nums_length]; first | assumption | omega) | (simp only [List.size_toArray, nums_length, List.length_set]; first | assumption | omega) | simp | omega | (simp only [List.size_toArray, nums_length]; omega) | assumption); (solve | exact nums_set _ _ _ _ | simp only [List.setIfInBounds_toArray, List.set_cons_zero, List.set_cons_succ] | (simp only [List.setIfInBounds_toArray, List.set_cons_zero, List.set_cons_succ]; exact rfl) | exact rfl); (first | exact one2 | exact one3 | exact one4 | exact one5 | exact one9 | exact one12 | exact one21 | exact one22 | exact one28 | exact one37 | exact one38 | exact one39 | exact one48 | exact one53 | exact one63 | exact one73 | exact one78); (try clear K); (try clear ww); intro ww K; (try simp [go_sem] at K))) | ((with_reducible refine at_bsl ?_); refine wm_one K rfl _ _ rfl Try.underlying28 num3 rfl ?_; (try clear K); (try clear ww); intro bb ww K; (try simp [go_sem] at K)))
  (try simp only [Act.put, List.setIfInBounds_toArray, List.set_cons_zero, List.set_cons_succ])
  go_loopw [3, 4] (fun v i wr => ∃ (r m g cap : Nat) (z : Int) (cur : Array Value), r ≤ n ∧ z = (r : Int) - 1 ∧ i = .int .i64 z ∧ Hid (Dc m (X / 256 ^ r)) ∧ Hid (Tn v (dg m (X / 256 ^ r)) g cap cur) ∧ St w.heap.size w [(g, cur, 3)] Any wr) (fun _ i _ => (intOf i + 1).toNat)
  case atStart =>
    have e : X / 256 ^ n = 0 := Nat.div_eq_of_lt hlim.out
    refine ⟨n, 1, bb, 1, _, _, Nat.le_refl _, rfl, by go_num, Lib.hid (by rw [e]; exact Dc.zero), Lib.hid (by rw [e]; exact ⟨rfl, Nat.le_refl _, by omega, rfl, rfl⟩), K⟩
  case round =>
    clear K
    obtain ⟨r, m, g, cap, z, cur, hr, hz, rfl, hD, hT, K⟩ := hrel
    have hml := dc_len hD.out (X := X / 256 ^ r) (n := n) (Nat.lt_of_le_of_lt (Nat.div_le_self _ _) hlim.out)
    obtain rfl := hT.out.val
    rw [dg_len]
    rcases r with _ | r
    · have ht : decide ((0 : Int) ≤ z) = false := decide_eq_false (by omega)
      clear hz
      rw [Nat.pow_zero, Nat.div_one] at hD hT
      have hdec := Lib.hid (dec_dg hD.out)
      go_wp2
      (try simp only [Act.put, List.setIfInBounds_toArray, List.set_cons_zero, List.set_cons_succ])
      go_loopw [7, 8] (fun sv kv wr => ∃ (k : Nat), k ≤ m ∧ kv = .int .i64 k ∧ sv = .string (strOf ((dg k X).reverse.map (48 + ·))) ∧ St w.heap.size w [(g, cur, 3)] Any wr) (fun _ kv _ => m - (intOf kv).toNat)
      case atStart => exact ⟨0, Nat.zero_le _, rfl, rfl, K⟩
      case round =>
        clear K
        obtain ⟨k, hk, rfl, rfl, K⟩ := hrel
        by_cases hlt : k < m
        · have c1 := (K.get .hd).cell (hT.out.at (i := k) (by rw [dg_len]; exact hlt))
          have hgd : (dg m X).getD k 0 = X / 10 ^ k % 10 := by rw [List.getD, dg, List.getElem?_map, List.getElem?_range hlt]; rfl
          rw [hgd] at c1
          have hsd := Lib.hid (dg_succ k X)
          have d1 := Nat.mod_lt (X / 10 ^ k) (show 0 < 10 by omega)
          generalize X / 10 ^ k % 10 = d at *
          have t2 : decide (k < m) = true := decide_eq_true hlt
          have t1 : decide ((k : Int) < (m : Int)) = true := decide_eq_true (by omega)
          clear hgd
          have hql : ((dg k X).reverse.map (48 + ·)).length ≤ 4000 := by rw [List.length_map, List.length_reverse, dg_len]; omega
          have z1 := strOf_size [48 + d]
          have z2 := strOf_size ((dg k X).reverse.map (48 + ·))
          generalize hs : (dg k X).reverse.map (48 + ·) = q at *
          rw [List.length_singleton] at z1
          rw [← z2] at hql
          have Z := Lib.hid (And.intro z1 hql)
          clear z1 z2 hql
          have HS := Lib.hid hs
          clear hs
          have hq : Hid (strOf ((dg (k + 1) X).reverse.map (48 + ·)) = strOf [48 + d] ++ strOf q) := Lib.hid (by
            rw [hsd.out, List.reverse_append, List.map_append, HS.out]
            exact strOf_append [48 + d] q)
          go_wp2_with (first | ((with_reducible refine at_bsl ?_); refine wm_one K rfl _ _ rfl Try.underlying63 num5 rfl ?_; (try clear K); (try clear ww); intro bb3 ww K; (try simp [go_sem] at K)) | ((with_reducible refine at_conv ?_); refine wm_str (l := [48 + d]) K .hd rfl _ _ _ rfl Try.underlying63 Try.underlying5 Try.underlying9 rfl (by simp [nums]) rfl ?_))
          all_goals first | exact ⟨⟨k + 1, by omega, by go_num, by rw [hq.out], K.tail⟩, by simp [intOf]; omega⟩ | (rename_i h; exfalso; have := Z.out.1; have := Z.out.2; first | omega | (simp at h; omega))
        · obtain rfl : m = k := by omega
          rw [← hdec.out]
          have t1 : decide ((m : Int) < (m : Int)) = false := decide_eq_false (by omega)
          go_wp2
          go_ret
          exact ⟨rfl, K.below⟩
    · have hzr : z = (r : Int) := by omega
      subst hzr
      obtain ⟨b, off, rfl, hb, hv⟩ := H.out.at (k := r) (by omega)
      have hY : Hid (X / 256 ^ r = 256 * (X / 256 ^ (r + 1)) + X / 256 ^ r % 256) := Lib.hid (by rw [Nat.pow_succ, ← Nat.div_div_eq_div_mul]; omega)
      have hP : Hid (X / 256 ^ r < 256 ^ n) := Lib.hid (Nat.lt_of_le_of_lt (Nat.div_le_self _ _) hlim.out)
      have ha := Nat.mod_lt (X / 256 ^ r) (show 0 < 256 by omega)
      replace hv := (K.below.cell hb).trans hv
      generalize X / 256 ^ r % 256 = a at *
      generalize X / 256 ^ (r + 1) = Q at *
      have tz : decide ((0 : Int) ≤ (r : Int)) = true := decide_eq_true (by omega)
      have hT' := hT
      rw [dg_len] at hT'
      clear hz
      go_wp2
      (try simp only [Act.put, List.setIfInBounds_toArray, List.set_cons_zero, List.set_cons_succ])
      go_loopw [5, 6] (fun cv kv wr => ∃ (k : Nat) (cur : Array Value), k ≤ m ∧ kv = .int .i64 k ∧ cv = .int .i64 (cy Q a k : Nat) ∧ Hid (Tn (.slice (some ⟨g, 0, none⟩) m cap) (mx m k Q a) g cap cur) ∧ St w.heap.size w [(g, cur, 3)] Any wr) (fun _ kv _ => m - (intOf kv).toNat)
      case atStart => exact ⟨0, cur, Nat.zero_le _, rfl, by rw [cy_zero], by rw [mx_zero]; exact hT', K⟩
      case round =>
        clear K hT hT'
        obtain ⟨k, cur, hk, rfl, rfl, hT, K⟩ := hrel
        by_cases hlt : k < m
        · have ol := mx_len (m := m) (k := k) (X := Q) (a := a) hk
          have c1 := (K.get .hd).cell (hT.out.at (i := k) (by rw [ol]; exact hlt))
          rw [mx_get hlt] at c1
          have f1 := (K.get .hd).free k
          have s1 : k < cur.size := by
            have h1 := hT.out.le
            rw [ol] at h1
            rw [hT.out.size]; omega
          have d1 := Nat.mod_lt (Q / 10 ^ k) (show 0 < 10 by omega)
          have b1 := cy_lt (X := Q) (k := k) ha
          have hS := Lib.hid (cy_succ Q a k)
          have hG := Lib.hid (cy_dig Q a k)
          have hN := hT.out.set (i := k) (x := (256 * Q + a) / 10 ^ k % 10)
          rw [← mx_succ hlt] at hN
          have HN := Lib.hid hN
          clear hN hT ol
          generalize Q / 10 ^ k % 10 = d at *
          generalize hcy : cy Q a k = y at *
          have e1 : IntKind.i64.wrap (k : Int) = (k : Int) := IntWalk.i64_in _ (by omega)
          have t1 : decide ((k : Int) < (m : Int)) = true := decide_eq_true (by omega)
          have t2 : decide (k < m) = true := decide_eq_true hlt
          clear hcy
          go_wp2
          have ev : ((y : Int) + 256 * (d : Int)) % 10 = (((256 * Q + a) / 10 ^ k % 10 : Nat) : Int) := by rw [← hG.out]; omega
          rw [ev]
          exact ⟨⟨k + 1, _, by omega, by go_num, by rw [← hS.out]; go_num, HN, K.setCell .hd⟩, by simp [intOf]; omega⟩
        · obtain rfl : m = k := by omega
          rw [mx_end] at hT
          have hc := cy_end (a := a) hD.out.lt
          have hcl := cy_lt (X := Q) (k := m) ha
          rw [hc] at hcl ⊢
          have HC := Lib.hid hcl
          clear hcl
          have hO : Own (.slice (some ⟨g, 0, none⟩) m cap) 3 (nums .i64 (dg m (256 * Q + a))) [] [(g, cur, 3)] := hT.out.own []
          have hNX := Lib.hid (fun M hM h0 h1 => Dc.next (X := Q) (a := a) (m := m) (M := M) hD.out hM h0 h1)
          rw [hY.out] at hP
          have hYe : Hid (X / 256 ^ r = 256 * Q + a) := hY
          clear hc hT hD hY
          generalize 256 * Q + a = Y at *
          have t1 : decide ((m : Int) < (m : Int)) = false := decide_eq_false (by omega)
          go_wp2
          go_loopw [3, 5] (fun v cv wr => ∃ (M : Nat) (L : List Blk), m ≤ M ∧ cv = .int .i64 (Y / 10 ^ M : Nat) ∧ Hid (M = m ∨ 10 ^ (M - 1) ≤ Y) ∧ Own v 3 (nums .i64 (dg M Y)) [] L ∧ St w.heap.size w L Any wr) (fun _ cv _ => (intOf cv).toNat)
          case atStart => exact ⟨m, _, Nat.le_refl _, rfl, Lib.hid (.inl rfl), hO, K⟩
          case round =>
            clear K hO
            obtain ⟨M, LL, hM, rfl, hm, hO, K⟩ := hrel
            by_cases h0 : Y / 10 ^ M = 0
            · have hDn := Lib.hid (hNX.out M hM h0 hm.out)
              obtain ⟨g', cap', cur', hT', rfl⟩ := Tn.of hO (by rw [dg_len]; have := hDn.out.pos; omega)
              have HT' := Lib.hid hT'
              clear hT' hO hm hNX HC
              rw [h0]
              go_wp2
              exact ⟨⟨r, M, g', cap', _, cur', by omega, rfl, by go_num, by rw [hYe.out]; exact hDn, by rw [hYe.out]; exact HT', K⟩, by simp [intOf]⟩
            · have h1 : 10 ^ M ≤ Y := by
                have hp : 0 < 10 ^ M := Nat.pow_pos (by omega)
                have := (Nat.le_div_iff_mul_le (x := 1) (y := Y) hp).1 (Nat.pos_of_ne_zero h0)
                omega
              have h3 : M < 3 * n := by
                have h2 : (10 : Nat) ^ M < 10 ^ (3 * n) := by
                  refine Nat.lt_of_le_of_lt h1 (Nat.lt_of_lt_of_le hP.out ?_)
                  rw [Nat.pow_mul]
                  exact Nat.pow_le_pow_left (by omega) n
                exact (Nat.pow_lt_pow_iff_right (by omega)).1 h2
              have hol : (dg M Y).length ≤ 4000 := by rw [dg_len]; omega
              have hsd := Lib.hid (dg_succ M Y)
              have hnx : Hid (Y / 10 ^ (M + 1) = Y / 10 ^ M / 10) := Lib.hid (by rw [Nat.pow_succ, Nat.div_div_eq_div_mul])
              have hm' : Hid (M + 1 = m ∨ 10 ^ (M + 1 - 1) ≤ Y) := Lib.hid (.inr (by simpa using h1))
              have hcb : Y / 10 ^ M ≤ 255 := by
                have : Y / 10 ^ M ≤ Y / 10 ^ m := Nat.div_le_div_left (Nat.pow_le_pow_right (show 0 < 10 by omega) hM) (Nat.pow_pos (show 0 < 10 by omega))
                have := HC.out
                omega
              clear h1 hm
              generalize Y / 10 ^ M = x at *
              have t1 : decide ((0 : Int) < (x : Int)) = true := decide_eq_true (by omega)
              have t2 : decide (0 < x) = true := decide_eq_true (by omega)
              go_wp2_with (first | ((with_reducible refine at_load ?_); first | (refine wm_load (cs := ?_) (t := ?_) (n := ?_) K rfl _ _ rfl rfl ?_ ?_ ?_ ?_; rotate_left 2; (repeat (first | exact At.hd | refine At.tl ?_)); rotate_left; (first | exact row25 | exact row26); (solve | exact rfl | simp)) | (refine wm_own (cs := ?_) (t := ?_) (v := ?_) K rfl _ _ rfl rfl ?_ ?_ ?_ ?_; rotate_left 2; (repeat (first | exact At.hd | refine At.tl ?_)); rotate_left; (first | exact rfl | assumption); (first | exact one2 | exact one3 | exact one4 | exact one5 | exact one9 | exact one12 | exact one21 | exact one22 | exact one28 | exact one37 | exact one38 | exact one39 | exact one48 | exact one53 | exact one63 | exact one73 | exact one78)) | (refine wm_cell (v := ?_) rfl _ _ rfl rfl ?_ ?_ ?_; rotate_left; (first | assumption | exact (K.below.cell (by assumption)).trans (by assumption)); (first | exact one2 | exact one3 | exact one4 | exact one5 | exact one9 | exact one12 | exact one21 | exact one22 | exact one28 | exact one37 | exact one38 | exact one39 | exact one48 | exact one53 | exact one63 | exact one73 | exact one78))) | ((with_reducible refine at_store ?_); first | (refine wm_store (L' := ?_) (cs := ?_) (t := ?_) (n := ?_) K rfl _ _ _ rfl rfl rfl rfl ?_ ?_ ?_ ?_ ?_ ?_; rotate_left 3; (repeat (first | exact Put.hd | (refine Put.tl (L' := ?_) ?_; rotate_left))); rotate_left; (first | exact row25 | exact row26); (solve | exact rfl | simp); (solve | exact rfl | simp); (solve | exact rfl | simp [Ones, Value.oneCell']); (try clear K); (try clear ww); intro ww K; (try simp [go_sem] at K)) | (refine wm_put (L' := ?_) (cs := ?_) (new := ?_) (t := ?_) K rfl _ _ _ rfl rfl rfl rfl ?_ ?_ ?_ ?_ rfl rfl ?_; rotate_left 4; (repeat (first | exact Put.hd | (refine Put.tl (L' := ?_) ?_; rotate_left))); (solve | (simp only [List.size_toArray, nums_length]; first | assumption | omega) | (simp only [List.size_toArray, nums_length, List.length_set]; first | assumption | omega) | simp | omega | (simp only [List.size_toArray, nums_length]; omega) | assumption); (solve | exact nums_set _ _ _ _ | simp only [List.setIfInBounds_toArray, List.set_cons_zero, List.set_cons_succ] | (simp only [List.setIfInBounds_toArray, List.set_cons_zero, List.set_cons_succ]; exact rfl) | exact rfl); (first | exact one2 | exact one3 | exact one4 | exact one5 | exact one9 | exact one12 | exact one21 | exact one22 | exact one28 | exact one37 | exact one38 | exact one39 | exact one48 | exact one53 | exact one63 | exact one73 | exact one78); (try clear K); (try clear ww); intro ww K; (try simp [go_sem] at K))) | ((with_reducible refine at_bsl ?_); refine wm_one K rfl _ _ rfl Try.underlying28 num3 rfl ?_; (try clear K); (try clear ww); intro bb2 ww K; (try simp [go_sem] at K)) | ((with_reducible refine at_app ?_); refine wm_app K rfl _ _ _ rfl Try.underlying28 num3 rfl hO rfl rfl (by first | (simp only [nums_length]; omega) | omega) (by first | (simp only [nums_length]; unfold maxLen; omega) | (unfold maxLen; omega)) ?_; (try clear K hO); (try clear ww); intro v ww LL hO K))
              have hO' : Own v 3 (nums .i64 (dg (M + 1) Y)) [] LL := by
                rw [hsd.out, ← nums_append]; exact hO
              exact ⟨⟨M + 1, LL, by omega, by rw [hnx.out]; go_num, hm', hO', K⟩, by simp [intOf]; omega⟩
end Go.Proofs.Ytboigebdjnghiaa
