/-
  The walks of the reference: trimming, a digit, digits of parts, sums.
-/
import Derived.Test.YteancdipmpmjpaaApp
import Derived.Test.YteancdipmpmjpaaDv16
namespace Go.Proofs.Yteancdipmpmjpaa
open Go.RowKit
set_option maxRecDepth 100000
set_option linter.unusedVariables false

theorem take_stepB (b : Nat) (l : List Nat) (k : Nat) (hk : k < l.length) (h0 : l.getD k 0 = 0) : val b (l.take k) = val b (l.take (k + 1)) := by
  rw [List.take_succ_eq_append_getElem hk, val_append]
  have : l[k] = 0 := by simpa [List.getD, hk] using h0
  simp [val, this]
theorem take_lastB {b : Nat} (hb : 2 ≤ b) (l : List Nat) (k : Nat) (hk : k < l.length) (h0 : l.getD k 0 ≠ 0) (hl : ∀ x ∈ l, x < b) : digs b (val b (l.take (k + 1))) = l.take (k + 1) := by
  apply digs_val hb _ fun x hx => hl x (List.mem_of_mem_take hx)
  intro hne
  rw [List.getLast_eq_getElem]
  have e : (l.take (k + 1)).length = k + 1 := by rw [List.length_take]; omega
  simp only [e, List.getElem_take, Nat.add_sub_cancel]
  simpa [List.getD, hk] using h0

set_option maxHeartbeats 1000000 in
theorem trimR_any (A : Option Addr) (n c : Nat) (l : List Nat) (w : World) (h : Sl w 3 A n (nums .i64 l)) (hl : ∀ x ∈ l, x < 256) (hn : n ≤ c) (hc : c ≤ 9223372036854775807) :
    Calls Try.prog 112 #[.slice A n c] w fun e w' => (∃ k, e = .returned (.slice A k c) ∧ Rf w A k c (val 256 l)) ∧ w = w' := by
  have H := Lib.hid h
  have HL := Lib.hid hl
  have hlen : l.length = n := by rw [← h.1, nums_length]
  have HN := Lib.hid hlen
  clear h hl hlen
  go_enter Try.func112, Try.ntmps112
  go_wp2
  go_loop [3] (fun i => ∃ k : Nat, k ≤ n ∧ i = .int .i64 k ∧ Hid (val 256 (l.take k) = val 256 l)) (fun i => (intOf i).toNat)
  case atStart => exact ⟨n, Nat.le_refl _, rfl, Lib.hid (by rw [List.take_of_length_le (by rw [HN.out]; omega)])⟩
  case round =>
    obtain ⟨k, hk, rfl, hv⟩ := hrel
    rcases k with _ | k
    · go_wp2
      go_ret
      refine ⟨⟨0, rfl, ?_⟩, rfl⟩
      have : val 256 l = 0 := by rw [← hv.out]; simp [val]
      rw [this]
      exact Rf.zero _ _ _ (by omega)
    · obtain ⟨b, off, rfl, hbb, hcc⟩ := H.out.rd.get (k := k) (by omega)
      have hd := hcc k _ (nums_get .i64 l k (by rw [HN.out]; omega))
      clear hcc
      by_cases h0 : l.getD k 0 = 0
      · rw [h0] at hd
        have E := Lib.hid (take_stepB 256 l k (by rw [HN.out]; omega) h0)
        clear h0
        go_wp2
        exact ⟨⟨k, by omega, rfl, Lib.hid (E.out.trans hv.out)⟩, by simp [intOf]⟩
      · have E := Lib.hid (take_lastB (by omega) l k (by rw [HN.out]; omega) h0 HL.out)
        generalize l.getD k 0 = d at *
        have h1 : (((d : Nat) : Int) == 0) = false := by simp; omega
        go_wp2
        go_ret
        refine ⟨⟨k + 1, rfl, ?_, by omega, by omega⟩, rfl⟩
        have S := H.out.take hk
        rw [nums_take, ← E.out, hv.out] at S
        exact S

theorem digit_any (A : Option Addr) (n c X i : Nat) (w : World) (h : Rf w A n c X) (hi : i < 4611686018427387904) :
    Calls Try.prog 129 #[.slice A n c, .int .i64 i] w fun e w' => e = .returned (.int .i64 (X / 256 ^ i % 256 : Nat)) ∧ w = w' := by
  have hd := digs_get (b := 256) (by omega) X i
  have hl := h.len
  by_cases hk : i < n
  · obtain ⟨b, off, rfl, hb, hc⟩ := h.1.rd.get hk
    have hv := hc i _ (nums_get .i64 _ i (by omega))
    rw [hd] at hv
    generalize X / 256 ^ i % 256 = d at *
    clear hd hl hc h
    have ht : decide (i < n) = true := decide_eq_true hk
    go_enter Try.func129, Try.ntmps129
    go_wp2
    go_ret
    exact ⟨rfl, rfl⟩
  · have e : X / 256 ^ i % 256 = 0 := by
      rw [← hd, List.getD, List.getElem?_eq_none (by omega)]; rfl
    rw [e]
    clear hd hl h e
    have ht : decide (i < n) = false := decide_eq_false hk
    go_enter Try.func129, Try.ntmps129
    go_wp2
    go_ret
    exact ⟨rfl, rfl⟩

section
variable {B : Nat} {w0 w : World} {L L0 : List Blk} {F : World → Prop}
theorem Own.sl (K : St B w0 L F w) {v : Value} {e : TypeId} {xs : List Value} (h : Own v e xs L0 L) : ∃ A c, v = .slice A xs.length c ∧ xs.length ≤ c ∧ c ≤ 9223372036854775807 ∧ Sl w e A xs.length xs ∧ Nw B A ∧ St B w0 L0 F w ∧ ∀ b off p, A = some ⟨b, off, p⟩ → b ∉ L0.map (·.1) := by
  rcases h with ⟨rfl, rfl, rfl⟩ | ⟨g, cap, cur, rfl, h1, h2, h3, h4, rfl⟩
  · exact ⟨none, 0, rfl, Nat.le_refl _, by omega, Sl.nil _ _ _, (fun b off p e => by cases e), K, fun b off p e => by cases e⟩
  · exact ⟨_, cap, rfl, h1, h2, Sl.of_take (K.get .hd) h4 (by omega), Nw.mk _ _ _ (K.ge .hd), K.tail, K.head_ids⟩
/-- The end of a function that has gathered digits. -/
theorem St.trimR {v : Value} {l : List Nat} (K : St B w0 L F w) (hO : Own v 3 (nums .i64 l) L0 L) (hl : ∀ x ∈ l, x < 256) :
    Calls Try.prog 112 #[v] w fun e w' => ∃ A k c, e = .returned (.slice A k c) ∧ St B w0 L0 (fun w => (Rf w A k c (val 256 l) ∧ Nw B A) ∧ F w) w' := by
  obtain ⟨A, c, rfl, h1, h2, hs, hA, K', hi⟩ := hO.sl K
  refine (trimR_any A _ c l w hs hl h1 h2).mono ?_
  rintro e w' ⟨⟨k, rfl, hr⟩, rfl⟩
  exact ⟨A, k, c, rfl, K'.addRf hr hA hi⟩
end

/-- What the sum's loop keeps: the digits gathered, and what is carried. -/
def GatAt (b X Y N k : Nat) (o : List Nat) (cy : Nat) : Prop := o.length = k ∧ (∀ x ∈ o, x < b) ∧ cy ≤ 1 ∧ val b o + b ^ k * cy = X % b ^ k + Y % b ^ k ∧ (N ≤ k → cy = 0)
theorem GatAt.start (b X Y N : Nat) (hN : 0 < N) : GatAt b X Y N 0 [] 0 := ⟨rfl, (fun x hx => by cases hx), by omega, by simp [val, Nat.mod_one], fun _ => rfl⟩
theorem GatAt.step {b X Y N k cy : Nat} {o : List Nat} (hb : 2 ≤ b) (h : GatAt b X Y N k o cy) (hX : X < b ^ (N - 1)) (hY : Y < b ^ (N - 1)) :
    GatAt b X Y N (k + 1) (o ++ [(cy + X / b ^ k % b + Y / b ^ k % b) % b]) ((cy + X / b ^ k % b + Y / b ^ k % b) / b) := by
  obtain ⟨h1, h2, h4, h5, h6⟩ := h
  have x1 := Nat.mod_lt (X / b ^ k) (show 0 < b by omega)
  have y1 := Nat.mod_lt (Y / b ^ k) (show 0 < b by omega)
  have ex := mod_pow_step b X k
  have ey := mod_pow_step b Y k
  have hz : N ≤ k + 1 → X / b ^ k % b = 0 ∧ Y / b ^ k % b = 0 := fun hk => by
    have : b ^ (N - 1) ≤ b ^ k := Nat.pow_le_pow_right (by omega) (by omega)
    rw [Nat.div_eq_of_lt (by omega), Nat.div_eq_of_lt (by omega)]; simp
  generalize X / b ^ k % b = x at *
  generalize Y / b ^ k % b = y at *
  refine ⟨by simp [h1], fun u hu => ?_, ?_, ?_, fun hk => ?_⟩
  · rcases List.mem_append.1 hu with hu | hu
    · exact h2 u hu
    · rw [List.mem_singleton.1 hu]; exact Nat.mod_lt _ (by omega)
  · have : (cy + x + y) / b < 2 := Nat.div_lt_of_lt_mul (by omega)
    omega
  · have hm := Nat.mod_add_div (cy + x + y) b
    rw [val_append, h1, ex, ey, Nat.pow_succ, Nat.mul_assoc]
    simp only [val, Nat.mul_zero, Nat.add_zero]
    rw [Nat.add_assoc, ← Nat.mul_add, hm, Nat.mul_add, Nat.mul_add]
    omega
  · obtain ⟨rfl, rfl⟩ := hz hk
    exact Nat.div_eq_of_lt (by omega)
theorem GatAt.done {b X Y N k : Nat} {o : List Nat} {n m : Nat} (h : GatAt b X Y N k o 0) (hX : X < b ^ k) (hY : Y < b ^ k) : val b o = X + Y := by
  have := h.2.2.2.1
  rw [Nat.mod_eq_of_lt hX, Nat.mod_eq_of_lt hY] at this
  omega


set_option maxHeartbeats 2000000 in
theorem AddR (A A2 : Option Addr) (n c m d X Y : Nat) (w : World) (hx : Rf w A n c X) (hy : Rf w A2 m d Y) (h1 : n ≤ 1000000) (h2 : m ≤ 1000000) :
    Calls Try.prog 109 #[.slice A n c, .slice A2 m d] w fun e w' => ∃ A' k c', e = .returned (.slice A' k c') ∧ (Rf w' A' k c' (X + Y) ∧ Nw w.heap.size A') ∧ Below w.heap.size w w' := by
  have K := St.start w
  have HX := Lib.hid hx
  have HY := Lib.hid hy
  obtain ⟨N, hN⟩ : ∃ N, max n m + 1 = N := ⟨_, rfl⟩
  have hlx : Hid (X < 256 ^ (N - 1)) := Lib.hid (by
    have a1 := digs_le (b := 256) (by omega) X
    rw [← hx.len] at a1
    have a3 : 256 ^ n ≤ 256 ^ (N - 1) := Nat.pow_le_pow_right (by omega) (by omega)
    omega)
  have hly : Hid (Y < 256 ^ (N - 1)) := Lib.hid (by
    have a1 := digs_le (b := 256) (by omega) Y
    rw [← hy.len] at a1
    have a3 : 256 ^ m ≤ 256 ^ (N - 1) := Nat.pow_le_pow_right (by omega) (by omega)
    omega)
  have n1 : n ≤ N - 1 := by omega
  have m1 : m ≤ N - 1 := by omega
  have N1 : N ≤ 1000001 := by omega
  have N0 : 0 < N := by omega
  clear hx hy hN
  go_enter Try.func109, Try.ntmps109
  go_wp2
  go_loopw [5, 6, 7] (fun v cy i wr => ∃ (k cz : Nat) (o : List Nat) (L : List Blk), k ≤ N ∧ i = .int .i64 k ∧ cy = .int .i64 cz ∧ Hid (GatAt 256 X Y N k o cz) ∧ Own v 3 (nums .i64 o) [] L ∧ St w.heap.size w L Any wr) (fun _ _ i _ => N - (intOf i).toNat)
  case atStart => exact ⟨0, 0, [], [], Nat.zero_le _, rfl, rfl, Lib.hid (GatAt.start _ _ _ _ N0), Own.nil _ _, K⟩
  case round =>
    clear K
    obtain ⟨k, cz, o, LL, hk, rfl, rfl, hs, hO, K⟩ := hrel
    have c1 := hs.out.2.2.1
    have hol := hs.out.1
    by_cases a1 : k < n
    · have t1 : decide (k < n) = true := decide_eq_true a1
      have hkN : k < N := by
        rcases Nat.lt_or_ge k N with h | h
        · exact h
        · have := hs.out.2.2.2.2 h; omega
      have st := hs.out.step (by omega) hlx.out hly.out
      have DX := Lib.hid (fun W u => digit_any A n c X k W u (by omega))
      have DY := Lib.hid (fun W u => digit_any A2 m d Y k W u (by omega))
      have x1 := Nat.mod_lt (X / 256 ^ k) (show 0 < 256 by omega)
      have y1 := Nat.mod_lt (Y / 256 ^ k) (show 0 < 256 by omega)
      generalize X / 256 ^ k % 256 = x at *
      generalize Y / 256 ^ k % 256 = y at *
      have ST := Lib.hid st
      have ol : o.length ≤ 1000001 := by omega
      clear st hs hol
      go_wp2_with (first | go_big_skip | ((with_reducible refine at_load ?_); first | (refine wm_load (cs := ?_) (t := ?_) (n := ?_) K rfl _ _ rfl rfl ?_ ?_ ?_ ?_; rotate_left 2; (repeat (first | exact At.hd | refine At.tl ?_)); rotate_left; (first | fail); (solve | exact rfl | simp)) | (refine wm_own (cs := ?_) (t := ?_) (v := ?_) K rfl _ _ rfl rfl ?_ ?_ ?_ ?_; rotate_left 2; (repeat (first | exact At.hd | refine At.tl ?_)); rotate_left; (first | exact rfl | assumption); (first | (with_reducible exact one3))) | (refine wm_cell (v := ?_) rfl _ _ rfl rfl ?_ ?_ ?_; rotate_left; (first | assumption | exact (K.below.cell (by assumption)).trans (by assumption)); (first | (with_reducible exact one3)))) | ((with_reducible refine at_store ?_); first | (refine wm_store (L' := ?_) (cs := ?_) (t := ?_) (n := ?_) K rfl _ _ _ rfl rfl rfl rfl ?_ ?_ ?_ ?_ ?_ ?_; rotate_left 3; (repeat (first | exact Put.hd | (refine Put.tl (L' := ?_) ?_; rotate_left))); rotate_left; (first | fail); (solve | exact rfl | simp); (solve | exact rfl | simp); (solve | exact rfl | simp [Ones, Value.oneCell']); (try clear K); (try clear ww); intro ww K; (try simp [go_sem] at K)) | (refine wm_put (L' := ?_) (cs := ?_) (new := ?_) (t := ?_) K rfl _ _ _ rfl rfl rfl rfl ?_ ?_ ?_ ?_ rfl rfl ?_; rotate_left 4; (repeat (first | exact Put.hd | (refine Put.tl (L' := ?_) ?_; rotate_left))); (solve | decide | (simp only [List.size_toArray, nums_length]; first | assumption | omega) | (simp only [List.size_toArray, nums_length, List.length_set]; first | assumption | omega) | simp | omega | (simp only [List.size_toArray, nums_length]; omega) | assumption); (solve | exact nums_set _ _ _ _ | simp only [List.setIfInBounds_toArray, List.set_cons_zero] | simp only [List.setIfInBounds_toArray, List.set_cons_zero, List.set_cons_succ] | (simp only [List.setIfInBounds_toArray, List.set_cons_zero, List.set_cons_succ]; exact rfl) | exact rfl); (first | (with_reducible exact one3)); (try clear K); (try clear ww); intro ww K; (try simp [go_sem] at K))) | (go_at_call 129; (with_reducible refine (DX.out _ (HX.out.below K.below)).mono ?_); rintro e w2 ⟨rfl, rfl⟩; (try dsimp only)) | (go_at_call 129; (with_reducible refine (DY.out _ (HY.out.below K.below)).mono ?_); rintro e w2 ⟨rfl, rfl⟩; (try dsimp only)) | ((with_reducible refine at_bsl ?_); refine wm_one K rfl _ _ rfl Try.underlying102 num3 rfl ?_; (try clear K); (try clear ww); intro bb ww K; (try simp [go_sem] at K)) | ((with_reducible refine at_app ?_); refine wm_app K rfl _ _ _ rfl Try.underlying102 num3 rfl hO rfl rfl (by first | (simp only [nums_length]; omega) | omega) (by first | (simp only [nums_length]; unfold maxLen; omega) | (unfold maxLen; omega)) ?_; (try clear K hO); (try clear ww); intro v ww LL hO K))
      have hO' : Own v 3 (nums .i64 (o ++ [(cz + x + y) % 256])) [] LL := by rw [← nums_append]; exact hO
      exact ⟨⟨k + 1, (cz + x + y) / 256, _, LL, by omega, by go_num, by go_num, ST, hO', K⟩, by simp [intOf]; omega⟩
    · have t1 : decide (k < n) = false := decide_eq_false a1
      by_cases a2 : k < m
      · have t2 : decide (k < m) = true := decide_eq_true a2
        have hkN : k < N := by
          rcases Nat.lt_or_ge k N with h | h
          · exact h
          · have := hs.out.2.2.2.2 h; omega
        have st := hs.out.step (by omega) hlx.out hly.out
        have DX := Lib.hid (fun W u => digit_any A n c X k W u (by omega))
        have DY := Lib.hid (fun W u => digit_any A2 m d Y k W u (by omega))
        have x1 := Nat.mod_lt (X / 256 ^ k) (show 0 < 256 by omega)
        have y1 := Nat.mod_lt (Y / 256 ^ k) (show 0 < 256 by omega)
        generalize X / 256 ^ k % 256 = x at *
        generalize Y / 256 ^ k % 256 = y at *
        have ST := Lib.hid st
        have ol : o.length ≤ 1000001 := by omega
        clear st hs hol
        go_wp2_with (first | go_big_skip | ((with_reducible refine at_load ?_); first | (refine wm_load (cs := ?_) (t := ?_) (n := ?_) K rfl _ _ rfl rfl ?_ ?_ ?_ ?_; rotate_left 2; (repeat (first | exact At.hd | refine At.tl ?_)); rotate_left; (first | fail); (solve | exact rfl | simp)) | (refine wm_own (cs := ?_) (t := ?_) (v := ?_) K rfl _ _ rfl rfl ?_ ?_ ?_ ?_; rotate_left 2; (repeat (first | exact At.hd | refine At.tl ?_)); rotate_left; (first | exact rfl | assumption); (first | (with_reducible exact one3))) | (refine wm_cell (v := ?_) rfl _ _ rfl rfl ?_ ?_ ?_; rotate_left; (first | assumption | exact (K.below.cell (by assumption)).trans (by assumption)); (first | (with_reducible exact one3)))) | ((with_reducible refine at_store ?_); first | (refine wm_store (L' := ?_) (cs := ?_) (t := ?_) (n := ?_) K rfl _ _ _ rfl rfl rfl rfl ?_ ?_ ?_ ?_ ?_ ?_; rotate_left 3; (repeat (first | exact Put.hd | (refine Put.tl (L' := ?_) ?_; rotate_left))); rotate_left; (first | fail); (solve | exact rfl | simp); (solve | exact rfl | simp); (solve | exact rfl | simp [Ones, Value.oneCell']); (try clear K); (try clear ww); intro ww K; (try simp [go_sem] at K)) | (refine wm_put (L' := ?_) (cs := ?_) (new := ?_) (t := ?_) K rfl _ _ _ rfl rfl rfl rfl ?_ ?_ ?_ ?_ rfl rfl ?_; rotate_left 4; (repeat (first | exact Put.hd | (refine Put.tl (L' := ?_) ?_; rotate_left))); (solve | decide | (simp only [List.size_toArray, nums_length]; first | assumption | omega) | (simp only [List.size_toArray, nums_length, List.length_set]; first | assumption | omega) | simp | omega | (simp only [List.size_toArray, nums_length]; omega) | assumption); (solve | exact nums_set _ _ _ _ | simp only [List.setIfInBounds_toArray, List.set_cons_zero] | simp only [List.setIfInBounds_toArray, List.set_cons_zero, List.set_cons_succ] | (simp only [List.setIfInBounds_toArray, List.set_cons_zero, List.set_cons_succ]; exact rfl) | exact rfl); (first | (with_reducible exact one3)); (try clear K); (try clear ww); intro ww K; (try simp [go_sem] at K))) | (go_at_call 129; (with_reducible refine (DX.out _ (HX.out.below K.below)).mono ?_); rintro e w2 ⟨rfl, rfl⟩; (try dsimp only)) | (go_at_call 129; (with_reducible refine (DY.out _ (HY.out.below K.below)).mono ?_); rintro e w2 ⟨rfl, rfl⟩; (try dsimp only)) | ((with_reducible refine at_bsl ?_); refine wm_one K rfl _ _ rfl Try.underlying102 num3 rfl ?_; (try clear K); (try clear ww); intro bb ww K; (try simp [go_sem] at K)) | ((with_reducible refine at_app ?_); refine wm_app K rfl _ _ _ rfl Try.underlying102 num3 rfl hO rfl rfl (by first | (simp only [nums_length]; omega) | omega) (by first | (simp only [nums_length]; unfold maxLen; omega) | (unfold maxLen; omega)) ?_; (try clear K hO); (try clear ww); intro v ww LL hO K))
        have hO' : Own v 3 (nums .i64 (o ++ [(cz + x + y) % 256])) [] LL := by rw [← nums_append]; exact hO
        exact ⟨⟨k + 1, (cz + x + y) / 256, _, LL, by omega, by go_num, by go_num, ST, hO', K⟩, by simp [intOf]; omega⟩
      · have t2 : decide (k < m) = false := decide_eq_false a2
        by_cases a3 : 0 < cz
        · have t3 : decide (0 < cz) = true := decide_eq_true a3
          have hkN : k < N := by
            rcases Nat.lt_or_ge k N with h | h
            · exact h
            · have := hs.out.2.2.2.2 h; omega
          have st := hs.out.step (by omega) hlx.out hly.out
          have DX := Lib.hid (fun W u => digit_any A n c X k W u (by omega))
          have DY := Lib.hid (fun W u => digit_any A2 m d Y k W u (by omega))
          have x1 := Nat.mod_lt (X / 256 ^ k) (show 0 < 256 by omega)
          have y1 := Nat.mod_lt (Y / 256 ^ k) (show 0 < 256 by omega)
          generalize X / 256 ^ k % 256 = x at *
          generalize Y / 256 ^ k % 256 = y at *
          have ST := Lib.hid st
          have ol : o.length ≤ 1000001 := by omega
          clear st hs hol
          go_wp2_with (first | go_big_skip | ((with_reducible refine at_load ?_); first | (refine wm_load (cs := ?_) (t := ?_) (n := ?_) K rfl _ _ rfl rfl ?_ ?_ ?_ ?_; rotate_left 2; (repeat (first | exact At.hd | refine At.tl ?_)); rotate_left; (first | fail); (solve | exact rfl | simp)) | (refine wm_own (cs := ?_) (t := ?_) (v := ?_) K rfl _ _ rfl rfl ?_ ?_ ?_ ?_; rotate_left 2; (repeat (first | exact At.hd | refine At.tl ?_)); rotate_left; (first | exact rfl | assumption); (first | (with_reducible exact one3))) | (refine wm_cell (v := ?_) rfl _ _ rfl rfl ?_ ?_ ?_; rotate_left; (first | assumption | exact (K.below.cell (by assumption)).trans (by assumption)); (first | (with_reducible exact one3)))) | ((with_reducible refine at_store ?_); first | (refine wm_store (L' := ?_) (cs := ?_) (t := ?_) (n := ?_) K rfl _ _ _ rfl rfl rfl rfl ?_ ?_ ?_ ?_ ?_ ?_; rotate_left 3; (repeat (first | exact Put.hd | (refine Put.tl (L' := ?_) ?_; rotate_left))); rotate_left; (first | fail); (solve | exact rfl | simp); (solve | exact rfl | simp); (solve | exact rfl | simp [Ones, Value.oneCell']); (try clear K); (try clear ww); intro ww K; (try simp [go_sem] at K)) | (refine wm_put (L' := ?_) (cs := ?_) (new := ?_) (t := ?_) K rfl _ _ _ rfl rfl rfl rfl ?_ ?_ ?_ ?_ rfl rfl ?_; rotate_left 4; (repeat (first | exact Put.hd | (refine Put.tl (L' := ?_) ?_; rotate_left))); (solve | decide | (simp only [List.size_toArray, nums_length]; first | assumption | omega) | (simp only [List.size_toArray, nums_length, List.length_set]; first | assumption | omega) | simp | omega | (simp only [List.size_toArray, nums_length]; omega) | assumption); (solve | exact nums_set _ _ _ _ | simp only [List.setIfInBounds_toArray, List.set_cons_zero] | simp only [List.setIfInBounds_toArray, List.set_cons_zero, List.set_cons_succ] | (simp only [List.setIfInBounds_toArray, List.set_cons_zero, List.set_cons_succ]; exact rfl) | exact rfl); (first | (with_reducible exact one3)); (try clear K); (try clear ww); intro ww K; (try simp [go_sem] at K))) | (go_at_call 129; (with_reducible refine (DX.out _ (HX.out.below K.below)).mono ?_); rintro e w2 ⟨rfl, rfl⟩; (try dsimp only)) | (go_at_call 129; (with_reducible refine (DY.out _ (HY.out.below K.below)).mono ?_); rintro e w2 ⟨rfl, rfl⟩; (try dsimp only)) | ((with_reducible refine at_bsl ?_); refine wm_one K rfl _ _ rfl Try.underlying102 num3 rfl ?_; (try clear K); (try clear ww); intro bb ww K; (try simp [go_sem] at K)) | ((with_reducible refine at_app ?_); refine wm_app K rfl _ _ _ rfl Try.underlying102 num3 rfl hO rfl rfl (by first | (simp only [nums_length]; omega) | omega) (by first | (simp only [nums_length]; unfold maxLen; omega) | (unfold maxLen; omega)) ?_; (try clear K hO); (try clear ww); intro v ww LL hO K))
          have hO' : Own v 3 (nums .i64 (o ++ [(cz + x + y) % 256])) [] LL := by rw [← nums_append]; exact hO
          exact ⟨⟨k + 1, (cz + x + y) / 256, _, LL, by omega, by go_num, by go_num, ST, hO', K⟩, by simp [intOf]; omega⟩
        · obtain rfl : cz = 0 := by omega
          have hvl : Hid (val 256 o = X + Y) := Lib.hid (hs.out.done (n := 0) (m := 0) (by
            have a1 := digs_le (b := 256) (by omega) X
            rw [← HX.out.len] at a1
            have a3 : 256 ^ n ≤ 256 ^ k := Nat.pow_le_pow_right (by omega) (by omega)
            omega) (by
            have a1 := digs_le (b := 256) (by omega) Y
            rw [← HY.out.len] at a1
            have a3 : 256 ^ m ≤ 256 ^ k := Nat.pow_le_pow_right (by omega) (by omega)
            omega))
          have hl := Lib.hid hs.out.2.1
          clear hs hol
          go_wp2_with fail
          refine (K.trimR hO hl.out).mono ?_
          rintro e w2 ⟨A', k', c', rfl, K2⟩
          rw [hvl.out] at K2
          have R := Lib.hid K2.fact.1
          have G := Lib.hid K2.below
          clear K K2 hO hvl hl
          dsimp only
          go_wp2
          go_ret
          exact ⟨_, _, _, rfl, R.out, G.out⟩
end Go.Proofs.Yteancdipmpmjpaa
