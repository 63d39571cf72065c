/-
  Lemmas and walks of this claim (the texts Ra16 Rb16 Rc16 Rd16 Re16 Bg16 Rf18 of the work; what no proof here uses is left out). No claim of their own.
-/
import Derived.Test.YteancdipmpmjpaaMB11
import Derived.Test.YteancdipmpmjpaaMB20
import Derived.Test.YteancdipmpmjpaaMB7
import Init
set_option linter.all false
set_option linter.unusedSimpArgs false
set_option linter.unusedVariables false
namespace Go.Proofs.Yteancdipmpmjpaa
open Go.RowKit
set_option maxRecDepth 100000
set_option linter.unusedVariables false

theorem take_stepB (b : Nat) (l : List Nat) (k : Nat) (hk : k < l.length) (h0 : l.getD k 0 = 0) : val b (l.take k) = val b (l.take (k + 1)) := by
  rw [List.take_succ_eq_append_getElem hk, val_append]
  have : l[k] = 0 := by simpa [List.getD, hk] using h0
  simp [val, this]
theorem take_lastB {b : Nat} (hb : 2 ≤ b) (l : List Nat) (k : Nat) (hk : k < l.length) (h0 : l.getD k 0 ≠ 0) (hl : ∀ x ∈ l, x < b) : digs b (val b (l.take (k + 1))) = l.take (k + 1) := by
  apply digs_val hb _ fun x hx => hl x (List.mem_of_mem_take hx)
  intro hne
  rw [List.getLast_eq_getElem]
  have e : (l.take (k + 1)).length = k + 1 := by rw [List.length_take]; omega
  simp only [e, List.getElem_take, Nat.add_sub_cancel]
  simpa [List.getD, hk] using h0

set_option maxHeartbeats 1000000 in
theorem trimR_any (A : Option Addr) (n c : Nat) (l : List Nat) (w : World) (h : Sl w 3 A n (nums .i64 l)) (hl : ∀ x ∈ l, x < 256) (hn : n ≤ c) (hc : c ≤ 9223372036854775807) :
    Calls Try.prog 112 #[.slice A n c] w fun e w' => (∃ k, e = .returned (.slice A k c) ∧ Rf w A k c (val 256 l)) ∧ w = w' := by
  have H := Lib.hid h
  have HL := Lib.hid hl
  have hlen : l.length = n := by rw [← h.1, nums_length]
  have HN := Lib.hid hlen
  clear h hl hlen
  go_enter Try.func112, Try.ntmps112
  go_wp2
  go_loop [3] (fun i => ∃ k : Nat, k ≤ n ∧ i = .int .i64 k ∧ Hid (val 256 (l.take k) = val 256 l)) (fun i => (intOf i).toNat)
  case atStart => exact ⟨n, Nat.le_refl _, rfl, Lib.hid (by rw [List.take_of_length_le (by rw [HN.out]; omega)])⟩
  case round =>
    obtain ⟨k, hk, rfl, hv⟩ := hrel
    rcases k with _ | k
    · go_wp2
      go_ret
      refine ⟨⟨0, rfl, ?_⟩, rfl⟩
      have : val 256 l = 0 := by rw [← hv.out]; simp [val]
      rw [this]
      exact Rf.zero _ _ _ (by omega)
    · obtain ⟨b, off, rfl, hbb, hcc⟩ := H.out.rd.get (k := k) (by omega)
      have hd := hcc k _ (nums_get .i64 l k (by rw [HN.out]; omega))
      clear hcc
      by_cases h0 : l.getD k 0 = 0
      · rw [h0] at hd
        have E := Lib.hid (take_stepB 256 l k (by rw [HN.out]; omega) h0)
        clear h0
        go_wp2
        exact ⟨⟨k, by omega, rfl, Lib.hid (E.out.trans hv.out)⟩, by simp [intOf]⟩
      · have E := Lib.hid (take_lastB (by omega) l k (by rw [HN.out]; omega) h0 HL.out)
        generalize l.getD k 0 = d at *
        have h1 : (((d : Nat) : Int) == 0) = false := by simp; omega
        go_wp2
        go_ret
        refine ⟨⟨k + 1, rfl, ?_, by omega, by omega⟩, rfl⟩
        have S := H.out.take hk
        rw [nums_take, ← E.out, hv.out] at S
        exact S

theorem digit_any (A : Option Addr) (n c X i : Nat) (w : World) (h : Rf w A n c X) (hi : i < 4611686018427387904) :
    Calls Try.prog 129 #[.slice A n c, .int .i64 i] w fun e w' => e = .returned (.int .i64 (X / 256 ^ i % 256 : Nat)) ∧ w = w' := by
  have hd := digs_get (b := 256) (by omega) X i
  have hl := h.len
  by_cases hk : i < n
  · obtain ⟨b, off, rfl, hb, hc⟩ := h.1.rd.get hk
    have hv := hc i _ (nums_get .i64 _ i (by omega))
    rw [hd] at hv
    generalize X / 256 ^ i % 256 = d at *
    clear hd hl hc h
    have ht : decide (i < n) = true := decide_eq_true hk
    go_enter Try.func129, Try.ntmps129
    go_wp2
    go_ret
    exact ⟨rfl, rfl⟩
  · have e : X / 256 ^ i % 256 = 0 := by
      rw [← hd, List.getD, List.getElem?_eq_none (by omega)]; rfl
    rw [e]
    clear hd hl h e
    have ht : decide (i < n) = false := decide_eq_false hk
    go_enter Try.func129, Try.ntmps129
    go_wp2
    go_ret
    exact ⟨rfl, rfl⟩

section
variable {B : Nat} {w0 w : World} {L L0 : List Blk} {F : World → Prop}
theorem Own.sl (K : St B w0 L F w) {v : Value} {e : TypeId} {xs : List Value} (h : Own v e xs L0 L) : ∃ A c, v = .slice A xs.length c ∧ xs.length ≤ c ∧ c ≤ 9223372036854775807 ∧ Sl w e A xs.length xs ∧ Nw B A ∧ St B w0 L0 F w ∧ ∀ b off p, A = some ⟨b, off, p⟩ → b ∉ L0.map (·.1) := by
  rcases h with ⟨rfl, rfl, rfl⟩ | ⟨g, cap, cur, rfl, h1, h2, h3, h4, rfl⟩
  · exact ⟨none, 0, rfl, Nat.le_refl _, by omega, Sl.nil _ _ _, (fun b off p e => by cases e), K, fun b off p e => by cases e⟩
  · exact ⟨_, cap, rfl, h1, h2, Sl.of_take (K.get .hd) h4 (by omega), Nw.mk _ _ _ (K.ge .hd), K.tail, K.head_ids⟩
/-- The end of a function that has gathered digits. -/
theorem St.trimR {v : Value} {l : List Nat} (K : St B w0 L F w) (hO : Own v 3 (nums .i64 l) L0 L) (hl : ∀ x ∈ l, x < 256) :
    Calls Try.prog 112 #[v] w fun e w' => ∃ A k c, e = .returned (.slice A k c) ∧ St B w0 L0 (fun w => (Rf w A k c (val 256 l) ∧ Nw B A) ∧ F w) w' := by
  obtain ⟨A, c, rfl, h1, h2, hs, hA, K', hi⟩ := hO.sl K
  refine (trimR_any A _ c l w hs hl h1 h2).mono ?_
  rintro e w' ⟨⟨k, rfl, hr⟩, rfl⟩
  exact ⟨A, k, c, rfl, K'.addRf hr hA hi⟩
end

/-- What the sum's loop keeps: the digits gathered, and what is carried. -/
def GatAt (b X Y N k : Nat) (o : List Nat) (cy : Nat) : Prop := o.length = k ∧ (∀ x ∈ o, x < b) ∧ cy ≤ 1 ∧ val b o + b ^ k * cy = X % b ^ k + Y % b ^ k ∧ (N ≤ k → cy = 0)
theorem GatAt.start (b X Y N : Nat) (hN : 0 < N) : GatAt b X Y N 0 [] 0 := ⟨rfl, (fun x hx => by cases hx), by omega, by simp [val, Nat.mod_one], fun _ => rfl⟩
theorem GatAt.step {b X Y N k cy : Nat} {o : List Nat} (hb : 2 ≤ b) (h : GatAt b X Y N k o cy) (hX : X < b ^ (N - 1)) (hY : Y < b ^ (N - 1)) :
    GatAt b X Y N (k + 1) (o ++ [(cy + X / b ^ k % b + Y / b ^ k % b) % b]) ((cy + X / b ^ k % b + Y / b ^ k % b) / b) := by
  obtain ⟨h1, h2, h4, h5, h6⟩ := h
  have x1 := Nat.mod_lt (X / b ^ k) (show 0 < b by omega)
  have y1 := Nat.mod_lt (Y / b ^ k) (show 0 < b by omega)
  have ex := mod_pow_step b X k
  have ey := mod_pow_step b Y k
  have hz : N ≤ k + 1 → X / b ^ k % b = 0 ∧ Y / b ^ k % b = 0 := fun hk => by
    have : b ^ (N - 1) ≤ b ^ k := Nat.pow_le_pow_right (by omega) (by omega)
    rw [Nat.div_eq_of_lt (by omega), Nat.div_eq_of_lt (by omega)]; simp
  generalize X / b ^ k % b = x at *
  generalize Y / b ^ k % b = y at *
  refine ⟨by simp [h1], fun u hu => ?_, ?_, ?_, fun hk => ?_⟩
  · rcases List.mem_append.1 hu with hu | hu
    · exact h2 u hu
    · rw [List.mem_singleton.1 hu]; exact Nat.mod_lt _ (by omega)
  · have : (cy + x + y) / b < 2 := Nat.div_lt_of_lt_mul (by omega)
    omega
  · have hm := Nat.mod_add_div (cy + x + y) b
    rw [val_append, h1, ex, ey, Nat.pow_succ, Nat.mul_assoc]
    simp only [val, Nat.mul_zero, Nat.add_zero]
    rw [Nat.add_assoc, ← Nat.mul_add, hm, Nat.mul_add, Nat.mul_add]
    omega
  · obtain ⟨rfl, rfl⟩ := hz hk
    exact Nat.div_eq_of_lt (by omega)
theorem GatAt.done {b X Y N k : Nat} {o : List Nat} {n m : Nat} (h : GatAt b X Y N k o 0) (hX : X < b ^ k) (hY : Y < b ^ k) : val b o = X + Y := by
  have := h.2.2.2.1
  rw [Nat.mod_eq_of_lt hX, Nat.mod_eq_of_lt hY] at this
  omega


set_option maxHeartbeats 2000000 in
theorem AddR (A A2 : Option Addr) (n c m d X Y : Nat) (w : World) (hx : Rf w A n c X) (hy : Rf w A2 m d Y) (h1 : n ≤ 1000000) (h2 : m ≤ 1000000) :
    Calls Try.prog 109 #[.slice A n c, .slice A2 m d] w fun e w' => ∃ A' k c', e = .returned (.slice A' k c') ∧ (Rf w' A' k c' (X + Y) ∧ Nw w.heap.size A') ∧ Below w.heap.size w w' := by
  have K := St.start w
  have HX := Lib.hid hx
  have HY := Lib.hid hy
  obtain ⟨N, hN⟩ : ∃ N, max n m + 1 = N := ⟨_, rfl⟩
  have hlx : Hid (X < 256 ^ (N - 1)) := Lib.hid (by
    have a1 := digs_le (b := 256) (by omega) X
    rw [← hx.len] at a1
    have a3 : 256 ^ n ≤ 256 ^ (N - 1) := Nat.pow_le_pow_right (by omega) (by omega)
    omega)
  have hly : Hid (Y < 256 ^ (N - 1)) := Lib.hid (by
    have a1 := digs_le (b := 256) (by omega) Y
    rw [← hy.len] at a1
    have a3 : 256 ^ m ≤ 256 ^ (N - 1) := Nat.pow_le_pow_right (by omega) (by omega)
    omega)
  have n1 : n ≤ N - 1 := by omega
  have m1 : m ≤ N - 1 := by omega
  have N1 : N ≤ 1000001 := by omega
  have N0 : 0 < N := by omega
  clear hx hy hN
  go_enter Try.func109, Try.ntmps109
  go_wp2
  go_loopw [5, 6, 7] (fun v cy i wr => ∃ (k cz : Nat) (o : List Nat) (L : List Blk), k ≤ N ∧ i = .int .i64 k ∧ cy = .int .i64 cz ∧ Hid (GatAt 256 X Y N k o cz) ∧ Own v 3 (nums .i64 o) [] L ∧ St w.heap.size w L Any wr) (fun _ _ i _ => N - (intOf i).toNat)
  case atStart => exact ⟨0, 0, [], [], Nat.zero_le _, rfl, rfl, Lib.hid (GatAt.start _ _ _ _ N0), Own.nil _ _, K⟩
  case round =>
    clear K
    obtain ⟨k, cz, o, LL, hk, rfl, rfl, hs, hO, K⟩ := hrel
    have c1 := hs.out.2.2.1
    have hol := hs.out.1
    by_cases a1 : k < n
    · have t1 : decide (k < n) = true := decide_eq_true a1
      have hkN : k < N := by
        rcases Nat.lt_or_ge k N with h | h
        · exact h
        · have := hs.out.2.2.2.2 h; omega
      have st := hs.out.step (by omega) hlx.out hly.out
      have DX := Lib.hid (fun W u => digit_any A n c X k W u (by omega))
      have DY := Lib.hid (fun W u => digit_any A2 m d Y k W u (by omega))
      have x1 := Nat.mod_lt (X / 256 ^ k) (show 0 < 256 by omega)
      have y1 := Nat.mod_lt (Y / 256 ^ k) (show 0 < 256 by omega)
      generalize X / 256 ^ k % 256 = x at *
      generalize Y / 256 ^ k % 256 = y at *
      have ST := Lib.hid st
      have ol : o.length ≤ 1000001 := by omega
      clear st hs hol
      go_wp2_with (first | go_big_skip | ((with_reducible refine at_load ?_); first | (refine wm_load (cs := ?_) (t := ?_) (n := ?_) K rfl _ _ rfl rfl ?_ ?_ ?_ ?_; rotate_left 2; (repeat (first | exact At.hd | refine At.tl ?_)); rotate_left; (with_reducible first | fail); (solve | exact rfl | simp)) | (refine wm_own (cs := ?_) (t := ?_) (v := ?_) K rfl _ _ rfl rfl ?_ ?_ ?_ ?_; rotate_left 2; (repeat (first | exact At.hd | refine At.tl ?_)); rotate_left; (first | exact rfl | assumption); (with_reducible first | exact one3)) | (refine wm_cell (v := ?_) rfl _ _ rfl rfl ?_ ?_ ?_; rotate_left; (first | assumption | exact (K.below.cell (by assumption)).trans (by assumption)); (with_reducible first | exact one3))) | ((with_reducible refine at_store ?_); first | (refine wm_store (L' := ?_) (cs := ?_) (t := ?_) (n := ?_) K rfl _ _ _ rfl rfl rfl rfl ?_ ?_ ?_ ?_ ?_ ?_; rotate_left 3; (repeat (first | exact Put.hd | (refine Put.tl (L' := ?_) ?_; rotate_left))); rotate_left; (with_reducible first | fail); (solve | exact rfl | simp); (solve | exact rfl | simp); (solve | exact rfl | simp [Ones, Value.oneCell']); (try clear K); (try clear ww); intro ww K; (try simp [go_sem] at K)) | (refine wm_put (L' := ?_) (cs := ?_) (new := ?_) (t := ?_) K rfl _ _ _ rfl rfl rfl rfl ?_ ?_ ?_ ?_ rfl rfl ?_; rotate_left 4; (repeat (first | exact Put.hd | (refine Put.tl (L' := ?_) ?_; rotate_left))); (solve | decide | (simp only [List.size_toArray, nums_length]; first | assumption | omega) | (simp only [List.size_toArray, nums_length, List.length_set]; first | assumption | omega) | simp | omega | (simp only [List.size_toArray, nums_length]; omega) | assumption); (solve | exact nums_set _ _ _ _ | simp only [List.setIfInBounds_toArray, List.set_cons_zero] | simp only [List.setIfInBounds_toArray, List.set_cons_zero, List.set_cons_succ] | (simp only [List.setIfInBounds_toArray, List.set_cons_zero, List.set_cons_succ]; exact rfl) | exact rfl); (with_reducible first | exact one3); (try clear K); (try clear ww); intro ww K; (try simp [go_sem] at K))) | (go_at_call 129; (with_reducible refine (DX.out _ (HX.out.below K.below)).mono ?_); rintro e w2 ⟨rfl, rfl⟩; (try dsimp only)) | (go_at_call 129; (with_reducible refine (DY.out _ (HY.out.below K.below)).mono ?_); rintro e w2 ⟨rfl, rfl⟩; (try dsimp only)) | ((with_reducible refine at_bsl ?_); refine wm_one K rfl _ _ rfl Try.underlying102 num3 rfl ?_; (try clear K); (try clear ww); intro bb ww K; (try simp [go_sem] at K)) | ((with_reducible refine at_app ?_); refine wm_app K rfl _ _ _ rfl Try.underlying102 num3 rfl hO rfl rfl (by first | (simp only [nums_length]; omega) | omega) (by first | (simp only [nums_length]; unfold maxLen; omega) | (unfold maxLen; omega)) ?_; (try clear K hO); (try clear ww); intro v ww LL hO K))
      have hO' : Own v 3 (nums .i64 (o ++ [(cz + x + y) % 256])) [] LL := by rw [← nums_append]; exact hO
      exact ⟨⟨k + 1, (cz + x + y) / 256, _, LL, by omega, by go_num, by go_num, ST, hO', K⟩, by simp [intOf]; omega⟩
    · have t1 : decide (k < n) = false := decide_eq_false a1
      by_cases a2 : k < m
      · have t2 : decide (k < m) = true := decide_eq_true a2
        have hkN : k < N := by
          rcases Nat.lt_or_ge k N with h | h
          · exact h
          · have := hs.out.2.2.2.2 h; omega
        have st := hs.out.step (by omega) hlx.out hly.out
        have DX := Lib.hid (fun W u => digit_any A n c X k W u (by omega))
        have DY := Lib.hid (fun W u => digit_any A2 m d Y k W u (by omega))
        have x1 := Nat.mod_lt (X / 256 ^ k) (show 0 < 256 by omega)
        have y1 := Nat.mod_lt (Y / 256 ^ k) (show 0 < 256 by omega)
        generalize X / 256 ^ k % 256 = x at *
        generalize Y / 256 ^ k % 256 = y at *
        have ST := Lib.hid st
        have ol : o.length ≤ 1000001 := by omega
        clear st hs hol
        go_wp2_with (first | go_big_skip | ((with_reducible refine at_load ?_); first | (refine wm_load (cs := ?_) (t := ?_) (n := ?_) K rfl _ _ rfl rfl ?_ ?_ ?_ ?_; rotate_left 2; (repeat (first | exact At.hd | refine At.tl ?_)); rotate_left; (with_reducible first | fail); (solve | exact rfl | simp)) | (refine wm_own (cs := ?_) (t := ?_) (v := ?_) K rfl _ _ rfl rfl ?_ ?_ ?_ ?_; rotate_left 2; (repeat (first | exact At.hd | refine At.tl ?_)); rotate_left; (first | exact rfl | assumption); (with_reducible first | exact one3)) | (refine wm_cell (v := ?_) rfl _ _ rfl rfl ?_ ?_ ?_; rotate_left; (first | assumption | exact (K.below.cell (by assumption)).trans (by assumption)); (with_reducible first | exact one3))) | ((with_reducible refine at_store ?_); first | (refine wm_store (L' := ?_) (cs := ?_) (t := ?_) (n := ?_) K rfl _ _ _ rfl rfl rfl rfl ?_ ?_ ?_ ?_ ?_ ?_; rotate_left 3; (repeat (first | exact Put.hd | (refine Put.tl (L' := ?_) ?_; rotate_left))); rotate_left; (with_reducible first | fail); (solve | exact rfl | simp); (solve | exact rfl | simp); (solve | exact rfl | simp [Ones, Value.oneCell']); (try clear K); (try clear ww); intro ww K; (try simp [go_sem] at K)) | (refine wm_put (L' := ?_) (cs := ?_) (new := ?_) (t := ?_) K rfl _ _ _ rfl rfl rfl rfl ?_ ?_ ?_ ?_ rfl rfl ?_; rotate_left 4; (repeat (first | exact Put.hd | (refine Put.tl (L' := ?_) ?_; rotate_left))); (solve | decide | (simp only [List.size_toArray, nums_length]; first | assumption | omega) | (simp only [List.size_toArray, nums_length, List.length_set]; first | assumption | omega) | simp | omega | (simp only [List.size_toArray, nums_length]; omega) | assumption); (solve | exact nums_set _ _ _ _ | simp only [List.setIfInBounds_toArray, List.set_cons_zero] | simp only [List.setIfInBounds_toArray, List.set_cons_zero, List.set_cons_succ] | (simp only [List.setIfInBounds_toArray, List.set_cons_zero, List.set_cons_succ]; exact rfl) | exact rfl); (with_reducible first | exact one3); (try clear K); (try clear ww); intro ww K; (try simp [go_sem] at K))) | (go_at_call 129; (with_reducible refine (DX.out _ (HX.out.below K.below)).mono ?_); rintro e w2 ⟨rfl, rfl⟩; (try dsimp only)) | (go_at_call 129; (with_reducible refine (DY.out _ (HY.out.below K.below)).mono ?_); rintro e w2 ⟨rfl, rfl⟩; (try dsimp only)) | ((with_reducible refine at_bsl ?_); refine wm_one K rfl _ _ rfl Try.underlying102 num3 rfl ?_; (try clear K); (try clear ww); intro bb ww K; (try simp [go_sem] at K)) | ((with_reducible refine at_app ?_); refine wm_app K rfl _ _ _ rfl Try.underlying102 num3 rfl hO rfl rfl (by first | (simp only [nums_length]; omega) | omega) (by first | (simp only [nums_length]; unfold maxLen; omega) | (unfold maxLen; omega)) ?_; (try clear K hO); (try clear ww); intro v ww LL hO K))
        have hO' : Own v 3 (nums .i64 (o ++ [(cz + x + y) % 256])) [] LL := by rw [← nums_append]; exact hO
        exact ⟨⟨k + 1, (cz + x + y) / 256, _, LL, by omega, by go_num, by go_num, ST, hO', K⟩, by simp [intOf]; omega⟩
      · have t2 : decide (k < m) = false := decide_eq_false a2
        by_cases a3 : 0 < cz
        · have t3 : decide (0 < cz) = true := decide_eq_true a3
          have hkN : k < N := by
            rcases Nat.lt_or_ge k N with h | h
            · exact h
            · have := hs.out.2.2.2.2 h; omega
          have st := hs.out.step (by omega) hlx.out hly.out
          have DX := Lib.hid (fun W u => digit_any A n c X k W u (by omega))
          have DY := Lib.hid (fun W u => digit_any A2 m d Y k W u (by omega))
          have x1 := Nat.mod_lt (X / 256 ^ k) (show 0 < 256 by omega)
          have y1 := Nat.mod_lt (Y / 256 ^ k) (show 0 < 256 by omega)
          generalize X / 256 ^ k % 256 = x at *
          generalize Y / 256 ^ k % 256 = y at *
          have ST := Lib.hid st
          have ol : o.length ≤ 1000001 := by omega
          clear st hs hol
          go_wp2_with (first | go_big_skip | ((with_reducible refine at_load ?_); first | (refine wm_load (cs := ?_) (t := ?_) (n := ?_) K rfl _ _ rfl rfl ?_ ?_ ?_ ?_; rotate_left 2; (repeat (first | exact At.hd | refine At.tl ?_)); rotate_left; (with_reducible first | fail); (solve | exact rfl | simp)) | (refine wm_own (cs := ?_) (t := ?_) (v := ?_) K rfl _ _ rfl rfl ?_ ?_ ?_ ?_; rotate_left 2; (repeat (first | exact At.hd | refine At.tl ?_)); rotate_left; (first | exact rfl | assumption); (with_reducible first | exact one3)) | (refine wm_cell (v := ?_) rfl _ _ rfl rfl ?_ ?_ ?_; rotate_left; (first | assumption | exact (K.below.cell (by assumption)).trans (by assumption)); (with_reducible first | exact one3))) | ((with_reducible refine at_store ?_); first | (refine wm_store (L' := ?_) (cs := ?_) (t := ?_) (n := ?_) K rfl _ _ _ rfl rfl rfl rfl ?_ ?_ ?_ ?_ ?_ ?_; rotate_left 3; (repeat (first | exact Put.hd | (refine Put.tl (L' := ?_) ?_; rotate_left))); rotate_left; (with_reducible first | fail); (solve | exact rfl | simp); (solve | exact rfl | simp); (solve | exact rfl | simp [Ones, Value.oneCell']); (try clear K); (try clear ww); intro ww K; (try simp [go_sem] at K)) | (refine wm_put (L' := ?_) (cs := ?_) (new := ?_) (t := ?_) K rfl _ _ _ rfl rfl rfl rfl ?_ ?_ ?_ ?_ rfl rfl ?_; rotate_left 4; (repeat (first | exact Put.hd | (refine Put.tl (L' := ?_) ?_; rotate_left))); (solve | decide | (simp only [List.size_toArray, nums_length]; first | assumption | omega) | (simp only [List.size_toArray, nums_length, List.length_set]; first | assumption | omega) | simp | omega | (simp only [List.size_toArray, nums_length]; omega) | assumption); (solve | exact nums_set _ _ _ _ | simp only [List.setIfInBounds_toArray, List.set_cons_zero] | simp only [List.setIfInBounds_toArray, List.set_cons_zero, List.set_cons_succ] | (simp only [List.setIfInBounds_toArray, List.set_cons_zero, List.set_cons_succ]; exact rfl) | exact rfl); (with_reducible first | exact one3); (try clear K); (try clear ww); intro ww K; (try simp [go_sem] at K))) | (go_at_call 129; (with_reducible refine (DX.out _ (HX.out.below K.below)).mono ?_); rintro e w2 ⟨rfl, rfl⟩; (try dsimp only)) | (go_at_call 129; (with_reducible refine (DY.out _ (HY.out.below K.below)).mono ?_); rintro e w2 ⟨rfl, rfl⟩; (try dsimp only)) | ((with_reducible refine at_bsl ?_); refine wm_one K rfl _ _ rfl Try.underlying102 num3 rfl ?_; (try clear K); (try clear ww); intro bb ww K; (try simp [go_sem] at K)) | ((with_reducible refine at_app ?_); refine wm_app K rfl _ _ _ rfl Try.underlying102 num3 rfl hO rfl rfl (by first | (simp only [nums_length]; omega) | omega) (by first | (simp only [nums_length]; unfold maxLen; omega) | (unfold maxLen; omega)) ?_; (try clear K hO); (try clear ww); intro v ww LL hO K))
          have hO' : Own v 3 (nums .i64 (o ++ [(cz + x + y) % 256])) [] LL := by rw [← nums_append]; exact hO
          exact ⟨⟨k + 1, (cz + x + y) / 256, _, LL, by omega, by go_num, by go_num, ST, hO', K⟩, by simp [intOf]; omega⟩
        · obtain rfl : cz = 0 := by omega
          have hvl : Hid (val 256 o = X + Y) := Lib.hid (hs.out.done (n := 0) (m := 0) (by
            have a1 := digs_le (b := 256) (by omega) X
            rw [← HX.out.len] at a1
            have a3 : 256 ^ n ≤ 256 ^ k := Nat.pow_le_pow_right (by omega) (by omega)
            omega) (by
            have a1 := digs_le (b := 256) (by omega) Y
            rw [← HY.out.len] at a1
            have a3 : 256 ^ m ≤ 256 ^ k := Nat.pow_le_pow_right (by omega) (by omega)
            omega))
          have hl := Lib.hid hs.out.2.1
          clear hs hol
          go_wp2_with fail
          refine (K.trimR hO hl.out).mono ?_
          rintro e w2 ⟨A', k', c', rfl, K2⟩
          rw [hvl.out] at K2
          have R := Lib.hid K2.fact.1
          have G := Lib.hid K2.below
          clear K K2 hO hvl hl
          dsimp only
          go_wp2
          go_ret
          exact ⟨_, _, _, rfl, R.out, G.out⟩
end Go.Proofs.Yteancdipmpmjpaa
namespace Go.Proofs.Yteancdipmpmjpaa
open Go.RowKit
set_option maxRecDepth 100000
set_option linter.unusedVariables false

theorem Rf.at {w : World} {A : Option Addr} {n c X k : Nat} (h : Rf w A n c X) (hk : k < n) : ∃ b off, A = some ⟨b, off, none⟩ ∧ b < w.heap.size ∧ w.cell? ⟨b, off + k, none⟩ = some (.int .i64 (X / 256 ^ k % 256 : Nat)) := by
  obtain ⟨b, off, e, hb, hc⟩ := h.1.rd.get hk
  have hv := hc k _ (nums_get .i64 _ k (by rw [← h.len]; exact hk))
  rw [digs_get (by omega)] at hv
  exact ⟨b, off, e, hb, hv⟩
theorem Rf.lim {w : World} {A : Option Addr} {n c X : Nat} (h : Rf w A n c X) : X < 256 ^ n := by
  have a1 := digs_le (b := 256) (by omega) X
  rwa [← h.len] at a1
theorem Rf.ne_len {w : World} {A A2 : Option Addr} {n c X m d Y : Nat} (hx : Rf w A n c X) (hy : Rf w A2 m d Y) (hne : n ≠ m) : decide (n < m) = decide (X < Y) ∧ X ≠ Y := by
  have h1 := hx.len
  have h2 := hy.len
  rcases Nat.lt_or_gt_of_ne hne with h | h
  · have : X < 256 ^ (m - 1) := (digs_len (by omega) X (m - 1)).1 (by omega)
    have h3 : 256 ^ (m - 1) ≤ Y := by
      rcases Nat.lt_or_ge Y (256 ^ (m - 1)) with h4 | h4
      · have := (digs_len (by omega) Y (m - 1)).2 h4; omega
      · exact h4
    rw [decide_eq_true h, decide_eq_true (by omega)]
    exact ⟨rfl, by omega⟩
  · have : Y < 256 ^ (n - 1) := (digs_len (by omega) Y (n - 1)).1 (by omega)
    have h3 : 256 ^ (n - 1) ≤ X := by
      rcases Nat.lt_or_ge X (256 ^ (n - 1)) with h4 | h4
      · have := (digs_len (by omega) X (n - 1)).2 h4; omega
      · exact h4
    rw [decide_eq_false (by omega), decide_eq_false (by omega)]
    exact ⟨rfl, by omega⟩


set_option maxHeartbeats 2000000 in
theorem LessR (A A2 : Option Addr) (n c m d X Y : Nat) (w : World) (hx : Rf w A n c X) (hy : Rf w A2 m d Y) (h1 : n ≤ 1000000) (h2 : m ≤ 1000000) :
    Calls Try.prog 108 #[.slice A n c, .slice A2 m d] w fun e w' => e = .returned (.bool (decide (X < Y))) ∧ Below w.heap.size w w' := by
  have K := St.start w
  have HX := Lib.hid hx
  have HY := Lib.hid hy
  by_cases hne : n = m
  · subst hne
    have t0 : ((n : Int) != (n : Int)) = false := by simp
    have hE : Hid (X / 256 ^ n = Y / 256 ^ n) := Lib.hid (by rw [Nat.div_eq_of_lt hx.lim, Nat.div_eq_of_lt hy.lim])
    clear hx hy
    go_enter Try.func108, Try.ntmps108
    go_wp2
    go_loopw [5] (fun i wr => ∃ (j : Nat) (z : Int), j ≤ n ∧ z = (j : Int) - 1 ∧ i = .int .i64 z ∧ Hid (X / 256 ^ j = Y / 256 ^ j) ∧ St w.heap.size w [] Any wr) (fun i _ => (intOf i + 1).toNat)
    case atStart => exact ⟨n, _, Nat.le_refl _, rfl, by go_num, hE, K⟩
    case round =>
      clear K
      obtain ⟨j, z, hj, hz, rfl, he, K⟩ := hrel
      rcases j with _ | k
      · have ht : decide ((0 : Int) ≤ z) = false := decide_eq_false (by omega)
        have e : Hid (decide (X < Y) = false) := Lib.hid (decide_eq_false (by have := he.out; simp at this; omega))
        clear hz
        go_wp2
        go_ret
        exact ⟨by rw [e.out]; rfl, K.below⟩
      · have hzk : z = (k : Int) := by omega
        subst hzk
        have hkn : k < n := by omega
        obtain ⟨b, off, rfl, hb, hv⟩ := HX.out.at hkn
        obtain ⟨b', off', rfl, hb', hv'⟩ := HY.out.at hkn
        have L1 := Lib.hid (cmp_lt 256 X Y k (by omega) he.out)
        have L2 := Lib.hid (cmp_lt 256 Y X k (by omega) he.out.symm)
        have L3 := Lib.hid (cmp_eq 256 X Y k (by omega) he.out)
        have x1 := Nat.mod_lt (X / 256 ^ k) (show 0 < 256 by omega)
        have y1 := Nat.mod_lt (Y / 256 ^ k) (show 0 < 256 by omega)
        generalize X / 256 ^ k % 256 = x at *
        generalize Y / 256 ^ k % 256 = y at *
        have tz : decide ((0 : Int) ≤ (k : Int)) = true := decide_eq_true (by omega)
        clear he hz hE
        rcases Nat.lt_trichotomy x y with hlt | heq | hgt
        · have E : Hid (decide (X < Y) = true) := Lib.hid (decide_eq_true (L1.out hlt))
          have t3 : decide (x < y) = true := decide_eq_true hlt
          have t2 : ((x : Int) != (y : Int)) = true := by simp; omega
          clear L1 L2 L3
          have e1 : IntKind.i64.wrap (k : Int) = (k : Int) := IntWalk.i64_in _ (by omega)
          go_wp2_with fail
          refine wm_region K (by kernel_rfl) (by kernel_rfl) ?_
          repeat (first | ((with_reducible refine qt_load ?_); first | (refine wn_load (cs := ?_) (t := ?_) (n := ?_) rfl _ _ rfl rfl ?_ ?_ ?_ ?_; rotate_left 2; (repeat (first | exact At.hd | refine At.tl ?_)); rotate_left; (with_reducible first | fail); (solve | exact rfl | simp)) | (refine wn_own (cs := ?_) (t := ?_) (v := ?_) rfl _ _ rfl rfl ?_ ?_ ?_ ?_; rotate_left 2; (repeat (first | exact At.hd | refine At.tl ?_)); rotate_left; (first | exact rfl | assumption); (with_reducible first | exact one3)) | (refine wn_cell (v := ?_) rfl _ _ rfl rfl (fun ww K => ?_) ?_ ?_; rotate_left; (first | assumption | exact (K.below.cell (by assumption)).trans (by assumption)); (with_reducible first | exact one3))) | (quiet_step ((intro _; rfl))))
          refine wpQuiet_nil ?_; (try clear K); (try clear ww); intro ww K; (try simp [go_sem] at K)
          go_wp2_with fail
          refine wm_region K (by kernel_rfl) (by kernel_rfl) ?_
          repeat (first | ((with_reducible refine qt_load ?_); first | (refine wn_load (cs := ?_) (t := ?_) (n := ?_) rfl _ _ rfl rfl ?_ ?_ ?_ ?_; rotate_left 2; (repeat (first | exact At.hd | refine At.tl ?_)); rotate_left; (with_reducible first | fail); (solve | exact rfl | simp)) | (refine wn_own (cs := ?_) (t := ?_) (v := ?_) rfl _ _ rfl rfl ?_ ?_ ?_ ?_; rotate_left 2; (repeat (first | exact At.hd | refine At.tl ?_)); rotate_left; (first | exact rfl | assumption); (with_reducible first | exact one3)) | (refine wn_cell (v := ?_) rfl _ _ rfl rfl (fun ww K => ?_) ?_ ?_; rotate_left; (first | assumption | exact (K.below.cell (by assumption)).trans (by assumption)); (with_reducible first | exact one3))) | (quiet_step ((intro _; rfl))))
          refine wpQuiet_nil ?_; (try clear K); (try clear ww); intro ww K; (try simp [go_sem] at K)
          go_wp2
          go_ret
          exact ⟨by rw [E.out]; rfl, K.below⟩
        · have E := Lib.hid (L3.out heq)
          clear L1 L2 L3
          subst heq
          have e1 : IntKind.i64.wrap (k : Int) = (k : Int) := IntWalk.i64_in _ (by omega)
          go_wp2_with fail
          refine wm_region K (by kernel_rfl) (by kernel_rfl) ?_
          repeat (first | ((with_reducible refine qt_load ?_); first | (refine wn_load (cs := ?_) (t := ?_) (n := ?_) rfl _ _ rfl rfl ?_ ?_ ?_ ?_; rotate_left 2; (repeat (first | exact At.hd | refine At.tl ?_)); rotate_left; (with_reducible first | fail); (solve | exact rfl | simp)) | (refine wn_own (cs := ?_) (t := ?_) (v := ?_) rfl _ _ rfl rfl ?_ ?_ ?_ ?_; rotate_left 2; (repeat (first | exact At.hd | refine At.tl ?_)); rotate_left; (first | exact rfl | assumption); (with_reducible first | exact one3)) | (refine wn_cell (v := ?_) rfl _ _ rfl rfl (fun ww K => ?_) ?_ ?_; rotate_left; (first | assumption | exact (K.below.cell (by assumption)).trans (by assumption)); (with_reducible first | exact one3))) | (quiet_step ((intro _; rfl))))
          refine wpQuiet_nil ?_; (try clear K); (try clear ww); intro ww K; (try simp [go_sem] at K)
          go_wp2
          exact ⟨⟨k, _, by omega, rfl, by go_num, E, K⟩, by simp [intOf]⟩
        · have E : Hid (decide (X < Y) = false) := Lib.hid (decide_eq_false (by have := L2.out hgt; omega))
          have t3 : decide (x < y) = false := decide_eq_false (by omega)
          have t2 : ((x : Int) != (y : Int)) = true := by simp; omega
          clear L1 L2 L3
          have e1 : IntKind.i64.wrap (k : Int) = (k : Int) := IntWalk.i64_in _ (by omega)
          go_wp2_with fail
          refine wm_region K (by kernel_rfl) (by kernel_rfl) ?_
          repeat (first | ((with_reducible refine qt_load ?_); first | (refine wn_load (cs := ?_) (t := ?_) (n := ?_) rfl _ _ rfl rfl ?_ ?_ ?_ ?_; rotate_left 2; (repeat (first | exact At.hd | refine At.tl ?_)); rotate_left; (with_reducible first | fail); (solve | exact rfl | simp)) | (refine wn_own (cs := ?_) (t := ?_) (v := ?_) rfl _ _ rfl rfl ?_ ?_ ?_ ?_; rotate_left 2; (repeat (first | exact At.hd | refine At.tl ?_)); rotate_left; (first | exact rfl | assumption); (with_reducible first | exact one3)) | (refine wn_cell (v := ?_) rfl _ _ rfl rfl (fun ww K => ?_) ?_ ?_; rotate_left; (first | assumption | exact (K.below.cell (by assumption)).trans (by assumption)); (with_reducible first | exact one3))) | (quiet_step ((intro _; rfl))))
          refine wpQuiet_nil ?_; (try clear K); (try clear ww); intro ww K; (try simp [go_sem] at K)
          go_wp2_with fail
          refine wm_region K (by kernel_rfl) (by kernel_rfl) ?_
          repeat (first | ((with_reducible refine qt_load ?_); first | (refine wn_load (cs := ?_) (t := ?_) (n := ?_) rfl _ _ rfl rfl ?_ ?_ ?_ ?_; rotate_left 2; (repeat (first | exact At.hd | refine At.tl ?_)); rotate_left; (with_reducible first | fail); (solve | exact rfl | simp)) | (refine wn_own (cs := ?_) (t := ?_) (v := ?_) rfl _ _ rfl rfl ?_ ?_ ?_ ?_; rotate_left 2; (repeat (first | exact At.hd | refine At.tl ?_)); rotate_left; (first | exact rfl | assumption); (with_reducible first | exact one3)) | (refine wn_cell (v := ?_) rfl _ _ rfl rfl (fun ww K => ?_) ?_ ?_; rotate_left; (first | assumption | exact (K.below.cell (by assumption)).trans (by assumption)); (with_reducible first | exact one3))) | (quiet_step ((intro _; rfl))))
          refine wpQuiet_nil ?_; (try clear K); (try clear ww); intro ww K; (try simp [go_sem] at K)
          go_wp2
          go_ret
          exact ⟨by rw [E.out]; rfl, K.below⟩
  · have t0 : ((n : Int) != (m : Int)) = true := by simp; omega
    have E := Lib.hid (hx.ne_len hy hne).1
    clear hx hy hne
    go_enter Try.func108, Try.ntmps108
    go_wp2
    go_ret
    exact ⟨by rw [← E.out]; simp, K.below⟩
end Go.Proofs.Yteancdipmpmjpaa
namespace Go.Proofs.Yteancdipmpmjpaa
open Go.RowKit
set_option maxRecDepth 100000
set_option linter.unusedVariables false

set_option maxHeartbeats 2000000 in
theorem SameR (A A2 : Option Addr) (n c m d X Y : Nat) (w : World) (hx : Rf w A n c X) (hy : Rf w A2 m d Y) (h1 : n ≤ 1000000) (h2 : m ≤ 1000000) :
    Calls Try.prog 127 #[.slice A n c, .slice A2 m d] w fun e w' => e = .returned (.bool (decide (X = Y))) ∧ Below w.heap.size w w' := by
  have K := St.start w
  have HX := Lib.hid hx
  have HY := Lib.hid hy
  by_cases hne : n = m
  · subst hne
    have t0 : ((n : Int) != (n : Int)) = false := by simp
    have hlx := Lib.hid hx.lim
    have hly := Lib.hid hy.lim
    clear hx hy
    go_enter Try.func127, Try.ntmps127
    go_wp2
    go_loopw [5] (fun i wr => ∃ (k : Nat), k ≤ n ∧ i = .int .i64 k ∧ Hid (X % 256 ^ k = Y % 256 ^ k) ∧ St w.heap.size w [] Any wr) (fun i _ => n - (intOf i).toNat)
    case atStart => exact ⟨0, Nat.zero_le _, rfl, Lib.hid (by simp [Nat.mod_one]), K⟩
    case round =>
      clear K
      obtain ⟨k, hk, rfl, he, K⟩ := hrel
      by_cases hkn : k < n
      · obtain ⟨b, off, rfl, hb, hv⟩ := HX.out.at hkn
        obtain ⟨b', off', rfl, hb', hv'⟩ := HY.out.at hkn
        have ex := mod_pow_step 256 X k
        have ey := mod_pow_step 256 Y k
        have L1 : X / 256 ^ k % 256 = Y / 256 ^ k % 256 → X % 256 ^ (k + 1) = Y % 256 ^ (k + 1) := fun h => by rw [ex, ey, h, he.out]
        have L2 : X / 256 ^ k % 256 ≠ Y / 256 ^ k % 256 → X ≠ Y := fun h e => h (by rw [e])
        generalize X / 256 ^ k % 256 = x at *
        generalize Y / 256 ^ k % 256 = y at *
        have tz : decide (k < n) = true := decide_eq_true hkn
        clear he ex ey
        by_cases hxy : x = y
        · have E := Lib.hid (L1 hxy)
          subst hxy
          clear L1 L2
          have e1 : IntKind.i64.wrap (k : Int) = (k : Int) := IntWalk.i64_in _ (by omega)
          go_wp2_with fail
          refine wm_region K (by kernel_rfl) (by kernel_rfl) ?_
          repeat (first | ((with_reducible refine qt_load ?_); first | (refine wn_load (cs := ?_) (t := ?_) (n := ?_) rfl _ _ rfl rfl ?_ ?_ ?_ ?_; rotate_left 2; (repeat (first | exact At.hd | refine At.tl ?_)); rotate_left; (with_reducible first | fail); (solve | exact rfl | simp)) | (refine wn_own (cs := ?_) (t := ?_) (v := ?_) rfl _ _ rfl rfl ?_ ?_ ?_ ?_; rotate_left 2; (repeat (first | exact At.hd | refine At.tl ?_)); rotate_left; (first | exact rfl | assumption); (with_reducible first | exact one3)) | (refine wn_cell (v := ?_) rfl _ _ rfl rfl (fun ww K => ?_) ?_ ?_; rotate_left; (first | assumption | exact (K.below.cell (by assumption)).trans (by assumption)); (with_reducible first | exact one3))) | (quiet_step ((intro _; rfl))))
          refine wpQuiet_nil ?_; (try clear K); (try clear ww); intro ww K; (try simp [go_sem] at K)
          go_wp2
          exact ⟨⟨k + 1, by omega, by go_num, E, K⟩, by simp [intOf]; omega⟩
        · have E : Hid (decide (X = Y) = false) := Lib.hid (decide_eq_false (L2 hxy))
          have t2 : ((x : Int) != (y : Int)) = true := by simp; omega
          clear L1 L2
          have e1 : IntKind.i64.wrap (k : Int) = (k : Int) := IntWalk.i64_in _ (by omega)
          go_wp2_with fail
          refine wm_region K (by kernel_rfl) (by kernel_rfl) ?_
          repeat (first | ((with_reducible refine qt_load ?_); first | (refine wn_load (cs := ?_) (t := ?_) (n := ?_) rfl _ _ rfl rfl ?_ ?_ ?_ ?_; rotate_left 2; (repeat (first | exact At.hd | refine At.tl ?_)); rotate_left; (with_reducible first | fail); (solve | exact rfl | simp)) | (refine wn_own (cs := ?_) (t := ?_) (v := ?_) rfl _ _ rfl rfl ?_ ?_ ?_ ?_; rotate_left 2; (repeat (first | exact At.hd | refine At.tl ?_)); rotate_left; (first | exact rfl | assumption); (with_reducible first | exact one3)) | (refine wn_cell (v := ?_) rfl _ _ rfl rfl (fun ww K => ?_) ?_ ?_; rotate_left; (first | assumption | exact (K.below.cell (by assumption)).trans (by assumption)); (with_reducible first | exact one3))) | (quiet_step ((intro _; rfl))))
          refine wpQuiet_nil ?_; (try clear K); (try clear ww); intro ww K; (try simp [go_sem] at K)
          go_wp2
          go_ret
          exact ⟨by rw [E.out]; rfl, K.below⟩
      · obtain rfl : n = k := by omega
        have E : Hid (decide (X = Y) = true) := Lib.hid (decide_eq_true (by have := he.out; rwa [Nat.mod_eq_of_lt hlx.out, Nat.mod_eq_of_lt hly.out] at this))
        clear he
        go_wp2
        go_ret
        exact ⟨by rw [E.out]; rfl, K.below⟩
  · have t0 : ((n : Int) != (m : Int)) = true := by simp; omega
    have E : Hid (decide (X = Y) = false) := Lib.hid (decide_eq_false (hx.ne_len hy hne).2)
    clear hx hy hne
    go_enter Try.func127, Try.ntmps127
    go_wp2
    go_ret
    exact ⟨by rw [E.out]; rfl, K.below⟩

theorem rlen {w : World} {A : Option Addr} {n c X k : Nat} (h : Rf w A n c X) (hX : X < 256 ^ k) : n ≤ k := Nat.le_trans (Nat.le_of_eq h.len) ((digs_len (by omega) X k).2 hX)
section
variable {B : Nat} {w0 w : World} {L : List Blk} {F : World → Prop}
theorem St.addR {A A2 : Option Addr} {n c X n2 c2 Y : Nat} (K : St B w0 L F w) (h1 : Rf w A n c X) (h2 : Rf w A2 n2 c2 Y) (b1 : n ≤ 1000000) (b2 : n2 ≤ 1000000) :
    Calls Try.prog 109 #[.slice A n c, .slice A2 n2 c2] w fun e w' => ∃ A k c, e = .returned (.slice A k c) ∧ St B w0 L (fun w => (Rf w A k c (X + Y) ∧ Nw B A) ∧ F w) w' := by
  refine (AddR _ _ _ _ _ _ _ _ w h1 h2 b1 b2).mono ?_
  rintro e w' ⟨A', k, c', rfl, ⟨hn, hA⟩, hb⟩
  exact ⟨A', k, c', rfl, K.madeRf hb hn hA⟩
end

end Go.Proofs.Yteancdipmpmjpaa
namespace Go.Proofs.Yteancdipmpmjpaa
open Go.RowKit
set_option maxRecDepth 100000
set_option linter.unusedVariables false

/-- The lowest k digits of 256 of x. -/
def byt (k x : Nat) : List Nat := (List.range k).map fun j => x / 256 ^ j % 256
theorem byt_succ (k x : Nat) : byt (k + 1) x = byt k x ++ [x / 256 ^ k % 256] := by simp [byt, List.range_succ]
theorem byt_four (x : Nat) (h : x < 4294967296) : val 256 (byt 4 x) = x := by
  simp only [byt, List.range_succ, List.range_zero, List.nil_append, List.map_cons, List.map_nil, List.cons_append, val]
  simp only [Nat.pow_zero, Nat.div_one, Nat.pow_one, Nat.reducePow]
  omega
theorem byt_len (k x : Nat) : (byt k x).length = k := by simp [byt]
theorem byt_lt (k x : Nat) : ∀ y ∈ byt k x, y < 256 := by
  intro y hy
  obtain ⟨j, _, rfl⟩ := List.mem_map.1 hy
  exact Nat.mod_lt _ (by omega)
def byts (l : List Nat) : List Nat := l.flatMap (byt 4)
theorem byts_snoc (l : List Nat) (x : Nat) : byts (l ++ [x]) = byts l ++ byt 4 x := by simp [byts]
theorem byts_len (l : List Nat) : (byts l).length = 4 * l.length := by
  induction l with
  | nil => rfl
  | cons x r ih =>
    have e : byts (x :: r) = byt 4 x ++ byts r := by simp [byts]
    rw [e, List.length_append, byt_len, ih, List.length_cons]; omega
theorem byts_lt (l : List Nat) : ∀ y ∈ byts l, y < 256 := by
  intro y hy
  obtain ⟨x, _, hx⟩ := List.mem_flatMap.1 hy
  exact byt_lt _ _ y hx
theorem byts_val (l : List Nat) (h : ∀ x ∈ l, x < 4294967296) : val 256 (byts l) = val 4294967296 l := by
  induction l with
  | nil => rfl
  | cons x r ih =>
    have e : byts (x :: r) = byt 4 x ++ byts r := by simp [byts]
    rw [e, val_append, byt_len, byt_four x (h x List.mem_cons_self), ih fun y hy => h y (List.mem_cons_of_mem _ hy), val]

set_option maxHeartbeats 2000000 in
theorem OfRr (A : Option Addr) (n c : Nat) (l : List Nat) (w : World) (h : Rd w A n (nums .u32 l)) (hn : n ≤ 100000) (hl : ∀ x ∈ l, x < 4294967296) :
    Calls Try.prog 98 #[.slice A n c] w fun e w' => ∃ A' k c', e = .returned (.slice A' k c') ∧ (Rf w' A' k c' (val 4294967296 l) ∧ Nw w.heap.size A') ∧ Below w.heap.size w w' := by
  have K := St.start w
  have HL := Lib.hid hl
  have H := Lib.hid h
  have HN : Hid (l.length = n) := Lib.hid (by rw [← h.1, nums_length])
  clear h hl
  go_enter Try.func98, Try.ntmps98
  go_wp2
  go_loopw [3, 4] (fun v i wr => ∃ (k : Nat) (L : List Blk), k ≤ n ∧ i = .int .i64 k ∧ Own v 3 (nums .i64 (byts (l.take k))) [] L ∧ St w.heap.size w L Any wr) (fun _ i _ => n - (intOf i).toNat)
  case atStart => exact ⟨0, [], Nat.zero_le _, rfl, Own.nil _ _, K⟩
  case round =>
    clear K
    obtain ⟨i, LL, hi, rfl, hO, K⟩ := hrel
    by_cases hlt : i < n
    · obtain ⟨b, off, rfl, hb, hc⟩ := H.out.get hlt
      have hv := hc i _ (nums_get .u32 _ i (by rw [HN.out]; exact hlt))
      have hil : i < l.length := by rw [HN.out]; exact hlt
      have hx : l.getD i 0 < 4294967296 := by
        rw [List.getD, List.getElem?_eq_getElem hil]
        exact HL.out _ (List.getElem_mem _)
      have hsn : Hid (l.take (i + 1) = l.take i ++ [l.getD i 0]) := Lib.hid (by
        rw [List.take_succ_eq_append_getElem hil, List.getD, List.getElem?_eq_getElem hil]; rfl)
      generalize l.getD i 0 = x at *
      have hol : (byts (l.take i)).length ≤ 400000 := by
        rw [byts_len, List.length_take]; omega
      generalize hp : l.take i = p at *
      clear hc hp
      have ht : decide (i < n) = true := decide_eq_true hlt
      go_wp2_with (first | go_big_skip | ((with_reducible refine at_load ?_); first | (refine wm_load (cs := ?_) (t := ?_) (n := ?_) K rfl _ _ rfl rfl ?_ ?_ ?_ ?_; rotate_left 2; (repeat (first | exact At.hd | refine At.tl ?_)); rotate_left; (with_reducible first | fail); (solve | exact rfl | simp)) | (refine wm_own (cs := ?_) (t := ?_) (v := ?_) K rfl _ _ rfl rfl ?_ ?_ ?_ ?_; rotate_left 2; (repeat (first | exact At.hd | refine At.tl ?_)); rotate_left; (first | exact rfl | assumption); (with_reducible first | exact one24)) | (refine wm_cell (v := ?_) rfl _ _ rfl rfl ?_ ?_ ?_; rotate_left; (first | assumption | exact (K.below.cell (by assumption)).trans (by assumption)); (with_reducible first | exact one24))) | ((with_reducible refine at_store ?_); first | (refine wm_store (L' := ?_) (cs := ?_) (t := ?_) (n := ?_) K rfl _ _ _ rfl rfl rfl rfl ?_ ?_ ?_ ?_ ?_ ?_; rotate_left 3; (repeat (first | exact Put.hd | (refine Put.tl (L' := ?_) ?_; rotate_left))); rotate_left; (with_reducible first | fail); (solve | exact rfl | simp); (solve | exact rfl | simp); (solve | exact rfl | simp [Ones, Value.oneCell']); (try clear K); (try clear ww); intro ww K; (try simp [go_sem] at K)) | (refine wm_put (L' := ?_) (cs := ?_) (new := ?_) (t := ?_) K rfl _ _ _ rfl rfl rfl rfl ?_ ?_ ?_ ?_ rfl rfl ?_; rotate_left 4; (repeat (first | exact Put.hd | (refine Put.tl (L' := ?_) ?_; rotate_left))); (solve | decide | (simp only [List.size_toArray, nums_length]; first | assumption | omega) | (simp only [List.size_toArray, nums_length, List.length_set]; first | assumption | omega) | simp | omega | (simp only [List.size_toArray, nums_length]; omega) | assumption); (solve | exact nums_set _ _ _ _ | simp only [List.setIfInBounds_toArray, List.set_cons_zero] | simp only [List.setIfInBounds_toArray, List.set_cons_zero, List.set_cons_succ] | (simp only [List.setIfInBounds_toArray, List.set_cons_zero, List.set_cons_succ]; exact rfl) | exact rfl); (with_reducible first | exact one24); (try clear K); (try clear ww); intro ww K; (try simp [go_sem] at K))))
      go_loopw [3, 5, 6] (fun v y j wr => ∃ (k : Nat) (L : List Blk), k ≤ 4 ∧ j = .int .i64 k ∧ y = .int .u32 ((x / 256 ^ k : Nat) : Int) ∧ Own v 3 (nums .i64 (byts p ++ byt k x)) [] L ∧ St w.heap.size w L Any wr) (fun _ _ j _ => 4 - (intOf j).toNat)
      case atStart => exact ⟨0, LL, by omega, rfl, by simp, by simpa [byt] using hO, K⟩
      case round =>
        clear K hO
        obtain ⟨k, LL, hk, rfl, rfl, hO, K⟩ := hrel
        by_cases hk4 : k < 4
        · have ht4 : decide ((k : Int) < 4) = true := decide_eq_true (by omega)
          have hsk : Hid (byt (k + 1) x = byt k x ++ [x / 256 ^ k % 256]) := Lib.hid (byt_succ k x)
          have hol2 : (byts p ++ byt k x).length ≤ 400004 := by rw [List.length_append, byt_len]; omega
          have hnx : Hid (x / 256 ^ (k + 1) = x / 256 ^ k / 256) := Lib.hid (by rw [Nat.pow_succ, Nat.div_div_eq_div_mul])
          have hzb : x / 256 ^ k ≤ 4294967295 := Nat.le_trans (Nat.div_le_self _ _) (by omega)
          generalize x / 256 ^ k = z at *
          generalize hq : byts p ++ byt k x = q at *
          have HQ := Lib.hid hq
          clear hq
          go_wp2_with (first | go_big_skip | ((with_reducible refine at_load ?_); first | (refine wm_load (cs := ?_) (t := ?_) (n := ?_) K rfl _ _ rfl rfl ?_ ?_ ?_ ?_; rotate_left 2; (repeat (first | exact At.hd | refine At.tl ?_)); rotate_left; (with_reducible first | fail); (solve | exact rfl | simp)) | (refine wm_own (cs := ?_) (t := ?_) (v := ?_) K rfl _ _ rfl rfl ?_ ?_ ?_ ?_; rotate_left 2; (repeat (first | exact At.hd | refine At.tl ?_)); rotate_left; (first | exact rfl | assumption); (with_reducible first | exact one24)) | (refine wm_cell (v := ?_) rfl _ _ rfl rfl ?_ ?_ ?_; rotate_left; (first | assumption | exact (K.below.cell (by assumption)).trans (by assumption)); (with_reducible first | exact one24))) | ((with_reducible refine at_store ?_); first | (refine wm_store (L' := ?_) (cs := ?_) (t := ?_) (n := ?_) K rfl _ _ _ rfl rfl rfl rfl ?_ ?_ ?_ ?_ ?_ ?_; rotate_left 3; (repeat (first | exact Put.hd | (refine Put.tl (L' := ?_) ?_; rotate_left))); rotate_left; (with_reducible first | fail); (solve | exact rfl | simp); (solve | exact rfl | simp); (solve | exact rfl | simp [Ones, Value.oneCell']); (try clear K); (try clear ww); intro ww K; (try simp [go_sem] at K)) | (refine wm_put (L' := ?_) (cs := ?_) (new := ?_) (t := ?_) K rfl _ _ _ rfl rfl rfl rfl ?_ ?_ ?_ ?_ rfl rfl ?_; rotate_left 4; (repeat (first | exact Put.hd | (refine Put.tl (L' := ?_) ?_; rotate_left))); (solve | decide | (simp only [List.size_toArray, nums_length]; first | assumption | omega) | (simp only [List.size_toArray, nums_length, List.length_set]; first | assumption | omega) | simp | omega | (simp only [List.size_toArray, nums_length]; omega) | assumption); (solve | exact nums_set _ _ _ _ | simp only [List.setIfInBounds_toArray, List.set_cons_zero] | simp only [List.setIfInBounds_toArray, List.set_cons_zero, List.set_cons_succ] | (simp only [List.setIfInBounds_toArray, List.set_cons_zero, List.set_cons_succ]; exact rfl) | exact rfl); (with_reducible first | exact one24); (try clear K); (try clear ww); intro ww K; (try simp [go_sem] at K))) | ((with_reducible refine at_bsl ?_); refine wm_one K rfl _ _ rfl Try.underlying102 num3 rfl ?_; (try clear K); (try clear ww); intro bb ww K; (try simp [go_sem] at K)) | ((with_reducible refine at_app ?_); refine wm_app K rfl _ _ _ rfl Try.underlying102 num3 rfl hO rfl rfl (by first | (simp only [nums_length]; omega) | omega) (by first | (simp only [nums_length]; unfold maxLen; omega) | (unfold maxLen; omega)) ?_; (try clear K hO); (try clear ww); intro v ww LL hO K))
          have hO' : Own v 3 (nums .i64 (byts p ++ byt (k + 1) x)) [] LL := by
            rw [hsk.out, ← List.append_assoc, HQ.out, ← nums_append]; exact hO
          exact ⟨⟨k + 1, LL, by omega, by go_num, by rw [hnx.out]; go_num, hO', K⟩, by simp [intOf]; omega⟩
        · obtain rfl : k = 4 := by omega
          rw [← byts_snoc] at hO
          have ho := Lib.hid hO
          clear hO
          go_wp2
          exact ⟨⟨i + 1, LL, by omega, by go_num, by rw [hsn.out]; exact ho.out, K⟩, by simp [intOf]; omega⟩
    · obtain rfl : n = i := by omega
      rw [List.take_of_length_le (by rw [HN.out]; omega)] at hO
      go_wp2_with fail
      refine (K.trimR hO (byts_lt l)).mono ?_
      rintro e w2 ⟨A', k', c', rfl, K2⟩
      rw [byts_val l HL.out] at K2
      have R := Lib.hid K2.fact.1
      have G := Lib.hid K2.below
      clear K K2 hO
      dsimp only
      go_wp2
      go_ret
      exact ⟨_, _, _, rfl, R.out, G.out⟩
end Go.Proofs.Yteancdipmpmjpaa
namespace Go.Proofs.Yteancdipmpmjpaa
open Go.RowKit
set_option maxRecDepth 100000
set_option linter.unusedVariables false

theorem getD_set_self (l : List Nat) (i x : Nat) (h : i < l.length) : (l.set i x).getD i 0 = x := by rw [List.getD, List.getElem?_set_self h]; rfl
theorem getD_set_other (l : List Nat) (i j x : Nat) (h : i ≠ j) : (l.set i x).getD j 0 = l.getD j 0 := by rw [List.getD, List.getD, List.getElem?_set_ne h]
theorem getD_of_all {l : List Nat} {B : Nat} (h : ∀ x ∈ l, x ≤ B) (i : Nat) : l.getD i 0 ≤ B := by
  rw [List.getD]
  rcases Nat.lt_or_ge i l.length with hi | hi
  · rw [List.getElem?_eq_getElem hi]; exact h _ (List.getElem_mem _)
  · rw [List.getElem?_eq_none hi]; exact Nat.zero_le _

/-- What the product's loops keep: all places' sums. -/
def ConvAt (X Y N m C i k : Nat) (o : List Nat) : Prop := o.length = N ∧ (∀ x ∈ o, x ≤ (i * m + k) * C) ∧ val 256 o = X % 256 ^ i * Y + 256 ^ i * (X / 256 ^ i % 256 * (Y % 256 ^ k))
theorem ConvAt.start (X Y N m C : Nat) : ConvAt X Y N m C 0 0 (List.replicate N 0) :=
  ⟨by simp, (fun x hx => by rw [(List.mem_replicate.1 hx).2]; omega), by rw [val_replicate]; simp [Nat.mod_one]⟩
theorem ConvAt.step {X Y N m C i k : Nat} {o : List Nat} (hC : 255 * 255 ≤ C) (h : ConvAt X Y N m C i k o) (hk : k < m) (hi : i + m ≤ N) :
    ConvAt X Y N m C i (k + 1) (o.set (i + k) (o.getD (i + k) 0 + X / 256 ^ i % 256 * (Y / 256 ^ k % 256))) := by
  obtain ⟨h1, h2, h3⟩ := h
  have x1 := Nat.mod_lt (X / 256 ^ i) (show 0 < 256 by omega)
  have y1 := Nat.mod_lt (Y / 256 ^ k) (show 0 < 256 by omega)
  have ey := mod_pow_step 256 Y k
  have hu := getD_of_all h2 (i + k)
  unfold ConvAt
  generalize X / 256 ^ i % 256 = x at *
  generalize Y / 256 ^ k % 256 = y at *
  have hs := fun z => val_set 256 o (i + k) z (by omega)
  have hxy : x * y ≤ 255 * 255 := Nat.mul_le_mul (by omega) (by omega)
  generalize o.getD (i + k) 0 = u at *
  have hb : (i * m + (k + 1)) * C = (i * m + k) * C + C := by rw [← Nat.add_assoc, Nat.add_mul, Nat.one_mul]
  refine ⟨by simp [h1], fun z hz => ?_, ?_⟩
  · rw [hb]
    generalize (i * m + k) * C = D at *
    rcases List.mem_or_eq_of_mem_set hz with hz | rfl
    · have := h2 z hz; omega
    · omega
  · have hs := hs (u + x * y)
    rw [Nat.mul_add] at hs
    have e3 : 256 ^ i * (x * (Y % 256 ^ (k + 1))) = 256 ^ i * (x * (Y % 256 ^ k)) + 256 ^ (i + k) * (x * y) := by
      rw [ey, Nat.mul_add, Nat.mul_add, Nat.pow_add]
      congr 1
      rw [Nat.mul_assoc, Nat.mul_left_comm x]
    rw [e3]
    omega
theorem ConvAt.row {X Y N m C i : Nat} {o : List Nat} (h : ConvAt X Y N m C i m o) (hY : Y < 256 ^ m) : ConvAt X Y N m C (i + 1) 0 o := by
  obtain ⟨h1, h2, h3⟩ := h
  have ex := mod_pow_step 256 X i
  refine ⟨h1, fun z hz => ?_, ?_⟩
  · rw [show (i + 1) * m + 0 = i * m + m by rw [Nat.add_mul, Nat.one_mul, Nat.add_zero]]; exact h2 z hz
  · rw [h3, ex, Nat.mod_eq_of_lt hY, Nat.add_mul, Nat.mul_assoc]; simp [Nat.mod_one]
/-- What the carrying keeps. -/
def CarAt (T N D i : Nat) (o : List Nat) : Prop := o.length = N ∧ val 256 o = T ∧ (∀ j, j < i → o.getD j 0 < 256) ∧ o.getD i 0 ≤ 2 * D ∧ ∀ j, i < j → o.getD j 0 ≤ D
theorem CarAt.step {T N D i : Nat} {o : List Nat} (h : CarAt T N D i o) (hi : i + 1 < N) :
    CarAt T N D (i + 1) ((o.set (i + 1) (o.getD (i + 1) 0 + o.getD i 0 / 256)).set i (o.getD i 0 % 256)) := by
  obtain ⟨h1, h2, h3, h4, h5⟩ := h
  have h6 := h5 (i + 1) (by omega)
  have s1 := val_set 256 o (i + 1) (o.getD (i + 1) 0 + o.getD i 0 / 256) (by omega)
  have s2 := val_set 256 (o.set (i + 1) (o.getD (i + 1) 0 + o.getD i 0 / 256)) i (o.getD i 0 % 256) (by rw [List.length_set]; omega)
  rw [getD_set_other _ _ _ _ (by omega)] at s2
  have hm := Nat.mod_add_div (o.getD i 0) 256
  have e1 : 256 ^ i * (o.getD i 0 % 256 + 256 * (o.getD i 0 / 256)) = 256 ^ i * o.getD i 0 := by rw [hm]
  rw [Nat.mul_add, ← Nat.mul_assoc, ← Nat.pow_succ, Nat.succ_eq_add_one] at e1
  rw [Nat.mul_add] at s1
  refine ⟨by simp [h1], by omega, fun j hj => ?_, ?_, fun j hj => ?_⟩
  · rcases Nat.lt_or_ge j i with hl | hl
    · rw [getD_set_other _ _ _ _ (by omega), getD_set_other _ _ _ _ (by omega)]; exact h3 j hl
    · obtain rfl : j = i := by omega
      rw [getD_set_self _ _ _ (by rw [List.length_set]; omega)]; exact Nat.mod_lt _ (by omega)
  · rw [getD_set_other _ _ _ _ (by omega), getD_set_self _ _ _ (by omega)]; omega
  · rw [getD_set_other _ _ _ _ (by omega), getD_set_other _ _ _ _ (by omega)]; exact h5 j (by omega)
theorem CarAt.done {T N D : Nat} {o : List Nat} (h : CarAt T (N + 1) D N o) (hT : T < 256 ^ N) : ∀ x ∈ o, x < 256 := by
  obtain ⟨h1, h2, h3, _, _⟩ := h
  have hd := val_take_drop 256 o N (by omega)
  rw [List.drop_eq_getElem_cons (by omega), List.drop_of_length_le (by omega)] at hd
  simp only [val, Nat.mul_zero, Nat.add_zero] at hd
  have h0 : o[N] = 0 := by
    rcases Nat.eq_zero_or_pos o[N] with h | h
    · exact h
    · have := Nat.mul_le_mul_left (256 ^ N) h; omega
  intro x hx
  obtain ⟨i, hi, rfl⟩ := List.mem_iff_getElem.1 hx
  rcases Nat.lt_or_ge i N with hl | hl
  · have := h3 i hl
    rwa [List.getD, List.getElem?_eq_getElem hi] at this
  · have : i = N := by omega
    subst this
    rw [h0]; omega

set_option maxHeartbeats 4000000 in
theorem MulR (A A2 : Option Addr) (n c m d X Y : Nat) (w : World) (hx : Rf w A n c X) (hy : Rf w A2 m d Y) (h1 : n ≤ 100000) (h2 : m ≤ 100000) :
    Calls Try.prog 62 #[.slice A n c, .slice A2 m d] w fun e w' => ∃ A' k c', e = .returned (.slice A' k c') ∧ (Rf w' A' k c' (X * Y) ∧ Nw w.heap.size A') ∧ Below w.heap.size w w' := by
  have K := St.start w
  have HX := Lib.hid hx
  have HY := Lib.hid hy
  clear hx hy
  obtain ⟨N, hN⟩ : ∃ N, N = n + m + 1 := ⟨_, rfl⟩
  have eN : (n : Int) + (m : Int) + 1 = (N : Int) := by omega
  have hNb : N ≤ 200001 := by omega
  have HN := Lib.hid hN
  clear hN
  go_enter Try.func62, Try.ntmps62
  go_wp2_with (first | ((with_reducible refine at_makeSl ?_); refine wm_make K rfl _ _ _ rfl Try.underlying102 num3 N rfl rfl (by omega) (by omega) (by omega) (by omega) ?_; (try clear K); (try clear ww); intro b1 ww K))
  go_loopw [6] (fun i wr => ∃ (k : Nat) (o : List Nat), k ≤ n ∧ i = .int .i64 k ∧ Hid (ConvAt X Y N m 65025 k 0 o) ∧ St w.heap.size w [(b1, (nums .i64 o).toArray, 3)] Any wr) (fun i _ => n - (intOf i).toNat)
  case atStart => exact ⟨0, _, Nat.zero_le _, rfl, Lib.hid (ConvAt.start _ _ _ _ _), K⟩
  case round =>
    clear K
    obtain ⟨i, o, hi, rfl, hs, K⟩ := hrel
    by_cases hlt : i < n
    · obtain ⟨b, off, rfl, hb, hv⟩ := HX.out.at hlt
      obtain ⟨x, hxx⟩ : ∃ x, x = X / 256 ^ i % 256 := ⟨_, rfl⟩
      rw [← hxx] at hv
      have HXX := Lib.hid hxx
      have x1 : x ≤ 255 := by have := Nat.mod_lt (X / 256 ^ i) (show 0 < 256 by omega); omega
      have ht : decide (i < n) = true := decide_eq_true hlt
      clear hxx
      go_wp2_with (first | go_big_skip | ((with_reducible refine at_load ?_); first | (refine wm_load (cs := ?_) (t := ?_) (n := ?_) K rfl _ _ rfl rfl ?_ ?_ ?_ ?_; rotate_left 2; (repeat (first | exact At.hd | refine At.tl ?_)); rotate_left; (with_reducible first | fail); (solve | exact rfl | simp)) | (refine wm_own (cs := ?_) (t := ?_) (v := ?_) K rfl _ _ rfl rfl ?_ ?_ ?_ ?_; rotate_left 2; (repeat (first | exact At.hd | refine At.tl ?_)); rotate_left; (first | exact rfl | assumption); (with_reducible first | exact one3)) | (refine wm_cell (v := ?_) rfl _ _ rfl rfl ?_ ?_ ?_; rotate_left; (first | assumption | exact (K.below.cell (by assumption)).trans (by assumption)); (with_reducible first | exact one3))) | ((with_reducible refine at_store ?_); first | (refine wm_store (L' := ?_) (cs := ?_) (t := ?_) (n := ?_) K rfl _ _ _ rfl rfl rfl rfl ?_ ?_ ?_ ?_ ?_ ?_; rotate_left 3; (repeat (first | exact Put.hd | (refine Put.tl (L' := ?_) ?_; rotate_left))); rotate_left; (with_reducible first | fail); (solve | exact rfl | simp); (solve | exact rfl | simp); (solve | exact rfl | simp [Ones, Value.oneCell']); (try clear K); (try clear ww); intro ww K; (try simp [go_sem] at K)) | (refine wm_put (L' := ?_) (cs := ?_) (new := ?_) (t := ?_) K rfl _ _ _ rfl rfl rfl rfl ?_ ?_ ?_ ?_ rfl rfl ?_; rotate_left 4; (repeat (first | exact Put.hd | (refine Put.tl (L' := ?_) ?_; rotate_left))); (solve | decide | (simp only [List.size_toArray, nums_length]; first | assumption | omega) | (simp only [List.size_toArray, nums_length, List.length_set]; first | assumption | omega) | simp | omega | (simp only [List.size_toArray, nums_length]; omega) | assumption); (solve | exact nums_set _ _ _ _ | simp only [List.setIfInBounds_toArray, List.set_cons_zero] | simp only [List.setIfInBounds_toArray, List.set_cons_zero, List.set_cons_succ] | (simp only [List.setIfInBounds_toArray, List.set_cons_zero, List.set_cons_succ]; exact rfl) | exact rfl); (with_reducible first | exact one3); (try clear K); (try clear ww); intro ww K; (try simp [go_sem] at K))))
      go_loopw [7] (fun j wr => ∃ (k : Nat) (o : List Nat), k ≤ m ∧ j = .int .i64 k ∧ Hid (ConvAt X Y N m 65025 i k o) ∧ St w.heap.size w [(b1, (nums .i64 o).toArray, 3)] Any wr) (fun j _ => m - (intOf j).toNat)
      case atStart => exact ⟨0, o, Nat.zero_le _, rfl, hs, K⟩
      case round =>
        clear K hs
        obtain ⟨k, o, hk, rfl, hs, K⟩ := hrel
        by_cases hlk : k < m
        · obtain ⟨b', off', rfl, hb', hv'⟩ := HY.out.at hlk
          have st := hs.out.step (Nat.le_refl _) hlk (by rw [HN.out]; omega)
          rw [← HXX.out] at st
          have y1 := Nat.mod_lt (Y / 256 ^ k) (show 0 < 256 by omega)
          generalize Y / 256 ^ k % 256 = y at *
          have ol : i + k < o.length := by rw [hs.out.1, HN.out]; omega
          have hcell := nums_at .i64 o (i + k) ol
          have u1 := getD_of_all hs.out.2.1 (i + k)
          have him : i * m + k ≤ 20000000000 := by have := Nat.mul_le_mul (show i ≤ 100000 by omega) h2; omega
          have u2 : o.getD (i + k) 0 ≤ 1400000000000000 := Nat.le_trans u1 (Nat.le_trans (Nat.mul_le_mul_right 65025 him) (by omega))
          generalize o.getD (i + k) 0 = u at *
          have ST := Lib.hid st
          have xy : x * y ≤ 255 * 255 := Nat.mul_le_mul x1 (by omega)
          have xy' : (x : Int) * (y : Int) ≤ 65025 := by rw [← Int.natCast_mul]; omega
          have xy0 : (0 : Int) ≤ (x : Int) * (y : Int) := by rw [← Int.natCast_mul]; omega
          have hlt' : ((i + k : Nat) : Int) < (N : Int) := by rw [HN.out]; omega
          have i1 : (i : Int) + (k : Int) < (N : Int) := by omega
          have i2 : (0 : Int) ≤ (i : Int) + (k : Int) := by omega
          have i3 : ((i : Int) + (k : Int)).toNat = i + k := by omega
          have i4 : (i : Int) < (n : Int) := by omega
          have i5 : (k : Int) < (m : Int) := by omega
          have e1 : IntKind.i64.wrap ((i : Int) + (k : Int)) = (i : Int) + (k : Int) := IntWalk.i64_in _ (by omega)
          have e2 : IntKind.i64.wrap (i : Int) = (i : Int) := IntWalk.i64_in _ (by omega)
          have e3 : IntKind.i64.wrap (k : Int) = (k : Int) := IntWalk.i64_in _ (by omega)
          have e4 : IntKind.i64.wrap ((x : Int) * (y : Int)) = (x : Int) * (y : Int) := IntWalk.i64_in _ (by omega)
          have e5 : IntKind.i64.wrap ((u : Int) + (x : Int) * (y : Int)) = ((u + x * y : Nat) : Int) := (IntWalk.i64_in _ (by omega)).trans (by rw [Int.natCast_add, Int.natCast_mul])
          have ht' : decide (k < m) = true := decide_eq_true hlk
          clear st hs xy u1 him
          go_wp2_with fail
          refine wm_region_tail 21 K (by kernel_rfl) (by kernel_rfl) ?_; simp only [List.take_succ_cons, List.take_zero, List.drop_succ_cons, List.drop_zero]
          repeat (first | ((with_reducible refine qt_load ?_); first | (refine wn_load (cs := ?_) (t := ?_) (n := ?_) rfl _ _ rfl rfl ?_ ?_ ?_ ?_; rotate_left 2; (repeat (first | exact At.hd | refine At.tl ?_)); rotate_left; (with_reducible first | fail); (solve | exact rfl | simp)) | (refine wn_own (cs := ?_) (t := ?_) (v := ?_) rfl _ _ rfl rfl ?_ ?_ ?_ ?_; rotate_left 2; (repeat (first | exact At.hd | refine At.tl ?_)); rotate_left; (first | exact rfl | assumption); (with_reducible first | exact one3)) | (refine wn_cell (v := ?_) rfl _ _ rfl rfl (fun ww K => ?_) ?_ ?_; rotate_left; (first | assumption | exact (K.below.cell (by assumption)).trans (by assumption)); (with_reducible first | exact one3))) | (quiet_step ((intro _; rfl))))
          refine wpQuiet_nil ?_; (try clear K); (try clear ww); intro ww K; (try simp [go_sem] at K)
          clear e1 e2 e3 e4 e5 i1 i2 i3 i4 i5 hlt' xy' xy0
          go_wp2_with (first | go_big_skip | ((with_reducible refine at_load ?_); first | (refine wm_load (cs := ?_) (t := ?_) (n := ?_) K rfl _ _ rfl rfl ?_ ?_ ?_ ?_; rotate_left 2; (repeat (first | exact At.hd | refine At.tl ?_)); rotate_left; (with_reducible first | fail); (solve | exact rfl | simp)) | (refine wm_own (cs := ?_) (t := ?_) (v := ?_) K rfl _ _ rfl rfl ?_ ?_ ?_ ?_; rotate_left 2; (repeat (first | exact At.hd | refine At.tl ?_)); rotate_left; (first | exact rfl | assumption); (with_reducible first | exact one3)) | (refine wm_cell (v := ?_) rfl _ _ rfl rfl ?_ ?_ ?_; rotate_left; (first | assumption | exact (K.below.cell (by assumption)).trans (by assumption)); (with_reducible first | exact one3))) | ((with_reducible refine at_store ?_); first | (refine wm_store (L' := ?_) (cs := ?_) (t := ?_) (n := ?_) K rfl _ _ _ rfl rfl rfl rfl ?_ ?_ ?_ ?_ ?_ ?_; rotate_left 3; (repeat (first | exact Put.hd | (refine Put.tl (L' := ?_) ?_; rotate_left))); rotate_left; (with_reducible first | fail); (solve | exact rfl | simp); (solve | exact rfl | simp); (solve | exact rfl | simp [Ones, Value.oneCell']); (try clear K); (try clear ww); intro ww K; (try simp [go_sem] at K)) | (refine wm_put (L' := ?_) (cs := ?_) (new := ?_) (t := ?_) K rfl _ _ _ rfl rfl rfl rfl ?_ ?_ ?_ ?_ rfl rfl ?_; rotate_left 4; (repeat (first | exact Put.hd | (refine Put.tl (L' := ?_) ?_; rotate_left))); (solve | decide | (simp only [List.size_toArray, nums_length]; first | assumption | omega) | (simp only [List.size_toArray, nums_length, List.length_set]; first | assumption | omega) | simp | omega | (simp only [List.size_toArray, nums_length]; omega) | assumption); (solve | exact nums_set _ _ _ _ | simp only [List.setIfInBounds_toArray, List.set_cons_zero] | simp only [List.setIfInBounds_toArray, List.set_cons_zero, List.set_cons_succ] | (simp only [List.setIfInBounds_toArray, List.set_cons_zero, List.set_cons_succ]; exact rfl) | exact rfl); (with_reducible first | exact one3); (try clear K); (try clear ww); intro ww K; (try simp [go_sem] at K))))
          exact ⟨⟨k + 1, _, by omega, by go_num, ST, K⟩, by simp [intOf]; omega⟩
        · obtain rfl : m = k := by omega
          have st := Lib.hid (hs.out.row HY.out.lim)
          clear hs
          go_wp2
          exact ⟨⟨i + 1, o, by omega, by go_num, st, K⟩, by simp [intOf]; omega⟩
    · obtain rfl : n = i := by omega
      have hD : n * m * 65025 ≤ 650250000000000 := by
        have := Nat.mul_le_mul h1 h2
        exact Nat.le_trans (Nat.mul_le_mul_right 65025 this) (by omega)
      have hvX : Hid (val 256 o = X * Y) := Lib.hid (by
        have := hs.out.2.2
        rw [Nat.mod_eq_of_lt HX.out.lim] at this
        simpa [Nat.mod_one] using this)
      have hall : ∀ x ∈ o, x ≤ n * m * 65025 := hs.out.2.1
      have hcar : Hid (CarAt (X * Y) N (n * m * 65025) 0 o) := Lib.hid ⟨hs.out.1, hvX.out, fun j hj => absurd hj (by omega), Nat.le_trans (getD_of_all hall 0) (by omega), fun j _ => getD_of_all hall j⟩
      have hXY : Hid (X * Y < 256 ^ (n + m)) := Lib.hid (by rw [Nat.pow_add]; exact Nat.mul_lt_mul'' HX.out.lim HY.out.lim)
      generalize n * m * 65025 = D at *
      clear hs hall hvX
      go_wp2
      go_loopw [8] (fun i wr => ∃ (k : Nat) (o : List Nat), k + 1 ≤ N ∧ i = .int .i64 k ∧ Hid (CarAt (X * Y) N D k o) ∧ St w.heap.size w [(b1, (nums .i64 o).toArray, 3)] Any wr) (fun i _ => N - (intOf i).toNat)
      case atStart => exact ⟨0, o, by rw [HN.out]; omega, rfl, hcar, K⟩
      case round =>
        clear K hcar
        obtain ⟨k, o, hk, rfl, hs, K⟩ := hrel
        by_cases hlk : k + 1 < N
        · have st := hs.out.step hlk
          have ol : k < o.length := by rw [hs.out.1]; omega
          have ol1 : k + 1 < o.length := by rw [hs.out.1]; exact hlk
          have c0 := nums_at .i64 o k ol
          have c1 := nums_at .i64 o (k + 1) ol1
          have u0 := hs.out.2.2.2.1
          have u1 := hs.out.2.2.2.2 (k + 1) (by omega)
          obtain ⟨p, hp⟩ : ∃ p, p = o.getD k 0 := ⟨_, rfl⟩
          obtain ⟨q, hq⟩ : ∃ q, q = o.getD (k + 1) 0 := ⟨_, rfl⟩
          have cp : Hid ((o.set (k + 1) (q + p / 256)).getD k 0 = p) := Lib.hid (by rw [getD_set_other _ _ _ _ (by omega), hp])
          rw [← hp] at st c0 u0
          rw [← hq] at st c1 u1
          have c2 := nums_at .i64 (o.set (k + 1) (q + p / 256)) k (by rw [List.length_set]; exact ol)
          rw [cp.out] at c2
          have ST := Lib.hid st
          have t1 : decide ((k : Int) + 1 < (N : Int)) = true := decide_eq_true (by omega)
          have i1 : (k : Int) + 1 < (N : Int) := by omega
          have i2 : (0 : Int) ≤ (k : Int) + 1 := by omega
          have i3 : ((k : Int) + 1).toNat = k + 1 := by omega
          have i4 : (k : Int) < (N : Int) := by omega
          have e1 : IntKind.i64.wrap ((k : Int) + 1) = (k : Int) + 1 := IntWalk.i64_in _ (by omega)
          have e2 : IntKind.i64.wrap (k : Int) = (k : Int) := IntWalk.i64_in _ (by omega)
          have e4 : (p : Int).tdiv 256 = (p : Int) / 256 := Int.tdiv_eq_ediv_of_nonneg (by omega)
          have e6 : IntKind.i64.wrap ((p : Int) / 256) = (p : Int) / 256 := IntWalk.i64_in _ (by omega)
          have e5 : IntKind.i64.wrap ((q : Int) + (p : Int) / 256) = (q : Int) + (p : Int) / 256 := IntWalk.i64_in _ (by omega)
          clear st hs hp hq
          go_wp2_with fail
          refine wm_region_tail 15 K (by kernel_rfl) (by kernel_rfl) ?_; simp only [List.take_succ_cons, List.take_zero, List.drop_succ_cons, List.drop_zero]
          repeat (first | ((with_reducible refine qt_load ?_); first | (refine wn_load (cs := ?_) (t := ?_) (n := ?_) rfl _ _ rfl rfl ?_ ?_ ?_ ?_; rotate_left 2; (repeat (first | exact At.hd | refine At.tl ?_)); rotate_left; (with_reducible first | fail); (solve | exact rfl | simp)) | (refine wn_own (cs := ?_) (t := ?_) (v := ?_) rfl _ _ rfl rfl ?_ ?_ ?_ ?_; rotate_left 2; (repeat (first | exact At.hd | refine At.tl ?_)); rotate_left; (first | exact rfl | assumption); (with_reducible first | exact one3)) | (refine wn_cell (v := ?_) rfl _ _ rfl rfl (fun ww K => ?_) ?_ ?_; rotate_left; (first | assumption | exact (K.below.cell (by assumption)).trans (by assumption)); (with_reducible first | exact one3))) | (quiet_step ((intro _; rfl))))
          refine wpQuiet_nil ?_; (try clear K); (try clear ww); intro ww K; (try simp [go_sem] at K)
          clear e1 e2 e4 e5 e6
          go_wp2_with (first | go_big_skip | ((with_reducible refine at_load ?_); first | (refine wm_load (cs := ?_) (t := ?_) (n := ?_) K rfl _ _ rfl rfl ?_ ?_ ?_ ?_; rotate_left 2; (repeat (first | exact At.hd | refine At.tl ?_)); rotate_left; (with_reducible first | fail); (solve | exact rfl | simp)) | (refine wm_own (cs := ?_) (t := ?_) (v := ?_) K rfl _ _ rfl rfl ?_ ?_ ?_ ?_; rotate_left 2; (repeat (first | exact At.hd | refine At.tl ?_)); rotate_left; (first | exact rfl | assumption); (with_reducible first | exact one3)) | (refine wm_cell (v := ?_) rfl _ _ rfl rfl ?_ ?_ ?_; rotate_left; (first | assumption | exact (K.below.cell (by assumption)).trans (by assumption)); (with_reducible first | exact one3))) | ((with_reducible refine at_store ?_); first | (refine wm_store (L' := ?_) (cs := ?_) (t := ?_) (n := ?_) K rfl _ _ _ rfl rfl rfl rfl ?_ ?_ ?_ ?_ ?_ ?_; rotate_left 3; (repeat (first | exact Put.hd | (refine Put.tl (L' := ?_) ?_; rotate_left))); rotate_left; (with_reducible first | fail); (solve | exact rfl | simp); (solve | exact rfl | simp); (solve | exact rfl | simp [Ones, Value.oneCell']); (try clear K); (try clear ww); intro ww K; (try simp [go_sem] at K)) | (refine wm_put (L' := ?_) (cs := ?_) (new := ?_) (t := ?_) K rfl _ _ _ rfl rfl rfl rfl ?_ ?_ ?_ ?_ rfl rfl ?_; rotate_left 4; (repeat (first | exact Put.hd | (refine Put.tl (L' := ?_) ?_; rotate_left))); (solve | decide | (simp only [List.size_toArray, nums_length]; first | assumption | omega) | (simp only [List.size_toArray, nums_length, List.length_set]; first | assumption | omega) | simp | omega | (simp only [List.size_toArray, nums_length]; omega) | assumption); (solve | exact nums_set _ _ _ _ | simp only [List.setIfInBounds_toArray, List.set_cons_zero] | simp only [List.setIfInBounds_toArray, List.set_cons_zero, List.set_cons_succ] | (simp only [List.setIfInBounds_toArray, List.set_cons_zero, List.set_cons_succ]; exact rfl) | exact rfl); (with_reducible first | exact one3); (try clear K); (try clear ww); intro ww K; (try simp [go_sem] at K))))
          exact ⟨⟨k + 1, _, by omega, by go_num, ST, K⟩, by simp [intOf]; omega⟩
        · have t1 : decide ((k : Int) + 1 < (N : Int)) = false := decide_eq_false (by omega)
          have hkN : Hid (N = k + 1) := Lib.hid (by omega)
          have hkn : k = n + m := by have := HN.out; omega
          have hl := Lib.hid ((show CarAt (X * Y) (n + m + 1) D (n + m) o by rw [← hkn, ← hkN.out]; exact hs.out).done hXY.out)
          have hv := Lib.hid hs.out.2.1
          have hO : Own (.slice (some ⟨b1, 0, none⟩) N N) 3 (nums .i64 o) [] [(b1, (nums .i64 o).toArray, 3)] := .inr ⟨b1, N, _, by rw [nums_length, hs.out.1], by rw [nums_length, hs.out.1]; exact Nat.le_refl _, by omega, by simp [nums_length, hs.out.1], by simp, rfl⟩
          clear hs hkn
          go_wp2_with fail
          refine (K.trimR hO hl.out).mono ?_
          rintro e w2 ⟨A', k', c', rfl, K2⟩
          rw [hv.out] at K2
          have R := Lib.hid K2.fact.1
          have G := Lib.hid K2.below
          clear K K2 hO
          dsimp only
          go_wp2
          go_ret
          exact ⟨_, _, _, rfl, R.out, G.out⟩
end Go.Proofs.Yteancdipmpmjpaa
namespace Go.Proofs.Yteancdipmpmjpaa
open Go.RowKit
set_option linter.unusedVariables false
set_option exponentiation.threshold 2000

/-- Numbers that the laws meet are less. -/
def Big : Nat := 4294967296 ^ 200
theorem lt_big {X m : Nat} (h : X < 4294967296 ^ m) (hm : m ≤ 200) : X < Big := Nat.lt_of_lt_of_le h (Nat.pow_le_pow_right (by omega) hm)
theorem Nt.big {w : World} {A : Option Addr} {n c X : Nat} (h : Nt w A n c X) (hX : X < Big) : n ≤ 200 := Go.Proofs.Yteancdipmpmjpaa.len_le (k := 200) _ hX h.len
theorem Rf.big {w : World} {A : Option Addr} {n c X : Nat} (h : Rf w A n c X) (hX : X < Big) : n ≤ 800 := rlen h (by unfold Big at hX; rwa [show (4294967296 : Nat) = 256 ^ 4 from rfl, ← Nat.pow_mul] at hX)
section
variable {B : Nat} {w0 w : World} {L : List Blk} {F : World → Prop}
theorem St.mulRB {A A2 : Option Addr} {n c X n2 c2 Y : Nat} (K : St B w0 L F w) (h1 : Rf w A n c X) (h2 : Rf w A2 n2 c2 Y) (b1 : X < Big) (b2 : Y < Big) :
    Calls Try.prog 62 #[.slice A n c, .slice A2 n2 c2] w fun e w' => ∃ A k c, e = .returned (.slice A k c) ∧ St B w0 L (fun w => (Rf w A k c (X * Y) ∧ Nw B A) ∧ F w) w' := by
  refine (MulR _ _ _ _ _ _ _ _ w h1 h2 (by have := h1.big b1; omega) (by have := h2.big b2; omega)).mono ?_
  rintro e w' ⟨A', k, c', rfl, ⟨hn, hA⟩, hb⟩
  exact ⟨A', k, c', rfl, K.madeRf hb hn hA⟩
theorem Less_lit {A A2 : Option Addr} {n c m d X Y : Nat} {t : Bool} {w : World} (hx : Rf w A n c X) (hy : Rf w A2 m d Y) (b1 : X < Big) (b2 : Y < Big) (ht : decide (X < Y) = t) :
    Calls Try.prog 108 #[.slice A n c, .slice A2 m d] w fun e w' => e = .returned (.bool t) ∧ Below w.heap.size w w' := by
  subst ht
  exact LessR _ _ _ _ _ _ _ _ w hx hy (by have := hx.big b1; omega) (by have := hy.big b2; omega)
end
end Go.Proofs.Yteancdipmpmjpaa
namespace Go.Proofs.Yteancdipmpmjpaa
open Go.RowKit
attribute [local irreducible] wpHeld wpTree wpList
set_option linter.unusedVariables false
theorem digs_split {l : List Nat} {m X : Nat} (h : l ++ digs 256 m = digs 256 X) (hm : m ≠ 0) : (l ++ [m % 256]) ++ digs 256 (m / 256) = digs 256 X := by
  rw [← h, digs_pos (by omega) hm, List.append_assoc]
  rfl
set_option maxRecDepth 100000
section
variable {B : Nat} {w0 w : World} {L : List Blk} {F : World → Prop}
end
theorem lit40 : (1099511627776 : Int) = ((1099511627776 : Nat) : Int) := rfl
theorem lit0 : (0 : Int) = ((0 : Nat) : Int) := rfl
theorem big_of {X : Nat} (h : X < 4294967296 ^ 6) : X < Big := lt_big h (by omega)
section
variable {B : Nat} {w0 w : World} {L : List Blk} {F : World → Prop}
end
end Go.Proofs.Yteancdipmpmjpaa
