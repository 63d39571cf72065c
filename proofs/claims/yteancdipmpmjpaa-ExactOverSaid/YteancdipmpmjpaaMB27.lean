/-
  Lemmas and walks of this claim (the texts Dl17 Do17 Dk17 Dm17 of the work; what no proof here uses is left out). No claim of their own.
-/
import Derived.Test.YteancdipmpmjpaaMB26
import Derived.Test.YteancdipmpmjpaaMB23
set_option linter.all false
set_option linter.unusedSimpArgs false
set_option linter.unusedVariables false
namespace Go.Proofs.Yteancdipmpmjpaa
open Go.RowKit
attribute [local irreducible] wpHeld wpTree wpList
set_option linter.unusedVariables false
section
variable {B : Nat} {w0 w : World} {Lb : List Blk} {F : World → Prop}
theorem St.passR17 {qq : Nat} {dx dy : Int} {p q : Nat} {L R : Nat → Nat} {A : Option Addr} {n c M : Nat} {xs : List Nat} (K : St B w0 Lb F w) (hL : (Lb.all fun p => p.2.2 != 3) = true) (h : Fr w A n xs) (hB : ∀ x ∈ xs, x < M) (hM0 : 0 < M) (hM : M * 256 < Big) (hn : q * p = n) (hp : 1 ≤ p ∧ p ≤ 64) (hq : 1 ≤ q ∧ q ≤ 64) (hqq : qq ≤ 85) (hdx : 0 ≤ dx ∧ dx ≤ 1) (hdy : 0 ≤ dy ∧ dy ≤ 1)
    (hLR : ∀ k, k < n → (clI (((k / p : Nat) : Int) - dy) q * p + clI (((k % p : Nat) : Int) - dx) p = (L k : Int) ∧ L k < n) ∧ (clI (((k / p : Nat) : Int) + dy) q * p + clI (((k % p : Nat) : Int) + dx) p = (R k : Int) ∧ R k < n)) :
    Calls Try.prog 128 #[.agg #[.int .i64 p, .int .i64 q, .slice A n c], .int .u64 qq, .int .i64 dx, .int .i64 dy] w fun e w' => ∃ A2 c2, e = .returned (.agg #[.int .i64 p, .int .i64 q, .slice A2 n c2]) ∧ Nw B A2 ∧ St B w0 Lb (fun w => Fr w A2 n (spr17 n qq L R xs) ∧ F w) w' := by
  refine (RPass17 qq dx dy p q L R A n c M xs w h hB hM0 hM hn hp hq hqq hdx hdy hLR).mono ?_
  rintro e w' ⟨A2, c2, rfl, ⟨h2, hA⟩, hbel⟩
  exact ⟨A2, c2, rfl, hA.mono K.size, K.madeFr (noT_of hL) hbel h2 hA⟩
end
set_option maxRecDepth 100000 in
theorem RSpread17 (p q qq n c M : Nat) (A : Option Addr) (xs : List Nat) (w : World) (h : Fr w A n xs) (hB : ∀ x ∈ xs, x < M) (hM0 : 0 < M) (hM : 256 * M * 256 < Big) (hn : q * p = n) (hp : 1 ≤ p ∧ p ≤ 64) (hq : 1 ≤ q ∧ q ≤ 64) (hqq : qq ≤ 85) :
    Calls Try.prog 101 #[.agg #[.int .i64 p, .int .i64 q, .slice A n c], .int .u64 qq] w fun e w' => ∃ A2 c2, e = .returned (.agg #[.int .i64 p, .int .i64 q, .slice A2 n c2]) ∧ (Fr w' A2 n (sprd17 p q qq xs) ∧ Nw w.heap.size A2) ∧ Below w.heap.size w w' := by
  have K := St.start w
  unfold sprd17
  rw [hn]
  have HR := Lib.hid h
  have hM1 : M * 256 < Big := by omega
  have P1 := Lib.hid (fun (B : Nat) (w0 : World) (L : List Blk) (F : World → Prop) (w : World) (K : St B w0 L F w) (hL : (L.all fun p => p.2.2 != 3) = true) (h : Fr w A n xs) => K.passR17 (qq := qq) (dx := 1) (dy := 0) (c := c) (L := rowA p) (R := rowB p) hL h hB hM0 hM1 hn hp hq hqq (by omega) (by omega) (fun k hk => (near_ix hn hp.1 hq.1 hk).1))
  have P2 := Lib.hid (fun (B : Nat) (w0 : World) (L : List Blk) (F : World → Prop) (A : Option Addr) (c : Nat) (w : World) (K : St B w0 L F w) (hL : (L.all fun p => p.2.2 != 3) = true) (h : Fr w A n (spr17 n qq (rowA p) (rowB p) xs)) => K.passR17 (qq := qq) (dx := 0) (dy := 1) (c := c) (L := colA p) (R := colB p q) hL h (spr17_lt hqq hB hM0) (by omega) hM hn hp hq hqq (by omega) (by omega) (fun k hk => (near_ix hn hp.1 hq.1 hk).2))
  clear h hB hM0 hM hM1 hn hp hq hqq
  go_enter Try.func101, Try.ntmps101
  go_wp2_with (first|go_big_skip|((with_reducible refine at_load ?_);first|(refine wm_load (cs := ?_) (t := ?_) (n := ?_) K rfl _ _ rfl rfl ?_ ?_ ?_ ?_;rotate_left 2;(repeat (first|exact At.hd|refine At.tl ?_));rotate_left;(with_reducible first|exact row88);(solve|exact rfl|simp))|(refine wm_own (cs := ?_) (t := ?_) (v := ?_) K rfl _ _ rfl rfl ?_ ?_ ?_ ?_;rotate_left 2;(repeat (first|exact At.hd|refine At.tl ?_));rotate_left;(first|exact rfl|assumption);(with_reducible first|exact one3))|(refine wm_cell (v := ?_) rfl _ _ rfl rfl ?_ ?_ ?_;rotate_left;(first|assumption|exact (K.below.cell (by assumption)).trans (by assumption));(with_reducible first|exact one3)))|((with_reducible refine at_store ?_);first|(refine wm_store (L' := ?_) (cs := ?_) (t := ?_) (n := ?_) K rfl _ _ _ rfl rfl rfl rfl ?_ ?_ ?_ ?_ ?_ ?_;rotate_left 3;(repeat (first|exact Put.hd|(refine Put.tl (L' := ?_) ?_;rotate_left)));rotate_left;(with_reducible first|exact row88);(solve|exact rfl|simp);(solve|exact rfl|simp);(solve|exact rfl|simp [Ones, Value.oneCell']);(try clear K);(try clear ww);intro ww K;(try simp [go_sem] at K))|(refine wm_put (L' := ?_) (cs := ?_) (new := ?_) (t := ?_) K rfl _ _ _ rfl rfl rfl rfl ?_ ?_ ?_ ?_ rfl rfl ?_;rotate_left 4;(repeat (first|exact Put.hd|(refine Put.tl (L' := ?_) ?_;rotate_left)));(solve|exact Nat.le_of_ble_eq_true rfl|decide|(simp only [List.size_toArray, nums_length];first|assumption|omega)|(simp only [List.size_toArray, nums_length, List.length_set];first|assumption|omega)|simp|omega|(simp only [List.size_toArray, nums_length];omega)|assumption);(solve|(simp only [List.setIfInBounds_toArray];exact rfl)|exact nums_set _ _ _ _|simp only [List.setIfInBounds_toArray, List.set_cons_zero]|simp only [List.setIfInBounds_toArray, List.set_cons_zero, List.set_cons_succ]|(simp only [List.setIfInBounds_toArray, List.set_cons_zero, List.set_cons_succ];exact rfl)|exact rfl);(with_reducible first|exact one3);(try clear K);(try clear ww);intro ww K;(try simp [go_sem] at K)))|(first|((with_reducible refine at_box ?_);refine wm_box K rfl _ _ rfl rfl rfl ?_;(try clear K);(try clear ww);(first|((fail_if_success (have _h := r1));intro r1 ww K)|((fail_if_success (have _h := r2));intro r2 ww K));(try simp [go_sem, Value.cells] at K))|((with_reducible refine at_alloc ?_);refine wm_alloc (v := ?_) (cs := ?_) K rfl _ rfl ?_ ?_ ?_;rotate_left;(with_reducible first|exact zero88);rotate_left;exact rfl;(try clear K);(try clear ww);(first|((fail_if_success (have _h := r1));intro r1 ww K)|((fail_if_success (have _h := r2));intro r2 ww K));(try simp [go_sem, Value.cells] at K)))|(go_at_call 128;(first|(have zz := P1.out _ _ _ _ _ K rfl (HR.out.below K.below);(with_reducible refine zz.mono ?_);clear zz;rintro e w2 ⟨A2, c2, rfl, hA2, K2⟩)|(have zz := (fun c => P2.out _ _ _ _ _ c _ K rfl K.fact.1);(with_reducible refine (zz _).mono ?_);clear zz;rintro e w2 ⟨A3, c3, rfl, hA3, K2⟩));(try dsimp only);replace K := K2;clear K2;(try clear ww);revert w2;intro ww K))
  refine bodyPost_ret (K.res rfl _ rfl At.hd (by (with_reducible first | exact row88)) (by (solve | exact rfl | simp))) rfl ?_
  exact ⟨A3, c3, rfl, ⟨K.fact.1, hA3⟩, K.below⟩
/-- What the loop of a difference keeps: the digits gathered, and what is borrowed. -/
def BorAt (b X Y k : Nat) (o : List Nat) (z : Nat) : Prop := o.length = k ∧ (∀ x ∈ o, x < b) ∧ z ≤ 1 ∧ val b o + Y % b ^ k = X % b ^ k + b ^ k * z
theorem BorAt.start (b X Y : Nat) : BorAt b X Y 0 [] 0 := ⟨rfl, (fun x hx => by cases hx), by omega, by simp [val, Nat.mod_one]⟩
theorem BorAt.step {b X Y k z dd z2 : Nat} {o : List Nat} (h : BorAt b X Y k o z) (hd : dd < b) (hz2 : z2 ≤ 1) (he : dd + Y / b ^ k % b + z = X / b ^ k % b + b * z2) : BorAt b X Y (k + 1) (o ++ [dd]) z2 := by
  obtain ⟨h1, h2, h4, h5⟩ := h
  have ex := mod_pow_step b X k
  have ey := mod_pow_step b Y k
  generalize X / b ^ k % b = x at *
  generalize Y / b ^ k % b = y at *
  refine ⟨by simp [h1], fun u hu => ?_, hz2, ?_⟩
  · rcases List.mem_append.1 hu with hu | hu
    · exact h2 u hu
    · rw [List.mem_singleton.1 hu]; exact hd
  · have e2 := congrArg (fun t => b ^ k * t) he
    simp only [Nat.mul_add] at e2
    rw [val_append, h1, ex, ey, Nat.pow_succ, Nat.mul_assoc]
    simp only [val, Nat.mul_zero, Nat.add_zero]
    omega
theorem valD_lt {b : Nat} : ∀ {o : List Nat}, (∀ x ∈ o, x < b) → val b o < b ^ o.length
  | [], _ => by simp [val]
  | x :: r, h => by
    have h1 := valD_lt (o := r) fun y hy => h y (List.mem_cons_of_mem _ hy)
    have h2 := h x (by simp)
    have h3 := Nat.mul_le_mul_left b (show val b r + 1 ≤ b ^ r.length from h1)
    rw [List.length_cons, Nat.pow_succ, Nat.mul_comm]
    simp only [val]
    rw [Nat.mul_add] at h3
    omega
theorem BorAt.done {b X Y k z : Nat} {o : List Nat} (h : BorAt b X Y k o z) (hX : X < b ^ k) (hYX : Y ≤ X) : val b o = X - Y := by
  have h1 := valD_lt h.2.1
  rw [h.1] at h1
  have h2 := h.2.2.2
  rw [Nat.mod_eq_of_lt hX, Nat.mod_eq_of_lt (by omega)] at h2
  have hz := h.2.2.1
  rcases Nat.lt_or_ge z 1 with h3 | h3
  · obtain rfl : z = 0 := by omega
    omega
  · obtain rfl : z = 1 := by omega
    omega
set_option maxHeartbeats 4000000 in
theorem less17 (A A2 : Option Addr) (n c m d X Y : Nat) (w : World) (hx : Rf w A n c X) (hy : Rf w A2 m d Y) (h1 : n ≤ 1000000) (h2 : m ≤ 1000000) (hYX : Y ≤ X) :
    Calls Try.prog 110 #[.slice A n c, .slice A2 m d] w fun e w' => ∃ A' k c', e = .returned (.slice A' k c') ∧ (Rf w' A' k c' (X - Y) ∧ Nw w.heap.size A') ∧ Below w.heap.size w w' := by
  have K := St.start w
  have HX := Lib.hid hx
  have HY := Lib.hid hy
  have HYX := Lib.hid hYX
  have hlx : Hid (X < 256 ^ n) := Lib.hid (by
    have a1 := digs_le (b := 256) (by omega) X
    rw [← hx.len] at a1
    omega)
  clear hx hy hYX
  go_enter Try.func110, Try.ntmps110
  go_wp2
  go_loopw [5, 6, 7, 8] (fun v bz i _ wr => ∃ (k z : Nat) (o : List Nat) (L : List Blk), k ≤ n ∧ i = .int .i64 k ∧ bz = .int .i64 z ∧ Hid (BorAt 256 X Y k o z) ∧ Own v 3 (nums .i64 o) [] L ∧ St w.heap.size w L Any wr) (fun _ _ i _ _ => n - (intOf i).toNat)
  case atStart => exact ⟨0, 0, [], [], Nat.zero_le _, rfl, rfl, Lib.hid (BorAt.start _ _ _), Own.nil _ _, K⟩
  case round =>
    clear K
    obtain ⟨k, z, o, LL, hk, rfl, rfl, hs, hO, K⟩ := hrel
    have c1 := hs.out.2.2.1
    have hol := hs.out.1
    by_cases a1 : k < n
    · have t1 : decide (k < n) = true := decide_eq_true a1
      have t1' : decide ((k : Int) < n) = true := decide_eq_true (by omega)
      have ol : o.length ≤ 1000001 := by omega
      have hlen : (nums .i64 o).length ≤ 1000001 := by rw [nums_length]; omega
      obtain ⟨bx, ox, rfl, hbx, hcx⟩ := HX.out.1.rd.get a1
      have hvx := hcx k _ (nums_get .i64 _ k (by have := HX.out.len; omega))
      rw [digs_get (b := 256) (by omega) X k] at hvx
      have x1 := Nat.mod_lt (X / 256 ^ k) (show 0 < 256 by omega)
      have y1 := Nat.mod_lt (Y / 256 ^ k) (show 0 < 256 by omega)
      clear hcx hol
      obtain ⟨D1, hD1⟩ : ∃ D1 : Int, ((X / 256 ^ k % 256 : Nat) : Int) - (z : Int) = D1 := ⟨_, rfl⟩
      obtain ⟨D, hD⟩ : ∃ D : Int, D1 - ((Y / 256 ^ k % 256 : Nat) : Int) = D := ⟨_, rfl⟩
      have e1h : Hid (wrap64 (((X / 256 ^ k % 256 : Nat) : Int) - (z : Int)) = D1) := Lib.hid (w64e (by omega) (by omega) hD1)
      have e2h : Hid (wrap64 (D1 - ((Y / 256 ^ k % 256 : Nat) : Int)) = D) := Lib.hid (w64e (by omega) (by omega) hD)
      by_cases a2 : k < m
      · have t2 : decide (k < m) = true := decide_eq_true a2
        have t2' : decide ((k : Int) < m) = true := decide_eq_true (by omega)
        obtain ⟨by1, oy, rfl, hby, hcy⟩ := HY.out.1.rd.get a2
        have hvy := hcy k _ (nums_get .i64 _ k (by have := HY.out.len; omega))
        rw [digs_get (b := 256) (by omega) Y k] at hvy
        clear hcy
        by_cases a3 : D < 0
        · have t3 : decide (D < 0) = true := decide_eq_true a3
          obtain ⟨dd, hdd0⟩ : ∃ dd : Nat, D + 256 = (dd : Int) := ⟨(D + 256).toNat, by omega⟩
          have e3h : Hid (wrap64 (D + 256) = (dd : Int)) := Lib.hid (w64e (by omega) (by omega) hdd0)
          have ST := Lib.hid (hs.out.step (dd := dd) (z2 := 1) (by omega) (by omega) (by omega))
          generalize X / 256 ^ k % 256 = x at *
          generalize Y / 256 ^ k % 256 = y at *
          clear hs hD1 hD hdd0 x1 y1
          have e1 := e1h.out
          have e2 := e2h.out
          have e3 := e3h.out
          go_wp2_with (first|go_big_skip|((with_reducible refine at_load ?_);first|(refine wm_load (cs := ?_) (t := ?_) (n := ?_) K rfl _ _ rfl rfl ?_ ?_ ?_ ?_;rotate_left 2;(repeat (first|exact At.hd|refine At.tl ?_));rotate_left;(with_reducible first|exact row88);(solve|exact rfl|simp))|(refine wm_own (cs := ?_) (t := ?_) (v := ?_) K rfl _ _ rfl rfl ?_ ?_ ?_ ?_;rotate_left 2;(repeat (first|exact At.hd|refine At.tl ?_));rotate_left;(first|exact rfl|assumption);(with_reducible first|exact one3))|(refine wm_cell (v := ?_) rfl _ _ rfl rfl ?_ ?_ ?_;rotate_left;(first|assumption|exact (K.below.cell (by assumption)).trans (by assumption));(with_reducible first|exact one3)))|((with_reducible refine at_store ?_);first|(refine wm_store (L' := ?_) (cs := ?_) (t := ?_) (n := ?_) K rfl _ _ _ rfl rfl rfl rfl ?_ ?_ ?_ ?_ ?_ ?_;rotate_left 3;(repeat (first|exact Put.hd|(refine Put.tl (L' := ?_) ?_;rotate_left)));rotate_left;(with_reducible first|exact row88);(solve|exact rfl|simp);(solve|exact rfl|simp);(solve|exact rfl|simp [Ones, Value.oneCell']);(try clear K);(try clear ww);intro ww K;(try simp [go_sem] at K))|(refine wm_put (L' := ?_) (cs := ?_) (new := ?_) (t := ?_) K rfl _ _ _ rfl rfl rfl rfl ?_ ?_ ?_ ?_ rfl rfl ?_;rotate_left 4;(repeat (first|exact Put.hd|(refine Put.tl (L' := ?_) ?_;rotate_left)));(solve|exact Nat.le_of_ble_eq_true rfl|decide|(simp only [List.size_toArray, nums_length];first|assumption|omega)|(simp only [List.size_toArray, nums_length, List.length_set];first|assumption|omega)|simp|omega|(simp only [List.size_toArray, nums_length];omega)|assumption);(solve|(simp only [List.setIfInBounds_toArray];exact rfl)|exact nums_set _ _ _ _|simp only [List.setIfInBounds_toArray, List.set_cons_zero]|simp only [List.setIfInBounds_toArray, List.set_cons_zero, List.set_cons_succ]|(simp only [List.setIfInBounds_toArray, List.set_cons_zero, List.set_cons_succ];exact rfl)|exact rfl);(with_reducible first|exact one3);(try clear K);(try clear ww);intro ww K;(try simp [go_sem] at K)))|((with_reducible refine at_bsl ?_);refine wm_one K rfl _ _ rfl Try.underlying102 num3 rfl ?_;(try clear K);(try clear ww);intro bb ww K;(try simp [go_sem] at K))|((with_reducible refine at_app ?_);refine wm_app K rfl _ _ _ rfl Try.underlying102 num3 rfl hO rfl rfl (by first|(simp only [nums_length];omega)|omega) (by first|(simp only [nums_length];unfold maxLen;omega)|(unfold maxLen;omega)) ?_;(try clear K hO);(try clear ww);intro v ww LL hO K))
          clear e1 e2 e3
          have hO' : Own v 3 (nums .i64 (o ++ [dd])) [] LL := by rw [← nums_append]; first | exact hO | (rw [e3h.out] at hO; exact hO)
          exact ⟨⟨k + 1, 1, _, LL, by omega, by go_num, rfl, ST, hO', K⟩, by simp [intOf]; omega⟩
        · have t3 : decide (D < 0) = false := decide_eq_false a3
          obtain ⟨dd, hdd0⟩ : ∃ dd : Nat, D = (dd : Int) := ⟨D.toNat, by omega⟩
          subst hdd0
          have ST := Lib.hid (hs.out.step (dd := dd) (z2 := 0) (by omega) (by omega) (by omega))
          generalize X / 256 ^ k % 256 = x at *
          generalize Y / 256 ^ k % 256 = y at *
          clear hs hD1 hD x1 y1
          have e1 := e1h.out
          have e2 := e2h.out
          go_wp2_with (first|go_big_skip|((with_reducible refine at_load ?_);first|(refine wm_load (cs := ?_) (t := ?_) (n := ?_) K rfl _ _ rfl rfl ?_ ?_ ?_ ?_;rotate_left 2;(repeat (first|exact At.hd|refine At.tl ?_));rotate_left;(with_reducible first|exact row88);(solve|exact rfl|simp))|(refine wm_own (cs := ?_) (t := ?_) (v := ?_) K rfl _ _ rfl rfl ?_ ?_ ?_ ?_;rotate_left 2;(repeat (first|exact At.hd|refine At.tl ?_));rotate_left;(first|exact rfl|assumption);(with_reducible first|exact one3))|(refine wm_cell (v := ?_) rfl _ _ rfl rfl ?_ ?_ ?_;rotate_left;(first|assumption|exact (K.below.cell (by assumption)).trans (by assumption));(with_reducible first|exact one3)))|((with_reducible refine at_store ?_);first|(refine wm_store (L' := ?_) (cs := ?_) (t := ?_) (n := ?_) K rfl _ _ _ rfl rfl rfl rfl ?_ ?_ ?_ ?_ ?_ ?_;rotate_left 3;(repeat (first|exact Put.hd|(refine Put.tl (L' := ?_) ?_;rotate_left)));rotate_left;(with_reducible first|exact row88);(solve|exact rfl|simp);(solve|exact rfl|simp);(solve|exact rfl|simp [Ones, Value.oneCell']);(try clear K);(try clear ww);intro ww K;(try simp [go_sem] at K))|(refine wm_put (L' := ?_) (cs := ?_) (new := ?_) (t := ?_) K rfl _ _ _ rfl rfl rfl rfl ?_ ?_ ?_ ?_ rfl rfl ?_;rotate_left 4;(repeat (first|exact Put.hd|(refine Put.tl (L' := ?_) ?_;rotate_left)));(solve|exact Nat.le_of_ble_eq_true rfl|decide|(simp only [List.size_toArray, nums_length];first|assumption|omega)|(simp only [List.size_toArray, nums_length, List.length_set];first|assumption|omega)|simp|omega|(simp only [List.size_toArray, nums_length];omega)|assumption);(solve|(simp only [List.setIfInBounds_toArray];exact rfl)|exact nums_set _ _ _ _|simp only [List.setIfInBounds_toArray, List.set_cons_zero]|simp only [List.setIfInBounds_toArray, List.set_cons_zero, List.set_cons_succ]|(simp only [List.setIfInBounds_toArray, List.set_cons_zero, List.set_cons_succ];exact rfl)|exact rfl);(with_reducible first|exact one3);(try clear K);(try clear ww);intro ww K;(try simp [go_sem] at K)))|((with_reducible refine at_bsl ?_);refine wm_one K rfl _ _ rfl Try.underlying102 num3 rfl ?_;(try clear K);(try clear ww);intro bb ww K;(try simp [go_sem] at K))|((with_reducible refine at_app ?_);refine wm_app K rfl _ _ _ rfl Try.underlying102 num3 rfl hO rfl rfl (by first|(simp only [nums_length];omega)|omega) (by first|(simp only [nums_length];unfold maxLen;omega)|(unfold maxLen;omega)) ?_;(try clear K hO);(try clear ww);intro v ww LL hO K))
          clear e1 e2
          have hO' : Own v 3 (nums .i64 (o ++ [dd])) [] LL := by rw [← nums_append]; first | exact hO | (rw [e2h.out] at hO; exact hO)
          exact ⟨⟨k + 1, 0, _, LL, by omega, by go_num, rfl, ST, hO', K⟩, by simp [intOf]; omega⟩
      · have t2 : decide (k < m) = false := decide_eq_false a2
        have t2' : decide ((k : Int) < m) = false := decide_eq_false (by omega)
        have y0 : Y / 256 ^ k % 256 = 0 := by
          have hd := digs_get (b := 256) (by omega) Y k
          rw [← hd, List.getD, List.getElem?_eq_none (by have := HY.out.len; omega)]; rfl
        rw [y0] at hD y1
        by_cases a3 : D < 0
        · have t3 : decide (D1 < 0) = true := decide_eq_true (by omega)
          obtain ⟨dd, hdd0⟩ : ∃ dd : Nat, D1 + 256 = (dd : Int) := ⟨(D1 + 256).toNat, by omega⟩
          have e3h : Hid (wrap64 (D1 + 256) = (dd : Int)) := Lib.hid (w64e (by omega) (by omega) hdd0)
          have ST := Lib.hid (hs.out.step (dd := dd) (z2 := 1) (by omega) (by omega) (by omega))
          generalize X / 256 ^ k % 256 = x at *
          clear hs hD1 hD hdd0 x1 y1 y0 e2h
          have e1 := e1h.out
          have e3 := e3h.out
          go_wp2_with (first|go_big_skip|((with_reducible refine at_load ?_);first|(refine wm_load (cs := ?_) (t := ?_) (n := ?_) K rfl _ _ rfl rfl ?_ ?_ ?_ ?_;rotate_left 2;(repeat (first|exact At.hd|refine At.tl ?_));rotate_left;(with_reducible first|exact row88);(solve|exact rfl|simp))|(refine wm_own (cs := ?_) (t := ?_) (v := ?_) K rfl _ _ rfl rfl ?_ ?_ ?_ ?_;rotate_left 2;(repeat (first|exact At.hd|refine At.tl ?_));rotate_left;(first|exact rfl|assumption);(with_reducible first|exact one3))|(refine wm_cell (v := ?_) rfl _ _ rfl rfl ?_ ?_ ?_;rotate_left;(first|assumption|exact (K.below.cell (by assumption)).trans (by assumption));(with_reducible first|exact one3)))|((with_reducible refine at_store ?_);first|(refine wm_store (L' := ?_) (cs := ?_) (t := ?_) (n := ?_) K rfl _ _ _ rfl rfl rfl rfl ?_ ?_ ?_ ?_ ?_ ?_;rotate_left 3;(repeat (first|exact Put.hd|(refine Put.tl (L' := ?_) ?_;rotate_left)));rotate_left;(with_reducible first|exact row88);(solve|exact rfl|simp);(solve|exact rfl|simp);(solve|exact rfl|simp [Ones, Value.oneCell']);(try clear K);(try clear ww);intro ww K;(try simp [go_sem] at K))|(refine wm_put (L' := ?_) (cs := ?_) (new := ?_) (t := ?_) K rfl _ _ _ rfl rfl rfl rfl ?_ ?_ ?_ ?_ rfl rfl ?_;rotate_left 4;(repeat (first|exact Put.hd|(refine Put.tl (L' := ?_) ?_;rotate_left)));(solve|exact Nat.le_of_ble_eq_true rfl|decide|(simp only [List.size_toArray, nums_length];first|assumption|omega)|(simp only [List.size_toArray, nums_length, List.length_set];first|assumption|omega)|simp|omega|(simp only [List.size_toArray, nums_length];omega)|assumption);(solve|(simp only [List.setIfInBounds_toArray];exact rfl)|exact nums_set _ _ _ _|simp only [List.setIfInBounds_toArray, List.set_cons_zero]|simp only [List.setIfInBounds_toArray, List.set_cons_zero, List.set_cons_succ]|(simp only [List.setIfInBounds_toArray, List.set_cons_zero, List.set_cons_succ];exact rfl)|exact rfl);(with_reducible first|exact one3);(try clear K);(try clear ww);intro ww K;(try simp [go_sem] at K)))|((with_reducible refine at_bsl ?_);refine wm_one K rfl _ _ rfl Try.underlying102 num3 rfl ?_;(try clear K);(try clear ww);intro bb ww K;(try simp [go_sem] at K))|((with_reducible refine at_app ?_);refine wm_app K rfl _ _ _ rfl Try.underlying102 num3 rfl hO rfl rfl (by first|(simp only [nums_length];omega)|omega) (by first|(simp only [nums_length];unfold maxLen;omega)|(unfold maxLen;omega)) ?_;(try clear K hO);(try clear ww);intro v ww LL hO K))
          clear e1 e3
          have hO' : Own v 3 (nums .i64 (o ++ [dd])) [] LL := by rw [← nums_append]; first | exact hO | (rw [e3h.out] at hO; exact hO)
          exact ⟨⟨k + 1, 1, _, LL, by omega, by go_num, rfl, ST, hO', K⟩, by simp [intOf]; omega⟩
        · have t3 : decide (D1 < 0) = false := decide_eq_false (by omega)
          obtain ⟨dd, hdd0⟩ : ∃ dd : Nat, D1 = (dd : Int) := ⟨D1.toNat, by omega⟩
          subst hdd0
          have ST := Lib.hid (hs.out.step (dd := dd) (z2 := 0) (by omega) (by omega) (by omega))
          generalize X / 256 ^ k % 256 = x at *
          clear hs hD1 hD x1 y1 y0 e2h
          have e1 := e1h.out
          go_wp2_with (first|go_big_skip|((with_reducible refine at_load ?_);first|(refine wm_load (cs := ?_) (t := ?_) (n := ?_) K rfl _ _ rfl rfl ?_ ?_ ?_ ?_;rotate_left 2;(repeat (first|exact At.hd|refine At.tl ?_));rotate_left;(with_reducible first|exact row88);(solve|exact rfl|simp))|(refine wm_own (cs := ?_) (t := ?_) (v := ?_) K rfl _ _ rfl rfl ?_ ?_ ?_ ?_;rotate_left 2;(repeat (first|exact At.hd|refine At.tl ?_));rotate_left;(first|exact rfl|assumption);(with_reducible first|exact one3))|(refine wm_cell (v := ?_) rfl _ _ rfl rfl ?_ ?_ ?_;rotate_left;(first|assumption|exact (K.below.cell (by assumption)).trans (by assumption));(with_reducible first|exact one3)))|((with_reducible refine at_store ?_);first|(refine wm_store (L' := ?_) (cs := ?_) (t := ?_) (n := ?_) K rfl _ _ _ rfl rfl rfl rfl ?_ ?_ ?_ ?_ ?_ ?_;rotate_left 3;(repeat (first|exact Put.hd|(refine Put.tl (L' := ?_) ?_;rotate_left)));rotate_left;(with_reducible first|exact row88);(solve|exact rfl|simp);(solve|exact rfl|simp);(solve|exact rfl|simp [Ones, Value.oneCell']);(try clear K);(try clear ww);intro ww K;(try simp [go_sem] at K))|(refine wm_put (L' := ?_) (cs := ?_) (new := ?_) (t := ?_) K rfl _ _ _ rfl rfl rfl rfl ?_ ?_ ?_ ?_ rfl rfl ?_;rotate_left 4;(repeat (first|exact Put.hd|(refine Put.tl (L' := ?_) ?_;rotate_left)));(solve|exact Nat.le_of_ble_eq_true rfl|decide|(simp only [List.size_toArray, nums_length];first|assumption|omega)|(simp only [List.size_toArray, nums_length, List.length_set];first|assumption|omega)|simp|omega|(simp only [List.size_toArray, nums_length];omega)|assumption);(solve|(simp only [List.setIfInBounds_toArray];exact rfl)|exact nums_set _ _ _ _|simp only [List.setIfInBounds_toArray, List.set_cons_zero]|simp only [List.setIfInBounds_toArray, List.set_cons_zero, List.set_cons_succ]|(simp only [List.setIfInBounds_toArray, List.set_cons_zero, List.set_cons_succ];exact rfl)|exact rfl);(with_reducible first|exact one3);(try clear K);(try clear ww);intro ww K;(try simp [go_sem] at K)))|((with_reducible refine at_bsl ?_);refine wm_one K rfl _ _ rfl Try.underlying102 num3 rfl ?_;(try clear K);(try clear ww);intro bb ww K;(try simp [go_sem] at K))|((with_reducible refine at_app ?_);refine wm_app K rfl _ _ _ rfl Try.underlying102 num3 rfl hO rfl rfl (by first|(simp only [nums_length];omega)|omega) (by first|(simp only [nums_length];unfold maxLen;omega)|(unfold maxLen;omega)) ?_;(try clear K hO);(try clear ww);intro v ww LL hO K))
          clear e1
          have hO' : Own v 3 (nums .i64 (o ++ [dd])) [] LL := by rw [← nums_append]; first | exact hO | (rw [e1h.out] at hO; exact hO)
          exact ⟨⟨k + 1, 0, _, LL, by omega, by go_num, rfl, ST, hO', K⟩, by simp [intOf]; omega⟩
    · obtain rfl : n = k := by omega
      have t1 : decide (n < n) = false := decide_eq_false a1
      have t1' : decide ((n : Int) < n) = false := decide_eq_false (by omega)
      have hvl : Hid (val 256 o = X - Y) := Lib.hid (hs.out.done hlx.out HYX.out)
      have hl := Lib.hid hs.out.2.1
      clear hs hol
      go_wp2_with fail
      refine (K.trimR hO hl.out).mono ?_
      rintro e w2 ⟨A', k', c', rfl, K2⟩
      rw [hvl.out] at K2
      have R := Lib.hid K2.fact.1
      have G := Lib.hid K2.below
      clear K K2 hO hvl hl
      dsimp only
      go_wp2
      go_ret
      exact ⟨_, _, _, rfl, R.out, G.out⟩
section
variable {B : Nat} {w0 w : World} {L : List Blk} {F : World → Prop}
theorem St.lessR {A A2 : Option Addr} {n c X n2 c2 Y : Nat} (K : St B w0 L F w) (h1 : Rf w A n c X) (h2 : Rf w A2 n2 c2 Y) (b1 : X < Big) (hYX : Y ≤ X) :
    Calls Try.prog 110 #[.slice A n c, .slice A2 n2 c2] w fun e w' => ∃ A k c, e = .returned (.slice A k c) ∧ St B w0 L (fun w => (Rf w A k c (X - Y) ∧ Nw B A) ∧ F w) w' := by
  refine (less17 A A2 n c n2 c2 X Y w h1 h2 (by have := h1.big b1; omega) (by have := h2.big (Nat.lt_of_le_of_lt hYX b1); omega) hYX).mono ?_
  rintro e w' ⟨A', k, c', rfl, ⟨hn, hA⟩, hb⟩
  exact ⟨A', k, c', rfl, K.madeRf hb hn hA⟩
end
end Go.Proofs.Yteancdipmpmjpaa
namespace Go.Proofs.Yteancdipmpmjpaa
open Go.RowKit
attribute [local irreducible] wpHeld wpTree wpList
set_option linter.unusedVariables false
section
variable {B : Nat} {w0 w : World} {L : List Blk} {F : World → Prop}
theorem St.fromR17 {W H X Y S : Int} {A : Option Addr} {n c : Nat} {zs : List Int} (K : St B w0 L F w) (hL : (L.all fun p => p.2.2 != 3) = true) (h : Rd w A n (ints .i64 zs)) (hb : ∀ z ∈ zs, 0 ≤ z ∧ z ≤ 1073741824) (hn : n ≤ 5000) :
    Calls Try.prog 55 #[.agg #[.int .i64 W, .int .i64 H, .int .i64 X, .int .i64 Y, .int .i64 S, .slice A n c]] w fun e w' => ∃ A2 c2, e = .returned (.agg #[.int .i64 W, .int .i64 H, .slice A2 n c2]) ∧ St B w0 L (fun w => Fr w A2 n (toN zs) ∧ F w) w' := by
  refine (RFrom17 W H X Y S A n c zs w h hb hn).mono ?_
  rintro e w' ⟨A2, c2, rfl, ⟨h2, hA⟩, hbel⟩
  exact ⟨A2, c2, rfl, K.madeFr (noT_of hL) hbel h2 hA⟩
theorem St.sumR17 {W H : Int} {A : Option Addr} {n c : Nat} {xs : List Nat} (K : St B w0 L F w) (h : Fr w A n xs) (hn : n ≤ 5000) (hS : xs.sum < Big) :
    Calls Try.prog 107 #[.agg #[.int .i64 W, .int .i64 H, .slice A n c]] w fun e w' => ∃ A2 k c2, e = .returned (.slice A2 k c2) ∧ St B w0 L (fun w => (Rf w A2 k c2 xs.sum ∧ Nw B A2) ∧ F w) w' := by
  refine (RSum17 W H A n c xs w h hn hS).mono ?_
  rintro e w' ⟨A2, k, c2, rfl, ⟨h2, hA⟩, hbel⟩
  exact ⟨A2, k, c2, rfl, K.madeRf hbel h2 hA⟩
theorem Rf.none0 {A : Option Addr} {k c X : Nat} (h : Rf w A k c X) : k = 0 ↔ X = 0 := by
  constructor
  · intro e
    have h1 := h.len
    have h2 := digs_le (b := 256) (by omega) X
    rw [← h1, e] at h2
    omega
  · intro e
    have h1 := h.len
    rw [e, digs_zero] at h1
    exact h1
end
theorem big40 : (1099511627776 : Nat) < Big := big_of (by decide)
theorem small40 : (1099511627776 : Nat) < 18446744073709551616 := by decide
theorem rover_cmp {D Q : Nat} {vv : Bool} (h : decide (Q * 2 ^ 1 < D * 2 ^ 40) = vv) : decide (Q + Q < D * 1099511627776) = vv := by
  have e : (2 : Nat) ^ 40 = 1099511627776 := by decide +kernel
  have e1 : (2 : Nat) ^ 1 = 2 := rfl
  rw [e, e1] at h
  rw [← h, Nat.mul_two]
theorem over_b2 {D E M C : Nat} (h1 : D ≤ E) (h2 : E ≤ 5000 * (5000 * M * 1073741824 + M * (5000 * 1073741824))) (hM : M * 1461501637330902918203684832716283019655932542976 < C) (h0 : 0 < M) : D * 1099511627776 < C := by
  have h := over_b1 h1 h2 hM h0
  have e : (2 : Nat) ^ 40 = 1099511627776 := by decide +kernel
  rw [e] at h
  exact h
set_option maxRecDepth 100000 in
set_option maxHeartbeats 8000000 in
theorem ROver17 (W H X Y S W2 H2 : Int) (A A2 : Option Addr) (n c c2 M : Nat) (zs : List Int) (us : List Nat) (b : Int) (w : World) (h : Rd w A n (ints .i64 zs)) (hb : ∀ z ∈ zs, 0 ≤ z ∧ z ≤ 1073741824) (hn : n ≤ 5000) (h2 : Fr w A2 n us) (hB : ∀ u ∈ us, u < M) (hM0 : 0 < M) (hM : M * 4294967296 ^ 5 < Big) (hbb : -9223372036854775808 ≤ b ∧ b < 9223372036854775808) :
    Calls Try.prog 58 #[.agg #[.int .i64 W, .int .i64 H, .int .i64 X, .int .i64 Y, .int .i64 S, .slice A n c], .agg #[.int .i64 W2, .int .i64 H2, .slice A2 n c2], .int .i64 b] w fun e w' => e = .returned (.bool (over17 (toN zs) us b)) ∧ Below w.heap.size w w' := by
  have K := St.start w
  have hl : zs.length = n := by rw [← h.1, ints_len]
  have hl2 := h2.len
  have HR := Lib.hid h
  have HF := Lib.hid h2
  have HZ := Lib.hid hb
  have HL := Lib.hid hl
  have HL2 := Lib.hid hl2
  have hxl : (toN zs).length = n := by rw [toN_len, hl]
  have hxb : ∀ x ∈ toN zs, x ≤ 1073741824 := fun x hx => by
    obtain ⟨z, hz, rfl⟩ := List.mem_map.1 hx
    have := hb z hz; omega
  obtain ⟨xs, hxs⟩ : ∃ xs, toN zs = xs := ⟨_, rfl⟩
  have FR := Lib.hid (fun (B : Nat) (w0 : World) (L : List Blk) (F : World → Prop) (w : World) (K : St B w0 L F w) (hL : (L.all fun p => p.2.2 != 3) = true) (h : Rd w A n (ints .i64 zs)) => K.fromR17 (W := W) (H := H) (X := X) (Y := Y) (S := S) (c := c) hL h HZ.out hn)
  rw [hxs] at FR hxl hxb ⊢
  have HXB := Lib.hid hxb
  have hS := sum_le_mul hxb
  rw [hxl] at hS
  have hT := sum_le_mul (l := us) (C := M) (fun u hu => Nat.le_of_lt (hB u hu))
  rw [hl2] at hT
  unfold over17
  rw [hxl]
  obtain ⟨s, hs⟩ : ∃ s, xs.sum = s := ⟨_, rfl⟩
  obtain ⟨t, ht⟩ : ∃ t, us.sum = t := ⟨_, rfl⟩
  rw [hs] at hS ⊢
  rw [ht] at hT ⊢
  have hs43 : s ≤ 5000 * 1073741824 := Nat.le_trans hS (Nat.mul_le_mul_right _ hn)
  have ht43 : t ≤ 5000 * M := Nat.le_trans hT (Nat.mul_le_mul_right _ hn)
  have e5 : M * 4294967296 ^ 5 = M * 1461501637330902918203684832716283019655932542976 := rfl
  rw [e5] at hM
  have sl : s < Big := by omega
  have tl : t < Big := by omega
  have S1 := Lib.hid (fun (B : Nat) (w0 : World) (L : List Blk) (F : World → Prop) (w : World) (W H : Int) (A : Option Addr) (c : Nat) (K : St B w0 L F w) (h : Fr w A n xs) => K.sumR17 (W := W) (H := H) (c := c) h hn (by rw [hs]; exact sl))
  have S2 := Lib.hid (fun (B : Nat) (w0 : World) (L : List Blk) (F : World → Prop) (w : World) (K : St B w0 L F w) (h : Fr w A2 n us) => K.sumR17 (W := W2) (H := H2) (c := c2) h hn (by rw [ht]; exact tl))
  rw [hs] at S1
  rw [ht] at S2
  have HST := Lib.hid (And.intro hs43 (And.intro ht43 (And.intro hM (And.intro hM0 hB))))
  have HSL := Lib.hid sl
  have HTLb := Lib.hid tl
  obtain ⟨vv, hvv⟩ : ∃ vv : Bool, (if s = 0 ∨ t = 0 then decide (b < 1099511627776) else decide (s * t * b.toNat * 2 ^ 1 < dist17 s t xs us n * 2 ^ 40)) = vv := ⟨_, rfl⟩
  rw [hvv]
  have HV := Lib.hid hvv
  have HXL := Lib.hid hxl
  clear h hb h2 hl hl2 hB hxl hxb hxs hS hT hs ht hs43 ht43 e5 hM hM0 sl tl hvv
  go_enter Try.func58, Try.ntmps58
  go_wp2_with (first|go_big_skip|((with_reducible refine at_load ?_);first|(refine wm_load (cs := ?_) (t := ?_) (n := ?_) K rfl _ _ rfl rfl ?_ ?_ ?_ ?_;rotate_left 2;(repeat (first|exact At.hd|refine At.tl ?_));rotate_left;(with_reducible first|exact row47|exact row88);(solve|exact rfl|simp))|(refine wm_own (cs := ?_) (t := ?_) (v := ?_) K rfl _ _ rfl rfl ?_ ?_ ?_ ?_;rotate_left 2;(repeat (first|exact At.hd|refine At.tl ?_));rotate_left;(first|exact rfl|assumption);(with_reducible first|exact one86|exact one102))|(refine wm_cell (v := ?_) rfl _ _ rfl rfl ?_ ?_ ?_;rotate_left;(first|assumption|exact (K.below.cell (by assumption)).trans (by assumption));(with_reducible first|exact one86|exact one102)))|((with_reducible refine at_store ?_);first|(refine wm_store (L' := ?_) (cs := ?_) (t := ?_) (n := ?_) K rfl _ _ _ rfl rfl rfl rfl ?_ ?_ ?_ ?_ ?_ ?_;rotate_left 3;(repeat (first|exact Put.hd|(refine Put.tl (L' := ?_) ?_;rotate_left)));rotate_left;(with_reducible first|exact row47|exact row88);(solve|exact rfl|simp);(solve|exact rfl|simp);(solve|exact rfl|simp [Ones, Value.oneCell']);(try clear K);(try clear ww);intro ww K;(try simp [go_sem] at K))|(refine wm_put (L' := ?_) (cs := ?_) (new := ?_) (t := ?_) K rfl _ _ _ rfl rfl rfl rfl ?_ ?_ ?_ ?_ rfl rfl ?_;rotate_left 4;(repeat (first|exact Put.hd|(refine Put.tl (L' := ?_) ?_;rotate_left)));(solve|exact Nat.le_of_ble_eq_true rfl|decide|(simp only [List.size_toArray, nums_length];first|assumption|omega)|(simp only [List.size_toArray, nums_length, List.length_set];first|assumption|omega)|simp|omega|(simp only [List.size_toArray, nums_length];omega)|assumption);(solve|(simp only [List.setIfInBounds_toArray];exact rfl)|exact nums_set _ _ _ _|simp only [List.setIfInBounds_toArray, List.set_cons_zero]|simp only [List.setIfInBounds_toArray, List.set_cons_zero, List.set_cons_succ]|(simp only [List.setIfInBounds_toArray, List.set_cons_zero, List.set_cons_succ];exact rfl)|exact rfl);(with_reducible first|exact one86|exact one102);(try clear K);(try clear ww);intro ww K;(try simp [go_sem] at K)))|(first|((with_reducible refine at_box ?_);refine wm_box K rfl _ _ rfl rfl rfl ?_;(try clear K);(try clear ww);(first|((fail_if_success (have _h := b3));intro b3 ww K)|((fail_if_success (have _h := b4));intro b4 ww K)|((fail_if_success (have _h := b7));intro b7 ww K));(try simp [go_sem, Value.cells] at K))|((with_reducible refine at_alloc ?_);refine wm_alloc (v := ?_) (cs := ?_) K rfl _ rfl ?_ ?_ ?_;rotate_left;(with_reducible first|exact zero88);rotate_left;exact rfl;(try clear K);(try clear ww);(first|((fail_if_success (have _h := b3));intro b3 ww K)|((fail_if_success (have _h := b4));intro b4 ww K)|((fail_if_success (have _h := b7));intro b7 ww K));(try simp [go_sem, Value.cells] at K)))|(go_at_call 55;have zz := FR.out _ _ _ _ _ K rfl (HR.out.below K.below);(with_reducible refine zz.mono ?_);clear zz;rintro e w2 ⟨Af, cf, rfl, K2⟩;(try dsimp only);replace K := K2;clear K2;(try clear ww);revert w2;intro ww K)|(go_at_call 107;(first|(have zz := fun W H c => S1.out _ _ _ _ _ W H _ c K K.fact.1;(with_reducible refine (zz _ _ _).mono ?_);clear zz;rintro e w2 ⟨a1, k1, c1, rfl, K2⟩)|(have zz := S2.out _ _ _ _ _ K (HF.out.below K.below);(with_reducible refine zz.mono ?_);clear zz;rintro e w2 ⟨a2, k2, c2', rfl, K2⟩));(try dsimp only);replace K := K2;clear K2;(try clear ww);revert w2;intro ww K))
  · rename_i hk
    have s0 : s = 0 := K.fact.2.1.1.none0.1 (by first | exact hk | rfl)
    go_ret
    exact ⟨by rw [← HV.out, if_pos (.inl s0)]; rfl, K.below⟩
  · rename_i hk1 hk2
    have hk20 : k2 = 0 := by simp at hk2; omega
    have t0 : t = 0 := K.fact.1.1.none0.1 hk20
    go_ret
    exact ⟨by rw [← HV.out, if_pos (.inr t0)]; rfl, K.below⟩
  · have hk1 : ¬ k1 = 0 := by assumption
    have hk2 : ((k1 : Int) == 0) = false ∧ ((k2 : Int) == 0) = false := by assumption
    have hk20 : ¬ k2 = 0 := by have := hk2.2; simp at this; omega
    have s0 : s ≠ 0 := fun h => hk1 (K.fact.2.1.1.none0.2 h)
    have t0 : t ≠ 0 := fun h => hk20 (K.fact.1.1.none0.2 h)
    have hvd : vv = decide (s * t * b.toNat * 2 ^ 1 < dist17 s t xs us n * 2 ^ 40) := by rw [← HV.out, if_neg (fun h => h.elim s0 t0)]
    simp only [hk2.1, hk2.2, Bool.or_self]
    clear s0 t0 hk20 hk1 hk2
    obtain ⟨f, hf⟩ : ∃ f : Nat → Nat, (fun i => t * xs.getD i 0 - us.getD i 0 * s + (us.getD i 0 * s - t * xs.getD i 0)) = f := ⟨_, rfl⟩
    have HFE := Lib.hid hf
    unfold dist17 at hvd
    rw [hf] at hvd
    have HVD := Lib.hid hvd
    clear hf hvd S1 S2 FR HV
    have hfb0 : ∀ j, j < n → f j ≤ 5000 * M * 1073741824 + M * (5000 * 1073741824) := fun j hj => by
      obtain ⟨hs43, ht43, hM, hM0, hB⟩ := HST.out
      have gx : xs.getD j 0 ≤ 1073741824 := getDN_all (P := fun x => x ≤ 1073741824) (by omega) HXB.out j
      have gu := getDN_all (P := fun x => x < M) hM0 hB j
      have q1 := Nat.mul_le_mul ht43 gx
      have q2 := Nat.mul_le_mul (Nat.le_of_lt gu) hs43
      rw [← HFE.out]; dsimp only; omega
    have HFB := Lib.hid hfb0
    clear hfb0
    go_loopw [10, 11, 12, 13] (fun dv i _ _ wr => ∃ (k : Nat) (ad : Option Addr) (kd cd : Nat), k ≤ n ∧ i = .int .i64 k ∧ dv = .slice ad kd cd ∧ St w.heap.size w [(b7, #[.int .i64 W, .int .i64 H, .slice Af n cf], 88), (b4, #[.int .i64 W2, .int .i64 H2, .slice A2 n c2], 88), (b3, #[.int .i64 W, .int .i64 H, .int .i64 X, .int .i64 Y, .int .i64 S, .slice A n c], 47)] (fun w2 => (Rf w2 ad kd cd (psumN f k) ∧ Nw w.heap.size ad) ∧ (Rf w2 a2 k2 c2' t ∧ Nw w.heap.size a2) ∧ (Rf w2 a1 k1 c1 s ∧ Nw w.heap.size a1) ∧ Fr w2 Af n xs) wr) (fun _ i _ _ _ => n - (intOf i).toNat)
    case atStart => exact ⟨0, none, 0, 0, Nat.zero_le _, rfl, rfl, K.weak fun w h => ⟨⟨Rf.zero w none 0 (by decide), fun _ _ _ h => nomatch h⟩, h.1, h.2.1, h.2.2.1⟩⟩
    case round =>
      clear K
      obtain ⟨i, ad, kd, cd, hi, rfl, rfl, K⟩ := hrel
      by_cases hlt : i < n
      · have ht : decide ((i : Int) < n) = true := decide_eq_true (by omega)
        have htn : decide (i < n) = true := decide_eq_true hlt
        obtain ⟨hs43, ht43, hM, hM0, hB⟩ := HST.out
        obtain ⟨ab, ao, aa, ak, ac, rfl, hab, hac, han⟩ := K.fact.2.2.2.get hlt
        obtain ⟨ub, uo, ua, uk, uc, rfl, hub, huc, hun⟩ := HF.out.get hlt
        have gx : xs.getD i 0 ≤ 1073741824 := getDN_all (P := fun x => x ≤ 1073741824) (by omega) HXB.out i
        have gu := getDN_all (P := fun x => x < M) hM0 hB i
        have hps := psumN_le (f := f) (n := i) (C := 5000 * M * 1073741824 + M * (5000 * 1073741824)) (fun j hj => HFB.out j (by omega))
        have hps2 := Nat.mul_le_mul_right (5000 * M * 1073741824 + M * (5000 * 1073741824)) (show i ≤ 5000 by omega)
        have hfbi := HFB.out i hlt
        have hfe : f i = t * xs.getD i 0 - us.getD i 0 * s + (us.getD i 0 * s - t * xs.getD i 0) := by rw [← HFE.out]
        generalize xs.getD i 0 = x at *
        generalize us.getD i 0 = u at *
        rw [Nat.mul_comm t x] at hfe
        have q1 := Nat.mul_le_mul gx ht43
        have q2 := Nat.mul_le_mul (Nat.le_of_lt gu) hs43
        obtain ⟨P1, hP1⟩ : ∃ P1, x * t = P1 := ⟨_, rfl⟩
        obtain ⟨P2, hP2⟩ : ∃ P2, u * s = P2 := ⟨_, rfl⟩
        rw [hP1] at q1 hfe
        rw [hP2] at q2 hfe
        have B0 := Lib.hid (show x < Big by omega)
        have B0u := Lib.hid (show u < Big by omega)
        have B1 := Lib.hid (show x * t < Big by rw [hP1]; omega)
        have B2 := Lib.hid (show u * s < Big by rw [hP2]; omega)
        have B4 := Lib.hid (show psumN f i < Big by omega)
        have HU := Lib.hid hun
        have HA := Lib.hid han
        by_cases hxy : P1 < P2
        · have hlx : Hid (decide (x * t < u * s) = true) := Lib.hid (by rw [hP1, hP2]; exact decide_eq_true hxy)
          have hle := Lib.hid (show x * t ≤ u * s by rw [hP1, hP2]; omega)
          have B3 := Lib.hid (show u * s - x * t < Big by rw [hP1, hP2]; omega)
          have HFI := Lib.hid (show f i = u * s - x * t by rw [hP1, hP2, hfe]; omega)
          clear hs43 ht43 hM hM0 hB gx gu hps hps2 hfbi hfe hun han hP1 hP2 q1 q2 hxy
          go_wp2_with (first|go_big_skip|((with_reducible refine at_load ?_);first|(refine wm_load (cs := ?_) (t := ?_) (n := ?_) K rfl _ _ rfl rfl ?_ ?_ ?_ ?_;rotate_left 2;(repeat (first|exact At.hd|refine At.tl ?_));rotate_left;(with_reducible first|exact row47|exact row88);(solve|exact rfl|simp))|(refine wm_own (cs := ?_) (t := ?_) (v := ?_) K rfl _ _ rfl rfl ?_ ?_ ?_ ?_;rotate_left 2;(repeat (first|exact At.hd|refine At.tl ?_));rotate_left;(first|exact rfl|assumption);(with_reducible first|exact one86|exact one102))|(refine wm_cell (v := ?_) rfl _ _ rfl rfl ?_ ?_ ?_;rotate_left;(first|assumption|exact (K.below.cell (by assumption)).trans (by assumption));(with_reducible first|exact one86|exact one102)))|((with_reducible refine at_store ?_);first|(refine wm_store (L' := ?_) (cs := ?_) (t := ?_) (n := ?_) K rfl _ _ _ rfl rfl rfl rfl ?_ ?_ ?_ ?_ ?_ ?_;rotate_left 3;(repeat (first|exact Put.hd|(refine Put.tl (L' := ?_) ?_;rotate_left)));rotate_left;(with_reducible first|exact row47|exact row88);(solve|exact rfl|simp);(solve|exact rfl|simp);(solve|exact rfl|simp [Ones, Value.oneCell']);(try clear K);(try clear ww);intro ww K;(try simp [go_sem] at K))|(refine wm_put (L' := ?_) (cs := ?_) (new := ?_) (t := ?_) K rfl _ _ _ rfl rfl rfl rfl ?_ ?_ ?_ ?_ rfl rfl ?_;rotate_left 4;(repeat (first|exact Put.hd|(refine Put.tl (L' := ?_) ?_;rotate_left)));(solve|exact Nat.le_of_ble_eq_true rfl|decide|(simp only [List.size_toArray, nums_length];first|assumption|omega)|(simp only [List.size_toArray, nums_length, List.length_set];first|assumption|omega)|simp|omega|(simp only [List.size_toArray, nums_length];omega)|assumption);(solve|(simp only [List.setIfInBounds_toArray];exact rfl)|exact nums_set _ _ _ _|simp only [List.setIfInBounds_toArray, List.set_cons_zero]|simp only [List.setIfInBounds_toArray, List.set_cons_zero, List.set_cons_succ]|(simp only [List.setIfInBounds_toArray, List.set_cons_zero, List.set_cons_succ];exact rfl)|exact rfl);(with_reducible first|exact one86|exact one102);(try clear K);(try clear ww);intro ww K;(try simp [go_sem] at K)))|(go_at_call 62;(with_reducible refine (K.mulRB HA.out K.fact.2.1.1 B0.out HTLb.out).mono ?_);rintro e w2 ⟨_, _, _, rfl, K2⟩;(try dsimp only);replace K := K2;clear K2;(try clear ww);revert w2;intro ww K)|(go_at_call 62;(with_reducible refine (K.mulRB (HU.out.below K.below) K.fact.2.2.2.1.1 B0u.out HSL.out).mono ?_);rintro e w2 ⟨_, _, _, rfl, K2⟩;(try dsimp only);replace K := K2;clear K2;(try clear ww);revert w2;intro ww K)|(go_at_call 108;(with_reducible refine (Less_lit K.fact.2.1.1 K.fact.1.1 B1.out B2.out hlx.out).mono ?_);rintro e w2 ⟨rfl, k1⟩;replace K := K.step k1;clear k1;(try clear ww);revert w2;intro ww K)|(go_at_call 110;(with_reducible refine (K.lessR K.fact.1.1 K.fact.2.1.1 B2.out hle.out).mono ?_);rintro e w2 ⟨_, _, _, rfl, K2⟩;(try dsimp only);replace K := K2;clear K2;(try clear ww);revert w2;intro ww K)|(go_at_call 109;(with_reducible refine (K.addRG K.fact.2.2.2.1.1 K.fact.1.1 B4.out B3.out).mono ?_);rintro e w2 ⟨_, _, _, rfl, K2⟩;(try dsimp only);replace K := K2;clear K2;(try clear ww);revert w2;intro ww K))
          exact ⟨⟨i + 1, _, _, _, by omega, by go_num, rfl, K.weak fun w h => ⟨by rw [psumN, HFI.out]; exact h.1, h.2.2.2.2.2.1, h.2.2.2.2.2.2.1, h.2.2.2.2.2.2.2⟩⟩, by simp [intOf]; omega⟩
        · have hlx : Hid (decide (x * t < u * s) = false) := Lib.hid (by rw [hP1, hP2]; exact decide_eq_false hxy)
          have hle := Lib.hid (show u * s ≤ x * t by rw [hP1, hP2]; omega)
          have B3 := Lib.hid (show x * t - u * s < Big by rw [hP1, hP2]; omega)
          have HFI := Lib.hid (show f i = x * t - u * s by rw [hP1, hP2, hfe]; omega)
          clear hs43 ht43 hM hM0 hB gx gu hps hps2 hfbi hfe hun han hP1 hP2 q1 q2 hxy
          go_wp2_with (first|go_big_skip|((with_reducible refine at_load ?_);first|(refine wm_load (cs := ?_) (t := ?_) (n := ?_) K rfl _ _ rfl rfl ?_ ?_ ?_ ?_;rotate_left 2;(repeat (first|exact At.hd|refine At.tl ?_));rotate_left;(with_reducible first|exact row47|exact row88);(solve|exact rfl|simp))|(refine wm_own (cs := ?_) (t := ?_) (v := ?_) K rfl _ _ rfl rfl ?_ ?_ ?_ ?_;rotate_left 2;(repeat (first|exact At.hd|refine At.tl ?_));rotate_left;(first|exact rfl|assumption);(with_reducible first|exact one86|exact one102))|(refine wm_cell (v := ?_) rfl _ _ rfl rfl ?_ ?_ ?_;rotate_left;(first|assumption|exact (K.below.cell (by assumption)).trans (by assumption));(with_reducible first|exact one86|exact one102)))|((with_reducible refine at_store ?_);first|(refine wm_store (L' := ?_) (cs := ?_) (t := ?_) (n := ?_) K rfl _ _ _ rfl rfl rfl rfl ?_ ?_ ?_ ?_ ?_ ?_;rotate_left 3;(repeat (first|exact Put.hd|(refine Put.tl (L' := ?_) ?_;rotate_left)));rotate_left;(with_reducible first|exact row47|exact row88);(solve|exact rfl|simp);(solve|exact rfl|simp);(solve|exact rfl|simp [Ones, Value.oneCell']);(try clear K);(try clear ww);intro ww K;(try simp [go_sem] at K))|(refine wm_put (L' := ?_) (cs := ?_) (new := ?_) (t := ?_) K rfl _ _ _ rfl rfl rfl rfl ?_ ?_ ?_ ?_ rfl rfl ?_;rotate_left 4;(repeat (first|exact Put.hd|(refine Put.tl (L' := ?_) ?_;rotate_left)));(solve|exact Nat.le_of_ble_eq_true rfl|decide|(simp only [List.size_toArray, nums_length];first|assumption|omega)|(simp only [List.size_toArray, nums_length, List.length_set];first|assumption|omega)|simp|omega|(simp only [List.size_toArray, nums_length];omega)|assumption);(solve|(simp only [List.setIfInBounds_toArray];exact rfl)|exact nums_set _ _ _ _|simp only [List.setIfInBounds_toArray, List.set_cons_zero]|simp only [List.setIfInBounds_toArray, List.set_cons_zero, List.set_cons_succ]|(simp only [List.setIfInBounds_toArray, List.set_cons_zero, List.set_cons_succ];exact rfl)|exact rfl);(with_reducible first|exact one86|exact one102);(try clear K);(try clear ww);intro ww K;(try simp [go_sem] at K)))|(go_at_call 62;(with_reducible refine (K.mulRB HA.out K.fact.2.1.1 B0.out HTLb.out).mono ?_);rintro e w2 ⟨_, _, _, rfl, K2⟩;(try dsimp only);replace K := K2;clear K2;(try clear ww);revert w2;intro ww K)|(go_at_call 62;(with_reducible refine (K.mulRB (HU.out.below K.below) K.fact.2.2.2.1.1 B0u.out HSL.out).mono ?_);rintro e w2 ⟨_, _, _, rfl, K2⟩;(try dsimp only);replace K := K2;clear K2;(try clear ww);revert w2;intro ww K)|(go_at_call 108;(with_reducible refine (Less_lit K.fact.2.1.1 K.fact.1.1 B1.out B2.out hlx.out).mono ?_);rintro e w2 ⟨rfl, k1⟩;replace K := K.step k1;clear k1;(try clear ww);revert w2;intro ww K)|(go_at_call 110;(with_reducible refine (K.lessR K.fact.2.1.1 K.fact.1.1 B1.out hle.out).mono ?_);rintro e w2 ⟨_, _, _, rfl, K2⟩;(try dsimp only);replace K := K2;clear K2;(try clear ww);revert w2;intro ww K)|(go_at_call 109;(with_reducible refine (K.addRG K.fact.2.2.2.1.1 K.fact.1.1 B4.out B3.out).mono ?_);rintro e w2 ⟨_, _, _, rfl, K2⟩;(try dsimp only);replace K := K2;clear K2;(try clear ww);revert w2;intro ww K))
          exact ⟨⟨i + 1, _, _, _, by omega, by go_num, rfl, K.weak fun w h => ⟨by rw [psumN, HFI.out]; exact h.1, h.2.2.2.2.2.1, h.2.2.2.2.2.2.1, h.2.2.2.2.2.2.2⟩⟩, by simp [intOf]; omega⟩
      · obtain rfl : n = i := by omega
        have ht : decide ((n : Int) < n) = false := decide_eq_false (by omega)
        have htn : decide (n < n) = false := decide_eq_false (by omega)
        obtain ⟨hs43, ht43, hM, hM0, hB⟩ := HST.out
        have hps := psumN_le (f := f) (n := n) (C := 5000 * M * 1073741824 + M * (5000 * 1073741824)) HFB.out
        have hps2 := Nat.mul_le_mul_right (5000 * M * 1073741824 + M * (5000 * 1073741824)) hn
        obtain ⟨bn, hbn⟩ : ∃ bn, b.toNat = bn := ⟨_, rfl⟩
        have hbn1 : bn < 9223372036854775808 := by omega
        obtain ⟨D, hD⟩ : ∃ D, psumN f n = D := ⟨_, rfl⟩
        rw [hD] at hps
        have B1 := Lib.hid (show D < Big by omega)
        have st := Nat.mul_le_mul hs43 ht43
        obtain ⟨Q, hQ⟩ : ∃ Q, s * t = Q := ⟨_, rfl⟩
        rw [hQ] at st
        have stb := Nat.mul_le_mul st (Nat.le_of_lt hbn1)
        obtain ⟨Q2, hQ2⟩ : ∃ Q2, Q * bn = Q2 := ⟨_, rfl⟩
        rw [hQ2] at stb
        have B2 := Lib.hid (show s * t < Big by rewrite [hQ]; omega)
        have B3 := Lib.hid (show s * t * bn < Big by rewrite [hQ, hQ2]; omega)
        have B4 := Lib.hid (show s * t * bn + s * t * bn < Big by rewrite [hQ, hQ2]; omega)
        have B5 := Lib.hid (show D * 1099511627776 < Big from over_b2 hps hps2 hM hM0)
        have B6 := Lib.hid (show bn < Big from big_of (Nat.lt_of_lt_of_le hbn1 (by decide)))
        have hvd := HVD.out
        rw [hbn, hD] at hvd
        have hcm : Hid (decide (s * t * bn + s * t * bn < D * 1099511627776) = vv) := Lib.hid (rover_cmp hvd.symm)
        have hb64 : bn < 18446744073709551616 := by omega
        rw [hD] at K
        by_cases hb0 : 0 < b
        · have t1 : decide (0 < b) = true := decide_eq_true hb0
          obtain rfl : b = (bn : Int) := by omega
          have t1n : decide (0 < bn) = true := decide_eq_true (by omega)
          have m2h : Hid (IntKind.u64.wrap (bn : Int) = bn) := Lib.hid (IntWalk.u64_in _ (by omega))
          clear hs43 ht43 hM hM0 hB hps hps2 hbn hbn1 st stb hQ hQ2 hvd hD hb0
          have m2 := m2h.out
          go_wp2_with (first|go_big_skip|((with_reducible refine at_load ?_);first|(refine wm_load (cs := ?_) (t := ?_) (n := ?_) K rfl _ _ rfl rfl ?_ ?_ ?_ ?_;rotate_left 2;(repeat (first|exact At.hd|refine At.tl ?_));rotate_left;(with_reducible first|exact row47|exact row88);(solve|exact rfl|simp))|(refine wm_own (cs := ?_) (t := ?_) (v := ?_) K rfl _ _ rfl rfl ?_ ?_ ?_ ?_;rotate_left 2;(repeat (first|exact At.hd|refine At.tl ?_));rotate_left;(first|exact rfl|assumption);(with_reducible first|exact one86|exact one102))|(refine wm_cell (v := ?_) rfl _ _ rfl rfl ?_ ?_ ?_;rotate_left;(first|assumption|exact (K.below.cell (by assumption)).trans (by assumption));(with_reducible first|exact one86|exact one102)))|((with_reducible refine at_store ?_);first|(refine wm_store (L' := ?_) (cs := ?_) (t := ?_) (n := ?_) K rfl _ _ _ rfl rfl rfl rfl ?_ ?_ ?_ ?_ ?_ ?_;rotate_left 3;(repeat (first|exact Put.hd|(refine Put.tl (L' := ?_) ?_;rotate_left)));rotate_left;(with_reducible first|exact row47|exact row88);(solve|exact rfl|simp);(solve|exact rfl|simp);(solve|exact rfl|simp [Ones, Value.oneCell']);(try clear K);(try clear ww);intro ww K;(try simp [go_sem] at K))|(refine wm_put (L' := ?_) (cs := ?_) (new := ?_) (t := ?_) K rfl _ _ _ rfl rfl rfl rfl ?_ ?_ ?_ ?_ rfl rfl ?_;rotate_left 4;(repeat (first|exact Put.hd|(refine Put.tl (L' := ?_) ?_;rotate_left)));(solve|exact Nat.le_of_ble_eq_true rfl|decide|(simp only [List.size_toArray, nums_length];first|assumption|omega)|(simp only [List.size_toArray, nums_length, List.length_set];first|assumption|omega)|simp|omega|(simp only [List.size_toArray, nums_length];omega)|assumption);(solve|(simp only [List.setIfInBounds_toArray];exact rfl)|exact nums_set _ _ _ _|simp only [List.setIfInBounds_toArray, List.set_cons_zero]|simp only [List.setIfInBounds_toArray, List.set_cons_zero, List.set_cons_succ]|(simp only [List.setIfInBounds_toArray, List.set_cons_zero, List.set_cons_succ];exact rfl)|exact rfl);(with_reducible first|exact one86|exact one102);(try clear K);(try clear ww);intro ww K;(try simp [go_sem] at K)))|(go_at_call 62;(with_reducible refine (K.mulRB K.fact.2.2.1.1 K.fact.2.1.1 HSL.out HTLb.out).mono ?_);rintro e w2 ⟨_, _, _, rfl, K2⟩;(try dsimp only);replace K := K2;clear K2;(try clear ww);revert w2;intro ww K)|(go_at_call 97;(with_reducible refine (K.small bn rfl hb64).mono ?_);rintro e w2 ⟨_, _, _, rfl, K2⟩;(try dsimp only);replace K := K2;clear K2;(try clear ww);revert w2;intro ww K)|(go_at_call 62;(with_reducible refine (K.mulRB K.fact.2.1.1 K.fact.1.1 B2.out B6.out).mono ?_);rintro e w2 ⟨_, _, _, rfl, K2⟩;(try dsimp only);replace K := K2;clear K2;(try clear ww);revert w2;intro ww K)|(go_at_call 109;(with_reducible refine (K.addRG K.fact.1.1 K.fact.1.1 B3.out B3.out).mono ?_);rintro e w2 ⟨_, _, _, rfl, K2⟩;(try dsimp only);replace K := K2;clear K2;(try clear ww);revert w2;intro ww K)|(go_at_call 97;(with_reducible refine (K.small 1099511627776 lit40 small40).mono ?_);rintro e w2 ⟨_, _, _, rfl, K2⟩;(try dsimp only);replace K := K2;clear K2;(try clear ww);revert w2;intro ww K)|(go_at_call 62;(with_reducible refine (K.mulRB (by first|exact K.fact.1.1|exact K.fact.2.1.1|exact K.fact.2.2.1.1|exact K.fact.2.2.2.1.1|exact K.fact.2.2.2.2.1.1|exact K.fact.2.2.2.2.2.1.1|exact K.fact.2.2.2.2.2.2.1.1|exact K.fact.2.2.2.2.2.2.2.1.1|exact K.fact.2.2.2.2.2.2.2.2.1.1|exact K.fact.2.2.2.2.2.2.2.2.2.1.1|exact K.fact.2.2.2.2.2.2.2.2.2.2.1.1|exact K.fact.2.2.2.2.2.2.2.2.2.2.2.1.1|exact K.fact.2.2.2.2.2.2.2.2.2.2.2.2.1.1|exact K.fact.2.2.2.2.2.2.2.2.2.2.2.2.2.1.1|exact K.fact.1|exact K.fact.2.1|exact K.fact.2.2.1|exact K.fact.2.2.2.1|exact K.fact.2.2.2.2.1|exact K.fact.2.2.2.2.2.1|exact K.fact.2.2.2.2.2.2.1|exact K.fact.2.2.2.2.2.2.2.1|exact K.fact.2.2.2.2.2.2.2.2.1|exact K.fact.2.2.2.2.2.2.2.2.2.1|exact K.fact.2.2.2.2.2.2.2.2.2.2.1|exact K.fact.2.2.2.2.2.2.2.2.2.2.2.1|exact K.fact.2.2.2.2.2.2.2.2.2.2.2.2.1|exact K.fact.2.2.2.2.2.2.2.2.2.2.2.2.2.1|exact K.fact|exact K.fact.2|exact K.fact.2.2|exact K.fact.2.2.2|exact K.fact.2.2.2.2|exact K.fact.2.2.2.2.2|exact K.fact.2.2.2.2.2.2|exact K.fact.2.2.2.2.2.2.2|exact K.fact.2.2.2.2.2.2.2.2|exact K.fact.2.2.2.2.2.2.2.2.2|exact K.fact.2.2.2.2.2.2.2.2.2.2|exact K.fact.2.2.2.2.2.2.2.2.2.2.2|exact K.fact.2.2.2.2.2.2.2.2.2.2.2.2|exact K.fact.2.2.2.2.2.2.2.2.2.2.2.2.2) K.fact.1.1 B1.out big40).mono ?_);rintro e w2 ⟨_, _, _, rfl, K2⟩;(try dsimp only);replace K := K2;clear K2;(try clear ww);revert w2;intro ww K)|(go_at_call 108;(with_reducible refine (Less_lit K.fact.2.2.1.1 K.fact.1.1 B4.out B5.out hcm.out).mono ?_);rintro e w2 ⟨rfl, k1⟩;replace K := K.step k1;clear k1;(try clear ww);revert w2;intro ww K))
          clear m2
          go_ret
          exact ⟨rfl, K.below⟩
        · have t1 : decide (0 < b) = false := decide_eq_false hb0
          obtain rfl : bn = 0 := by omega
          clear hs43 ht43 hM hM0 hB hps hps2 hbn hbn1 st stb hQ hQ2 hvd hD hb0
          go_wp2_with (first|go_big_skip|((with_reducible refine at_load ?_);first|(refine wm_load (cs := ?_) (t := ?_) (n := ?_) K rfl _ _ rfl rfl ?_ ?_ ?_ ?_;rotate_left 2;(repeat (first|exact At.hd|refine At.tl ?_));rotate_left;(with_reducible first|exact row47|exact row88);(solve|exact rfl|simp))|(refine wm_own (cs := ?_) (t := ?_) (v := ?_) K rfl _ _ rfl rfl ?_ ?_ ?_ ?_;rotate_left 2;(repeat (first|exact At.hd|refine At.tl ?_));rotate_left;(first|exact rfl|assumption);(with_reducible first|exact one86|exact one102))|(refine wm_cell (v := ?_) rfl _ _ rfl rfl ?_ ?_ ?_;rotate_left;(first|assumption|exact (K.below.cell (by assumption)).trans (by assumption));(with_reducible first|exact one86|exact one102)))|((with_reducible refine at_store ?_);first|(refine wm_store (L' := ?_) (cs := ?_) (t := ?_) (n := ?_) K rfl _ _ _ rfl rfl rfl rfl ?_ ?_ ?_ ?_ ?_ ?_;rotate_left 3;(repeat (first|exact Put.hd|(refine Put.tl (L' := ?_) ?_;rotate_left)));rotate_left;(with_reducible first|exact row47|exact row88);(solve|exact rfl|simp);(solve|exact rfl|simp);(solve|exact rfl|simp [Ones, Value.oneCell']);(try clear K);(try clear ww);intro ww K;(try simp [go_sem] at K))|(refine wm_put (L' := ?_) (cs := ?_) (new := ?_) (t := ?_) K rfl _ _ _ rfl rfl rfl rfl ?_ ?_ ?_ ?_ rfl rfl ?_;rotate_left 4;(repeat (first|exact Put.hd|(refine Put.tl (L' := ?_) ?_;rotate_left)));(solve|exact Nat.le_of_ble_eq_true rfl|decide|(simp only [List.size_toArray, nums_length];first|assumption|omega)|(simp only [List.size_toArray, nums_length, List.length_set];first|assumption|omega)|simp|omega|(simp only [List.size_toArray, nums_length];omega)|assumption);(solve|(simp only [List.setIfInBounds_toArray];exact rfl)|exact nums_set _ _ _ _|simp only [List.setIfInBounds_toArray, List.set_cons_zero]|simp only [List.setIfInBounds_toArray, List.set_cons_zero, List.set_cons_succ]|(simp only [List.setIfInBounds_toArray, List.set_cons_zero, List.set_cons_succ];exact rfl)|exact rfl);(with_reducible first|exact one86|exact one102);(try clear K);(try clear ww);intro ww K;(try simp [go_sem] at K)))|(go_at_call 62;(with_reducible refine (K.mulRB K.fact.2.2.1.1 K.fact.2.1.1 HSL.out HTLb.out).mono ?_);rintro e w2 ⟨_, _, _, rfl, K2⟩;(try dsimp only);replace K := K2;clear K2;(try clear ww);revert w2;intro ww K)|(go_at_call 97;(with_reducible refine (K.small 0 lit0 hb64).mono ?_);rintro e w2 ⟨_, _, _, rfl, K2⟩;(try dsimp only);replace K := K2;clear K2;(try clear ww);revert w2;intro ww K)|(go_at_call 62;(with_reducible refine (K.mulRB K.fact.2.1.1 K.fact.1.1 B2.out B6.out).mono ?_);rintro e w2 ⟨_, _, _, rfl, K2⟩;(try dsimp only);replace K := K2;clear K2;(try clear ww);revert w2;intro ww K)|(go_at_call 109;(with_reducible refine (K.addRG K.fact.1.1 K.fact.1.1 B3.out B3.out).mono ?_);rintro e w2 ⟨_, _, _, rfl, K2⟩;(try dsimp only);replace K := K2;clear K2;(try clear ww);revert w2;intro ww K)|(go_at_call 97;(with_reducible refine (K.small 1099511627776 lit40 small40).mono ?_);rintro e w2 ⟨_, _, _, rfl, K2⟩;(try dsimp only);replace K := K2;clear K2;(try clear ww);revert w2;intro ww K)|(go_at_call 62;(with_reducible refine (K.mulRB (by first|exact K.fact.1.1|exact K.fact.2.1.1|exact K.fact.2.2.1.1|exact K.fact.2.2.2.1.1|exact K.fact.2.2.2.2.1.1|exact K.fact.2.2.2.2.2.1.1|exact K.fact.2.2.2.2.2.2.1.1|exact K.fact.2.2.2.2.2.2.2.1.1|exact K.fact.2.2.2.2.2.2.2.2.1.1|exact K.fact.2.2.2.2.2.2.2.2.2.1.1|exact K.fact.2.2.2.2.2.2.2.2.2.2.1.1|exact K.fact.2.2.2.2.2.2.2.2.2.2.2.1.1|exact K.fact.2.2.2.2.2.2.2.2.2.2.2.2.1.1|exact K.fact.2.2.2.2.2.2.2.2.2.2.2.2.2.1.1|exact K.fact.1|exact K.fact.2.1|exact K.fact.2.2.1|exact K.fact.2.2.2.1|exact K.fact.2.2.2.2.1|exact K.fact.2.2.2.2.2.1|exact K.fact.2.2.2.2.2.2.1|exact K.fact.2.2.2.2.2.2.2.1|exact K.fact.2.2.2.2.2.2.2.2.1|exact K.fact.2.2.2.2.2.2.2.2.2.1|exact K.fact.2.2.2.2.2.2.2.2.2.2.1|exact K.fact.2.2.2.2.2.2.2.2.2.2.2.1|exact K.fact.2.2.2.2.2.2.2.2.2.2.2.2.1|exact K.fact.2.2.2.2.2.2.2.2.2.2.2.2.2.1|exact K.fact|exact K.fact.2|exact K.fact.2.2|exact K.fact.2.2.2|exact K.fact.2.2.2.2|exact K.fact.2.2.2.2.2|exact K.fact.2.2.2.2.2.2|exact K.fact.2.2.2.2.2.2.2|exact K.fact.2.2.2.2.2.2.2.2|exact K.fact.2.2.2.2.2.2.2.2.2|exact K.fact.2.2.2.2.2.2.2.2.2.2|exact K.fact.2.2.2.2.2.2.2.2.2.2.2|exact K.fact.2.2.2.2.2.2.2.2.2.2.2.2|exact K.fact.2.2.2.2.2.2.2.2.2.2.2.2.2) K.fact.1.1 B1.out big40).mono ?_);rintro e w2 ⟨_, _, _, rfl, K2⟩;(try dsimp only);replace K := K2;clear K2;(try clear ww);revert w2;intro ww K)|(go_at_call 108;(with_reducible refine (Less_lit K.fact.2.2.1.1 K.fact.1.1 B4.out B5.out hcm.out).mono ?_);rintro e w2 ⟨rfl, k1⟩;replace K := K.step k1;clear k1;(try clear ww);revert w2;intro ww K))
          go_ret
          exact ⟨rfl, K.below⟩
end Go.Proofs.Yteancdipmpmjpaa
namespace Go.Proofs.Yteancdipmpmjpaa
open Go.RowKit
attribute [local irreducible] wpHeld wpTree wpList
set_option linter.unusedVariables false
theorem Same_eq {A A2 : Option Addr} {n c m d X Y : Nat} {w : World} (hx : Rf w A n c X) (hy : Rf w A2 m d Y) (b1 : X < Big) (e : Y = X) :
    Calls Try.prog 127 #[.slice A n c, .slice A2 m d] w fun e w' => e = .returned (.bool true) ∧ Below w.heap.size w w' := by
  subst e
  exact Same_same hx hy b1
theorem none_eq {k5 k6 S T : Nat} (h5 : k5 = 0 ↔ S = 0) (h6 : k6 = 0 ↔ T = 0) (h : S = 0 ↔ T = 0) : (decide (0 < k5) == decide (0 < k6)) = true := by
  by_cases hS : S = 0
  · have e5 := h5.2 hS
    have e6 := h6.2 (h.1 hS)
    rw [e5, e6]; rfl
  · have e5 : 0 < k5 := by have := fun e => hS (h5.1 e); omega
    have e6 : 0 < k6 := by have := fun e => hS (h.2 (h6.1 e)); omega
    rw [decide_eq_true e5, decide_eq_true e6]; rfl
set_option maxRecDepth 100000 in
set_option maxHeartbeats 8000000 in
theorem RAlike17 (p q n c c2 : Nat) (A A2 : Option Addr) (us ys : List Nat) (w : World) (h : Fr w A n us) (h2 : Fr w A2 n ys) (hn : n ≤ 5000) (hS : us.sum < Big) (hT : ys.sum < Big) (hE : ∀ i, ys.getD i 0 * us.sum = us.getD i 0 * ys.sum) (hz : us.sum = 0 ↔ ys.sum = 0) (hP : ∀ i, us.getD i 0 * ys.sum < Big) :
    Calls Try.prog 100 #[.agg #[.int .i64 p, .int .i64 q, .slice A n c], .agg #[.int .i64 p, .int .i64 q, .slice A2 n c2]] w fun e w' => e = .returned (.bool true) ∧ Below w.heap.size w w' := by
  have K := St.start w
  have H1 := Lib.hid h
  have H2 := Lib.hid h2
  have S1 := Lib.hid (fun (B : Nat) (w0 : World) (L : List Blk) (F : World → Prop) (w : World) (K : St B w0 L F w) (h : Fr w A n us) => K.sumR17 (W := (p : Int)) (H := (q : Int)) (c := c) h hn hS)
  have S2 := Lib.hid (fun (B : Nat) (w0 : World) (L : List Blk) (F : World → Prop) (w : World) (K : St B w0 L F w) (h : Fr w A2 n ys) => K.sumR17 (W := (p : Int)) (H := (q : Int)) (c := c2) h hn hT)
  have HBU : Hid (∀ i, us.getD i 0 < Big) := Lib.hid fun i => Nat.lt_of_le_of_lt getDR_le hS
  have HBY : Hid (∀ i, ys.getD i 0 < Big) := Lib.hid fun i => Nat.lt_of_le_of_lt getDR_le hT
  obtain ⟨s, hs⟩ : ∃ s, us.sum = s := ⟨_, rfl⟩
  obtain ⟨t, ht⟩ : ∃ t, ys.sum = t := ⟨_, rfl⟩
  rw [hs] at S1 hE hz hS
  rw [ht] at S2 hE hz hT hP
  have HP := Lib.hid hP
  have HE := Lib.hid hE
  have HZ := Lib.hid hz
  have HS := Lib.hid hS
  have HT := Lib.hid hT
  clear h h2 hE hz hS hT hs ht hP
  go_enter Try.func100, Try.ntmps100
  go_wp2_with (first|go_big_skip|((with_reducible refine at_load ?_);first|(refine wm_load (cs := ?_) (t := ?_) (n := ?_) K rfl _ _ rfl rfl ?_ ?_ ?_ ?_;rotate_left 2;(repeat (first|exact At.hd|refine At.tl ?_));rotate_left;(with_reducible first|exact row88);(solve|exact rfl|simp))|(refine wm_own (cs := ?_) (t := ?_) (v := ?_) K rfl _ _ rfl rfl ?_ ?_ ?_ ?_;rotate_left 2;(repeat (first|exact At.hd|refine At.tl ?_));rotate_left;(first|exact rfl|assumption);(with_reducible first|exact one3|exact one86|exact one102))|(refine wm_cell (v := ?_) rfl _ _ rfl rfl ?_ ?_ ?_;rotate_left;(first|assumption|exact (K.below.cell (by assumption)).trans (by assumption));(with_reducible first|exact one3|exact one86|exact one102)))|((with_reducible refine at_store ?_);first|(refine wm_store (L' := ?_) (cs := ?_) (t := ?_) (n := ?_) K rfl _ _ _ rfl rfl rfl rfl ?_ ?_ ?_ ?_ ?_ ?_;rotate_left 3;(repeat (first|exact Put.hd|(refine Put.tl (L' := ?_) ?_;rotate_left)));rotate_left;(with_reducible first|exact row88);(solve|exact rfl|simp);(solve|exact rfl|simp);(solve|exact rfl|simp [Ones, Value.oneCell']);(try clear K);(try clear ww);intro ww K;(try simp [go_sem] at K))|(refine wm_put (L' := ?_) (cs := ?_) (new := ?_) (t := ?_) K rfl _ _ _ rfl rfl rfl rfl ?_ ?_ ?_ ?_ rfl rfl ?_;rotate_left 4;(repeat (first|exact Put.hd|(refine Put.tl (L' := ?_) ?_;rotate_left)));(solve|exact Nat.le_of_ble_eq_true rfl|decide|(simp only [List.size_toArray, nums_length];first|assumption|omega)|(simp only [List.size_toArray, nums_length, List.length_set];first|assumption|omega)|simp|omega|(simp only [List.size_toArray, nums_length];omega)|assumption);(solve|(simp only [List.setIfInBounds_toArray];exact rfl)|exact nums_set _ _ _ _|simp only [List.setIfInBounds_toArray, List.set_cons_zero]|simp only [List.setIfInBounds_toArray, List.set_cons_zero, List.set_cons_succ]|(simp only [List.setIfInBounds_toArray, List.set_cons_zero, List.set_cons_succ];exact rfl)|exact rfl);(with_reducible first|exact one3|exact one86|exact one102);(try clear K);(try clear ww);intro ww K;(try simp [go_sem] at K)))|(first|((with_reducible refine at_box ?_);refine wm_box K rfl _ _ rfl rfl rfl ?_;(try clear K);(try clear ww);(first|((fail_if_success (have _h := b2));intro b2 ww K)|((fail_if_success (have _h := b3));intro b3 ww K));(try simp [go_sem, Value.cells] at K))|((with_reducible refine at_alloc ?_);refine wm_alloc (v := ?_) (cs := ?_) K rfl _ rfl ?_ ?_ ?_;rotate_left;(with_reducible first|fail);rotate_left;exact rfl;(try clear K);(try clear ww);(first|((fail_if_success (have _h := b2));intro b2 ww K)|((fail_if_success (have _h := b3));intro b3 ww K));(try simp [go_sem, Value.cells] at K)))|(go_at_call 107;(first|(have zz := S1.out _ _ _ _ _ K (H1.out.below K.below);(with_reducible refine zz.mono ?_);clear zz;rintro e w2 ⟨a1, k1, c1, rfl, K2⟩)|(have zz := S2.out _ _ _ _ _ K (H2.out.below K.below);(with_reducible refine zz.mono ?_);clear zz;rintro e w2 ⟨a2, k2, c2', rfl, K2⟩));(try dsimp only);replace K := K2;clear K2;(try clear ww);revert w2;intro ww K))
  go_loopw [7] (fun i wr => ∃ (k : Nat), k ≤ n ∧ i = .int .i64 k ∧ St w.heap.size w [(b3, #[.int .i64 p, .int .i64 q, .slice A2 n c2], 88), (b2, #[.int .i64 p, .int .i64 q, .slice A n c], 88)] (fun w2 => (Rf w2 a2 k2 c2' t ∧ Nw w.heap.size a2) ∧ (Rf w2 a1 k1 c1 s ∧ Nw w.heap.size a1)) wr) (fun i _ => n - (intOf i).toNat)
  case atStart => exact ⟨0, Nat.zero_le _, rfl, K.weak fun w h => ⟨h.1, h.2.1⟩⟩
  case round =>
    clear K
    obtain ⟨i, hi, rfl, K⟩ := hrel
    by_cases hlt : i < n
    · have ht : decide ((i : Int) < n) = true := decide_eq_true (by omega)
      have htn : decide (i < n) = true := decide_eq_true hlt
      obtain ⟨ab, ao, aa, ak, ac, rfl, hab, hac, han⟩ := H1.out.get hlt
      obtain ⟨ub, uo, ua, uk, uc, rfl, hub, huc, hun⟩ := H2.out.get hlt
      have B1 := Lib.hid (HBU.out i)
      have B2 := Lib.hid (HBY.out i)
      have EQ := Lib.hid (HE.out i)
      have B3 := Lib.hid (HP.out i)
      generalize us.getD i 0 = x at *
      generalize ys.getD i 0 = y at *
      have HX := Lib.hid han
      have HY := Lib.hid hun
      clear han hun
      go_wp2_with (first|go_big_skip|((with_reducible refine at_load ?_);first|(refine wm_load (cs := ?_) (t := ?_) (n := ?_) K rfl _ _ rfl rfl ?_ ?_ ?_ ?_;rotate_left 2;(repeat (first|exact At.hd|refine At.tl ?_));rotate_left;(with_reducible first|exact row88);(solve|exact rfl|simp))|(refine wm_own (cs := ?_) (t := ?_) (v := ?_) K rfl _ _ rfl rfl ?_ ?_ ?_ ?_;rotate_left 2;(repeat (first|exact At.hd|refine At.tl ?_));rotate_left;(first|exact rfl|assumption);(with_reducible first|exact one3|exact one86|exact one102))|(refine wm_cell (v := ?_) rfl _ _ rfl rfl ?_ ?_ ?_;rotate_left;(first|assumption|exact (K.below.cell (by assumption)).trans (by assumption));(with_reducible first|exact one3|exact one86|exact one102)))|((with_reducible refine at_store ?_);first|(refine wm_store (L' := ?_) (cs := ?_) (t := ?_) (n := ?_) K rfl _ _ _ rfl rfl rfl rfl ?_ ?_ ?_ ?_ ?_ ?_;rotate_left 3;(repeat (first|exact Put.hd|(refine Put.tl (L' := ?_) ?_;rotate_left)));rotate_left;(with_reducible first|exact row88);(solve|exact rfl|simp);(solve|exact rfl|simp);(solve|exact rfl|simp [Ones, Value.oneCell']);(try clear K);(try clear ww);intro ww K;(try simp [go_sem] at K))|(refine wm_put (L' := ?_) (cs := ?_) (new := ?_) (t := ?_) K rfl _ _ _ rfl rfl rfl rfl ?_ ?_ ?_ ?_ rfl rfl ?_;rotate_left 4;(repeat (first|exact Put.hd|(refine Put.tl (L' := ?_) ?_;rotate_left)));(solve|exact Nat.le_of_ble_eq_true rfl|decide|(simp only [List.size_toArray, nums_length];first|assumption|omega)|(simp only [List.size_toArray, nums_length, List.length_set];first|assumption|omega)|simp|omega|(simp only [List.size_toArray, nums_length];omega)|assumption);(solve|(simp only [List.setIfInBounds_toArray];exact rfl)|exact nums_set _ _ _ _|simp only [List.setIfInBounds_toArray, List.set_cons_zero]|simp only [List.setIfInBounds_toArray, List.set_cons_zero, List.set_cons_succ]|(simp only [List.setIfInBounds_toArray, List.set_cons_zero, List.set_cons_succ];exact rfl)|exact rfl);(with_reducible first|exact one3|exact one86|exact one102);(try clear K);(try clear ww);intro ww K;(try simp [go_sem] at K))))
      refine wm_held _ [(true, 0), (true, 1), (true, 2), (true, 3), (true, 4), (true, 5), (true, 7), (true, 8), (true, 9), (true, 10), (true, 11), (true, 12), (false, 6), (false, 13), (false, 14), (true, 15)] K sb2s (by kernel_rfl) (by kernel_rfl) ?_; (try clear K); (try clear ww); intro ww K; (try simp [go_sem] at K); simp only [pick, List.getElem?_toArray, List.getElem?_cons_succ, List.getElem?_cons_zero]
      repeat (first|((with_reducible refine ht_load ?_);first|(refine hm_load (cs := ?_) (t := ?_) (n := ?_) rfl _ _ rfl rfl ?_ ?_ ?_ ?_;rotate_left 2;(repeat (first|exact At.hd|refine At.tl ?_));rotate_left;(with_reducible first|exact row88);(solve|exact rfl|simp))|(refine hm_own (cs := ?_) (t := ?_) (v := ?_) rfl _ _ rfl rfl ?_ ?_ ?_ ?_;rotate_left 2;(repeat (first|exact At.hd|refine At.tl ?_));rotate_left;(first|exact rfl|assumption);(with_reducible first|exact one3|exact one86|exact one102))|(refine hm_cell (v := ?_) rfl _ _ rfl rfl (fun ww K => ?_) ?_ ?_;rotate_left;(first|assumption|exact (K.below.cell (by assumption)).trans (by assumption));(with_reducible first|exact one3|exact one86|exact one102)))|(refine held_take (fun K' hK' => ?_);go_simp;first|(refine hK' _ ?_;clear hK' K')|(apply Exists.intro;refine ⟨?_, hK' _ ?_⟩;(intro _ _;rfl);clear hK' K'))|((with_reducible refine ht_store ?_);first|(refine hm_store (L' := ?_) (cs := ?_) (t := ?_) (n := ?_) K rfl _ _ _ rfl rfl rfl rfl ?_ ?_ ?_ ?_ ?_ ?_;rotate_left 3;(repeat (first|exact Put.hd|(refine Put.tl (L' := ?_) ?_;rotate_left)));rotate_left;(with_reducible first|exact row88);(solve|exact rfl|simp);(solve|exact rfl|simp);(solve|exact rfl|simp [Ones, Value.oneCell']);(try clear K);(try clear ww);intro ww K;(try simp [go_sem] at K);refine ⟨(by first|exact (K).sub sb2s|exact (K.weak fun _ h => h.2).sub sb2s|exact (K.weak fun _ h => h.2.2).sub sb2s|exact (K.weak fun _ h => h.2.2.2).sub sb2s|exact (K.weak fun _ h => h.2.2.2.2).sub sb2s|exact (K.weak fun _ h => h.2.2.2.2.2).sub sb2s|exact (K.weak fun _ h => h.2.2.2.2.2.2).sub sb2s|exact (K.weak fun _ h => h.2.2.2.2.2.2.2).sub sb2s|exact (K.tail).sub sb2s|exact (K.tail.weak fun _ h => h.2).sub sb2s|exact (K.tail.weak fun _ h => h.2.2).sub sb2s|exact (K.tail.weak fun _ h => h.2.2.2).sub sb2s|exact (K.tail.weak fun _ h => h.2.2.2.2).sub sb2s|exact (K.tail.weak fun _ h => h.2.2.2.2.2).sub sb2s|exact (K.tail.weak fun _ h => h.2.2.2.2.2.2).sub sb2s|exact (K.tail.weak fun _ h => h.2.2.2.2.2.2.2).sub sb2s), ?_⟩)|(refine hm_put (L' := ?_) (cs := ?_) (new := ?_) (t := ?_) K rfl _ _ _ rfl rfl rfl rfl ?_ ?_ ?_ ?_ rfl rfl ?_;rotate_left 4;(repeat (first|exact Put.hd|(refine Put.tl (L' := ?_) ?_;rotate_left)));(solve|exact Nat.le_of_ble_eq_true rfl|decide|(simp only [List.size_toArray, nums_length];first|assumption|omega)|(simp only [List.size_toArray, nums_length, List.length_set];first|assumption|omega)|simp|omega|(simp only [List.size_toArray, nums_length];omega)|assumption);(solve|(simp only [List.setIfInBounds_toArray];exact rfl)|exact nums_set _ _ _ _|simp only [List.setIfInBounds_toArray, List.set_cons_zero]|simp only [List.setIfInBounds_toArray, List.set_cons_zero, List.set_cons_succ]|(simp only [List.setIfInBounds_toArray, List.set_cons_zero, List.set_cons_succ];exact rfl)|exact rfl);(with_reducible first|exact one3|exact one86|exact one102);(try clear K);(try clear ww);intro ww K;(try simp [go_sem] at K);refine ⟨(by first|exact (K).sub sb2s|exact (K.weak fun _ h => h.2).sub sb2s|exact (K.weak fun _ h => h.2.2).sub sb2s|exact (K.weak fun _ h => h.2.2.2).sub sb2s|exact (K.weak fun _ h => h.2.2.2.2).sub sb2s|exact (K.weak fun _ h => h.2.2.2.2.2).sub sb2s|exact (K.weak fun _ h => h.2.2.2.2.2.2).sub sb2s|exact (K.weak fun _ h => h.2.2.2.2.2.2.2).sub sb2s|exact (K.tail).sub sb2s|exact (K.tail.weak fun _ h => h.2).sub sb2s|exact (K.tail.weak fun _ h => h.2.2).sub sb2s|exact (K.tail.weak fun _ h => h.2.2.2).sub sb2s|exact (K.tail.weak fun _ h => h.2.2.2.2).sub sb2s|exact (K.tail.weak fun _ h => h.2.2.2.2.2).sub sb2s|exact (K.tail.weak fun _ h => h.2.2.2.2.2.2).sub sb2s|exact (K.tail.weak fun _ h => h.2.2.2.2.2.2.2).sub sb2s), ?_⟩))|(refine held_do (fun K' hK' => ?_);go_simp;go_at_call 62;have zz := K.mulRB (HX.out.below K.below) K.fact.1.1 B1.out HT.out;(with_reducible refine zz.mono ?_);clear zz;rintro e w2 ⟨_, _, _, rfl, K2⟩;(try dsimp only);refine hK' _ _ (by first|exact (K2).sub sb2s|exact (K2.weak fun _ h => h.2).sub sb2s|exact (K2.weak fun _ h => h.2.2).sub sb2s|exact (K2.weak fun _ h => h.2.2.2).sub sb2s|exact (K2.weak fun _ h => h.2.2.2.2).sub sb2s|exact (K2.weak fun _ h => h.2.2.2.2.2).sub sb2s|exact (K2.weak fun _ h => h.2.2.2.2.2.2).sub sb2s|exact (K2.weak fun _ h => h.2.2.2.2.2.2.2).sub sb2s|exact (K2.tail).sub sb2s|exact (K2.tail.weak fun _ h => h.2).sub sb2s|exact (K2.tail.weak fun _ h => h.2.2).sub sb2s|exact (K2.tail.weak fun _ h => h.2.2.2).sub sb2s|exact (K2.tail.weak fun _ h => h.2.2.2.2).sub sb2s|exact (K2.tail.weak fun _ h => h.2.2.2.2.2).sub sb2s|exact (K2.tail.weak fun _ h => h.2.2.2.2.2.2).sub sb2s|exact (K2.tail.weak fun _ h => h.2.2.2.2.2.2.2).sub sb2s) ?_;replace K := K2;clear hK' K' K2;(try clear ww);revert w2;intro ww K)|(refine held_do (fun K' hK' => ?_);go_simp;go_at_call 62;have zz := K.mulRB (HY.out.below K.below) K.fact.2.2.1 B2.out HS.out;(with_reducible refine zz.mono ?_);clear zz;rintro e w2 ⟨_, _, _, rfl, K2⟩;(try dsimp only);refine hK' _ _ (by first|exact (K2).sub sb2s|exact (K2.weak fun _ h => h.2).sub sb2s|exact (K2.weak fun _ h => h.2.2).sub sb2s|exact (K2.weak fun _ h => h.2.2.2).sub sb2s|exact (K2.weak fun _ h => h.2.2.2.2).sub sb2s|exact (K2.weak fun _ h => h.2.2.2.2.2).sub sb2s|exact (K2.weak fun _ h => h.2.2.2.2.2.2).sub sb2s|exact (K2.weak fun _ h => h.2.2.2.2.2.2.2).sub sb2s|exact (K2.tail).sub sb2s|exact (K2.tail.weak fun _ h => h.2).sub sb2s|exact (K2.tail.weak fun _ h => h.2.2).sub sb2s|exact (K2.tail.weak fun _ h => h.2.2.2).sub sb2s|exact (K2.tail.weak fun _ h => h.2.2.2.2).sub sb2s|exact (K2.tail.weak fun _ h => h.2.2.2.2.2).sub sb2s|exact (K2.tail.weak fun _ h => h.2.2.2.2.2.2).sub sb2s|exact (K2.tail.weak fun _ h => h.2.2.2.2.2.2.2).sub sb2s) ?_;replace K := K2;clear hK' K' K2;(try clear ww);revert w2;intro ww K)|(refine held_do (fun K' hK' => ?_);go_simp;go_at_call 127;have zz := Same_eq K.fact.2.1.1 K.fact.1.1 B3.out EQ.out;(with_reducible refine zz.mono ?_);clear zz;rintro e w2 ⟨rfl, kk1⟩;replace K := K.step kk1;clear kk1;(try clear ww);revert w2;intro ww K;(try dsimp only);refine hK' _ _ (by first|exact (K).sub sbr|exact (K.weak fun _ h => h.2).sub sbr|exact (K.weak fun _ h => h.2.2).sub sbr|exact (K.weak fun _ h => h.2.2.2).sub sbr|exact (K.weak fun _ h => h.2.2.2.2).sub sbr|exact (K.weak fun _ h => h.2.2.2.2.2).sub sbr|exact (K.weak fun _ h => h.2.2.2.2.2.2).sub sbr|exact (K.weak fun _ h => h.2.2.2.2.2.2.2).sub sbr|exact (K.tail).sub sbr|exact (K.tail.weak fun _ h => h.2).sub sbr|exact (K.tail.weak fun _ h => h.2.2).sub sbr|exact (K.tail.weak fun _ h => h.2.2.2).sub sbr|exact (K.tail.weak fun _ h => h.2.2.2.2).sub sbr|exact (K.tail.weak fun _ h => h.2.2.2.2.2).sub sbr|exact (K.tail.weak fun _ h => h.2.2.2.2.2.2).sub sbr|exact (K.tail.weak fun _ h => h.2.2.2.2.2.2.2).sub sbr) ?_;clear hK' K'))
      refine held_nil ?_
      (try go_wp2_with fail)
      exact ⟨⟨i + 1, by omega, by go_num, K.weak fun w h => h.2.2⟩, by simp [intOf]; omega⟩
    · obtain rfl : n = i := by omega
      have ht : decide ((n : Int) < n) = false := decide_eq_false (by omega)
      have htn : decide (n < n) = false := decide_eq_false (by omega)
      have HG : Hid ((decide (0 < k1) == decide (0 < k2)) = true) := Lib.hid (none_eq K.fact.2.1.none0 K.fact.1.1.none0 HZ.out)
      go_wp2_with (first|go_big_skip|((with_reducible refine at_load ?_);first|(refine wm_load (cs := ?_) (t := ?_) (n := ?_) K rfl _ _ rfl rfl ?_ ?_ ?_ ?_;rotate_left 2;(repeat (first|exact At.hd|refine At.tl ?_));rotate_left;(with_reducible first|exact row88);(solve|exact rfl|simp))|(refine wm_own (cs := ?_) (t := ?_) (v := ?_) K rfl _ _ rfl rfl ?_ ?_ ?_ ?_;rotate_left 2;(repeat (first|exact At.hd|refine At.tl ?_));rotate_left;(first|exact rfl|assumption);(with_reducible first|exact one3|exact one86|exact one102))|(refine wm_cell (v := ?_) rfl _ _ rfl rfl ?_ ?_ ?_;rotate_left;(first|assumption|exact (K.below.cell (by assumption)).trans (by assumption));(with_reducible first|exact one3|exact one86|exact one102)))|((with_reducible refine at_store ?_);first|(refine wm_store (L' := ?_) (cs := ?_) (t := ?_) (n := ?_) K rfl _ _ _ rfl rfl rfl rfl ?_ ?_ ?_ ?_ ?_ ?_;rotate_left 3;(repeat (first|exact Put.hd|(refine Put.tl (L' := ?_) ?_;rotate_left)));rotate_left;(with_reducible first|exact row88);(solve|exact rfl|simp);(solve|exact rfl|simp);(solve|exact rfl|simp [Ones, Value.oneCell']);(try clear K);(try clear ww);intro ww K;(try simp [go_sem] at K))|(refine wm_put (L' := ?_) (cs := ?_) (new := ?_) (t := ?_) K rfl _ _ _ rfl rfl rfl rfl ?_ ?_ ?_ ?_ rfl rfl ?_;rotate_left 4;(repeat (first|exact Put.hd|(refine Put.tl (L' := ?_) ?_;rotate_left)));(solve|exact Nat.le_of_ble_eq_true rfl|decide|(simp only [List.size_toArray, nums_length];first|assumption|omega)|(simp only [List.size_toArray, nums_length, List.length_set];first|assumption|omega)|simp|omega|(simp only [List.size_toArray, nums_length];omega)|assumption);(solve|(simp only [List.setIfInBounds_toArray];exact rfl)|exact nums_set _ _ _ _|simp only [List.setIfInBounds_toArray, List.set_cons_zero]|simp only [List.setIfInBounds_toArray, List.set_cons_zero, List.set_cons_succ]|(simp only [List.setIfInBounds_toArray, List.set_cons_zero, List.set_cons_succ];exact rfl)|exact rfl);(with_reducible first|exact one3|exact one86|exact one102);(try clear K);(try clear ww);intro ww K;(try simp [go_sem] at K))))
      go_ret
      refine ⟨?_, K.below⟩
      show Ending.returned (Value.bool (decide (0 < k1) == decide (0 < k2))) = _
      rw [HG.out]
end Go.Proofs.Yteancdipmpmjpaa
namespace Go.Proofs.Yteancdipmpmjpaa
open Go.RowKit
attribute [local irreducible] wpHeld wpTree wpList
set_option linter.unusedVariables false
set_option maxRecDepth 100000 in
set_option maxHeartbeats 8000000 in
theorem Alike17 (p q n c c2 : Nat) (A A2 : Option Addr) (xs ys : List Nat) (w : World) (h : Fn w A n xs) (h2 : Fr w A2 n ys) (hn : n ≤ 5000) (hS : xs.sum < Big) (hT : ys.sum < Big) (hE : ∀ i, ys.getD i 0 * xs.sum = xs.getD i 0 * ys.sum) (hz : xs.sum = 0 ↔ ys.sum = 0) (hP : ∀ i, xs.getD i 0 * ys.sum < Big) :
    Calls Try.prog 56 #[.agg #[.int .i64 p, .int .i64 q, .slice A n c], .agg #[.int .i64 p, .int .i64 q, .slice A2 n c2]] w fun e w' => e = .returned (.int .i64 1) ∧ Below w.heap.size w w' := by
  have K := St.start w
  have hl := h.len
  have HR := Lib.hid h
  have HR2 := Lib.hid h2
  have HL := Lib.hid hl
  have HB : Hid (∀ i, xs.getD i 0 < Big) := Lib.hid fun i => Nat.lt_of_le_of_lt getDR_le hS
  have AL := Lib.hid (fun (c : Nat) (A : Option Addr) (w : World) (h : Fr w A n xs) (h2 : Fr w A2 n ys) => RAlike17 p q n c c2 A A2 xs ys w h h2 hn hS hT hE hz hP)
  clear h h2 hl hS hT hE hz hP
  go_enter Try.func56, Try.ntmps56
  go_wp2_with (first|go_big_skip|((with_reducible refine at_load ?_);first|(refine wm_load (cs := ?_) (t := ?_) (n := ?_) K rfl _ _ rfl rfl ?_ ?_ ?_ ?_;rotate_left 2;(repeat (first|exact At.hd|refine At.tl ?_));rotate_left;(with_reducible first|exact row88|exact row108);(solve|exact rfl|simp))|(refine wm_own (cs := ?_) (t := ?_) (v := ?_) K rfl _ _ rfl rfl ?_ ?_ ?_ ?_;rotate_left 2;(repeat (first|exact At.hd|refine At.tl ?_));rotate_left;(first|exact rfl|assumption);(with_reducible first|exact one3|exact one49|exact one86))|(refine wm_cell (v := ?_) rfl _ _ rfl rfl ?_ ?_ ?_;rotate_left;(first|assumption|exact (K.below.cell (by assumption)).trans (by assumption));(with_reducible first|exact one3|exact one49|exact one86)))|((with_reducible refine at_store ?_);first|(refine wm_store (L' := ?_) (cs := ?_) (t := ?_) (n := ?_) K rfl _ _ _ rfl rfl rfl rfl ?_ ?_ ?_ ?_ ?_ ?_;rotate_left 3;(repeat (first|exact Put.hd|(refine Put.tl (L' := ?_) ?_;rotate_left)));rotate_left;(with_reducible first|exact row88|exact row108);(solve|exact rfl|simp);(solve|exact rfl|simp);(solve|exact rfl|simp [Ones, Value.oneCell']);(try clear K);(try clear ww);intro ww K;(try simp [go_sem] at K))|(refine wm_put (L' := ?_) (cs := ?_) (new := ?_) (t := ?_) K rfl _ _ _ rfl rfl rfl rfl ?_ ?_ ?_ ?_ rfl rfl ?_;rotate_left 4;(repeat (first|exact Put.hd|(refine Put.tl (L' := ?_) ?_;rotate_left)));(solve|exact Nat.le_of_ble_eq_true rfl|decide|(simp only [List.size_toArray, nums_length];first|assumption|omega)|(simp only [List.size_toArray, nums_length, List.length_set];first|assumption|omega)|simp|omega|(simp only [List.size_toArray, nums_length];omega)|assumption);(solve|(simp only [List.setIfInBounds_toArray];exact rfl)|exact nums_set _ _ _ _|simp only [List.setIfInBounds_toArray, List.set_cons_zero]|simp only [List.setIfInBounds_toArray, List.set_cons_zero, List.set_cons_succ]|(simp only [List.setIfInBounds_toArray, List.set_cons_zero, List.set_cons_succ];exact rfl)|exact rfl);(with_reducible first|exact one3|exact one49|exact one86);(try clear K);(try clear ww);intro ww K;(try simp [go_sem] at K)))|(first|((with_reducible refine at_box ?_);refine wm_box K rfl _ _ rfl rfl rfl ?_;(try clear K);(try clear ww);(first|((fail_if_success (have _h := b2));intro b2 ww K)|((fail_if_success (have _h := b3));intro b3 ww K)|((fail_if_success (have _h := b5));intro b5 ww K));(try simp [go_sem, Value.cells] at K))|((with_reducible refine at_alloc ?_);refine wm_alloc (v := ?_) (cs := ?_) K rfl _ rfl ?_ ?_ ?_;rotate_left;(with_reducible first|exact zero88);rotate_left;exact rfl;(try clear K);(try clear ww);(first|((fail_if_success (have _h := b2));intro b2 ww K)|((fail_if_success (have _h := b3));intro b3 ww K)|((fail_if_success (have _h := b5));intro b5 ww K));(try simp [go_sem, Value.cells] at K))))
  go_loopw [6] (fun i wr => ∃ (k : Nat) (v : Value) (cs : List Value) (Lo : List Blk), k ≤ n ∧ i = .int .i64 k ∧ OwnT v 102 cs Lo ∧ Hid (cs.length = k) ∧ St w.heap.size w ((b5, #[.int .i64 p, .int .i64 q, v], 88) :: (b3, #[.int .i64 p, .int .i64 q, .slice A2 n c2], 88) :: (b2, #[.int .i64 p, .int .i64 q, .slice A n c], 51) :: Lo) (fun w => AllR w cs (xs.take k)) wr) (fun i _ => n - (intOf i).toNat)
  case atStart => exact ⟨0, _, [], [], Nat.zero_le _, rfl, OwnT.nil _, Lib.hid rfl, K.weak fun w _ => AllR.nil w⟩
  case round =>
    clear K
    obtain ⟨i, v, cs, Lo, hi, rfl, hO, HC, K⟩ := hrel
    by_cases hlt : i < n
    · have ht : decide ((i : Int) < n) = true := decide_eq_true (by omega)
      have htn : decide (i < n) = true := decide_eq_true hlt
      obtain ⟨b0, off, a, ka, ca, rfl, hb, hc, hx, hka⟩ := HR.out.get hlt
      have hsn0 := take_snocN xs i (by rw [HL.out]; exact hlt)
      have B1 := Lib.hid (HB.out i)
      generalize xs.getD i 0 = x at *
      have hsn := Lib.hid hsn0
      have HX := Lib.hid hx
      have hb1 : (cs.length + 1) * 24 ≤ 140737488355328 := by rw [HC.out]; omega
      have hb2 : cs.length + 1 ≤ maxLen := by rw [HC.out]; unfold maxLen; omega
      clear hsn0 hx
      go_wp2_with (first|go_big_skip|((with_reducible refine at_load ?_);first|(refine wm_load (cs := ?_) (t := ?_) (n := ?_) K rfl _ _ rfl rfl ?_ ?_ ?_ ?_;rotate_left 2;(repeat (first|exact At.hd|refine At.tl ?_));rotate_left;(with_reducible first|exact row88|exact row108);(solve|exact rfl|simp))|(refine wm_own (cs := ?_) (t := ?_) (v := ?_) K rfl _ _ rfl rfl ?_ ?_ ?_ ?_;rotate_left 2;(repeat (first|exact At.hd|refine At.tl ?_));rotate_left;(first|exact rfl|assumption);(with_reducible first|exact one3|exact one49|exact one86))|(refine wm_cell (v := ?_) rfl _ _ rfl rfl ?_ ?_ ?_;rotate_left;(first|assumption|exact (K.below.cell (by assumption)).trans (by assumption));(with_reducible first|exact one3|exact one49|exact one86)))|((with_reducible refine at_store ?_);first|(refine wm_store (L' := ?_) (cs := ?_) (t := ?_) (n := ?_) K rfl _ _ _ rfl rfl rfl rfl ?_ ?_ ?_ ?_ ?_ ?_;rotate_left 3;(repeat (first|exact Put.hd|(refine Put.tl (L' := ?_) ?_;rotate_left)));rotate_left;(with_reducible first|exact row88|exact row108);(solve|exact rfl|simp);(solve|exact rfl|simp);(solve|exact rfl|simp [Ones, Value.oneCell']);(try clear K);(try clear ww);intro ww K;(try simp [go_sem] at K))|(refine wm_put (L' := ?_) (cs := ?_) (new := ?_) (t := ?_) K rfl _ _ _ rfl rfl rfl rfl ?_ ?_ ?_ ?_ rfl rfl ?_;rotate_left 4;(repeat (first|exact Put.hd|(refine Put.tl (L' := ?_) ?_;rotate_left)));(solve|exact Nat.le_of_ble_eq_true rfl|decide|(simp only [List.size_toArray, nums_length];first|assumption|omega)|(simp only [List.size_toArray, nums_length, List.length_set];first|assumption|omega)|simp|omega|(simp only [List.size_toArray, nums_length];omega)|assumption);(solve|(simp only [List.setIfInBounds_toArray];exact rfl)|exact nums_set _ _ _ _|simp only [List.setIfInBounds_toArray, List.set_cons_zero]|simp only [List.setIfInBounds_toArray, List.set_cons_zero, List.set_cons_succ]|(simp only [List.setIfInBounds_toArray, List.set_cons_zero, List.set_cons_succ];exact rfl)|exact rfl);(with_reducible first|exact one3|exact one49|exact one86);(try clear K);(try clear ww);intro ww K;(try simp [go_sem] at K))))
      refine wm_tree _ (.take 0 (.take 2 (.take 3 (.take 4 (.take 5 (.take 6 (.alt 1 (.alt 7 (.alt 8 (.alt 9 (.alt 10 (.take 11 (.alt 12 .done .stop)) .stop) .stop) .stop) .stop) (.alt 7 (.alt 1 (.alt 8 (.alt 9 (.alt 10 (.take 11 (.alt 12 .done .stop)) .stop) .stop) .stop) (.alt 8 (.alt 1 (.alt 9 (.alt 10 (.take 11 (.alt 12 .done .stop)) .stop) .stop) (.alt 9 (.alt 1 (.alt 10 (.take 11 (.alt 12 .done .stop)) .stop) .stop) .stop)) .stop)) .stop)))))))) K sbd1k2 (by kernel_rfl) (by kernel_rfl) ?_; (try clear K); (try clear ww); intro ww K; (try simp [go_sem] at K)
      repeat' (first|exact tree_stop|(refine tm_far1 (v := ?_) rfl rfl _ _ rfl rfl (fun ww K => ?_) ?_ ?_;rotate_left;(first|assumption|exact (K.below.cell (by assumption)).trans (by assumption));(with_reducible first|exact row88|exact row108))|(refine tm_own (cs := ?_) (t0 := ?_) (v := ?_) rfl rfl _ _ rfl rfl ?_ ?_ ?_ ?_;rotate_left 2;(repeat (first|exact At.hd|refine At.tl ?_));rotate_left;(first|exact rfl|assumption);(with_reducible first|exact one3|exact one49|exact one86))|(refine tm_farD (v := ?_) rfl rfl _ _ rfl rfl (fun ww K => ?_) ?_ ?_;rotate_left;(first|assumption|exact (K.below.cell (by assumption)).trans (by assumption));(with_reducible first|exact one3|exact one49|exact one86))|(refine tree_take (fun K' hK' => ?_);simp only [opAt, List.getElem?_toArray, List.getElem?_cons_succ, List.getElem?_cons_zero, Option.getD_some];go_simp;first|(refine hK' _ ?_;clear hK' K')|(apply Exists.intro;refine ⟨?_, hK' _ ?_⟩;(intro _ _;rfl);clear hK' K'))|(refine tm_nowAt (cs := ?_) (t0 := ?_) (v := ?_) K rfl rfl _ _ rfl rfl ?_ ?_ ?_ (by first|exact (K).sub sbd1k2|exact (K.tail).sub sbd1k2|exact (K.tail.tail).sub sbd1k2|exact (K.tail.tail.tail).sub sbd1k2|exact (K.weak fun _ h => h.2).sub sbd1k2|exact (K.tail.weak fun _ h => h.2).sub sbd1k2|exact (K.tail.tail.weak fun _ h => h.2).sub sbd1k2|exact (K.tail.tail.tail.weak fun _ h => h.2).sub sbd1k2|exact (K.weak fun _ h => h.2.2).sub sbd1k2|exact (K.tail.weak fun _ h => h.2.2).sub sbd1k2|exact (K.tail.tail.weak fun _ h => h.2.2).sub sbd1k2|exact (K.tail.tail.tail.weak fun _ h => h.2.2).sub sbd1k2|exact (K.weak fun _ h => h.2.2.2).sub sbd1k2|exact (K.tail.weak fun _ h => h.2.2.2).sub sbd1k2|exact (K.tail.tail.weak fun _ h => h.2.2.2).sub sbd1k2|exact (K.tail.tail.tail.weak fun _ h => h.2.2.2).sub sbd1k2|exact (K.weak fun _ h => h.2.2.2.2).sub sbd1k2|exact (K.tail.weak fun _ h => h.2.2.2.2).sub sbd1k2|exact (K.tail.tail.weak fun _ h => h.2.2.2.2).sub sbd1k2|exact (K.tail.tail.tail.weak fun _ h => h.2.2.2.2).sub sbd1k2|exact (K.weak fun _ h => h.2.2.2.2.2).sub sbd1k2|exact (K.tail.weak fun _ h => h.2.2.2.2.2).sub sbd1k2|exact (K.tail.tail.weak fun _ h => h.2.2.2.2.2).sub sbd1k2|exact (K.tail.tail.tail.weak fun _ h => h.2.2.2.2.2).sub sbd1k2) ?_ ?_;rotate_left 2;(repeat (first|exact At.hd|refine At.tl ?_));rotate_left;(first|exact rfl|assumption);(with_reducible first|exact one3|exact one49|exact one86))|(refine tree_alt (fun K' hK' => ?_) ?_;simp only [opAt, List.getElem?_toArray, List.getElem?_cons_succ, List.getElem?_cons_zero, Option.getD_some];go_simp;go_at_call 99;have zz := K.partsB (HX.out.below K.below) B1.out;(with_reducible refine zz.mono ?_);clear zz;rintro e w2 ⟨_, _, rfl, K2⟩;(try dsimp only);refine hK' _ _ (by first|exact (K2).sub sbd1k2|exact (K2.tail).sub sbd1k2|exact (K2.tail.tail).sub sbd1k2|exact (K2.tail.tail.tail).sub sbd1k2|exact (K2.weak fun _ h => h.2).sub sbd1k2|exact (K2.tail.weak fun _ h => h.2).sub sbd1k2|exact (K2.tail.tail.weak fun _ h => h.2).sub sbd1k2|exact (K2.tail.tail.tail.weak fun _ h => h.2).sub sbd1k2|exact (K2.weak fun _ h => h.2.2).sub sbd1k2|exact (K2.tail.weak fun _ h => h.2.2).sub sbd1k2|exact (K2.tail.tail.weak fun _ h => h.2.2).sub sbd1k2|exact (K2.tail.tail.tail.weak fun _ h => h.2.2).sub sbd1k2|exact (K2.weak fun _ h => h.2.2.2).sub sbd1k2|exact (K2.tail.weak fun _ h => h.2.2.2).sub sbd1k2|exact (K2.tail.tail.weak fun _ h => h.2.2.2).sub sbd1k2|exact (K2.tail.tail.tail.weak fun _ h => h.2.2.2).sub sbd1k2|exact (K2.weak fun _ h => h.2.2.2.2).sub sbd1k2|exact (K2.tail.weak fun _ h => h.2.2.2.2).sub sbd1k2|exact (K2.tail.tail.weak fun _ h => h.2.2.2.2).sub sbd1k2|exact (K2.tail.tail.tail.weak fun _ h => h.2.2.2.2).sub sbd1k2|exact (K2.weak fun _ h => h.2.2.2.2.2).sub sbd1k2|exact (K2.tail.weak fun _ h => h.2.2.2.2.2).sub sbd1k2|exact (K2.tail.tail.weak fun _ h => h.2.2.2.2.2).sub sbd1k2|exact (K2.tail.tail.tail.weak fun _ h => h.2.2.2.2.2).sub sbd1k2) ?_;replace K := K2;clear hK' K' K2;(try clear ww);revert w2;intro ww K)|(refine tree_alt (fun K' hK' => ?_) ?_;simp only [opAt, List.getElem?_toArray, List.getElem?_cons_succ, List.getElem?_cons_zero, Option.getD_some];go_simp;go_at_call 98;have zz := fun c => K.ofP (c := c) K.fact.1 B1.out;(with_reducible refine (zz _).mono ?_);clear zz;rintro e w2 ⟨_, _, _, rfl, K2⟩;(try dsimp only);refine hK' _ _ (by first|exact (K2).sub sbd1k2|exact (K2.tail).sub sbd1k2|exact (K2.tail.tail).sub sbd1k2|exact (K2.tail.tail.tail).sub sbd1k2|exact (K2.weak fun _ h => h.2).sub sbd1k2|exact (K2.tail.weak fun _ h => h.2).sub sbd1k2|exact (K2.tail.tail.weak fun _ h => h.2).sub sbd1k2|exact (K2.tail.tail.tail.weak fun _ h => h.2).sub sbd1k2|exact (K2.weak fun _ h => h.2.2).sub sbd1k2|exact (K2.tail.weak fun _ h => h.2.2).sub sbd1k2|exact (K2.tail.tail.weak fun _ h => h.2.2).sub sbd1k2|exact (K2.tail.tail.tail.weak fun _ h => h.2.2).sub sbd1k2|exact (K2.weak fun _ h => h.2.2.2).sub sbd1k2|exact (K2.tail.weak fun _ h => h.2.2.2).sub sbd1k2|exact (K2.tail.tail.weak fun _ h => h.2.2.2).sub sbd1k2|exact (K2.tail.tail.tail.weak fun _ h => h.2.2.2).sub sbd1k2|exact (K2.weak fun _ h => h.2.2.2.2).sub sbd1k2|exact (K2.tail.weak fun _ h => h.2.2.2.2).sub sbd1k2|exact (K2.tail.tail.weak fun _ h => h.2.2.2.2).sub sbd1k2|exact (K2.tail.tail.tail.weak fun _ h => h.2.2.2.2).sub sbd1k2|exact (K2.weak fun _ h => h.2.2.2.2.2).sub sbd1k2|exact (K2.tail.weak fun _ h => h.2.2.2.2.2).sub sbd1k2|exact (K2.tail.tail.weak fun _ h => h.2.2.2.2.2).sub sbd1k2|exact (K2.tail.tail.tail.weak fun _ h => h.2.2.2.2.2).sub sbd1k2) ?_;replace K := K2;clear hK' K' K2;(try clear ww);revert w2;intro ww K)|(refine tree_list rfl ?_ ?_;refine wm_oneZ K rfl _ _ rfl Try.underlying86 infoInts Cell1.sl rfl Cell1.sl ?_;intro bb ww2 K2;(try simp [go_sem] at K2);refine wl_nil ⟨(by first|exact (K2).sub sbd1k2|exact (K2.tail).sub sbd1k2|exact (K2.tail.tail).sub sbd1k2|exact (K2.tail.tail.tail).sub sbd1k2|exact (K2.weak fun _ h => h.2).sub sbd1k2|exact (K2.tail.weak fun _ h => h.2).sub sbd1k2|exact (K2.tail.tail.weak fun _ h => h.2).sub sbd1k2|exact (K2.tail.tail.tail.weak fun _ h => h.2).sub sbd1k2|exact (K2.weak fun _ h => h.2.2).sub sbd1k2|exact (K2.tail.weak fun _ h => h.2.2).sub sbd1k2|exact (K2.tail.tail.weak fun _ h => h.2.2).sub sbd1k2|exact (K2.tail.tail.tail.weak fun _ h => h.2.2).sub sbd1k2|exact (K2.weak fun _ h => h.2.2.2).sub sbd1k2|exact (K2.tail.weak fun _ h => h.2.2.2).sub sbd1k2|exact (K2.tail.tail.weak fun _ h => h.2.2.2).sub sbd1k2|exact (K2.tail.tail.tail.weak fun _ h => h.2.2.2).sub sbd1k2|exact (K2.weak fun _ h => h.2.2.2.2).sub sbd1k2|exact (K2.tail.weak fun _ h => h.2.2.2.2).sub sbd1k2|exact (K2.tail.tail.weak fun _ h => h.2.2.2.2).sub sbd1k2|exact (K2.tail.tail.tail.weak fun _ h => h.2.2.2.2).sub sbd1k2|exact (K2.weak fun _ h => h.2.2.2.2.2).sub sbd1k2|exact (K2.tail.weak fun _ h => h.2.2.2.2.2).sub sbd1k2|exact (K2.tail.tail.weak fun _ h => h.2.2.2.2.2).sub sbd1k2|exact (K2.tail.tail.tail.weak fun _ h => h.2.2.2.2.2).sub sbd1k2), ?_⟩;replace K := K2;clear K2;(try clear ww);revert ww2;intro ww K)|(refine tree_list rfl ?_ ?_;refine wm_appZT (L0 := ?_) K ?_ rfl _ _ _ rfl Try.underlying86 infoInts Cell1.sl rfl hO rfl rfl (by first|assumption|omega) (by first|assumption|(unfold maxLen;omega)) ?_;rotate_left;(repeat (first|exact Tl.nil|(refine Tl.cons (L0 := ?_) ?_;rotate_left)));intro v ww2 Lo2 hO2 K2;obtain ⟨_, _, _, rfl, _⟩ := hO2.val;(try simp only [List.cons_append, List.nil_append] at K2);refine wl_nil ⟨(by first|exact (K2).sub sbd1k2|exact (K2.tail).sub sbd1k2|exact (K2.tail.tail).sub sbd1k2|exact (K2.tail.tail.tail).sub sbd1k2|exact (K2.weak fun _ h => h.2).sub sbd1k2|exact (K2.tail.weak fun _ h => h.2).sub sbd1k2|exact (K2.tail.tail.weak fun _ h => h.2).sub sbd1k2|exact (K2.tail.tail.tail.weak fun _ h => h.2).sub sbd1k2|exact (K2.weak fun _ h => h.2.2).sub sbd1k2|exact (K2.tail.weak fun _ h => h.2.2).sub sbd1k2|exact (K2.tail.tail.weak fun _ h => h.2.2).sub sbd1k2|exact (K2.tail.tail.tail.weak fun _ h => h.2.2).sub sbd1k2|exact (K2.weak fun _ h => h.2.2.2).sub sbd1k2|exact (K2.tail.weak fun _ h => h.2.2.2).sub sbd1k2|exact (K2.tail.tail.weak fun _ h => h.2.2.2).sub sbd1k2|exact (K2.tail.tail.tail.weak fun _ h => h.2.2.2).sub sbd1k2|exact (K2.weak fun _ h => h.2.2.2.2).sub sbd1k2|exact (K2.tail.weak fun _ h => h.2.2.2.2).sub sbd1k2|exact (K2.tail.tail.weak fun _ h => h.2.2.2.2).sub sbd1k2|exact (K2.tail.tail.tail.weak fun _ h => h.2.2.2.2).sub sbd1k2|exact (K2.weak fun _ h => h.2.2.2.2.2).sub sbd1k2|exact (K2.tail.weak fun _ h => h.2.2.2.2.2).sub sbd1k2|exact (K2.tail.tail.weak fun _ h => h.2.2.2.2.2).sub sbd1k2|exact (K2.tail.tail.tail.weak fun _ h => h.2.2.2.2.2).sub sbd1k2), ?_⟩;replace K := K2;replace hO := hO2;clear K2 hO2;(try clear ww);revert ww2;intro ww K)|(refine tm_put (L' := ?_) (cs := ?_) (new := ?_) (t0 := ?_) K rfl rfl _ _ _ rfl rfl rfl rfl ?_ ?_ ?_ ?_ rfl rfl ?_ ?_;rotate_left 4;(repeat (first|exact Put.hd|(refine Put.tl (L' := ?_) ?_;rotate_left)));(solve|exact Nat.le_of_ble_eq_true rfl|decide|(simp only [List.size_toArray, nums_length];first|assumption|omega)|(simp only [List.size_toArray, nums_length, List.length_set];first|assumption|omega)|simp|omega|(simp only [List.size_toArray, nums_length];omega)|assumption);(solve|(simp only [List.setIfInBounds_toArray];exact rfl)|exact nums_set _ _ _ _|simp only [List.setIfInBounds_toArray, List.set_cons_zero]|simp only [List.setIfInBounds_toArray, List.set_cons_zero, List.set_cons_succ]|(simp only [List.setIfInBounds_toArray, List.set_cons_zero, List.set_cons_succ];exact rfl)|exact rfl);(with_reducible first|exact one3|exact one49|exact one86);intro ww2 K2;(try simp [go_sem] at K2);refine ⟨(by first|exact (K2).sub sbd1k2|exact (K2.tail).sub sbd1k2|exact (K2.tail.tail).sub sbd1k2|exact (K2.tail.tail.tail).sub sbd1k2|exact (K2.weak fun _ h => h.2).sub sbd1k2|exact (K2.tail.weak fun _ h => h.2).sub sbd1k2|exact (K2.tail.tail.weak fun _ h => h.2).sub sbd1k2|exact (K2.tail.tail.tail.weak fun _ h => h.2).sub sbd1k2|exact (K2.weak fun _ h => h.2.2).sub sbd1k2|exact (K2.tail.weak fun _ h => h.2.2).sub sbd1k2|exact (K2.tail.tail.weak fun _ h => h.2.2).sub sbd1k2|exact (K2.tail.tail.tail.weak fun _ h => h.2.2).sub sbd1k2|exact (K2.weak fun _ h => h.2.2.2).sub sbd1k2|exact (K2.tail.weak fun _ h => h.2.2.2).sub sbd1k2|exact (K2.tail.tail.weak fun _ h => h.2.2.2).sub sbd1k2|exact (K2.tail.tail.tail.weak fun _ h => h.2.2.2).sub sbd1k2|exact (K2.weak fun _ h => h.2.2.2.2).sub sbd1k2|exact (K2.tail.weak fun _ h => h.2.2.2.2).sub sbd1k2|exact (K2.tail.tail.weak fun _ h => h.2.2.2.2).sub sbd1k2|exact (K2.tail.tail.tail.weak fun _ h => h.2.2.2.2).sub sbd1k2|exact (K2.weak fun _ h => h.2.2.2.2.2).sub sbd1k2|exact (K2.tail.weak fun _ h => h.2.2.2.2.2).sub sbd1k2|exact (K2.tail.tail.weak fun _ h => h.2.2.2.2.2).sub sbd1k2|exact (K2.tail.tail.tail.weak fun _ h => h.2.2.2.2.2).sub sbd1k2), ?_⟩;replace K := K2;clear K2;(try clear ww);revert ww2;intro ww K))
      all_goals refine tree_done ?_
      all_goals (try simp only [opAt, List.getElem?_toArray, List.getElem?_cons_succ, List.getElem?_cons_zero, Option.getD_some])
      all_goals (try go_simp)
      all_goals (try go_wp2_with (fail))
      all_goals exact ⟨⟨i + 1, _, _, _, by omega, by go_num, hO, Lib.hid (by rw [List.length_append, HC.out]; rfl), K.weak fun w h => by rw [hsn.out]; exact h.2.2.snoc h.1.1⟩, by simp [intOf]; omega⟩
    · obtain rfl : n = i := by omega
      have ht : decide ((n : Int) < n) = false := decide_eq_false (by omega)
      have htn : decide (n < n) = false := decide_eq_false (by omega)
      have hz : xs.take n = xs := List.take_of_length_le (by rw [HL.out]; omega)
      rw [hz] at K
      obtain ⟨A3, c3, rfl, hc1, hc2, hA, K2⟩ := hO.fix (L0 := [(b5, #[.int .i64 p, .int .i64 q, v], 88), (b3, #[.int .i64 p, .int .i64 q, .slice A2 n c2], 88), (b2, #[.int .i64 p, .int .i64 q, .slice A n c], 51)]) K
      rw [HC.out] at K2
      clear K hO hc1 hc2 hA hz
      replace K := K2
      clear K2
      revert wr
      intro ww K
      go_wp2_with (first|go_big_skip|((with_reducible refine at_load ?_);first|(refine wm_load (cs := ?_) (t := ?_) (n := ?_) K rfl _ _ rfl rfl ?_ ?_ ?_ ?_;rotate_left 2;(repeat (first|exact At.hd|refine At.tl ?_));rotate_left;(with_reducible first|exact row88|exact row108);(solve|exact rfl|simp))|(refine wm_own (cs := ?_) (t := ?_) (v := ?_) K rfl _ _ rfl rfl ?_ ?_ ?_ ?_;rotate_left 2;(repeat (first|exact At.hd|refine At.tl ?_));rotate_left;(first|exact rfl|assumption);(with_reducible first|exact one3|exact one49|exact one86))|(refine wm_cell (v := ?_) rfl _ _ rfl rfl ?_ ?_ ?_;rotate_left;(first|assumption|exact (K.below.cell (by assumption)).trans (by assumption));(with_reducible first|exact one3|exact one49|exact one86)))|((with_reducible refine at_store ?_);first|(refine wm_store (L' := ?_) (cs := ?_) (t := ?_) (n := ?_) K rfl _ _ _ rfl rfl rfl rfl ?_ ?_ ?_ ?_ ?_ ?_;rotate_left 3;(repeat (first|exact Put.hd|(refine Put.tl (L' := ?_) ?_;rotate_left)));rotate_left;(with_reducible first|exact row88|exact row108);(solve|exact rfl|simp);(solve|exact rfl|simp);(solve|exact rfl|simp [Ones, Value.oneCell']);(try clear K);(try clear ww);intro ww K;(try simp [go_sem] at K))|(refine wm_put (L' := ?_) (cs := ?_) (new := ?_) (t := ?_) K rfl _ _ _ rfl rfl rfl rfl ?_ ?_ ?_ ?_ rfl rfl ?_;rotate_left 4;(repeat (first|exact Put.hd|(refine Put.tl (L' := ?_) ?_;rotate_left)));(solve|exact Nat.le_of_ble_eq_true rfl|decide|(simp only [List.size_toArray, nums_length];first|assumption|omega)|(simp only [List.size_toArray, nums_length, List.length_set];first|assumption|omega)|simp|omega|(simp only [List.size_toArray, nums_length];omega)|assumption);(solve|(simp only [List.setIfInBounds_toArray];exact rfl)|exact nums_set _ _ _ _|simp only [List.setIfInBounds_toArray, List.set_cons_zero]|simp only [List.setIfInBounds_toArray, List.set_cons_zero, List.set_cons_succ]|(simp only [List.setIfInBounds_toArray, List.set_cons_zero, List.set_cons_succ];exact rfl)|exact rfl);(with_reducible first|exact one3|exact one49|exact one86);(try clear K);(try clear ww);intro ww K;(try simp [go_sem] at K)))|(go_at_call 100;have zz := fun c => AL.out c _ _ ⟨cs, K.fact.1, K.fact.2⟩ (HR2.out.below K.below);(with_reducible refine (zz _).mono ?_);clear zz;rintro e w2 ⟨rfl, kk1⟩;replace K := K.step kk1;clear kk1;(try clear ww);revert w2;intro ww K))
      go_ret
      exact ⟨rfl, K.below⟩
end Go.Proofs.Yteancdipmpmjpaa
