/-
  The walks of the reference: products.
-/
import Derived.Test.YteancdipmpmjpaaRd16
namespace Go.Proofs.Yteancdipmpmjpaa
open Go.RowKit
set_option maxRecDepth 100000
set_option linter.unusedVariables false

theorem getD_set_self (l : List Nat) (i x : Nat) (h : i < l.length) : (l.set i x).getD i 0 = x := by rw [List.getD, List.getElem?_set_self h]; rfl
theorem getD_set_other (l : List Nat) (i j x : Nat) (h : i ≠ j) : (l.set i x).getD j 0 = l.getD j 0 := by rw [List.getD, List.getD, List.getElem?_set_ne h]
theorem getD_of_all {l : List Nat} {B : Nat} (h : ∀ x ∈ l, x ≤ B) (i : Nat) : l.getD i 0 ≤ B := by
  rw [List.getD]
  rcases Nat.lt_or_ge i l.length with hi | hi
  · rw [List.getElem?_eq_getElem hi]; exact h _ (List.getElem_mem _)
  · rw [List.getElem?_eq_none hi]; exact Nat.zero_le _

/-- What the product's loops keep: all places' sums. -/
def ConvAt (X Y N m C i k : Nat) (o : List Nat) : Prop := o.length = N ∧ (∀ x ∈ o, x ≤ (i * m + k) * C) ∧ val 256 o = X % 256 ^ i * Y + 256 ^ i * (X / 256 ^ i % 256 * (Y % 256 ^ k))
theorem ConvAt.start (X Y N m C : Nat) : ConvAt X Y N m C 0 0 (List.replicate N 0) :=
  ⟨by simp, (fun x hx => by rw [(List.mem_replicate.1 hx).2]; omega), by rw [val_replicate]; simp [Nat.mod_one]⟩
theorem ConvAt.step {X Y N m C i k : Nat} {o : List Nat} (hC : 255 * 255 ≤ C) (h : ConvAt X Y N m C i k o) (hk : k < m) (hi : i + m ≤ N) :
    ConvAt X Y N m C i (k + 1) (o.set (i + k) (o.getD (i + k) 0 + X / 256 ^ i % 256 * (Y / 256 ^ k % 256))) := by
  obtain ⟨h1, h2, h3⟩ := h
  have x1 := Nat.mod_lt (X / 256 ^ i) (show 0 < 256 by omega)
  have y1 := Nat.mod_lt (Y / 256 ^ k) (show 0 < 256 by omega)
  have ey := mod_pow_step 256 Y k
  have hu := getD_of_all h2 (i + k)
  unfold ConvAt
  generalize X / 256 ^ i % 256 = x at *
  generalize Y / 256 ^ k % 256 = y at *
  have hs := fun z => val_set 256 o (i + k) z (by omega)
  have hxy : x * y ≤ 255 * 255 := Nat.mul_le_mul (by omega) (by omega)
  generalize o.getD (i + k) 0 = u at *
  have hb : (i * m + (k + 1)) * C = (i * m + k) * C + C := by rw [← Nat.add_assoc, Nat.add_mul, Nat.one_mul]
  refine ⟨by simp [h1], fun z hz => ?_, ?_⟩
  · rw [hb]
    generalize (i * m + k) * C = D at *
    rcases List.mem_or_eq_of_mem_set hz with hz | rfl
    · have := h2 z hz; omega
    · omega
  · have hs := hs (u + x * y)
    rw [Nat.mul_add] at hs
    have e3 : 256 ^ i * (x * (Y % 256 ^ (k + 1))) = 256 ^ i * (x * (Y % 256 ^ k)) + 256 ^ (i + k) * (x * y) := by
      rw [ey, Nat.mul_add, Nat.mul_add, Nat.pow_add]
      congr 1
      rw [Nat.mul_assoc, Nat.mul_left_comm x]
    rw [e3]
    omega
theorem ConvAt.row {X Y N m C i : Nat} {o : List Nat} (h : ConvAt X Y N m C i m o) (hY : Y < 256 ^ m) : ConvAt X Y N m C (i + 1) 0 o := by
  obtain ⟨h1, h2, h3⟩ := h
  have ex := mod_pow_step 256 X i
  refine ⟨h1, fun z hz => ?_, ?_⟩
  · rw [show (i + 1) * m + 0 = i * m + m by rw [Nat.add_mul, Nat.one_mul, Nat.add_zero]]; exact h2 z hz
  · rw [h3, ex, Nat.mod_eq_of_lt hY, Nat.add_mul, Nat.mul_assoc]; simp [Nat.mod_one]
/-- What the carrying keeps. -/
def CarAt (T N D i : Nat) (o : List Nat) : Prop := o.length = N ∧ val 256 o = T ∧ (∀ j, j < i → o.getD j 0 < 256) ∧ o.getD i 0 ≤ 2 * D ∧ ∀ j, i < j → o.getD j 0 ≤ D
theorem CarAt.step {T N D i : Nat} {o : List Nat} (h : CarAt T N D i o) (hi : i + 1 < N) :
    CarAt T N D (i + 1) ((o.set (i + 1) (o.getD (i + 1) 0 + o.getD i 0 / 256)).set i (o.getD i 0 % 256)) := by
  obtain ⟨h1, h2, h3, h4, h5⟩ := h
  have h6 := h5 (i + 1) (by omega)
  have s1 := val_set 256 o (i + 1) (o.getD (i + 1) 0 + o.getD i 0 / 256) (by omega)
  have s2 := val_set 256 (o.set (i + 1) (o.getD (i + 1) 0 + o.getD i 0 / 256)) i (o.getD i 0 % 256) (by rw [List.length_set]; omega)
  rw [getD_set_other _ _ _ _ (by omega)] at s2
  have hm := Nat.mod_add_div (o.getD i 0) 256
  have e1 : 256 ^ i * (o.getD i 0 % 256 + 256 * (o.getD i 0 / 256)) = 256 ^ i * o.getD i 0 := by rw [hm]
  rw [Nat.mul_add, ← Nat.mul_assoc, ← Nat.pow_succ, Nat.succ_eq_add_one] at e1
  rw [Nat.mul_add] at s1
  refine ⟨by simp [h1], by omega, fun j hj => ?_, ?_, fun j hj => ?_⟩
  · rcases Nat.lt_or_ge j i with hl | hl
    · rw [getD_set_other _ _ _ _ (by omega), getD_set_other _ _ _ _ (by omega)]; exact h3 j hl
    · obtain rfl : j = i := by omega
      rw [getD_set_self _ _ _ (by rw [List.length_set]; omega)]; exact Nat.mod_lt _ (by omega)
  · rw [getD_set_other _ _ _ _ (by omega), getD_set_self _ _ _ (by omega)]; omega
  · rw [getD_set_other _ _ _ _ (by omega), getD_set_other _ _ _ _ (by omega)]; exact h5 j (by omega)
theorem CarAt.done {T N D : Nat} {o : List Nat} (h : CarAt T (N + 1) D N o) (hT : T < 256 ^ N) : ∀ x ∈ o, x < 256 := by
  obtain ⟨h1, h2, h3, _, _⟩ := h
  have hd := val_take_drop 256 o N (by omega)
  rw [List.drop_eq_getElem_cons (by omega), List.drop_of_length_le (by omega)] at hd
  simp only [val, Nat.mul_zero, Nat.add_zero] at hd
  have h0 : o[N] = 0 := by
    rcases Nat.eq_zero_or_pos o[N] with h | h
    · exact h
    · have := Nat.mul_le_mul_left (256 ^ N) h; omega
  intro x hx
  obtain ⟨i, hi, rfl⟩ := List.mem_iff_getElem.1 hx
  rcases Nat.lt_or_ge i N with hl | hl
  · have := h3 i hl
    rwa [List.getD, List.getElem?_eq_getElem hi] at this
  · have : i = N := by omega
    subst this
    rw [h0]; omega

set_option maxHeartbeats 4000000 in
theorem MulR (A A2 : Option Addr) (n c m d X Y : Nat) (w : World) (hx : Rf w A n c X) (hy : Rf w A2 m d Y) (h1 : n ≤ 100000) (h2 : m ≤ 100000) :
    Calls Try.prog 62 #[.slice A n c, .slice A2 m d] w fun e w' => ∃ A' k c', e = .returned (.slice A' k c') ∧ (Rf w' A' k c' (X * Y) ∧ Nw w.heap.size A') ∧ Below w.heap.size w w' := by
  have K := St.start w
  have HX := Lib.hid hx
  have HY := Lib.hid hy
  clear hx hy
  obtain ⟨N, hN⟩ : ∃ N, N = n + m + 1 := ⟨_, rfl⟩
  have eN : (n : Int) + (m : Int) + 1 = (N : Int) := by omega
  have hNb : N ≤ 200001 := by omega
  have HN := Lib.hid hN
  clear hN
  go_enter Try.func62, Try.ntmps62
  go_wp2_with (first | ((with_reducible refine at_makeSl ?_); refine wm_make K rfl _ _ _ rfl Try.underlying102 num3 N rfl rfl (by omega) (by omega) (by omega) (by omega) ?_; (try clear K); (try clear ww); intro b1 ww K))
  go_loopw [6] (fun i wr => ∃ (k : Nat) (o : List Nat), k ≤ n ∧ i = .int .i64 k ∧ Hid (ConvAt X Y N m 65025 k 0 o) ∧ St w.heap.size w [(b1, (nums .i64 o).toArray, 3)] Any wr) (fun i _ => n - (intOf i).toNat)
  case atStart => exact ⟨0, _, Nat.zero_le _, rfl, Lib.hid (ConvAt.start _ _ _ _ _), K⟩
  case round =>
    clear K
    obtain ⟨i, o, hi, rfl, hs, K⟩ := hrel
    by_cases hlt : i < n
    · obtain ⟨b, off, rfl, hb, hv⟩ := HX.out.at hlt
      obtain ⟨x, hxx⟩ : ∃ x, x = X / 256 ^ i % 256 := ⟨_, rfl⟩
      rw [← hxx] at hv
      have HXX := Lib.hid hxx
      have x1 : x ≤ 255 := by have := Nat.mod_lt (X / 256 ^ i) (show 0 < 256 by omega); omega
      have ht : decide (i < n) = true := decide_eq_true hlt
      clear hxx
      go_wp2_with (first | go_big_skip | ((with_reducible refine at_load ?_); first | (refine wm_load (cs := ?_) (t := ?_) (n := ?_) K rfl _ _ rfl rfl ?_ ?_ ?_ ?_; rotate_left 2; (repeat (first | exact At.hd | refine At.tl ?_)); rotate_left; (first | fail); (solve | exact rfl | simp)) | (refine wm_own (cs := ?_) (t := ?_) (v := ?_) K rfl _ _ rfl rfl ?_ ?_ ?_ ?_; rotate_left 2; (repeat (first | exact At.hd | refine At.tl ?_)); rotate_left; (first | exact rfl | assumption); (first | (with_reducible exact one3))) | (refine wm_cell (v := ?_) rfl _ _ rfl rfl ?_ ?_ ?_; rotate_left; (first | assumption | exact (K.below.cell (by assumption)).trans (by assumption)); (first | (with_reducible exact one3)))) | ((with_reducible refine at_store ?_); first | (refine wm_store (L' := ?_) (cs := ?_) (t := ?_) (n := ?_) K rfl _ _ _ rfl rfl rfl rfl ?_ ?_ ?_ ?_ ?_ ?_; rotate_left 3; (repeat (first | exact Put.hd | (refine Put.tl (L' := ?_) ?_; rotate_left))); rotate_left; (first | fail); (solve | exact rfl | simp); (solve | exact rfl | simp); (solve | exact rfl | simp [Ones, Value.oneCell']); (try clear K); (try clear ww); intro ww K; (try simp [go_sem] at K)) | (refine wm_put (L' := ?_) (cs := ?_) (new := ?_) (t := ?_) K rfl _ _ _ rfl rfl rfl rfl ?_ ?_ ?_ ?_ rfl rfl ?_; rotate_left 4; (repeat (first | exact Put.hd | (refine Put.tl (L' := ?_) ?_; rotate_left))); (solve | decide | (simp only [List.size_toArray, nums_length]; first | assumption | omega) | (simp only [List.size_toArray, nums_length, List.length_set]; first | assumption | omega) | simp | omega | (simp only [List.size_toArray, nums_length]; omega) | assumption); (solve | exact nums_set _ _ _ _ | simp only [List.setIfInBounds_toArray, List.set_cons_zero] | simp only [List.setIfInBounds_toArray, List.set_cons_zero, List.set_cons_succ] | (simp only [List.setIfInBounds_toArray, List.set_cons_zero, List.set_cons_succ]; exact rfl) | exact rfl); (first | (with_reducible exact one3)); (try clear K); (try clear ww); intro ww K; (try simp [go_sem] at K))))
      go_loopw [7] (fun j wr => ∃ (k : Nat) (o : List Nat), k ≤ m ∧ j = .int .i64 k ∧ Hid (ConvAt X Y N m 65025 i k o) ∧ St w.heap.size w [(b1, (nums .i64 o).toArray, 3)] Any wr) (fun j _ => m - (intOf j).toNat)
      case atStart => exact ⟨0, o, Nat.zero_le _, rfl, hs, K⟩
      case round =>
        clear K hs
        obtain ⟨k, o, hk, rfl, hs, K⟩ := hrel
        by_cases hlk : k < m
        · obtain ⟨b', off', rfl, hb', hv'⟩ := HY.out.at hlk
          have st := hs.out.step (Nat.le_refl _) hlk (by rw [HN.out]; omega)
          rw [← HXX.out] at st
          have y1 := Nat.mod_lt (Y / 256 ^ k) (show 0 < 256 by omega)
          generalize Y / 256 ^ k % 256 = y at *
          have ol : i + k < o.length := by rw [hs.out.1, HN.out]; omega
          have hcell := nums_at .i64 o (i + k) ol
          have u1 := getD_of_all hs.out.2.1 (i + k)
          have him : i * m + k ≤ 20000000000 := by have := Nat.mul_le_mul (show i ≤ 100000 by omega) h2; omega
          have u2 : o.getD (i + k) 0 ≤ 1400000000000000 := Nat.le_trans u1 (Nat.le_trans (Nat.mul_le_mul_right 65025 him) (by omega))
          generalize o.getD (i + k) 0 = u at *
          have ST := Lib.hid st
          have xy : x * y ≤ 255 * 255 := Nat.mul_le_mul x1 (by omega)
          have xy' : (x : Int) * (y : Int) ≤ 65025 := by rw [← Int.natCast_mul]; omega
          have xy0 : (0 : Int) ≤ (x : Int) * (y : Int) := by rw [← Int.natCast_mul]; omega
          have hlt' : ((i + k : Nat) : Int) < (N : Int) := by rw [HN.out]; omega
          have i1 : (i : Int) + (k : Int) < (N : Int) := by omega
          have i2 : (0 : Int) ≤ (i : Int) + (k : Int) := by omega
          have i3 : ((i : Int) + (k : Int)).toNat = i + k := by omega
          have i4 : (i : Int) < (n : Int) := by omega
          have i5 : (k : Int) < (m : Int) := by omega
          have e1 : IntKind.i64.wrap ((i : Int) + (k : Int)) = (i : Int) + (k : Int) := IntWalk.i64_in _ (by omega)
          have e2 : IntKind.i64.wrap (i : Int) = (i : Int) := IntWalk.i64_in _ (by omega)
          have e3 : IntKind.i64.wrap (k : Int) = (k : Int) := IntWalk.i64_in _ (by omega)
          have e4 : IntKind.i64.wrap ((x : Int) * (y : Int)) = (x : Int) * (y : Int) := IntWalk.i64_in _ (by omega)
          have e5 : IntKind.i64.wrap ((u : Int) + (x : Int) * (y : Int)) = ((u + x * y : Nat) : Int) := (IntWalk.i64_in _ (by omega)).trans (by rw [Int.natCast_add, Int.natCast_mul])
          have ht' : decide (k < m) = true := decide_eq_true hlk
          clear st hs xy u1 him
          go_wp2_with fail
          refine wm_region_tail 21 K (by kernel_rfl) (by kernel_rfl) ?_; simp only [List.take_succ_cons, List.take_zero, List.drop_succ_cons, List.drop_zero]
          repeat (first | ((with_reducible refine qt_load ?_); first | (refine wn_load (cs := ?_) (t := ?_) (n := ?_) rfl _ _ rfl rfl ?_ ?_ ?_ ?_; rotate_left 2; (repeat (first | exact At.hd | refine At.tl ?_)); rotate_left; (first | fail); (solve | exact rfl | simp)) | (refine wn_own (cs := ?_) (t := ?_) (v := ?_) rfl _ _ rfl rfl ?_ ?_ ?_ ?_; rotate_left 2; (repeat (first | exact At.hd | refine At.tl ?_)); rotate_left; (first | exact rfl | assumption); (first | (with_reducible exact one3))) | (refine wn_cell (v := ?_) rfl _ _ rfl rfl (fun ww K => ?_) ?_ ?_; rotate_left; (first | assumption | exact (K.below.cell (by assumption)).trans (by assumption)); (first | (with_reducible exact one3)))) | (quiet_step ((intro _; rfl))))
          refine wpQuiet_nil ?_; (try clear K); (try clear ww); intro ww K; (try simp [go_sem] at K)
          clear e1 e2 e3 e4 e5 i1 i2 i3 i4 i5 hlt' xy' xy0
          go_wp2_with (first | go_big_skip | ((with_reducible refine at_load ?_); first | (refine wm_load (cs := ?_) (t := ?_) (n := ?_) K rfl _ _ rfl rfl ?_ ?_ ?_ ?_; rotate_left 2; (repeat (first | exact At.hd | refine At.tl ?_)); rotate_left; (first | fail); (solve | exact rfl | simp)) | (refine wm_own (cs := ?_) (t := ?_) (v := ?_) K rfl _ _ rfl rfl ?_ ?_ ?_ ?_; rotate_left 2; (repeat (first | exact At.hd | refine At.tl ?_)); rotate_left; (first | exact rfl | assumption); (first | (with_reducible exact one3))) | (refine wm_cell (v := ?_) rfl _ _ rfl rfl ?_ ?_ ?_; rotate_left; (first | assumption | exact (K.below.cell (by assumption)).trans (by assumption)); (first | (with_reducible exact one3)))) | ((with_reducible refine at_store ?_); first | (refine wm_store (L' := ?_) (cs := ?_) (t := ?_) (n := ?_) K rfl _ _ _ rfl rfl rfl rfl ?_ ?_ ?_ ?_ ?_ ?_; rotate_left 3; (repeat (first | exact Put.hd | (refine Put.tl (L' := ?_) ?_; rotate_left))); rotate_left; (first | fail); (solve | exact rfl | simp); (solve | exact rfl | simp); (solve | exact rfl | simp [Ones, Value.oneCell']); (try clear K); (try clear ww); intro ww K; (try simp [go_sem] at K)) | (refine wm_put (L' := ?_) (cs := ?_) (new := ?_) (t := ?_) K rfl _ _ _ rfl rfl rfl rfl ?_ ?_ ?_ ?_ rfl rfl ?_; rotate_left 4; (repeat (first | exact Put.hd | (refine Put.tl (L' := ?_) ?_; rotate_left))); (solve | decide | (simp only [List.size_toArray, nums_length]; first | assumption | omega) | (simp only [List.size_toArray, nums_length, List.length_set]; first | assumption | omega) | simp | omega | (simp only [List.size_toArray, nums_length]; omega) | assumption); (solve | exact nums_set _ _ _ _ | simp only [List.setIfInBounds_toArray, List.set_cons_zero] | simp only [List.setIfInBounds_toArray, List.set_cons_zero, List.set_cons_succ] | (simp only [List.setIfInBounds_toArray, List.set_cons_zero, List.set_cons_succ]; exact rfl) | exact rfl); (first | (with_reducible exact one3)); (try clear K); (try clear ww); intro ww K; (try simp [go_sem] at K))))
          exact ⟨⟨k + 1, _, by omega, by go_num, ST, K⟩, by simp [intOf]; omega⟩
        · obtain rfl : m = k := by omega
          have st := Lib.hid (hs.out.row HY.out.lim)
          clear hs
          go_wp2
          exact ⟨⟨i + 1, o, by omega, by go_num, st, K⟩, by simp [intOf]; omega⟩
    · obtain rfl : n = i := by omega
      have hD : n * m * 65025 ≤ 650250000000000 := by
        have := Nat.mul_le_mul h1 h2
        exact Nat.le_trans (Nat.mul_le_mul_right 65025 this) (by omega)
      have hvX : Hid (val 256 o = X * Y) := Lib.hid (by
        have := hs.out.2.2
        rw [Nat.mod_eq_of_lt HX.out.lim] at this
        simpa [Nat.mod_one] using this)
      have hall : ∀ x ∈ o, x ≤ n * m * 65025 := hs.out.2.1
      have hcar : Hid (CarAt (X * Y) N (n * m * 65025) 0 o) := Lib.hid ⟨hs.out.1, hvX.out, fun j hj => absurd hj (by omega), Nat.le_trans (getD_of_all hall 0) (by omega), fun j _ => getD_of_all hall j⟩
      have hXY : Hid (X * Y < 256 ^ (n + m)) := Lib.hid (by rw [Nat.pow_add]; exact Nat.mul_lt_mul'' HX.out.lim HY.out.lim)
      generalize n * m * 65025 = D at *
      clear hs hall hvX
      go_wp2
      go_loopw [8] (fun i wr => ∃ (k : Nat) (o : List Nat), k + 1 ≤ N ∧ i = .int .i64 k ∧ Hid (CarAt (X * Y) N D k o) ∧ St w.heap.size w [(b1, (nums .i64 o).toArray, 3)] Any wr) (fun i _ => N - (intOf i).toNat)
      case atStart => exact ⟨0, o, by rw [HN.out]; omega, rfl, hcar, K⟩
      case round =>
        clear K hcar
        obtain ⟨k, o, hk, rfl, hs, K⟩ := hrel
        by_cases hlk : k + 1 < N
        · have st := hs.out.step hlk
          have ol : k < o.length := by rw [hs.out.1]; omega
          have ol1 : k + 1 < o.length := by rw [hs.out.1]; exact hlk
          have c0 := nums_at .i64 o k ol
          have c1 := nums_at .i64 o (k + 1) ol1
          have u0 := hs.out.2.2.2.1
          have u1 := hs.out.2.2.2.2 (k + 1) (by omega)
          obtain ⟨p, hp⟩ : ∃ p, p = o.getD k 0 := ⟨_, rfl⟩
          obtain ⟨q, hq⟩ : ∃ q, q = o.getD (k + 1) 0 := ⟨_, rfl⟩
          have cp : Hid ((o.set (k + 1) (q + p / 256)).getD k 0 = p) := Lib.hid (by rw [getD_set_other _ _ _ _ (by omega), hp])
          rw [← hp] at st c0 u0
          rw [← hq] at st c1 u1
          have c2 := nums_at .i64 (o.set (k + 1) (q + p / 256)) k (by rw [List.length_set]; exact ol)
          rw [cp.out] at c2
          have ST := Lib.hid st
          have t1 : decide ((k : Int) + 1 < (N : Int)) = true := decide_eq_true (by omega)
          have i1 : (k : Int) + 1 < (N : Int) := by omega
          have i2 : (0 : Int) ≤ (k : Int) + 1 := by omega
          have i3 : ((k : Int) + 1).toNat = k + 1 := by omega
          have i4 : (k : Int) < (N : Int) := by omega
          have e1 : IntKind.i64.wrap ((k : Int) + 1) = (k : Int) + 1 := IntWalk.i64_in _ (by omega)
          have e2 : IntKind.i64.wrap (k : Int) = (k : Int) := IntWalk.i64_in _ (by omega)
          have e4 : (p : Int).tdiv 256 = (p : Int) / 256 := Int.tdiv_eq_ediv_of_nonneg (by omega)
          have e6 : IntKind.i64.wrap ((p : Int) / 256) = (p : Int) / 256 := IntWalk.i64_in _ (by omega)
          have e5 : IntKind.i64.wrap ((q : Int) + (p : Int) / 256) = (q : Int) + (p : Int) / 256 := IntWalk.i64_in _ (by omega)
          clear st hs hp hq
          go_wp2_with fail
          refine wm_region_tail 15 K (by kernel_rfl) (by kernel_rfl) ?_; simp only [List.take_succ_cons, List.take_zero, List.drop_succ_cons, List.drop_zero]
          repeat (first | ((with_reducible refine qt_load ?_); first | (refine wn_load (cs := ?_) (t := ?_) (n := ?_) rfl _ _ rfl rfl ?_ ?_ ?_ ?_; rotate_left 2; (repeat (first | exact At.hd | refine At.tl ?_)); rotate_left; (first | fail); (solve | exact rfl | simp)) | (refine wn_own (cs := ?_) (t := ?_) (v := ?_) rfl _ _ rfl rfl ?_ ?_ ?_ ?_; rotate_left 2; (repeat (first | exact At.hd | refine At.tl ?_)); rotate_left; (first | exact rfl | assumption); (first | (with_reducible exact one3))) | (refine wn_cell (v := ?_) rfl _ _ rfl rfl (fun ww K => ?_) ?_ ?_; rotate_left; (first | assumption | exact (K.below.cell (by assumption)).trans (by assumption)); (first | (with_reducible exact one3)))) | (quiet_step ((intro _; rfl))))
          refine wpQuiet_nil ?_; (try clear K); (try clear ww); intro ww K; (try simp [go_sem] at K)
          clear e1 e2 e4 e5 e6
          go_wp2_with (first | go_big_skip | ((with_reducible refine at_load ?_); first | (refine wm_load (cs := ?_) (t := ?_) (n := ?_) K rfl _ _ rfl rfl ?_ ?_ ?_ ?_; rotate_left 2; (repeat (first | exact At.hd | refine At.tl ?_)); rotate_left; (first | fail); (solve | exact rfl | simp)) | (refine wm_own (cs := ?_) (t := ?_) (v := ?_) K rfl _ _ rfl rfl ?_ ?_ ?_ ?_; rotate_left 2; (repeat (first | exact At.hd | refine At.tl ?_)); rotate_left; (first | exact rfl | assumption); (first | (with_reducible exact one3))) | (refine wm_cell (v := ?_) rfl _ _ rfl rfl ?_ ?_ ?_; rotate_left; (first | assumption | exact (K.below.cell (by assumption)).trans (by assumption)); (first | (with_reducible exact one3)))) | ((with_reducible refine at_store ?_); first | (refine wm_store (L' := ?_) (cs := ?_) (t := ?_) (n := ?_) K rfl _ _ _ rfl rfl rfl rfl ?_ ?_ ?_ ?_ ?_ ?_; rotate_left 3; (repeat (first | exact Put.hd | (refine Put.tl (L' := ?_) ?_; rotate_left))); rotate_left; (first | fail); (solve | exact rfl | simp); (solve | exact rfl | simp); (solve | exact rfl | simp [Ones, Value.oneCell']); (try clear K); (try clear ww); intro ww K; (try simp [go_sem] at K)) | (refine wm_put (L' := ?_) (cs := ?_) (new := ?_) (t := ?_) K rfl _ _ _ rfl rfl rfl rfl ?_ ?_ ?_ ?_ rfl rfl ?_; rotate_left 4; (repeat (first | exact Put.hd | (refine Put.tl (L' := ?_) ?_; rotate_left))); (solve | decide | (simp only [List.size_toArray, nums_length]; first | assumption | omega) | (simp only [List.size_toArray, nums_length, List.length_set]; first | assumption | omega) | simp | omega | (simp only [List.size_toArray, nums_length]; omega) | assumption); (solve | exact nums_set _ _ _ _ | simp only [List.setIfInBounds_toArray, List.set_cons_zero] | simp only [List.setIfInBounds_toArray, List.set_cons_zero, List.set_cons_succ] | (simp only [List.setIfInBounds_toArray, List.set_cons_zero, List.set_cons_succ]; exact rfl) | exact rfl); (first | (with_reducible exact one3)); (try clear K); (try clear ww); intro ww K; (try simp [go_sem] at K))))
          exact ⟨⟨k + 1, _, by omega, by go_num, ST, K⟩, by simp [intOf]; omega⟩
        · have t1 : decide ((k : Int) + 1 < (N : Int)) = false := decide_eq_false (by omega)
          have hkN : Hid (N = k + 1) := Lib.hid (by omega)
          have hkn : k = n + m := by have := HN.out; omega
          have hl := Lib.hid ((show CarAt (X * Y) (n + m + 1) D (n + m) o by rw [← hkn, ← hkN.out]; exact hs.out).done hXY.out)
          have hv := Lib.hid hs.out.2.1
          have hO : Own (.slice (some ⟨b1, 0, none⟩) N N) 3 (nums .i64 o) [] [(b1, (nums .i64 o).toArray, 3)] := .inr ⟨b1, N, _, by rw [nums_length, hs.out.1], by rw [nums_length, hs.out.1]; exact Nat.le_refl _, by omega, by simp [nums_length, hs.out.1], by simp, rfl⟩
          clear hs hkn
          go_wp2_with fail
          refine (K.trimR hO hl.out).mono ?_
          rintro e w2 ⟨A', k', c', rfl, K2⟩
          rw [hv.out] at K2
          have R := Lib.hid K2.fact.1
          have G := Lib.hid K2.below
          clear K K2 hO
          dsimp only
          go_wp2
          go_ret
          exact ⟨_, _, _, rfl, R.out, G.out⟩
end Go.Proofs.Yteancdipmpmjpaa
