/-
  Lemmas and walks of this claim (the texts S16 Mu16 of the work; what no proof here uses is left out). No claim of their own.
-/
import Derived.Test.YteancdipmpmjpaaMD18
import Derived.Test.YteancdipmpmjpaaMD9
import Derived.Test.YteancdipmpmjpaaMD8
import Derived.Test.YteancdipmpmjpaaMD10
set_option linter.all false
set_option linter.unusedSimpArgs false
set_option linter.unusedVariables false
namespace Go.Proofs.Yteancdipmpmjpaa
open Go.RowKit
set_option maxRecDepth 100000
set_option linter.unusedVariables false

def SubAt (b X Y N k : Nat) (o : List Nat) (cy : Nat) : Prop := o.length = N ∧ (∀ x ∈ o, x < b) ∧ (∀ i, k ≤ i → o.getD i 0 = 0) ∧ cy ≤ 1 ∧ X % b ^ k + b ^ k * cy = Y % b ^ k + val b o
theorem SubAt.start (b X Y N : Nat) (hb : 0 < b) : SubAt b X Y N 0 (List.replicate N 0) 0 := by
  refine ⟨by simp, fun x hx => by rw [(List.mem_replicate.1 hx).2]; exact hb, fun i _ => ?_, by omega, ?_⟩
  · simp only [List.getD, List.getElem?_replicate]; split <;> rfl
  · rw [val_replicate]; simp [Nat.mod_one]
theorem SubAt.step {b X Y N k cy d : Nat} {o : List Nat} (hb : 2 ≤ b) (h : SubAt b X Y N k o cy) (hk : k < N) (hd : (d : Int) = ((X / b ^ k % b : Nat) - (Y / b ^ k % b : Nat) - cy : Int) % b) :
    SubAt b X Y N (k + 1) (o.set k d) (if X / b ^ k % b < Y / b ^ k % b + cy then 1 else 0) := by
  obtain ⟨h1, h2, h3, h4, h5⟩ := h
  have x1 := Nat.mod_lt (X / b ^ k) (show 0 < b by omega)
  have y1 := Nat.mod_lt (Y / b ^ k) (show 0 < b by omega)
  have ex := mod_pow_step b X k
  have ey := mod_pow_step b Y k
  generalize X / b ^ k % b = x at *
  generalize Y / b ^ k % b = y at *
  have hd1 : d < b := by
    have h1 := Int.emod_lt_of_pos ((x : Int) - y - cy) (show (0 : Int) < b by omega)
    omega
  have hd2 : d + y + cy = x + b * (if x < y + cy then 1 else 0) := by
    split
    · rw [← Int.add_emod_right, Int.emod_eq_of_lt (by omega) (by omega)] at hd
      omega
    · rw [Int.emod_eq_of_lt (by omega) (by omega)] at hd
      omega
  generalize (if x < y + cy then 1 else 0) = c' at hd2 ⊢
  have hc' : c' ≤ 1 := by
    rcases Nat.lt_or_ge c' 2 with h | h
    · omega
    · have := Nat.mul_le_mul_left b h; omega
  refine ⟨by simp [h1], fun u hu => ?_, fun i hi => ?_, hc', ?_⟩
  · rcases List.mem_or_eq_of_mem_set hu with hu | rfl
    · exact h2 u hu
    · exact hd1
  · have := h3 i (by omega)
    simp only [List.getD] at this ⊢
    rw [List.getElem?_set_ne (by omega)]
    exact this
  · have hs := val_set b o k d (by omega)
    rw [h3 k (Nat.le_refl _), Nat.mul_zero, Nat.add_zero] at hs
    have e1 : b ^ k * (d + y + cy) = b ^ k * (x + b * c') := by rw [hd2]
    rw [Nat.mul_add, Nat.mul_add, Nat.mul_add] at e1
    rw [hs, ex, ey, Nat.pow_succ, Nat.mul_assoc]
    omega
theorem SubAt.done {b X Y N cy : Nat} {o : List Nat} (h : SubAt b X Y N N o cy) (hx : X < b ^ N) (hy : Y ≤ X) : val b o = X - Y := by
  obtain ⟨h1, h2, h3, h4, h5⟩ := h
  have hv := val_lt o h2
  rw [h1] at hv
  rw [Nat.mod_eq_of_lt hx, Nat.mod_eq_of_lt (by omega)] at h5
  rcases Nat.eq_zero_or_pos cy with h0 | h0
  · subst h0; omega
  · have : cy = 1 := by omega
    subst this; omega


set_option maxHeartbeats 2000000 in
theorem Sub_nat (A B : Option Addr) (n c m d X Y : Nat) (w : World) (hx : Nt w A n c X) (hy : Nt w B m d Y) (h1 : n ≤ 1000000) (h2 : m ≤ 1000000) :
    Calls Try.prog 76 #[.agg #[.slice A n c], .agg #[.slice B m d]] w fun e w' => ∃ A k, e = .returned (.agg #[.slice A k k]) ∧ Nt w' A k k (X - Y + (Y - X)) ∧ Nw w.heap.size A ∧ Below w.heap.size w w' := by
  have K := St.start w
  have CM : Hid (∀ W, Below w.heap.size w W → _) := Lib.hid fun W u => Cmp_nat A B n c m d X Y W (hx.below u) (hy.below u) h1 h2
  by_cases hlt : X < Y
  · have ht : decide (cmpN X Y < 0) = true := by unfold cmpN; rw [if_pos hlt]; rfl
    go_enter Try.func76, Try.ntmps76
    go_wp2_with (first|((with_reducible refine at_load ?_);first|(refine wm_load (cs := ?_) (t := ?_) (n := ?_) K rfl _ _ rfl rfl ?_ ?_ ?_ ?_;rotate_left 2;(repeat (first|exact At.hd|refine At.tl ?_));rotate_left;(with_reducible first|exact row108);(exact rfl))|(refine wm_own (cs := ?_) (t := ?_) (v := ?_) K rfl _ _ rfl rfl ?_ ?_ ?_ ?_;rotate_left 2;(repeat (first|exact At.hd|refine At.tl ?_));rotate_left;(exact rfl);(with_reducible first|exact one106)))|((with_reducible refine at_store ?_);(first|(refine wm_store (L' := ?_) (cs := ?_) (t := ?_) (n := ?_) K rfl _ _ _ rfl rfl rfl rfl ?_ ?_ ?_ ?_ ?_ ?_;rotate_left 3;(repeat (first|exact Put.hd|(refine Put.tl (L' := ?_) ?_;rotate_left)));rotate_left;(with_reducible first|exact row108);(exact rfl);(exact rfl);(simp [Ones, Value.oneCell'])));(try clear K);(try clear ww);intro ww K;(try simp [go_sem] at K))|((first|((with_reducible refine at_box ?_);refine wm_box K rfl _ _ rfl rfl rfl ?_)|((with_reducible refine at_alloc ?_);refine wm_alloc (v := ?_) (cs := ?_) K rfl _ rfl ?_ ?_ ?_;rotate_left;(with_reducible first|exact zero108);rotate_left;exact rfl));(try clear K);(try clear ww);(first|((fail_if_success (have _h := b1));intro b1 ww K)|((fail_if_success (have _h := b2));intro b2 ww K)|((fail_if_success (have _h := b3));intro b3 ww K));(try simp [go_sem, Value.cells] at K))|(go_at_call 79;(with_reducible refine (CM.out _ K.below).mono ?_);rintro e w2 ⟨rfl, k1⟩;replace K := K.step k1;clear k1;(try clear ww);revert w2;intro ww K)|((with_reducible refine at_makeSl ?_);refine wm_make K rfl _ _ _ rfl Try.underlying106 num24 m rfl rfl (by omega) (by omega) (by omega) (by omega) ?_;(try clear K);(try clear ww);intro b4 ww K))
    clear ht
    have hXY : X ≤ Y := by omega
    have hXY' := Lib.hid hXY
    have hlim : Y < 4294967296 ^ m := by
      have a1 := digs_le (b := 4294967296) (by omega) Y
      rwa [← hy.len] at a1
    have HD := Lib.hid (fun (k cy : Nat) (o : List Nat) (h : SubAt 4294967296 Y X m m o cy) => h.done hlim hXY)
    have HL := Lib.hid hy.len
    clear hlim hXY hlt
    go_loopw [6, 7, 20] (fun cy _ i wr => ∃ (k cz : Nat) (o : List Nat), k ≤ m ∧ i = .int .i64 k ∧ cy = .int .u32 cz ∧ Hid (SubAt 4294967296 Y X m k o cz) ∧ St w.heap.size w [(b4, (nums .u32 o).toArray, 24), (b3, #[.slice none 0 0], 108), (b2, #[.slice A n c], 108), (b1, #[.slice B m d], 108)] Any wr) (fun _ _ i _ => m - (intOf i).toNat)
    case atStart => exact ⟨0, 0, _, Nat.zero_le _, rfl, rfl, Lib.hid (SubAt.start _ _ _ _ (by omega)), K⟩
    case round =>
      clear K
      obtain ⟨k, cz, o, hk, rfl, rfl, hs, K⟩ := hrel
      by_cases hlt : k < m
      · have ht : decide (k < m) = true := decide_eq_true hlt
        have st := fun d => hs.out.step (d := d) (by omega) hlt
        obtain ⟨b, off, e, hb, hc⟩ := hy.1.rd.get hlt
        have hv := hc k _ (nums_get .u32 _ k (by rw [← hy.len]; exact hlt))
        rw [digs_get (by omega)] at hv
        have hfree := (K.get .hd).free k
        subst e
        have PY : ∀ w', Nt w' A n c X → _ := fun w' h => part_any A n c X k w' h (by omega)
        have hY := Lib.hid hx
        have x1 := Nat.mod_lt (Y / 4294967296 ^ k) (show 0 < 4294967296 by omega)
        have y1 := Nat.mod_lt (X / 4294967296 ^ k) (show 0 < 4294967296 by omega)
        generalize Y / 4294967296 ^ k % 4294967296 = x at *
        generalize X / 4294967296 ^ k % 4294967296 = y at *
        have c1 := hs.out.2.2.2.1
        have S32 := Lib.hid (fun W => Sub32_any x y cz W x1 y1 c1)
        obtain ⟨z, hz⟩ : ∃ z : Nat, (z : Int) = ((x : Int) - y - cz) % 4294967296 := ⟨(((x : Int) - y - cz) % 4294967296).toNat, by omega⟩
        rw [← hz] at S32
        replace st := st z hz
        obtain ⟨q, hq⟩ : ∃ q : Nat, q = if x < y + cz then 1 else 0 := ⟨_, rfl⟩
        have hq' : (if x < y + cz then (1 : Int) else 0) = (q : Int) := by rw [hq]; split <;> rfl
        rw [hq'] at S32
        rw [← hq] at st
        have ST := Lib.hid st
        have OL : k < o.length := by rw [hs.out.1]; exact hlt
        have PY' := Lib.hid PY
        clear st hq hq' hz hc PY hs c1 x1 y1
        go_wp2_with fail
        refine wm_held _ [(true, 0), (true, 1), (true, 2), (true, 3), (true, 4), (true, 5), (true, 6), (true, 7), (true, 8), (true, 10), (false, 9), (false, 11), (true, 12), (true, 13), (true, 14), (true, 15), (false, 16), (true, 17)] K sbc1 (by kernel_rfl) (by kernel_rfl) ?_; (try clear K); (try clear ww); intro ww K; (try simp [go_sem] at K); simp only [pick, List.getElem?_toArray, List.getElem?_cons_succ, List.getElem?_cons_zero]
        repeat (first|((with_reducible refine ht_load ?_);first|(refine hm_load (cs := ?_) (t := ?_) (n := ?_) rfl _ _ rfl rfl ?_ ?_ ?_ ?_;rotate_left 2;(repeat (first|exact At.hd|refine At.tl ?_));rotate_left;(with_reducible first|exact row108);(exact rfl))|(refine hm_own (cs := ?_) (t := ?_) (v := ?_) rfl _ _ rfl rfl ?_ ?_ ?_ ?_;rotate_left 2;(repeat (first|exact At.hd|refine At.tl ?_));rotate_left;(first|exact rfl|assumption);(with_reducible first|exact one106))|(refine hm_cell (v := ?_) rfl _ _ rfl rfl (fun ww K => ?_) ?_ ?_;rotate_left;(first|exact (K.below.cell (by assumption)).trans (by assumption));(with_reducible first|exact one24)))|(refine held_take (fun K' hK' => ?_);go_simp;first|(apply Exists.intro;refine ⟨?_, hK' _ ?_⟩;(intro _ _;rfl);clear hK' K'))|((with_reducible refine ht_store ?_);first|(refine hm_put (L' := ?_) (cs := ?_) (new := ?_) (t := ?_) K rfl _ _ _ rfl rfl rfl rfl ?_ ?_ ?_ ?_ rfl rfl ?_;rotate_left 4;(repeat (exact Put.hd));(solve|(simp only [List.size_toArray, nums_length];first|assumption));(exact nums_set _ _ _ _);(with_reducible first|exact one24);(try clear K);(try clear ww);intro ww K;(try simp [go_sem] at K);refine ⟨(by apply via sbc1;first|exact K), ?_⟩))|(refine held_do (fun K' hK' => ?_);go_simp;go_at_call 118;(with_reducible refine (PY'.out _ (hY.out.below K.below)).mono ?_);rintro e w2 ⟨rfl, k1⟩;replace K := K.step k1;clear k1;(try clear ww);revert w2;intro ww K;(try dsimp only);refine hK' _ _ (by apply via sbc1;first|exact K) ?_;clear hK' K')|(refine held_do (fun K' hK' => ?_);go_simp;go_at_call 119;(with_reducible refine (S32.out _).mono ?_);rintro e w2 ⟨rfl, k1⟩;replace K := K.step (by first|exact below_of_eq k1);clear k1;(try clear ww);revert w2;intro ww K;(try dsimp only);refine hK' _ _ (by apply via sbc1;first|exact K) ?_;clear hK' K'))
        refine held_nil ?_
        go_wp2
        exact ⟨⟨k + 1, q, o.set k z, by omega, by go_num, rfl, ST, K⟩, by simp [intOf]; omega⟩
      · obtain rfl : m = k := by omega
        have hv := Lib.hid (HD.out m cz o hs.out)
        have hl := Lib.hid hs.out.2.1
        have hlen : o.length = m := hs.out.1
        have S := Sl.of_has (K.get .hd)
        simp only [List.size_toArray, nums_length, hlen] at S
        have S' := Lib.hid S
        have hXY := hXY'.out
        have E : Hid (Y - X = X - Y + (Y - X)) := Lib.hid (by omega)
        clear S hlen hs hXY
        go_wp2_with fail
        refine (trim_any _ m m o _ (by simpa using S'.out) hl.out (Nat.le_refl _) (by omega)).mono ?_
        rintro e w1 ⟨k1, rfl, hn, g1⟩
        rw [hv.out, E.out] at hn
        replace K := (K.step g1).freezeNt hn
        clear hn g1 hl S'
        dsimp only
        go_wp2_with (first|((with_reducible refine at_store ?_);(first|(refine wm_store (L' := ?_) (cs := ?_) (t := ?_) (n := ?_) K rfl _ _ _ rfl rfl rfl rfl ?_ ?_ ?_ ?_ ?_ ?_;rotate_left 3;(repeat (exact Put.hd));rotate_left;(with_reducible first|exact row108);(exact rfl);(exact rfl);(simp [Ones, Value.oneCell'])));(try clear K);(try clear ww);intro ww K;(try simp [go_sem] at K)))
        refine bodyPost_ret (K.res (cs := ?_) (t := ?_) (n := ?_) rfl _ rfl ?_ ?_ ?_) rfl ?_;rotate_left 2;(repeat (exact At.hd));rotate_left;(with_reducible first|exact row108);(exact rfl)
        exact ⟨_, _, rfl, K.fact.1.1, K.fact.1.2, K.below⟩
  · have ht : decide (cmpN X Y < 0) = false := by unfold cmpN; rw [if_neg hlt]; split <;> rfl
    go_enter Try.func76, Try.ntmps76
    go_wp2_with (first|((with_reducible refine at_load ?_);first|(refine wm_load (cs := ?_) (t := ?_) (n := ?_) K rfl _ _ rfl rfl ?_ ?_ ?_ ?_;rotate_left 2;(repeat (first|exact At.hd|refine At.tl ?_));rotate_left;(with_reducible first|exact row108);(exact rfl))|(refine wm_own (cs := ?_) (t := ?_) (v := ?_) K rfl _ _ rfl rfl ?_ ?_ ?_ ?_;rotate_left 2;(repeat (first|exact At.hd|refine At.tl ?_));rotate_left;(exact rfl);(with_reducible first|exact one106)))|((first|((with_reducible refine at_box ?_);refine wm_box K rfl _ _ rfl rfl rfl ?_)|((with_reducible refine at_alloc ?_);refine wm_alloc (v := ?_) (cs := ?_) K rfl _ rfl ?_ ?_ ?_;rotate_left;(with_reducible first|exact zero108);rotate_left;exact rfl));(try clear K);(try clear ww);(first|((fail_if_success (have _h := b1));intro b1 ww K)|((fail_if_success (have _h := b2));intro b2 ww K)|((fail_if_success (have _h := b3));intro b3 ww K));(try simp [go_sem, Value.cells] at K))|(go_at_call 79;(with_reducible refine (CM.out _ K.below).mono ?_);rintro e w2 ⟨rfl, k1⟩;replace K := K.step k1;clear k1;(try clear ww);revert w2;intro ww K)|((with_reducible refine at_makeSl ?_);refine wm_make K rfl _ _ _ rfl Try.underlying106 num24 n rfl rfl (by omega) (by omega) (by omega) (by omega) ?_;(try clear K);(try clear ww);intro b4 ww K))
    clear ht
    have hXY : Y ≤ X := by omega
    have hXY' := Lib.hid hXY
    have hlim : X < 4294967296 ^ n := by
      have a1 := digs_le (b := 4294967296) (by omega) X
      rwa [← hx.len] at a1
    have HD := Lib.hid (fun (k cy : Nat) (o : List Nat) (h : SubAt 4294967296 X Y n n o cy) => h.done hlim hXY)
    have HL := Lib.hid hx.len
    clear hlim hXY hlt
    go_loopw [6, 7, 20] (fun cy _ i wr => ∃ (k cz : Nat) (o : List Nat), k ≤ n ∧ i = .int .i64 k ∧ cy = .int .u32 cz ∧ Hid (SubAt 4294967296 X Y n k o cz) ∧ St w.heap.size w [(b4, (nums .u32 o).toArray, 24), (b3, #[.slice none 0 0], 108), (b2, #[.slice B m d], 108), (b1, #[.slice A n c], 108)] Any wr) (fun _ _ i _ => n - (intOf i).toNat)
    case atStart => exact ⟨0, 0, _, Nat.zero_le _, rfl, rfl, Lib.hid (SubAt.start _ _ _ _ (by omega)), K⟩
    case round =>
      clear K
      obtain ⟨k, cz, o, hk, rfl, rfl, hs, K⟩ := hrel
      by_cases hlt : k < n
      · have ht : decide (k < n) = true := decide_eq_true hlt
        have st := fun d => hs.out.step (d := d) (by omega) hlt
        obtain ⟨b, off, e, hb, hc⟩ := hx.1.rd.get hlt
        have hv := hc k _ (nums_get .u32 _ k (by rw [← hx.len]; exact hlt))
        rw [digs_get (by omega)] at hv
        have hfree := (K.get .hd).free k
        subst e
        have PY : ∀ w', Nt w' B m d Y → _ := fun w' h => part_any B m d Y k w' h (by omega)
        have hY := Lib.hid hy
        have x1 := Nat.mod_lt (X / 4294967296 ^ k) (show 0 < 4294967296 by omega)
        have y1 := Nat.mod_lt (Y / 4294967296 ^ k) (show 0 < 4294967296 by omega)
        generalize X / 4294967296 ^ k % 4294967296 = x at *
        generalize Y / 4294967296 ^ k % 4294967296 = y at *
        have c1 := hs.out.2.2.2.1
        have S32 := Lib.hid (fun W => Sub32_any x y cz W x1 y1 c1)
        obtain ⟨z, hz⟩ : ∃ z : Nat, (z : Int) = ((x : Int) - y - cz) % 4294967296 := ⟨(((x : Int) - y - cz) % 4294967296).toNat, by omega⟩
        rw [← hz] at S32
        replace st := st z hz
        obtain ⟨q, hq⟩ : ∃ q : Nat, q = if x < y + cz then 1 else 0 := ⟨_, rfl⟩
        have hq' : (if x < y + cz then (1 : Int) else 0) = (q : Int) := by rw [hq]; split <;> rfl
        rw [hq'] at S32
        rw [← hq] at st
        have ST := Lib.hid st
        have OL : k < o.length := by rw [hs.out.1]; exact hlt
        have PY' := Lib.hid PY
        clear st hq hq' hz hc PY hs c1 x1 y1
        go_wp2_with fail
        refine wm_held _ [(true, 0), (true, 1), (true, 2), (true, 3), (true, 4), (true, 5), (true, 6), (true, 7), (true, 8), (true, 10), (false, 9), (false, 11), (true, 12), (true, 13), (true, 14), (true, 15), (false, 16), (true, 17)] K sbc1 (by kernel_rfl) (by kernel_rfl) ?_; (try clear K); (try clear ww); intro ww K; (try simp [go_sem] at K); simp only [pick, List.getElem?_toArray, List.getElem?_cons_succ, List.getElem?_cons_zero]
        repeat (first|((with_reducible refine ht_load ?_);first|(refine hm_load (cs := ?_) (t := ?_) (n := ?_) rfl _ _ rfl rfl ?_ ?_ ?_ ?_;rotate_left 2;(repeat (first|exact At.hd|refine At.tl ?_));rotate_left;(with_reducible first|exact row108);(exact rfl))|(refine hm_own (cs := ?_) (t := ?_) (v := ?_) rfl _ _ rfl rfl ?_ ?_ ?_ ?_;rotate_left 2;(repeat (first|exact At.hd|refine At.tl ?_));rotate_left;(first|exact rfl|assumption);(with_reducible first|exact one106))|(refine hm_cell (v := ?_) rfl _ _ rfl rfl (fun ww K => ?_) ?_ ?_;rotate_left;(first|exact (K.below.cell (by assumption)).trans (by assumption));(with_reducible first|exact one24)))|(refine held_take (fun K' hK' => ?_);go_simp;first|(apply Exists.intro;refine ⟨?_, hK' _ ?_⟩;(intro _ _;rfl);clear hK' K'))|((with_reducible refine ht_store ?_);first|(refine hm_put (L' := ?_) (cs := ?_) (new := ?_) (t := ?_) K rfl _ _ _ rfl rfl rfl rfl ?_ ?_ ?_ ?_ rfl rfl ?_;rotate_left 4;(repeat (exact Put.hd));(solve|(simp only [List.size_toArray, nums_length];first|assumption));(exact nums_set _ _ _ _);(with_reducible first|exact one24);(try clear K);(try clear ww);intro ww K;(try simp [go_sem] at K);refine ⟨(by apply via sbc1;first|exact K), ?_⟩))|(refine held_do (fun K' hK' => ?_);go_simp;go_at_call 118;(with_reducible refine (PY'.out _ (hY.out.below K.below)).mono ?_);rintro e w2 ⟨rfl, k1⟩;replace K := K.step k1;clear k1;(try clear ww);revert w2;intro ww K;(try dsimp only);refine hK' _ _ (by apply via sbc1;first|exact K) ?_;clear hK' K')|(refine held_do (fun K' hK' => ?_);go_simp;go_at_call 119;(with_reducible refine (S32.out _).mono ?_);rintro e w2 ⟨rfl, k1⟩;replace K := K.step (by first|exact below_of_eq k1);clear k1;(try clear ww);revert w2;intro ww K;(try dsimp only);refine hK' _ _ (by apply via sbc1;first|exact K) ?_;clear hK' K'))
        refine held_nil ?_
        go_wp2
        exact ⟨⟨k + 1, q, o.set k z, by omega, by go_num, rfl, ST, K⟩, by simp [intOf]; omega⟩
      · obtain rfl : n = k := by omega
        have hv := Lib.hid (HD.out n cz o hs.out)
        have hl := Lib.hid hs.out.2.1
        have hlen : o.length = n := hs.out.1
        have S := Sl.of_has (K.get .hd)
        simp only [List.size_toArray, nums_length, hlen] at S
        have S' := Lib.hid S
        have hXY := hXY'.out
        have E : Hid (X - Y = X - Y + (Y - X)) := Lib.hid (by omega)
        clear S hlen hs hXY
        go_wp2_with fail
        refine (trim_any _ n n o _ (by simpa using S'.out) hl.out (Nat.le_refl _) (by omega)).mono ?_
        rintro e w1 ⟨k1, rfl, hn, g1⟩
        rw [hv.out, E.out] at hn
        replace K := (K.step g1).freezeNt hn
        clear hn g1 hl S'
        dsimp only
        go_wp2_with (first|((with_reducible refine at_store ?_);(first|(refine wm_store (L' := ?_) (cs := ?_) (t := ?_) (n := ?_) K rfl _ _ _ rfl rfl rfl rfl ?_ ?_ ?_ ?_ ?_ ?_;rotate_left 3;(repeat (exact Put.hd));rotate_left;(with_reducible first|exact row108);(exact rfl);(exact rfl);(simp [Ones, Value.oneCell'])));(try clear K);(try clear ww);intro ww K;(try simp [go_sem] at K)))
        refine bodyPost_ret (K.res (cs := ?_) (t := ?_) (n := ?_) rfl _ rfl ?_ ?_ ?_) rfl ?_;rotate_left 2;(repeat (exact At.hd));rotate_left;(with_reducible first|exact row108);(exact rfl)
        exact ⟨_, _, rfl, K.fact.1.1, K.fact.1.2, K.below⟩
end Go.Proofs.Yteancdipmpmjpaa
namespace Go.Proofs.Yteancdipmpmjpaa
open Go.RowKit
set_option maxRecDepth 100000
set_option linter.unusedVariables false

def MulAt (b X Y N m i k : Nat) (o : List Nat) (cy : Nat) : Prop :=
  o.length = N ∧ (∀ x ∈ o, x < b) ∧ (∀ j, i + m ≤ j → o.getD j 0 = 0) ∧ cy < b ∧ val b o + b ^ (i + k) * cy = X % b ^ i * Y + b ^ i * (X / b ^ i % b * (Y % b ^ k))
theorem MulAt.start (b X Y N m : Nat) (hb : 0 < b) : MulAt b X Y N m 0 0 (List.replicate N 0) 0 := by
  refine ⟨by simp, fun x hx => by rw [(List.mem_replicate.1 hx).2]; exact hb, fun i _ => ?_, hb, ?_⟩
  · simp only [List.getD, List.getElem?_replicate]; split <;> rfl
  · rw [val_replicate]; simp [Nat.mod_one]
theorem MulAt.step {b X Y N m i k cy : Nat} {o : List Nat} (hb : 2 ≤ b) (h : MulAt b X Y N m i k o cy) (hk : k < m) (hi : i + m ≤ N) :
    MulAt b X Y N m i (k + 1) (o.set (i + k) ((cy + (X / b ^ i % b * (Y / b ^ k % b) + o.getD (i + k) 0)) % b)) ((cy + (X / b ^ i % b * (Y / b ^ k % b) + o.getD (i + k) 0)) / b) := by
  obtain ⟨h1, h2, h3, h4, h5⟩ := h
  have x1 := Nat.mod_lt (X / b ^ i) (show 0 < b by omega)
  have y1 := Nat.mod_lt (Y / b ^ k) (show 0 < b by omega)
  have ey := mod_pow_step b Y k
  have u1 : o.getD (i + k) 0 < b := by
    rw [List.getD, List.getElem?_eq_getElem (by omega)]
    exact h2 _ (List.getElem_mem _)
  unfold MulAt
  generalize X / b ^ i % b = x at *
  generalize Y / b ^ k % b = y at *
  have hs := fun z => val_set b o (i + k) z (by omega)
  generalize o.getD (i + k) 0 = u at *
  obtain ⟨s, hsm⟩ : ∃ s, s = cy + (x * y + u) := ⟨_, rfl⟩
  rw [← hsm]
  have sb : s < b * b := by
    have a1 : x * y ≤ (b - 1) * (b - 1) := Nat.mul_le_mul (by omega) (by omega)
    obtain ⟨c, rfl⟩ : ∃ c, b = c + 1 := ⟨b - 1, by omega⟩
    simp only [Nat.add_sub_cancel] at a1
    have a2 : (c + 1) * (c + 1) = c * c + 2 * c + 1 := by rw [Nat.add_mul, Nat.mul_add, Nat.mul_add]; omega
    omega
  refine ⟨by simp [h1], fun z hz => ?_, fun j hj => ?_, Nat.div_lt_of_lt_mul sb, ?_⟩
  · rcases List.mem_or_eq_of_mem_set hz with hz | rfl
    · exact h2 z hz
    · exact Nat.mod_lt _ (by omega)
  · have := h3 j hj
    simp only [List.getD] at this ⊢
    rw [List.getElem?_set_ne (by omega)]
    exact this
  · have hs := hs (s % b)
    have hm := Nat.mod_add_div s b
    have e1 : b ^ (i + k) * (s % b + b * (s / b)) = b ^ (i + k) * (cy + (x * y + u)) := by rw [hm, hsm]
    rw [Nat.mul_add, Nat.mul_add, Nat.mul_add] at e1
    have e2 : b ^ (i + (k + 1)) * (s / b) = b ^ (i + k) * (b * (s / b)) := by rw [← Nat.add_assoc, Nat.pow_succ, Nat.mul_assoc]
    have e3 : b ^ i * (x * (Y % b ^ (k + 1))) = b ^ i * (x * (Y % b ^ k)) + b ^ (i + k) * (x * y) := by
      rw [ey, Nat.mul_add, Nat.mul_add, Nat.pow_add]
      congr 1
      rw [Nat.mul_assoc, Nat.mul_left_comm x]
    rw [e2, e3]
    omega
theorem MulAt.row {b X Y N m i cy : Nat} {o : List Nat} (hb : 2 ≤ b) (h : MulAt b X Y N m i m o cy) (hi : i + m < N) (hY : Y < b ^ m) :
    MulAt b X Y N m (i + 1) 0 (o.set (i + m) cy) 0 := by
  obtain ⟨h1, h2, h3, h4, h5⟩ := h
  have ex := mod_pow_step b X i
  rw [Nat.mod_eq_of_lt hY] at h5
  generalize X / b ^ i % b = x at *
  refine ⟨by simp [h1], fun z hz => ?_, fun j hj => ?_, by omega, ?_⟩
  · rcases List.mem_or_eq_of_mem_set hz with hz | rfl
    · exact h2 z hz
    · exact h4
  · have := h3 j (by omega)
    simp only [List.getD] at this ⊢
    rw [List.getElem?_set_ne (by omega)]
    exact this
  · have hs := val_set b o (i + m) cy (by omega)
    rw [h3 (i + m) (Nat.le_refl _), Nat.mul_zero, Nat.add_zero, h5] at hs
    rw [hs, ex, Nat.add_mul, Nat.mul_assoc]
    simp [Nat.mod_one]
theorem MulAt.done {b X Y N m n : Nat} {o : List Nat} (h : MulAt b X Y N m n 0 o 0) (hX : X < b ^ n) : val b o = X * Y := by
  obtain ⟨h1, h2, h3, h4, h5⟩ := h
  rw [Nat.mod_eq_of_lt hX] at h5
  simpa [Nat.mod_one] using h5

theorem Nt.lim {w : World} {A : Option Addr} {n c X : Nat} (h : Nt w A n c X) : X < 4294967296 ^ n := by
  have a1 := digs_le (b := 4294967296) (by omega) X
  rwa [← h.len] at a1
theorem Nt.at {w : World} {A : Option Addr} {n c X k : Nat} (h : Nt w A n c X) (hk : k < n) : ∃ b off, A = some ⟨b, off, none⟩ ∧ b < w.heap.size ∧ w.cell? ⟨b, off + k, none⟩ = some (.int .u32 (X / 4294967296 ^ k % 4294967296 : Nat)) := by
  obtain ⟨b, off, e, hb, hc⟩ := h.1.rd.get hk
  have hv := hc k _ (nums_get .u32 _ k (by rw [← h.len]; exact hk))
  rw [digs_get (by omega)] at hv
  exact ⟨b, off, e, hb, hv⟩
theorem nums_at (k : IntKind) (l : List Nat) (i : Nat) (h : i < l.length) : (nums k l).toArray[i]? = some (.int k (l.getD i 0 : Nat)) := by simpa using nums_get k l i h

set_option maxHeartbeats 2000000 in
theorem Mul_nat (A B : Option Addr) (n c m d X Y : Nat) (w : World) (hx : Nt w A n c X) (hy : Nt w B m d Y) (h1 : n ≤ 1000000) (h2 : m ≤ 1000000) :
    Calls Try.prog 78 #[.agg #[.slice A n c], .agg #[.slice B m d]] w fun e w' => ∃ A k, e = .returned (.agg #[.slice A k k]) ∧ Nt w' A k k (X * Y) ∧ Nw w.heap.size A ∧ Below w.heap.size w w' := by
  have K := St.start w
  have HX := Lib.hid hx.lim
  have HY := Lib.hid hy.lim
  go_enter Try.func78, Try.ntmps78
  go_wp2_with (first|((with_reducible refine at_load ?_);first|(refine wm_own (cs := ?_) (t := ?_) (v := ?_) K rfl _ _ rfl rfl ?_ ?_ ?_ ?_;rotate_left 2;(repeat (first|exact At.hd|refine At.tl ?_));rotate_left;(exact rfl);(with_reducible first|exact one106)))|((first|((with_reducible refine at_box ?_);refine wm_box K rfl _ _ rfl rfl rfl ?_)|((with_reducible refine at_alloc ?_);refine wm_alloc (v := ?_) (cs := ?_) K rfl _ rfl ?_ ?_ ?_;rotate_left;(with_reducible first|exact zero108);rotate_left;exact rfl));(try clear K);(try clear ww);(first|((fail_if_success (have _h := b1));intro b1 ww K)|((fail_if_success (have _h := b2));intro b2 ww K)|((fail_if_success (have _h := b3));intro b3 ww K));(try simp [go_sem, Value.cells] at K))|((with_reducible refine at_makeSl ?_);refine wm_make K rfl _ _ _ rfl Try.underlying106 num24 (n + m) rfl rfl (by omega) (by omega) (by omega) (by omega) ?_;(try clear K);(try clear ww);intro b4 ww K))
  go_loopw [22] (fun i wr => ∃ (k : Nat) (o : List Nat), k ≤ n ∧ i = .int .i64 k ∧ Hid (MulAt 4294967296 X Y (n + m) m k 0 o 0) ∧ St w.heap.size w [(b4, (nums .u32 o).toArray, 24), (b3, #[.slice none 0 0], 108), (b2, #[.slice B m d], 108), (b1, #[.slice A n c], 108)] Any wr) (fun i _ => n - (intOf i).toNat)
  case atStart => exact ⟨0, _, Nat.zero_le _, rfl, Lib.hid (MulAt.start _ _ _ _ _ (by omega)), K⟩
  case round =>
    clear K
    obtain ⟨i, o, hi, rfl, hs, K⟩ := hrel
    by_cases hlt : i < n
    · obtain ⟨b, off, rfl, hb, hv⟩ := hx.at hlt
      obtain ⟨x, hxx⟩ : ∃ x, x = X / 4294967296 ^ i % 4294967296 := ⟨_, rfl⟩
      rw [← hxx] at hv
      have HXX := Lib.hid hxx
      have x1 : x ≤ 4294967295 := by have := Nat.mod_lt (X / 4294967296 ^ i) (show 0 < 4294967296 by omega); omega
      have ht : decide (i < n) = true := decide_eq_true hlt
      clear hxx
      go_wp2_with (first|((with_reducible refine at_load ?_);first|(refine wm_own (cs := ?_) (t := ?_) (v := ?_) K rfl _ _ rfl rfl ?_ ?_ ?_ ?_;rotate_left 2;(repeat (first|exact At.hd|refine At.tl ?_));rotate_left;(first|exact rfl|assumption);(with_reducible first|exact one106))|(refine wm_cell (v := ?_) rfl _ _ rfl rfl ?_ ?_ ?_;rotate_left;(first|exact (K.below.cell (by assumption)).trans (by assumption));(with_reducible first|exact one24))))
      go_loopw [8, 30] (fun cy j wr => ∃ (k cz : Nat) (o : List Nat), k ≤ m ∧ j = .int .i64 k ∧ cy = .int .u64 cz ∧ Hid (MulAt 4294967296 X Y (n + m) m i k o cz) ∧ St w.heap.size w [(b4, (nums .u32 o).toArray, 24), (b3, #[.slice none 0 0], 108), (b2, #[.slice B m d], 108), (b1, #[.slice (some ⟨b, off, none⟩) n c], 108)] Any wr) (fun _ j _ => m - (intOf j).toNat)
      case atStart => exact ⟨0, 0, o, Nat.zero_le _, rfl, rfl, hs, K⟩
      case round =>
        clear K hs
        obtain ⟨k, cz, o, hk, rfl, rfl, hs, K⟩ := hrel
        by_cases hlk : k < m
        · obtain ⟨b', off', rfl, hb', hv'⟩ := hy.at hlk
          have st := hs.out.step (by omega) hlk (by omega)
          rw [← HXX.out] at st
          have y1 := Nat.mod_lt (Y / 4294967296 ^ k) (show 0 < 4294967296 by omega)
          generalize Y / 4294967296 ^ k % 4294967296 = y at *
          have c1 := hs.out.2.2.2.1
          have ol : i + k < o.length := by rw [hs.out.1]; omega
          have hcell := nums_at .u32 o (i + k) ol
          have u1 : o.getD (i + k) 0 < 4294967296 := by
            rw [List.getD, List.getElem?_eq_getElem (by omega)]
            exact hs.out.2.1 _ (List.getElem_mem _)
          generalize o.getD (i + k) 0 = u at *
          have xy : x * y ≤ 4294967295 * 4294967295 := Nat.mul_le_mul x1 (by omega)
          have es : Hid (IntKind.u64.wrap ((cz : Int) + IntKind.u64.wrap (IntKind.u64.wrap ((x : Int) * (y : Int)) + (u : Int))) = ((cz + (x * y + u) : Nat) : Int)) := Lib.hid (by
            rw [← Int.natCast_mul]
            generalize x * y = z at *
            simp only [IntKind.wrap_u64]; omega)
          have ST := Lib.hid st
          have hlt' : i + k < n + m := by omega
          have ht' : decide (k < m) = true := decide_eq_true hlk
          clear st hs xy
          go_wp2_with (first|((with_reducible refine at_load ?_);first|(refine wm_own (cs := ?_) (t := ?_) (v := ?_) K rfl _ _ rfl rfl ?_ ?_ ?_ ?_;rotate_left 2;(repeat (first|exact At.hd|refine At.tl ?_));rotate_left;(assumption);(with_reducible first|exact one24))|(refine wm_cell (v := ?_) rfl _ _ rfl rfl ?_ ?_ ?_;rotate_left;(first|exact (K.below.cell (by assumption)).trans (by assumption));(with_reducible first|exact one24)))|((with_reducible refine at_store ?_);(first|(refine wm_put (L' := ?_) (cs := ?_) (new := ?_) (t := ?_) K rfl _ _ _ rfl rfl rfl rfl ?_ ?_ ?_ ?_ rfl rfl ?_;rotate_left 4;(repeat (exact Put.hd));(solve|(simp only [List.size_toArray, nums_length];first|assumption));(exact nums_set _ _ _ _);(with_reducible first|exact one24)));(try clear K);(try clear ww);intro ww K;(try simp [go_sem] at K)))
          refine ⟨⟨k + 1, (cz + (x * y + u)) / 4294967296, _, by omega, by go_num, ?_, ST, K⟩, by simp [intOf]; omega⟩
          rw [es.out]; rfl
        · obtain rfl : m = k := by omega
          have st := hs.out.row (by omega) (by omega) HY.out
          have ol : i + m < o.length := by rw [hs.out.1]; omega
          have ST := Lib.hid st
          have c1 := hs.out.2.2.2.1
          have hlt' : i + m < n + m := by omega
          clear st hs hlt
          go_wp2_with (first|((with_reducible refine at_load ?_);first|(refine wm_own (cs := ?_) (t := ?_) (v := ?_) K rfl _ _ rfl rfl ?_ ?_ ?_ ?_;rotate_left 2;(repeat (first|exact At.hd|refine At.tl ?_));rotate_left;(exact rfl);(with_reducible first|exact one106)))|((with_reducible refine at_store ?_);(first|(refine wm_put (L' := ?_) (cs := ?_) (new := ?_) (t := ?_) K rfl _ _ _ rfl rfl rfl rfl ?_ ?_ ?_ ?_ rfl rfl ?_;rotate_left 4;(repeat (exact Put.hd));(solve|(simp only [List.size_toArray, nums_length];first|assumption));(exact nums_set _ _ _ _);(with_reducible first|exact one24)));(try clear K);(try clear ww);intro ww K;(try simp [go_sem] at K)))
          exact ⟨⟨i + 1, _, by omega, by go_num, ST, K⟩, by simp [intOf]; omega⟩
    · obtain rfl : n = i := by omega
      have hv := Lib.hid (hs.out.done HX.out)
      have hl := Lib.hid hs.out.2.1
      have hlen : o.length = n + m := hs.out.1
      have S := Sl.of_has (K.get .hd)
      simp only [List.size_toArray, nums_length, hlen] at S
      have S' := Lib.hid S
      clear S hlen hs
      go_wp2_with fail
      refine (trim_any _ (n + m) (n + m) o _ (by simpa using S'.out) hl.out (Nat.le_refl _) (by omega)).mono ?_
      rintro e w1 ⟨k1, rfl, hn, g1⟩
      rw [hv.out] at hn
      replace K := (K.step g1).freezeNt hn
      clear hn g1 hl S'
      dsimp only
      go_wp2_with (first|((with_reducible refine at_store ?_);(first|(refine wm_store (L' := ?_) (cs := ?_) (t := ?_) (n := ?_) K rfl _ _ _ rfl rfl rfl rfl ?_ ?_ ?_ ?_ ?_ ?_;rotate_left 3;(repeat (exact Put.hd));rotate_left;(with_reducible first|exact row108);(exact rfl);(exact rfl);(simp [Ones, Value.oneCell'])));(try clear K);(try clear ww);intro ww K;(try simp [go_sem] at K)))
      refine bodyPost_ret (K.res (cs := ?_) (t := ?_) (n := ?_) rfl _ rfl ?_ ?_ ?_) rfl ?_;rotate_left 2;(repeat (exact At.hd));rotate_left;(with_reducible first|exact row108);(exact rfl)
      exact ⟨_, _, rfl, K.fact.1.1, K.fact.1.2, K.below⟩
end Go.Proofs.Yteancdipmpmjpaa
