/-
  The walks of the document's bytes: a number's lowest bytes, the sum of bytes, a frame's bytes (of the kind that tells a move).
-/
import Derived.Test.YtogbnecgikbkmaaTy
import Derived.Test.YtogbnecgikbkmaaAps
import Derived.Test.YtogbnecgikbkmaaTreC
namespace Go.Proofs.Ytogbnecgikbkmaa
open Go.RowKit
attribute [local irreducible] wpHeld wpTree wpList
set_option linter.unusedVariables false
/-- The lowest k digits of 256 of x. -/
def leB (k x : Nat) : List Nat := (List.range k).map fun j => x / 256 ^ j % 256
theorem leB_succ (k x : Nat) : leB (k + 1) x = leB k x ++ [x / 256 ^ k % 256] := by simp [leB, List.range_succ]
theorem leB_len (k x : Nat) : (leB k x).length = k := by simp [leB]
theorem leB_lt (k x : Nat) : ∀ y ∈ leB k x, y < 256 := by
  intro y hy
  obtain ⟨j, _, rfl⟩ := List.mem_map.1 hy
  exact Nat.mod_lt _ (by omega)
set_option maxHeartbeats 2000000 in
theorem Put01_any (x k : Nat) (kz : Int) (w : World) (hkz : kz = k) (hx : x < 18446744073709551616) (hk : k ≤ 8) :
    Calls Try.prog 65 #[.int .u64 x, .int .i64 kz] w fun e w' => ∃ A c, e = .returned (.slice A k c) ∧ Sl w' 5 A k (nums .u8 (leB k x)) ∧ Nw w.heap.size A ∧ Below w.heap.size w w' := by
  subst hkz
  have K := St.start w
  go_enter Try.func65, Try.ntmps65
  go_wp2
  go_loopw [5, 6, 7] (fun v y j wr => ∃ (i : Nat) (L : List Blk), i ≤ k ∧ j = .int .i64 i ∧ y = .int .u64 ((x / 256 ^ i : Nat) : Int) ∧ Own v 5 (nums .u8 (leB i x)) [] L ∧ St w.heap.size w L Any wr) (fun _ _ j _ => k - (intOf j).toNat)
  case atStart => exact ⟨0, [], Nat.zero_le _, rfl, by simp, Own.nil _ _, K⟩
  case round =>
    clear K
    obtain ⟨i, LL, hi, rfl, rfl, hO, K⟩ := hrel
    by_cases hlt : i < k
    · have ht : decide ((i : Int) < k) = true := decide_eq_true (by omega)
      have hs : Hid (leB (i + 1) x = leB i x ++ [x / 256 ^ i % 256]) := Lib.hid (leB_succ i x)
      have hl : (leB i x).length ≤ 8 := by rw [leB_len]; omega
      have hnx : Hid (x / 256 ^ (i + 1) = x / 256 ^ i / 256) := Lib.hid (by rw [Nat.pow_succ, Nat.div_div_eq_div_mul])
      have hz : x / 256 ^ i < 18446744073709551616 := Nat.lt_of_le_of_lt (Nat.div_le_self _ _) hx
      generalize x / 256 ^ i = z at *
      generalize leB i x = q at *
      go_wp2_with (first | go_big_skip | ((with_reducible refine at_load ?_); first | (refine wm_load (cs := ?_) (t := ?_) (n := ?_) K rfl _ _ rfl rfl ?_ ?_ ?_ ?_; rotate_left 2; (repeat (first | exact At.hd | refine At.tl ?_)); rotate_left; (first | fail); (solve | exact rfl | simp)) | (refine wm_own (cs := ?_) (t := ?_) (v := ?_) K rfl _ _ rfl rfl ?_ ?_ ?_ ?_; rotate_left 2; (repeat (first | exact At.hd | refine At.tl ?_)); rotate_left; (first | exact rfl | assumption); (first | (with_reducible exact one3) | (with_reducible exact one5) | (with_reducible exact one21) | (with_reducible exact one58) | (with_reducible exact one71))) | (refine wm_cell (v := ?_) rfl _ _ rfl rfl ?_ ?_ ?_; rotate_left; (first | assumption | exact (K.below.cell (by assumption)).trans (by assumption)); (first | (with_reducible exact one3) | (with_reducible exact one5) | (with_reducible exact one21) | (with_reducible exact one58) | (with_reducible exact one71)))) | ((with_reducible refine at_store ?_); first | (refine wm_store (L' := ?_) (cs := ?_) (t := ?_) (n := ?_) K rfl _ _ _ rfl rfl rfl rfl ?_ ?_ ?_ ?_ ?_ ?_; rotate_left 3; (repeat (first | exact Put.hd | (refine Put.tl (L' := ?_) ?_; rotate_left))); rotate_left; (first | fail); (solve | exact rfl | simp); (solve | exact rfl | simp); (solve | exact rfl | simp [Ones, Value.oneCell']); (try clear K); (try clear ww); intro ww K; (try simp [go_sem] at K)) | (refine wm_put (L' := ?_) (cs := ?_) (new := ?_) (t := ?_) K rfl _ _ _ rfl rfl rfl rfl ?_ ?_ ?_ ?_ rfl rfl ?_; rotate_left 4; (repeat (first | exact Put.hd | (refine Put.tl (L' := ?_) ?_; rotate_left))); (solve | exact Nat.le_of_ble_eq_true rfl | decide | (simp only [List.size_toArray, nums_length]; first | assumption | omega) | (simp only [List.size_toArray, nums_length, List.length_set]; first | assumption | omega) | simp | omega | (simp only [List.size_toArray, nums_length]; omega) | assumption); (solve | (simp only [List.setIfInBounds_toArray]; exact rfl) | exact nums_set _ _ _ _ | simp only [List.setIfInBounds_toArray, List.set_cons_zero] | simp only [List.setIfInBounds_toArray, List.set_cons_zero, List.set_cons_succ] | (simp only [List.setIfInBounds_toArray, List.set_cons_zero, List.set_cons_succ]; exact rfl) | exact rfl); (first | (with_reducible exact one3) | (with_reducible exact one5) | (with_reducible exact one21) | (with_reducible exact one58) | (with_reducible exact one71)); (try clear K); (try clear ww); intro ww K; (try simp [go_sem] at K))) | ((with_reducible refine at_bsl ?_); refine wm_one K rfl _ _ rfl Try.underlying78 num5 rfl ?_; (try clear K); (try clear ww); intro bb ww K; (try simp [go_sem] at K)) | ((with_reducible refine at_app ?_); refine wm_app K rfl _ _ _ rfl Try.underlying78 num5 rfl hO rfl rfl (by first | (simp only [nums_length]; omega) | omega) (by first | (simp only [nums_length]; unfold maxLen; omega) | (unfold maxLen; omega)) ?_; (try clear K hO); (try clear ww); intro v ww LL hO K))
      have hO' : Own v 5 (nums .u8 (leB (i + 1) x)) [] LL := by
        rw [hs.out, ← nums_append]; exact hO
      exact ⟨⟨i + 1, LL, by omega, by go_num, by rw [hnx.out]; go_num, hO', K⟩, by simp [intOf]; omega⟩
    · obtain rfl : k = i := by omega
      have ht : decide ((k : Int) < k) = false := decide_eq_false (by omega)
      obtain ⟨A, c, rfl, _, hs, hn⟩ := hO.rd K
      rw [nums_length, leB_len] at *
      go_wp2
      go_ret
      exact ⟨A, c, rfl, hs, hn, K.below⟩
theorem wrap_u32 (x : Int) : ∃ n : Nat, n < 4294967296 ∧ IntKind.u32.wrap x = (n : Int) := by
  refine ⟨(IntKind.u32.wrap x).toNat, ?_, ?_⟩
  all_goals
    unfold IntKind.wrap
    simp [IntKind.bits, IntKind.signed]
    omega
theorem bits_u32 (op : BinOp) (a b : Int) : ∃ n : Nat, n < 4294967296 ∧ bits op .u32 a b = (n : Int) := wrap_u32 _
set_option maxRecDepth 100000 in
set_option maxHeartbeats 2000000 in
theorem Sum02_any (A : Option Addr) (n c : Nat) (l : List Nat) (w : World) (h : Rd w A n (nums .u8 l)) (hn : n ≤ 1000) (hl : ∀ x ∈ l, x < 256) :
    Calls Try.prog 85 #[.slice A n c] w fun e w' => ∃ s : Nat, s < 4294967296 ∧ e = .returned (.int .u32 s) ∧ Below w.heap.size w w' := by
  have K := St.start w
  have HL := Lib.hid hl
  have H := Lib.hid h
  have HN : Hid (l.length = n) := Lib.hid (by rw [← h.1, nums_length])
  clear h hl
  go_enter Try.func85, Try.ntmps85
  go_wp2
  go_loopw [3, 4] (fun r j wr => ∃ (i s : Nat), i ≤ n ∧ j = .int .i64 i ∧ s < 4294967296 ∧ r = .int .u32 s ∧ St w.heap.size w [] Any wr) (fun _ j _ => n - (intOf j).toNat)
  case atStart => exact ⟨0, 4294967295, Nat.zero_le _, rfl, by omega, rfl, K⟩
  case round =>
    clear K
    obtain ⟨i, s, hi, rfl, hs, rfl, K⟩ := hrel
    by_cases hlt : i < n
    · obtain ⟨b, off, rfl, hb, hc⟩ := H.out.get hlt
      have hv := hc i _ (nums_get .u8 _ i (by rw [HN.out]; exact hlt))
      have hil : i < l.length := by rw [HN.out]; exact hlt
      have hx : l.getD i 0 < 256 := by
        rw [List.getD, List.getElem?_eq_getElem hil]
        exact HL.out _ (List.getElem_mem _)
      generalize l.getD i 0 = x at *
      clear hc
      have ht : decide ((i : Int) < n) = true := decide_eq_true (by omega)
      go_wp2_with (first | go_big_skip | ((with_reducible refine at_load ?_); first | (refine wm_load (cs := ?_) (t := ?_) (n := ?_) K rfl _ _ rfl rfl ?_ ?_ ?_ ?_; rotate_left 2; (repeat (first | exact At.hd | refine At.tl ?_)); rotate_left; (first | fail); (solve | exact rfl | simp)) | (refine wm_own (cs := ?_) (t := ?_) (v := ?_) K rfl _ _ rfl rfl ?_ ?_ ?_ ?_; rotate_left 2; (repeat (first | exact At.hd | refine At.tl ?_)); rotate_left; (first | exact rfl | assumption); (first | (with_reducible exact one3) | (with_reducible exact one5) | (with_reducible exact one21) | (with_reducible exact one58) | (with_reducible exact one71))) | (refine wm_cell (v := ?_) rfl _ _ rfl rfl ?_ ?_ ?_; rotate_left; (first | assumption | exact (K.below.cell (by assumption)).trans (by assumption)); (first | (with_reducible exact one3) | (with_reducible exact one5) | (with_reducible exact one21) | (with_reducible exact one58) | (with_reducible exact one71)))) | ((with_reducible refine at_store ?_); first | (refine wm_store (L' := ?_) (cs := ?_) (t := ?_) (n := ?_) K rfl _ _ _ rfl rfl rfl rfl ?_ ?_ ?_ ?_ ?_ ?_; rotate_left 3; (repeat (first | exact Put.hd | (refine Put.tl (L' := ?_) ?_; rotate_left))); rotate_left; (first | fail); (solve | exact rfl | simp); (solve | exact rfl | simp); (solve | exact rfl | simp [Ones, Value.oneCell']); (try clear K); (try clear ww); intro ww K; (try simp [go_sem] at K)) | (refine wm_put (L' := ?_) (cs := ?_) (new := ?_) (t := ?_) K rfl _ _ _ rfl rfl rfl rfl ?_ ?_ ?_ ?_ rfl rfl ?_; rotate_left 4; (repeat (first | exact Put.hd | (refine Put.tl (L' := ?_) ?_; rotate_left))); (solve | exact Nat.le_of_ble_eq_true rfl | decide | (simp only [List.size_toArray, nums_length]; first | assumption | omega) | (simp only [List.size_toArray, nums_length, List.length_set]; first | assumption | omega) | simp | omega | (simp only [List.size_toArray, nums_length]; omega) | assumption); (solve | (simp only [List.setIfInBounds_toArray]; exact rfl) | exact nums_set _ _ _ _ | simp only [List.setIfInBounds_toArray, List.set_cons_zero] | simp only [List.setIfInBounds_toArray, List.set_cons_zero, List.set_cons_succ] | (simp only [List.setIfInBounds_toArray, List.set_cons_zero, List.set_cons_succ]; exact rfl) | exact rfl); (first | (with_reducible exact one3) | (with_reducible exact one5) | (with_reducible exact one21) | (with_reducible exact one58) | (with_reducible exact one71)); (try clear K); (try clear ww); intro ww K; (try simp [go_sem] at K))))
      go_loopw [3, 5] (fun r j wr => ∃ (k s : Nat), k ≤ 8 ∧ j = .int .i64 k ∧ s < 4294967296 ∧ r = .int .u32 s ∧ St w.heap.size w [] Any wr) (fun _ j _ => 8 - (intOf j).toNat)
      case atStart => exact ⟨0, s, by omega, rfl, hs, rfl, K⟩
      case round =>
        clear K
        obtain ⟨k, s, hk, rfl, hs, rfl, K⟩ := hrel
        by_cases hk8 : k < 8
        · have ht8 : decide ((k : Int) < 8) = true := decide_eq_true (by omega)
          go_wp2_with (first | go_big_skip | ((with_reducible refine at_load ?_); first | (refine wm_load (cs := ?_) (t := ?_) (n := ?_) K rfl _ _ rfl rfl ?_ ?_ ?_ ?_; rotate_left 2; (repeat (first | exact At.hd | refine At.tl ?_)); rotate_left; (first | fail); (solve | exact rfl | simp)) | (refine wm_own (cs := ?_) (t := ?_) (v := ?_) K rfl _ _ rfl rfl ?_ ?_ ?_ ?_; rotate_left 2; (repeat (first | exact At.hd | refine At.tl ?_)); rotate_left; (first | exact rfl | assumption); (first | (with_reducible exact one3) | (with_reducible exact one5) | (with_reducible exact one21) | (with_reducible exact one58) | (with_reducible exact one71))) | (refine wm_cell (v := ?_) rfl _ _ rfl rfl ?_ ?_ ?_; rotate_left; (first | assumption | exact (K.below.cell (by assumption)).trans (by assumption)); (first | (with_reducible exact one3) | (with_reducible exact one5) | (with_reducible exact one21) | (with_reducible exact one58) | (with_reducible exact one71)))) | ((with_reducible refine at_store ?_); first | (refine wm_store (L' := ?_) (cs := ?_) (t := ?_) (n := ?_) K rfl _ _ _ rfl rfl rfl rfl ?_ ?_ ?_ ?_ ?_ ?_; rotate_left 3; (repeat (first | exact Put.hd | (refine Put.tl (L' := ?_) ?_; rotate_left))); rotate_left; (first | fail); (solve | exact rfl | simp); (solve | exact rfl | simp); (solve | exact rfl | simp [Ones, Value.oneCell']); (try clear K); (try clear ww); intro ww K; (try simp [go_sem] at K)) | (refine wm_put (L' := ?_) (cs := ?_) (new := ?_) (t := ?_) K rfl _ _ _ rfl rfl rfl rfl ?_ ?_ ?_ ?_ rfl rfl ?_; rotate_left 4; (repeat (first | exact Put.hd | (refine Put.tl (L' := ?_) ?_; rotate_left))); (solve | exact Nat.le_of_ble_eq_true rfl | decide | (simp only [List.size_toArray, nums_length]; first | assumption | omega) | (simp only [List.size_toArray, nums_length, List.length_set]; first | assumption | omega) | simp | omega | (simp only [List.size_toArray, nums_length]; omega) | assumption); (solve | (simp only [List.setIfInBounds_toArray]; exact rfl) | exact nums_set _ _ _ _ | simp only [List.setIfInBounds_toArray, List.set_cons_zero] | simp only [List.setIfInBounds_toArray, List.set_cons_zero, List.set_cons_succ] | (simp only [List.setIfInBounds_toArray, List.set_cons_zero, List.set_cons_succ]; exact rfl) | exact rfl); (first | (with_reducible exact one3) | (with_reducible exact one5) | (with_reducible exact one21) | (with_reducible exact one58) | (with_reducible exact one71)); (try clear K); (try clear ww); intro ww K; (try simp [go_sem] at K))))
          · obtain ⟨s', hs', e'⟩ := bits_u32 .xor ((s : Int) / 2) 3988292384
            exact ⟨⟨k + 1, s', by omega, by go_num, hs', by rw [e'], K⟩, by simp [intOf]; omega⟩
          · exact ⟨⟨k + 1, s / 2, by omega, by go_num, by omega, by go_num, K⟩, by simp [intOf]; omega⟩
        · obtain rfl : k = 8 := by omega
          go_wp2
          exact ⟨⟨i + 1, s, by omega, by go_num, hs, rfl, K⟩, by simp [intOf]; omega⟩
    · obtain rfl : n = i := by omega
      have ht : decide ((n : Int) < n) = false := decide_eq_false (by omega)
      go_wp2
      go_ret
      exact ⟨4294967295 - s, by omega, by first | rfl | (congr 2; omega) | go_num, K.below⟩
set_option maxRecDepth 100000 in
set_option maxHeartbeats 2000000 in
theorem Put02_any (A : Option Addr) (n c : Nat) (l : List Nat) (w : World) (h : Rd w A n (nums .u8 l)) (hn0 : 0 < n) (hn : n ≤ 1000) (hl : ∀ x ∈ l, x < 256) :
    Calls Try.prog 66 #[.slice A n c] w fun e w' => ∃ v, e = .returned v ∧ Below w.heap.size w w' := by
  have K := St.start w
  have H := Lib.hid h
  have HN : Hid (l.length = n) := Lib.hid (by rw [← h.1, nums_length])
  have SM := Lib.hid (fun w2 (g : Below w.heap.size w w2) => Sum02_any A n c l w2 (h.below g) hn hl)
  clear h hl
  go_enter Try.func66, Try.ntmps66
  go_wp2_with (first | (go_at_call 85; (with_reducible refine (SM.out _ K.below).mono ?_); rintro e w2 ⟨s, hs, rfl, k1⟩; replace K := K.step k1; clear k1; (try clear ww); revert w2; intro ww K) | ((with_reducible refine at_app ?_); refine wm_appS K rfl _ _ _ rfl Try.underlying78 num5 rfl (Own.nil _ _) rfl (H.out.below K.below) hn0 (nums_ones _ _) (by simp; omega) (by simp; unfold maxLen; omega) ?_; (try clear K); (try clear ww); intro v ww LL hO K))
  have hO0 : Own v 5 (nums .u8 l) [] LL := hO
  go_loopw [3, 4, 5] (fun sv v j wr => ∃ (i s : Nat) (q : List Nat) (LL : List Blk), i ≤ 4 ∧ j = .int .i64 i ∧ s < 4294967296 ∧ sv = .int .u32 s ∧ q.length = n + i ∧ Own v 5 (nums .u8 q) [] LL ∧ St w.heap.size w LL Any wr) (fun _ _ j _ => 4 - (intOf j).toNat)
  case atStart => exact ⟨0, s, l, LL, by omega, rfl, hs, rfl, HN.out, hO0, K⟩
  case round =>
    clear K hO hO0 hs
    obtain ⟨i, s, q, LL, hi, rfl, hs, rfl, hq, hO, K⟩ := hrel
    by_cases hlt : i < 4
    · have ht : decide ((i : Int) < 4) = true := decide_eq_true (by omega)
      go_wp2_with (first | go_big_skip | ((with_reducible refine at_load ?_); first | (refine wm_load (cs := ?_) (t := ?_) (n := ?_) K rfl _ _ rfl rfl ?_ ?_ ?_ ?_; rotate_left 2; (repeat (first | exact At.hd | refine At.tl ?_)); rotate_left; (first | fail); (solve | exact rfl | simp)) | (refine wm_own (cs := ?_) (t := ?_) (v := ?_) K rfl _ _ rfl rfl ?_ ?_ ?_ ?_; rotate_left 2; (repeat (first | exact At.hd | refine At.tl ?_)); rotate_left; (first | exact rfl | assumption); (first | (with_reducible exact one3) | (with_reducible exact one5) | (with_reducible exact one21) | (with_reducible exact one58) | (with_reducible exact one71))) | (refine wm_cell (v := ?_) rfl _ _ rfl rfl ?_ ?_ ?_; rotate_left; (first | assumption | exact (K.below.cell (by assumption)).trans (by assumption)); (first | (with_reducible exact one3) | (with_reducible exact one5) | (with_reducible exact one21) | (with_reducible exact one58) | (with_reducible exact one71)))) | ((with_reducible refine at_store ?_); first | (refine wm_store (L' := ?_) (cs := ?_) (t := ?_) (n := ?_) K rfl _ _ _ rfl rfl rfl rfl ?_ ?_ ?_ ?_ ?_ ?_; rotate_left 3; (repeat (first | exact Put.hd | (refine Put.tl (L' := ?_) ?_; rotate_left))); rotate_left; (first | fail); (solve | exact rfl | simp); (solve | exact rfl | simp); (solve | exact rfl | simp [Ones, Value.oneCell']); (try clear K); (try clear ww); intro ww K; (try simp [go_sem] at K)) | (refine wm_put (L' := ?_) (cs := ?_) (new := ?_) (t := ?_) K rfl _ _ _ rfl rfl rfl rfl ?_ ?_ ?_ ?_ rfl rfl ?_; rotate_left 4; (repeat (first | exact Put.hd | (refine Put.tl (L' := ?_) ?_; rotate_left))); (solve | exact Nat.le_of_ble_eq_true rfl | decide | (simp only [List.size_toArray, nums_length]; first | assumption | omega) | (simp only [List.size_toArray, nums_length, List.length_set]; first | assumption | omega) | simp | omega | (simp only [List.size_toArray, nums_length]; omega) | assumption); (solve | (simp only [List.setIfInBounds_toArray]; exact rfl) | exact nums_set _ _ _ _ | simp only [List.setIfInBounds_toArray, List.set_cons_zero] | simp only [List.setIfInBounds_toArray, List.set_cons_zero, List.set_cons_succ] | (simp only [List.setIfInBounds_toArray, List.set_cons_zero, List.set_cons_succ]; exact rfl) | exact rfl); (first | (with_reducible exact one3) | (with_reducible exact one5) | (with_reducible exact one21) | (with_reducible exact one58) | (with_reducible exact one71)); (try clear K); (try clear ww); intro ww K; (try simp [go_sem] at K))) | ((with_reducible refine at_bsl ?_); refine wm_one K rfl _ _ rfl Try.underlying78 num5 rfl ?_; (try clear K); (try clear ww); intro bb ww K; (try simp [go_sem] at K)) | ((with_reducible refine at_app ?_); refine wm_app K rfl _ _ _ rfl Try.underlying78 num5 rfl hO rfl rfl (by first | (simp only [nums_length]; omega) | omega) (by first | (simp only [nums_length]; unfold maxLen; omega) | (unfold maxLen; omega)) ?_; (try clear K hO); (try clear ww); intro v ww LL hO K))
      exact ⟨⟨i + 1, s / 256, q ++ [s % 256], LL, by omega, by go_num, by omega, by go_num, by simp [hq]; omega, by rw [← nums_append]; exact hO, K⟩, by simp [intOf]; omega⟩
    · obtain rfl : i = 4 := by omega
      obtain ⟨A', c', rfl, _⟩ := hO.rd K
      go_wp2
      go_ret
      exact ⟨_, rfl, K.below⟩
theorem Num12_one (w : World) : Calls Try.prog 64 #[.int .i64 1] w fun e w' => e = .returned (.int .i64 3) ∧ Below w.heap.size w w' := by
  have K := St.start w
  go_enter Try.func64, Try.ntmps64
  go_wp2
  go_ret
  exact ⟨rfl, K.below⟩
set_option maxRecDepth 100000 in
set_option maxHeartbeats 4000000 in
theorem Put12_move (s t a b c : Int) (w : World) (hs : 0 ≤ s ∧ s < 65536) (ht : 0 ≤ t ∧ t < 4294967296) :
    Calls Try.prog 38 #[.agg #[.int .i64 1, .int .u16 s, .int .u32 t, .int .i32 a, .int .i32 b, .int .i32 c]] w fun e w' => ∃ v, e = .returned (.tuple #[v, .int .i64 0]) ∧ Below w.heap.size w w' := by
  have K := St.start w
  obtain ⟨s, rfl⟩ : ∃ n : Nat, s = n := ⟨s.toNat, by omega⟩
  obtain ⟨t, rfl⟩ : ∃ n : Nat, t = n := ⟨t.toNat, by omega⟩
  have NM := Lib.hid Num12_one
  obtain ⟨a', ha', ea⟩ := wrap_u32 a
  obtain ⟨b', hb', eb⟩ := wrap_u32 b
  obtain ⟨c', hc', ec⟩ := wrap_u32 c
  have P1 := Lib.hid (fun w => Put01_any s 2 2 w rfl (by omega) (by omega))
  have P2 := Lib.hid (fun w => Put01_any t 4 4 w rfl (by omega) (by omega))
  have P3 := Lib.hid (fun w => Put01_any a' 4 4 w rfl (by omega) (by omega))
  have P4 := Lib.hid (fun w => Put01_any b' 4 4 w rfl (by omega) (by omega))
  have P5 := Lib.hid (fun w => Put01_any c' 4 4 w rfl (by omega) (by omega))
  go_enter Try.func38, Try.ntmps38
  go_wp2_with (first | go_big_skip | ((with_reducible refine at_load ?_); first | (refine wm_load (cs := ?_) (t := ?_) (n := ?_) K rfl _ _ rfl rfl ?_ ?_ ?_ ?_; rotate_left 2; (repeat (first | exact At.hd | refine At.tl ?_)); rotate_left; (first | fail); (solve | exact rfl | simp)) | (refine wm_own (cs := ?_) (t := ?_) (v := ?_) K rfl _ _ rfl rfl ?_ ?_ ?_ ?_; rotate_left 2; (repeat (first | exact At.hd | refine At.tl ?_)); rotate_left; (first | exact rfl | assumption); (first | (with_reducible exact one3) | (with_reducible exact one5) | (with_reducible exact one21) | (with_reducible exact one58) | (with_reducible exact one71))) | (refine wm_cell (v := ?_) rfl _ _ rfl rfl ?_ ?_ ?_; rotate_left; (first | assumption | exact (K.below.cell (by assumption)).trans (by assumption)); (first | (with_reducible exact one3) | (with_reducible exact one5) | (with_reducible exact one21) | (with_reducible exact one58) | (with_reducible exact one71)))) | ((with_reducible refine at_store ?_); first | (refine wm_store (L' := ?_) (cs := ?_) (t := ?_) (n := ?_) K rfl _ _ _ rfl rfl rfl rfl ?_ ?_ ?_ ?_ ?_ ?_; rotate_left 3; (repeat (first | exact Put.hd | (refine Put.tl (L' := ?_) ?_; rotate_left))); rotate_left; (first | fail); (solve | exact rfl | simp); (solve | exact rfl | simp); (solve | exact rfl | simp [Ones, Value.oneCell']); (try clear K); (try clear ww); intro ww K; (try simp [go_sem] at K)) | (refine wm_put (L' := ?_) (cs := ?_) (new := ?_) (t := ?_) K rfl _ _ _ rfl rfl rfl rfl ?_ ?_ ?_ ?_ rfl rfl ?_; rotate_left 4; (repeat (first | exact Put.hd | (refine Put.tl (L' := ?_) ?_; rotate_left))); (solve | exact Nat.le_of_ble_eq_true rfl | decide | (simp only [List.size_toArray, nums_length]; first | assumption | omega) | (simp only [List.size_toArray, nums_length, List.length_set]; first | assumption | omega) | simp | omega | (simp only [List.size_toArray, nums_length]; omega) | assumption); (solve | (simp only [List.setIfInBounds_toArray]; exact rfl) | exact nums_set _ _ _ _ | simp only [List.setIfInBounds_toArray, List.set_cons_zero] | simp only [List.setIfInBounds_toArray, List.set_cons_zero, List.set_cons_succ] | (simp only [List.setIfInBounds_toArray, List.set_cons_zero, List.set_cons_succ]; exact rfl) | exact rfl); (first | (with_reducible exact one3) | (with_reducible exact one5) | (with_reducible exact one21) | (with_reducible exact one58) | (with_reducible exact one71)); (try clear K); (try clear ww); intro ww K; (try simp [go_sem] at K))) | (first | ((with_reducible refine at_box ?_); refine wm_box K rfl _ _ rfl rfl rfl ?_; (try clear K); (try clear ww); ((fail_if_success (have _h := b1)); intro b1 ww K); (try simp [go_sem, Value.cells] at K)) | ((with_reducible refine at_alloc ?_); refine wm_alloc (v := ?_) (cs := ?_) K rfl _ rfl ?_ ?_ ?_; rotate_left; (first | fail); rotate_left; exact rfl; (try clear K); (try clear ww); ((fail_if_success (have _h := b1)); intro b1 ww K); (try simp [go_sem, Value.cells] at K))) | (go_at_call 64; (with_reducible refine (NM.out _).mono ?_); rintro e w2 ⟨rfl, k1⟩; replace K := K.step k1; clear k1; (try clear ww); revert w2; intro ww K) | (first
    | ((with_reducible refine at_bsl ?_); refine wm_pairT K rfl _ _ _ rfl Try.underlying78 num5 rfl rfl ?_; (try clear K); (try clear ww); intro v ww Lo hO K; simp only [List.cons_append, List.nil_append] at K)
    | (go_at_call 65; (first | (with_reducible refine (P1.out _).mono ?_) | (with_reducible refine (P2.out _).mono ?_) | (with_reducible refine (P3.out _).mono ?_) | (with_reducible refine (P4.out _).mono ?_) | (with_reducible refine (P5.out _).mono ?_)); rintro e w2 ⟨A1, c1, rfl, hs1, hn1, k1⟩; (try dsimp only); replace K := K.made k1 hs1 hn1; clear hs1 hn1 k1; (try clear ww); revert w2; intro ww K)
    | ((with_reducible refine at_app ?_); refine wm_appST (L0 := ?_) K ?_ rfl _ _ _ rfl Try.underlying78 num5 rfl hO rfl K.fact.1.rd (by omega) (nums_ones _ _) (by simp only [nums_length, leB_len, List.length_append, List.length_cons, List.length_nil]; omega) (by simp only [nums_length, leB_len, List.length_append, List.length_cons, List.length_nil]; unfold maxLen; omega) ?_; rotate_left; (repeat (first | exact Tl.nil | (refine Tl.cons (L0 := ?_) ?_; rotate_left))); (try clear K hO); (try clear ww); intro v ww Lo hO K; simp only [List.cons_append, List.nil_append] at K)
    ))
  have e1 : [Value.int .u8 126, Value.int .u8 1] ++ nums .u8 (leB 2 s) ++ nums .u8 (leB 4 t) ++ nums .u8 (leB 4 a') ++ nums .u8 (leB 4 b') ++ nums .u8 (leB 4 c') = nums .u8 ([126, 1] ++ leB 2 s ++ leB 4 t ++ leB 4 a' ++ leB 4 b' ++ leB 4 c') := by simp [nums]
  rw [e1] at hO
  clear e1
  have hq : ([126, 1] ++ leB 2 s ++ leB 4 t ++ leB 4 a' ++ leB 4 b' ++ leB 4 c').length = 20 := by simp [leB_len]
  have hlt : ∀ x ∈ [126, 1] ++ leB 2 s ++ leB 4 t ++ leB 4 a' ++ leB 4 b' ++ leB 4 c', x < 256 := by
    intro x hx
    simp only [List.mem_append] at hx
    rcases hx with ((((hx | hx) | hx) | hx) | hx) | hx
    · simp at hx; omega
    all_goals exact leB_lt _ _ x hx
  generalize [126, 1] ++ leB 2 s ++ leB 4 t ++ leB 4 a' ++ leB 4 b' ++ leB 4 c' = q at *
  obtain ⟨A', c2, rfl, hR⟩ := OwnT.rd (L0 := [_]) hO K
  refine (Put02_any A' _ c2 q ww hR (by rw [nums_length]; omega) (by rw [nums_length]; omega) hlt).mono ?_
  rintro e w2 ⟨v, rfl, k1⟩
  have KB := (K.step k1).below
  clear K hO hR hlt k1 P1 P2 P3 P4 P5
  dsimp only
  go_wp2
  go_ret2
  exact ⟨_, rfl, KB⟩
end Go.Proofs.Ytogbnecgikbkmaa
