/-
  The walks of the reference: digits of parts, products.
-/
import Derived.Test.YteancdipmpmjpaaRc16
namespace Go.Proofs.Yteancdipmpmjpaa
open Go.RowKit
set_option maxRecDepth 100000
set_option linter.unusedVariables false

/-- The lowest k digits of 256 of x. -/
def byt (k x : Nat) : List Nat := (List.range k).map fun j => x / 256 ^ j % 256
theorem byt_succ (k x : Nat) : byt (k + 1) x = byt k x ++ [x / 256 ^ k % 256] := by simp [byt, List.range_succ]
theorem byt_four (x : Nat) (h : x < 4294967296) : val 256 (byt 4 x) = x := by
  simp only [byt, List.range_succ, List.range_zero, List.nil_append, List.map_cons, List.map_nil, List.cons_append, val]
  simp only [Nat.pow_zero, Nat.div_one, Nat.pow_one, Nat.reducePow]
  omega
theorem byt_len (k x : Nat) : (byt k x).length = k := by simp [byt]
theorem byt_lt (k x : Nat) : ∀ y ∈ byt k x, y < 256 := by
  intro y hy
  obtain ⟨j, _, rfl⟩ := List.mem_map.1 hy
  exact Nat.mod_lt _ (by omega)
def byts (l : List Nat) : List Nat := l.flatMap (byt 4)
theorem byts_snoc (l : List Nat) (x : Nat) : byts (l ++ [x]) = byts l ++ byt 4 x := by simp [byts]
theorem byts_len (l : List Nat) : (byts l).length = 4 * l.length := by
  induction l with
  | nil => rfl
  | cons x r ih =>
    have e : byts (x :: r) = byt 4 x ++ byts r := by simp [byts]
    rw [e, List.length_append, byt_len, ih, List.length_cons]; omega
theorem byts_lt (l : List Nat) : ∀ y ∈ byts l, y < 256 := by
  intro y hy
  obtain ⟨x, _, hx⟩ := List.mem_flatMap.1 hy
  exact byt_lt _ _ y hx
theorem byts_val (l : List Nat) (h : ∀ x ∈ l, x < 4294967296) : val 256 (byts l) = val 4294967296 l := by
  induction l with
  | nil => rfl
  | cons x r ih =>
    have e : byts (x :: r) = byt 4 x ++ byts r := by simp [byts]
    rw [e, val_append, byt_len, byt_four x (h x List.mem_cons_self), ih fun y hy => h y (List.mem_cons_of_mem _ hy), val]

set_option maxHeartbeats 2000000 in
theorem OfRr (A : Option Addr) (n c : Nat) (l : List Nat) (w : World) (h : Rd w A n (nums .u32 l)) (hn : n ≤ 100000) (hl : ∀ x ∈ l, x < 4294967296) :
    Calls Try.prog 98 #[.slice A n c] w fun e w' => ∃ A' k c', e = .returned (.slice A' k c') ∧ (Rf w' A' k c' (val 4294967296 l) ∧ Nw w.heap.size A') ∧ Below w.heap.size w w' := by
  have K := St.start w
  have HL := Lib.hid hl
  have H := Lib.hid h
  have HN : Hid (l.length = n) := Lib.hid (by rw [← h.1, nums_length])
  clear h hl
  go_enter Try.func98, Try.ntmps98
  go_wp2
  go_loopw [3, 4] (fun v i wr => ∃ (k : Nat) (L : List Blk), k ≤ n ∧ i = .int .i64 k ∧ Own v 3 (nums .i64 (byts (l.take k))) [] L ∧ St w.heap.size w L Any wr) (fun _ i _ => n - (intOf i).toNat)
  case atStart => exact ⟨0, [], Nat.zero_le _, rfl, Own.nil _ _, K⟩
  case round =>
    clear K
    obtain ⟨i, LL, hi, rfl, hO, K⟩ := hrel
    by_cases hlt : i < n
    · obtain ⟨b, off, rfl, hb, hc⟩ := H.out.get hlt
      have hv := hc i _ (nums_get .u32 _ i (by rw [HN.out]; exact hlt))
      have hil : i < l.length := by rw [HN.out]; exact hlt
      have hx : l.getD i 0 < 4294967296 := by
        rw [List.getD, List.getElem?_eq_getElem hil]
        exact HL.out _ (List.getElem_mem _)
      have hsn : Hid (l.take (i + 1) = l.take i ++ [l.getD i 0]) := Lib.hid (by
        rw [List.take_succ_eq_append_getElem hil, List.getD, List.getElem?_eq_getElem hil]; rfl)
      generalize l.getD i 0 = x at *
      have hol : (byts (l.take i)).length ≤ 400000 := by
        rw [byts_len, List.length_take]; omega
      generalize hp : l.take i = p at *
      clear hc hp
      have ht : decide (i < n) = true := decide_eq_true hlt
      go_wp2_with (first | go_big_skip | ((with_reducible refine at_load ?_); first | (refine wm_load (cs := ?_) (t := ?_) (n := ?_) K rfl _ _ rfl rfl ?_ ?_ ?_ ?_; rotate_left 2; (repeat (first | exact At.hd | refine At.tl ?_)); rotate_left; (first | fail); (solve | exact rfl | simp)) | (refine wm_own (cs := ?_) (t := ?_) (v := ?_) K rfl _ _ rfl rfl ?_ ?_ ?_ ?_; rotate_left 2; (repeat (first | exact At.hd | refine At.tl ?_)); rotate_left; (first | exact rfl | assumption); (first | (with_reducible exact one24))) | (refine wm_cell (v := ?_) rfl _ _ rfl rfl ?_ ?_ ?_; rotate_left; (first | assumption | exact (K.below.cell (by assumption)).trans (by assumption)); (first | (with_reducible exact one24)))) | ((with_reducible refine at_store ?_); first | (refine wm_store (L' := ?_) (cs := ?_) (t := ?_) (n := ?_) K rfl _ _ _ rfl rfl rfl rfl ?_ ?_ ?_ ?_ ?_ ?_; rotate_left 3; (repeat (first | exact Put.hd | (refine Put.tl (L' := ?_) ?_; rotate_left))); rotate_left; (first | fail); (solve | exact rfl | simp); (solve | exact rfl | simp); (solve | exact rfl | simp [Ones, Value.oneCell']); (try clear K); (try clear ww); intro ww K; (try simp [go_sem] at K)) | (refine wm_put (L' := ?_) (cs := ?_) (new := ?_) (t := ?_) K rfl _ _ _ rfl rfl rfl rfl ?_ ?_ ?_ ?_ rfl rfl ?_; rotate_left 4; (repeat (first | exact Put.hd | (refine Put.tl (L' := ?_) ?_; rotate_left))); (solve | decide | (simp only [List.size_toArray, nums_length]; first | assumption | omega) | (simp only [List.size_toArray, nums_length, List.length_set]; first | assumption | omega) | simp | omega | (simp only [List.size_toArray, nums_length]; omega) | assumption); (solve | exact nums_set _ _ _ _ | simp only [List.setIfInBounds_toArray, List.set_cons_zero] | simp only [List.setIfInBounds_toArray, List.set_cons_zero, List.set_cons_succ] | (simp only [List.setIfInBounds_toArray, List.set_cons_zero, List.set_cons_succ]; exact rfl) | exact rfl); (first | (with_reducible exact one24)); (try clear K); (try clear ww); intro ww K; (try simp [go_sem] at K))))
      go_loopw [3, 5, 6] (fun v y j wr => ∃ (k : Nat) (L : List Blk), k ≤ 4 ∧ j = .int .i64 k ∧ y = .int .u32 ((x / 256 ^ k : Nat) : Int) ∧ Own v 3 (nums .i64 (byts p ++ byt k x)) [] L ∧ St w.heap.size w L Any wr) (fun _ _ j _ => 4 - (intOf j).toNat)
      case atStart => exact ⟨0, LL, by omega, rfl, by simp, by simpa [byt] using hO, K⟩
      case round =>
        clear K hO
        obtain ⟨k, LL, hk, rfl, rfl, hO, K⟩ := hrel
        by_cases hk4 : k < 4
        · have ht4 : decide ((k : Int) < 4) = true := decide_eq_true (by omega)
          have hsk : Hid (byt (k + 1) x = byt k x ++ [x / 256 ^ k % 256]) := Lib.hid (byt_succ k x)
          have hol2 : (byts p ++ byt k x).length ≤ 400004 := by rw [List.length_append, byt_len]; omega
          have hnx : Hid (x / 256 ^ (k + 1) = x / 256 ^ k / 256) := Lib.hid (by rw [Nat.pow_succ, Nat.div_div_eq_div_mul])
          have hzb : x / 256 ^ k ≤ 4294967295 := Nat.le_trans (Nat.div_le_self _ _) (by omega)
          generalize x / 256 ^ k = z at *
          generalize hq : byts p ++ byt k x = q at *
          have HQ := Lib.hid hq
          clear hq
          go_wp2_with (first | go_big_skip | ((with_reducible refine at_load ?_); first | (refine wm_load (cs := ?_) (t := ?_) (n := ?_) K rfl _ _ rfl rfl ?_ ?_ ?_ ?_; rotate_left 2; (repeat (first | exact At.hd | refine At.tl ?_)); rotate_left; (first | fail); (solve | exact rfl | simp)) | (refine wm_own (cs := ?_) (t := ?_) (v := ?_) K rfl _ _ rfl rfl ?_ ?_ ?_ ?_; rotate_left 2; (repeat (first | exact At.hd | refine At.tl ?_)); rotate_left; (first | exact rfl | assumption); (first | (with_reducible exact one24))) | (refine wm_cell (v := ?_) rfl _ _ rfl rfl ?_ ?_ ?_; rotate_left; (first | assumption | exact (K.below.cell (by assumption)).trans (by assumption)); (first | (with_reducible exact one24)))) | ((with_reducible refine at_store ?_); first | (refine wm_store (L' := ?_) (cs := ?_) (t := ?_) (n := ?_) K rfl _ _ _ rfl rfl rfl rfl ?_ ?_ ?_ ?_ ?_ ?_; rotate_left 3; (repeat (first | exact Put.hd | (refine Put.tl (L' := ?_) ?_; rotate_left))); rotate_left; (first | fail); (solve | exact rfl | simp); (solve | exact rfl | simp); (solve | exact rfl | simp [Ones, Value.oneCell']); (try clear K); (try clear ww); intro ww K; (try simp [go_sem] at K)) | (refine wm_put (L' := ?_) (cs := ?_) (new := ?_) (t := ?_) K rfl _ _ _ rfl rfl rfl rfl ?_ ?_ ?_ ?_ rfl rfl ?_; rotate_left 4; (repeat (first | exact Put.hd | (refine Put.tl (L' := ?_) ?_; rotate_left))); (solve | decide | (simp only [List.size_toArray, nums_length]; first | assumption | omega) | (simp only [List.size_toArray, nums_length, List.length_set]; first | assumption | omega) | simp | omega | (simp only [List.size_toArray, nums_length]; omega) | assumption); (solve | exact nums_set _ _ _ _ | simp only [List.setIfInBounds_toArray, List.set_cons_zero] | simp only [List.setIfInBounds_toArray, List.set_cons_zero, List.set_cons_succ] | (simp only [List.setIfInBounds_toArray, List.set_cons_zero, List.set_cons_succ]; exact rfl) | exact rfl); (first | (with_reducible exact one24)); (try clear K); (try clear ww); intro ww K; (try simp [go_sem] at K))) | ((with_reducible refine at_bsl ?_); refine wm_one K rfl _ _ rfl Try.underlying102 num3 rfl ?_; (try clear K); (try clear ww); intro bb ww K; (try simp [go_sem] at K)) | ((with_reducible refine at_app ?_); refine wm_app K rfl _ _ _ rfl Try.underlying102 num3 rfl hO rfl rfl (by first | (simp only [nums_length]; omega) | omega) (by first | (simp only [nums_length]; unfold maxLen; omega) | (unfold maxLen; omega)) ?_; (try clear K hO); (try clear ww); intro v ww LL hO K))
          have hO' : Own v 3 (nums .i64 (byts p ++ byt (k + 1) x)) [] LL := by
            rw [hsk.out, ← List.append_assoc, HQ.out, ← nums_append]; exact hO
          exact ⟨⟨k + 1, LL, by omega, by go_num, by rw [hnx.out]; go_num, hO', K⟩, by simp [intOf]; omega⟩
        · obtain rfl : k = 4 := by omega
          rw [← byts_snoc] at hO
          have ho := Lib.hid hO
          clear hO
          go_wp2
          exact ⟨⟨i + 1, LL, by omega, by go_num, by rw [hsn.out]; exact ho.out, K⟩, by simp [intOf]; omega⟩
    · obtain rfl : n = i := by omega
      rw [List.take_of_length_le (by rw [HN.out]; omega)] at hO
      go_wp2_with fail
      refine (K.trimR hO (byts_lt l)).mono ?_
      rintro e w2 ⟨A', k', c', rfl, K2⟩
      rw [byts_val l HL.out] at K2
      have R := Lib.hid K2.fact.1
      have G := Lib.hid K2.below
      clear K K2 hO
      dsimp only
      go_wp2
      go_ret
      exact ⟨_, _, _, rfl, R.out, G.out⟩
theorem OfR (A : Option Addr) (n c : Nat) (l : List Nat) (w : World) (h : Sl w 24 A n (nums .u32 l)) (hn : n ≤ 100000) (hl : ∀ x ∈ l, x < 4294967296) :
    Calls Try.prog 98 #[.slice A n c] w fun e w' => ∃ A' k c', e = .returned (.slice A' k c') ∧ (Rf w' A' k c' (val 4294967296 l) ∧ Nw w.heap.size A') ∧ Below w.heap.size w w' := OfRr A n c l w h.rd hn hl
end Go.Proofs.Yteancdipmpmjpaa
