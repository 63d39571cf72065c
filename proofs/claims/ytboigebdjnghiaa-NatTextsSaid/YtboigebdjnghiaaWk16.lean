/-
  The walk of works, light, is.
-/
import Derived.Test.YtboigebdjnghiaaSm16
namespace Go.Proofs.Ytboigebdjnghiaa
open Go.RowKit
set_option linter.unusedVariables false
section
variable {B : Nat} {w0 w : World} {L : List Blk} {F : World → Prop}
theorem St.timesL (x : Nat) {z : Int} {A : Option Addr} {n c X : Nat} (K : St B w0 L F w) (hz : z = (x : Int)) (hx : x ≤ 18446744073709551615) (h1 : Nt w A n c X) (b1 : n ≤ 1000000) :
    Calls Try.prog 23 #[.agg #[.slice A n c], .int .u64 z] w fun e w' => ∃ A k, e = .returned (.agg #[.slice A k k]) ∧ St B w0 L (fun w => (Nt w A k k (X * x) ∧ Nw B A) ∧ F w) w' := by
  subst hz
  refine (Times_nat _ _ _ _ _ w h1 b1 hx).mono ?_
  rintro e w' ⟨A', k, rfl, hn, hA, hb⟩
  exact ⟨A', k, rfl, K.madeNt hb hn hA⟩
theorem St.mul2 {A A2 : Option Addr} {n c X n2 c2 Y : Nat} (K : St B w0 L F w) (h1 : Nt w A n c X) (h2 : Nt w A2 n2 c2 Y) (b1 : n ≤ 1000000) (b2 : n2 ≤ 1000000) :
    Calls Try.prog 21 #[.agg #[.slice A n c], .agg #[.slice A2 n2 c2]] w fun e w' => ∃ A k, e = .returned (.agg #[.slice A k k]) ∧ St B w0 L (fun w => (Nt w A k k (X * Y) ∧ Nw B A) ∧ F w) w' := by
  refine (Mul_nat _ _ _ _ _ _ _ _ w h1 h2 b1 b2).mono ?_
  rintro e w' ⟨A', k, rfl, hn, hA, hb⟩
  exact ⟨A', k, rfl, K.madeNt hb hn hA⟩
theorem St.shlL (s : Nat) {z : Int} {A : Option Addr} {n X : Nat} (K : St B w0 L F w) (hz : z = (s : Int)) (hF : ∀ w, F w → Nt w A n n X ∧ Nw B A) (hn : n ≤ 1000000) (hs : s ≤ 1000000) :
    Calls Try.prog 27 #[.agg #[.slice A n n], .int .i64 z] w fun e w' => ∃ A' k, e = .returned (.agg #[.slice A' k k]) ∧ St B w0 L (fun w => (Nt w A' k k (X * 2 ^ s) ∧ Nw B A') ∧ F w) w' := by
  subst hz
  by_cases h0 : s < 1 ∨ X = 0
  · refine (Shl_same A n n X s w (hF _ K.fact).1 (by rcases h0 with h | h; exact .inl (by omega); exact .inr h) (by omega)).mono ?_
    rintro e w' ⟨rfl, hb⟩
    refine ⟨A, n, rfl, (K.step hb).weak fun w h => ⟨?_, h⟩⟩
    rcases h0 with h0 | h0
    · obtain rfl : s = 0 := by omega
      simpa using hF w h
    · subst h0; simpa using hF w h
  · refine (Shl_nat A n n X s w (hF _ K.fact).1 hn (by omega) hs (by omega)).mono ?_
    rintro e w' ⟨A', k, rfl, hn, hA, hb⟩
    exact ⟨A', k, rfl, K.madeNt hb hn hA⟩
theorem St.shrL (s : Nat) {z : Int} {A : Option Addr} {n X : Nat} (K : St B w0 L F w) (hz : z = (s : Int)) (hF : ∀ w, F w → Nt w A n n X ∧ Nw B A) (hn : n ≤ 1000000) (hs : s ≤ 1000000) :
    Calls Try.prog 29 #[.agg #[.slice A n n], .int .i64 z] w fun e w' => ∃ A' k, e = .returned (.agg #[.slice A' k k]) ∧ St B w0 L (fun w => (Nt w A' k k (X / 2 ^ s) ∧ Nw B A') ∧ F w) w' := by
  subst hz
  by_cases h0 : s < 1
  · refine (Shr_same A n n X s w (by omega)).mono ?_
    rintro e w' ⟨rfl, hb⟩
    obtain rfl : s = 0 := by omega
    exact ⟨A, n, rfl, (K.step hb).weak fun w h => ⟨by simpa using hF w h, h⟩⟩
  · refine (Shr_nat A n n X s w (hF _ K.fact).1 hn (by omega) hs).mono ?_
    rintro e w' ⟨A', k, rfl, hn, hA, hb⟩
    exact ⟨A', k, rfl, K.madeNt hb hn hA⟩
theorem St.zeroK {A : Option Addr} {n c X : Nat} (K : St B w0 L F w) (h1 : Nt w A n c X) :
    Calls Try.prog 20 #[.agg #[.slice A n c]] w fun e w' => e = .returned (.bool (decide (X = 0))) ∧ Below w.heap.size w w' := Zero_any _ _ _ _ w h1
end

theorem light_any (A : Option Addr) (n c : Nat) (w : World) :
    Calls Try.prog 8 #[.slice A n c] w fun e w' => e = .returned (.bool (decide (n ≤ 20))) ∧ w = w' := by
  go_enter Try.func8, Try.ntmps8
  go_wp2
  go_ret
  refine ⟨?_, rfl⟩
  show Ending.returned (Value.bool (decide ((n : Int) ≤ 20))) = _
  have : decide ((n : Int) ≤ 20) = decide (n ≤ 20) := by
    by_cases h : n ≤ 20
    · rw [decide_eq_true h, decide_eq_true (by omega)]
    · rw [decide_eq_false h, decide_eq_false (by omega)]
  rw [this]

theorem is_any (A A2 : Option Addr) (n c m d X Y : Nat) (w : World) (hx : Nt w A n c X) (hy : Rf w A2 m d Y) (h1 : n ≤ 1000) (h2 : m ≤ 1000000) :
    Calls Try.prog 12 #[.agg #[.slice A n c], .slice A2 m d] w fun e w' => e = .returned (.bool (decide (X = Y))) ∧ Below w.heap.size w w' := by
  have K := St.start w
  have HX := Lib.hid hx
  have HY := Lib.hid hy
  clear hx hy
  go_enter Try.func12, Try.ntmps12
  go_wp2_with (first | ((with_reducible refine at_load ?_); first | (refine wm_load (cs := ?_) (t := ?_) (n := ?_) K rfl _ _ rfl rfl ?_ ?_ ?_ ?_; rotate_left 2; (repeat (first | exact At.hd | refine At.tl ?_)); rotate_left; (first | exact row25 | exact row26); (solve | exact rfl | simp)) | (refine wm_own (cs := ?_) (t := ?_) (v := ?_) K rfl _ _ rfl rfl ?_ ?_ ?_ ?_; rotate_left 2; (repeat (first | exact At.hd | refine At.tl ?_)); rotate_left; (first | exact rfl | assumption); (first | exact one2 | exact one3 | exact one4 | exact one5 | exact one9 | exact one12 | exact one21 | exact one22 | exact one28 | exact one37 | exact one38 | exact one39 | exact one48 | exact one53 | exact one63 | exact one73 | exact one78)) | (refine wm_cell (v := ?_) rfl _ _ rfl rfl ?_ ?_ ?_; rotate_left; (first | assumption | exact (K.below.cell (by assumption)).trans (by assumption)); (first | exact one2 | exact one3 | exact one4 | exact one5 | exact one9 | exact one12 | exact one21 | exact one22 | exact one28 | exact one37 | exact one38 | exact one39 | exact one48 | exact one53 | exact one63 | exact one73 | exact one78))) | ((with_reducible refine at_store ?_); first | (refine wm_store (L' := ?_) (cs := ?_) (t := ?_) (n := ?_) K rfl _ _ _ rfl rfl rfl rfl ?_ ?_ ?_ ?_ ?_ ?_; rotate_left 3; (repeat (first | exact Put.hd | (refine Put.tl (L' := ?_) ?_; rotate_left))); rotate_left; (first | exact row25 | exact row26); (solve | exact rfl | simp); (solve | exact rfl | simp); (solve | exact rfl | simp [Ones, Value.oneCell']); (try clear K); (try clear ww); intro ww K; (try simp [go_sem] at K)) | (refine wm_put (L' := ?_) (cs := ?_) (new := ?_) (t := ?_) K rfl _ _ _ rfl rfl rfl rfl ?_ ?_ ?_ ?_ rfl rfl ?_; rotate_left 4; (repeat (first | exact Put.hd | (refine Put.tl (L' := ?_) ?_; rotate_left))); (solve | (simp only [List.size_toArray, nums_length]; first | assumption | omega) | (simp only [List.size_toArray, nums_length, List.length_set]; first | assumption | omega) | simp | omega | (simp only [List.size_toArray, nums_length]; omega) | assumption); (solve | exact nums_set _ _ _ _ | simp only [List.setIfInBounds_toArray, List.set_cons_zero, List.set_cons_succ] | (simp only [List.setIfInBounds_toArray, List.set_cons_zero, List.set_cons_succ]; exact rfl) | exact rfl); (first | exact one2 | exact one3 | exact one4 | exact one5 | exact one9 | exact one12 | exact one21 | exact one22 | exact one28 | exact one37 | exact one38 | exact one39 | exact one48 | exact one53 | exact one63 | exact one73 | exact one78); (try clear K); (try clear ww); intro ww K; (try simp [go_sem] at K))) | (first | ((fail_if_success (have _h := b2)); first | ((with_reducible refine at_box ?_); refine wm_box K rfl _ _ rfl rfl rfl ?_; (try clear K); (try clear ww); intro b2 ww K; (try simp [go_sem, Value.cells] at K)) | ((with_reducible refine at_alloc ?_); refine wm_alloc (v := ?_) (cs := ?_) K rfl _ rfl ?_ ?_ ?_; rotate_left; (first | exact zero2 | exact zero3 | exact zero4 | exact zero5 | exact zero9 | exact zero12 | exact zero21 | exact zero22 | exact zero25 | exact zero26 | exact zero28 | exact zero37 | exact zero38 | exact zero39 | exact zero48 | exact zero53 | exact zero63 | exact zero73 | exact zero78); rotate_left; exact rfl; (try clear K); (try clear ww); intro b2 ww K; (try simp [go_sem, Value.cells] at K)))))
  refine (Parts_any _ _ _ _ _ (HX.out.below K.below) (by omega)).mono ?_
  rintro e w2 ⟨A', c', rfl, hs, hc, hA, hb⟩
  replace K := K.made hb hs hA
  clear hs hA hb hc
  dsimp only
  go_wp2_with fail
  refine (OfR _ _ _ _ _ K.fact.1 (by omega) (digs_lt (by omega) X)).mono ?_
  rintro e w3 ⟨A'', k'', c'', rfl, hr, hb⟩
  rw [val_digs (by omega)] at hr
  have hl : k'' ≤ 1000000 := Nat.le_trans (rlen (k := 4 * n) hr.1 (by
    have := HX.out.lim
    rwa [Nat.pow_mul])) (by omega)
  have HR := Lib.hid hr.1
  replace K := K.step hb
  clear hr hb
  dsimp only
  go_wp2_with fail
  refine (SameR _ _ _ _ _ _ _ _ _ HR.out (HY.out.below K.below) hl h2).mono ?_
  rintro e w4 ⟨rfl, hb⟩
  have G := Lib.hid (K.step hb).below
  clear K hb
  dsimp only
  go_wp2
  go_ret
  exact ⟨rfl, G.out⟩
end Go.Proofs.Ytboigebdjnghiaa
