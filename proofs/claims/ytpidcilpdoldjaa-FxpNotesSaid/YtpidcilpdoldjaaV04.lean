/-
  The walks of fxp: the unit's products, quotients and scales; the document's answer for scales.
-/
import Derived.Test.YtpidcilpdoldjaaS04
namespace Go.Proofs.Ytpidcilpdoldjaa
open Go.RowKit
attribute [local irreducible] wpHeld wpTree wpList
set_option linter.unusedVariables false
section
variable {B : Nat} {w0 w : World} {F : World → Prop} {g : Nat} {Lf : Array Value → List Blk}
set_option maxHeartbeats 4000000 in
set_option maxRecDepth 100000 in
theorem quotient_fxp (hS : Slot g 61 Lf) {s : Bool} {n : Nat} (K : St B w0 (Lf (un s n)) F w) (a b c mode : Int) (ha : in64 a = true) (hb : in64 b = true) (hc : in64 c = true) (hn : n ≤ 1000000) :
    Calls Try.prog 72 #[.pointer (some ⟨g, 0, none⟩), .int .i64 a, .int .i64 b, .int .i64 c, .int .i64 mode] w fun e w' => e = .returned (.int .i64 (partV a b c mode).1) ∧ St B w0 (Lf (un (s || (partV a b c mode).2) (n + 1))) F w' := by
  have M1 := Lib.hid (fun w => MulDiv_any a b c mode w (in64_lo ha) (in64_hi ha) (in64_lo hb) (in64_hi hb) (in64_lo hc) (in64_hi hc))
  have M2 := Lib.hid (fun w => Mul_wide a b w (in64_lo ha) (in64_hi ha) (in64_lo hb) (in64_hi hb))
  have S1 := Lib.hid (fun w => Sign_any (a * b) w)
  have hsg : decide (cmpI (a * b) 0 < 0) = decide (a * b < 0) := by
    rw [decide_eq_decide]; unfold cmpI; split
    · omega
    · split <;> omega
  unfold partV
  generalize divM (a * b) c mode = r at *
  generalize cmpI (a * b) 0 = sg at *
  generalize decide (a * b < 0) = m at *
  generalize a * b = p at *
  obtain ⟨v, k⟩ := r
  clear ha hb hc
  by_cases hk : k = 0
  · subst hk
    rw [if_pos rfl, Bool.or_false]
    go_enter Try.func72, Try.ntmps72
    go_wp2_with (first | go_big_skip | ((with_reducible refine at_load ?_); first | (refine wm_load (cs := ?_) (t := ?_) (n := ?_) K rfl _ _ rfl rfl ?_ ?_ ?_ ?_; rotate_left 2; (repeat (first | exact At.hd | exact hS.get _ | refine At.tl ?_)); rotate_left; (first | (with_reducible exact row25) | (with_reducible exact row27) | (with_reducible exact row29) | (with_reducible exact row61)); (solve | (with_reducible exact wI_size _) | (with_reducible exact numA_size _ _) | (with_reducible exact bitsA_size _) | (with_reducible exact numI_size _) | exact rfl | simp)) | (refine wm_own (cs := ?_) (t := ?_) (v := ?_) K rfl _ _ rfl rfl ?_ ?_ ?_ ?_; rotate_left 2; (repeat (first | exact At.hd | exact hS.get _ | refine At.tl ?_)); rotate_left; (first | (with_reducible exact un_0 _ _) | (with_reducible exact un_1 _ _) | (with_reducible exact wI_hi _) | (with_reducible exact wI_lo _) | (with_reducible exact numA_sign _ _) | exact rfl | assumption); (first | (with_reducible exact one2) | (with_reducible exact one3) | (with_reducible exact one4) | (with_reducible exact one5) | (with_reducible exact one23) | (with_reducible exact one105))) | (refine wm_cell (v := ?_) rfl _ _ rfl rfl ?_ ?_ ?_; rotate_left; (first | assumption | exact (K.below.cell (by assumption)).trans (by assumption)); (first | (with_reducible exact one2) | (with_reducible exact one3) | (with_reducible exact one4) | (with_reducible exact one5) | (with_reducible exact one23) | (with_reducible exact one105)))) | ((with_reducible refine at_store ?_); first | (refine wm_store (L' := ?_) (cs := ?_) (t := ?_) (n := ?_) K rfl _ _ _ rfl rfl rfl rfl ?_ ?_ ?_ ?_ ?_ ?_; rotate_left 3; (repeat (first | exact Put.hd | exact hS.set _ _ | (refine Put.tl (L' := ?_) ?_; rotate_left))); rotate_left; (first | (with_reducible exact row25) | (with_reducible exact row27) | (with_reducible exact row29) | (with_reducible exact row61)); (solve | (with_reducible exact wI_size _) | (with_reducible exact numA_size _ _) | (with_reducible exact bitsA_size _) | (with_reducible exact numI_size _) | exact rfl | simp); (solve | (with_reducible exact wI_size _) | (with_reducible exact numA_size _ _) | (with_reducible exact bitsA_size _) | (with_reducible exact numI_size _) | exact rfl | simp); (solve | (with_reducible exact wI_ones _) | (with_reducible exact nOnes _ _) | (with_reducible exact bOnes _) | (with_reducible exact iOnes _) | exact rfl | simp [Ones, Value.oneCell']); (try clear K); (try clear ww); intro ww K; (try simp [go_sem] at K)) | (refine wm_put (L' := ?_) (cs := ?_) (new := ?_) (t := ?_) K rfl _ _ _ rfl rfl rfl rfl ?_ ?_ ?_ ?_ rfl rfl ?_; rotate_left 4; (repeat (first | exact Put.hd | exact hS.set _ _ | (refine Put.tl (L' := ?_) ?_; rotate_left))); (solve | exact un_lt _ _ (by omega) | (rw [numA_size]; omega) | (simp only [List.size_toArray, nums_length]; first | assumption | omega) | (simp only [List.size_toArray, nums_length, List.length_set]; first | assumption | omega) | simp | omega | (simp only [List.size_toArray, nums_length]; omega) | assumption); (solve | exact un_set0 _ _ _ | exact un_inc _ _ | exact numA_setSign _ _ _ | exact nums_set _ _ _ _ | simp only [List.setIfInBounds_toArray, List.set_cons_zero, List.set_cons_succ] | (simp only [List.setIfInBounds_toArray, List.set_cons_zero, List.set_cons_succ]; exact rfl) | exact rfl); (first | (with_reducible exact one2) | (with_reducible exact one3) | (with_reducible exact one4) | (with_reducible exact one5) | (with_reducible exact one23) | (with_reducible exact one105)); (try clear K); (try clear ww); intro ww K; (try simp [go_sem] at K))) | (go_at_call 28; (with_reducible refine (M1.out _).mono ?_); rintro e w2 ⟨rfl, k1⟩; replace K := K.step k1; clear k1; (try clear ww); revert w2; intro ww K) | (go_at_call 14; (with_reducible refine (M2.out _).mono ?_); rintro e w2 ⟨rfl, k1⟩; replace K := K.step k1; clear k1; (try clear ww); revert w2; intro ww K) | (go_at_call 25; (with_reducible refine (S1.out _).mono ?_); rintro e w2 ⟨rfl, k1⟩; replace K := K.step k1; clear k1; (try clear ww); revert w2; intro ww K) | (go_at_call 67; (with_reducible refine (end_fxp hS K _).mono ?_); rintro e w2 ⟨rfl, K2⟩; (try dsimp only); replace K := K2; clear K2; (try clear ww); revert w2; intro ww K))
    go_ret
    exact ⟨rfl, K⟩
  · rw [if_neg hk, Bool.or_true]
    have tk : (k == 0) = false := by simpa using hk
    clear hk
    generalize hcs : decide (c < 0) = cs at *
    have em : (m != cs) = !(m == cs) := rfl
    rw [em]
    cases hms : (!(m == cs))
    all_goals
      go_enter Try.func72, Try.ntmps72
      go_wp2_with (first | go_big_skip | ((with_reducible refine at_load ?_); first | (refine wm_load (cs := ?_) (t := ?_) (n := ?_) K rfl _ _ rfl rfl ?_ ?_ ?_ ?_; rotate_left 2; (repeat (first | exact At.hd | exact hS.get _ | refine At.tl ?_)); rotate_left; (first | (with_reducible exact row25) | (with_reducible exact row27) | (with_reducible exact row29) | (with_reducible exact row61)); (solve | (with_reducible exact wI_size _) | (with_reducible exact numA_size _ _) | (with_reducible exact bitsA_size _) | (with_reducible exact numI_size _) | exact rfl | simp)) | (refine wm_own (cs := ?_) (t := ?_) (v := ?_) K rfl _ _ rfl rfl ?_ ?_ ?_ ?_; rotate_left 2; (repeat (first | exact At.hd | exact hS.get _ | refine At.tl ?_)); rotate_left; (first | (with_reducible exact un_0 _ _) | (with_reducible exact un_1 _ _) | (with_reducible exact wI_hi _) | (with_reducible exact wI_lo _) | (with_reducible exact numA_sign _ _) | exact rfl | assumption); (first | (with_reducible exact one2) | (with_reducible exact one3) | (with_reducible exact one4) | (with_reducible exact one5) | (with_reducible exact one23) | (with_reducible exact one105))) | (refine wm_cell (v := ?_) rfl _ _ rfl rfl ?_ ?_ ?_; rotate_left; (first | assumption | exact (K.below.cell (by assumption)).trans (by assumption)); (first | (with_reducible exact one2) | (with_reducible exact one3) | (with_reducible exact one4) | (with_reducible exact one5) | (with_reducible exact one23) | (with_reducible exact one105)))) | ((with_reducible refine at_store ?_); first | (refine wm_store (L' := ?_) (cs := ?_) (t := ?_) (n := ?_) K rfl _ _ _ rfl rfl rfl rfl ?_ ?_ ?_ ?_ ?_ ?_; rotate_left 3; (repeat (first | exact Put.hd | exact hS.set _ _ | (refine Put.tl (L' := ?_) ?_; rotate_left))); rotate_left; (first | (with_reducible exact row25) | (with_reducible exact row27) | (with_reducible exact row29) | (with_reducible exact row61)); (solve | (with_reducible exact wI_size _) | (with_reducible exact numA_size _ _) | (with_reducible exact bitsA_size _) | (with_reducible exact numI_size _) | exact rfl | simp); (solve | (with_reducible exact wI_size _) | (with_reducible exact numA_size _ _) | (with_reducible exact bitsA_size _) | (with_reducible exact numI_size _) | exact rfl | simp); (solve | (with_reducible exact wI_ones _) | (with_reducible exact nOnes _ _) | (with_reducible exact bOnes _) | (with_reducible exact iOnes _) | exact rfl | simp [Ones, Value.oneCell']); (try clear K); (try clear ww); intro ww K; (try simp [go_sem] at K)) | (refine wm_put (L' := ?_) (cs := ?_) (new := ?_) (t := ?_) K rfl _ _ _ rfl rfl rfl rfl ?_ ?_ ?_ ?_ rfl rfl ?_; rotate_left 4; (repeat (first | exact Put.hd | exact hS.set _ _ | (refine Put.tl (L' := ?_) ?_; rotate_left))); (solve | exact un_lt _ _ (by omega) | (rw [numA_size]; omega) | (simp only [List.size_toArray, nums_length]; first | assumption | omega) | (simp only [List.size_toArray, nums_length, List.length_set]; first | assumption | omega) | simp | omega | (simp only [List.size_toArray, nums_length]; omega) | assumption); (solve | exact un_set0 _ _ _ | exact un_inc _ _ | exact numA_setSign _ _ _ | exact nums_set _ _ _ _ | simp only [List.setIfInBounds_toArray, List.set_cons_zero, List.set_cons_succ] | (simp only [List.setIfInBounds_toArray, List.set_cons_zero, List.set_cons_succ]; exact rfl) | exact rfl); (first | (with_reducible exact one2) | (with_reducible exact one3) | (with_reducible exact one4) | (with_reducible exact one5) | (with_reducible exact one23) | (with_reducible exact one105)); (try clear K); (try clear ww); intro ww K; (try simp [go_sem] at K))) | (go_at_call 28; (with_reducible refine (M1.out _).mono ?_); rintro e w2 ⟨rfl, k1⟩; replace K := K.step k1; clear k1; (try clear ww); revert w2; intro ww K) | (go_at_call 14; (with_reducible refine (M2.out _).mono ?_); rintro e w2 ⟨rfl, k1⟩; replace K := K.step k1; clear k1; (try clear ww); revert w2; intro ww K) | (go_at_call 25; (with_reducible refine (S1.out _).mono ?_); rintro e w2 ⟨rfl, k1⟩; replace K := K.step k1; clear k1; (try clear ww); revert w2; intro ww K) | (go_at_call 67; (with_reducible refine (end_fxp hS K _).mono ?_); rintro e w2 ⟨rfl, K2⟩; (try dsimp only); replace K := K2; clear K2; (try clear ww); revert w2; intro ww K))
      go_ret
      exact ⟨rfl, K⟩
theorem quotient_at (hS : Slot g 61 Lf) {s : Bool} {n : Nat} (K : St B w0 (Lf (un s n)) F w) {a b c mode v : Int} {u t : Bool} (h : (in64 a && in64 b && in64 c) = true) (hn : n ≤ 1000000) (hp : partV a b c mode = (v, u)) (ht : (s || u) = t) :
    Calls Try.prog 72 #[.pointer (some ⟨g, 0, none⟩), .int .i64 a, .int .i64 b, .int .i64 c, .int .i64 mode] w fun e w' => e = .returned (.int .i64 v) ∧ St B w0 (Lf (un t (n + 1))) F w' := by
  simp only [Bool.and_eq_true] at h
  have := quotient_fxp hS K a b c mode h.1.1 h.1.2 h.2 hn
  rwa [hp, ht] at this
set_option maxRecDepth 100000 in
theorem right_fxp (hS : Slot g 61 Lf) {s : Bool} {n : Nat} (K : St B w0 (Lf (un s n)) F w) (q : Int) :
    Calls Try.prog 73 #[.pointer (some ⟨g, 0, none⟩), .int .i64 q] w fun e w' => e = .returned (.int .i64 (plQ q)) ∧ St B w0 (Lf (un (s || plB q) n)) F w' := by
  by_cases h1 : q < 0
  · have E : Hid (plQ q = 0 ∧ plB q = true) := Lib.hid ⟨by unfold plQ; rw [if_pos h1], by unfold plB; rw [decide_eq_true h1]; rfl⟩
    rw [E.out.1, E.out.2, Bool.or_true]
    have m1 : max q 0 = 0 := by omega
    have m2 : min (0 : Int) 62 = 0 := by omega
    go_enter Try.func73, Try.ntmps73
    go_wp2_with (first | go_big_skip | ((with_reducible refine at_load ?_); first | (refine wm_load (cs := ?_) (t := ?_) (n := ?_) K rfl _ _ rfl rfl ?_ ?_ ?_ ?_; rotate_left 2; (repeat (first | exact At.hd | exact hS.get _ | refine At.tl ?_)); rotate_left; (first | (with_reducible exact row25) | (with_reducible exact row27) | (with_reducible exact row29) | (with_reducible exact row61)); (solve | (with_reducible exact wI_size _) | (with_reducible exact numA_size _ _) | (with_reducible exact bitsA_size _) | (with_reducible exact numI_size _) | exact rfl | simp)) | (refine wm_own (cs := ?_) (t := ?_) (v := ?_) K rfl _ _ rfl rfl ?_ ?_ ?_ ?_; rotate_left 2; (repeat (first | exact At.hd | exact hS.get _ | refine At.tl ?_)); rotate_left; (first | (with_reducible exact un_0 _ _) | (with_reducible exact un_1 _ _) | (with_reducible exact wI_hi _) | (with_reducible exact wI_lo _) | (with_reducible exact numA_sign _ _) | exact rfl | assumption); (first | (with_reducible exact one2) | (with_reducible exact one3) | (with_reducible exact one4) | (with_reducible exact one5) | (with_reducible exact one23) | (with_reducible exact one105))) | (refine wm_cell (v := ?_) rfl _ _ rfl rfl ?_ ?_ ?_; rotate_left; (first | assumption | exact (K.below.cell (by assumption)).trans (by assumption)); (first | (with_reducible exact one2) | (with_reducible exact one3) | (with_reducible exact one4) | (with_reducible exact one5) | (with_reducible exact one23) | (with_reducible exact one105)))) | ((with_reducible refine at_store ?_); first | (refine wm_store (L' := ?_) (cs := ?_) (t := ?_) (n := ?_) K rfl _ _ _ rfl rfl rfl rfl ?_ ?_ ?_ ?_ ?_ ?_; rotate_left 3; (repeat (first | exact Put.hd | exact hS.set _ _ | (refine Put.tl (L' := ?_) ?_; rotate_left))); rotate_left; (first | (with_reducible exact row25) | (with_reducible exact row27) | (with_reducible exact row29) | (with_reducible exact row61)); (solve | (with_reducible exact wI_size _) | (with_reducible exact numA_size _ _) | (with_reducible exact bitsA_size _) | (with_reducible exact numI_size _) | exact rfl | simp); (solve | (with_reducible exact wI_size _) | (with_reducible exact numA_size _ _) | (with_reducible exact bitsA_size _) | (with_reducible exact numI_size _) | exact rfl | simp); (solve | (with_reducible exact wI_ones _) | (with_reducible exact nOnes _ _) | (with_reducible exact bOnes _) | (with_reducible exact iOnes _) | exact rfl | simp [Ones, Value.oneCell']); (try clear K); (try clear ww); intro ww K; (try simp [go_sem] at K)) | (refine wm_put (L' := ?_) (cs := ?_) (new := ?_) (t := ?_) K rfl _ _ _ rfl rfl rfl rfl ?_ ?_ ?_ ?_ rfl rfl ?_; rotate_left 4; (repeat (first | exact Put.hd | exact hS.set _ _ | (refine Put.tl (L' := ?_) ?_; rotate_left))); (solve | exact un_lt _ _ (by omega) | (rw [numA_size]; omega) | (simp only [List.size_toArray, nums_length]; first | assumption | omega) | (simp only [List.size_toArray, nums_length, List.length_set]; first | assumption | omega) | simp | omega | (simp only [List.size_toArray, nums_length]; omega) | assumption); (solve | exact un_set0 _ _ _ | exact un_inc _ _ | exact numA_setSign _ _ _ | exact nums_set _ _ _ _ | simp only [List.setIfInBounds_toArray, List.set_cons_zero, List.set_cons_succ] | (simp only [List.setIfInBounds_toArray, List.set_cons_zero, List.set_cons_succ]; exact rfl) | exact rfl); (first | (with_reducible exact one2) | (with_reducible exact one3) | (with_reducible exact one4) | (with_reducible exact one5) | (with_reducible exact one23) | (with_reducible exact one105)); (try clear K); (try clear ww); intro ww K; (try simp [go_sem] at K))))
    go_ret
    exact ⟨rfl, K⟩
  · have t1 : decide (q < 0) = false := decide_eq_false h1
    have m1 : max q 0 = q := by omega
    by_cases h2 : 62 < q
    · have E : Hid (plQ q = 62 ∧ plB q = true) := Lib.hid ⟨by unfold plQ; rw [if_neg h1, if_pos h2], by unfold plB; rw [decide_eq_true h2, Bool.or_true]⟩
      have m2 : min q 62 = 62 := by omega
      rw [E.out.1, E.out.2, Bool.or_true]
      go_enter Try.func73, Try.ntmps73
      go_wp2_with (first | go_big_skip | ((with_reducible refine at_load ?_); first | (refine wm_load (cs := ?_) (t := ?_) (n := ?_) K rfl _ _ rfl rfl ?_ ?_ ?_ ?_; rotate_left 2; (repeat (first | exact At.hd | exact hS.get _ | refine At.tl ?_)); rotate_left; (first | (with_reducible exact row25) | (with_reducible exact row27) | (with_reducible exact row29) | (with_reducible exact row61)); (solve | (with_reducible exact wI_size _) | (with_reducible exact numA_size _ _) | (with_reducible exact bitsA_size _) | (with_reducible exact numI_size _) | exact rfl | simp)) | (refine wm_own (cs := ?_) (t := ?_) (v := ?_) K rfl _ _ rfl rfl ?_ ?_ ?_ ?_; rotate_left 2; (repeat (first | exact At.hd | exact hS.get _ | refine At.tl ?_)); rotate_left; (first | (with_reducible exact un_0 _ _) | (with_reducible exact un_1 _ _) | (with_reducible exact wI_hi _) | (with_reducible exact wI_lo _) | (with_reducible exact numA_sign _ _) | exact rfl | assumption); (first | (with_reducible exact one2) | (with_reducible exact one3) | (with_reducible exact one4) | (with_reducible exact one5) | (with_reducible exact one23) | (with_reducible exact one105))) | (refine wm_cell (v := ?_) rfl _ _ rfl rfl ?_ ?_ ?_; rotate_left; (first | assumption | exact (K.below.cell (by assumption)).trans (by assumption)); (first | (with_reducible exact one2) | (with_reducible exact one3) | (with_reducible exact one4) | (with_reducible exact one5) | (with_reducible exact one23) | (with_reducible exact one105)))) | ((with_reducible refine at_store ?_); first | (refine wm_store (L' := ?_) (cs := ?_) (t := ?_) (n := ?_) K rfl _ _ _ rfl rfl rfl rfl ?_ ?_ ?_ ?_ ?_ ?_; rotate_left 3; (repeat (first | exact Put.hd | exact hS.set _ _ | (refine Put.tl (L' := ?_) ?_; rotate_left))); rotate_left; (first | (with_reducible exact row25) | (with_reducible exact row27) | (with_reducible exact row29) | (with_reducible exact row61)); (solve | (with_reducible exact wI_size _) | (with_reducible exact numA_size _ _) | (with_reducible exact bitsA_size _) | (with_reducible exact numI_size _) | exact rfl | simp); (solve | (with_reducible exact wI_size _) | (with_reducible exact numA_size _ _) | (with_reducible exact bitsA_size _) | (with_reducible exact numI_size _) | exact rfl | simp); (solve | (with_reducible exact wI_ones _) | (with_reducible exact nOnes _ _) | (with_reducible exact bOnes _) | (with_reducible exact iOnes _) | exact rfl | simp [Ones, Value.oneCell']); (try clear K); (try clear ww); intro ww K; (try simp [go_sem] at K)) | (refine wm_put (L' := ?_) (cs := ?_) (new := ?_) (t := ?_) K rfl _ _ _ rfl rfl rfl rfl ?_ ?_ ?_ ?_ rfl rfl ?_; rotate_left 4; (repeat (first | exact Put.hd | exact hS.set _ _ | (refine Put.tl (L' := ?_) ?_; rotate_left))); (solve | exact un_lt _ _ (by omega) | (rw [numA_size]; omega) | (simp only [List.size_toArray, nums_length]; first | assumption | omega) | (simp only [List.size_toArray, nums_length, List.length_set]; first | assumption | omega) | simp | omega | (simp only [List.size_toArray, nums_length]; omega) | assumption); (solve | exact un_set0 _ _ _ | exact un_inc _ _ | exact numA_setSign _ _ _ | exact nums_set _ _ _ _ | simp only [List.setIfInBounds_toArray, List.set_cons_zero, List.set_cons_succ] | (simp only [List.setIfInBounds_toArray, List.set_cons_zero, List.set_cons_succ]; exact rfl) | exact rfl); (first | (with_reducible exact one2) | (with_reducible exact one3) | (with_reducible exact one4) | (with_reducible exact one5) | (with_reducible exact one23) | (with_reducible exact one105)); (try clear K); (try clear ww); intro ww K; (try simp [go_sem] at K))))
      go_ret
      exact ⟨rfl, K⟩
    · have t2 : decide (62 < q) = false := decide_eq_false h2
      have E : Hid (((plQ q : Nat) : Int) = q ∧ plB q = false) := Lib.hid ⟨by unfold plQ; rw [if_neg h1, if_neg h2]; omega, by unfold plB; rw [t1, t2]; rfl⟩
      have m2 : min q 62 = q := by omega
      rw [E.out.1, E.out.2, Bool.or_false]
      clear h1 h2
      go_enter Try.func73, Try.ntmps73
      go_wp2_with (first | go_big_skip | ((with_reducible refine at_load ?_); first | (refine wm_load (cs := ?_) (t := ?_) (n := ?_) K rfl _ _ rfl rfl ?_ ?_ ?_ ?_; rotate_left 2; (repeat (first | exact At.hd | exact hS.get _ | refine At.tl ?_)); rotate_left; (first | (with_reducible exact row25) | (with_reducible exact row27) | (with_reducible exact row29) | (with_reducible exact row61)); (solve | (with_reducible exact wI_size _) | (with_reducible exact numA_size _ _) | (with_reducible exact bitsA_size _) | (with_reducible exact numI_size _) | exact rfl | simp)) | (refine wm_own (cs := ?_) (t := ?_) (v := ?_) K rfl _ _ rfl rfl ?_ ?_ ?_ ?_; rotate_left 2; (repeat (first | exact At.hd | exact hS.get _ | refine At.tl ?_)); rotate_left; (first | (with_reducible exact un_0 _ _) | (with_reducible exact un_1 _ _) | (with_reducible exact wI_hi _) | (with_reducible exact wI_lo _) | (with_reducible exact numA_sign _ _) | exact rfl | assumption); (first | (with_reducible exact one2) | (with_reducible exact one3) | (with_reducible exact one4) | (with_reducible exact one5) | (with_reducible exact one23) | (with_reducible exact one105))) | (refine wm_cell (v := ?_) rfl _ _ rfl rfl ?_ ?_ ?_; rotate_left; (first | assumption | exact (K.below.cell (by assumption)).trans (by assumption)); (first | (with_reducible exact one2) | (with_reducible exact one3) | (with_reducible exact one4) | (with_reducible exact one5) | (with_reducible exact one23) | (with_reducible exact one105)))) | ((with_reducible refine at_store ?_); first | (refine wm_store (L' := ?_) (cs := ?_) (t := ?_) (n := ?_) K rfl _ _ _ rfl rfl rfl rfl ?_ ?_ ?_ ?_ ?_ ?_; rotate_left 3; (repeat (first | exact Put.hd | exact hS.set _ _ | (refine Put.tl (L' := ?_) ?_; rotate_left))); rotate_left; (first | (with_reducible exact row25) | (with_reducible exact row27) | (with_reducible exact row29) | (with_reducible exact row61)); (solve | (with_reducible exact wI_size _) | (with_reducible exact numA_size _ _) | (with_reducible exact bitsA_size _) | (with_reducible exact numI_size _) | exact rfl | simp); (solve | (with_reducible exact wI_size _) | (with_reducible exact numA_size _ _) | (with_reducible exact bitsA_size _) | (with_reducible exact numI_size _) | exact rfl | simp); (solve | (with_reducible exact wI_ones _) | (with_reducible exact nOnes _ _) | (with_reducible exact bOnes _) | (with_reducible exact iOnes _) | exact rfl | simp [Ones, Value.oneCell']); (try clear K); (try clear ww); intro ww K; (try simp [go_sem] at K)) | (refine wm_put (L' := ?_) (cs := ?_) (new := ?_) (t := ?_) K rfl _ _ _ rfl rfl rfl rfl ?_ ?_ ?_ ?_ rfl rfl ?_; rotate_left 4; (repeat (first | exact Put.hd | exact hS.set _ _ | (refine Put.tl (L' := ?_) ?_; rotate_left))); (solve | exact un_lt _ _ (by omega) | (rw [numA_size]; omega) | (simp only [List.size_toArray, nums_length]; first | assumption | omega) | (simp only [List.size_toArray, nums_length, List.length_set]; first | assumption | omega) | simp | omega | (simp only [List.size_toArray, nums_length]; omega) | assumption); (solve | exact un_set0 _ _ _ | exact un_inc _ _ | exact numA_setSign _ _ _ | exact nums_set _ _ _ _ | simp only [List.setIfInBounds_toArray, List.set_cons_zero, List.set_cons_succ] | (simp only [List.setIfInBounds_toArray, List.set_cons_zero, List.set_cons_succ]; exact rfl) | exact rfl); (first | (with_reducible exact one2) | (with_reducible exact one3) | (with_reducible exact one4) | (with_reducible exact one5) | (with_reducible exact one23) | (with_reducible exact one105)); (try clear K); (try clear ww); intro ww K; (try simp [go_sem] at K))))
      go_ret
      exact ⟨rfl, K⟩
theorem or_swap (s u v : Bool) : ((s || u) || v) = (s || (v || u)) := by cases s <;> cases u <;> cases v <;> rfl
set_option maxHeartbeats 2000000 in
set_option maxRecDepth 100000 in
theorem Mul_fxp (hS : Slot g 61 Lf) {s : Bool} {n : Nat} (K : St B w0 (Lf (un s n)) F w) (a b q mode : Int) (ha : in64 a = true) (hb : in64 b = true) (hn : n ≤ 1000000) :
    Calls Try.prog 42 #[.pointer (some ⟨g, 0, none⟩), .int .i64 a, .int .i64 b, .int .i64 q, .int .i64 mode] w fun e w' => e = .returned (.int .i64 (partV a b (2 ^ plQ q) mode).1) ∧ St B w0 (Lf (un (s || ((partV a b (2 ^ plQ q) mode).2 || plB q)) (n + 1))) F w' := by
  have h2 := two_le (plQ_le q)
  have hin : (in64 a && in64 b && in64 (2 ^ plQ q)) = true := by rw [ha, hb, two_in (plQ_le q)]; rfl
  obtain ⟨r, hr⟩ : ∃ r, r = partV a b (2 ^ plQ q) mode := ⟨_, rfl⟩
  rw [← hr]
  obtain ⟨v, u⟩ := r
  have HQ := Lib.hid hr
  have HI := Lib.hid hin
  have R1 := Lib.hid (right_fxp hS K q)
  rw [← or_swap]
  have e0 : min (plQ q) 64 = plQ q := by have := plQ_le q; omega
  have e1 : wrap64 (2 ^ plQ q) = 2 ^ plQ q := by unfold wrap64; omega
  clear hr hin ha hb
  generalize plB q = o at *
  go_enter Try.func42, Try.ntmps42
  go_wp2_with (first | (go_at_call 73; (with_reducible refine (R1.out).mono ?_); rintro e w2 ⟨rfl, K2⟩; (try dsimp only); replace K := K2; clear K2; (try clear ww); revert w2; intro ww K) | (go_at_call 72; (with_reducible refine (quotient_at hS K HI.out hn HQ.out.symm rfl).mono ?_); rintro e w2 ⟨rfl, K2⟩; (try dsimp only); replace K := K2; clear K2; (try clear ww); revert w2; intro ww K))
  go_ret
  exact ⟨rfl, K⟩
set_option maxHeartbeats 2000000 in
set_option maxRecDepth 100000 in
theorem Div_fxp (hS : Slot g 61 Lf) {s : Bool} {n : Nat} (K : St B w0 (Lf (un s n)) F w) (a b q mode : Int) (ha : in64 a = true) (hb : in64 b = true) (hn : n ≤ 1000000) :
    Calls Try.prog 43 #[.pointer (some ⟨g, 0, none⟩), .int .i64 a, .int .i64 b, .int .i64 q, .int .i64 mode] w fun e w' => e = .returned (.int .i64 (partV a (2 ^ plQ q) b mode).1) ∧ St B w0 (Lf (un (s || ((partV a (2 ^ plQ q) b mode).2 || plB q)) (n + 1))) F w' := by
  have h2 := two_le (plQ_le q)
  have hin : (in64 a && in64 (2 ^ plQ q) && in64 b) = true := by rw [ha, hb, two_in (plQ_le q)]; rfl
  obtain ⟨r, hr⟩ : ∃ r, r = partV a (2 ^ plQ q) b mode := ⟨_, rfl⟩
  rw [← hr]
  obtain ⟨v, u⟩ := r
  have HQ := Lib.hid hr
  have HI := Lib.hid hin
  have R1 := Lib.hid (right_fxp hS K q)
  rw [← or_swap]
  have e0 : min (plQ q) 64 = plQ q := by have := plQ_le q; omega
  have e1 : wrap64 (2 ^ plQ q) = 2 ^ plQ q := by unfold wrap64; omega
  clear hr hin ha hb
  generalize plB q = o at *
  go_enter Try.func43, Try.ntmps43
  go_wp2_with (first | (go_at_call 73; (with_reducible refine (R1.out).mono ?_); rintro e w2 ⟨rfl, K2⟩; (try dsimp only); replace K := K2; clear K2; (try clear ww); revert w2; intro ww K) | (go_at_call 72; (with_reducible refine (quotient_at hS K HI.out hn HQ.out.symm rfl).mono ?_); rintro e w2 ⟨rfl, K2⟩; (try dsimp only); replace K := K2; clear K2; (try clear ww); revert w2; intro ww K))
  go_ret
  exact ⟨rfl, K⟩
/-- A number with the point in another place. -/
def scV (a f t mode : Int) : Int × Bool := partV a (2 ^ (plQ t - plQ f)) (2 ^ (plQ f - plQ t)) mode
theorem one_in : in64 1 = true := by decide
set_option maxHeartbeats 4000000 in
set_option maxRecDepth 100000 in
theorem Scale_fxp (hS : Slot g 61 Lf) {s : Bool} {n : Nat} (K : St B w0 (Lf (un s n)) F w) (a f t mode : Int) (ha : in64 a = true) (hn : n ≤ 1000000) :
    Calls Try.prog 46 #[.pointer (some ⟨g, 0, none⟩), .int .i64 a, .int .i64 f, .int .i64 t, .int .i64 mode] w fun e w' => e = .returned (.int .i64 (scV a f t mode).1) ∧ St B w0 (Lf (un (((s || plB f) || plB t) || (scV a f t mode).2) (n + 1))) F w' := by
  have R1 := Lib.hid (right_fxp hS K f)
  have R2 : Hid (∀ w, St B w0 (Lf (un (s || plB f) n)) F w → Calls Try.prog 73 #[.pointer (some ⟨g, 0, none⟩), .int .i64 t] w fun e w' => e = .returned (.int .i64 (plQ t)) ∧ St B w0 (Lf (un ((s || plB f) || plB t) n)) F w') := Lib.hid (fun w K => right_fxp hS K t)
  unfold scV
  have hf := plQ_le f
  have ht := plQ_le t
  generalize plQ f = pf at *
  generalize plQ t = pt at *
  generalize plB f = bf at *
  generalize plB t = bt at *
  by_cases h : pf ≤ pt
  · obtain ⟨k, rfl⟩ : ∃ k, pt = pf + k := ⟨pt - pf, by omega⟩
    rw [show pf - (pf + k) = 0 by omega, show pf + k - pf = k by omega, show (2 : Int) ^ 0 = 1 from rfl]
    have hk : k ≤ 62 := by omega
    have h2 := two_le hk
    have hin : (in64 a && in64 (2 ^ k) && in64 1) = true := by rw [ha, two_in hk]; rfl
    obtain ⟨r, hr⟩ : ∃ r, r = partV a (2 ^ k) 1 mode := ⟨_, rfl⟩
    rw [← hr]
    obtain ⟨v, u⟩ := r
    have HQ := Lib.hid hr
    have HI := Lib.hid hin
    have e0 : min k 64 = k := by omega
    have e1 : wrap64 (2 ^ k) = 2 ^ k := by unfold wrap64; omega
    have tg : decide (pf ≤ pf + k) = true := decide_eq_true (by omega)
    clear hr hin ha
    go_enter Try.func46, Try.ntmps46
    go_wp2_with (first | (go_at_call 73; (with_reducible refine (R1.out).mono ?_); rintro e w2 ⟨rfl, K2⟩; (try dsimp only); replace K := K2; clear K2; (try clear ww); revert w2; intro ww K) | (go_at_call 73; (with_reducible refine (R2.out _ K).mono ?_); rintro e w2 ⟨rfl, K2⟩; (try dsimp only); replace K := K2; clear K2; (try clear ww); revert w2; intro ww K) | (go_at_call 72; (with_reducible refine (quotient_at hS K HI.out hn HQ.out.symm rfl).mono ?_); rintro e w2 ⟨rfl, K2⟩; (try dsimp only); replace K := K2; clear K2; (try clear ww); revert w2; intro ww K))
    go_ret
    exact ⟨rfl, K⟩
  · obtain ⟨k, rfl⟩ : ∃ k, pf = pt + k := ⟨pf - pt, by omega⟩
    rw [show pt - (pt + k) = 0 by omega, show pt + k - pt = k by omega, show (2 : Int) ^ 0 = 1 from rfl]
    have hk : k ≤ 62 := by omega
    have h2 := two_le hk
    have hin : (in64 a && in64 1 && in64 (2 ^ k)) = true := by rw [ha, two_in hk]; rfl
    obtain ⟨r, hr⟩ : ∃ r, r = partV a 1 (2 ^ k) mode := ⟨_, rfl⟩
    rw [← hr]
    obtain ⟨v, u⟩ := r
    have HQ := Lib.hid hr
    have HI := Lib.hid hin
    have e0 : min k 64 = k := by omega
    have e1 : wrap64 (2 ^ k) = 2 ^ k := by unfold wrap64; omega
    have tg : decide (pt + k ≤ pt) = false := decide_eq_false (by omega)
    clear hr hin ha
    go_enter Try.func46, Try.ntmps46
    go_wp2_with (first | (go_at_call 73; (with_reducible refine (R1.out).mono ?_); rintro e w2 ⟨rfl, K2⟩; (try dsimp only); replace K := K2; clear K2; (try clear ww); revert w2; intro ww K) | (go_at_call 73; (with_reducible refine (R2.out _ K).mono ?_); rintro e w2 ⟨rfl, K2⟩; (try dsimp only); replace K := K2; clear K2; (try clear ww); revert w2; intro ww K) | (go_at_call 72; (with_reducible refine (quotient_at hS K HI.out hn HQ.out.symm rfl).mono ?_); rintro e w2 ⟨rfl, K2⟩; (try dsimp only); replace K := K2; clear K2; (try clear ww); revert w2; intro ww K))
    go_ret
    exact ⟨rfl, K⟩
set_option maxRecDepth 100000 in
theorem Part_fxp (hS : Slot g 61 Lf) {s : Bool} {n : Nat} (K : St B w0 (Lf (un s n)) F w) (a b c mode : Int) (ha : in64 a = true) (hb : in64 b = true) (hc : in64 c = true) (hn : n ≤ 1000000) :
    Calls Try.prog 44 #[.pointer (some ⟨g, 0, none⟩), .int .i64 a, .int .i64 b, .int .i64 c, .int .i64 mode] w fun e w' => e = .returned (.int .i64 (partV a b c mode).1) ∧ St B w0 (Lf (un (s || (partV a b c mode).2) (n + 1))) F w' := by
  have Q1 := Lib.hid (quotient_fxp hS K a b c mode ha hb hc hn)
  generalize partV a b c mode = r at *
  obtain ⟨v, u⟩ := r
  clear ha hb hc
  go_enter Try.func44, Try.ntmps44
  go_wp2_with (first | (go_at_call 72; (with_reducible refine (Q1.out).mono ?_); rintro e w2 ⟨rfl, K2⟩; (try dsimp only); replace K := K2; clear K2; (try clear ww); revert w2; intro ww K))
  go_ret
  exact ⟨rfl, K⟩
end
end Go.Proofs.Ytpidcilpdoldjaa
