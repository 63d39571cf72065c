/-
  The laws of sums, products and scales.
-/
import Derived.Test.YtpidcilpdoldjaaX04
namespace Go.Proofs.Ytpidcilpdoldjaa
open Go.RowKit
attribute [local irreducible] wpHeld wpTree wpList
set_option linter.unusedVariables false

/-- There and back it is the same. -/
theorem rq_exact (a c mode : Int) (hc : 0 < c) : rq (a * c) c mode = a := by
  have hs : (decide (a * c < 0) != decide (c < 0)) = decide (a < 0) := by
    rw [decide_eq_false (show ¬ c < 0 by omega), Bool.bne_false, decide_eq_decide]
    constructor
    · intro h; by_cases ha : a < 0
      · exact ha
      · have := Int.mul_nonneg (show 0 ≤ a by omega) (show 0 ≤ c by omega); omega
    · intro h; exact Int.mul_neg_of_neg_of_pos h hc
  unfold rq
  rw [hs]
  unfold qMag
  rw [Int.natAbs_mul, Nat.mul_div_cancel _ (by omega), Nat.mul_mod_left]
  unfold upB wv
  rw [if_pos rfl]
  by_cases h : a < 0
  · rw [decide_eq_true h]; simp; omega
  · rw [decide_eq_false h]; simp; omega
theorem scale_back {a f t mode : Int} (ha : in64 a = true) (h : (((scV a f t mode).2 || plB f) || plB t) = false) (hft : f ≤ t) : scV (scV a f t mode).1 t f mode = (a, false) := by
  simp only [Bool.or_eq_false_iff] at h
  obtain ⟨⟨h1, h2⟩, h3⟩ := h
  have hle : plQ f ≤ plQ t := by
    unfold plB at h2 h3
    simp only [Bool.or_eq_false_iff, decide_eq_false_iff_not] at h2 h3
    unfold plQ
    rw [if_neg h2.1, if_neg h2.2, if_neg h3.1, if_neg h3.2]; omega
  have hk : plQ t - plQ f ≤ 62 := by have := plQ_le t; omega
  unfold scV at h1 ⊢
  rw [show plQ f - plQ t = 0 by omega] at h1 ⊢
  generalize plQ t - plQ f = k at *
  have h2k := two_le hk
  generalize (2 : Int) ^ k = p at *
  rw [show (2 : Int) ^ 0 = 1 from rfl] at h1 ⊢
  unfold partV at h1
  by_cases hd : (divM (a * p) 1 mode).2 = 0
  · cases hb : badB 1 mode
    · have hbp : badB p mode = false := by
        unfold badB at hb ⊢
        simp only [Bool.or_eq_false_iff, decide_eq_false_iff_not] at hb ⊢
        exact ⟨⟨by omega, hb.1.2⟩, hb.2⟩
      cases hfit : fits64 (rq (a * p) 1 mode)
      · rw [divM_sat hb hfit] at hd; simp at hd
      · have e : divM (a * p) 1 mode = (a * p, 0) := by
          rw [divM_fit hb hfit]
          have := rq_exact (a * p) 1 mode (by omega)
          rw [Int.mul_one] at this
          rw [this]
        have e2 : divM (a * p) p mode = (a, 0) := by
          have := rq_exact a p mode h2k.1
          rw [divM_fit hbp (by rw [this]; rw [fits64_iff]; exact ⟨in64_lo ha, in64_hi ha⟩), this]
        unfold partV
        rw [e]
        simp only [if_true, Int.mul_one]
        rw [e2]
        simp
    · rw [divM_bad hb] at hd; simp at hd
  · rw [if_neg hd] at h1; simp at h1

set_option maxHeartbeats 8000000 in
set_option maxRecDepth 100000 in
theorem core_FxpSums (a b : Int) (w : World) (ha : in64 a = true) (hb : in64 b = true) :
    Calls Try.prog 8 #[.int .i64 a, .int .i64 b] w fun e w' => e = .returned (.bool true) ∧ Below w.heap.size w w' := by
  have K := St.start w
  have A1 := Lib.hid (fun (g : Nat) (Lf : Array Value → List Blk) (hS : Slot g 61 Lf) (B : Nat) (w0 : World) (F : World → Prop) (w : World) (K : St B w0 (Lf (un false 0)) F w) => Add_fxp hS K a b ha hb (by omega))
  simp only [Bool.false_or, Nat.zero_add] at A1
  have S1 := Lib.hid (fun (g : Nat) (Lf : Array Value → List Blk) (hS : Slot g 61 Lf) (B : Nat) (w0 : World) (F : World → Prop) (w : World) (K : St B w0 (Lf (un false 0)) F w) => Sub_fxp hS K a b ha hb (by omega))
  simp only [Bool.false_or, Nat.zero_add] at S1
  have B1 := Lib.hid (fun (g : Nat) (Lf : Array Value → List Blk) (hS : Slot g 61 Lf) (B : Nat) (w0 : World) (F : World → Prop) (w : World) (K : St B w0 (Lf (un false 0)) F w) => Abs_fxp hS K a ha (by omega))
  simp only [Bool.false_or, Nat.zero_add] at B1
  have A2 := Lib.hid (fun w => RAdd_any a b w ha hb)
  have S2 := Lib.hid (fun w => RSub_any a b w ha hb)
  have B2 := Lib.hid (fun w => RSub_any 0 a w (by decide) ha)
  have WK := Lib.hid works4
  generalize cutV (a + b) = x at *
  generalize cutB (a + b) = xs at *
  generalize cutV (a - b) = y at *
  generalize cutB (a - b) = ys at *
  generalize cutV (0 - a) = z at *
  generalize cutB (0 - a) = zs at *
  clear ha hb
  by_cases h : a < 0
  · simp only [if_pos h] at B1
    have t0 : decide (a < 0) = true := decide_eq_true h
    clear h
    go_enter Try.func8, Try.ntmps8
    go_wp2_with (first | go_big_skip | ((fail_if_success (have _h := u0)); go_at_call 31; (with_reducible refine (one_at K).mono ?_); rintro e w2 ⟨u0, rfl, K2⟩; (try dsimp only); replace K := K2; clear K2; (try clear ww); revert w2; intro ww K) | ((fail_if_success (have _h := u1)); go_at_call 31; (with_reducible refine (one_at K).mono ?_); rintro e w2 ⟨u1, rfl, K2⟩; (try dsimp only); replace K := K2; clear K2; (try clear ww); revert w2; intro ww K) | ((fail_if_success (have _h := u2)); go_at_call 31; (with_reducible refine (one_at K).mono ?_); rintro e w2 ⟨u2, rfl, K2⟩; (try dsimp only); replace K := K2; clear K2; (try clear ww); revert w2; intro ww K) | ((with_reducible refine at_load ?_); first | (refine wm_load (cs := ?_) (t := ?_) (n := ?_) K rfl _ _ rfl rfl ?_ ?_ ?_ ?_; rotate_left 2; (repeat (first | exact At.hd | exact hS.get _ | refine At.tl ?_)); rotate_left; (first | (with_reducible exact row25) | (with_reducible exact row27) | (with_reducible exact row29) | (with_reducible exact row61)); (solve | (with_reducible exact wI_size _) | (with_reducible exact numA_size _ _) | (with_reducible exact bitsA_size _) | (with_reducible exact numI_size _) | exact rfl | simp)) | (refine wm_own (cs := ?_) (t := ?_) (v := ?_) K rfl _ _ rfl rfl ?_ ?_ ?_ ?_; rotate_left 2; (repeat (first | exact At.hd | exact hS.get _ | refine At.tl ?_)); rotate_left; (first | (with_reducible exact un_0 _ _) | (with_reducible exact un_1 _ _) | (with_reducible exact wI_hi _) | (with_reducible exact wI_lo _) | (with_reducible exact numA_sign _ _) | exact rfl | assumption); (first | (with_reducible exact one2) | (with_reducible exact one3) | (with_reducible exact one4) | (with_reducible exact one5) | (with_reducible exact one23) | (with_reducible exact one105))) | (refine wm_cell (v := ?_) rfl _ _ rfl rfl ?_ ?_ ?_; rotate_left; (first | assumption | exact hF1 _ K | exact hF2 _ K | exact (K.below.cell (by assumption)).trans (by assumption)); (first | (with_reducible exact one2) | (with_reducible exact one3) | (with_reducible exact one4) | (with_reducible exact one5) | (with_reducible exact one23) | (with_reducible exact one105)))) | (go_at_call 32; (with_reducible refine (A2.out _).mono ?_); rintro e w2 ⟨rfl, k1⟩; replace K := K.step k1; clear k1; (try clear ww); revert w2; intro ww K) | (go_at_call 33; (with_reducible refine (S2.out _).mono ?_); rintro e w2 ⟨rfl, k1⟩; replace K := K.step k1; clear k1; (try clear ww); revert w2; intro ww K) | (go_at_call 33; (with_reducible refine (B2.out _).mono ?_); rintro e w2 ⟨rfl, k1⟩; replace K := K.step k1; clear k1; (try clear ww); revert w2; intro ww K) | (go_at_call 34; (with_reducible refine (A1.out _ _ (Slot.next _ (Slot.next _ (Slot.head _ _ _))) _ _ _ _ K).mono ?_); rintro e w2 ⟨rfl, K2⟩; (try dsimp only); replace K := K2; clear K2; (try clear ww); revert w2; intro ww K) | (go_at_call 35; (with_reducible refine (S1.out _ _ (Slot.next _ (Slot.head _ _ _)) _ _ _ _ K).mono ?_); rintro e w2 ⟨rfl, K2⟩; (try dsimp only); replace K := K2; clear K2; (try clear ww); revert w2; intro ww K) | (go_at_call 36; (with_reducible refine (B1.out _ _ (Slot.head _ _ _) _ _ _ _ K).mono ?_); rintro e w2 ⟨rfl, K2⟩; (try dsimp only); replace K := K2; clear K2; (try clear ww); revert w2; intro ww K) | (go_at_call 37; (with_reducible refine (Count_fxp (Slot.next _ (Slot.next _ (Slot.head _ _ _))) K).mono ?_); rintro e w2 ⟨rfl, K2⟩; (try dsimp only); replace K := K2; clear K2; (try clear ww); revert w2; intro ww K) | (go_at_call 38; (with_reducible refine (WK.out _).mono ?_); rintro e w2 ⟨rfl, k1⟩; replace K := K.step k1; clear k1; (try clear ww); revert w2; intro ww K))
    go_ret
    exact ⟨rfl, K.below⟩
  · simp only [if_neg h] at B1
    have t0 : decide (a < 0) = false := decide_eq_false h
    clear h
    go_enter Try.func8, Try.ntmps8
    go_wp2_with (first | go_big_skip | ((fail_if_success (have _h := u0)); go_at_call 31; (with_reducible refine (one_at K).mono ?_); rintro e w2 ⟨u0, rfl, K2⟩; (try dsimp only); replace K := K2; clear K2; (try clear ww); revert w2; intro ww K) | ((fail_if_success (have _h := u1)); go_at_call 31; (with_reducible refine (one_at K).mono ?_); rintro e w2 ⟨u1, rfl, K2⟩; (try dsimp only); replace K := K2; clear K2; (try clear ww); revert w2; intro ww K) | ((fail_if_success (have _h := u2)); go_at_call 31; (with_reducible refine (one_at K).mono ?_); rintro e w2 ⟨u2, rfl, K2⟩; (try dsimp only); replace K := K2; clear K2; (try clear ww); revert w2; intro ww K) | ((with_reducible refine at_load ?_); first | (refine wm_load (cs := ?_) (t := ?_) (n := ?_) K rfl _ _ rfl rfl ?_ ?_ ?_ ?_; rotate_left 2; (repeat (first | exact At.hd | exact hS.get _ | refine At.tl ?_)); rotate_left; (first | (with_reducible exact row25) | (with_reducible exact row27) | (with_reducible exact row29) | (with_reducible exact row61)); (solve | (with_reducible exact wI_size _) | (with_reducible exact numA_size _ _) | (with_reducible exact bitsA_size _) | (with_reducible exact numI_size _) | exact rfl | simp)) | (refine wm_own (cs := ?_) (t := ?_) (v := ?_) K rfl _ _ rfl rfl ?_ ?_ ?_ ?_; rotate_left 2; (repeat (first | exact At.hd | exact hS.get _ | refine At.tl ?_)); rotate_left; (first | (with_reducible exact un_0 _ _) | (with_reducible exact un_1 _ _) | (with_reducible exact wI_hi _) | (with_reducible exact wI_lo _) | (with_reducible exact numA_sign _ _) | exact rfl | assumption); (first | (with_reducible exact one2) | (with_reducible exact one3) | (with_reducible exact one4) | (with_reducible exact one5) | (with_reducible exact one23) | (with_reducible exact one105))) | (refine wm_cell (v := ?_) rfl _ _ rfl rfl ?_ ?_ ?_; rotate_left; (first | assumption | exact hF1 _ K | exact hF2 _ K | exact (K.below.cell (by assumption)).trans (by assumption)); (first | (with_reducible exact one2) | (with_reducible exact one3) | (with_reducible exact one4) | (with_reducible exact one5) | (with_reducible exact one23) | (with_reducible exact one105)))) | (go_at_call 32; (with_reducible refine (A2.out _).mono ?_); rintro e w2 ⟨rfl, k1⟩; replace K := K.step k1; clear k1; (try clear ww); revert w2; intro ww K) | (go_at_call 33; (with_reducible refine (S2.out _).mono ?_); rintro e w2 ⟨rfl, k1⟩; replace K := K.step k1; clear k1; (try clear ww); revert w2; intro ww K) | (go_at_call 33; (with_reducible refine (B2.out _).mono ?_); rintro e w2 ⟨rfl, k1⟩; replace K := K.step k1; clear k1; (try clear ww); revert w2; intro ww K) | (go_at_call 34; (with_reducible refine (A1.out _ _ (Slot.next _ (Slot.next _ (Slot.head _ _ _))) _ _ _ _ K).mono ?_); rintro e w2 ⟨rfl, K2⟩; (try dsimp only); replace K := K2; clear K2; (try clear ww); revert w2; intro ww K) | (go_at_call 35; (with_reducible refine (S1.out _ _ (Slot.next _ (Slot.head _ _ _)) _ _ _ _ K).mono ?_); rintro e w2 ⟨rfl, K2⟩; (try dsimp only); replace K := K2; clear K2; (try clear ww); revert w2; intro ww K) | (go_at_call 36; (with_reducible refine (B1.out _ _ (Slot.head _ _ _) _ _ _ _ K).mono ?_); rintro e w2 ⟨rfl, K2⟩; (try dsimp only); replace K := K2; clear K2; (try clear ww); revert w2; intro ww K) | (go_at_call 37; (with_reducible refine (Count_fxp (Slot.next _ (Slot.next _ (Slot.head _ _ _))) K).mono ?_); rintro e w2 ⟨rfl, K2⟩; (try dsimp only); replace K := K2; clear K2; (try clear ww); revert w2; intro ww K) | (go_at_call 38; (with_reducible refine (WK.out _).mono ?_); rintro e w2 ⟨rfl, k1⟩; replace K := K.step k1; clear k1; (try clear ww); revert w2; intro ww K))
    go_ret
    exact ⟨rfl, K.below⟩
theorem walk_FxpSums (x y : Int) (w0 : (Lit.int .i64 x).wf = true) (w1 : (Lit.int .i64 y).wf = true) (w : World) :
    Calls Try.prog 8 #[.int .i64 x, .int .i64 y] w fun e w' => e = .returned (.bool true) ∧ Below w.heap.size w w' :=
  core_FxpSums x y w (in64_of w0) (in64_of w1)

set_option maxHeartbeats 8000000 in
set_option maxRecDepth 100000 in
theorem core_FxpProducts (a b c q mode : Int) (w : World) (ha : in64 a = true) (hb : in64 b = true) (hc : in64 c = true) :
    Calls Try.prog 9 #[.int .i64 a, .int .i64 b, .int .i64 c, .int .i64 q, .int .i64 mode] w fun e w' => e = .returned (.bool true) ∧ Below w.heap.size w w' := by
  have K := St.start w
  have A1 := Lib.hid (fun (g : Nat) (Lf : Array Value → List Blk) (hS : Slot g 61 Lf) (B : Nat) (w0 : World) (F : World → Prop) (w : World) (K : St B w0 (Lf (un false 0)) F w) => Mul_fxp hS K a b q mode ha hb (by omega))
  simp only [Bool.false_or, Nat.zero_add] at A1
  have S1 := Lib.hid (fun (g : Nat) (Lf : Array Value → List Blk) (hS : Slot g 61 Lf) (B : Nat) (w0 : World) (F : World → Prop) (w : World) (K : St B w0 (Lf (un false 0)) F w) => Div_fxp hS K a b q mode ha hb (by omega))
  simp only [Bool.false_or, Nat.zero_add] at S1
  have B1 := Lib.hid (fun (g : Nat) (Lf : Array Value → List Blk) (hS : Slot g 61 Lf) (B : Nat) (w0 : World) (F : World → Prop) (w : World) (K : St B w0 (Lf (un false 0)) F w) => Part_fxp hS K a b c mode ha hb hc (by omega))
  simp only [Bool.false_or, Nat.zero_add] at B1
  have A2 := Lib.hid (fun w => RMul_any a b q mode w ha hb)
  have S2 := Lib.hid (fun w => RDiv4_any a b q mode w ha hb)
  have B2 := Lib.hid (fun w => RPart_any a b c mode w ha hb hc)
  have WK := Lib.hid works4
  generalize plB q = o at *
  generalize partV a b (2 ^ plQ q) mode = x at *
  generalize partV a (2 ^ plQ q) b mode = y at *
  generalize partV a b c mode = z at *
  obtain ⟨x, xs⟩ := x
  obtain ⟨y, ys⟩ := y
  obtain ⟨z, zs⟩ := z
  dsimp only at A1 S1 B1 A2 S2 B2
  generalize (xs || o) = xs at *
  generalize (ys || o) = ys at *
  clear ha hb hc
  go_enter Try.func9, Try.ntmps9
  go_wp2_with (first | go_big_skip | ((fail_if_success (have _h := u0)); go_at_call 31; (with_reducible refine (one_at K).mono ?_); rintro e w2 ⟨u0, rfl, K2⟩; (try dsimp only); replace K := K2; clear K2; (try clear ww); revert w2; intro ww K) | ((fail_if_success (have _h := u1)); go_at_call 31; (with_reducible refine (one_at K).mono ?_); rintro e w2 ⟨u1, rfl, K2⟩; (try dsimp only); replace K := K2; clear K2; (try clear ww); revert w2; intro ww K) | ((fail_if_success (have _h := u2)); go_at_call 31; (with_reducible refine (one_at K).mono ?_); rintro e w2 ⟨u2, rfl, K2⟩; (try dsimp only); replace K := K2; clear K2; (try clear ww); revert w2; intro ww K) | ((with_reducible refine at_load ?_); first | (refine wm_load (cs := ?_) (t := ?_) (n := ?_) K rfl _ _ rfl rfl ?_ ?_ ?_ ?_; rotate_left 2; (repeat (first | exact At.hd | exact hS.get _ | refine At.tl ?_)); rotate_left; (first | (with_reducible exact row25) | (with_reducible exact row27) | (with_reducible exact row29) | (with_reducible exact row61)); (solve | (with_reducible exact wI_size _) | (with_reducible exact numA_size _ _) | (with_reducible exact bitsA_size _) | (with_reducible exact numI_size _) | exact rfl | simp)) | (refine wm_own (cs := ?_) (t := ?_) (v := ?_) K rfl _ _ rfl rfl ?_ ?_ ?_ ?_; rotate_left 2; (repeat (first | exact At.hd | exact hS.get _ | refine At.tl ?_)); rotate_left; (first | (with_reducible exact un_0 _ _) | (with_reducible exact un_1 _ _) | (with_reducible exact wI_hi _) | (with_reducible exact wI_lo _) | (with_reducible exact numA_sign _ _) | exact rfl | assumption); (first | (with_reducible exact one2) | (with_reducible exact one3) | (with_reducible exact one4) | (with_reducible exact one5) | (with_reducible exact one23) | (with_reducible exact one105))) | (refine wm_cell (v := ?_) rfl _ _ rfl rfl ?_ ?_ ?_; rotate_left; (first | assumption | exact hF1 _ K | exact hF2 _ K | exact (K.below.cell (by assumption)).trans (by assumption)); (first | (with_reducible exact one2) | (with_reducible exact one3) | (with_reducible exact one4) | (with_reducible exact one5) | (with_reducible exact one23) | (with_reducible exact one105)))) | (go_at_call 39; (with_reducible refine (A2.out _).mono ?_); rintro e w2 ⟨rfl, k1⟩; replace K := K.step k1; clear k1; (try clear ww); revert w2; intro ww K) | (go_at_call 40; (with_reducible refine (S2.out _).mono ?_); rintro e w2 ⟨rfl, k1⟩; replace K := K.step k1; clear k1; (try clear ww); revert w2; intro ww K) | (go_at_call 41; (with_reducible refine (B2.out _).mono ?_); rintro e w2 ⟨rfl, k1⟩; replace K := K.step k1; clear k1; (try clear ww); revert w2; intro ww K) | (go_at_call 42; (with_reducible refine (A1.out _ _ (Slot.next _ (Slot.next _ (Slot.head _ _ _))) _ _ _ _ K).mono ?_); rintro e w2 ⟨rfl, K2⟩; (try dsimp only); replace K := K2; clear K2; (try clear ww); revert w2; intro ww K) | (go_at_call 43; (with_reducible refine (S1.out _ _ (Slot.next _ (Slot.head _ _ _)) _ _ _ _ K).mono ?_); rintro e w2 ⟨rfl, K2⟩; (try dsimp only); replace K := K2; clear K2; (try clear ww); revert w2; intro ww K) | (go_at_call 44; (with_reducible refine (B1.out _ _ (Slot.head _ _ _) _ _ _ _ K).mono ?_); rintro e w2 ⟨rfl, K2⟩; (try dsimp only); replace K := K2; clear K2; (try clear ww); revert w2; intro ww K) | (go_at_call 38; (with_reducible refine (WK.out _).mono ?_); rintro e w2 ⟨rfl, k1⟩; replace K := K.step k1; clear k1; (try clear ww); revert w2; intro ww K))
  go_ret
  exact ⟨rfl, K.below⟩
theorem walk_FxpProducts (a b c q mode : Int) (w0 : (Lit.int .i64 a).wf = true) (w1 : (Lit.int .i64 b).wf = true) (w2 : (Lit.int .i64 c).wf = true) (w3 : (Lit.int .i64 q).wf = true) (w4 : (Lit.int .i64 mode).wf = true) (w : World) :
    Calls Try.prog 9 #[.int .i64 a, .int .i64 b, .int .i64 c, .int .i64 q, .int .i64 mode] w fun e w' => e = .returned (.bool true) ∧ Below w.heap.size w w' :=
  core_FxpProducts a b c q mode w (in64_of w0) (in64_of w1) (in64_of w2)

set_option maxHeartbeats 8000000 in
set_option maxRecDepth 100000 in
theorem core_FxpScales (a f t mode : Int) (w : World) (ha : in64 a = true) :
    Calls Try.prog 10 #[.int .i64 a, .int .i64 f, .int .i64 t, .int .i64 mode] w fun e w' => e = .returned (.bool true) ∧ Below w.heap.size w w' := by
  have K := St.start w
  have A1 := Lib.hid (fun (g : Nat) (Lf : Array Value → List Blk) (hS : Slot g 61 Lf) (B : Nat) (w0 : World) (F : World → Prop) (w : World) (K : St B w0 (Lf (un false 0)) F w) => Scale_lit hS K a f t mode _ _ _ _ ha (by omega) rfl (Bool.false_or _) rfl)
  have A2 := Lib.hid (fun w => RScale_any a f t mode w ha)
  have WK := Lib.hid works4
  have HB := Lib.hid (fun (h : (((scV a f t mode).2 || plB f) || plB t) = false) (hft : f ≤ t) => scale_back ha h hft)
  have HP := Lib.hid (show in64 (scV a f t mode).1 = true from partV_in _ _ _ _)
  have HO : Hid ((((scV a f t mode).2 || plB f) || plB t) = false → (plB f = false ∧ plB t = false)) := Lib.hid (fun h => by simp only [Bool.or_eq_false_iff] at h; exact ⟨h.1.2, h.2⟩)
  generalize (((scV a f t mode).2 || plB f) || plB t) = xs at *
  generalize (scV a f t mode).1 = x at *
  clear ha
  by_cases h : xs = false ∧ f ≤ t
  · obtain ⟨rfl, hft⟩ := h
    have C1 := Lib.hid (fun (g : Nat) (Lf : Array Value → List Blk) (hS : Slot g 61 Lf) (B : Nat) (w0 : World) (F : World → Prop) (w : World) (K : St B w0 (Lf (un false 1)) F w) => Scale_lit hS K x t f mode a false false 2 HP.out (by omega) (by rw [HB.out rfl hft, (HO.out rfl).1, (HO.out rfl).2]; rfl) rfl rfl)
    have tg : decide (t < f) = false := decide_eq_false (by omega)
    clear HB HP HO hft
    go_enter Try.func10, Try.ntmps10
    go_wp2_with (first | go_big_skip | ((fail_if_success (have _h := u0)); go_at_call 31; (with_reducible refine (one_at K).mono ?_); rintro e w2 ⟨u0, rfl, K2⟩; (try dsimp only); replace K := K2; clear K2; (try clear ww); revert w2; intro ww K) | ((with_reducible refine at_load ?_); first | (refine wm_load (cs := ?_) (t := ?_) (n := ?_) K rfl _ _ rfl rfl ?_ ?_ ?_ ?_; rotate_left 2; (repeat (first | exact At.hd | exact hS.get _ | refine At.tl ?_)); rotate_left; (first | (with_reducible exact row25) | (with_reducible exact row27) | (with_reducible exact row29) | (with_reducible exact row61)); (solve | (with_reducible exact wI_size _) | (with_reducible exact numA_size _ _) | (with_reducible exact bitsA_size _) | (with_reducible exact numI_size _) | exact rfl | simp)) | (refine wm_own (cs := ?_) (t := ?_) (v := ?_) K rfl _ _ rfl rfl ?_ ?_ ?_ ?_; rotate_left 2; (repeat (first | exact At.hd | exact hS.get _ | refine At.tl ?_)); rotate_left; (first | (with_reducible exact un_0 _ _) | (with_reducible exact un_1 _ _) | (with_reducible exact wI_hi _) | (with_reducible exact wI_lo _) | (with_reducible exact numA_sign _ _) | exact rfl | assumption); (first | (with_reducible exact one2) | (with_reducible exact one3) | (with_reducible exact one4) | (with_reducible exact one5) | (with_reducible exact one23) | (with_reducible exact one105))) | (refine wm_cell (v := ?_) rfl _ _ rfl rfl ?_ ?_ ?_; rotate_left; (first | assumption | exact hF1 _ K | exact hF2 _ K | exact (K.below.cell (by assumption)).trans (by assumption)); (first | (with_reducible exact one2) | (with_reducible exact one3) | (with_reducible exact one4) | (with_reducible exact one5) | (with_reducible exact one23) | (with_reducible exact one105)))) | (go_at_call 45; (with_reducible refine (A2.out _).mono ?_); rintro e w2 ⟨rfl, k1⟩; replace K := K.step k1; clear k1; (try clear ww); revert w2; intro ww K) | (go_at_call 46; (with_reducible refine (A1.out _ _ (Slot.head _ _ _) _ _ _ _ K).mono ?_); rintro e w2 ⟨rfl, K2⟩; (try dsimp only); replace K := K2; clear K2; (try clear ww); revert w2; intro ww K) | (go_at_call 46; (with_reducible refine (C1.out _ _ (Slot.head _ _ _) _ _ _ _ K).mono ?_); rintro e w2 ⟨rfl, K2⟩; (try dsimp only); replace K := K2; clear K2; (try clear ww); revert w2; intro ww K) | (go_at_call 38; (with_reducible refine (WK.out _).mono ?_); rintro e w2 ⟨rfl, k1⟩; replace K := K.step k1; clear k1; (try clear ww); revert w2; intro ww K))
    go_ret
    exact ⟨rfl, K.below⟩
  · have tg : decide (t < f) = true ∨ xs = true := by
      cases xs
      · left; exact decide_eq_true (by simp at h; omega)
      · exact .inr rfl
    clear HB HP HO h
    rcases tg with tg | rfl
    · cases xs
      all_goals
        go_enter Try.func10, Try.ntmps10
        go_wp2_with (first | go_big_skip | ((fail_if_success (have _h := u0)); go_at_call 31; (with_reducible refine (one_at K).mono ?_); rintro e w2 ⟨u0, rfl, K2⟩; (try dsimp only); replace K := K2; clear K2; (try clear ww); revert w2; intro ww K) | ((with_reducible refine at_load ?_); first | (refine wm_load (cs := ?_) (t := ?_) (n := ?_) K rfl _ _ rfl rfl ?_ ?_ ?_ ?_; rotate_left 2; (repeat (first | exact At.hd | exact hS.get _ | refine At.tl ?_)); rotate_left; (first | (with_reducible exact row25) | (with_reducible exact row27) | (with_reducible exact row29) | (with_reducible exact row61)); (solve | (with_reducible exact wI_size _) | (with_reducible exact numA_size _ _) | (with_reducible exact bitsA_size _) | (with_reducible exact numI_size _) | exact rfl | simp)) | (refine wm_own (cs := ?_) (t := ?_) (v := ?_) K rfl _ _ rfl rfl ?_ ?_ ?_ ?_; rotate_left 2; (repeat (first | exact At.hd | exact hS.get _ | refine At.tl ?_)); rotate_left; (first | (with_reducible exact un_0 _ _) | (with_reducible exact un_1 _ _) | (with_reducible exact wI_hi _) | (with_reducible exact wI_lo _) | (with_reducible exact numA_sign _ _) | exact rfl | assumption); (first | (with_reducible exact one2) | (with_reducible exact one3) | (with_reducible exact one4) | (with_reducible exact one5) | (with_reducible exact one23) | (with_reducible exact one105))) | (refine wm_cell (v := ?_) rfl _ _ rfl rfl ?_ ?_ ?_; rotate_left; (first | assumption | exact hF1 _ K | exact hF2 _ K | exact (K.below.cell (by assumption)).trans (by assumption)); (first | (with_reducible exact one2) | (with_reducible exact one3) | (with_reducible exact one4) | (with_reducible exact one5) | (with_reducible exact one23) | (with_reducible exact one105)))) | (go_at_call 45; (with_reducible refine (A2.out _).mono ?_); rintro e w2 ⟨rfl, k1⟩; replace K := K.step k1; clear k1; (try clear ww); revert w2; intro ww K) | (go_at_call 46; (with_reducible refine (A1.out _ _ (Slot.head _ _ _) _ _ _ _ K).mono ?_); rintro e w2 ⟨rfl, K2⟩; (try dsimp only); replace K := K2; clear K2; (try clear ww); revert w2; intro ww K) | (go_at_call 38; (with_reducible refine (WK.out _).mono ?_); rintro e w2 ⟨rfl, k1⟩; replace K := K.step k1; clear k1; (try clear ww); revert w2; intro ww K))
        go_ret
        exact ⟨rfl, K.below⟩
    · go_enter Try.func10, Try.ntmps10
      go_wp2_with (first | go_big_skip | ((fail_if_success (have _h := u0)); go_at_call 31; (with_reducible refine (one_at K).mono ?_); rintro e w2 ⟨u0, rfl, K2⟩; (try dsimp only); replace K := K2; clear K2; (try clear ww); revert w2; intro ww K) | ((with_reducible refine at_load ?_); first | (refine wm_load (cs := ?_) (t := ?_) (n := ?_) K rfl _ _ rfl rfl ?_ ?_ ?_ ?_; rotate_left 2; (repeat (first | exact At.hd | exact hS.get _ | refine At.tl ?_)); rotate_left; (first | (with_reducible exact row25) | (with_reducible exact row27) | (with_reducible exact row29) | (with_reducible exact row61)); (solve | (with_reducible exact wI_size _) | (with_reducible exact numA_size _ _) | (with_reducible exact bitsA_size _) | (with_reducible exact numI_size _) | exact rfl | simp)) | (refine wm_own (cs := ?_) (t := ?_) (v := ?_) K rfl _ _ rfl rfl ?_ ?_ ?_ ?_; rotate_left 2; (repeat (first | exact At.hd | exact hS.get _ | refine At.tl ?_)); rotate_left; (first | (with_reducible exact un_0 _ _) | (with_reducible exact un_1 _ _) | (with_reducible exact wI_hi _) | (with_reducible exact wI_lo _) | (with_reducible exact numA_sign _ _) | exact rfl | assumption); (first | (with_reducible exact one2) | (with_reducible exact one3) | (with_reducible exact one4) | (with_reducible exact one5) | (with_reducible exact one23) | (with_reducible exact one105))) | (refine wm_cell (v := ?_) rfl _ _ rfl rfl ?_ ?_ ?_; rotate_left; (first | assumption | exact hF1 _ K | exact hF2 _ K | exact (K.below.cell (by assumption)).trans (by assumption)); (first | (with_reducible exact one2) | (with_reducible exact one3) | (with_reducible exact one4) | (with_reducible exact one5) | (with_reducible exact one23) | (with_reducible exact one105)))) | (go_at_call 45; (with_reducible refine (A2.out _).mono ?_); rintro e w2 ⟨rfl, k1⟩; replace K := K.step k1; clear k1; (try clear ww); revert w2; intro ww K) | (go_at_call 46; (with_reducible refine (A1.out _ _ (Slot.head _ _ _) _ _ _ _ K).mono ?_); rintro e w2 ⟨rfl, K2⟩; (try dsimp only); replace K := K2; clear K2; (try clear ww); revert w2; intro ww K) | (go_at_call 38; (with_reducible refine (WK.out _).mono ?_); rintro e w2 ⟨rfl, k1⟩; replace K := K.step k1; clear k1; (try clear ww); revert w2; intro ww K))
      go_ret
      exact ⟨rfl, K.below⟩
theorem walk_FxpScales (a f t mode : Int) (w0 : (Lit.int .i64 a).wf = true) (w1 : (Lit.int .i64 f).wf = true) (w2 : (Lit.int .i64 t).wf = true) (w3 : (Lit.int .i64 mode).wf = true) (w : World) :
    Calls Try.prog 10 #[.int .i64 a, .int .i64 f, .int .i64 t, .int .i64 mode] w fun e w' => e = .returned (.bool true) ∧ Below w.heap.size w w' :=
  core_FxpScales a f t mode w (in64_of w0)
end Go.Proofs.Ytpidcilpdoldjaa
