/-
  The walks of fxp: the document's answer for scales; a new unit; a number between two others; sums of rows.
-/
import Derived.Test.YtpidcilpdoldjaaV04
namespace Go.Proofs.Ytpidcilpdoldjaa
open Go.RowKit
attribute [local irreducible] wpHeld wpTree wpList
set_option linter.unusedVariables false

set_option maxHeartbeats 4000000 in
set_option maxRecDepth 100000 in
theorem RScale_any (a f t mode : Int) (w : World) (ha : in64 a = true) :
    Calls Try.prog 45 #[.int .i64 a, .int .i64 f, .int .i64 t, .int .i64 mode] w fun e w' => e = .returned (.tuple #[.int .i64 (scV a f t mode).1, .bool (((scV a f t mode).2 || plB f) || plB t)]) ∧ Below w.heap.size w w' := by
  have K := St.start w
  have P1 := Lib.hid (fun w => place_any f w)
  have P2 := Lib.hid (fun w => place_any t w)
  unfold scV
  have hf := plQ_le f
  have ht := plQ_le t
  generalize plQ f = pf at *
  generalize plQ t = pt at *
  generalize plB f = bf at *
  generalize plB t = bt at *
  by_cases h : pf < pt
  · obtain ⟨k, rfl⟩ : ∃ k, pt = pf + k := ⟨pt - pf, by omega⟩
    rw [show pf - (pf + k) = 0 by omega, show pf + k - pf = k by omega, show (2 : Int) ^ 0 = 1 from rfl]
    have hk : k ≤ 62 := by omega
    have P3 : Hid (∀ w (z : Int), z = k → Calls Try.prog 71 #[.int .i64 z] w fun e w' => e = .returned (.int .i64 (2 ^ k)) ∧ w = w') := Lib.hid (fun w z hz => by subst hz; exact pow_any k w hk)
    have P4 := Lib.hid (fun w => RPart_any a (2 ^ k) 1 mode w ha (two_in hk) one_in)
    generalize partV a (2 ^ k) 1 mode = r at *
    generalize (2 : Int) ^ k = p at *
    obtain ⟨v, u⟩ := r
    have tg : decide (pf < pf + k) = true := decide_eq_true (by omega)
    clear ha
    cases u <;> cases bf
    all_goals
      go_enter Try.func45, Try.ntmps45
      go_wp2_with (first | go_big_skip | (go_at_call 70; (with_reducible refine (P1.out _).mono ?_); rintro e w2 ⟨rfl, rfl⟩; (try dsimp only)) | (go_at_call 70; (with_reducible refine (P2.out _).mono ?_); rintro e w2 ⟨rfl, rfl⟩; (try dsimp only)) | (go_at_call 71; (with_reducible refine (P3.out _ _ (by omega)).mono ?_); rintro e w2 ⟨rfl, rfl⟩; (try dsimp only)) | (go_at_call 41; (with_reducible refine (P4.out _).mono ?_); rintro e w2 ⟨rfl, k1⟩; replace K := K.step k1; clear k1; (try clear ww); revert w2; intro ww K))
      go_ret2
      exact ⟨rfl, K.below⟩
  · obtain ⟨k, rfl⟩ : ∃ k, pf = pt + k := ⟨pf - pt, by omega⟩
    rw [show pt - (pt + k) = 0 by omega, show pt + k - pt = k by omega, show (2 : Int) ^ 0 = 1 from rfl]
    have hk : k ≤ 62 := by omega
    have P3 : Hid (∀ w (z : Int), z = k → Calls Try.prog 71 #[.int .i64 z] w fun e w' => e = .returned (.int .i64 (2 ^ k)) ∧ w = w') := Lib.hid (fun w z hz => by subst hz; exact pow_any k w hk)
    have P4 := Lib.hid (fun w => RPart_any a 1 (2 ^ k) mode w ha one_in (two_in hk))
    generalize partV a 1 (2 ^ k) mode = r at *
    generalize (2 : Int) ^ k = p at *
    obtain ⟨v, u⟩ := r
    have tg : decide (pt + k < pt) = false := decide_eq_false (by omega)
    clear ha
    cases u <;> cases bf
    all_goals
      go_enter Try.func45, Try.ntmps45
      go_wp2_with (first | go_big_skip | (go_at_call 70; (with_reducible refine (P1.out _).mono ?_); rintro e w2 ⟨rfl, rfl⟩; (try dsimp only)) | (go_at_call 70; (with_reducible refine (P2.out _).mono ?_); rintro e w2 ⟨rfl, rfl⟩; (try dsimp only)) | (go_at_call 71; (with_reducible refine (P3.out _ _ (by omega)).mono ?_); rintro e w2 ⟨rfl, rfl⟩; (try dsimp only)) | (go_at_call 41; (with_reducible refine (P4.out _).mono ?_); rintro e w2 ⟨rfl, k1⟩; replace K := K.step k1; clear k1; (try clear ww); revert w2; intro ww K))
      go_ret2
      exact ⟨rfl, K.below⟩

theorem Clamp_any (x lo hi : Int) (w : World) :
    Calls Try.prog 49 #[.int .i64 x, .int .i64 lo, .int .i64 hi] w fun e w' => e = .returned (.int .i64 (max lo (min x hi))) ∧ w = w' := by
  go_enter Try.func49, Try.ntmps49
  go_wp2
  go_ret
  exact ⟨rfl, rfl⟩
theorem Clampi_any (x lo hi : Int) (w : World) :
    Calls Try.prog 69 #[.int .i64 x, .int .i64 lo, .int .i64 hi] w fun e w' => e = .returned (.int .i64 (max lo (min x hi))) ∧ w = w' := by
  go_enter Try.func69, Try.ntmps69
  go_wp2
  go_ret
  exact ⟨rfl, rfl⟩
section
variable {B : Nat} {w0 w : World} {F : World → Prop} {L : List Blk}
theorem one_at (K : St B w0 L F w) :
    Calls Try.prog 31 #[] w fun e w' => ∃ b, e = .returned (.pointer (some ⟨b, 0, none⟩)) ∧ St B w0 ((b, un false 0, 61) :: L) F w' := by
  go_enter Try.func31, Try.ntmps31
  go_wp2_with (first | go_big_skip | ((with_reducible refine at_load ?_); first | (refine wm_load (cs := ?_) (t := ?_) (n := ?_) K rfl _ _ rfl rfl ?_ ?_ ?_ ?_; rotate_left 2; (repeat (first | exact At.hd | exact hS.get _ | refine At.tl ?_)); rotate_left; (first | (with_reducible exact row25) | (with_reducible exact row27) | (with_reducible exact row29) | (with_reducible exact row61)); (solve | (with_reducible exact wI_size _) | (with_reducible exact numA_size _ _) | (with_reducible exact bitsA_size _) | (with_reducible exact numI_size _) | exact rfl | simp)) | (refine wm_own (cs := ?_) (t := ?_) (v := ?_) K rfl _ _ rfl rfl ?_ ?_ ?_ ?_; rotate_left 2; (repeat (first | exact At.hd | exact hS.get _ | refine At.tl ?_)); rotate_left; (first | (with_reducible exact un_0 _ _) | (with_reducible exact un_1 _ _) | (with_reducible exact wI_hi _) | (with_reducible exact wI_lo _) | (with_reducible exact numA_sign _ _) | exact rfl | assumption); (first | (with_reducible exact one2) | (with_reducible exact one3) | (with_reducible exact one4) | (with_reducible exact one5) | (with_reducible exact one23) | (with_reducible exact one105))) | (refine wm_cell (v := ?_) rfl _ _ rfl rfl ?_ ?_ ?_; rotate_left; (first | assumption | exact hF1 _ K | exact hF2 _ K | exact (K.below.cell (by assumption)).trans (by assumption)); (first | (with_reducible exact one2) | (with_reducible exact one3) | (with_reducible exact one4) | (with_reducible exact one5) | (with_reducible exact one23) | (with_reducible exact one105)))) | ((with_reducible refine at_store ?_); first | (refine wm_store (L' := ?_) (cs := ?_) (t := ?_) (n := ?_) K rfl _ _ _ rfl rfl rfl rfl ?_ ?_ ?_ ?_ ?_ ?_; rotate_left 3; (repeat (first | exact Put.hd | exact hS.set _ _ | (refine Put.tl (L' := ?_) ?_; rotate_left))); rotate_left; (first | (with_reducible exact row25) | (with_reducible exact row27) | (with_reducible exact row29) | (with_reducible exact row61)); (solve | (with_reducible exact wI_size _) | (with_reducible exact numA_size _ _) | (with_reducible exact bitsA_size _) | (with_reducible exact numI_size _) | exact rfl | simp); (solve | (with_reducible exact wI_size _) | (with_reducible exact numA_size _ _) | (with_reducible exact bitsA_size _) | (with_reducible exact numI_size _) | exact rfl | simp); (solve | (with_reducible exact wI_ones _) | (with_reducible exact nOnes _ _) | (with_reducible exact bOnes _) | (with_reducible exact iOnes _) | exact rfl | simp [Ones, Value.oneCell']); (try clear K); (try clear ww); intro ww K; (try simp [go_sem] at K)) | (refine wm_put (L' := ?_) (cs := ?_) (new := ?_) (t := ?_) K rfl _ _ _ rfl rfl rfl rfl ?_ ?_ ?_ ?_ rfl rfl ?_; rotate_left 4; (repeat (first | exact Put.hd | exact hS.set _ _ | (refine Put.tl (L' := ?_) ?_; rotate_left))); (solve | exact un_lt _ _ (by omega) | (rw [numA_size]; omega) | (simp only [List.size_toArray, nums_length]; first | assumption | omega) | (simp only [List.size_toArray, nums_length, List.length_set]; first | assumption | omega) | simp | omega | (simp only [List.size_toArray, nums_length]; omega) | assumption); (solve | exact un_set0 _ _ _ | exact un_inc _ _ | exact numA_setSign _ _ _ | exact nums_set _ _ _ _ | simp only [List.setIfInBounds_toArray, List.set_cons_zero, List.set_cons_succ] | (simp only [List.setIfInBounds_toArray, List.set_cons_zero, List.set_cons_succ]; exact rfl) | exact rfl); (first | (with_reducible exact one2) | (with_reducible exact one3) | (with_reducible exact one4) | (with_reducible exact one5) | (with_reducible exact one23) | (with_reducible exact one105)); (try clear K); (try clear ww); intro ww K; (try simp [go_sem] at K))) | (first | ((fail_if_success (have _h := b0)); first | ((with_reducible refine at_box ?_); refine wm_box K rfl _ _ rfl rfl rfl ?_; (try clear K); (try clear ww); intro b0 ww K; (try simp [go_sem, Value.cells] at K)) | ((with_reducible refine at_alloc ?_); refine wm_alloc (v := ?_) (cs := ?_) K rfl _ rfl ?_ ?_ ?_; rotate_left; (first | (with_reducible exact z0N) | (with_reducible exact z0B) | (with_reducible exact zero25) | (with_reducible exact zero27) | (with_reducible exact zero29) | (with_reducible exact zero61)); rotate_left; exact rfl; (try clear K); (try clear ww); intro b0 ww K; (try simp [go_sem, Value.cells] at K)))))
  go_ret
  exact ⟨_, rfl, K⟩
end

/-! ### Rows -/
theorem cutV_in (z : Int) : in64 (cutV z) = true := by
  unfold cutV in64
  split
  · decide
  · split
    · decide
    · rw [decide_eq_true (by omega), decide_eq_true (by omega)]; rfl
/-- One more summand: the sum, and has any had no room. -/
def addS (p : Int × Bool) (x : Int) : Int × Bool := (cutV (p.1 + x), p.2 || cutB (p.1 + x))
def sumS (p : Int × Bool) (l : List Int) : Int × Bool := l.foldl addS p
theorem sumS_snoc (p : Int × Bool) (l : List Int) (x : Int) : sumS p (l ++ [x]) = addS (sumS p l) x := by unfold sumS; rw [List.foldl_append]; rfl
theorem sumS_in (p : Int × Bool) (l : List Int) (h : in64 p.1 = true) : in64 (sumS p l).1 = true := by
  rcases List.eq_nil_or_concat l with rfl | ⟨m, x, rfl⟩
  · exact h
  · rw [List.concat_eq_append, sumS_snoc]; exact cutV_in _
/-- Integers as they lie in memory. -/
def ints (k : IntKind) (l : List Int) : List Value := l.map (.int k)
theorem ints_len (k : IntKind) (l : List Int) : (ints k l).length = l.length := by simp [ints]
theorem ints_get (k : IntKind) (l : List Int) (i : Nat) (h : i < l.length) : (ints k l)[i]? = some (.int k (l.getD i 0)) := by
  simp [ints, List.getD, h]
theorem take_snoc (l : List Int) (i : Nat) (h : i < l.length) : l.take (i + 1) = l.take i ++ [l.getD i 0] := by
  rw [List.take_succ_eq_append_getElem h, List.getD, List.getElem?_eq_getElem h]; rfl
theorem getD_in (l : List Int) (i : Nat) (h : ∀ z ∈ l, in64 z = true) (hi : i < l.length) : in64 (l.getD i 0) = true := by
  rw [List.getD, List.getElem?_eq_getElem hi]
  exact h _ (List.getElem_mem _)
section
variable {B : Nat} {w0 w : World} {F : World → Prop} {g : Nat} {Lf : Array Value → List Blk}
set_option maxHeartbeats 2000000 in
set_option maxRecDepth 100000 in
theorem Sum_i64 (hS : Slot g 61 Lf) {s : Bool} {m : Nat} (K : St B w0 (Lf (un s m)) F w) (A : Option Addr) (n c : Nat) (l : List Int) (hR : ∀ w, F w → Rd w A n (ints .i64 l)) (hl : ∀ z ∈ l, in64 z = true) (hn : n ≤ 1000) (hm : m ≤ 1000) :
    Calls Try.prog 47 #[.pointer (some ⟨g, 0, none⟩), .slice A n c] w fun e w' => e = .returned (.int .i64 (sumS (0, s) l).1) ∧ St B w0 (Lf (un (sumS (0, s) l).2 (m + n))) F w' := by
  have HN : Hid (l.length = n) := Lib.hid (by rw [← (hR _ K.fact).1, ints_len])
  have HR := Lib.hid hR
  have HL := Lib.hid hl
  clear hR hl
  go_enter Try.func47, Try.ntmps47
  go_wp2
  go_loopw [5, 10] (fun v i wr => ∃ k : Nat, k ≤ n ∧ i = .int .i64 k ∧ v = .int .i64 (sumS (0, s) (l.take k)).1 ∧ St B w0 (Lf (un (sumS (0, s) (l.take k)).2 (m + k))) F wr) (fun _ i _ => n - (intOf i).toNat)
  case atStart => exact ⟨0, Nat.zero_le _, rfl, rfl, K⟩
  case round =>
    clear K
    obtain ⟨i, hi, rfl, rfl, K⟩ := hrel
    by_cases hlt : i < n
    · obtain ⟨b, off, rfl, hb, hc⟩ := (HR.out _ K.fact).get hlt
      have hil : i < l.length := by rw [HN.out]; exact hlt
      have hv := hc i _ (ints_get .i64 _ i hil)
      have hx := getD_in l i HL.out hil
      have hsn : Hid (sumS (0, s) (l.take (i + 1)) = addS (sumS (0, s) (l.take i)) (l.getD i 0)) := Lib.hid (by rw [take_snoc l i hil, sumS_snoc])
      have hp := sumS_in (0, s) (l.take i) (by rfl)
      generalize sumS (0, s) (l.take i) = p at *
      generalize l.getD i 0 = x at *
      obtain ⟨p, u⟩ := p
      have A1 := Lib.hid (Add_fxp hS K p x hp hx (by omega))
      clear hc hp hx
      have ht : decide (i < n) = true := decide_eq_true hlt
      go_wp2_with (first | go_big_skip | ((with_reducible refine at_load ?_); first | (refine wm_load (cs := ?_) (t := ?_) (n := ?_) K rfl _ _ rfl rfl ?_ ?_ ?_ ?_; rotate_left 2; (repeat (first | exact At.hd | exact hS.get _ | refine At.tl ?_)); rotate_left; (first | (with_reducible exact row25) | (with_reducible exact row27) | (with_reducible exact row29) | (with_reducible exact row61)); (solve | (with_reducible exact wI_size _) | (with_reducible exact numA_size _ _) | (with_reducible exact bitsA_size _) | (with_reducible exact numI_size _) | exact rfl | simp)) | (refine wm_own (cs := ?_) (t := ?_) (v := ?_) K rfl _ _ rfl rfl ?_ ?_ ?_ ?_; rotate_left 2; (repeat (first | exact At.hd | exact hS.get _ | refine At.tl ?_)); rotate_left; (first | (with_reducible exact un_0 _ _) | (with_reducible exact un_1 _ _) | (with_reducible exact wI_hi _) | (with_reducible exact wI_lo _) | (with_reducible exact numA_sign _ _) | exact rfl | assumption); (first | (with_reducible exact one2) | (with_reducible exact one3) | (with_reducible exact one4) | (with_reducible exact one5) | (with_reducible exact one23) | (with_reducible exact one105))) | (refine wm_cell (v := ?_) rfl _ _ rfl rfl ?_ ?_ ?_; rotate_left; (first | assumption | exact hF1 _ K | exact hF2 _ K | exact (K.below.cell (by assumption)).trans (by assumption)); (first | (with_reducible exact one2) | (with_reducible exact one3) | (with_reducible exact one4) | (with_reducible exact one5) | (with_reducible exact one23) | (with_reducible exact one105)))) | ((with_reducible refine at_store ?_); first | (refine wm_store (L' := ?_) (cs := ?_) (t := ?_) (n := ?_) K rfl _ _ _ rfl rfl rfl rfl ?_ ?_ ?_ ?_ ?_ ?_; rotate_left 3; (repeat (first | exact Put.hd | exact hS.set _ _ | (refine Put.tl (L' := ?_) ?_; rotate_left))); rotate_left; (first | (with_reducible exact row25) | (with_reducible exact row27) | (with_reducible exact row29) | (with_reducible exact row61)); (solve | (with_reducible exact wI_size _) | (with_reducible exact numA_size _ _) | (with_reducible exact bitsA_size _) | (with_reducible exact numI_size _) | exact rfl | simp); (solve | (with_reducible exact wI_size _) | (with_reducible exact numA_size _ _) | (with_reducible exact bitsA_size _) | (with_reducible exact numI_size _) | exact rfl | simp); (solve | (with_reducible exact wI_ones _) | (with_reducible exact nOnes _ _) | (with_reducible exact bOnes _) | (with_reducible exact iOnes _) | exact rfl | simp [Ones, Value.oneCell']); (try clear K); (try clear ww); intro ww K; (try simp [go_sem] at K)) | (refine wm_put (L' := ?_) (cs := ?_) (new := ?_) (t := ?_) K rfl _ _ _ rfl rfl rfl rfl ?_ ?_ ?_ ?_ rfl rfl ?_; rotate_left 4; (repeat (first | exact Put.hd | exact hS.set _ _ | (refine Put.tl (L' := ?_) ?_; rotate_left))); (solve | exact un_lt _ _ (by omega) | (rw [numA_size]; omega) | (simp only [List.size_toArray, nums_length]; first | assumption | omega) | (simp only [List.size_toArray, nums_length, List.length_set]; first | assumption | omega) | simp | omega | (simp only [List.size_toArray, nums_length]; omega) | assumption); (solve | exact un_set0 _ _ _ | exact un_inc _ _ | exact numA_setSign _ _ _ | exact nums_set _ _ _ _ | simp only [List.setIfInBounds_toArray, List.set_cons_zero, List.set_cons_succ] | (simp only [List.setIfInBounds_toArray, List.set_cons_zero, List.set_cons_succ]; exact rfl) | exact rfl); (first | (with_reducible exact one2) | (with_reducible exact one3) | (with_reducible exact one4) | (with_reducible exact one5) | (with_reducible exact one23) | (with_reducible exact one105)); (try clear K); (try clear ww); intro ww K; (try simp [go_sem] at K))) | (go_at_call 34; (with_reducible refine (A1.out).mono ?_); rintro e w2 ⟨rfl, K2⟩; (try dsimp only); replace K := K2; clear K2; (try clear ww); revert w2; intro ww K))
      exact ⟨⟨i + 1, by omega, by go_num, by rw [hsn.out]; rfl, by rw [hsn.out]; exact K⟩, by simp [intOf]; omega⟩
    · obtain rfl : n = i := by omega
      rw [List.take_of_length_le (by rw [HN.out]; omega)] at K
      rw [List.take_of_length_le (by rw [HN.out]; omega)]
      go_wp2
      go_ret
      exact ⟨rfl, K⟩
set_option maxHeartbeats 2000000 in
set_option maxRecDepth 100000 in
theorem Sum_int (hS : Slot g 61 Lf) {s : Bool} {m : Nat} (K : St B w0 (Lf (un s m)) F w) (A : Option Addr) (n c : Nat) (l : List Int) (hR : ∀ w, F w → Rd w A n (ints .i64 l)) (hl : ∀ z ∈ l, in64 z = true) (hn : n ≤ 1000) (hm : m ≤ 1000) :
    Calls Try.prog 68 #[.pointer (some ⟨g, 0, none⟩), .slice A n c] w fun e w' => e = .returned (.int .i64 (sumS (0, s) l).1) ∧ St B w0 (Lf (un (sumS (0, s) l).2 (m + n))) F w' := by
  have HN : Hid (l.length = n) := Lib.hid (by rw [← (hR _ K.fact).1, ints_len])
  have HR := Lib.hid hR
  have HL := Lib.hid hl
  clear hR hl
  go_enter Try.func68, Try.ntmps68
  go_wp2
  go_loopw [5, 10] (fun v i wr => ∃ k : Nat, k ≤ n ∧ i = .int .i64 k ∧ v = .int .i64 (sumS (0, s) (l.take k)).1 ∧ St B w0 (Lf (un (sumS (0, s) (l.take k)).2 (m + k))) F wr) (fun _ i _ => n - (intOf i).toNat)
  case atStart => exact ⟨0, Nat.zero_le _, rfl, rfl, K⟩
  case round =>
    clear K
    obtain ⟨i, hi, rfl, rfl, K⟩ := hrel
    by_cases hlt : i < n
    · obtain ⟨b, off, rfl, hb, hc⟩ := (HR.out _ K.fact).get hlt
      have hil : i < l.length := by rw [HN.out]; exact hlt
      have hv := hc i _ (ints_get .i64 _ i hil)
      have hx := getD_in l i HL.out hil
      have hsn : Hid (sumS (0, s) (l.take (i + 1)) = addS (sumS (0, s) (l.take i)) (l.getD i 0)) := Lib.hid (by rw [take_snoc l i hil, sumS_snoc])
      have hp := sumS_in (0, s) (l.take i) (by rfl)
      generalize sumS (0, s) (l.take i) = p at *
      generalize l.getD i 0 = x at *
      obtain ⟨p, u⟩ := p
      have A1 := Lib.hid (Add_fxp hS K p x hp hx (by omega))
      clear hc hp hx
      have ht : decide (i < n) = true := decide_eq_true hlt
      go_wp2_with (first | go_big_skip | ((with_reducible refine at_load ?_); first | (refine wm_load (cs := ?_) (t := ?_) (n := ?_) K rfl _ _ rfl rfl ?_ ?_ ?_ ?_; rotate_left 2; (repeat (first | exact At.hd | exact hS.get _ | refine At.tl ?_)); rotate_left; (first | (with_reducible exact row25) | (with_reducible exact row27) | (with_reducible exact row29) | (with_reducible exact row61)); (solve | (with_reducible exact wI_size _) | (with_reducible exact numA_size _ _) | (with_reducible exact bitsA_size _) | (with_reducible exact numI_size _) | exact rfl | simp)) | (refine wm_own (cs := ?_) (t := ?_) (v := ?_) K rfl _ _ rfl rfl ?_ ?_ ?_ ?_; rotate_left 2; (repeat (first | exact At.hd | exact hS.get _ | refine At.tl ?_)); rotate_left; (first | (with_reducible exact un_0 _ _) | (with_reducible exact un_1 _ _) | (with_reducible exact wI_hi _) | (with_reducible exact wI_lo _) | (with_reducible exact numA_sign _ _) | exact rfl | assumption); (first | (with_reducible exact one2) | (with_reducible exact one3) | (with_reducible exact one4) | (with_reducible exact one5) | (with_reducible exact one23) | (with_reducible exact one105))) | (refine wm_cell (v := ?_) rfl _ _ rfl rfl ?_ ?_ ?_; rotate_left; (first | assumption | exact hF1 _ K | exact hF2 _ K | exact (K.below.cell (by assumption)).trans (by assumption)); (first | (with_reducible exact one2) | (with_reducible exact one3) | (with_reducible exact one4) | (with_reducible exact one5) | (with_reducible exact one23) | (with_reducible exact one105)))) | ((with_reducible refine at_store ?_); first | (refine wm_store (L' := ?_) (cs := ?_) (t := ?_) (n := ?_) K rfl _ _ _ rfl rfl rfl rfl ?_ ?_ ?_ ?_ ?_ ?_; rotate_left 3; (repeat (first | exact Put.hd | exact hS.set _ _ | (refine Put.tl (L' := ?_) ?_; rotate_left))); rotate_left; (first | (with_reducible exact row25) | (with_reducible exact row27) | (with_reducible exact row29) | (with_reducible exact row61)); (solve | (with_reducible exact wI_size _) | (with_reducible exact numA_size _ _) | (with_reducible exact bitsA_size _) | (with_reducible exact numI_size _) | exact rfl | simp); (solve | (with_reducible exact wI_size _) | (with_reducible exact numA_size _ _) | (with_reducible exact bitsA_size _) | (with_reducible exact numI_size _) | exact rfl | simp); (solve | (with_reducible exact wI_ones _) | (with_reducible exact nOnes _ _) | (with_reducible exact bOnes _) | (with_reducible exact iOnes _) | exact rfl | simp [Ones, Value.oneCell']); (try clear K); (try clear ww); intro ww K; (try simp [go_sem] at K)) | (refine wm_put (L' := ?_) (cs := ?_) (new := ?_) (t := ?_) K rfl _ _ _ rfl rfl rfl rfl ?_ ?_ ?_ ?_ rfl rfl ?_; rotate_left 4; (repeat (first | exact Put.hd | exact hS.set _ _ | (refine Put.tl (L' := ?_) ?_; rotate_left))); (solve | exact un_lt _ _ (by omega) | (rw [numA_size]; omega) | (simp only [List.size_toArray, nums_length]; first | assumption | omega) | (simp only [List.size_toArray, nums_length, List.length_set]; first | assumption | omega) | simp | omega | (simp only [List.size_toArray, nums_length]; omega) | assumption); (solve | exact un_set0 _ _ _ | exact un_inc _ _ | exact numA_setSign _ _ _ | exact nums_set _ _ _ _ | simp only [List.setIfInBounds_toArray, List.set_cons_zero, List.set_cons_succ] | (simp only [List.setIfInBounds_toArray, List.set_cons_zero, List.set_cons_succ]; exact rfl) | exact rfl); (first | (with_reducible exact one2) | (with_reducible exact one3) | (with_reducible exact one4) | (with_reducible exact one5) | (with_reducible exact one23) | (with_reducible exact one105)); (try clear K); (try clear ww); intro ww K; (try simp [go_sem] at K))) | (go_at_call 34; (with_reducible refine (A1.out).mono ?_); rintro e w2 ⟨rfl, K2⟩; (try dsimp only); replace K := K2; clear K2; (try clear ww); revert w2; intro ww K))
      exact ⟨⟨i + 1, by omega, by go_num, by rw [hsn.out]; rfl, by rw [hsn.out]; exact K⟩, by simp [intOf]; omega⟩
    · obtain rfl : n = i := by omega
      rw [List.take_of_length_le (by rw [HN.out]; omega)] at K
      rw [List.take_of_length_le (by rw [HN.out]; omega)]
      go_wp2
      go_ret
      exact ⟨rfl, K⟩

/-- One more product, side by side. -/
def dotA (q mode : Int) (p : Int × Bool) (x : Int × Int) : Int × Bool := addS (p.1, p.2 || ((partV x.1 x.2 (2 ^ plQ q) mode).2 || plB q)) (partV x.1 x.2 (2 ^ plQ q) mode).1
def dotS (q mode : Int) (p : Int × Bool) (l : List (Int × Int)) : Int × Bool := l.foldl (dotA q mode) p
theorem dotS_snoc (q mode : Int) (p : Int × Bool) (l : List (Int × Int)) (x : Int × Int) : dotS q mode p (l ++ [x]) = dotA q mode (dotS q mode p l) x := by unfold dotS; rw [List.foldl_append]; rfl
theorem dotS_in (q mode : Int) (p : Int × Bool) (l : List (Int × Int)) (h : in64 p.1 = true) : in64 (dotS q mode p l).1 = true := by
  rcases List.eq_nil_or_concat l with rfl | ⟨m, x, rfl⟩
  · exact h
  · rw [List.concat_eq_append, dotS_snoc]; exact cutV_in _
theorem zip_snoc (l l2 : List Int) (i : Nat) (h : i < l.length) (h2 : i < l2.length) : (l.zip l2).take (i + 1) = (l.zip l2).take i ++ [(l.getD i 0, l2.getD i 0)] := by
  have hz : i < (l.zip l2).length := by rw [List.length_zip]; omega
  rw [List.take_succ_eq_append_getElem hz, List.getElem_zip, List.getD, List.getElem?_eq_getElem h, List.getD, List.getElem?_eq_getElem h2]; rfl
theorem partV_in (a b c mode : Int) : in64 (partV a b c mode).1 = true := by
  unfold partV
  split
  · have := divM_bd (a * b) c mode
    unfold in64
    rw [decide_eq_true this.1, decide_eq_true this.2]; rfl
  · dsimp only
    cases (decide (a * b < 0) != decide (c < 0)) <;> decide
set_option maxHeartbeats 4000000 in
set_option maxRecDepth 100000 in
theorem Dot_fxp (hS : Slot g 61 Lf) {s : Bool} {m : Nat} (K : St B w0 (Lf (un s m)) F w) (A A2 : Option Addr) (n c n2 c2 : Nat) (q mode : Int) (l l2 : List Int) (hR : ∀ w, F w → Rd w A n (ints .i64 l)) (hR2 : ∀ w, F w → Rd w A2 n2 (ints .i64 l2)) (hl : ∀ z ∈ l, in64 z = true) (hl2 : ∀ z ∈ l2, in64 z = true) (hn : n ≤ 1000) (hn2 : n2 ≤ 1000) (hm : m ≤ 1000) :
    Calls Try.prog 48 #[.pointer (some ⟨g, 0, none⟩), .slice A n c, .slice A2 n2 c2, .int .i64 q, .int .i64 mode] w fun e w' => e = .returned (.int .i64 (dotS q mode (0, s) (l.zip l2)).1) ∧ St B w0 (Lf (un (dotS q mode (0, s) (l.zip l2)).2 (m + 2 * min n n2))) F w' := by
  have HN : Hid (l.length = n) := Lib.hid (by rw [← (hR _ K.fact).1, ints_len])
  have HN2 : Hid (l2.length = n2) := Lib.hid (by rw [← (hR2 _ K.fact).1, ints_len])
  have HR := Lib.hid hR
  have HR2 := Lib.hid hR2
  have HL := Lib.hid hl
  have HL2 := Lib.hid hl2
  obtain ⟨N, hN⟩ : ∃ N, N = min n n2 := ⟨_, rfl⟩
  rw [← hN]
  have em : min (n : Int) n2 = N := by omega
  have hN1 : N ≤ n := by omega
  have hN2 : N ≤ n2 := by omega
  have HZ : Hid ((l.zip l2).length = N) := Lib.hid (by rw [List.length_zip, HN.out, HN2.out, hN])
  clear hR hl hR2 hl2 hN
  go_enter Try.func48, Try.ntmps48
  go_wp2
  go_loopw [11, 18] (fun v i wr => ∃ k : Nat, k ≤ N ∧ i = .int .i64 k ∧ v = .int .i64 (dotS q mode (0, s) ((l.zip l2).take k)).1 ∧ St B w0 (Lf (un (dotS q mode (0, s) ((l.zip l2).take k)).2 (m + 2 * k))) F wr) (fun _ i _ => N - (intOf i).toNat)
  case atStart => exact ⟨0, Nat.zero_le _, rfl, rfl, K⟩
  case round =>
    clear K
    obtain ⟨i, hi, rfl, rfl, K⟩ := hrel
    by_cases hlt : i < N
    · obtain ⟨b, off, rfl, hb, -⟩ := (HR.out _ K.fact).get (k := i) (by omega)
      obtain ⟨b2, off2, rfl, hb2, -⟩ := (HR2.out _ K.fact).get (k := i) (by omega)
      have hil : i < l.length := by rw [HN.out]; omega
      have hil2 : i < l2.length := by rw [HN2.out]; omega
      have hF1 : ∀ ww, St B w0 [] F ww → ww.cell? ⟨b, off + i, none⟩ = some (.int .i64 (l.getD i 0)) := fun ww K => by
        obtain ⟨b', off', e, _, hc⟩ := (HR.out _ K.fact).get (k := i) (by omega)
        injection e with e
        injection e with e1 e2 e3
        subst e1 e2
        exact hc i _ (ints_get .i64 _ i hil)
      have hF2 : ∀ ww, St B w0 [] F ww → ww.cell? ⟨b2, off2 + i, none⟩ = some (.int .i64 (l2.getD i 0)) := fun ww K => by
        obtain ⟨b', off', e, _, hc⟩ := (HR2.out _ K.fact).get (k := i) (by omega)
        injection e with e
        injection e with e1 e2 e3
        subst e1 e2
        exact hc i _ (ints_get .i64 _ i hil2)
      have hx := getD_in l i HL.out hil
      have hy := getD_in l2 i HL2.out hil2
      have hsn : Hid (dotS q mode (0, s) ((l.zip l2).take (i + 1)) = dotA q mode (dotS q mode (0, s) ((l.zip l2).take i)) (l.getD i 0, l2.getD i 0)) := Lib.hid (by rw [zip_snoc l l2 i hil hil2, dotS_snoc])
      have hp := dotS_in q mode (0, s) ((l.zip l2).take i) (by rfl)
      generalize dotS q mode (0, s) ((l.zip l2).take i) = p at *
      generalize l.getD i 0 = x at *
      generalize l2.getD i 0 = y at *
      obtain ⟨p, u⟩ := p
      have M1 : Hid (∀ w, St B w0 (Lf (un u (m + 2 * i))) F w → Calls Try.prog 42 #[.pointer (some ⟨g, 0, none⟩), .int .i64 x, .int .i64 y, .int .i64 q, .int .i64 mode] w fun e w' => e = .returned (.int .i64 (partV x y (2 ^ plQ q) mode).1) ∧ St B w0 (Lf (un (u || ((partV x y (2 ^ plQ q) mode).2 || plB q)) (m + 2 * i + 1))) F w') := Lib.hid fun w K => Mul_fxp hS K x y q mode hx hy (by omega)
      have hpin := partV_in x y (2 ^ plQ q) mode
      unfold dotA at hsn
      dsimp only at hsn
      generalize partV x y (2 ^ plQ q) mode = r at *
      obtain ⟨r, t⟩ := r
      dsimp only at hsn M1 hpin
      generalize (u || (t || plB q)) = t2 at *
      have A1 : Hid (∀ w, St B w0 (Lf (un t2 (m + 2 * i + 1))) F w → Calls Try.prog 34 #[.pointer (some ⟨g, 0, none⟩), .int .i64 p, .int .i64 r] w fun e w' => e = .returned (.int .i64 (cutV (p + r))) ∧ St B w0 (Lf (un (t2 || cutB (p + r)) (m + 2 * i + 1 + 1))) F w') := Lib.hid fun w K => Add_fxp hS K p r hp hpin (by omega)
      clear hp hx hy hpin hil hil2 hb hb2
      have ht : decide (i < N) = true := decide_eq_true hlt
      have hi1 : i < n := by omega
      have hi2 : i < n2 := by omega
      go_wp2
      refine wm_held _ [(true, 0), (true, 1), (true, 2), (true, 3), (true, 4), (true, 5), (true, 6), (true, 7), (true, 8), (true, 9), (true, 10), (true, 11), (true, 12), (false, 13), (false, 14), (true, 15)] K (List.nil_sublist _) (by kernel_rfl) (by kernel_rfl) ?_; (try clear K); (try clear ww); intro ww K; (try simp [go_sem] at K); simp only [pick, List.getElem?_toArray, List.getElem?_cons_succ, List.getElem?_cons_zero]
      repeat (first | ((with_reducible refine ht_load ?_); first | (refine hm_load (cs := ?_) (t := ?_) (n := ?_) rfl _ _ rfl rfl ?_ ?_ ?_ ?_; rotate_left 2; (repeat (first | exact At.hd | exact hS.get _ | refine At.tl ?_)); rotate_left; (first | (with_reducible exact row25) | (with_reducible exact row27) | (with_reducible exact row29) | (with_reducible exact row61)); (solve | (with_reducible exact wI_size _) | (with_reducible exact numA_size _ _) | (with_reducible exact bitsA_size _) | (with_reducible exact numI_size _) | exact rfl | simp)) | (refine hm_own (cs := ?_) (t := ?_) (v := ?_) rfl _ _ rfl rfl ?_ ?_ ?_ ?_; rotate_left 2; (repeat (first | exact At.hd | exact hS.get _ | refine At.tl ?_)); rotate_left; (first | (with_reducible exact un_0 _ _) | (with_reducible exact un_1 _ _) | (with_reducible exact wI_hi _) | (with_reducible exact wI_lo _) | (with_reducible exact numA_sign _ _) | exact rfl | assumption); (first | (with_reducible exact one2) | (with_reducible exact one3) | (with_reducible exact one4) | (with_reducible exact one5) | (with_reducible exact one23) | (with_reducible exact one105))) | (refine hm_cell (v := ?_) rfl _ _ rfl rfl (fun ww K => ?_) ?_ ?_; rotate_left; (first | assumption | exact hF1 _ K | exact hF2 _ K | exact (K.below.cell (by assumption)).trans (by assumption)); (first | (with_reducible exact one2) | (with_reducible exact one3) | (with_reducible exact one4) | (with_reducible exact one5) | (with_reducible exact one23) | (with_reducible exact one105)))) | (refine held_take (fun K' hK' => ?_); go_simp; first | (refine hK' _ ?_; clear hK' K') | (apply Exists.intro; refine ⟨?_, hK' _ ?_⟩; (intro _ _; rfl); clear hK' K')) | ((with_reducible refine ht_store ?_); first | (refine hm_store (L' := ?_) (cs := ?_) (t := ?_) (n := ?_) K rfl _ _ _ rfl rfl rfl rfl ?_ ?_ ?_ ?_ ?_ ?_; rotate_left 3; (repeat (first | exact Put.hd | exact hS.set _ _ | (refine Put.tl (L' := ?_) ?_; rotate_left))); rotate_left; (first | (with_reducible exact row25) | (with_reducible exact row27) | (with_reducible exact row29) | (with_reducible exact row61)); (solve | (with_reducible exact wI_size _) | (with_reducible exact numA_size _ _) | (with_reducible exact bitsA_size _) | (with_reducible exact numI_size _) | exact rfl | simp); (solve | (with_reducible exact wI_size _) | (with_reducible exact numA_size _ _) | (with_reducible exact bitsA_size _) | (with_reducible exact numI_size _) | exact rfl | simp); (solve | (with_reducible exact wI_ones _) | (with_reducible exact nOnes _ _) | (with_reducible exact bOnes _) | (with_reducible exact iOnes _) | exact rfl | simp [Ones, Value.oneCell']); (try clear K); (try clear ww); intro ww K; (try simp [go_sem] at K); refine ⟨(by first | exact (K).sub (List.nil_sublist _) | exact (K.weak fun _ h => h.2).sub (List.nil_sublist _) | exact (K.weak fun _ h => h.2.2).sub (List.nil_sublist _) | exact (K.weak fun _ h => h.2.2.2).sub (List.nil_sublist _) | exact (K.weak fun _ h => h.2.2.2.2).sub (List.nil_sublist _) | exact (K.weak fun _ h => h.2.2.2.2.2).sub (List.nil_sublist _)), ?_⟩) | (refine hm_put (L' := ?_) (cs := ?_) (new := ?_) (t := ?_) K rfl _ _ _ rfl rfl rfl rfl ?_ ?_ ?_ ?_ rfl rfl ?_; rotate_left 4; (repeat (first | exact Put.hd | exact hS.set _ _ | (refine Put.tl (L' := ?_) ?_; rotate_left))); (solve | exact un_lt _ _ (by omega) | (rw [numA_size]; omega) | (simp only [List.size_toArray, nums_length]; first | assumption | omega) | (simp only [List.size_toArray, nums_length, List.length_set]; first | assumption | omega) | simp | omega | (simp only [List.size_toArray, nums_length]; omega) | assumption); (solve | exact un_set0 _ _ _ | exact un_inc _ _ | exact numA_setSign _ _ _ | exact nums_set _ _ _ _ | simp only [List.setIfInBounds_toArray, List.set_cons_zero, List.set_cons_succ] | (simp only [List.setIfInBounds_toArray, List.set_cons_zero, List.set_cons_succ]; exact rfl) | exact rfl); (first | (with_reducible exact one2) | (with_reducible exact one3) | (with_reducible exact one4) | (with_reducible exact one5) | (with_reducible exact one23) | (with_reducible exact one105)); (try clear K); (try clear ww); intro ww K; (try simp [go_sem] at K); refine ⟨(by first | exact (K).sub (List.nil_sublist _) | exact (K.weak fun _ h => h.2).sub (List.nil_sublist _) | exact (K.weak fun _ h => h.2.2).sub (List.nil_sublist _) | exact (K.weak fun _ h => h.2.2.2).sub (List.nil_sublist _) | exact (K.weak fun _ h => h.2.2.2.2).sub (List.nil_sublist _) | exact (K.weak fun _ h => h.2.2.2.2.2).sub (List.nil_sublist _)), ?_⟩)) | (refine held_do (fun K' hK' => ?_); go_simp; go_at_call 42; (with_reducible refine (M1.out _ K).mono ?_); rintro e w2 ⟨rfl, K2⟩; (try dsimp only); refine hK' _ _ (by first | exact (K2).sub (List.nil_sublist _) | exact (K2.weak fun _ h => h.2).sub (List.nil_sublist _) | exact (K2.weak fun _ h => h.2.2).sub (List.nil_sublist _) | exact (K2.weak fun _ h => h.2.2.2).sub (List.nil_sublist _) | exact (K2.weak fun _ h => h.2.2.2.2).sub (List.nil_sublist _) | exact (K2.weak fun _ h => h.2.2.2.2.2).sub (List.nil_sublist _)) ?_; replace K := K2; clear hK' K' K2; (try clear ww); revert w2; intro ww K) | (refine held_do (fun K' hK' => ?_); go_simp; go_at_call 34; (with_reducible refine (A1.out _ K).mono ?_); rintro e w2 ⟨rfl, K2⟩; (try dsimp only); refine hK' _ _ (by first | exact (K2).sub (List.nil_sublist _) | exact (K2.weak fun _ h => h.2).sub (List.nil_sublist _) | exact (K2.weak fun _ h => h.2.2).sub (List.nil_sublist _) | exact (K2.weak fun _ h => h.2.2.2).sub (List.nil_sublist _) | exact (K2.weak fun _ h => h.2.2.2.2).sub (List.nil_sublist _) | exact (K2.weak fun _ h => h.2.2.2.2.2).sub (List.nil_sublist _)) ?_; replace K := K2; clear hK' K' K2; (try clear ww); revert w2; intro ww K))
      refine held_nil ?_
      go_wp2
      exact ⟨⟨i + 1, by omega, by go_num, by rw [hsn.out]; rfl, by rw [hsn.out]; exact K⟩, by simp [intOf]; omega⟩
    · obtain rfl : N = i := by omega
      rw [List.take_of_length_le (by rw [HZ.out]; omega)] at K
      rw [List.take_of_length_le (by rw [HZ.out]; omega)]
      go_wp2
      go_ret
      exact ⟨rfl, K⟩
end
end Go.Proofs.Ytpidcilpdoldjaa
