/-
  The law of what is noted: one behind the other.
-/
import Derived.Test.YtpidcilpdoldjaaLa04
import Derived.OpenShut
namespace Go.Proofs.Ytpidcilpdoldjaa
open Go.RowKit
attribute [local irreducible] wpHeld wpTree wpList
set_option linter.unusedVariables false

/-- A slice of integers that came in: nil, or a row of 'cap' cells, the first 'len' of them its elements. -/
def IsRow (k : IntKind) (w : World) (a : Option Addr) (len cap : Nat) (zs : List Int) : Prop :=
  (a = none ∧ len = 0 ∧ cap = 0 ∧ zs = []) ∨
  ∃ x, a = some x ∧ len ≤ cap ∧ cap ≤ maxLen ∧ zs.length = cap ∧ (∀ i, i < zs.length → w.cell? (x.add i) = some (.int k (zs.getD i 0))) ∧ ∀ n ∈ zs, (Lit.int k n).wf = true
theorem cell_some {w : World} {x : Addr} {v : Value} (h : w.cell? x = some v) : x.spot = none ∧ x.block < w.heap.size := by
  unfold World.cell? at h
  split at h
  · rename_i c e f hb
    split at h
    · cases h
    · rename_i hs
      exact ⟨by simpa using hs, (Array.getElem?_eq_some_iff.1 hb).1⟩
  · cases h
theorem IsRow.rdI {k : IntKind} {w : World} {a : Option Addr} {len cap : Nat} {zs : List Int} (h : IsRow k w a len cap zs) :
    ∃ l : List Int, (∀ x ∈ l, (Lit.int k x).wf = true) ∧ Rd w a len (ints k l) ∧ l.length = len := by
  rcases h with ⟨rfl, rfl, rfl, rfl⟩ | ⟨x, rfl, hl, hm, hz, hc, hwf⟩
  · exact ⟨[], by simp, Rd.nil _ _, rfl⟩
  · refine ⟨zs.take len, fun y hy => hwf y (List.mem_of_mem_take hy), ⟨?_, fun h0 => ?_⟩, ?_⟩
    · rw [ints_len, List.length_take]; omega
    · have h1 := hc 0 (by omega)
      obtain ⟨hs, hb⟩ := cell_some h1
      rcases x with ⟨b, off, sp⟩
      simp only [Addr.add] at hs hb
      subst hs
      refine ⟨b, off, rfl, hb, fun j u hj => ?_⟩
      have hj' : j < len := by
        have := (List.getElem?_eq_some_iff.1 hj).1
        rw [ints_len, List.length_take] at this
        omega
      have h2 := hc j (by omega)
      rw [Addr.add_mid] at h2
      rw [h2]
      have e := ints_get k (zs.take len) j (by rw [List.length_take]; omega)
      rw [hj] at e
      injection e with e
      rw [e, List.getD, List.getD, List.getElem?_take, if_pos hj']
    · rw [List.length_take]; omega
theorem in64_all {l : List Int} (h : ∀ x ∈ l, (Lit.int .i64 x).wf = true) : ∀ z ∈ l, in64 z = true := fun z hz => in64_of (h z hz)

set_option maxHeartbeats 8000000 in
set_option maxRecDepth 100000 in
theorem walk_FxpNotes (a0 : Option Addr) (len0 cap0 : Nat) (z0 : List Int) (a1 : Option Addr) (len1 cap1 : Nat) (z1 : List Int) (q : Int) (w : World) (w0 : IsRow .i64 w a0 len0 cap0 z0) (w1 : IsRow .u8 w a1 len1 cap1 z1) (w2 : (Lit.int .i64 q).wf = true) :
    Calls Try.prog 11 #[.slice a0 len0 cap0, .slice a1 len1 cap1, .int .i64 q] w fun e w' => e = .returned (.bool true) ∧ Below w.heap.size w w' := by
  obtain ⟨l0, hl0, hr0, hn0⟩ := w0.rdI
  obtain ⟨l1, hl1, hr1, hn1⟩ := w1.rdI
  clear w0 w1 w2 z0 z1
  have K := St.start w
  have WK := Lib.hid works4
  by_cases g0 : 100 < len0
  · have t0 : decide (100 < (len0 : Int)) = true := decide_eq_true (by omega)
    go_enter Try.func11, Try.ntmps11
    go_wp2_with (first | (go_at_call 38; (with_reducible refine (WK.out _).mono ?_); rintro e w2 ⟨rfl, k1⟩; replace K := K.step k1; clear k1; (try clear ww); revert w2; intro ww K))
    go_ret
    exact ⟨rfl, K.below⟩
  have t0 : decide (100 < (len0 : Int)) = false := decide_eq_false (by omega)
  have R0 := Lib.hid hr0
  have R1 := Lib.hid hr1
  have L0 := Lib.hid (in64_all hl0)
  have L1 := Lib.hid hl1
  have HN0 := Lib.hid hn0
  have HN1 := Lib.hid hn1
  clear hl0 hr0 hn0 hl1 hr1 hn1
  go_enter Try.func11, Try.ntmps11
  go_wp2_with (first | go_big_skip | ((fail_if_success (have _h := u0)); go_at_call 31; (with_reducible refine (one_at K).mono ?_); rintro e w2 ⟨u0, rfl, K2⟩; (try dsimp only); replace K := K2; clear K2; (try clear ww); revert w2; intro ww K))
  go_loopw [8, 9, 10] (fun p s i wr => ∃ (k : Nat) (p' : Int) (s' : Bool), k ≤ len0 ∧ i = .int .i64 k ∧ p = .int .i64 p' ∧ in64 p' = true ∧ s = .bool s' ∧ St w.heap.size w [(u0, un s' k, 61)] Any wr) (fun _ _ i _ => len0 - (intOf i).toNat)
  case atStart => exact ⟨0, 1, false, Nat.zero_le _, rfl, rfl, by decide, rfl, K⟩
  case round =>
    clear K
    obtain ⟨i, p, s, hi, rfl, rfl, hp, rfl, K⟩ := hrel
    by_cases hlt : i < len0
    · obtain ⟨b, off, rfl, hb, hc⟩ := R0.out.get hlt
      have hil : i < l0.length := by rw [HN0.out]; exact hlt
      have hv := hc i _ (ints_get .i64 _ i hil)
      have hx := getD_in l0 i L0.out hil
      generalize l0.getD i 0 = x at *
      clear hc hil
      have ht : decide (i < len0) = true := decide_eq_true hlt
      have A1 : Hid (∀ B w0 F w, St B w0 [(u0, un s i, 61)] F w → Calls Try.prog 34 #[.pointer (some ⟨u0, 0, none⟩), .int .i64 p, .int .i64 x] w fun e w' => e = .returned (.int .i64 (cutV (p + x))) ∧ St B w0 [(u0, un (s || cutB (p + x)) (i + 1), 61)] F w') := Lib.hid fun B w0 F w K => Add_fxp (Slot.head _ _ _) K p x hp hx (by omega)
      have S1 : Hid (∀ B w0 F w, St B w0 [(u0, un s i, 61)] F w → Calls Try.prog 35 #[.pointer (some ⟨u0, 0, none⟩), .int .i64 p, .int .i64 x] w fun e w' => e = .returned (.int .i64 (cutV (p - x))) ∧ St B w0 [(u0, un (s || cutB (p - x)) (i + 1), 61)] F w') := Lib.hid fun B w0 F w K => Sub_fxp (Slot.head _ _ _) K p x hp hx (by omega)
      have M1 : Hid (∀ B w0 F w, St B w0 [(u0, un s i, 61)] F w → Calls Try.prog 42 #[.pointer (some ⟨u0, 0, none⟩), .int .i64 p, .int .i64 x, .int .i64 q, .int .i64 2] w fun e w' => e = .returned (.int .i64 (partV p x (2 ^ plQ q) 2).1) ∧ St B w0 [(u0, un (s || ((partV p x (2 ^ plQ q) 2).2 || plB q)) (i + 1), 61)] F w') := Lib.hid fun B w0 F w K => Mul_fxp (Slot.head _ _ _) K p x q 2 hp hx (by omega)
      have D1 : Hid (∀ B w0 F w, St B w0 [(u0, un s i, 61)] F w → Calls Try.prog 43 #[.pointer (some ⟨u0, 0, none⟩), .int .i64 p, .int .i64 x, .int .i64 q, .int .i64 0] w fun e w' => e = .returned (.int .i64 (partV p (2 ^ plQ q) x 0).1) ∧ St B w0 [(u0, un (s || ((partV p (2 ^ plQ q) x 0).2 || plB q)) (i + 1), 61)] F w') := Lib.hid fun B w0 F w K => Div_fxp (Slot.head _ _ _) K p x q 0 hp hx (by omega)
      have A2 := Lib.hid (fun w => RAdd_any p x w hp hx)
      have S2 := Lib.hid (fun w => RSub_any p x w hp hx)
      have M2 := Lib.hid (fun w => RMul_any p x q 2 w hp hx)
      have D2 := Lib.hid (fun w => RDiv4_any p x q 0 w hp hx)
      have i1 : Hid (in64 (cutV (p + x)) = true) := Lib.hid (cutV_in _)
      have i2 : Hid (in64 (cutV (p - x)) = true) := Lib.hid (cutV_in _)
      have i3 : Hid (in64 (partV p x (2 ^ plQ q) 2).1 = true) := Lib.hid (partV_in _ _ _ _)
      have i4 : Hid (in64 (partV p (2 ^ plQ q) x 0).1 = true) := Lib.hid (partV_in _ _ _ _)
      generalize cutV (p + x) = y1 at *
      generalize cutB (p + x) = z1 at *
      generalize cutV (p - x) = y2 at *
      generalize cutB (p - x) = z2 at *
      generalize partV p x (2 ^ plQ q) 2 = y3 at *
      generalize partV p (2 ^ plQ q) x 0 = y4 at *
      obtain ⟨y3, z3⟩ := y3
      obtain ⟨y4, z4⟩ := y4
      dsimp only at M1 D1 M2 D2 i3 i4
      generalize (z3 || plB q) = z3 at *
      generalize (z4 || plB q) = z4 at *
      clear hp hx
      by_cases hk : i < len1
      · obtain ⟨b1, off1, rfl, hb1, hc1⟩ := R1.out.get hk
        have hil : i < l1.length := by rw [HN1.out]; exact hk
        have hv1 := hc1 i _ (ints_get .u8 _ i hil)
        have hx1 : 0 ≤ l1.getD i 0 ∧ l1.getD i 0 < 256 := by
          rw [List.getD, List.getElem?_eq_getElem hil]
          have := bounds_u8 (L1.out _ (List.getElem_mem hil))
          simp only [Option.getD_some]; omega
        obtain ⟨x1, ex1⟩ : ∃ x1 : Nat, l1.getD i 0 = x1 := ⟨(l1.getD i 0).toNat, by omega⟩
        rw [ex1] at hv1 hx1
        clear ex1 hil hc1
        have ht1 : decide (i < len1) = true := decide_eq_true hk
        go_upto_region 12 with (first | ((with_reducible refine at_load ?_); first | (refine wm_load (cs := ?_) (t := ?_) (n := ?_) K rfl _ _ rfl rfl ?_ ?_ ?_ ?_; rotate_left 2; (repeat (first | exact At.hd | exact hS.get _ | refine At.tl ?_)); rotate_left; (first | (with_reducible exact row25) | (with_reducible exact row27) | (with_reducible exact row29) | (with_reducible exact row61)); (solve | (with_reducible exact wI_size _) | (with_reducible exact numA_size _ _) | (with_reducible exact bitsA_size _) | (with_reducible exact numI_size _) | exact rfl | simp)) | (refine wm_own (cs := ?_) (t := ?_) (v := ?_) K rfl _ _ rfl rfl ?_ ?_ ?_ ?_; rotate_left 2; (repeat (first | exact At.hd | exact hS.get _ | refine At.tl ?_)); rotate_left; (first | (with_reducible exact un_0 _ _) | (with_reducible exact un_1 _ _) | (with_reducible exact wI_hi _) | (with_reducible exact wI_lo _) | (with_reducible exact numA_sign _ _) | exact rfl | assumption); (first | (with_reducible exact one2) | (with_reducible exact one3) | (with_reducible exact one4) | (with_reducible exact one5) | (with_reducible exact one23) | (with_reducible exact one105))) | (refine wm_cell (v := ?_) rfl _ _ rfl rfl ?_ ?_ ?_; rotate_left; (first | assumption | exact hF1 _ K | exact hF2 _ K | exact (K.below.cell (by assumption)).trans (by assumption)); (first | (with_reducible exact one2) | (with_reducible exact one3) | (with_reducible exact one4) | (with_reducible exact one5) | (with_reducible exact one23) | (with_reducible exact one105)))))
        have h4 : (x1 : Int) % 4 = 0 ∨ (x1 : Int) % 4 = 1 ∨ (x1 : Int) % 4 = 2 ∨ (x1 : Int) % 4 = 3 := by omega
        generalize (x1 : Int) % 4 = r at *
        clear hx1 hv1 ht1 hk hb1
        rcases h4 with rfl | rfl | rfl | rfl
        · clear D1 M1 S1 D2 M2 S2 i2 i3 i4
          cases z1 <;> cases s
          all_goals
            go_wp2_with (first | ((with_reducible refine at_load ?_); first | (refine wm_load (cs := ?_) (t := ?_) (n := ?_) K rfl _ _ rfl rfl ?_ ?_ ?_ ?_; rotate_left 2; (repeat (first | exact At.hd | exact hS.get _ | refine At.tl ?_)); rotate_left; (first | (with_reducible exact row25) | (with_reducible exact row27) | (with_reducible exact row29) | (with_reducible exact row61)); (solve | (with_reducible exact wI_size _) | (with_reducible exact numA_size _ _) | (with_reducible exact bitsA_size _) | (with_reducible exact numI_size _) | exact rfl | simp)) | (refine wm_own (cs := ?_) (t := ?_) (v := ?_) K rfl _ _ rfl rfl ?_ ?_ ?_ ?_; rotate_left 2; (repeat (first | exact At.hd | exact hS.get _ | refine At.tl ?_)); rotate_left; (first | (with_reducible exact un_0 _ _) | (with_reducible exact un_1 _ _) | (with_reducible exact wI_hi _) | (with_reducible exact wI_lo _) | (with_reducible exact numA_sign _ _) | exact rfl | assumption); (first | (with_reducible exact one2) | (with_reducible exact one3) | (with_reducible exact one4) | (with_reducible exact one5) | (with_reducible exact one23) | (with_reducible exact one105))) | (refine wm_cell (v := ?_) rfl _ _ rfl rfl ?_ ?_ ?_; rotate_left; (first | assumption | exact hF1 _ K | exact hF2 _ K | exact (K.below.cell (by assumption)).trans (by assumption)); (first | (with_reducible exact one2) | (with_reducible exact one3) | (with_reducible exact one4) | (with_reducible exact one5) | (with_reducible exact one23) | (with_reducible exact one105)))) | (go_at_call 32; (with_reducible refine (A2.out _).mono ?_); rintro e w2 ⟨rfl, k1⟩; replace K := K.step k1; clear k1; (try clear ww); revert w2; intro ww K) | (go_at_call 34; (with_reducible refine (A1.out _ _ _ _ K).mono ?_); rintro e w2 ⟨rfl, K2⟩; (try dsimp only); replace K := K2; clear K2; (try clear ww); revert w2; intro ww K))
            exact ⟨⟨i + 1, _, _, by omega, by go_num, rfl, i1.out, rfl, K⟩, by simp [intOf]; omega⟩
        · clear D1 M1 A1 D2 M2 A2 i1 i3 i4
          cases z2 <;> cases s
          all_goals
            go_wp2_with (first | ((with_reducible refine at_load ?_); first | (refine wm_load (cs := ?_) (t := ?_) (n := ?_) K rfl _ _ rfl rfl ?_ ?_ ?_ ?_; rotate_left 2; (repeat (first | exact At.hd | exact hS.get _ | refine At.tl ?_)); rotate_left; (first | (with_reducible exact row25) | (with_reducible exact row27) | (with_reducible exact row29) | (with_reducible exact row61)); (solve | (with_reducible exact wI_size _) | (with_reducible exact numA_size _ _) | (with_reducible exact bitsA_size _) | (with_reducible exact numI_size _) | exact rfl | simp)) | (refine wm_own (cs := ?_) (t := ?_) (v := ?_) K rfl _ _ rfl rfl ?_ ?_ ?_ ?_; rotate_left 2; (repeat (first | exact At.hd | exact hS.get _ | refine At.tl ?_)); rotate_left; (first | (with_reducible exact un_0 _ _) | (with_reducible exact un_1 _ _) | (with_reducible exact wI_hi _) | (with_reducible exact wI_lo _) | (with_reducible exact numA_sign _ _) | exact rfl | assumption); (first | (with_reducible exact one2) | (with_reducible exact one3) | (with_reducible exact one4) | (with_reducible exact one5) | (with_reducible exact one23) | (with_reducible exact one105))) | (refine wm_cell (v := ?_) rfl _ _ rfl rfl ?_ ?_ ?_; rotate_left; (first | assumption | exact hF1 _ K | exact hF2 _ K | exact (K.below.cell (by assumption)).trans (by assumption)); (first | (with_reducible exact one2) | (with_reducible exact one3) | (with_reducible exact one4) | (with_reducible exact one5) | (with_reducible exact one23) | (with_reducible exact one105)))) | (go_at_call 33; (with_reducible refine (S2.out _).mono ?_); rintro e w2 ⟨rfl, k1⟩; replace K := K.step k1; clear k1; (try clear ww); revert w2; intro ww K) | (go_at_call 35; (with_reducible refine (S1.out _ _ _ _ K).mono ?_); rintro e w2 ⟨rfl, K2⟩; (try dsimp only); replace K := K2; clear K2; (try clear ww); revert w2; intro ww K))
            exact ⟨⟨i + 1, _, _, by omega, by go_num, rfl, i2.out, rfl, K⟩, by simp [intOf]; omega⟩
        · clear D1 S1 A1 D2 S2 A2 i1 i2 i4
          cases z3 <;> cases s
          all_goals
            go_wp2_with (first | ((with_reducible refine at_load ?_); first | (refine wm_load (cs := ?_) (t := ?_) (n := ?_) K rfl _ _ rfl rfl ?_ ?_ ?_ ?_; rotate_left 2; (repeat (first | exact At.hd | exact hS.get _ | refine At.tl ?_)); rotate_left; (first | (with_reducible exact row25) | (with_reducible exact row27) | (with_reducible exact row29) | (with_reducible exact row61)); (solve | (with_reducible exact wI_size _) | (with_reducible exact numA_size _ _) | (with_reducible exact bitsA_size _) | (with_reducible exact numI_size _) | exact rfl | simp)) | (refine wm_own (cs := ?_) (t := ?_) (v := ?_) K rfl _ _ rfl rfl ?_ ?_ ?_ ?_; rotate_left 2; (repeat (first | exact At.hd | exact hS.get _ | refine At.tl ?_)); rotate_left; (first | (with_reducible exact un_0 _ _) | (with_reducible exact un_1 _ _) | (with_reducible exact wI_hi _) | (with_reducible exact wI_lo _) | (with_reducible exact numA_sign _ _) | exact rfl | assumption); (first | (with_reducible exact one2) | (with_reducible exact one3) | (with_reducible exact one4) | (with_reducible exact one5) | (with_reducible exact one23) | (with_reducible exact one105))) | (refine wm_cell (v := ?_) rfl _ _ rfl rfl ?_ ?_ ?_; rotate_left; (first | assumption | exact hF1 _ K | exact hF2 _ K | exact (K.below.cell (by assumption)).trans (by assumption)); (first | (with_reducible exact one2) | (with_reducible exact one3) | (with_reducible exact one4) | (with_reducible exact one5) | (with_reducible exact one23) | (with_reducible exact one105)))) | (go_at_call 39; (with_reducible refine (M2.out _).mono ?_); rintro e w2 ⟨rfl, k1⟩; replace K := K.step k1; clear k1; (try clear ww); revert w2; intro ww K) | (go_at_call 42; (with_reducible refine (M1.out _ _ _ _ K).mono ?_); rintro e w2 ⟨rfl, K2⟩; (try dsimp only); replace K := K2; clear K2; (try clear ww); revert w2; intro ww K))
            exact ⟨⟨i + 1, _, _, by omega, by go_num, rfl, i3.out, rfl, K⟩, by simp [intOf]; omega⟩
        · clear M1 S1 A1 M2 S2 A2 i1 i2 i3
          cases z4 <;> cases s
          all_goals
            go_wp2_with (first | ((with_reducible refine at_load ?_); first | (refine wm_load (cs := ?_) (t := ?_) (n := ?_) K rfl _ _ rfl rfl ?_ ?_ ?_ ?_; rotate_left 2; (repeat (first | exact At.hd | exact hS.get _ | refine At.tl ?_)); rotate_left; (first | (with_reducible exact row25) | (with_reducible exact row27) | (with_reducible exact row29) | (with_reducible exact row61)); (solve | (with_reducible exact wI_size _) | (with_reducible exact numA_size _ _) | (with_reducible exact bitsA_size _) | (with_reducible exact numI_size _) | exact rfl | simp)) | (refine wm_own (cs := ?_) (t := ?_) (v := ?_) K rfl _ _ rfl rfl ?_ ?_ ?_ ?_; rotate_left 2; (repeat (first | exact At.hd | exact hS.get _ | refine At.tl ?_)); rotate_left; (first | (with_reducible exact un_0 _ _) | (with_reducible exact un_1 _ _) | (with_reducible exact wI_hi _) | (with_reducible exact wI_lo _) | (with_reducible exact numA_sign _ _) | exact rfl | assumption); (first | (with_reducible exact one2) | (with_reducible exact one3) | (with_reducible exact one4) | (with_reducible exact one5) | (with_reducible exact one23) | (with_reducible exact one105))) | (refine wm_cell (v := ?_) rfl _ _ rfl rfl ?_ ?_ ?_; rotate_left; (first | assumption | exact hF1 _ K | exact hF2 _ K | exact (K.below.cell (by assumption)).trans (by assumption)); (first | (with_reducible exact one2) | (with_reducible exact one3) | (with_reducible exact one4) | (with_reducible exact one5) | (with_reducible exact one23) | (with_reducible exact one105)))) | (go_at_call 40; (with_reducible refine (D2.out _).mono ?_); rintro e w2 ⟨rfl, k1⟩; replace K := K.step k1; clear k1; (try clear ww); revert w2; intro ww K) | (go_at_call 43; (with_reducible refine (D1.out _ _ _ _ K).mono ?_); rintro e w2 ⟨rfl, K2⟩; (try dsimp only); replace K := K2; clear K2; (try clear ww); revert w2; intro ww K))
            exact ⟨⟨i + 1, _, _, by omega, by go_num, rfl, i4.out, rfl, K⟩, by simp [intOf]; omega⟩
      · have ht1 : decide (i < len1) = false := decide_eq_false hk
        clear D1 M1 S1 D2 M2 S2 i2 i3 i4
        cases z1 <;> cases s
        all_goals
          go_wp2_with (first | ((with_reducible refine at_load ?_); first | (refine wm_load (cs := ?_) (t := ?_) (n := ?_) K rfl _ _ rfl rfl ?_ ?_ ?_ ?_; rotate_left 2; (repeat (first | exact At.hd | exact hS.get _ | refine At.tl ?_)); rotate_left; (first | (with_reducible exact row25) | (with_reducible exact row27) | (with_reducible exact row29) | (with_reducible exact row61)); (solve | (with_reducible exact wI_size _) | (with_reducible exact numA_size _ _) | (with_reducible exact bitsA_size _) | (with_reducible exact numI_size _) | exact rfl | simp)) | (refine wm_own (cs := ?_) (t := ?_) (v := ?_) K rfl _ _ rfl rfl ?_ ?_ ?_ ?_; rotate_left 2; (repeat (first | exact At.hd | exact hS.get _ | refine At.tl ?_)); rotate_left; (first | (with_reducible exact un_0 _ _) | (with_reducible exact un_1 _ _) | (with_reducible exact wI_hi _) | (with_reducible exact wI_lo _) | (with_reducible exact numA_sign _ _) | exact rfl | assumption); (first | (with_reducible exact one2) | (with_reducible exact one3) | (with_reducible exact one4) | (with_reducible exact one5) | (with_reducible exact one23) | (with_reducible exact one105))) | (refine wm_cell (v := ?_) rfl _ _ rfl rfl ?_ ?_ ?_; rotate_left; (first | assumption | exact hF1 _ K | exact hF2 _ K | exact (K.below.cell (by assumption)).trans (by assumption)); (first | (with_reducible exact one2) | (with_reducible exact one3) | (with_reducible exact one4) | (with_reducible exact one5) | (with_reducible exact one23) | (with_reducible exact one105)))) | (go_at_call 32; (with_reducible refine (A2.out _).mono ?_); rintro e w2 ⟨rfl, k1⟩; replace K := K.step k1; clear k1; (try clear ww); revert w2; intro ww K) | (go_at_call 34; (with_reducible refine (A1.out _ _ _ _ K).mono ?_); rintro e w2 ⟨rfl, K2⟩; (try dsimp only); replace K := K2; clear K2; (try clear ww); revert w2; intro ww K))
          exact ⟨⟨i + 1, _, _, by omega, by go_num, rfl, i1.out, rfl, K⟩, by simp [intOf]; omega⟩
    · obtain rfl : len0 = i := by omega
      go_wp2_with (first | (go_at_call 37; (with_reducible refine (Count_fxp (Slot.head _ _ _) K).mono ?_); rintro e w2 ⟨rfl, K2⟩; (try dsimp only); replace K := K2; clear K2; (try clear ww); revert w2; intro ww K) | (go_at_call 38; (with_reducible refine (WK.out _).mono ?_); rintro e w2 ⟨rfl, k1⟩; replace K := K.step k1; clear k1; (try clear ww); revert w2; intro ww K))
      go_ret
      exact ⟨rfl, K.below⟩
end Go.Proofs.Ytpidcilpdoldjaa
