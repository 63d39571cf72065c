/-
  Lemmas and walks of this claim (the texts Rg35 Sa35 Wk35 of the work; what no proof here uses is left out). No claim of their own.
-/
import Derived.Test.YtpbginihkhfdmaaMT21
import Derived.Test.YtpbginihkhfdmaaMT23
set_option linter.all false
set_option linter.unusedSimpArgs false
set_option linter.unusedVariables false
namespace Go.Proofs.Ytpbginihkhfdmaa
open Go.RowKit
attribute [local irreducible] wpHeld wpTree wpList
set_option linter.unusedVariables false
set_option maxRecDepth 100000 in
theorem times35 (a b c : Int) (w : World) (a0 : -4611686018427387904 ≤ a) (a1 : a ≤ 4611686018427387904) (b0 : -4611686018427387904 ≤ b) (b1 : b ≤ 4611686018427387904) (c0 : -9223372036854775808 ≤ c) (c1 : c ≤ 9223372036854775807) :
    Calls Try.prog 25 #[.int .i64 a, .int .i64 b, .int .i64 c] w fun e w' => e = .returned (.int .i64 (divM (a * b) c 2).1) ∧ Below w.heap.size w w' := by
  have K := St.start w
  have hz : (a * b).natAbs < 2 ^ 128 := by
    rw [Int.natAbs_mul]
    have h1 : a.natAbs ≤ 4611686018427387904 := by omega
    have h2 : b.natAbs ≤ 4611686018427387904 := by omega
    exact Nat.lt_of_le_of_lt (Nat.mul_le_mul h1 h2) (by decide)
  have ML := Lib.hid (fun w => Mul_any a b w (by omega) (by omega) (by omega) (by omega))
  have DV := Lib.hid (fun w => RDiv_any (a * b) c 2 w hz c0 c1)
  generalize divM (a * b) c 2 = r at *
  generalize a * b = z at *
  clear hz a0 a1 b0 b1 c0 c1
  go_enter Try.func25, Try.ntmps25
  go_wp2_with (first|(go_at_call 29;(with_reducible refine (ML.out _).mono ?_);rintro e w2 ⟨rfl, k1⟩;replace K := K.step k1;clear k1;(try clear ww);revert w2;intro ww K)|(go_at_call 28;(with_reducible refine (DV.out _).mono ?_);rintro e w2 ⟨rfl, k1⟩;replace K := K.step k1;clear k1;(try clear ww);revert w2;intro ww K))
  go_ret
  exact ⟨rfl, K.below⟩
set_option maxRecDepth 100000 in
set_option maxHeartbeats 4000000 in
theorem RAt35 (A : Option Addr) (n c : Nat) (l : List Pt) (hold t : Int) (w : World) (h : Rd w A (n * 2) (ptsV l)) (hr : Rise l) (t0 : 0 ≤ t) (t1 : t < 4294967296) (h0 : 0 ≤ hold) (h1 : hold ≤ 1048576) :
    Calls Try.prog 14 #[.slice A n c, .int .u32 hold, .int .u32 t] w fun e w' => e = .returned (.tuple #[.int .i64 (at35 l hold t).1, .int .i64 (at35 l hold t).2]) ∧ Below w.heap.size w w' := by
  have K := St.start w
  have hl : l.length = n := by have := h.1; rw [ptsV_len] at this; omega
  have hn16 : n ≤ 16 := by have := hr.len; omega
  have HR := Lib.hid h
  rw [← ref_at (hold := hold) (t := t) hr]
  by_cases c0 : n = 0
  · subst c0
    have e : ref35 l hold t = (0, 7) := by unfold ref35; rw [if_pos (.inl hl)]
    rw [e]
    clear h hr hl e t0 t1 h0 h1
    go_enter Try.func14, Try.ntmps14
    go_wp2_with (first|((with_reducible refine at_load ?_);first|(refine wm_load (cs := ?_) (t := ?_) (n := ?_) K rfl _ _ rfl rfl ?_ ?_ ?_ ?_;rotate_left 2;(repeat (first|exact At.hd|refine At.tl ?_));rotate_left;(with_reducible first|exact row35);(solve|exact rfl|simp))|(refine wm_own (cs := ?_) (t := ?_) (v := ?_) K rfl _ _ rfl rfl ?_ ?_ ?_ ?_;rotate_left 2;(repeat (first|exact At.hd|refine At.tl ?_));rotate_left;(first|exact rfl|assumption);(with_reducible first|exact one2|exact one22))|(refine wm_cell (v := ?_) rfl _ _ rfl rfl ?_ ?_ ?_;rotate_left;(first|assumption|exact (K.below.cell (by assumption)).trans (by assumption));(with_reducible first|exact one2|exact one22))))
    go_ret2
    exact ⟨rfl, K.below⟩
  have t1n : decide ((n : Int) = 0) = false := decide_eq_false (by omega)
  have t1b : ((n : Int) == 0) = false := by simp; omega
  have hn0 : 0 < n := by omega
  have hn0I : (0 : Int) < n := by omega
  obtain ⟨T0, hT0⟩ : ∃ T0, (ptAt l 0).1 = T0 := ⟨_, rfl⟩
  obtain ⟨b, off, rfl, hb, hw, -, -⟩ := RdP HR.out (i := 0) (by omega) hT0 rfl
  have hv1 : w.cell? ⟨b, off, none⟩ = some (.int .u32 T0) := by simpa using hw
  clear hw
  by_cases cB : t < T0
  · have t2 : decide (t < T0) = true := decide_eq_true cB
    have e : ref35 l hold t = (0, 7) := by unfold ref35; rw [if_pos (.inr (by rw [hT0]; exact cB))]
    rw [e]
    clear h hr hl e t0 t1 h0 h1 cB hT0 c0
    go_enter Try.func14, Try.ntmps14
    go_wp2_with (first|((with_reducible refine at_load ?_);first|(refine wm_load (cs := ?_) (t := ?_) (n := ?_) K rfl _ _ rfl rfl ?_ ?_ ?_ ?_;rotate_left 2;(repeat (first|exact At.hd|refine At.tl ?_));rotate_left;(with_reducible first|exact row35);(solve|exact rfl|simp))|(refine wm_own (cs := ?_) (t := ?_) (v := ?_) K rfl _ _ rfl rfl ?_ ?_ ?_ ?_;rotate_left 2;(repeat (first|exact At.hd|refine At.tl ?_));rotate_left;(first|exact rfl|assumption);(with_reducible first|exact one2|exact one22))|(refine wm_cell (v := ?_) rfl _ _ rfl rfl ?_ ?_ ?_;rotate_left;(first|assumption|exact (K.below.cell (by assumption)).trans (by assumption));(with_reducible first|exact one2|exact one22))))
    go_ret2
    exact ⟨rfl, K.below⟩
  have t2 : decide (t < T0) = false := decide_eq_false cB
  have hsp := kof_spec (l := l) (t := t) (by rw [hT0]; omega) l.length (by omega) (Nat.le_refl _) (fun j h1 h2 => by omega)
  have e0 : ref35 l hold t = if kof l t n = n - 1 then (if (ptAt l (kof l t n)).1 + hold < t then (0, 14) else ((ptAt l (kof l t n)).2, 0)) else (mid35 (ptAt l (kof l t n)) (ptAt l (kof l t n + 1)) t, 0) := by
    unfold ref35
    rw [if_neg (by omega), hl]
  rw [hl] at hsp
  obtain ⟨r1, hr1⟩ : ∃ r1, (ref35 l hold t).1 = r1 := ⟨_, rfl⟩
  obtain ⟨r2, hr2⟩ : ∃ r2, (ref35 l hold t).2 = r2 := ⟨_, rfl⟩
  rw [hr1, hr2]
  rw [e0] at hr1 hr2
  clear e0
  have E1 := Lib.hid hr1
  have E2 := Lib.hid hr2
  clear hr1 hr2
  go_enter Try.func14, Try.ntmps14
  go_wp2_with (first|((with_reducible refine at_load ?_);first|(refine wm_load (cs := ?_) (t := ?_) (n := ?_) K rfl _ _ rfl rfl ?_ ?_ ?_ ?_;rotate_left 2;(repeat (first|exact At.hd|refine At.tl ?_));rotate_left;(with_reducible first|exact row35);(solve|exact rfl|simp))|(refine wm_own (cs := ?_) (t := ?_) (v := ?_) K rfl _ _ rfl rfl ?_ ?_ ?_ ?_;rotate_left 2;(repeat (first|exact At.hd|refine At.tl ?_));rotate_left;(first|exact rfl|assumption);(with_reducible first|exact one2|exact one22))|(refine wm_cell (v := ?_) rfl _ _ rfl rfl ?_ ?_ ?_;rotate_left;(first|assumption|exact (K.below.cell (by assumption)).trans (by assumption));(with_reducible first|exact one2|exact one22))))
  go_loopw [8, 9] (fun v i wr => ∃ (k : Nat), k ≤ n ∧ v = .int .i64 (kof l t k) ∧ i = .int .i64 k ∧ St w.heap.size w [] Any wr) (fun _ i _ => n - (intOf i).toNat)
  case atStart => exact ⟨0, Nat.zero_le _, rfl, rfl, K⟩
  case round =>
    clear K
    obtain ⟨i, hi, rfl, rfl, K⟩ := hrel
    by_cases hlt : i < n
    · have ht : decide ((i : Int) < n) = true := decide_eq_true (by omega)
      have htn : decide (i < n) = true := decide_eq_true hlt
      obtain ⟨Ti, hTi⟩ : ∃ Ti, (ptAt l i).1 = Ti := ⟨_, rfl⟩
      obtain ⟨b2, off2, hA2, hb2, hw1, -, -⟩ := RdP HR.out hlt hTi rfl
      cases hA2
      have hk1 : Ti ≤ t → kof l t (i + 1) = i := fun hh => by unfold kof; rw [hTi, if_pos hh]
      have hk2 : ¬ Ti ≤ t → kof l t (i + 1) = kof l t i := fun hh => by rw [kof, hTi, if_neg hh]
      have H1 := Lib.hid hk1
      have H2 := Lib.hid hk2
      clear hk1 hk2 hTi hsp hr h
      by_cases hc : Ti ≤ t
      · have t3 : decide (Ti ≤ t) = true := decide_eq_true hc
        go_wp2_with (first|((with_reducible refine at_load ?_);first|(refine wm_load (cs := ?_) (t := ?_) (n := ?_) K rfl _ _ rfl rfl ?_ ?_ ?_ ?_;rotate_left 2;(repeat (first|exact At.hd|refine At.tl ?_));rotate_left;(with_reducible first|exact row35);(solve|exact rfl|simp))|(refine wm_own (cs := ?_) (t := ?_) (v := ?_) K rfl _ _ rfl rfl ?_ ?_ ?_ ?_;rotate_left 2;(repeat (first|exact At.hd|refine At.tl ?_));rotate_left;(first|exact rfl|assumption);(with_reducible first|exact one2|exact one22))|(refine wm_cell (v := ?_) rfl _ _ rfl rfl ?_ ?_ ?_;rotate_left;(first|assumption|exact (K.below.cell (by assumption)).trans (by assumption));(with_reducible first|exact one2|exact one22))))
        exact ⟨⟨i + 1, by omega, by rw [H1.out hc], by go_num, K⟩, by simp [intOf]; omega⟩
      · have t3 : decide (Ti ≤ t) = false := decide_eq_false hc
        go_wp2_with (first|((with_reducible refine at_load ?_);first|(refine wm_load (cs := ?_) (t := ?_) (n := ?_) K rfl _ _ rfl rfl ?_ ?_ ?_ ?_;rotate_left 2;(repeat (first|exact At.hd|refine At.tl ?_));rotate_left;(with_reducible first|exact row35);(solve|exact rfl|simp))|(refine wm_own (cs := ?_) (t := ?_) (v := ?_) K rfl _ _ rfl rfl ?_ ?_ ?_ ?_;rotate_left 2;(repeat (first|exact At.hd|refine At.tl ?_));rotate_left;(first|exact rfl|assumption);(with_reducible first|exact one2|exact one22))|(refine wm_cell (v := ?_) rfl _ _ rfl rfl ?_ ?_ ?_;rotate_left;(first|assumption|exact (K.below.cell (by assumption)).trans (by assumption));(with_reducible first|exact one2|exact one22))))
        exact ⟨⟨i + 1, by omega, by rw [H2.out hc], by go_num, K⟩, by simp [intOf]; omega⟩
    · obtain rfl : n = i := by omega
      have ht : decide ((n : Int) < n) = false := decide_eq_false (by omega)
      have htn : decide (n < n) = false := decide_eq_false (by omega)
      have e1 := E1.out
      have e2 := E2.out
      clear E1 E2
      generalize kof l t n = k at *
      obtain ⟨k1, k2, k3⟩ := hsp
      obtain ⟨Tk, hTk⟩ : ∃ Tk, (ptAt l k).1 = Tk := ⟨_, rfl⟩
      obtain ⟨Xk, hXk⟩ : ∃ Xk, (ptAt l k).2 = Xk := ⟨_, rfl⟩
      obtain ⟨b2, off2, hA2, hb2, hw1, hw2, -⟩ := RdP HR.out k1 hTk hXk
      cases hA2
      have ok := hr.ok k (by omega)
      have okk := ok
      obtain ⟨p1, p2, p3, p4⟩ := okk
      rw [hTk] at p1 p2
      rw [hXk] at p3 p4
      have hkn : (k : Int) < n := by omega
      have a1h : Hid (IntKind.i64.wrap ((n : Int) - 1) = ((n - 1 : Nat) : Int)) := Lib.hid ((IntWalk.i64_in _ (by omega)).trans (by omega))
      obtain ⟨m, hm⟩ : ∃ m, n - 1 = m := ⟨_, rfl⟩
      rw [hm] at a1h e1 e2
      by_cases hkm : k = m
      · have s1 : decide ((k : Int) = (m : Int)) = true := decide_eq_true (by omega)
        have s1b : ((k : Int) == (m : Int)) = true := by simp; omega
        rw [if_pos hkm, hTk, hXk] at e1 e2
        have a2h : Hid (IntKind.i64.wrap (Tk + hold) = Tk + hold) := Lib.hid (IntWalk.i64_in _ (by omega))
        have a3h : Hid (IntKind.i64.wrap t = t) := Lib.hid (IntWalk.i64_in _ (by omega))
        have a4h : Hid (IntKind.i64.wrap hold = hold) := Lib.hid (IntWalk.i64_in _ (by omega))
        have a5h : Hid (IntKind.i64.wrap Tk = Tk) := Lib.hid (IntWalk.i64_in _ (by omega))
        by_cases hq : Tk + hold < t
        · have s2 : decide (Tk + hold < t) = true := decide_eq_true hq
          rw [if_pos hq] at e1 e2
          subst e1 e2
          clear h hr hl t0 t1 h0 h1 cB hT0 c0 k2 k3 hTk hXk ok p1 p2 p3 p4 hq hm hkm
          have a1 := a1h.out
          have a2 := a2h.out
          have a3 := a3h.out
          have a4 := a4h.out
          have a5 := a5h.out
          go_wp2_with (first|((with_reducible refine at_load ?_);first|(refine wm_load (cs := ?_) (t := ?_) (n := ?_) K rfl _ _ rfl rfl ?_ ?_ ?_ ?_;rotate_left 2;(repeat (first|exact At.hd|refine At.tl ?_));rotate_left;(with_reducible first|exact row35);(solve|exact rfl|simp))|(refine wm_own (cs := ?_) (t := ?_) (v := ?_) K rfl _ _ rfl rfl ?_ ?_ ?_ ?_;rotate_left 2;(repeat (first|exact At.hd|refine At.tl ?_));rotate_left;(first|exact rfl|assumption);(with_reducible first|exact one2|exact one22))|(refine wm_cell (v := ?_) rfl _ _ rfl rfl ?_ ?_ ?_;rotate_left;(first|assumption|exact (K.below.cell (by assumption)).trans (by assumption));(with_reducible first|exact one2|exact one22))))
          go_ret2
          exact ⟨rfl, K.below⟩
        · have s2 : decide (Tk + hold < t) = false := decide_eq_false hq
          rw [if_neg hq] at e1 e2
          subst e1 e2
          clear h hr hl t0 t1 h0 h1 cB hT0 c0 k2 k3 hTk hXk ok p1 p2 p3 p4 hq hm hkm
          have a1 := a1h.out
          have a2 := a2h.out
          have a3 := a3h.out
          have a4 := a4h.out
          have a5 := a5h.out
          go_wp2_with (first|((with_reducible refine at_load ?_);first|(refine wm_load (cs := ?_) (t := ?_) (n := ?_) K rfl _ _ rfl rfl ?_ ?_ ?_ ?_;rotate_left 2;(repeat (first|exact At.hd|refine At.tl ?_));rotate_left;(with_reducible first|exact row35);(solve|exact rfl|simp))|(refine wm_own (cs := ?_) (t := ?_) (v := ?_) K rfl _ _ rfl rfl ?_ ?_ ?_ ?_;rotate_left 2;(repeat (first|exact At.hd|refine At.tl ?_));rotate_left;(first|exact rfl|assumption);(with_reducible first|exact one2|exact one22))|(refine wm_cell (v := ?_) rfl _ _ rfl rfl ?_ ?_ ?_;rotate_left;(first|assumption|exact (K.below.cell (by assumption)).trans (by assumption));(with_reducible first|exact one2|exact one22))))
          go_ret2
          exact ⟨rfl, K.below⟩
      · have s1 : decide ((k : Int) = (m : Int)) = false := decide_eq_false (by omega)
        have s1b : ((k : Int) == (m : Int)) = false := by simp; omega
        rw [if_neg hkm] at e1 e2
        obtain ⟨j, hj⟩ : ∃ j, k + 1 = j := ⟨_, rfl⟩
        rw [hj] at e1 e2
        have hjn0 : j < n := by omega
        obtain ⟨Tj, hTj⟩ : ∃ Tj, (ptAt l j).1 = Tj := ⟨_, rfl⟩
        obtain ⟨Xj, hXj⟩ : ∃ Xj, (ptAt l j).2 = Xj := ⟨_, rfl⟩
        obtain ⟨b3, off3, hA3, -, hw3, hw4, -⟩ := RdP HR.out hjn0 hTj hXj
        cases hA3
        have okj := hr.ok j (by omega)
        have hu := k3 j (by omega) (by omega)
        have hup := hr.up k j (by omega) (by omega)
        have hbd := mid_bd ok okj k2 (Int.le_of_lt hu) hup
        obtain ⟨q1, q2, q3, q4⟩ := okj
        rw [hTj] at q1 q2 hu hup
        rw [hXj] at q3 q4
        rw [hTk] at hup
        have hmid : -1099511627776 ≤ mid35 (ptAt l k) (ptAt l j) t ∧ mid35 (ptAt l k) (ptAt l j) t ≤ 1099511627776 := by
          rw [hXk, hXj] at hbd
          rcases Int.le_total Xk Xj with h | h
          · have := hbd.1 h; omega
          · have := hbd.2 h; omega
        unfold mid35 at hmid e1
        rw [hXk, hXj, hTk, hTj] at hmid
        dsimp only at e1 e2
        rw [hXk, hXj, hTk, hTj] at e1
        obtain ⟨dx, hdx⟩ : ∃ dx, Xj - Xk = dx := ⟨_, rfl⟩
        obtain ⟨ds, hds⟩ : ∃ ds, t - Tk = ds := ⟨_, rfl⟩
        obtain ⟨dt, hdt⟩ : ∃ dt, Tj - Tk = dt := ⟨_, rfl⟩
        rw [hdx, hds, hdt] at hmid e1
        have TM := Lib.hid (fun w => times35 dx ds dt w (by omega) (by omega) (by omega) (by omega) (by omega) (by omega))
        generalize (divM (dx * ds) dt 2).1 = v at *
        subst e1 e2
        have a2h : Hid (IntKind.i64.wrap (Xj - Xk) = dx) := Lib.hid ((IntWalk.i64_in _ (by omega)).trans hdx)
        have a3h : Hid (IntKind.i64.wrap t = t) := Lib.hid (IntWalk.i64_in _ (by omega))
        have a4h : Hid (IntKind.i64.wrap (t - Tk) = ds) := Lib.hid ((IntWalk.i64_in _ (by omega)).trans hds)
        have a5h : Hid (IntKind.i64.wrap Tk = Tk) := Lib.hid (IntWalk.i64_in _ (by omega))
        have a6h : Hid (IntKind.i64.wrap Tj = Tj) := Lib.hid (IntWalk.i64_in _ (by omega))
        have a7h : Hid (IntKind.i64.wrap (Tj - Tk) = dt) := Lib.hid ((IntWalk.i64_in _ (by omega)).trans hdt)
        have a8h : Hid (IntKind.i64.wrap ((k : Int) + 1) = (j : Int)) := Lib.hid ((IntWalk.i64_in _ (by omega)).trans (by omega))
        have a9h : Hid (IntKind.i64.wrap (Xk + v) = Xk + v) := Lib.hid (IntWalk.i64_in _ (by omega))
        have hjn : (j : Int) < n := by omega
        clear h hr hl t0 t1 h0 h1 cB hT0 c0 k2 k3 hTk hXk ok p1 p2 p3 p4 q1 q2 q3 q4 hTj hXj hm hkm hj hu hup hbd hmid hdx hds hdt
        have a1 := a1h.out
        have a2 := a2h.out
        have a3 := a3h.out
        have a4 := a4h.out
        have a5 := a5h.out
        have a6 := a6h.out
        have a7 := a7h.out
        have a8 := a8h.out
        have a9 := a9h.out
        go_wp2_with (first|((with_reducible refine at_load ?_);first|(refine wm_load (cs := ?_) (t := ?_) (n := ?_) K rfl _ _ rfl rfl ?_ ?_ ?_ ?_;rotate_left 2;(repeat (first|exact At.hd|refine At.tl ?_));rotate_left;(with_reducible first|exact row35);(solve|exact rfl|simp))|(refine wm_own (cs := ?_) (t := ?_) (v := ?_) K rfl _ _ rfl rfl ?_ ?_ ?_ ?_;rotate_left 2;(repeat (first|exact At.hd|refine At.tl ?_));rotate_left;(first|exact rfl|assumption);(with_reducible first|exact one2|exact one22))|(refine wm_cell (v := ?_) rfl _ _ rfl rfl ?_ ?_ ?_;rotate_left;(first|assumption|exact (K.below.cell (by assumption)).trans (by assumption));(with_reducible first|exact one2|exact one22))))
        refine wm_held _ [(true, 0), (true, 1), (true, 2), (true, 3), (true, 4), (true, 5), (true, 6), (true, 7), (true, 8), (true, 9), (true, 10), (true, 11), (true, 12), (true, 13), (true, 14), (true, 15), (true, 16), (true, 17), (true, 18), (true, 19), (true, 20), (true, 21), (true, 22), (true, 23), (true, 24), (true, 25), (true, 26), (true, 27), (true, 28), (true, 29), (true, 30), (true, 31), (true, 32), (true, 33), (true, 34), (true, 35), (true, 36), (true, 37), (true, 38), (true, 39), (false, 40), (true, 41), (true, 42), (true, 43)] K sbr (by kernel_rfl) (by kernel_rfl) ?_; (try clear K); (try clear ww); intro ww K; (try simp [go_sem] at K); simp only [pick, List.getElem?_toArray, List.getElem?_cons_succ, List.getElem?_cons_zero]
        repeat (first|((with_reducible refine ht_load ?_);first|(refine hm_load (cs := ?_) (t := ?_) (n := ?_) rfl _ _ rfl rfl ?_ ?_ ?_ ?_;rotate_left 2;(repeat (first|exact At.hd|refine At.tl ?_));rotate_left;(with_reducible first|exact row35);(solve|exact rfl|simp))|(refine hm_own (cs := ?_) (t := ?_) (v := ?_) rfl _ _ rfl rfl ?_ ?_ ?_ ?_;rotate_left 2;(repeat (first|exact At.hd|refine At.tl ?_));rotate_left;(first|exact rfl|assumption);(with_reducible first|exact one2|exact one22))|(refine hm_cell (v := ?_) rfl _ _ rfl rfl (fun ww K => ?_) ?_ ?_;rotate_left;(first|assumption|exact (K.below.cell (by assumption)).trans (by assumption));(with_reducible first|exact one2|exact one22)))|(refine held_take (fun K' hK' => ?_);go_simp;first|(refine hK' _ ?_;clear hK' K')|(apply Exists.intro;refine ⟨?_, hK' _ ?_⟩;(intro _ _;rfl);clear hK' K'))|((with_reducible refine ht_store ?_);first|(refine hm_store (L' := ?_) (cs := ?_) (t := ?_) (n := ?_) K rfl _ _ _ rfl rfl rfl rfl ?_ ?_ ?_ ?_ ?_ ?_;rotate_left 3;(repeat (first|exact Put.hd|(refine Put.tl (L' := ?_) ?_;rotate_left)));rotate_left;(with_reducible first|exact row35);(solve|exact rfl|simp);(solve|exact rfl|simp);(solve|exact rfl|simp [Ones, Value.oneCell']);(try clear K);(try clear ww);intro ww K;(try simp [go_sem] at K);refine ⟨(by apply via sbr;first|exact K|exact K.weak wk1|exact K.weak wk2|exact K.weak wk3|exact K.tail|exact K.tail.weak wk1|exact K.tail.weak wk2|exact K.tail.weak wk3), ?_⟩)|(refine hm_put (L' := ?_) (cs := ?_) (new := ?_) (t := ?_) K rfl _ _ _ rfl rfl rfl rfl ?_ ?_ ?_ ?_ rfl rfl ?_;rotate_left 4;(repeat (first|exact Put.hd|(refine Put.tl (L' := ?_) ?_;rotate_left)));(solve|exact Nat.le_of_ble_eq_true rfl|decide|(simp only [List.size_toArray, nums_length];first|assumption|omega)|(simp only [List.size_toArray, nums_length, List.length_set];first|assumption|omega)|simp|omega|(simp only [List.size_toArray, nums_length];omega)|assumption);(solve|(simp only [List.setIfInBounds_toArray];exact rfl)|exact nums_set _ _ _ _|simp only [List.setIfInBounds_toArray, List.set_cons_zero]|simp only [List.setIfInBounds_toArray, List.set_cons_zero, List.set_cons_succ]|(simp only [List.setIfInBounds_toArray, List.set_cons_zero, List.set_cons_succ];exact rfl)|exact rfl);(with_reducible first|exact one2|exact one22);(try clear K);(try clear ww);intro ww K;(try simp [go_sem] at K);refine ⟨(by apply via sbr;first|exact K|exact K.weak wk1|exact K.weak wk2|exact K.weak wk3|exact K.tail|exact K.tail.weak wk1|exact K.tail.weak wk2|exact K.tail.weak wk3), ?_⟩))|(refine held_do (fun K' hK' => ?_);go_simp;go_at_call 25;(with_reducible refine (TM.out _).mono ?_);rintro e w2 ⟨rfl, k1⟩;replace K := K.step k1;clear k1;(try clear ww);revert w2;intro ww K;(try dsimp only);refine hK' _ _ (by apply via sbr;first|exact K|exact K.weak wk1|exact K.weak wk2|exact K.weak wk3|exact K.tail|exact K.tail.weak wk1|exact K.tail.weak wk2|exact K.tail.weak wk3) ?_;clear hK' K'))
        refine held_nil ?_
        go_wp2_with fail
        go_ret2
        exact ⟨rfl, K.below⟩
set_option maxRecDepth 100000 in
set_option maxHeartbeats 4000000 in
theorem RRate35 (A : Option Addr) (n c : Nat) (l : List Pt) (w : World) (h : Rd w A (n * 2) (ptsV l)) (hr : Rise l) :
    Calls Try.prog 16 #[.slice A n c] w fun e w' => e = .returned (.tuple #[.int .i64 (rate35 l).1, .int .i64 (rate35 l).2]) ∧ Below w.heap.size w w' := by
  have K := St.start w
  have hl : l.length = n := by have := h.1; rw [ptsV_len] at this; omega
  have hn16 : n ≤ 16 := by have := hr.len; omega
  have HR := Lib.hid h
  by_cases h2 : n < 2
  · have t1 : decide ((n : Int) < 2) = true := decide_eq_true (by omega)
    have t1n : decide (n < 2) = true := decide_eq_true h2
    have e : rate35 l = (0, 7) := by unfold rate35; rw [if_pos (by omega)]
    rw [e]
    clear h hr hl h2 e
    go_enter Try.func16, Try.ntmps16
    go_wp2_with (first|((with_reducible refine at_load ?_);first|(refine wm_load (cs := ?_) (t := ?_) (n := ?_) K rfl _ _ rfl rfl ?_ ?_ ?_ ?_;rotate_left 2;(repeat (first|exact At.hd|refine At.tl ?_));rotate_left;(with_reducible first|exact row35);(solve|exact rfl|simp))|(refine wm_own (cs := ?_) (t := ?_) (v := ?_) K rfl _ _ rfl rfl ?_ ?_ ?_ ?_;rotate_left 2;(repeat (first|exact At.hd|refine At.tl ?_));rotate_left;(first|exact rfl|assumption);(with_reducible first|exact one2|exact one22))|(refine wm_cell (v := ?_) rfl _ _ rfl rfl ?_ ?_ ?_;rotate_left;(first|assumption|exact (K.below.cell (by assumption)).trans (by assumption));(with_reducible first|exact one2|exact one22))))
    go_ret2
    exact ⟨rfl, K.below⟩
  have t1 : decide ((n : Int) < 2) = false := decide_eq_false (by omega)
  have t1n : decide (n < 2) = false := decide_eq_false h2
  obtain ⟨i, hi⟩ : ∃ i, n - 1 = i := ⟨_, rfl⟩
  have hn0 : 0 < n := by omega
  have hn0I : (0 : Int) < n := by omega
  have hin : i < n := by omega
  have hinI : (i : Int) < n := by omega
  obtain ⟨T0, hT0⟩ : ∃ T0, (ptAt l 0).1 = T0 := ⟨_, rfl⟩
  obtain ⟨X0, hX0⟩ : ∃ X0, (ptAt l 0).2 = X0 := ⟨_, rfl⟩
  obtain ⟨T1, hT1⟩ : ∃ T1, (ptAt l i).1 = T1 := ⟨_, rfl⟩
  obtain ⟨X1, hX1⟩ : ∃ X1, (ptAt l i).2 = X1 := ⟨_, rfl⟩
  obtain ⟨b, off, rfl, hb, hw1, hw2, -⟩ := RdP HR.out hn0 hT0 hX0
  have hv1 : w.cell? ⟨b, off, none⟩ = some (.int .u32 T0) := by simpa using hw1
  have hv2 : w.cell? ⟨b, off + 1, none⟩ = some (.int .i64 X0) := by simpa using hw2
  obtain ⟨b3, off3, hA3, -, hw3, hw4, -⟩ := RdP HR.out hin hT1 hX1
  cases hA3
  have o0 := hr.ok 0 (by omega)
  have o1 := hr.ok i (by omega)
  have hup := hr.up 0 i (by omega) (by omega)
  rw [hT0, hT1] at hup
  obtain ⟨p1, p2, p3, p4⟩ := o0
  obtain ⟨q1, q2, q3, q4⟩ := o1
  rw [hT0] at p1 p2
  rw [hX0] at p3 p4
  rw [hT1] at q1 q2
  rw [hX1] at q3 q4
  obtain ⟨dx, hdx⟩ : ∃ dx, X1 - X0 = dx := ⟨_, rfl⟩
  obtain ⟨dt, hdt⟩ : ∃ dt, T1 - T0 = dt := ⟨_, rfl⟩
  have TM := Lib.hid (fun (w : World) => times35 dx 1000 dt w (by omega) (by omega) (by omega) (by omega) (by omega) (by omega))
  have e : rate35 l = ((divM (dx * 1000) dt 2).1, 0) := by
    unfold rate35
    have hi2 : l.length - 1 = i := by omega
    rw [if_neg (by omega), hi2, hX1, hX0, hT1, hT0, hdx, hdt]
  rw [e]
  generalize (divM (dx * 1000) dt 2).1 = v at *
  have a1h : Hid (IntKind.i64.wrap ((n : Int) - 1) = (i : Int)) := Lib.hid ((IntWalk.i64_in _ (by omega)).trans (by omega))
  have a2h : Hid (IntKind.i64.wrap (X1 - X0) = dx) := Lib.hid ((IntWalk.i64_in _ (by omega)).trans hdx)
  have a3h : Hid (IntKind.i64.wrap (T1 - T0) = dt) := Lib.hid ((IntWalk.i64_in _ (by omega)).trans hdt)
  have a4h : Hid (IntKind.i64.wrap T0 = T0) := Lib.hid (IntWalk.i64_in _ (by omega))
  have a5h : Hid (IntKind.i64.wrap T1 = T1) := Lib.hid (IntWalk.i64_in _ (by omega))
  clear h hr hl h2 e hdx hdt hT0 hX0 hT1 hX1 hi hup p1 p2 p3 p4 q1 q2 q3 q4 hw1 hw2
  have a1 := a1h.out
  have a2 := a2h.out
  have a3 := a3h.out
  have a4 := a4h.out
  have a5 := a5h.out
  go_enter Try.func16, Try.ntmps16
  go_wp2_with (first|((with_reducible refine at_load ?_);first|(refine wm_load (cs := ?_) (t := ?_) (n := ?_) K rfl _ _ rfl rfl ?_ ?_ ?_ ?_;rotate_left 2;(repeat (first|exact At.hd|refine At.tl ?_));rotate_left;(with_reducible first|exact row35);(solve|exact rfl|simp))|(refine wm_own (cs := ?_) (t := ?_) (v := ?_) K rfl _ _ rfl rfl ?_ ?_ ?_ ?_;rotate_left 2;(repeat (first|exact At.hd|refine At.tl ?_));rotate_left;(first|exact rfl|assumption);(with_reducible first|exact one2|exact one22))|(refine wm_cell (v := ?_) rfl _ _ rfl rfl ?_ ?_ ?_;rotate_left;(first|assumption|exact (K.below.cell (by assumption)).trans (by assumption));(with_reducible first|exact one2|exact one22))))
  refine wm_held _ [(true, 0), (true, 1), (true, 2), (true, 3), (true, 4), (true, 5), (true, 6), (true, 7), (true, 8), (true, 9), (true, 10), (true, 11), (true, 12), (true, 13), (true, 14), (true, 15), (true, 16), (true, 17), (true, 18), (true, 19), (true, 20), (true, 21), (true, 22), (true, 23), (false, 24), (true, 25), (true, 26)] K sbr (by kernel_rfl) (by kernel_rfl) ?_; (try clear K); (try clear ww); intro ww K; (try simp [go_sem] at K); simp only [pick, List.getElem?_toArray, List.getElem?_cons_succ, List.getElem?_cons_zero]
  repeat (first|((with_reducible refine ht_load ?_);first|(refine hm_load (cs := ?_) (t := ?_) (n := ?_) rfl _ _ rfl rfl ?_ ?_ ?_ ?_;rotate_left 2;(repeat (first|exact At.hd|refine At.tl ?_));rotate_left;(with_reducible first|exact row35);(solve|exact rfl|simp))|(refine hm_own (cs := ?_) (t := ?_) (v := ?_) rfl _ _ rfl rfl ?_ ?_ ?_ ?_;rotate_left 2;(repeat (first|exact At.hd|refine At.tl ?_));rotate_left;(first|exact rfl|assumption);(with_reducible first|exact one2|exact one22))|(refine hm_cell (v := ?_) rfl _ _ rfl rfl (fun ww K => ?_) ?_ ?_;rotate_left;(first|assumption|exact (K.below.cell (by assumption)).trans (by assumption));(with_reducible first|exact one2|exact one22)))|(refine held_take (fun K' hK' => ?_);go_simp;first|(refine hK' _ ?_;clear hK' K')|(apply Exists.intro;refine ⟨?_, hK' _ ?_⟩;(intro _ _;rfl);clear hK' K'))|((with_reducible refine ht_store ?_);first|(refine hm_store (L' := ?_) (cs := ?_) (t := ?_) (n := ?_) K rfl _ _ _ rfl rfl rfl rfl ?_ ?_ ?_ ?_ ?_ ?_;rotate_left 3;(repeat (first|exact Put.hd|(refine Put.tl (L' := ?_) ?_;rotate_left)));rotate_left;(with_reducible first|exact row35);(solve|exact rfl|simp);(solve|exact rfl|simp);(solve|exact rfl|simp [Ones, Value.oneCell']);(try clear K);(try clear ww);intro ww K;(try simp [go_sem] at K);refine ⟨(by apply via sbr;first|exact K|exact K.weak wk1|exact K.weak wk2|exact K.weak wk3|exact K.tail|exact K.tail.weak wk1|exact K.tail.weak wk2|exact K.tail.weak wk3), ?_⟩)|(refine hm_put (L' := ?_) (cs := ?_) (new := ?_) (t := ?_) K rfl _ _ _ rfl rfl rfl rfl ?_ ?_ ?_ ?_ rfl rfl ?_;rotate_left 4;(repeat (first|exact Put.hd|(refine Put.tl (L' := ?_) ?_;rotate_left)));(solve|exact Nat.le_of_ble_eq_true rfl|decide|(simp only [List.size_toArray, nums_length];first|assumption|omega)|(simp only [List.size_toArray, nums_length, List.length_set];first|assumption|omega)|simp|omega|(simp only [List.size_toArray, nums_length];omega)|assumption);(solve|(simp only [List.setIfInBounds_toArray];exact rfl)|exact nums_set _ _ _ _|simp only [List.setIfInBounds_toArray, List.set_cons_zero]|simp only [List.setIfInBounds_toArray, List.set_cons_zero, List.set_cons_succ]|(simp only [List.setIfInBounds_toArray, List.set_cons_zero, List.set_cons_succ];exact rfl)|exact rfl);(with_reducible first|exact one2|exact one22);(try clear K);(try clear ww);intro ww K;(try simp [go_sem] at K);refine ⟨(by apply via sbr;first|exact K|exact K.weak wk1|exact K.weak wk2|exact K.weak wk3|exact K.tail|exact K.tail.weak wk1|exact K.tail.weak wk2|exact K.tail.weak wk3), ?_⟩))|(refine held_do (fun K' hK' => ?_);go_simp;go_at_call 25;(with_reducible refine (TM.out _).mono ?_);rintro e w2 ⟨rfl, k1⟩;replace K := K.step k1;clear k1;(try clear ww);revert w2;intro ww K;(try dsimp only);refine hK' _ _ (by apply via sbr;first|exact K|exact K.weak wk1|exact K.weak wk2|exact K.weak wk3|exact K.tail|exact K.tail.weak wk1|exact K.tail.weak wk2|exact K.tail.weak wk3) ?_;clear hK' K'))
  refine held_nil ?_
  go_wp2_with fail
  go_ret2
  exact ⟨rfl, K.below⟩
theorem lo_one (l : List Pt) : loF l 1 = (ptAt l 0).2 := Int.min_self _
theorem hi_one (l : List Pt) : hiF l 1 = (ptAt l 0).2 := Int.max_self _
set_option maxRecDepth 100000 in
set_option maxHeartbeats 4000000 in
theorem RMost35 (A : Option Addr) (n c : Nat) (l : List Pt) (w : World) (h : Rd w A (n * 2) (ptsV l)) (hn16 : n ≤ 16) :
    Calls Try.prog 18 #[.slice A n c] w fun e w' => e = .returned (.tuple (if n = 0 then #[.int .i64 0, .int .i64 0, .int .i64 7] else #[.int .i64 (loF l n), .int .i64 (hiF l n), .int .i64 0])) ∧ Below w.heap.size w w' := by
  have K := St.start w
  have HR := Lib.hid h
  by_cases h2 : n = 0
  · subst h2
    clear h
    go_enter Try.func18, Try.ntmps18
    go_wp2_with (first|((with_reducible refine at_load ?_);first|(refine wm_load (cs := ?_) (t := ?_) (n := ?_) K rfl _ _ rfl rfl ?_ ?_ ?_ ?_;rotate_left 2;(repeat (first|exact At.hd|refine At.tl ?_));rotate_left;(with_reducible first|exact row35);(solve|exact rfl|simp))|(refine wm_own (cs := ?_) (t := ?_) (v := ?_) K rfl _ _ rfl rfl ?_ ?_ ?_ ?_;rotate_left 2;(repeat (first|exact At.hd|refine At.tl ?_));rotate_left;(first|exact rfl|assumption);(with_reducible first|exact one2|exact one22))|(refine wm_cell (v := ?_) rfl _ _ rfl rfl ?_ ?_ ?_;rotate_left;(first|assumption|exact (K.below.cell (by assumption)).trans (by assumption));(with_reducible first|exact one2|exact one22))))
    refine bodyPost_ret (results_tmp3 rfl _) rfl ?_
    exact ⟨rfl, K.below⟩
  rw [if_neg h2]
  have t1 : decide ((n : Int) = 0) = false := decide_eq_false (by omega)
  have t1n : ((n : Int) == 0) = false := by simp; omega
  have hn0 : 0 < n := by omega
  have hn0I : (0 : Int) < n := by omega
  obtain ⟨X0, hX0⟩ : ∃ X0, (ptAt l 0).2 = X0 := ⟨_, rfl⟩
  obtain ⟨b, off, rfl, hb, -, hw2, -⟩ := RdP HR.out hn0 rfl hX0
  have hv2 : w.cell? ⟨b, off + 1, none⟩ = some (.int .i64 X0) := by simpa using hw2
  have e0 : loF l 1 = X0 := by rw [lo_one, hX0]
  have e1 : hiF l 1 = X0 := by rw [hi_one, hX0]
  obtain ⟨r1, hr1⟩ : ∃ r1, loF l n = r1 := ⟨_, rfl⟩
  obtain ⟨r2, hr2⟩ : ∃ r2, hiF l n = r2 := ⟨_, rfl⟩
  rw [hr1, hr2]
  have E1 := Lib.hid hr1
  have E2 := Lib.hid hr2
  clear h hX0 h2 hw2 hr1 hr2
  go_enter Try.func18, Try.ntmps18
  go_wp2_with (first|((with_reducible refine at_load ?_);first|(refine wm_load (cs := ?_) (t := ?_) (n := ?_) K rfl _ _ rfl rfl ?_ ?_ ?_ ?_;rotate_left 2;(repeat (first|exact At.hd|refine At.tl ?_));rotate_left;(with_reducible first|exact row35);(solve|exact rfl|simp))|(refine wm_own (cs := ?_) (t := ?_) (v := ?_) K rfl _ _ rfl rfl ?_ ?_ ?_ ?_;rotate_left 2;(repeat (first|exact At.hd|refine At.tl ?_));rotate_left;(first|exact rfl|assumption);(with_reducible first|exact one2|exact one22))|(refine wm_cell (v := ?_) rfl _ _ rfl rfl ?_ ?_ ?_;rotate_left;(first|assumption|exact (K.below.cell (by assumption)).trans (by assumption));(with_reducible first|exact one2|exact one22))))
  clear t1 t1n
  go_loopw [5, 6, 7] (fun v u i wr => ∃ (k : Nat), 1 ≤ k ∧ k ≤ n ∧ v = .int .i64 (loF l k) ∧ u = .int .i64 (hiF l k) ∧ i = .int .i64 k ∧ St w.heap.size w [] Any wr) (fun _ _ i _ => n - (intOf i).toNat)
  case atStart => exact ⟨1, Nat.le_refl _, hn0, by rw [e0], by rw [e1], rfl, K⟩
  case round =>
    clear K e0 e1
    obtain ⟨i, hi1, hi, rfl, rfl, rfl, K⟩ := hrel
    by_cases hlt : i < n
    · have ht : decide ((i : Int) < n) = true := decide_eq_true (by omega)
      have htn : decide (i < n) = true := decide_eq_true hlt
      obtain ⟨Xi, hXi⟩ : ∃ Xi, (ptAt l i).2 = Xi := ⟨_, rfl⟩
      obtain ⟨b2, off2, hA2, hb2, -, hw1, -⟩ := RdP HR.out hlt rfl hXi
      cases hA2
      have hl1 : loF l (i + 1) = min (loF l i) (ptAt l i).2 := rfl
      have hl2 : hiF l (i + 1) = max (hiF l i) (ptAt l i).2 := rfl
      rw [hXi] at hl1 hl2
      have H1 := Lib.hid hl1
      have H2 := Lib.hid hl2
      clear hl1 hl2 hXi
      generalize loF l i = v1 at *
      generalize hiF l i = v2 at *
      by_cases hc : Xi < v1
      · have t3 : decide (Xi < v1) = true := decide_eq_true hc
        have m1 : min v1 Xi = Xi := by omega
        by_cases hd : v2 < Xi
        · have t4 : decide (v2 < Xi) = true := decide_eq_true hd
          have m2 : max v2 Xi = Xi := by omega
          go_wp2_with (first|((with_reducible refine at_load ?_);first|(refine wm_load (cs := ?_) (t := ?_) (n := ?_) K rfl _ _ rfl rfl ?_ ?_ ?_ ?_;rotate_left 2;(repeat (first|exact At.hd|refine At.tl ?_));rotate_left;(with_reducible first|exact row35);(solve|exact rfl|simp))|(refine wm_own (cs := ?_) (t := ?_) (v := ?_) K rfl _ _ rfl rfl ?_ ?_ ?_ ?_;rotate_left 2;(repeat (first|exact At.hd|refine At.tl ?_));rotate_left;(first|exact rfl|assumption);(with_reducible first|exact one2|exact one22))|(refine wm_cell (v := ?_) rfl _ _ rfl rfl ?_ ?_ ?_;rotate_left;(first|assumption|exact (K.below.cell (by assumption)).trans (by assumption));(with_reducible first|exact one2|exact one22))))
          exact ⟨⟨i + 1, by omega, by omega, by rw [H1.out, m1], by rw [H2.out, m2], by go_num, K⟩, by simp [intOf]; omega⟩
        · have t4 : decide (v2 < Xi) = false := decide_eq_false hd
          have m2 : max v2 Xi = v2 := by omega
          go_wp2_with (first|((with_reducible refine at_load ?_);first|(refine wm_load (cs := ?_) (t := ?_) (n := ?_) K rfl _ _ rfl rfl ?_ ?_ ?_ ?_;rotate_left 2;(repeat (first|exact At.hd|refine At.tl ?_));rotate_left;(with_reducible first|exact row35);(solve|exact rfl|simp))|(refine wm_own (cs := ?_) (t := ?_) (v := ?_) K rfl _ _ rfl rfl ?_ ?_ ?_ ?_;rotate_left 2;(repeat (first|exact At.hd|refine At.tl ?_));rotate_left;(first|exact rfl|assumption);(with_reducible first|exact one2|exact one22))|(refine wm_cell (v := ?_) rfl _ _ rfl rfl ?_ ?_ ?_;rotate_left;(first|assumption|exact (K.below.cell (by assumption)).trans (by assumption));(with_reducible first|exact one2|exact one22))))
          exact ⟨⟨i + 1, by omega, by omega, by rw [H1.out, m1], by rw [H2.out, m2], by go_num, K⟩, by simp [intOf]; omega⟩
      · have t3 : decide (Xi < v1) = false := decide_eq_false hc
        have m1 : min v1 Xi = v1 := by omega
        by_cases hd : v2 < Xi
        · have t4 : decide (v2 < Xi) = true := decide_eq_true hd
          have m2 : max v2 Xi = Xi := by omega
          go_wp2_with (first|((with_reducible refine at_load ?_);first|(refine wm_load (cs := ?_) (t := ?_) (n := ?_) K rfl _ _ rfl rfl ?_ ?_ ?_ ?_;rotate_left 2;(repeat (first|exact At.hd|refine At.tl ?_));rotate_left;(with_reducible first|exact row35);(solve|exact rfl|simp))|(refine wm_own (cs := ?_) (t := ?_) (v := ?_) K rfl _ _ rfl rfl ?_ ?_ ?_ ?_;rotate_left 2;(repeat (first|exact At.hd|refine At.tl ?_));rotate_left;(first|exact rfl|assumption);(with_reducible first|exact one2|exact one22))|(refine wm_cell (v := ?_) rfl _ _ rfl rfl ?_ ?_ ?_;rotate_left;(first|assumption|exact (K.below.cell (by assumption)).trans (by assumption));(with_reducible first|exact one2|exact one22))))
          exact ⟨⟨i + 1, by omega, by omega, by rw [H1.out, m1], by rw [H2.out, m2], by go_num, K⟩, by simp [intOf]; omega⟩
        · have t4 : decide (v2 < Xi) = false := decide_eq_false hd
          have m2 : max v2 Xi = v2 := by omega
          go_wp2_with (first|((with_reducible refine at_load ?_);first|(refine wm_load (cs := ?_) (t := ?_) (n := ?_) K rfl _ _ rfl rfl ?_ ?_ ?_ ?_;rotate_left 2;(repeat (first|exact At.hd|refine At.tl ?_));rotate_left;(with_reducible first|exact row35);(solve|exact rfl|simp))|(refine wm_own (cs := ?_) (t := ?_) (v := ?_) K rfl _ _ rfl rfl ?_ ?_ ?_ ?_;rotate_left 2;(repeat (first|exact At.hd|refine At.tl ?_));rotate_left;(first|exact rfl|assumption);(with_reducible first|exact one2|exact one22))|(refine wm_cell (v := ?_) rfl _ _ rfl rfl ?_ ?_ ?_;rotate_left;(first|assumption|exact (K.below.cell (by assumption)).trans (by assumption));(with_reducible first|exact one2|exact one22))))
          exact ⟨⟨i + 1, by omega, by omega, by rw [H1.out, m1], by rw [H2.out, m2], by go_num, K⟩, by simp [intOf]; omega⟩
    · obtain rfl : n = i := by omega
      have ht : decide ((n : Int) < n) = false := decide_eq_false (by omega)
      have htn : decide (n < n) = false := decide_eq_false (by omega)
      rw [E1.out, E2.out]
      go_wp2_with (first|((with_reducible refine at_load ?_);first|(refine wm_load (cs := ?_) (t := ?_) (n := ?_) K rfl _ _ rfl rfl ?_ ?_ ?_ ?_;rotate_left 2;(repeat (first|exact At.hd|refine At.tl ?_));rotate_left;(with_reducible first|exact row35);(solve|exact rfl|simp))|(refine wm_own (cs := ?_) (t := ?_) (v := ?_) K rfl _ _ rfl rfl ?_ ?_ ?_ ?_;rotate_left 2;(repeat (first|exact At.hd|refine At.tl ?_));rotate_left;(first|exact rfl|assumption);(with_reducible first|exact one2|exact one22))|(refine wm_cell (v := ?_) rfl _ _ rfl rfl ?_ ?_ ?_;rotate_left;(first|assumption|exact (K.below.cell (by assumption)).trans (by assumption));(with_reducible first|exact one2|exact one22))))
      refine bodyPost_ret (results_tmp3 rfl _) rfl ?_
      exact ⟨rfl, K.below⟩
set_option maxRecDepth 100000 in
theorem own35 (T X : Int) (w : World) :
    Calls Try.prog 11 #[.agg #[.int .u32 T, .int .i64 X]] w fun e w' => e = .returned (.agg #[.int .u32 T, .int .i64 X]) ∧ Below w.heap.size w w' := by
  have K := St.start w
  go_enter Try.func11, Try.ntmps11
  go_wp2_with (first|go_big_skip|((with_reducible refine at_load ?_);first|(refine wm_load (cs := ?_) (t := ?_) (n := ?_) K rfl _ _ rfl rfl ?_ ?_ ?_ ?_;rotate_left 2;(repeat (first|exact At.hd|refine At.tl ?_));rotate_left;(with_reducible first|exact row35);(solve|exact rfl|simp))|(refine wm_own (cs := ?_) (t := ?_) (v := ?_) K rfl _ _ rfl rfl ?_ ?_ ?_ ?_;rotate_left 2;(repeat (first|exact At.hd|refine At.tl ?_));rotate_left;(first|exact rfl|assumption);(with_reducible first|exact one2|exact one22))|(refine wm_cell (v := ?_) rfl _ _ rfl rfl ?_ ?_ ?_;rotate_left;(first|assumption|exact (K.below.cell (by assumption)).trans (by assumption));(with_reducible first|exact one2|exact one22)))|((with_reducible refine at_store ?_);(first|(refine wm_store (L' := ?_) (cs := ?_) (t := ?_) (n := ?_) K rfl _ _ _ rfl rfl rfl rfl ?_ ?_ ?_ ?_ ?_ ?_;rotate_left 3;(repeat (first|exact Put.hd|(refine Put.tl (L' := ?_) ?_;rotate_left)));rotate_left;(with_reducible first|exact row35);(solve|exact rfl|simp);(solve|exact rfl|simp);(solve|exact rfl|simp [Ones, Value.oneCell']))|(refine wm_put (L' := ?_) (cs := ?_) (new := ?_) (t := ?_) K rfl _ _ _ rfl rfl rfl rfl ?_ ?_ ?_ ?_ rfl rfl ?_;rotate_left 4;(repeat (first|exact Put.hd|(refine Put.tl (L' := ?_) ?_;rotate_left)));(solve|exact Nat.le_of_ble_eq_true rfl|decide|(simp only [List.size_toArray, nums_length];first|assumption|omega)|(simp only [List.size_toArray, nums_length, List.length_set];first|assumption|omega)|simp|omega|(simp only [List.size_toArray, nums_length];omega)|assumption);(solve|(simp only [List.setIfInBounds_toArray];exact rfl)|exact nums_set _ _ _ _|simp only [List.setIfInBounds_toArray, List.set_cons_zero]|simp only [List.setIfInBounds_toArray, List.set_cons_zero, List.set_cons_succ]|(simp only [List.setIfInBounds_toArray, List.set_cons_zero, List.set_cons_succ];exact rfl)|exact rfl);(with_reducible first|exact one2|exact one22)));(try clear K);(try clear ww);intro ww K;(try simp [go_sem] at K))|((first|((with_reducible refine at_box ?_);refine wm_box K rfl _ _ rfl rfl rfl ?_)|((with_reducible refine at_alloc ?_);refine wm_alloc (v := ?_) (cs := ?_) K rfl _ rfl ?_ ?_ ?_;rotate_left;(with_reducible first|exact zero35);rotate_left;exact rfl));(try clear K);(try clear ww);(first|((fail_if_success (have _h := b1));intro b1 ww K)|((fail_if_success (have _h := b2));intro b2 ww K));(try simp [go_sem, Value.cells] at K)))
  refine bodyPost_ret (K.res rfl _ rfl At.hd (by (with_reducible first | exact row35)) (by (solve | exact rfl | simp))) rfl ?_
  exact ⟨rfl, K.below⟩
end Go.Proofs.Ytpbginihkhfdmaa
namespace Go.Proofs.Ytpbginihkhfdmaa
open Go.RowKit
attribute [local irreducible] wpHeld wpTree wpList
set_option linter.unusedVariables false
def mk35 (ps : List Pt) : Nat → List Pt
  | 0 => []
  | k + 1 => add35 (mk35 ps k) (ptAt ps k)
theorem mk_rise {ps : List Pt} (h : ∀ i, i < ps.length → 0 ≤ (ptAt ps i).1 ∧ (ptAt ps i).1 < 4294967296) : ∀ k, k ≤ ps.length → Rise (mk35 ps k)
  | 0, _ => Rise.nil
  | k + 1, hk => by
    have := mk_rise h k (by omega)
    have h1 := h k (by omega)
    exact this.add h1.1 h1.2
section
variable {B : Nat} {w0 w w' : World} {L : List Blk} {F : World → Prop}
theorem St.radd {A : Option Addr} {n c : Nat} {ps : List Pt} (K : St B w0 L F w) (hF : ∀ w, F w → Rd w A (n * 2) (ptsV ps)) (hn : n ≤ 16) (T X : Int) :
    Calls Try.prog 9 #[.slice A n c, .agg #[.int .u32 T, .int .i64 X]] w fun e w' => ∃ (A' : Option Addr) (n' c' : Nat), e = .returned (.tuple #[.slice A' n' c', .bool (may35 ps (T, X))]) ∧ n' = (add35 ps (T, X)).length ∧ (A' = A ∨ Nw B A') ∧ St B w0 L (fun w => Rd w A' (n' * 2) (ptsV (add35 ps (T, X))) ∧ F w) w' := by
  refine (RAdd35 A n c ps T X w (hF _ K.fact) hn).mono ?_
  rintro e w' ⟨A', n', c', rfl, hl, ⟨h1, hA⟩, hb⟩
  refine ⟨A', n', c', rfl, hl, hA.imp (fun h => h.1) (fun h => h.mono K.size), ?_⟩
  rcases hA with ⟨rfl, e2⟩ | hA
  · have hln := (hF _ K.fact).1
    rw [ptsV_len] at hln
    rw [e2] at hl ⊢
    obtain rfl : n' = n := by omega
    exact (K.step hb).weak fun w h => ⟨hF w h, h⟩
  · exact K.madeRd hb h1 hA
end
end Go.Proofs.Ytpbginihkhfdmaa
namespace Go.Proofs.Ytpbginihkhfdmaa
open Go.RowKit
attribute [local irreducible] wpHeld wpTree wpList
attribute [local go_sem] Oper.semAt_some
set_option linter.unusedVariables false
def ps1 : List Pt := [(1000, 50)]
def ps2 : List Pt := [(1000, 50), (2000, -30)]
theorem fnil35 (b : Nat) (w : World) : (binOp .eql 47 (.func (.func 27) #[] #[.pointer (some ⟨b, 0, none⟩)]) Value.nilFunc).run Try.prog w = .ok (.bool false) w := by kernel_rfl
def sumW (k : Nat) : Int := if k = 0 then 0 else if k = 1 then 1000 else 3001
theorem m0 : may35 [] (1000, 50) = true := by decide
theorem m1 : may35 ps1 (1000, 60) = false := by decide
theorem m2 : may35 ps1 (2000, -30) = true := by decide
theorem y0 : add35 [] (1000, 50) = ps1 := by decide
theorem y1 : add35 ps1 (1000, 60) = ps1 := by decide
theorem y2 : add35 ps1 (2000, -30) = ps2 := by decide
theorem r1 : Rise ps1 := by rw [← y0]; exact Rise.nil.add (by decide) (by decide)
theorem r2 : Rise ps2 := by rw [← y2]; exact r1.add (by decide) (by decide)
theorem v0 : at35 [] 500 5 = (0, 7) := by decide
theorem v1 : at35 ps2 500 1250 = (30, 0) := by decide
theorem v2 : at35 ps2 500 2500 = (-30, 0) := by decide
theorem v3 : at35 ps2 500 2501 = (0, 14) := by decide
theorem v4 : at35 ps2 500 999 = (0, 7) := by decide
theorem v5 : rate35 ps2 = (-80, 0) := by decide
theorem v6 : loF ps2 2 = -30 := by decide
theorem v7 : hiF ps2 2 = 50 := by decide
set_option maxRecDepth 100000 in
set_option maxHeartbeats 4000000 in
theorem works35_any (w : World) :
    Calls Try.prog 7 #[] w fun e w' => e = .returned (.bool true) ∧ Below w.heap.size w w' := by
  have K := St.start w
  refine calls_of_wp_marks Try.func7 rfl ?_; simp only [Try.ntmps7, List.size_toArray, List.length_cons, List.length_nil, Nat.reduceAdd, Nat.reduceSub, Array.replicate_succ, Array.replicate_zero, List.push_toArray, List.append_toArray, List.nil_append, List.cons_append]
  go_wp2_with (first|(go_at_call 8;first|(have zz := New35 K 500 (by decide);(with_reducible refine zz.mono ?_);clear zz;rintro e w2 ⟨g, rfl, K2⟩;(try dsimp only);replace K := K2;clear K2;(try clear ww);revert w2;intro ww K)|((with_reducible refine (New35_no 1048577 _ (by decide)).mono ?_);rintro e w2 ⟨rfl, k1⟩;replace K := K.step k1;clear k1;(try clear ww);revert w2;intro ww K))|(go_at_call 13;have zz := At35 g _ [] _ _ 500 5 ww (K.get .hd).trk Ring.nil Rise.nil (by decide) (by decide) (by decide) (by decide);rw [v0] at zz;(with_reducible refine zz.mono ?_);clear zz;rintro e w2 ⟨rfl, kk1⟩;replace K := K.step kk1;clear kk1;(try clear ww);revert w2;intro ww K))
  have zz := Add35 (Slot.head _ _ _) K Ring.nil 1000 50 (by decide) (by decide) Rise.nil
  rw [m0, y0] at zz
  (with_reducible refine zz.mono ?_)
  clear zz
  rintro e w2 ⟨cs, fr, n, rfl, hR2, K2⟩
  (try dsimp only at K2)
  replace K := K2
  clear K2
  have HG := Lib.hid hR2
  clear hR2
  clear ww
  revert w2
  intro ww K
  go_wp2_with (fail)
  have zz := Add35 (Slot.head _ _ _) K HG.out 1000 60 (by decide) (by decide) r1
  rw [m1, y1] at zz
  (with_reducible refine zz.mono ?_)
  clear zz HG
  rintro e w2 ⟨cs, fr, n, rfl, hR2, K2⟩
  (try dsimp only at K2)
  replace K := K2
  clear K2
  have HG := Lib.hid hR2
  clear hR2
  clear ww
  revert w2
  intro ww K
  go_wp2_with (fail)
  have zz := Add35 (Slot.head _ _ _) K HG.out 2000 (-30) (by decide) (by decide) r1
  rw [m2, y2] at zz
  (with_reducible refine zz.mono ?_)
  clear zz HG
  rintro e w2 ⟨cs, fr, n, rfl, hR2, K2⟩
  (try dsimp only at K2)
  replace K := K2
  clear K2
  have hn2 : n = 2 := by rw [← hR2.ln]; rfl
  subst hn2
  have HG := Lib.hid hR2
  clear hR2
  clear ww
  revert w2
  intro ww K
  have MO := Lib.hid (fun (w : World) (h : Trk w g (trkA cs fr 2 500)) => Most35 g cs ps2 fr 2 500 w h HG.out)
  rw [if_neg (by decide), v6, v7] at MO
  have RT := Lib.hid (fun (w : World) (h : Trk w g (trkA cs fr 2 500)) => Rate35 g cs ps2 fr 2 500 w h HG.out r2)
  rw [v5] at RT
  have A1 := Lib.hid (fun (w : World) (h : Trk w g (trkA cs fr 2 500)) => At35 g cs ps2 fr 2 500 1250 w h HG.out r2 (by decide) (by decide) (by decide) (by decide))
  rw [v1] at A1
  have A2 := Lib.hid (fun (w : World) (h : Trk w g (trkA cs fr 2 500)) => At35 g cs ps2 fr 2 500 2500 w h HG.out r2 (by decide) (by decide) (by decide) (by decide))
  rw [v2] at A2
  have A3 := Lib.hid (fun (w : World) (h : Trk w g (trkA cs fr 2 500)) => At35 g cs ps2 fr 2 500 2501 w h HG.out r2 (by decide) (by decide) (by decide) (by decide))
  rw [v3] at A3
  have A4 := Lib.hid (fun (w : World) (h : Trk w g (trkA cs fr 2 500)) => At35 g cs ps2 fr 2 500 999 w h HG.out r2 (by decide) (by decide) (by decide) (by decide))
  rw [v4] at A4
  have fn := fnil35
  have LN := Lib.hid (fun (w : World) (h : Trk w g (trkA cs fr 2 500)) => Len35 g cs fr 2 500 w h HG.out.len)
  go_wp2_with (first|go_big_skip|((with_reducible refine at_load ?_);first|(refine wm_load (cs := ?_) (t := ?_) (n := ?_) K rfl _ _ rfl rfl ?_ ?_ ?_ ?_;rotate_left 2;(repeat (first|exact At.hd|refine At.tl ?_));rotate_left;(with_reducible first|exact row35);(solve|exact rfl|simp))|(refine wm_own (cs := ?_) (t := ?_) (v := ?_) K rfl _ _ rfl rfl ?_ ?_ ?_ ?_;rotate_left 2;(repeat (first|exact At.hd|refine At.tl ?_));rotate_left;(first|exact rfl|assumption);(with_reducible first|exact one3|exact one22))|(refine wm_cell (v := ?_) rfl _ _ rfl rfl ?_ ?_ ?_;rotate_left;(first|assumption|exact (K.below.cell (by assumption)).trans (by assumption));(with_reducible first|exact one3|exact one22)))|((with_reducible refine at_store ?_);(first|(refine wm_store (L' := ?_) (cs := ?_) (t := ?_) (n := ?_) K rfl _ _ _ rfl rfl rfl rfl ?_ ?_ ?_ ?_ ?_ ?_;rotate_left 3;(repeat (first|exact Put.hd|(refine Put.tl (L' := ?_) ?_;rotate_left)));rotate_left;(with_reducible first|exact row35);(solve|exact rfl|simp);(solve|exact rfl|simp);(solve|exact rfl|simp [Ones, Value.oneCell']))|(refine wm_put (L' := ?_) (cs := ?_) (new := ?_) (t := ?_) K rfl _ _ _ rfl rfl rfl rfl ?_ ?_ ?_ ?_ rfl rfl ?_;rotate_left 4;(repeat (first|exact Put.hd|(refine Put.tl (L' := ?_) ?_;rotate_left)));(solve|exact Nat.le_of_ble_eq_true rfl|decide|(simp only [List.size_toArray, nums_length];first|assumption|omega)|(simp only [List.size_toArray, nums_length, List.length_set];first|assumption|omega)|simp|omega|(simp only [List.size_toArray, nums_length];omega)|assumption);(solve|(simp only [List.setIfInBounds_toArray];exact rfl)|exact nums_set _ _ _ _|simp only [List.setIfInBounds_toArray, List.set_cons_zero]|simp only [List.setIfInBounds_toArray, List.set_cons_zero, List.set_cons_succ]|(simp only [List.setIfInBounds_toArray, List.set_cons_zero, List.set_cons_succ];exact rfl)|exact rfl);(with_reducible first|exact one3|exact one22)));(try clear K);(try clear ww);intro ww K;(try simp [go_sem] at K))|((first|((with_reducible refine at_box ?_);refine wm_box K rfl _ _ rfl rfl rfl ?_)|((with_reducible refine at_alloc ?_);refine wm_alloc (v := ?_) (cs := ?_) K rfl _ rfl ?_ ?_ ?_;rotate_left;(with_reducible first|exact zero3|exact zero35);rotate_left;exact rfl));(try clear K);(try clear ww);((fail_if_success (have _h := b24));intro b24 ww K);(try simp [go_sem, Value.cells] at K))|(go_at_call 13;(with_reducible refine (A1.out _ (K.get .hd).trk).mono ?_);rintro e w2 ⟨rfl, k1⟩;replace K := K.step k1;clear k1;(try clear ww);revert w2;intro ww K)|(go_at_call 13;(with_reducible refine (A2.out _ (K.get .hd).trk).mono ?_);rintro e w2 ⟨rfl, k1⟩;replace K := K.step k1;clear k1;(try clear ww);revert w2;intro ww K)|(go_at_call 13;(with_reducible refine (A3.out _ (K.get .hd).trk).mono ?_);rintro e w2 ⟨rfl, k1⟩;replace K := K.step k1;clear k1;(try clear ww);revert w2;intro ww K)|(go_at_call 13;(with_reducible refine (A4.out _ (K.get .hd).trk).mono ?_);rintro e w2 ⟨rfl, k1⟩;replace K := K.step k1;clear k1;(try clear ww);revert w2;intro ww K)|(go_at_call 15;(with_reducible refine (RT.out _ (K.get .hd).trk).mono ?_);rintro e w2 ⟨rfl, k1⟩;replace K := K.step k1;clear k1;(try clear ww);revert w2;intro ww K)|(go_at_call 17;(with_reducible refine (MO.out _ (K.get .hd).trk).mono ?_);rintro e w2 ⟨rfl, k1⟩;replace K := K.step k1;clear k1;(try clear ww);revert w2;intro ww K)|(go_at_call 19;have zz := All35 K g;(with_reducible refine zz.mono ?_);clear zz;rintro e w2 ⟨bb, rfl, K2⟩;(try dsimp only);replace K := K2;clear K2;(try clear ww);revert w2;intro ww K))
  clear MO RT A1 A2 A3 A4 fn
  refine wm_range (α := Nat × Pt) 9 rfl (enters_of Try.func27 (by kernel_rfl) rfl) (each_gives g bb cs ps2 fr 2 500 HG.out) (fun _ => rfl) (fun k W => St w.heap.size w [(b24, #[.int .i64 (sumW k)], 3), (bb, #[.pointer (some ⟨g, 0, none⟩)], 67), (g, trkA cs fr 2 500, 61)] Any W) (fun _ _ => False) (fun k => stable_st K.size firm_any) (fun _ => stable_false) (fun k W K => ⟨(K.get (.tl (.tl .hd))).trk, (K.get (.tl .hd)).trk⟩) K ?round ?done ?stop
  case round =>
    intro lo0 k x W KK hlo hx K1 hK
    obtain ⟨hk, rfl⟩ := numd_some hx
    have hD := K.size
    generalize ww.heap.size = D at *
    clear K hx
    replace K := K1.keepsFrom D
    clear K1 LN HG
    have hk2 : k < 2 := hk
    rcases (by omega : k = 0 ∨ k = 1) with rfl | rfl
    · have hp : ptAt ps2 0 = ((1000 : Int), (50 : Int)) := rfl
      have hs : sumW 0 = 0 := rfl
      rw [hs] at K
      rw [hp]
      clear hk hk2 hp hs
      simp only [numE, List.zip_toArray, List.zip_cons_cons, List.zip_nil_right, List.size_toArray]
      gi_wp2_with ((refine rin_step (fun c e => by cases e) ?_;go_wp2_with (first|go_big_skip|((with_reducible refine at_load ?_);first|(refine wm_load (cs := ?_) (t := ?_) (n := ?_) K rfl _ _ rfl rfl ?_ ?_ ?_ ?_;rotate_left 2;(repeat (first|exact At.hd|refine At.tl ?_));rotate_left;(with_reducible first|exact row35);(solve|exact rfl|simp))|(refine wm_own (cs := ?_) (t := ?_) (v := ?_) K rfl _ _ rfl rfl ?_ ?_ ?_ ?_;rotate_left 2;(repeat (first|exact At.hd|refine At.tl ?_));rotate_left;(first|exact rfl|assumption);(with_reducible first|exact one3|exact one22))|(refine wm_cell (v := ?_) rfl _ _ rfl rfl ?_ ?_ ?_;rotate_left;(first|assumption|exact (K.below.cell (by assumption)).trans (by assumption));(with_reducible first|exact one3|exact one22)))|((with_reducible refine at_store ?_);(first|(refine wm_store (L' := ?_) (cs := ?_) (t := ?_) (n := ?_) K rfl _ _ _ rfl rfl rfl rfl ?_ ?_ ?_ ?_ ?_ ?_;rotate_left 3;(repeat (first|exact Put.hd|(refine Put.tl (L' := ?_) ?_;rotate_left)));rotate_left;(with_reducible first|exact row35);(solve|exact rfl|simp);(solve|exact rfl|simp);(solve|exact rfl|simp [Ones, Value.oneCell']))|(refine wm_put (L' := ?_) (cs := ?_) (new := ?_) (t := ?_) K rfl _ _ _ rfl rfl rfl rfl ?_ ?_ ?_ ?_ rfl rfl ?_;rotate_left 4;(repeat (first|exact Put.hd|(refine Put.tl (L' := ?_) ?_;rotate_left)));(solve|exact Nat.le_of_ble_eq_true rfl|decide|(simp only [List.size_toArray, nums_length];first|assumption|omega)|(simp only [List.size_toArray, nums_length, List.length_set];first|assumption|omega)|simp|omega|(simp only [List.size_toArray, nums_length];omega)|assumption);(solve|(simp only [List.setIfInBounds_toArray];exact rfl)|exact nums_set _ _ _ _|simp only [List.setIfInBounds_toArray, List.set_cons_zero]|simp only [List.setIfInBounds_toArray, List.set_cons_zero, List.set_cons_succ]|(simp only [List.setIfInBounds_toArray, List.set_cons_zero, List.set_cons_succ];exact rfl)|exact rfl);(with_reducible first|exact one3|exact one22)));(try clear K);(try clear ww);intro ww K;(try simp [go_sem] at K))|((first|((with_reducible refine at_box ?_);refine wm_box K rfl _ _ rfl rfl rfl ?_)|((with_reducible refine at_alloc ?_);refine wm_alloc (v := ?_) (cs := ?_) K rfl _ rfl ?_ ?_ ?_;rotate_left;(with_reducible first|exact zero3|exact zero35);rotate_left;exact rfl));(try clear K);(try clear ww);((fail_if_success (have _h := b26));intro b26 ww K);(try simp [go_sem, Value.cells] at K))));refine qn_out ?_)
      refine hK _ _ K.fact.1 (fun W2 r o o' hr ho hc e => ?_); replace K := K.begun hD firm_any hr ho hc e; clear hr ho hc e hK
      gi_wp2_with ((refine rin_step (fun c e => by cases e) ?_;go_wp2_with (first|go_big_skip|((with_reducible refine at_load ?_);first|(refine wm_load (cs := ?_) (t := ?_) (n := ?_) K rfl _ _ rfl rfl ?_ ?_ ?_ ?_;rotate_left 2;(repeat (first|exact At.hd|refine At.tl ?_));rotate_left;(with_reducible first|exact row35);(solve|exact rfl|simp))|(refine wm_own (cs := ?_) (t := ?_) (v := ?_) K rfl _ _ rfl rfl ?_ ?_ ?_ ?_;rotate_left 2;(repeat (first|exact At.hd|refine At.tl ?_));rotate_left;(first|exact rfl|assumption);(with_reducible first|exact one3|exact one22))|(refine wm_cell (v := ?_) rfl _ _ rfl rfl ?_ ?_ ?_;rotate_left;(first|assumption|exact (K.below.cell (by assumption)).trans (by assumption));(with_reducible first|exact one3|exact one22)))|((with_reducible refine at_store ?_);(first|(refine wm_store (L' := ?_) (cs := ?_) (t := ?_) (n := ?_) K rfl _ _ _ rfl rfl rfl rfl ?_ ?_ ?_ ?_ ?_ ?_;rotate_left 3;(repeat (first|exact Put.hd|(refine Put.tl (L' := ?_) ?_;rotate_left)));rotate_left;(with_reducible first|exact row35);(solve|exact rfl|simp);(solve|exact rfl|simp);(solve|exact rfl|simp [Ones, Value.oneCell']))|(refine wm_put (L' := ?_) (cs := ?_) (new := ?_) (t := ?_) K rfl _ _ _ rfl rfl rfl rfl ?_ ?_ ?_ ?_ rfl rfl ?_;rotate_left 4;(repeat (first|exact Put.hd|(refine Put.tl (L' := ?_) ?_;rotate_left)));(solve|exact Nat.le_of_ble_eq_true rfl|decide|(simp only [List.size_toArray, nums_length];first|assumption|omega)|(simp only [List.size_toArray, nums_length, List.length_set];first|assumption|omega)|simp|omega|(simp only [List.size_toArray, nums_length];omega)|assumption);(solve|(simp only [List.setIfInBounds_toArray];exact rfl)|exact nums_set _ _ _ _|simp only [List.setIfInBounds_toArray, List.set_cons_zero]|simp only [List.setIfInBounds_toArray, List.set_cons_zero, List.set_cons_succ]|(simp only [List.setIfInBounds_toArray, List.set_cons_zero, List.set_cons_succ];exact rfl)|exact rfl);(with_reducible first|exact one3|exact one22)));(try clear K);(try clear ww);intro ww K;(try simp [go_sem] at K))));refine qn_out ?_)
      exact ⟨K.fact.1, K.tail.weak fun _ h => h.2⟩
    · have hp : ptAt ps2 1 = ((2000 : Int), (-30 : Int)) := rfl
      have hs : sumW 1 = 1000 := rfl
      rw [hs] at K
      rw [hp]
      clear hk hk2 hp hs
      simp only [numE, List.zip_toArray, List.zip_cons_cons, List.zip_nil_right, List.size_toArray]
      gi_wp2_with ((refine rin_step (fun c e => by cases e) ?_;go_wp2_with (first|go_big_skip|((with_reducible refine at_load ?_);first|(refine wm_load (cs := ?_) (t := ?_) (n := ?_) K rfl _ _ rfl rfl ?_ ?_ ?_ ?_;rotate_left 2;(repeat (first|exact At.hd|refine At.tl ?_));rotate_left;(with_reducible first|exact row35);(solve|exact rfl|simp))|(refine wm_own (cs := ?_) (t := ?_) (v := ?_) K rfl _ _ rfl rfl ?_ ?_ ?_ ?_;rotate_left 2;(repeat (first|exact At.hd|refine At.tl ?_));rotate_left;(first|exact rfl|assumption);(with_reducible first|exact one3|exact one22))|(refine wm_cell (v := ?_) rfl _ _ rfl rfl ?_ ?_ ?_;rotate_left;(first|assumption|exact (K.below.cell (by assumption)).trans (by assumption));(with_reducible first|exact one3|exact one22)))|((with_reducible refine at_store ?_);(first|(refine wm_store (L' := ?_) (cs := ?_) (t := ?_) (n := ?_) K rfl _ _ _ rfl rfl rfl rfl ?_ ?_ ?_ ?_ ?_ ?_;rotate_left 3;(repeat (first|exact Put.hd|(refine Put.tl (L' := ?_) ?_;rotate_left)));rotate_left;(with_reducible first|exact row35);(solve|exact rfl|simp);(solve|exact rfl|simp);(solve|exact rfl|simp [Ones, Value.oneCell']))|(refine wm_put (L' := ?_) (cs := ?_) (new := ?_) (t := ?_) K rfl _ _ _ rfl rfl rfl rfl ?_ ?_ ?_ ?_ rfl rfl ?_;rotate_left 4;(repeat (first|exact Put.hd|(refine Put.tl (L' := ?_) ?_;rotate_left)));(solve|exact Nat.le_of_ble_eq_true rfl|decide|(simp only [List.size_toArray, nums_length];first|assumption|omega)|(simp only [List.size_toArray, nums_length, List.length_set];first|assumption|omega)|simp|omega|(simp only [List.size_toArray, nums_length];omega)|assumption);(solve|(simp only [List.setIfInBounds_toArray];exact rfl)|exact nums_set _ _ _ _|simp only [List.setIfInBounds_toArray, List.set_cons_zero]|simp only [List.setIfInBounds_toArray, List.set_cons_zero, List.set_cons_succ]|(simp only [List.setIfInBounds_toArray, List.set_cons_zero, List.set_cons_succ];exact rfl)|exact rfl);(with_reducible first|exact one3|exact one22)));(try clear K);(try clear ww);intro ww K;(try simp [go_sem] at K))|((first|((with_reducible refine at_box ?_);refine wm_box K rfl _ _ rfl rfl rfl ?_)|((with_reducible refine at_alloc ?_);refine wm_alloc (v := ?_) (cs := ?_) K rfl _ rfl ?_ ?_ ?_;rotate_left;(with_reducible first|exact zero3|exact zero35);rotate_left;exact rfl));(try clear K);(try clear ww);((fail_if_success (have _h := b26));intro b26 ww K);(try simp [go_sem, Value.cells] at K))));refine qn_out ?_)
      refine hK _ _ K.fact.1 (fun W2 r o o' hr ho hc e => ?_); replace K := K.begun hD firm_any hr ho hc e; clear hr ho hc e hK
      gi_wp2_with ((refine rin_step (fun c e => by cases e) ?_;go_wp2_with (first|go_big_skip|((with_reducible refine at_load ?_);first|(refine wm_load (cs := ?_) (t := ?_) (n := ?_) K rfl _ _ rfl rfl ?_ ?_ ?_ ?_;rotate_left 2;(repeat (first|exact At.hd|refine At.tl ?_));rotate_left;(with_reducible first|exact row35);(solve|exact rfl|simp))|(refine wm_own (cs := ?_) (t := ?_) (v := ?_) K rfl _ _ rfl rfl ?_ ?_ ?_ ?_;rotate_left 2;(repeat (first|exact At.hd|refine At.tl ?_));rotate_left;(first|exact rfl|assumption);(with_reducible first|exact one3|exact one22))|(refine wm_cell (v := ?_) rfl _ _ rfl rfl ?_ ?_ ?_;rotate_left;(first|assumption|exact (K.below.cell (by assumption)).trans (by assumption));(with_reducible first|exact one3|exact one22)))|((with_reducible refine at_store ?_);(first|(refine wm_store (L' := ?_) (cs := ?_) (t := ?_) (n := ?_) K rfl _ _ _ rfl rfl rfl rfl ?_ ?_ ?_ ?_ ?_ ?_;rotate_left 3;(repeat (first|exact Put.hd|(refine Put.tl (L' := ?_) ?_;rotate_left)));rotate_left;(with_reducible first|exact row35);(solve|exact rfl|simp);(solve|exact rfl|simp);(solve|exact rfl|simp [Ones, Value.oneCell']))|(refine wm_put (L' := ?_) (cs := ?_) (new := ?_) (t := ?_) K rfl _ _ _ rfl rfl rfl rfl ?_ ?_ ?_ ?_ rfl rfl ?_;rotate_left 4;(repeat (first|exact Put.hd|(refine Put.tl (L' := ?_) ?_;rotate_left)));(solve|exact Nat.le_of_ble_eq_true rfl|decide|(simp only [List.size_toArray, nums_length];first|assumption|omega)|(simp only [List.size_toArray, nums_length, List.length_set];first|assumption|omega)|simp|omega|(simp only [List.size_toArray, nums_length];omega)|assumption);(solve|(simp only [List.setIfInBounds_toArray];exact rfl)|exact nums_set _ _ _ _|simp only [List.setIfInBounds_toArray, List.set_cons_zero]|simp only [List.setIfInBounds_toArray, List.set_cons_zero, List.set_cons_succ]|(simp only [List.setIfInBounds_toArray, List.set_cons_zero, List.set_cons_succ];exact rfl)|exact rfl);(with_reducible first|exact one3|exact one22)));(try clear K);(try clear ww);intro ww K;(try simp [go_sem] at K))));refine qn_out ?_)
      exact ⟨K.fact.1, K.tail.weak fun _ h => h.2⟩
  case done =>
    intro D W hD K1 hk
    have hB := Nat.le_trans K.size hD
    clear K hD
    have hs : sumW (numd ps2).length = 3001 := rfl
    rw [hs] at K1
    have K := K1.mark hk
    clear K1 hk hs
    revert W
    intro ww K
    go_wp2_with (first|go_big_skip|((with_reducible refine at_load ?_);first|(refine wm_load (cs := ?_) (t := ?_) (n := ?_) K rfl _ _ rfl rfl ?_ ?_ ?_ ?_;rotate_left 2;(repeat (first|exact At.hd|refine At.tl ?_));rotate_left;(with_reducible first|exact row35);(solve|exact rfl|simp))|(refine wm_own (cs := ?_) (t := ?_) (v := ?_) K rfl _ _ rfl rfl ?_ ?_ ?_ ?_;rotate_left 2;(repeat (first|exact At.hd|refine At.tl ?_));rotate_left;(first|exact rfl|assumption);(with_reducible first|exact one3|exact one22))|(refine wm_cell (v := ?_) rfl _ _ rfl rfl ?_ ?_ ?_;rotate_left;(first|assumption|exact (K.below.cell (by assumption)).trans (by assumption));(with_reducible first|exact one3|exact one22)))|((with_reducible refine at_store ?_);(first|(refine wm_store (L' := ?_) (cs := ?_) (t := ?_) (n := ?_) K rfl _ _ _ rfl rfl rfl rfl ?_ ?_ ?_ ?_ ?_ ?_;rotate_left 3;(repeat (first|exact Put.hd|(refine Put.tl (L' := ?_) ?_;rotate_left)));rotate_left;(with_reducible first|exact row35);(solve|exact rfl|simp);(solve|exact rfl|simp);(solve|exact rfl|simp [Ones, Value.oneCell']))|(refine wm_put (L' := ?_) (cs := ?_) (new := ?_) (t := ?_) K rfl _ _ _ rfl rfl rfl rfl ?_ ?_ ?_ ?_ rfl rfl ?_;rotate_left 4;(repeat (first|exact Put.hd|(refine Put.tl (L' := ?_) ?_;rotate_left)));(solve|exact Nat.le_of_ble_eq_true rfl|decide|(simp only [List.size_toArray, nums_length];first|assumption|omega)|(simp only [List.size_toArray, nums_length, List.length_set];first|assumption|omega)|simp|omega|(simp only [List.size_toArray, nums_length];omega)|assumption);(solve|(simp only [List.setIfInBounds_toArray];exact rfl)|exact nums_set _ _ _ _|simp only [List.setIfInBounds_toArray, List.set_cons_zero]|simp only [List.setIfInBounds_toArray, List.set_cons_zero, List.set_cons_succ]|(simp only [List.setIfInBounds_toArray, List.set_cons_zero, List.set_cons_succ];exact rfl)|exact rfl);(with_reducible first|exact one3|exact one22)));(try clear K);(try clear ww);intro ww K;(try simp [go_sem] at K))|(go_at_call 12;(with_reducible refine (LN.out _ (K.get (.tl (.tl .hd))).trk).mono ?_);rintro e w2 ⟨rfl, k1⟩;replace K := K.step k1;clear k1;(try clear ww);revert w2;intro ww K))
    exact retM1 (K.weak fun _ h => h.2) firm_any rfl hB K.fact.1 (fun w' K' => ⟨_, results_tmp rfl _ _ _, rfl, K'.below⟩)
  case stop =>
    intro D c W _ h _
    exact h.elim
end Go.Proofs.Ytpbginihkhfdmaa
