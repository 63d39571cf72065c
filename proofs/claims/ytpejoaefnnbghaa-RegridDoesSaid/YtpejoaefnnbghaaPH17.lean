/-
  Lemmas and walks of this claim (the texts Dv03 Vd03 Wd03 of the work; what no proof here uses is left out). No claim of their own.
-/
import Derived.Test.YtpejoaefnnbghaaPH16
import Derived.Lib.ItoaNum
import Derived.Deep.Cut
import Derived.Deep.CutBlock
import Derived.Test.YtpejoaefnnbghaaPH3
set_option linter.all false
set_option linter.unusedSimpArgs false
set_option linter.unusedVariables false
namespace Go.Proofs.Ytpejoaefnnbghaa
open Go.RowKit
set_option linter.unusedVariables false

theorem lz_any (y s : Nat) (w : World) (h0 : 0 < y) (h : y < 18446744073709551616) (hs : 64 - (Lib.bitLen y : Int) = s) :
    Calls Try.prog 126 #[.int .u64 y] w fun e w' => e = .returned (.int .i64 s) ∧ w = w' := by
  refine Calls.mono (Try.bits_LeadingZeros64 y w (by omega) (by omega)) ?_
  rintro e w' ⟨rfl, hw⟩
  exact ⟨by rw [Int.toNat_natCast, hs], hw.symm⟩
structure Dv (hi lo y s Y y1 y0 u N u1 u0 q0 r0 : Nat) : Prop where
  eY : Y = y * 2 ^ s
  eN : N = lo * 2 ^ s % 18446744073709551616
  eu : u = hi * 2 ^ s + lo / 2 ^ (64 - s)
  ey : Y = y1 * 4294967296 + y0
  en : N = u1 * 4294967296 + u0
  by1 : 2147483648 ≤ y1
  by2 : y1 < 4294967296
  by0 : y0 < 4294967296
  bu1 : u1 < 4294967296
  bu0 : u0 < 4294967296
  bu : u < Y
  bs : s ≤ 63
  eq : q0 = u / y1
  er : r0 = u % y1
theorem wrap_mod (n : Int) : IntKind.u64.wrap n = n % 18446744073709551616 := IntKind.wrap_u64 n
theorem Dv.mid {hi lo y s Y y1 y0 u N u1 u0 q0 r0 qa v q2 r2 : Nat} (D : Dv hi lo y s Y y1 y0 u N u1 u0 q0 r0) (ha : qa = (u * 4294967296 + u1) / (y1 * 4294967296 + y0)) (hv : v = (u * 4294967296 + u1) % Y) (h2 : q2 = v / y1) (h3 : r2 = v % y1) :
    (v < Y ∧ q2 = v / y1 ∧ r2 = v % y1) ∧ IntKind.u64.wrap (IntKind.u64.wrap (IntKind.u64.wrap ((u : Int) * 4294967296) + u1) - IntKind.u64.wrap ((qa : Int) * Y)) = v ∧ (v : Int) / y1 = q2 ∧ IntKind.u64.wrap (q2 : Int) = q2 ∧ IntKind.u64.wrap ((v : Int) - IntKind.u64.wrap ((q2 : Int) * y1)) = r2 := by
  have hY := D.ey
  have b1 := D.by1
  have b2 := D.by2
  have b3 := D.by0
  have hY0 : 0 < Y := by omega
  have hvY : v < Y := by rw [hv]; exact Nat.mod_lt _ hY0
  have hd := Nat.div_add_mod (u * 4294967296 + u1) Y
  have hd2 := Nat.div_add_mod v y1
  have hq : q2 ≤ v := by rw [h2]; exact Nat.div_le_self _ _
  rw [← hY] at ha
  rw [← ha, ← hv] at hd
  rw [← h2, ← h3] at hd2
  refine ⟨⟨hvY, h2, h3⟩, ?_, ?_, ?_, ?_⟩
  · rw [← Int.natCast_mul, Nat.mul_comm qa Y]
    simp only [wrap_mod]
    generalize Y * qa = p at *
    omega
  · rw [h2]; rfl
  · rw [wrap_mod]; omega
  · rw [← Int.natCast_mul, Nat.mul_comm q2 y1]
    simp only [wrap_mod]
    have : r2 < y1 := by rw [h3]; exact Nat.mod_lt _ (by omega)
    generalize y1 * q2 = p at *
    omega
theorem Dv.last {hi lo y s Y y1 y0 u N u1 u0 q0 r0 qa v qb : Nat} (D : Dv hi lo y s Y y1 y0 u N u1 u0 q0 r0) (h : hi < y) (hl : lo < 18446744073709551616) (ha : qa = (u * 4294967296 + u1) / (y1 * 4294967296 + y0)) (hv : v = (u * 4294967296 + u1) % Y) (hb : qb = (v * 4294967296 + u0) / (y1 * 4294967296 + y0)) :
    IntKind.u64.wrap (IntKind.u64.wrap ((qa : Int) * 4294967296) + qb) = ((hi * 18446744073709551616 + lo) / y : Nat) ∧ IntKind.u64.wrap (IntKind.u64.wrap (IntKind.u64.wrap ((v : Int) * 4294967296) + u0) - IntKind.u64.wrap ((qb : Int) * Y)) / 2 ^ s = ((hi * 18446744073709551616 + lo) % y : Nat) := by
  have hY := D.ey
  have b1 := D.by1
  have b2 := D.by2
  have b3 := D.by0
  have hY0 : 0 < Y := by omega
  have hy0 : 0 < y := by omega
  rw [← hY] at ha hb
  have t := two_digits (u * 4294967296 + u1) u0 Y hY0
  rw [← ha, ← hv, ← hb] at t
  have em := moved hi lo s D.bs hl
  rw [← D.eu, ← D.eN, D.en] at em
  have eU : (u * 4294967296 + u1) * 4294967296 + u0 = (hi * 18446744073709551616 + lo) * 2 ^ s := by rw [em]; omega
  have sd := shift_div (hi * 18446744073709551616 + lo) y s
  rw [← D.eY, ← eU] at sd
  obtain ⟨t1, t2⟩ := t
  rw [sd.1] at t1
  have bq : (hi * 18446744073709551616 + lo) / y < 18446744073709551616 := by
    rw [Nat.div_lt_iff_lt_mul hy0, Nat.mul_comm]
    have : (hi + 1) * 18446744073709551616 ≤ y * 18446744073709551616 := Nat.mul_le_mul_right _ h
    omega
  have hd := Nat.div_add_mod (v * 4294967296 + u0) Y
  rw [← hb, t2] at hd
  have hr : ((u * 4294967296 + u1) * 4294967296 + u0) % Y < Y := Nat.mod_lt _ hY0
  refine ⟨?_, ?_⟩
  · rw [← t1, wrap_mod, wrap_mod]
    obtain ⟨k, hk⟩ : ∃ k, k = (hi * 18446744073709551616 + lo) / y := ⟨_, rfl⟩
    rw [← hk] at t1 bq
    omega
  · rw [← sd.2]
    obtain ⟨R, hR⟩ : ∃ R, R = ((u * 4294967296 + u1) * 4294967296 + u0) % Y := ⟨_, rfl⟩
    rw [← hR] at hd hr ⊢
    have e : IntKind.u64.wrap (IntKind.u64.wrap (IntKind.u64.wrap ((v : Int) * 4294967296) + u0) - IntKind.u64.wrap ((qb : Int) * Y)) = (R : Int) := by
      rw [← Int.natCast_mul, Nat.mul_comm qb Y]
      simp only [wrap_mod]
      generalize Y * qb = p at *
      omega
    rw [e]; simp
set_option maxHeartbeats 4000000 in
set_option maxRecDepth 100000 in
theorem Div64_walk (hi lo y s Y y1 y0 u N u1 u0 q0 r0 : Nat) (w : World) (D : Dv hi lo y s Y y1 y0 u N u1 u0 q0 r0) (h0 : hi ≠ 0) (hl : lo < 18446744073709551616) (h : hi < y) (hy : y < 18446744073709551616) (hs : 64 - (Lib.bitLen y : Int) = s)
    (eY : IntKind.u64.wrap ((y : Int) * 2 ^ s) = Y) (e1 : (Y : Int) / 4294967296 = y1) (e2 : bits .and .u64 (Y : Int) 4294967295 = y0)
    (e3 : bits .or .u64 (IntKind.u64.wrap ((hi : Int) * 2 ^ s)) ((lo : Int) / 2 ^ (64 - s)) = u) (e4 : IntKind.u64.wrap ((lo : Int) * 2 ^ s) = N) (e5 : (N : Int) / 4294967296 = u1) (e6 : bits .and .u64 (N : Int) 4294967295 = u0)
    (e7 : (u : Int) / y1 = q0) (e9 : IntKind.u64.wrap (q0 : Int) = q0) (e8 : IntKind.u64.wrap ((u : Int) - IntKind.u64.wrap ((q0 : Int) * y1)) = r0) :
    Calls Try.prog 119 #[.int .u64 hi, .int .u64 lo, .int .u64 y] w fun e w' => e = .returned (.tuple #[.int .u64 ((hi * 18446744073709551616 + lo) / y : Nat), .int .u64 ((hi * 18446744073709551616 + lo) % y : Nat)]) ∧ w = w' := by
  have hy0 : ((y : Int) == 0) = false := by simp; omega
  have hyl : decide (y ≤ hi) = false := decide_eq_false (by omega)
  have hh : ((hi : Int) == 0) = false := by simp; omega
  have q1 : ¬ y1 = 0 := by have := D.by1; omega
  have HD := Lib.hid D
  have hlz := fun w => lz_any y s w (by omega) hy hs
  have hbs := D.bs
  clear D
  go_enter Try.func119, Try.ntmps119
  go_upto_block 0 with (go_at_call 126; (with_reducible refine (hlz _).mono ?_); rintro e w2 ⟨rfl, rfl⟩; (try dsimp only))
  go_cut [15] from 67 to 85 (fun q wc => ∃ qn : Nat, q = .int .u64 qn ∧ Hid (qn = (u * 4294967296 + u1) / (y1 * 4294967296 + y0)) ∧ w = wc)
  case first =>
    go_wp2_with fail
    go_loop [15, 16] (fun q r => ∃ qn rn : Nat, q = .int .u64 qn ∧ r = .int .u64 rn ∧ Hid (Gs y1 y0 u u1 qn rn)) (fun q _ => (intOf q).toNat)
    case atStart => exact ⟨q0, r0, rfl, rfl, Lib.hid (by rw [HD.out.eq, HD.out.er]; exact Gs.start HD.out.by1 HD.out.by2 HD.out.by0 (by have := HD.out.bu; have := HD.out.ey; omega) HD.out.bu1)⟩
    case round =>
      obtain ⟨qn, rn, rfl, rfl, G⟩ := hrel
      clear eY e1 e2 e3 e4 e5 e6 e7 e9 e8 hlz hy0 hyl hh q1
      have by1 := HD.out.by1
      have by2 := HD.out.by2
      have bu1 := HD.out.bu1
      have brn := G.out.rest
      have bqn := G.out.hi
      have bq0 : 0 ≤ (qn : Int) - 1 ∨ qn = 0 := by omega
      obtain ⟨P, hP⟩ : ∃ P, P = qn * y0 := ⟨_, rfl⟩
      have bP : P < 18446744073709551616 := by rw [hP]; exact G.out.prod HD.out.by0
      have eP : IntKind.u64.wrap ((qn : Int) * (y0 : Int)) = (P : Int) := by
        rw [← Int.natCast_mul, ← hP, IntKind.wrap_u64]; omega
      by_cases g : 4294967296 ≤ qn ∨ 4294967296 * rn + u1 < P
      · have q1 : 1 ≤ qn := by
          have := G.out.less (by omega) (by have := HD.out.bu; have := HD.out.ey; omega) bu1 (by rw [← hP]; exact g)
          exact Nat.lt_of_le_of_lt (Nat.zero_le _) this
        have HB : 4294967296 ≤ rn + y1 → Hid (qn - 1 = (u * 4294967296 + u1) / (y1 * 4294967296 + y0)) := fun hb => Lib.hid (G.out.brk (by omega) HD.out.by0 (by have := HD.out.bu; have := HD.out.ey; omega) bu1 (by rw [← hP]; exact g) hb).symm
        have HN : rn + y1 < 4294967296 → Hid (Gs y1 y0 u u1 (qn - 1) (rn + y1)) := fun hb => Lib.hid (G.out.next (by omega) (by have := HD.out.bu; have := HD.out.ey; omega) bu1 (by rw [← hP]; exact g) hb)
        clear hP
        obtain ⟨p, rfl⟩ : ∃ p, qn = p + 1 := ⟨qn - 1, by omega⟩
        rw [show p + 1 - 1 = p by omega] at HB HN
        have eP' : IntKind.u64.wrap (((p : Int) + 1) * (y0 : Int)) = (P : Int) := eP
        clear eP
        have er : Hid (((rn : Int) + y1) = ((rn + y1 : Nat) : Int)) := Lib.hid (by omega)
        have T1 : (4294967296 ≤ (p : Int) + 1 → decide (4294967296 ≤ (p : Int) + 1) = true) ∧ (¬ 4294967296 ≤ (p : Int) + 1 → decide (4294967296 ≤ (p : Int) + 1) = false) := ⟨decide_eq_true, decide_eq_false⟩
        have HT1 := Lib.hid T1
        have T2 : Hid (¬ 4294967296 ≤ p + 1 → decide (4294967296 * (rn : Int) + u1 < P) = true) := Lib.hid (fun h => decide_eq_true (by omega))
        clear T1
        by_cases hb : 4294967296 ≤ rn + y1
        · replace HB := HB hb
          have T3 : decide (4294967296 ≤ (rn : Int) + y1) = true := decide_eq_true (by omega)
          clear HN G
          by_cases g1 : 4294967296 ≤ p + 1
          · have q2 := HT1.out.1 (by omega)
            clear g hb HT1 T2
            go_wp2
            go_meet
            exact ⟨p, rfl, HB, rfl⟩
          · have q2 := HT1.out.2 (by omega)
            have q3 := T2.out g1
            clear g hb HT1 T2 g1
            go_wp2
            go_meet
            exact ⟨p, rfl, HB, rfl⟩
        · replace HN := HN (by omega)
          have T3 : decide (4294967296 ≤ (rn : Int) + y1) = false := decide_eq_false (by omega)
          clear HB G
          by_cases g1 : 4294967296 ≤ p + 1
          · have q2 := HT1.out.1 (by omega)
            clear g hb HT1 T2
            go_wp2
            exact ⟨⟨p, rn + y1, rfl, by go_num, HN⟩, by simp [intOf]⟩
          · have q2 := HT1.out.2 (by omega)
            have q3 := T2.out g1
            clear g hb HT1 T2 g1
            go_wp2
            exact ⟨⟨p, rn + y1, rfl, by go_num, HN⟩, by simp [intOf]⟩
      · have HF : Hid (qn = (u * 4294967296 + u1) / (y1 * 4294967296 + y0)) := Lib.hid (G.out.fit (by omega) (by rw [← hP]; omega)).symm
        have q2 : decide (4294967296 ≤ (qn : Int)) = false := decide_eq_false (by omega)
        have q3 : decide (4294967296 * (rn : Int) + u1 < P) = false := decide_eq_false (by omega)
        clear g G hP
        go_wp2
        go_meet
        exact ⟨qn, rfl, HF, rfl⟩
  case rest =>
    obtain ⟨qa, rfl, hqa, rfl⟩ := hcut
    clear eY e1 e2 e3 e4 e5 e6 e7 e9 e8
    obtain ⟨v, hv⟩ : ∃ v, v = (u * 4294967296 + u1) % Y := ⟨_, rfl⟩
    obtain ⟨q2, hq2⟩ : ∃ q2, q2 = v / y1 := ⟨_, rfl⟩
    obtain ⟨r2, hr2⟩ : ∃ r2, r2 = v % y1 := ⟨_, rfl⟩
    have F := Dv.mid HD.out hqa.out hv hq2 hr2
    have HV := Lib.hid F.1
    have HVv := Lib.hid hv
    obtain ⟨f1, f2, f3, f4⟩ := F.2
    clear hv hq2 hr2 F
    go_upto_block 2 with fail
    go_cut [18] from 102 to 120 (fun q wc => ∃ qn : Nat, q = .int .u64 qn ∧ Hid (qn = (v * 4294967296 + u0) / (y1 * 4294967296 + y0)) ∧ w = wc)
    case first =>
      go_wp2_with fail
      go_loop [18, 16] (fun q r => ∃ qn rn : Nat, q = .int .u64 qn ∧ r = .int .u64 rn ∧ Hid (Gs y1 y0 v u0 qn rn)) (fun q _ => (intOf q).toNat)
      case atStart => exact ⟨q2, r2, rfl, rfl, Lib.hid (by rw [HV.out.2.1, HV.out.2.2]; exact Gs.start HD.out.by1 HD.out.by2 HD.out.by0 (by have := HV.out.1; have := HD.out.ey; omega) HD.out.bu0)⟩
      case round =>
        obtain ⟨qn, rn, rfl, rfl, G⟩ := hrel
        clear hlz hy0 hyl hh q1 f1 f2 f3 f4
        have by1 := HD.out.by1
        have by2 := HD.out.by2
        have bu1 := HD.out.bu0
        have brn := G.out.rest
        have bqn := G.out.hi
        have bq0 : 0 ≤ (qn : Int) - 1 ∨ qn = 0 := by omega
        obtain ⟨P, hP⟩ : ∃ P, P = qn * y0 := ⟨_, rfl⟩
        have bP : P < 18446744073709551616 := by rw [hP]; exact G.out.prod HD.out.by0
        have eP : IntKind.u64.wrap ((qn : Int) * (y0 : Int)) = (P : Int) := by
          rw [← Int.natCast_mul, ← hP, IntKind.wrap_u64]; omega
        by_cases g : 4294967296 ≤ qn ∨ 4294967296 * rn + u0 < P
        · have q1 : 1 ≤ qn := by
            have := G.out.less (by omega) (by have := HV.out.1; have := HD.out.ey; omega) bu1 (by rw [← hP]; exact g)
            exact Nat.lt_of_le_of_lt (Nat.zero_le _) this
          have HB : 4294967296 ≤ rn + y1 → Hid (qn - 1 = (v * 4294967296 + u0) / (y1 * 4294967296 + y0)) := fun hb => Lib.hid (G.out.brk (by omega) HD.out.by0 (by have := HV.out.1; have := HD.out.ey; omega) bu1 (by rw [← hP]; exact g) hb).symm
          have HN : rn + y1 < 4294967296 → Hid (Gs y1 y0 v u0 (qn - 1) (rn + y1)) := fun hb => Lib.hid (G.out.next (by omega) (by have := HV.out.1; have := HD.out.ey; omega) bu1 (by rw [← hP]; exact g) hb)
          clear hP
          obtain ⟨p, rfl⟩ : ∃ p, qn = p + 1 := ⟨qn - 1, by omega⟩
          rw [show p + 1 - 1 = p by omega] at HB HN
          have eP' : IntKind.u64.wrap (((p : Int) + 1) * (y0 : Int)) = (P : Int) := eP
          clear eP
          have er : Hid (((rn : Int) + y1) = ((rn + y1 : Nat) : Int)) := Lib.hid (by omega)
          have T1 : (4294967296 ≤ (p : Int) + 1 → decide (4294967296 ≤ (p : Int) + 1) = true) ∧ (¬ 4294967296 ≤ (p : Int) + 1 → decide (4294967296 ≤ (p : Int) + 1) = false) := ⟨decide_eq_true, decide_eq_false⟩
          have HT1 := Lib.hid T1
          have T2 : Hid (¬ 4294967296 ≤ p + 1 → decide (4294967296 * (rn : Int) + u0 < P) = true) := Lib.hid (fun h => decide_eq_true (by omega))
          clear T1
          by_cases hb : 4294967296 ≤ rn + y1
          · replace HB := HB hb
            have T3 : decide (4294967296 ≤ (rn : Int) + y1) = true := decide_eq_true (by omega)
            clear HN G
            by_cases g1 : 4294967296 ≤ p + 1
            · have q2' := HT1.out.1 (by omega)
              clear g hb HT1 T2
              go_wp2
              go_meet
              exact ⟨p, rfl, HB, rfl⟩
            · have q2' := HT1.out.2 (by omega)
              have q3 := T2.out g1
              clear g hb HT1 T2 g1
              go_wp2
              go_meet
              exact ⟨p, rfl, HB, rfl⟩
          · replace HN := HN (by omega)
            have T3 : decide (4294967296 ≤ (rn : Int) + y1) = false := decide_eq_false (by omega)
            clear HB G
            by_cases g1 : 4294967296 ≤ p + 1
            · have q2' := HT1.out.1 (by omega)
              clear g hb HT1 T2
              go_wp2
              exact ⟨⟨p, rn + y1, rfl, by go_num, HN⟩, by simp [intOf]⟩
            · have q2' := HT1.out.2 (by omega)
              have q3 := T2.out g1
              clear g hb HT1 T2 g1
              go_wp2
              exact ⟨⟨p, rn + y1, rfl, by go_num, HN⟩, by simp [intOf]⟩
        · have HF : Hid (qn = (v * 4294967296 + u0) / (y1 * 4294967296 + y0)) := Lib.hid (G.out.fit (by omega) (by rw [← hP]; omega)).symm
          have q2' : decide (4294967296 ≤ (qn : Int)) = false := decide_eq_false (by omega)
          have q3 : decide (4294967296 * (rn : Int) + u0 < P) = false := decide_eq_false (by omega)
          clear g G hP
          go_wp2
          go_meet
          exact ⟨qn, rfl, HF, rfl⟩
    case rest =>
      obtain ⟨qb, rfl, hqb, rfl⟩ := hcut
      have E := Lib.hid (Dv.last HD.out h hl hqa.out HVv.out hqb.out)
      clear f1 f2 f3 f4 hlz
      go_wp2
      go_ret2
      exact ⟨ret_tup2 (v_int E.out.1) (v_int E.out.2), rfl⟩
theorem and_low (n : Nat) (h : n < 18446744073709551616) : bits .and .u64 (n : Int) 4294967295 = ((n % 4294967296 : Nat) : Int) := by
  have := bits_and_u64_nat n 4294967295 h (by omega)
  rw [show (4294967295 : Nat) = 2 ^ 32 - 1 from rfl, Nat.and_two_pow_sub_one_eq_mod] at this
  exact this
theorem Div64_low (lo y : Nat) (w : World) (h0 : 0 < y) (hl : lo < 18446744073709551616) (hy : y < 18446744073709551616) :
    Calls Try.prog 119 #[.int .u64 0, .int .u64 lo, .int .u64 y] w fun e w' => e = .returned (.tuple #[.int .u64 (lo / y : Nat), .int .u64 (lo % y : Nat)]) ∧ Below w.heap.size w w' := by
  have hy0 : ((y : Int) == 0) = false := by simp; omega
  have hy1 : ¬ y = 0 := by omega
  have hyl : decide ((y : Int) ≤ 0) = false := decide_eq_false (by omega)
  have E : Hid (IntKind.u64.wrap ((lo : Int) / y) = (lo / y : Nat) ∧ ((lo : Int) % y) = (lo % y : Nat)) := Lib.hid (by
    have a1 : lo / y ≤ lo := Nat.div_le_self _ _
    rw [← Int.natCast_ediv, ← Int.natCast_emod, wrap_mod]
    obtain ⟨p, hp⟩ : ∃ p, p = lo / y := ⟨_, rfl⟩
    rw [← hp] at a1 ⊢
    exact ⟨by omega, rfl⟩)
  have HB := Below.refl w.heap.size w
  go_enter Try.func119, Try.ntmps119
  go_wp2
  go_region
  go_wp2
  go_ret2
  exact ⟨ret_tup2 (v_int E.out.1) (v_int E.out.2), by first | exact HB.drew | exact HB⟩
theorem Div64_any (hi lo y : Nat) (w : World) (h : hi < y) (hl : lo < 18446744073709551616) (hy : y < 18446744073709551616) :
    Calls Try.prog 119 #[.int .u64 hi, .int .u64 lo, .int .u64 y] w fun e w' => e = .returned (.tuple #[.int .u64 ((hi * 18446744073709551616 + lo) / y : Nat), .int .u64 ((hi * 18446744073709551616 + lo) % y : Nat)]) ∧ Below w.heap.size w w' := by
  by_cases h0 : hi = 0
  · subst h0
    have := Div64_low lo y w (by omega) hl hy
    simpa using this
  · have hyz : y ≠ 0 := by omega
    obtain ⟨b1, b2, b3⟩ := Lib.bitLenAux_bounds 64 y (by omega) hyz
    have b4 := Lib.bitLen_le y 64 (by omega) (by omega)
    obtain ⟨s, hs⟩ : ∃ s, s = 64 - Lib.bitLen y := ⟨_, rfl⟩
    change 1 ≤ Lib.bitLen y at b1
    change 2 ^ (Lib.bitLen y - 1) ≤ y at b2
    change y < 2 ^ Lib.bitLen y at b3
    have hs1 : s ≤ 63 := by omega
    obtain ⟨y1, y2⟩ := lz_up (y := y) (s := s) (by omega) (by rw [show 64 - s = Lib.bitLen y by omega]; exact b3) (by rw [show 63 - s = Lib.bitLen y - 1 by omega]; exact b2) hs1
    obtain ⟨Y, hY⟩ : ∃ Y, Y = y * 2 ^ s := ⟨_, rfl⟩
    obtain ⟨N, hN⟩ : ∃ N, N = lo * 2 ^ s % 18446744073709551616 := ⟨_, rfl⟩
    obtain ⟨u, hu⟩ : ∃ u, u = hi * 2 ^ s + lo / 2 ^ (64 - s) := ⟨_, rfl⟩
    rw [← hY] at y1 y2
    have bu : u < Y := by rw [hu, hY]; exact up_lt h hl hs1
    have bN : N < 18446744073709551616 := by rw [hN]; exact Nat.mod_lt _ (by omega)
    have bp := part_lt hl hs1
    have D : Dv hi lo y s Y (Y / 4294967296) (Y % 4294967296) u N (N / 4294967296) (N % 4294967296) (u / (Y / 4294967296)) (u % (Y / 4294967296)) :=
      ⟨hY, hN, hu, by omega, by omega, by omega, by omega, by omega, by omega, by omega, bu, hs1, rfl, rfl⟩
    have p1 : ((y : Int) * 2 ^ s) = (Y : Int) := by rw [hY, Int.natCast_mul, Int.natCast_pow]; rfl
    have p2 : ((hi : Int) * 2 ^ s) = ((hi * 2 ^ s : Nat) : Int) := by rw [Int.natCast_mul, Int.natCast_pow]; rfl
    have p3 : ((lo : Int) * 2 ^ s) = ((lo * 2 ^ s : Nat) : Int) := by rw [Int.natCast_mul, Int.natCast_pow]; rfl
    have p4 : ((lo : Int) / 2 ^ (64 - s)) = ((lo / 2 ^ (64 - s) : Nat) : Int) := by rw [Int.natCast_ediv, Int.natCast_pow]; rfl
    have hq : u / (Y / 4294967296) ≤ u := Nat.div_le_self _ _
    have bh : hi * 2 ^ s < 18446744073709551616 := by
      have := Nat.le_add_right (hi * 2 ^ s) (lo / 2 ^ (64 - s)); omega
    refine (Div64_walk hi lo y s Y _ _ u N _ _ _ _ w D h0 hl h hy (by omega) ?_ ?_ (and_low Y y2) ?_ ?_ ?_ (and_low N bN) ?_ ?_ ?_).mono ?_
    · rw [p1, wrap_mod]; omega
    · omega
    · rw [p2, p4, wrap_mod]
      have e : (((hi * 2 ^ s : Nat) : Int) % 18446744073709551616) = ((hi * 2 ^ s : Nat) : Int) := by omega
      rw [e, bits_or_u64_nat _ _ bh (by omega), or_add bp, hu]
    · rw [p3, wrap_mod, hN]; omega
    · omega
    · rw [Int.natCast_ediv, Int.natCast_ediv]; rfl
    · rw [wrap_mod]
      obtain ⟨q, hq'⟩ : ∃ q, q = u / (Y / 4294967296) := ⟨_, rfl⟩
      rw [← hq'] at hq ⊢; omega
    · have hd := Nat.div_add_mod u (Y / 4294967296)
      have hm := Nat.mod_lt u (show 0 < Y / 4294967296 by omega)
      rw [← Int.natCast_mul, Nat.mul_comm, wrap_mod, wrap_mod]
      obtain ⟨q, hq'⟩ : ∃ q, q = Y / 4294967296 * (u / (Y / 4294967296)) := ⟨_, rfl⟩
      obtain ⟨r, hr⟩ : ∃ r, r = u % (Y / 4294967296) := ⟨_, rfl⟩
      rw [← hq', ← hr] at hd
      rw [← hr] at hm
      rw [← hq', ← hr]; omega
    · rintro e w' ⟨rfl, rfl⟩
      exact ⟨rfl, Below.refl _ _⟩
end Go.Proofs.Ytpejoaefnnbghaa
namespace Go.Proofs.Ytpejoaefnnbghaa
open Go.RowKit
attribute [local irreducible] wpHeld wpList
set_option linter.unusedVariables false

set_option maxHeartbeats 1000000 in
theorem up_any (mode : Int) (r d : Nat) (m : Bool) (w : World) (h0 : 0 ≤ mode) (h1 : mode ≤ 3) (hr : r < d) (hd : d < 18446744073709551616) :
    Calls Try.prog 120 #[.int .i64 mode, .int .u64 r, .int .u64 d, .bool m] w fun e w' => e = .returned (.bool (upB mode r d m)) ∧ w = w' := by
  by_cases hz : r = 0
  · subst hz
    go_enter Try.func120, Try.ntmps120
    go_wp2
    go_ret
    exact ⟨by simp [upB], rfl⟩
  · have tz : ((r : Int) == 0) = false := by simp; omega
    rcases (show mode = 0 ∨ mode = 1 ∨ mode = 2 ∨ mode = 3 by omega) with rfl | rfl | rfl | rfl
    · have E : Hid (m = upB 0 r d m) := Lib.hid (by simp [upB, hz])
      go_enter Try.func120, Try.ntmps120
      go_wp2
      go_ret
      exact ⟨by rw [← E.out]; rfl, rfl⟩
    · have E : Hid ((!m) = upB 1 r d m) := Lib.hid (by simp [upB, hz])
      go_enter Try.func120, Try.ntmps120
      go_wp2
      go_ret
      exact ⟨by rw [← E.out]; rfl, rfl⟩
    · have E : Hid ((decide (d < 2 * r) || (decide (2 * r = d) && !m)) = upB 2 r d m) := Lib.hid (by simp [upB, hz])
      have ef : IntKind.u64.wrap ((d : Int) - r) = (d : Int) - r := by rw [IntKind.wrap_u64]; omega
      rcases Nat.lt_trichotomy d (2 * r) with hlt | heq | hgt
      · have t1 : decide ((d : Int) - r < r) = true := decide_eq_true (by omega)
        have E2 : Hid (true = upB 2 r d m) := Lib.hid (by rw [← E.out, decide_eq_true hlt]; rfl)
        clear E hlt
        go_enter Try.func120, Try.ntmps120
        go_wp2
        go_ret
        exact ⟨by rw [← E2.out]; rfl, rfl⟩
      · have t1 : decide ((d : Int) - r < r) = false := decide_eq_false (by omega)
        have t2 : ((r : Int) == (d : Int) - r) = true := by simp; omega
        have E2 : Hid ((!m) = upB 2 r d m) := Lib.hid (by rw [← E.out, decide_eq_false (by omega), decide_eq_true heq.symm]; rfl)
        clear E heq
        go_enter Try.func120, Try.ntmps120
        go_wp2
        go_ret
        exact ⟨by rw [← E2.out]; rfl, rfl⟩
      · have t1 : decide ((d : Int) - r < r) = false := decide_eq_false (by omega)
        have t2 : ((r : Int) == (d : Int) - r) = false := by simp; omega
        have E2 : Hid (false = upB 2 r d m) := Lib.hid (by rw [← E.out, decide_eq_false (by omega), decide_eq_false (by omega)]; rfl)
        clear E hgt
        go_enter Try.func120, Try.ntmps120
        go_wp2
        go_ret
        exact ⟨by rw [← E2.out]; rfl, rfl⟩
    · have E : Hid (false = upB 3 r d m) := Lib.hid (by simp [upB, hz])
      go_enter Try.func120, Try.ntmps120
      go_wp2
      go_ret
      exact ⟨by rw [← E.out]; rfl, rfl⟩

theorem mul_parts {x y : Int} (x0 : -9223372036854775808 ≤ x) (x1 : x ≤ 9223372036854775807) (y0 : -9223372036854775808 ≤ y) (y1 : y ≤ 9223372036854775807) :
    ∃ h l : Nat, x.natAbs * y.natAbs = h * 18446744073709551616 + l ∧ l < 18446744073709551616 ∧ h ≤ 4611686018427387904 ∧ wI ((x.natAbs * y.natAbs : Nat) : Int) = #[.int .i64 h, .int .u64 l] := by
  have hp : x.natAbs * y.natAbs ≤ 9223372036854775808 * 9223372036854775808 := Nat.mul_le_mul (by omega) (by omega)
  obtain ⟨P, hP⟩ : ∃ P, P = x.natAbs * y.natAbs := ⟨_, rfl⟩
  rw [← hP] at hp ⊢
  refine ⟨P / 18446744073709551616, P % 18446744073709551616, by omega, by omega, by omega, ?_⟩
  unfold wI
  rw [Int.natCast_ediv, Int.natCast_emod]; rfl
theorem sign_mul (x y : Int) (h : (decide (x < 0) != decide (y < 0)) = true) : wrap128 (-((x.natAbs * y.natAbs : Nat) : Int)) = wrap128 (x * y) := by
  congr 1
  rw [Int.natCast_mul]
  rcases Int.lt_or_le x 0 with hx | hx <;> rcases Int.lt_or_le y 0 with hy | hy
  · simp [hx, hy] at h
  · rw [show ((x.natAbs : Int)) = -x by omega, show (y.natAbs : Int) = y by omega, Int.neg_mul, Int.neg_neg]
  · rw [show ((x.natAbs : Int)) = x by omega, show (y.natAbs : Int) = -y by omega, Int.mul_neg, Int.neg_neg]
  · simp [Int.not_lt.2 hx, Int.not_lt.2 hy] at h
theorem same_mul (x y : Int) (h : (decide (x < 0) != decide (y < 0)) = false) : ((x.natAbs * y.natAbs : Nat) : Int) = x * y := by
  rw [Int.natCast_mul]
  rcases Int.lt_or_le x 0 with hx | hx <;> rcases Int.lt_or_le y 0 with hy | hy
  · rw [show ((x.natAbs : Int)) = -x by omega, show (y.natAbs : Int) = -y by omega, Int.neg_mul_neg]
  · simp [hx, Int.not_lt.2 hy] at h
  · simp [hy, Int.not_lt.2 hx] at h
  · rw [show ((x.natAbs : Int)) = x by omega, show (y.natAbs : Int) = y by omega]
theorem mul_bd {x y : Int} (x0 : -9223372036854775808 ≤ x) (x1 : x ≤ 9223372036854775807) (y0 : -9223372036854775808 ≤ y) (y1 : y ≤ 9223372036854775807) : (x * y).natAbs ≤ 85070591730234615865843651857942052864 := by
  rw [Int.natAbs_mul]
  exact Nat.mul_le_mul (show x.natAbs ≤ 9223372036854775808 by omega) (show y.natAbs ≤ 9223372036854775808 by omega)

set_option maxHeartbeats 4000000 in
set_option maxRecDepth 100000 in
theorem Mul_wide (x y : Int) (w : World) (x0 : -9223372036854775808 ≤ x) (x1 : x ≤ 9223372036854775807) (y0 : -9223372036854775808 ≤ y) (y1 : y ≤ 9223372036854775807) :
    Calls Try.prog 64 #[.int .i64 x, .int .i64 y] w fun e w' => e = .returned (.agg (wI (x * y))) ∧ Below w.heap.size w w' := by
  have K := St.start w
  have HB := Lib.hid (And.intro x0 (And.intro x1 (And.intro y0 y1)))
  obtain ⟨h, l, hp, hl, hh, ew⟩ := mul_parts x0 x1 y0 y1
  have HL := Lib.hid (And.intro (show x.natAbs < 18446744073709551616 by omega) (And.intro (show y.natAbs < 18446744073709551616 by omega) (And.intro hp hl)))
  have hbd := mul_bd x0 x1 y0 y1
  have HN : Hid (∀ w, Calls Try.prog 102 #[.agg #[.int .i64 h, .int .u64 l]] w fun e w' => e = .returned (.agg (wI (wrap128 (-((x.natAbs * y.natAbs : Nat) : Int))))) ∧ Below w.heap.size w w') := Lib.hid (fun w => by
    rw [← ew]
    refine Neg_any _ w (by omega) ?_
    rw [Int.natAbs_mul] at hbd
    omega)
  have hwr : wrap64 (h : Int) = h := by unfold wrap64; omega
  cases hs : (decide (x < 0) != decide (y < 0))
  · have E : Hid (wI (x * y) = #[.int .i64 h, .int .u64 l]) := Lib.hid (by rw [← same_mul x y hs, ew])
    clear hp hbd x0 x1 y0 y1 ew
    by_cases hx : x < 0
    · have hy : y < 0 := by
        rcases Int.lt_or_le y 0 with h | h
        · exact h
        · simp [hx, Int.not_lt.2 h] at hs
      clear hs
      go_enter Try.func64, Try.ntmps64
      go_wp2_with (first|((with_reducible refine at_load ?_);first|(refine wm_load (cs := ?_) (t := ?_) (n := ?_) K rfl _ _ rfl rfl ?_ ?_ ?_ ?_;rotate_left 2;(repeat (exact At.hd));rotate_left;(with_reducible first|exact row106);(exact rfl)))|((with_reducible refine at_store ?_);(first|(refine wm_store (L' := ?_) (cs := ?_) (t := ?_) (n := ?_) K rfl _ _ _ rfl rfl rfl rfl ?_ ?_ ?_ ?_ ?_ ?_;rotate_left 3;(repeat (first|exact Put.hd|(refine Put.tl (L' := ?_) ?_;rotate_left)));rotate_left;(with_reducible first|exact row106);(exact rfl);(exact rfl);(simp [Ones, Value.oneCell'])));(try clear K);(try clear ww);intro ww K;(try simp [go_sem] at K))|((first|((with_reducible refine at_alloc ?_);refine wm_alloc (v := ?_) (cs := ?_) K rfl _ rfl ?_ ?_ ?_;rotate_left;(with_reducible first|exact zero106);rotate_left;exact rfl));(try clear K);(try clear ww);(first|((fail_if_success (have _h := b1));intro b1 ww K)|((fail_if_success (have _h := b2));intro b2 ww K));(try simp [go_sem, Value.cells] at K))|(go_at_call 107;(with_reducible refine (magnitude_any x _ HB.out.1 HB.out.2.1).mono ?_);rintro e w2 ⟨rfl, rfl⟩;(try dsimp only))|(go_at_call 107;(with_reducible refine (magnitude_any y _ HB.out.2.2.1 HB.out.2.2.2).mono ?_);rintro e w2 ⟨rfl, rfl⟩;(try dsimp only))|(go_at_call 106;(with_reducible refine (mul64_any _ _ h l _ HL.out.1 HL.out.2.1 HL.out.2.2.1 HL.out.2.2.2).mono ?_);rintro e w2 ⟨rfl, rfl⟩;(try dsimp only)))
      refine bodyPost_ret (K.res (cs := ?_) (t := ?_) (n := ?_) rfl _ rfl ?_ ?_ ?_) rfl ?_;rotate_left 2;(repeat (first|exact At.hd|refine At.tl ?_));rotate_left;(with_reducible first|exact row106);(exact rfl)
      exact ⟨by rw [E.out], K.below⟩
    · have hy : ¬ y < 0 := by
        intro h
        simp [hx, h] at hs
      clear hs
      go_enter Try.func64, Try.ntmps64
      go_wp2_with (first|((with_reducible refine at_load ?_);first|(refine wm_load (cs := ?_) (t := ?_) (n := ?_) K rfl _ _ rfl rfl ?_ ?_ ?_ ?_;rotate_left 2;(repeat (exact At.hd));rotate_left;(with_reducible first|exact row106);(exact rfl)))|((with_reducible refine at_store ?_);(first|(refine wm_store (L' := ?_) (cs := ?_) (t := ?_) (n := ?_) K rfl _ _ _ rfl rfl rfl rfl ?_ ?_ ?_ ?_ ?_ ?_;rotate_left 3;(repeat (first|exact Put.hd|(refine Put.tl (L' := ?_) ?_;rotate_left)));rotate_left;(with_reducible first|exact row106);(exact rfl);(exact rfl);(simp [Ones, Value.oneCell'])));(try clear K);(try clear ww);intro ww K;(try simp [go_sem] at K))|((first|((with_reducible refine at_alloc ?_);refine wm_alloc (v := ?_) (cs := ?_) K rfl _ rfl ?_ ?_ ?_;rotate_left;(with_reducible first|exact zero106);rotate_left;exact rfl));(try clear K);(try clear ww);(first|((fail_if_success (have _h := b1));intro b1 ww K)|((fail_if_success (have _h := b2));intro b2 ww K));(try simp [go_sem, Value.cells] at K))|(go_at_call 107;(with_reducible refine (magnitude_any x _ HB.out.1 HB.out.2.1).mono ?_);rintro e w2 ⟨rfl, rfl⟩;(try dsimp only))|(go_at_call 107;(with_reducible refine (magnitude_any y _ HB.out.2.2.1 HB.out.2.2.2).mono ?_);rintro e w2 ⟨rfl, rfl⟩;(try dsimp only))|(go_at_call 106;(with_reducible refine (mul64_any _ _ h l _ HL.out.1 HL.out.2.1 HL.out.2.2.1 HL.out.2.2.2).mono ?_);rintro e w2 ⟨rfl, rfl⟩;(try dsimp only)))
      refine bodyPost_ret (K.res (cs := ?_) (t := ?_) (n := ?_) rfl _ rfl ?_ ?_ ?_) rfl ?_;rotate_left 2;(repeat (first|exact At.hd|refine At.tl ?_));rotate_left;(with_reducible first|exact row106);(exact rfl)
      exact ⟨by rw [E.out], K.below⟩
  · have E : Hid (wI (x * y) = wI (wrap128 (-((x.natAbs * y.natAbs : Nat) : Int)))) := Lib.hid (by
      rw [sign_mul x y hs, wrap128_in]
      unfold fits128
      rw [decide_eq_true (by omega), decide_eq_true (by omega)]; rfl)
    clear hp hbd x0 x1 y0 y1 ew
    by_cases hx : x < 0
    · have hy : ¬ y < 0 := by
        intro h
        simp [hx, h] at hs
      clear hs
      go_enter Try.func64, Try.ntmps64
      go_wp2_with (first|((with_reducible refine at_load ?_);first|(refine wm_load (cs := ?_) (t := ?_) (n := ?_) K rfl _ _ rfl rfl ?_ ?_ ?_ ?_;rotate_left 2;(repeat (exact At.hd));rotate_left;(with_reducible first|exact row106);(exact rfl)))|((with_reducible refine at_store ?_);(first|(refine wm_store (L' := ?_) (cs := ?_) (t := ?_) (n := ?_) K rfl _ _ _ rfl rfl rfl rfl ?_ ?_ ?_ ?_ ?_ ?_;rotate_left 3;(repeat (first|exact Put.hd|(refine Put.tl (L' := ?_) ?_;rotate_left)));rotate_left;(with_reducible first|exact row106);(solve|(with_reducible exact wI_size _)|exact rfl);(exact rfl);(solve|(with_reducible exact wI_ones _)|simp [Ones, Value.oneCell'])));(try clear K);(try clear ww);intro ww K;(try simp [go_sem] at K))|((first|((with_reducible refine at_alloc ?_);refine wm_alloc (v := ?_) (cs := ?_) K rfl _ rfl ?_ ?_ ?_;rotate_left;(with_reducible first|exact zero106);rotate_left;exact rfl));(try clear K);(try clear ww);(first|((fail_if_success (have _h := b1));intro b1 ww K)|((fail_if_success (have _h := b2));intro b2 ww K));(try simp [go_sem, Value.cells] at K))|(go_at_call 107;(with_reducible refine (magnitude_any x _ HB.out.1 HB.out.2.1).mono ?_);rintro e w2 ⟨rfl, rfl⟩;(try dsimp only))|(go_at_call 107;(with_reducible refine (magnitude_any y _ HB.out.2.2.1 HB.out.2.2.2).mono ?_);rintro e w2 ⟨rfl, rfl⟩;(try dsimp only))|(go_at_call 106;(with_reducible refine (mul64_any _ _ h l _ HL.out.1 HL.out.2.1 HL.out.2.2.1 HL.out.2.2.2).mono ?_);rintro e w2 ⟨rfl, rfl⟩;(try dsimp only))|(go_at_call 102;(with_reducible refine (HN.out _).mono ?_);rintro e w2 ⟨rfl, k1⟩;replace K := K.step k1;clear k1;(try clear ww);revert w2;intro ww K))
      refine bodyPost_ret (K.res (cs := ?_) (t := ?_) (n := ?_) rfl _ rfl ?_ ?_ ?_) rfl ?_;rotate_left 2;(repeat (first|exact At.hd|refine At.tl ?_));rotate_left;(with_reducible first|exact row106);((with_reducible exact wI_size _))
      exact ⟨by rw [E.out, Int.natCast_mul], K.below⟩
    · have hy : y < 0 := by
        rcases Int.lt_or_le y 0 with h | h
        · exact h
        · simp [hx, Int.not_lt.2 h] at hs
      clear hs
      go_enter Try.func64, Try.ntmps64
      go_wp2_with (first|((with_reducible refine at_load ?_);first|(refine wm_load (cs := ?_) (t := ?_) (n := ?_) K rfl _ _ rfl rfl ?_ ?_ ?_ ?_;rotate_left 2;(repeat (exact At.hd));rotate_left;(with_reducible first|exact row106);(exact rfl)))|((with_reducible refine at_store ?_);(first|(refine wm_store (L' := ?_) (cs := ?_) (t := ?_) (n := ?_) K rfl _ _ _ rfl rfl rfl rfl ?_ ?_ ?_ ?_ ?_ ?_;rotate_left 3;(repeat (first|exact Put.hd|(refine Put.tl (L' := ?_) ?_;rotate_left)));rotate_left;(with_reducible first|exact row106);(solve|(with_reducible exact wI_size _)|exact rfl);(exact rfl);(solve|(with_reducible exact wI_ones _)|simp [Ones, Value.oneCell'])));(try clear K);(try clear ww);intro ww K;(try simp [go_sem] at K))|((first|((with_reducible refine at_alloc ?_);refine wm_alloc (v := ?_) (cs := ?_) K rfl _ rfl ?_ ?_ ?_;rotate_left;(with_reducible first|exact zero106);rotate_left;exact rfl));(try clear K);(try clear ww);(first|((fail_if_success (have _h := b1));intro b1 ww K)|((fail_if_success (have _h := b2));intro b2 ww K));(try simp [go_sem, Value.cells] at K))|(go_at_call 107;(with_reducible refine (magnitude_any x _ HB.out.1 HB.out.2.1).mono ?_);rintro e w2 ⟨rfl, rfl⟩;(try dsimp only))|(go_at_call 107;(with_reducible refine (magnitude_any y _ HB.out.2.2.1 HB.out.2.2.2).mono ?_);rintro e w2 ⟨rfl, rfl⟩;(try dsimp only))|(go_at_call 106;(with_reducible refine (mul64_any _ _ h l _ HL.out.1 HL.out.2.1 HL.out.2.2.1 HL.out.2.2.2).mono ?_);rintro e w2 ⟨rfl, rfl⟩;(try dsimp only))|(go_at_call 102;(with_reducible refine (HN.out _).mono ?_);rintro e w2 ⟨rfl, k1⟩;replace K := K.step k1;clear k1;(try clear ww);revert w2;intro ww K))
      refine bodyPost_ret (K.res (cs := ?_) (t := ?_) (n := ?_) rfl _ rfl ?_ ?_ ?_) rfl ?_;rotate_left 2;(repeat (first|exact At.hd|refine At.tl ?_));rotate_left;(with_reducible first|exact row106);((with_reducible exact wI_size _))
      exact ⟨by rw [E.out, Int.natCast_mul], K.below⟩

structure Mp (z : Int) (H : Int) (L : Nat) (mh : Int) (MH ML : Nat) : Prop where
  own : wI z = #[.int .i64 H, .int .u64 L]
  neg : z < 0 → wI (wrap128 (-z)) = #[.int .i64 mh, .int .u64 ML]
  pos : ¬ z < 0 → mh = H ∧ ML = L
  sign : decide (H < 0) = decide (z < 0)
  up : IntKind.u64.wrap mh = MH
  all : z.natAbs = MH * 18446744073709551616 + ML
  low : ML < 18446744073709551616
theorem Mp.of {z : Int} (z0 : -170141183460469231731687303715884105728 ≤ z) (z1 : z < 170141183460469231731687303715884105728) : ∃ H L mh MH ML, Mp z H L mh MH ML := by
  have ew : wI z = #[.int .i64 (z / 18446744073709551616), .int .u64 (z % 18446744073709551616).toNat] := by unfold wI; rw [Int.toNat_of_nonneg (by omega)]
  by_cases hz : z < 0
  · refine ⟨_, _, wrap128 (-z) / 18446744073709551616, z.natAbs / 18446744073709551616, z.natAbs % 18446744073709551616, ew, fun _ => ?_, fun h => absurd hz h, ?_, ?_, by omega, by omega⟩
    · unfold wI
      congr 3
      unfold wrap128; congr 1; omega
    · rw [decide_eq_true hz, decide_eq_true (by omega)]
    · rw [wrap_mod]; unfold wrap128; omega
  · refine ⟨_, _, z / 18446744073709551616, z.natAbs / 18446744073709551616, (z % 18446744073709551616).toNat, ew, fun h => absurd h hz, fun _ => ⟨rfl, rfl⟩, ?_, ?_, by omega, by omega⟩
    · rw [decide_eq_false hz, decide_eq_false (by omega)]
    · rw [wrap_mod]; omega

set_option maxHeartbeats 1000000 in
set_option maxRecDepth 100000 in
theorem Div_bad (z b mode : Int) (w : World) (h : badB b mode = true) :
    Calls Try.prog 101 #[.agg (wI z), .int .i64 b, .int .i64 mode] w fun e w' => e = .returned (.tuple #[.int .i64 (divM z b mode).1, .int .i64 (divM z b mode).2]) ∧ Below w.heap.size w w' := by
  rw [divM_bad h]
  have K := St.start w
  obtain ⟨cs, hcs⟩ : ∃ cs, cs = wI z := ⟨_, rfl⟩
  rw [← hcs]
  clear hcs
  by_cases h1 : b = 0
  · subst h1
    clear h
    go_enter Try.func101, Try.ntmps101
    go_wp2_with (first|((first|((with_reducible refine at_box ?_);refine wm_box K rfl _ _ rfl rfl rfl ?_));(try clear K);(try clear ww);(first|((fail_if_success (have _h := b3));intro b3 ww K));(try simp [go_sem, Value.cells] at K)))
    go_ret2
    exact ⟨rfl, K.below⟩
  · have tb : (b == 0) = false := by simpa using h1
    by_cases h2 : mode < 0
    · clear h h1
      go_enter Try.func101, Try.ntmps101
      go_wp2_with (first|((first|((with_reducible refine at_box ?_);refine wm_box K rfl _ _ rfl rfl rfl ?_));(try clear K);(try clear ww);(first|((fail_if_success (have _h := b3));intro b3 ww K));(try simp [go_sem, Value.cells] at K)))
      go_ret2
      exact ⟨rfl, K.below⟩
    · have h3 : 3 < mode := by
        unfold badB at h
        simp [h1, h2] at h
        exact h
      have t1 : decide (mode < 0) = false := decide_eq_false h2
      have t2 : decide (3 < mode) = true := decide_eq_true h3
      clear h h1 h2 h3
      go_enter Try.func101, Try.ntmps101
      go_wp2_with (first|((first|((with_reducible refine at_box ?_);refine wm_box K rfl _ _ rfl rfl rfl ?_));(try clear K);(try clear ww);(first|((fail_if_success (have _h := b3));intro b3 ww K));(try simp [go_sem, Value.cells] at K)))
      go_ret2
      exact ⟨rfl, K.below⟩

structure Dw (H : Int) (L : Nat) (mh : Int) (MH ML D : Nat) (b mode : Int) (nb ng : Bool) : Prop where
  neg : H < 0 → ∀ w, Calls Try.prog 102 #[.agg #[.int .i64 H, .int .u64 L]] w fun e w' => e = .returned (.agg #[.int .i64 mh, .int .u64 ML]) ∧ Below w.heap.size w w'
  pos : ¬ H < 0 → mh = H ∧ ML = L
  low : ML < 18446744073709551616
  d0 : 0 < D
  d1 : D ≤ 9223372036854775808
  mag : ∀ w, Calls Try.prog 107 #[.int .i64 b] w fun e w' => e = .returned (.int .u64 D) ∧ w = w'
  m0 : 0 ≤ mode
  m1 : mode ≤ 3

def dres (MH ML D : Nat) (mode : Int) (m : Bool) : Int × Int :=
  if D ≤ MH then (0, 10) else
    if fits64 (wv m ((MH * 18446744073709551616 + ML) / D + if upB mode ((MH * 18446744073709551616 + ML) % D) D m then 1 else 0)) then (wv m ((MH * 18446744073709551616 + ML) / D + if upB mode ((MH * 18446744073709551616 + ML) % D) D m then 1 else 0), 0) else (0, 10)

theorem wrap64_fits {x : Int} (h : fits64 x = true) : wrap64 x = x := by
  have := (fits64_iff x).1 h
  unfold wrap64; omega

theorem q_lt {MH ML D : Nat} (h : MH < D) (hl : ML < 18446744073709551616) : (MH * 18446744073709551616 + ML) / D < 18446744073709551616 := by
  rw [Nat.div_lt_iff_lt_mul (by omega), Nat.mul_comm]
  have : (MH + 1) * 18446744073709551616 ≤ D * 18446744073709551616 := Nat.mul_le_mul_right _ h
  omega
theorem Div64_at (MH ML D q r : Nat) (hg : ¬ D ≤ MH) (hl : ML < 18446744073709551616) (hd : D ≤ 9223372036854775808) (hq : q = (MH * 18446744073709551616 + ML) / D) (hr : r = (MH * 18446744073709551616 + ML) % D) : ∀ w, Calls Try.prog 119 #[.int .u64 MH, .int .u64 ML, .int .u64 D] w fun e w' => e = .returned (.tuple #[.int .u64 q, .int .u64 r]) ∧ Below w.heap.size w w' := fun w => by
  rw [hq, hr]
  exact Div64_any MH ML D w (by omega) hl (by omega)
theorem signed_at (q : Nat) (m f : Bool) (v : Int) (hq : q < 18446744073709551616) (hf : fits64 (wv m q) = f) (hv : v = wrap64 (wv m q)) : ∀ w, Calls Try.prog 121 #[.int .u64 q, .bool m] w fun e w' => e = .returned (.tuple #[.int .i64 v, .bool f]) ∧ w = w' := fun w => by
  rw [hv, ← hf]
  exact signed_any q m w hq
theorem signed_next (q : Nat) (m f : Bool) (v : Int) (hq : q + 1 < 18446744073709551616) (hf : fits64 (wv m (q + 1)) = f) (hv : v = wrap64 (wv m (q + 1))) : ∀ w, Calls Try.prog 121 #[.int .u64 ((q : Int) + 1), .bool m] w fun e w' => e = .returned (.tuple #[.int .i64 v, .bool f]) ∧ w = w' := signed_at (q + 1) m f v hq hf hv
theorem up_at (mode : Int) (r D : Nat) (m u : Bool) (m0 : 0 ≤ mode) (m1 : mode ≤ 3) (hr : r < D) (hd : D ≤ 9223372036854775808) (hu : upB mode r D m = u) : ∀ w, Calls Try.prog 120 #[.int .i64 mode, .int .u64 r, .int .u64 D, .bool m] w fun e w' => e = .returned (.bool u) ∧ w = w' := fun w => by
  rw [← hu]
  exact up_any mode r D m w m0 m1 hr (by omega)
set_option maxHeartbeats 8000000 in
set_option maxRecDepth 100000 in
theorem Div_pos (H : Int) (L : Nat) (MH D : Nat) (b mode : Int) (nb : Bool) (w : World) (F : Dw H L H MH L D b mode nb nb) (tb : (b == 0) = false) (t1 : decide (mode < 0) = false) (t2 : decide (3 < mode) = false) (th : decide (H < 0) = false) (tn : decide (b < 0) = nb) (eh : IntKind.u64.wrap H = MH) :
    Calls Try.prog 101 #[.agg #[.int .i64 H, .int .u64 L], .int .i64 b, .int .i64 mode] w fun e w' => e = .returned (.tuple #[.int .i64 (dres MH L D mode nb).1, .int .i64 (dres MH L D mode nb).2]) ∧ Below w.heap.size w w' := by
  have K := St.start w
  have HM := Lib.hid F.mag
  by_cases hg : D ≤ MH
  · have tg : decide (D ≤ MH) = true := decide_eq_true hg
    have E : Hid (dres MH L D mode nb = (0, 10)) := Lib.hid (by unfold dres; rw [if_pos hg])
    rw [E.out]
    clear E hg F
    go_enter Try.func101, Try.ntmps101
    go_wp2_with (first|((with_reducible refine at_load ?_);first|(refine wm_load (cs := ?_) (t := ?_) (n := ?_) K rfl _ _ rfl rfl ?_ ?_ ?_ ?_;rotate_left 2;(repeat (first|exact At.hd|refine At.tl ?_));rotate_left;(with_reducible first|exact row106);(exact rfl))|(refine wm_own (cs := ?_) (t := ?_) (v := ?_) K rfl _ _ rfl rfl ?_ ?_ ?_ ?_;rotate_left 2;(repeat (first|exact At.hd|refine At.tl ?_));rotate_left;(exact rfl);(with_reducible first|exact one2)))|((with_reducible refine at_store ?_);(first|(refine wm_store (L' := ?_) (cs := ?_) (t := ?_) (n := ?_) K rfl _ _ _ rfl rfl rfl rfl ?_ ?_ ?_ ?_ ?_ ?_;rotate_left 3;(repeat (exact Put.hd));rotate_left;(with_reducible first|exact row106);(exact rfl);(exact rfl);(simp [Ones, Value.oneCell'])));(try clear K);(try clear ww);intro ww K;(try simp [go_sem] at K))|((first|((with_reducible refine at_box ?_);refine wm_box K rfl _ _ rfl rfl rfl ?_)|((with_reducible refine at_alloc ?_);refine wm_alloc (v := ?_) (cs := ?_) K rfl _ rfl ?_ ?_ ?_;rotate_left;(with_reducible first|exact zero106);rotate_left;exact rfl));(try clear K);(try clear ww);(first|((fail_if_success (have _h := b3));intro b3 ww K)|((fail_if_success (have _h := b9));intro b9 ww K));(try simp [go_sem, Value.cells] at K))|(go_at_call 107;(with_reducible refine (HM.out _).mono ?_);rintro e w2 ⟨rfl, rfl⟩;(try dsimp only)))
    go_ret2
    exact ⟨rfl, K.below⟩
  · have tg : decide (D ≤ MH) = false := decide_eq_false hg
    obtain ⟨q, hq⟩ : ∃ q, q = (MH * 18446744073709551616 + L) / D := ⟨_, rfl⟩
    obtain ⟨r, hr⟩ : ∃ r, r = (MH * 18446744073709551616 + L) % D := ⟨_, rfl⟩
    have HD := Lib.hid (Div64_at MH L D q r hg F.low F.d1 hq hr)
    have bq : q < 18446744073709551616 := by rw [hq]; exact q_lt (by omega) F.low
    have br : r < D := by rw [hr]; exact Nat.mod_lt _ F.d0
    have E : Hid (dres MH L D mode nb = if fits64 (wv nb (q + if upB mode r D nb then 1 else 0)) then (wv nb (q + if upB mode r D nb then 1 else 0), 0) else (0, 10)) := Lib.hid (by unfold dres; rw [if_neg hg, ← hq, ← hr])
    rw [E.out]
    clear hq hr E hg
    cases hu : upB mode r D nb
    · have HU := Lib.hid (up_at mode r D nb false F.m0 F.m1 br F.d1 hu)
      rw [show (q + if (false = true) then 1 else 0) = q from rfl]
      clear hu br
      cases hf : fits64 (wv nb q)
      · have HS := Lib.hid (signed_at q nb false _ bq hf rfl)
        rw [if_neg (by simp)]
        generalize wrap64 (wv nb q) = v at *
        clear hf F
        go_enter Try.func101, Try.ntmps101
        go_wp2_with (first|((with_reducible refine at_load ?_);first|(refine wm_load (cs := ?_) (t := ?_) (n := ?_) K rfl _ _ rfl rfl ?_ ?_ ?_ ?_;rotate_left 2;(repeat (first|exact At.hd|refine At.tl ?_));rotate_left;(with_reducible first|exact row106);(exact rfl))|(refine wm_own (cs := ?_) (t := ?_) (v := ?_) K rfl _ _ rfl rfl ?_ ?_ ?_ ?_;rotate_left 2;(repeat (first|exact At.hd|refine At.tl ?_));rotate_left;(exact rfl);(with_reducible first|exact one2|exact one104)))|((with_reducible refine at_store ?_);(first|(refine wm_store (L' := ?_) (cs := ?_) (t := ?_) (n := ?_) K rfl _ _ _ rfl rfl rfl rfl ?_ ?_ ?_ ?_ ?_ ?_;rotate_left 3;(repeat (exact Put.hd));rotate_left;(with_reducible first|exact row106);(exact rfl);(exact rfl);(simp [Ones, Value.oneCell'])));(try clear K);(try clear ww);intro ww K;(try simp [go_sem] at K))|((first|((with_reducible refine at_box ?_);refine wm_box K rfl _ _ rfl rfl rfl ?_)|((with_reducible refine at_alloc ?_);refine wm_alloc (v := ?_) (cs := ?_) K rfl _ rfl ?_ ?_ ?_;rotate_left;(with_reducible first|exact zero106);rotate_left;exact rfl));(try clear K);(try clear ww);(first|((fail_if_success (have _h := b3));intro b3 ww K)|((fail_if_success (have _h := b9));intro b9 ww K));(try simp [go_sem, Value.cells] at K))|(go_at_call 107;(with_reducible refine (HM.out _).mono ?_);rintro e w2 ⟨rfl, rfl⟩;(try dsimp only))|(go_at_call 119;(with_reducible refine (HD.out _).mono ?_);rintro e w2 ⟨rfl, k1⟩;replace K := K.step k1;clear k1;(try clear ww);revert w2;intro ww K)|(go_at_call 120;(with_reducible refine (HU.out _).mono ?_);rintro e w2 ⟨rfl, rfl⟩;(try dsimp only))|(go_at_call 121;(with_reducible refine (HS.out _).mono ?_);rintro e w2 ⟨rfl, rfl⟩;(try dsimp only)))
        go_ret2
        exact ⟨rfl, K.below⟩
      · have HS := Lib.hid (signed_at q nb true (wv nb q) bq hf (wrap64_fits hf).symm)
        rw [if_pos rfl]
        generalize wv nb q = v at *
        clear hf F
        go_enter Try.func101, Try.ntmps101
        go_wp2_with (first|((with_reducible refine at_load ?_);first|(refine wm_load (cs := ?_) (t := ?_) (n := ?_) K rfl _ _ rfl rfl ?_ ?_ ?_ ?_;rotate_left 2;(repeat (first|exact At.hd|refine At.tl ?_));rotate_left;(with_reducible first|exact row106);(exact rfl))|(refine wm_own (cs := ?_) (t := ?_) (v := ?_) K rfl _ _ rfl rfl ?_ ?_ ?_ ?_;rotate_left 2;(repeat (first|exact At.hd|refine At.tl ?_));rotate_left;(exact rfl);(with_reducible first|exact one2|exact one104)))|((with_reducible refine at_store ?_);(first|(refine wm_store (L' := ?_) (cs := ?_) (t := ?_) (n := ?_) K rfl _ _ _ rfl rfl rfl rfl ?_ ?_ ?_ ?_ ?_ ?_;rotate_left 3;(repeat (exact Put.hd));rotate_left;(with_reducible first|exact row106);(exact rfl);(exact rfl);(simp [Ones, Value.oneCell'])));(try clear K);(try clear ww);intro ww K;(try simp [go_sem] at K))|((first|((with_reducible refine at_box ?_);refine wm_box K rfl _ _ rfl rfl rfl ?_)|((with_reducible refine at_alloc ?_);refine wm_alloc (v := ?_) (cs := ?_) K rfl _ rfl ?_ ?_ ?_;rotate_left;(with_reducible first|exact zero106);rotate_left;exact rfl));(try clear K);(try clear ww);(first|((fail_if_success (have _h := b3));intro b3 ww K)|((fail_if_success (have _h := b9));intro b9 ww K));(try simp [go_sem, Value.cells] at K))|(go_at_call 107;(with_reducible refine (HM.out _).mono ?_);rintro e w2 ⟨rfl, rfl⟩;(try dsimp only))|(go_at_call 119;(with_reducible refine (HD.out _).mono ?_);rintro e w2 ⟨rfl, k1⟩;replace K := K.step k1;clear k1;(try clear ww);revert w2;intro ww K)|(go_at_call 120;(with_reducible refine (HU.out _).mono ?_);rintro e w2 ⟨rfl, rfl⟩;(try dsimp only))|(go_at_call 121;(with_reducible refine (HS.out _).mono ?_);rintro e w2 ⟨rfl, rfl⟩;(try dsimp only)))
        go_ret2
        exact ⟨rfl, K.below⟩
    · have HU := Lib.hid (up_at mode r D nb true F.m0 F.m1 br F.d1 hu)
      rw [if_pos rfl]
      clear hu br
      by_cases hov : q = 18446744073709551615
      · have e0 : IntKind.u64.wrap ((q : Int) + 1) = 0 := by rw [wrap_mod]; omega
        rw [big_of_fits (m := nb) (a := q + 1) (by omega), if_neg (by simp)]
        clear hov bq F
        go_enter Try.func101, Try.ntmps101
        go_wp2_with (first|((with_reducible refine at_load ?_);first|(refine wm_load (cs := ?_) (t := ?_) (n := ?_) K rfl _ _ rfl rfl ?_ ?_ ?_ ?_;rotate_left 2;(repeat (first|exact At.hd|refine At.tl ?_));rotate_left;(with_reducible first|exact row106);(exact rfl))|(refine wm_own (cs := ?_) (t := ?_) (v := ?_) K rfl _ _ rfl rfl ?_ ?_ ?_ ?_;rotate_left 2;(repeat (first|exact At.hd|refine At.tl ?_));rotate_left;(exact rfl);(with_reducible first|exact one2|exact one104)))|((with_reducible refine at_store ?_);(first|(refine wm_store (L' := ?_) (cs := ?_) (t := ?_) (n := ?_) K rfl _ _ _ rfl rfl rfl rfl ?_ ?_ ?_ ?_ ?_ ?_;rotate_left 3;(repeat (exact Put.hd));rotate_left;(with_reducible first|exact row106);(exact rfl);(exact rfl);(simp [Ones, Value.oneCell'])));(try clear K);(try clear ww);intro ww K;(try simp [go_sem] at K))|((first|((with_reducible refine at_box ?_);refine wm_box K rfl _ _ rfl rfl rfl ?_)|((with_reducible refine at_alloc ?_);refine wm_alloc (v := ?_) (cs := ?_) K rfl _ rfl ?_ ?_ ?_;rotate_left;(with_reducible first|exact zero106);rotate_left;exact rfl));(try clear K);(try clear ww);(first|((fail_if_success (have _h := b3));intro b3 ww K)|((fail_if_success (have _h := b9));intro b9 ww K));(try simp [go_sem, Value.cells] at K))|(go_at_call 107;(with_reducible refine (HM.out _).mono ?_);rintro e w2 ⟨rfl, rfl⟩;(try dsimp only))|(go_at_call 119;(with_reducible refine (HD.out _).mono ?_);rintro e w2 ⟨rfl, k1⟩;replace K := K.step k1;clear k1;(try clear ww);revert w2;intro ww K)|(go_at_call 120;(with_reducible refine (HU.out _).mono ?_);rintro e w2 ⟨rfl, rfl⟩;(try dsimp only)))
        go_ret2
        exact ⟨rfl, K.below⟩
      · have e0 : IntKind.u64.wrap ((q : Int) + 1) = (q : Int) + 1 := by rw [wrap_mod]; omega
        have e1 : ((q : Int) + 1 == 0) = false := by simp; omega
        have bq1 : q + 1 < 18446744073709551616 := by omega
        cases hf : fits64 (wv nb (q + 1))
        · have HS := Lib.hid (signed_next q nb false _ bq1 hf rfl)
          rw [if_neg (by simp)]
          generalize wrap64 (wv nb (q + 1)) = v at *
          clear hf F hov bq bq1
          go_enter Try.func101, Try.ntmps101
          go_wp2_with (first|((with_reducible refine at_load ?_);first|(refine wm_load (cs := ?_) (t := ?_) (n := ?_) K rfl _ _ rfl rfl ?_ ?_ ?_ ?_;rotate_left 2;(repeat (first|exact At.hd|refine At.tl ?_));rotate_left;(with_reducible first|exact row106);(exact rfl))|(refine wm_own (cs := ?_) (t := ?_) (v := ?_) K rfl _ _ rfl rfl ?_ ?_ ?_ ?_;rotate_left 2;(repeat (first|exact At.hd|refine At.tl ?_));rotate_left;(exact rfl);(with_reducible first|exact one2|exact one104)))|((with_reducible refine at_store ?_);(first|(refine wm_store (L' := ?_) (cs := ?_) (t := ?_) (n := ?_) K rfl _ _ _ rfl rfl rfl rfl ?_ ?_ ?_ ?_ ?_ ?_;rotate_left 3;(repeat (exact Put.hd));rotate_left;(with_reducible first|exact row106);(exact rfl);(exact rfl);(simp [Ones, Value.oneCell'])));(try clear K);(try clear ww);intro ww K;(try simp [go_sem] at K))|((first|((with_reducible refine at_box ?_);refine wm_box K rfl _ _ rfl rfl rfl ?_)|((with_reducible refine at_alloc ?_);refine wm_alloc (v := ?_) (cs := ?_) K rfl _ rfl ?_ ?_ ?_;rotate_left;(with_reducible first|exact zero106);rotate_left;exact rfl));(try clear K);(try clear ww);(first|((fail_if_success (have _h := b3));intro b3 ww K)|((fail_if_success (have _h := b9));intro b9 ww K));(try simp [go_sem, Value.cells] at K))|(go_at_call 107;(with_reducible refine (HM.out _).mono ?_);rintro e w2 ⟨rfl, rfl⟩;(try dsimp only))|(go_at_call 119;(with_reducible refine (HD.out _).mono ?_);rintro e w2 ⟨rfl, k1⟩;replace K := K.step k1;clear k1;(try clear ww);revert w2;intro ww K)|(go_at_call 120;(with_reducible refine (HU.out _).mono ?_);rintro e w2 ⟨rfl, rfl⟩;(try dsimp only))|(go_at_call 121;(with_reducible refine (HS.out _).mono ?_);rintro e w2 ⟨rfl, rfl⟩;(try dsimp only)))
          go_ret2
          exact ⟨rfl, K.below⟩
        · have HS := Lib.hid (signed_next q nb true (wv nb (q + 1)) bq1 hf (wrap64_fits hf).symm)
          rw [if_pos rfl]
          generalize wv nb (q + 1) = v at *
          clear hf F hov bq bq1
          go_enter Try.func101, Try.ntmps101
          go_wp2_with (first|((with_reducible refine at_load ?_);first|(refine wm_load (cs := ?_) (t := ?_) (n := ?_) K rfl _ _ rfl rfl ?_ ?_ ?_ ?_;rotate_left 2;(repeat (first|exact At.hd|refine At.tl ?_));rotate_left;(with_reducible first|exact row106);(exact rfl))|(refine wm_own (cs := ?_) (t := ?_) (v := ?_) K rfl _ _ rfl rfl ?_ ?_ ?_ ?_;rotate_left 2;(repeat (first|exact At.hd|refine At.tl ?_));rotate_left;(exact rfl);(with_reducible first|exact one2|exact one104)))|((with_reducible refine at_store ?_);(first|(refine wm_store (L' := ?_) (cs := ?_) (t := ?_) (n := ?_) K rfl _ _ _ rfl rfl rfl rfl ?_ ?_ ?_ ?_ ?_ ?_;rotate_left 3;(repeat (exact Put.hd));rotate_left;(with_reducible first|exact row106);(exact rfl);(exact rfl);(simp [Ones, Value.oneCell'])));(try clear K);(try clear ww);intro ww K;(try simp [go_sem] at K))|((first|((with_reducible refine at_box ?_);refine wm_box K rfl _ _ rfl rfl rfl ?_)|((with_reducible refine at_alloc ?_);refine wm_alloc (v := ?_) (cs := ?_) K rfl _ rfl ?_ ?_ ?_;rotate_left;(with_reducible first|exact zero106);rotate_left;exact rfl));(try clear K);(try clear ww);(first|((fail_if_success (have _h := b3));intro b3 ww K)|((fail_if_success (have _h := b9));intro b9 ww K));(try simp [go_sem, Value.cells] at K))|(go_at_call 107;(with_reducible refine (HM.out _).mono ?_);rintro e w2 ⟨rfl, rfl⟩;(try dsimp only))|(go_at_call 119;(with_reducible refine (HD.out _).mono ?_);rintro e w2 ⟨rfl, k1⟩;replace K := K.step k1;clear k1;(try clear ww);revert w2;intro ww K)|(go_at_call 120;(with_reducible refine (HU.out _).mono ?_);rintro e w2 ⟨rfl, rfl⟩;(try dsimp only))|(go_at_call 121;(with_reducible refine (HS.out _).mono ?_);rintro e w2 ⟨rfl, rfl⟩;(try dsimp only)))
          go_ret2
          exact ⟨rfl, K.below⟩
set_option maxHeartbeats 8000000 in
set_option maxRecDepth 100000 in
theorem Div_neg (H : Int) (L : Nat) (mh : Int) (MH ML D : Nat) (b mode : Int) (nb : Bool) (w : World) (F : Dw H L mh MH ML D b mode nb (!nb)) (tb : (b == 0) = false) (t1 : decide (mode < 0) = false) (t2 : decide (3 < mode) = false) (th : decide (H < 0) = true) (tn : decide (b < 0) = nb) (eh : IntKind.u64.wrap mh = MH) :
    Calls Try.prog 101 #[.agg #[.int .i64 H, .int .u64 L], .int .i64 b, .int .i64 mode] w fun e w' => e = .returned (.tuple #[.int .i64 (dres MH ML D mode (!nb)).1, .int .i64 (dres MH ML D mode (!nb)).2]) ∧ Below w.heap.size w w' := by
  have K := St.start w
  have HM := Lib.hid F.mag
  have HN := Lib.hid (F.neg (of_decide_eq_true th))
  by_cases hg : D ≤ MH
  · have tg : decide (D ≤ MH) = true := decide_eq_true hg
    have E : Hid (dres MH ML D mode (!nb) = (0, 10)) := Lib.hid (by unfold dres; rw [if_pos hg])
    rw [E.out]
    clear E hg F
    go_enter Try.func101, Try.ntmps101
    go_wp2_with (first|((with_reducible refine at_load ?_);first|(refine wm_load (cs := ?_) (t := ?_) (n := ?_) K rfl _ _ rfl rfl ?_ ?_ ?_ ?_;rotate_left 2;(repeat (first|exact At.hd|refine At.tl ?_));rotate_left;(with_reducible first|exact row106);(exact rfl))|(refine wm_own (cs := ?_) (t := ?_) (v := ?_) K rfl _ _ rfl rfl ?_ ?_ ?_ ?_;rotate_left 2;(repeat (first|exact At.hd|refine At.tl ?_));rotate_left;(exact rfl);(with_reducible first|exact one2)))|((with_reducible refine at_store ?_);(first|(refine wm_store (L' := ?_) (cs := ?_) (t := ?_) (n := ?_) K rfl _ _ _ rfl rfl rfl rfl ?_ ?_ ?_ ?_ ?_ ?_;rotate_left 3;(repeat (exact Put.hd));rotate_left;(with_reducible first|exact row106);(exact rfl);(exact rfl);(simp [Ones, Value.oneCell'])));(try clear K);(try clear ww);intro ww K;(try simp [go_sem] at K))|((first|((with_reducible refine at_box ?_);refine wm_box K rfl _ _ rfl rfl rfl ?_)|((with_reducible refine at_alloc ?_);refine wm_alloc (v := ?_) (cs := ?_) K rfl _ rfl ?_ ?_ ?_;rotate_left;(with_reducible first|exact zero106);rotate_left;exact rfl));(try clear K);(try clear ww);(first|((fail_if_success (have _h := b3));intro b3 ww K)|((fail_if_success (have _h := b9));intro b9 ww K));(try simp [go_sem, Value.cells] at K))|(go_at_call 107;(with_reducible refine (HM.out _).mono ?_);rintro e w2 ⟨rfl, rfl⟩;(try dsimp only))|(go_at_call 102;(with_reducible refine (HN.out _).mono ?_);rintro e w2 ⟨rfl, k1⟩;replace K := K.step k1;clear k1;(try clear ww);revert w2;intro ww K))
    go_ret2
    exact ⟨rfl, K.below⟩
  · have tg : decide (D ≤ MH) = false := decide_eq_false hg
    obtain ⟨q, hq⟩ : ∃ q, q = (MH * 18446744073709551616 + ML) / D := ⟨_, rfl⟩
    obtain ⟨r, hr⟩ : ∃ r, r = (MH * 18446744073709551616 + ML) % D := ⟨_, rfl⟩
    have HD := Lib.hid (Div64_at MH ML D q r hg F.low F.d1 hq hr)
    have bq : q < 18446744073709551616 := by rw [hq]; exact q_lt (by omega) F.low
    have br : r < D := by rw [hr]; exact Nat.mod_lt _ F.d0
    have E : Hid (dres MH ML D mode (!nb) = if fits64 (wv (!nb) (q + if upB mode r D (!nb) then 1 else 0)) then (wv (!nb) (q + if upB mode r D (!nb) then 1 else 0), 0) else (0, 10)) := Lib.hid (by unfold dres; rw [if_neg hg, ← hq, ← hr])
    rw [E.out]
    clear hq hr E hg
    cases hu : upB mode r D (!nb)
    · have HU := Lib.hid (up_at mode r D (!nb) false F.m0 F.m1 br F.d1 hu)
      rw [show (q + if (false = true) then 1 else 0) = q from rfl]
      clear hu br
      cases hf : fits64 (wv (!nb) q)
      · have HS := Lib.hid (signed_at q (!nb) false _ bq hf rfl)
        rw [if_neg (by simp)]
        generalize wrap64 (wv (!nb) q) = v at *
        clear hf F
        go_enter Try.func101, Try.ntmps101
        go_wp2_with (first|((with_reducible refine at_load ?_);first|(refine wm_load (cs := ?_) (t := ?_) (n := ?_) K rfl _ _ rfl rfl ?_ ?_ ?_ ?_;rotate_left 2;(repeat (first|exact At.hd|refine At.tl ?_));rotate_left;(with_reducible first|exact row106);(exact rfl))|(refine wm_own (cs := ?_) (t := ?_) (v := ?_) K rfl _ _ rfl rfl ?_ ?_ ?_ ?_;rotate_left 2;(repeat (first|exact At.hd|refine At.tl ?_));rotate_left;(exact rfl);(with_reducible first|exact one2|exact one104)))|((with_reducible refine at_store ?_);(first|(refine wm_store (L' := ?_) (cs := ?_) (t := ?_) (n := ?_) K rfl _ _ _ rfl rfl rfl rfl ?_ ?_ ?_ ?_ ?_ ?_;rotate_left 3;(repeat (exact Put.hd));rotate_left;(with_reducible first|exact row106);(exact rfl);(exact rfl);(simp [Ones, Value.oneCell'])));(try clear K);(try clear ww);intro ww K;(try simp [go_sem] at K))|((first|((with_reducible refine at_box ?_);refine wm_box K rfl _ _ rfl rfl rfl ?_)|((with_reducible refine at_alloc ?_);refine wm_alloc (v := ?_) (cs := ?_) K rfl _ rfl ?_ ?_ ?_;rotate_left;(with_reducible first|exact zero106);rotate_left;exact rfl));(try clear K);(try clear ww);(first|((fail_if_success (have _h := b3));intro b3 ww K)|((fail_if_success (have _h := b9));intro b9 ww K));(try simp [go_sem, Value.cells] at K))|(go_at_call 107;(with_reducible refine (HM.out _).mono ?_);rintro e w2 ⟨rfl, rfl⟩;(try dsimp only))|(go_at_call 119;(with_reducible refine (HD.out _).mono ?_);rintro e w2 ⟨rfl, k1⟩;replace K := K.step k1;clear k1;(try clear ww);revert w2;intro ww K)|(go_at_call 120;(with_reducible refine (HU.out _).mono ?_);rintro e w2 ⟨rfl, rfl⟩;(try dsimp only))|(go_at_call 121;(with_reducible refine (HS.out _).mono ?_);rintro e w2 ⟨rfl, rfl⟩;(try dsimp only))|(go_at_call 102;(with_reducible refine (HN.out _).mono ?_);rintro e w2 ⟨rfl, k1⟩;replace K := K.step k1;clear k1;(try clear ww);revert w2;intro ww K))
        go_ret2
        exact ⟨rfl, K.below⟩
      · have HS := Lib.hid (signed_at q (!nb) true (wv (!nb) q) bq hf (wrap64_fits hf).symm)
        rw [if_pos rfl]
        generalize wv (!nb) q = v at *
        clear hf F
        go_enter Try.func101, Try.ntmps101
        go_wp2_with (first|((with_reducible refine at_load ?_);first|(refine wm_load (cs := ?_) (t := ?_) (n := ?_) K rfl _ _ rfl rfl ?_ ?_ ?_ ?_;rotate_left 2;(repeat (first|exact At.hd|refine At.tl ?_));rotate_left;(with_reducible first|exact row106);(exact rfl))|(refine wm_own (cs := ?_) (t := ?_) (v := ?_) K rfl _ _ rfl rfl ?_ ?_ ?_ ?_;rotate_left 2;(repeat (first|exact At.hd|refine At.tl ?_));rotate_left;(exact rfl);(with_reducible first|exact one2|exact one104)))|((with_reducible refine at_store ?_);(first|(refine wm_store (L' := ?_) (cs := ?_) (t := ?_) (n := ?_) K rfl _ _ _ rfl rfl rfl rfl ?_ ?_ ?_ ?_ ?_ ?_;rotate_left 3;(repeat (exact Put.hd));rotate_left;(with_reducible first|exact row106);(exact rfl);(exact rfl);(simp [Ones, Value.oneCell'])));(try clear K);(try clear ww);intro ww K;(try simp [go_sem] at K))|((first|((with_reducible refine at_box ?_);refine wm_box K rfl _ _ rfl rfl rfl ?_)|((with_reducible refine at_alloc ?_);refine wm_alloc (v := ?_) (cs := ?_) K rfl _ rfl ?_ ?_ ?_;rotate_left;(with_reducible first|exact zero106);rotate_left;exact rfl));(try clear K);(try clear ww);(first|((fail_if_success (have _h := b3));intro b3 ww K)|((fail_if_success (have _h := b9));intro b9 ww K));(try simp [go_sem, Value.cells] at K))|(go_at_call 107;(with_reducible refine (HM.out _).mono ?_);rintro e w2 ⟨rfl, rfl⟩;(try dsimp only))|(go_at_call 119;(with_reducible refine (HD.out _).mono ?_);rintro e w2 ⟨rfl, k1⟩;replace K := K.step k1;clear k1;(try clear ww);revert w2;intro ww K)|(go_at_call 120;(with_reducible refine (HU.out _).mono ?_);rintro e w2 ⟨rfl, rfl⟩;(try dsimp only))|(go_at_call 121;(with_reducible refine (HS.out _).mono ?_);rintro e w2 ⟨rfl, rfl⟩;(try dsimp only))|(go_at_call 102;(with_reducible refine (HN.out _).mono ?_);rintro e w2 ⟨rfl, k1⟩;replace K := K.step k1;clear k1;(try clear ww);revert w2;intro ww K))
        go_ret2
        exact ⟨rfl, K.below⟩
    · have HU := Lib.hid (up_at mode r D (!nb) true F.m0 F.m1 br F.d1 hu)
      rw [if_pos rfl]
      clear hu br
      by_cases hov : q = 18446744073709551615
      · have e0 : IntKind.u64.wrap ((q : Int) + 1) = 0 := by rw [wrap_mod]; omega
        rw [big_of_fits (m := (!nb)) (a := q + 1) (by omega), if_neg (by simp)]
        clear hov bq F
        go_enter Try.func101, Try.ntmps101
        go_wp2_with (first|((with_reducible refine at_load ?_);first|(refine wm_load (cs := ?_) (t := ?_) (n := ?_) K rfl _ _ rfl rfl ?_ ?_ ?_ ?_;rotate_left 2;(repeat (first|exact At.hd|refine At.tl ?_));rotate_left;(with_reducible first|exact row106);(exact rfl))|(refine wm_own (cs := ?_) (t := ?_) (v := ?_) K rfl _ _ rfl rfl ?_ ?_ ?_ ?_;rotate_left 2;(repeat (first|exact At.hd|refine At.tl ?_));rotate_left;(exact rfl);(with_reducible first|exact one2|exact one104)))|((with_reducible refine at_store ?_);(first|(refine wm_store (L' := ?_) (cs := ?_) (t := ?_) (n := ?_) K rfl _ _ _ rfl rfl rfl rfl ?_ ?_ ?_ ?_ ?_ ?_;rotate_left 3;(repeat (exact Put.hd));rotate_left;(with_reducible first|exact row106);(exact rfl);(exact rfl);(simp [Ones, Value.oneCell'])));(try clear K);(try clear ww);intro ww K;(try simp [go_sem] at K))|((first|((with_reducible refine at_box ?_);refine wm_box K rfl _ _ rfl rfl rfl ?_)|((with_reducible refine at_alloc ?_);refine wm_alloc (v := ?_) (cs := ?_) K rfl _ rfl ?_ ?_ ?_;rotate_left;(with_reducible first|exact zero106);rotate_left;exact rfl));(try clear K);(try clear ww);(first|((fail_if_success (have _h := b3));intro b3 ww K)|((fail_if_success (have _h := b9));intro b9 ww K));(try simp [go_sem, Value.cells] at K))|(go_at_call 107;(with_reducible refine (HM.out _).mono ?_);rintro e w2 ⟨rfl, rfl⟩;(try dsimp only))|(go_at_call 119;(with_reducible refine (HD.out _).mono ?_);rintro e w2 ⟨rfl, k1⟩;replace K := K.step k1;clear k1;(try clear ww);revert w2;intro ww K)|(go_at_call 120;(with_reducible refine (HU.out _).mono ?_);rintro e w2 ⟨rfl, rfl⟩;(try dsimp only))|(go_at_call 102;(with_reducible refine (HN.out _).mono ?_);rintro e w2 ⟨rfl, k1⟩;replace K := K.step k1;clear k1;(try clear ww);revert w2;intro ww K))
        go_ret2
        exact ⟨rfl, K.below⟩
      · have e0 : IntKind.u64.wrap ((q : Int) + 1) = (q : Int) + 1 := by rw [wrap_mod]; omega
        have e1 : ((q : Int) + 1 == 0) = false := by simp; omega
        have bq1 : q + 1 < 18446744073709551616 := by omega
        cases hf : fits64 (wv (!nb) (q + 1))
        · have HS := Lib.hid (signed_next q (!nb) false _ bq1 hf rfl)
          rw [if_neg (by simp)]
          generalize wrap64 (wv (!nb) (q + 1)) = v at *
          clear hf F hov bq bq1
          go_enter Try.func101, Try.ntmps101
          go_wp2_with (first|((with_reducible refine at_load ?_);first|(refine wm_load (cs := ?_) (t := ?_) (n := ?_) K rfl _ _ rfl rfl ?_ ?_ ?_ ?_;rotate_left 2;(repeat (first|exact At.hd|refine At.tl ?_));rotate_left;(with_reducible first|exact row106);(exact rfl))|(refine wm_own (cs := ?_) (t := ?_) (v := ?_) K rfl _ _ rfl rfl ?_ ?_ ?_ ?_;rotate_left 2;(repeat (first|exact At.hd|refine At.tl ?_));rotate_left;(exact rfl);(with_reducible first|exact one2|exact one104)))|((with_reducible refine at_store ?_);(first|(refine wm_store (L' := ?_) (cs := ?_) (t := ?_) (n := ?_) K rfl _ _ _ rfl rfl rfl rfl ?_ ?_ ?_ ?_ ?_ ?_;rotate_left 3;(repeat (exact Put.hd));rotate_left;(with_reducible first|exact row106);(exact rfl);(exact rfl);(simp [Ones, Value.oneCell'])));(try clear K);(try clear ww);intro ww K;(try simp [go_sem] at K))|((first|((with_reducible refine at_box ?_);refine wm_box K rfl _ _ rfl rfl rfl ?_)|((with_reducible refine at_alloc ?_);refine wm_alloc (v := ?_) (cs := ?_) K rfl _ rfl ?_ ?_ ?_;rotate_left;(with_reducible first|exact zero106);rotate_left;exact rfl));(try clear K);(try clear ww);(first|((fail_if_success (have _h := b3));intro b3 ww K)|((fail_if_success (have _h := b9));intro b9 ww K));(try simp [go_sem, Value.cells] at K))|(go_at_call 107;(with_reducible refine (HM.out _).mono ?_);rintro e w2 ⟨rfl, rfl⟩;(try dsimp only))|(go_at_call 119;(with_reducible refine (HD.out _).mono ?_);rintro e w2 ⟨rfl, k1⟩;replace K := K.step k1;clear k1;(try clear ww);revert w2;intro ww K)|(go_at_call 120;(with_reducible refine (HU.out _).mono ?_);rintro e w2 ⟨rfl, rfl⟩;(try dsimp only))|(go_at_call 121;(with_reducible refine (HS.out _).mono ?_);rintro e w2 ⟨rfl, rfl⟩;(try dsimp only))|(go_at_call 102;(with_reducible refine (HN.out _).mono ?_);rintro e w2 ⟨rfl, k1⟩;replace K := K.step k1;clear k1;(try clear ww);revert w2;intro ww K))
          go_ret2
          exact ⟨rfl, K.below⟩
        · have HS := Lib.hid (signed_next q (!nb) true (wv (!nb) (q + 1)) bq1 hf (wrap64_fits hf).symm)
          rw [if_pos rfl]
          generalize wv (!nb) (q + 1) = v at *
          clear hf F hov bq bq1
          go_enter Try.func101, Try.ntmps101
          go_wp2_with (first|((with_reducible refine at_load ?_);first|(refine wm_load (cs := ?_) (t := ?_) (n := ?_) K rfl _ _ rfl rfl ?_ ?_ ?_ ?_;rotate_left 2;(repeat (first|exact At.hd|refine At.tl ?_));rotate_left;(with_reducible first|exact row106);(exact rfl))|(refine wm_own (cs := ?_) (t := ?_) (v := ?_) K rfl _ _ rfl rfl ?_ ?_ ?_ ?_;rotate_left 2;(repeat (first|exact At.hd|refine At.tl ?_));rotate_left;(exact rfl);(with_reducible first|exact one2|exact one104)))|((with_reducible refine at_store ?_);(first|(refine wm_store (L' := ?_) (cs := ?_) (t := ?_) (n := ?_) K rfl _ _ _ rfl rfl rfl rfl ?_ ?_ ?_ ?_ ?_ ?_;rotate_left 3;(repeat (exact Put.hd));rotate_left;(with_reducible first|exact row106);(exact rfl);(exact rfl);(simp [Ones, Value.oneCell'])));(try clear K);(try clear ww);intro ww K;(try simp [go_sem] at K))|((first|((with_reducible refine at_box ?_);refine wm_box K rfl _ _ rfl rfl rfl ?_)|((with_reducible refine at_alloc ?_);refine wm_alloc (v := ?_) (cs := ?_) K rfl _ rfl ?_ ?_ ?_;rotate_left;(with_reducible first|exact zero106);rotate_left;exact rfl));(try clear K);(try clear ww);(first|((fail_if_success (have _h := b3));intro b3 ww K)|((fail_if_success (have _h := b9));intro b9 ww K));(try simp [go_sem, Value.cells] at K))|(go_at_call 107;(with_reducible refine (HM.out _).mono ?_);rintro e w2 ⟨rfl, rfl⟩;(try dsimp only))|(go_at_call 119;(with_reducible refine (HD.out _).mono ?_);rintro e w2 ⟨rfl, k1⟩;replace K := K.step k1;clear k1;(try clear ww);revert w2;intro ww K)|(go_at_call 120;(with_reducible refine (HU.out _).mono ?_);rintro e w2 ⟨rfl, rfl⟩;(try dsimp only))|(go_at_call 121;(with_reducible refine (HS.out _).mono ?_);rintro e w2 ⟨rfl, rfl⟩;(try dsimp only))|(go_at_call 102;(with_reducible refine (HN.out _).mono ?_);rintro e w2 ⟨rfl, k1⟩;replace K := K.step k1;clear k1;(try clear ww);revert w2;intro ww K))
          go_ret2
          exact ⟨rfl, K.below⟩
theorem dres_eq {z b mode : Int} {MH ML : Nat} (hm : z.natAbs = MH * 18446744073709551616 + ML) (hg : badB b mode = false) (hb : b ≠ 0) : dres MH ML b.natAbs mode (decide (z < 0) != decide (b < 0)) = divM z b mode := by
  rw [divM_good hg]
  unfold dres
  by_cases h : b.natAbs ≤ MH
  · rw [if_pos h, qMag_big (z := z) (b := b) (mode := mode) ?_ hb, if_neg (by simp)]
    have := Nat.mul_le_mul_right 18446744073709551616 h
    omega
  · rw [if_neg h, ← hm]; rfl
theorem Div_wide (z b mode : Int) (w : World) (z0 : -170141183460469231731687303715884105728 ≤ z) (z1 : z < 170141183460469231731687303715884105728) (b0 : -9223372036854775808 ≤ b) (b1 : b ≤ 9223372036854775807) :
    Calls Try.prog 101 #[.agg (wI z), .int .i64 b, .int .i64 mode] w fun e w' => e = .returned (.tuple #[.int .i64 (divM z b mode).1, .int .i64 (divM z b mode).2]) ∧ Below w.heap.size w w' := by
  cases hg : badB b mode
  · obtain ⟨H, L, mh, MH, ML, M⟩ := Mp.of z0 z1
    have hx := hg
    unfold badB at hx
    simp only [Bool.or_eq_false_iff, decide_eq_false_iff_not] at hx
    have hb := hx.1.1
    rw [← dres_eq M.all hg hb, M.own, ← M.sign]
    have F : ∀ mh' ML' ng, (H < 0 → mh' = mh ∧ ML' = ML) → (¬ H < 0 → mh' = H ∧ ML' = L) → ML' < 18446744073709551616 → Dw H L mh' MH ML' b.natAbs b mode (decide (b < 0)) ng := fun mh' ML' ng h1 h2 h3 =>
      ⟨fun hn w => by
        have hz : z < 0 := by have := M.sign; rw [decide_eq_true hn] at this; exact of_decide_eq_true this.symm
        obtain ⟨rfl, rfl⟩ := h1 hn
        rw [← M.own, ← M.neg hz]
        exact Neg_any z w z0 z1, h2, h3, by omega, by omega, fun w => magnitude_any b w b0 b1, by omega, by omega⟩
    by_cases hn : H < 0
    · rw [decide_eq_true hn, Bool.true_bne]
      exact Div_neg H L mh MH ML b.natAbs b mode _ w (F mh ML _ (fun _ => ⟨rfl, rfl⟩) (fun h => absurd hn h) M.low) (by simpa using hb) (decide_eq_false hx.1.2) (decide_eq_false hx.2) (decide_eq_true hn) rfl M.up
    · have hz : ¬ z < 0 := by have := M.sign; rw [decide_eq_false hn] at this; exact of_decide_eq_false this.symm
      obtain ⟨rfl, rfl⟩ := M.pos hz
      rw [decide_eq_false hn, Bool.false_bne]
      exact Div_pos _ _ MH b.natAbs b mode _ w (F _ _ _ (fun h => absurd h hn) (fun _ => ⟨rfl, rfl⟩) M.low) (by simpa using hb) (decide_eq_false hx.1.2) (decide_eq_false hx.2) (decide_eq_false hn) rfl M.up
  · exact Div_bad z b mode w hg
theorem mul_in {x y : Int} (x0 : -9223372036854775808 ≤ x) (x1 : x ≤ 9223372036854775807) (y0 : -9223372036854775808 ≤ y) (y1 : y ≤ 9223372036854775807) : -170141183460469231731687303715884105728 ≤ x * y ∧ x * y < 170141183460469231731687303715884105728 := by
  have := mul_bd x0 x1 y0 y1
  omega
set_option maxHeartbeats 1000000 in
theorem MulDiv_any (x y b mode : Int) (w : World) (x0 : -9223372036854775808 ≤ x) (x1 : x ≤ 9223372036854775807) (y0 : -9223372036854775808 ≤ y) (y1 : y ≤ 9223372036854775807) (b0 : -9223372036854775808 ≤ b) (b1 : b ≤ 9223372036854775807) :
    Calls Try.prog 57 #[.int .i64 x, .int .i64 y, .int .i64 b, .int .i64 mode] w fun e w' => e = .returned (.tuple #[.int .i64 (divM (x * y) b mode).1, .int .i64 (divM (x * y) b mode).2]) ∧ Below w.heap.size w w' := by
  have K := St.start w
  have HM := Lib.hid (fun w => Mul_wide x y w x0 x1 y0 y1)
  have HD := Lib.hid (fun w => Div_wide (x * y) b mode w (mul_in x0 x1 y0 y1).1 (mul_in x0 x1 y0 y1).2 b0 b1)
  clear x0 x1 y0 y1 b0 b1
  generalize divM (x * y) b mode = r at *
  obtain ⟨r1, r2⟩ := r
  go_enter Try.func57, Try.ntmps57
  go_wp2_with (first|(go_at_call 64;(with_reducible refine (HM.out _).mono ?_);rintro e w2 ⟨rfl, k1⟩;replace K := K.step k1;clear k1;(try clear ww);revert w2;intro ww K)|(go_at_call 101;(with_reducible refine (HD.out _).mono ?_);rintro e w2 ⟨rfl, k1⟩;replace K := K.step k1;clear k1;(try clear ww);revert w2;intro ww K))
  go_ret2
  exact ⟨rfl, K.below⟩
end Go.Proofs.Ytpejoaefnnbghaa
namespace Go.Proofs.Ytpejoaefnnbghaa
open Go.RowKit
set_option linter.unusedVariables false

theorem eqI64 (d : Nat) (p q : Int) (w : World) : (Op.equalIn (d + 1) 2 (.int .i64 p) (.int .i64 q)).run Try.prog w = .ok (p == q) w := by simp [Op.equalIn, run_underlying Try.underlying2]
theorem eqU64 (d : Nat) (p q : Int) (w : World) : (Op.equalIn (d + 1) 104 (.int .u64 p) (.int .u64 q)).run Try.prog w = .ok (p == q) w := by simp [Op.equalIn, run_underlying Try.underlying104]
theorem partI64 (cs : Array Value) (i : Nat) (v : Value) (h : cs[i]? = some v) (w : World) : (part 2 cs i).run Try.prog w = .ok v w := by simp [part, isAgg, Sem.run_bind, run_underlying Try.underlying2, h]
theorem partU64 (cs : Array Value) (i : Nat) (v : Value) (h : cs[i]? = some v) (w : World) : (part 104 cs i).run Try.prog w = .ok v w := by simp [part, isAgg, Sem.run_bind, run_underlying Try.underlying104, h]
theorem equalIn_wide (h1 h2 l1 l2 : Int) (w : World) : (Op.equalIn 10000 106 (.agg #[.int .i64 h1, .int .u64 l1]) (.agg #[.int .i64 h2, .int .u64 l2])).run Try.prog w = .ok (decide (h1 = h2 ∧ l1 = l2)) w := by
  rw [show (10000 : Nat) = 9998 + 1 + 1 from rfl, run_equalIn_struct w (9998 + 1) 106 _ _ (by kernel_rfl) (by kernel_rfl)]
  obtain ⟨f, g, hfg, h1', h2', h3, h4, h5, h6⟩ : ∃ f g : Field, (Try.prog.fieldsOf 106).toList = [f, g] ∧ f.type = 2 ∧ f.offset = 0 ∧ g.type = 104 ∧ g.offset = 1 ∧ f.name = "Hi" ∧ g.name = "Lo" := ⟨(Try.prog.fieldsOf 106)[0]!, (Try.prog.fieldsOf 106)[1]!, by kernel_rfl, by kernel_rfl, by kernel_rfl, by kernel_rfl, by kernel_rfl, by kernel_rfl, by kernel_rfl⟩
  have h7 : f.name ≠ "_" := by rw [h5]; decide
  have h8 : g.name ≠ "_" := by rw [h6]; decide
  rw [hfg]
  simp only [Op.eqFields, h1', h2', h3, h4, if_pos h7, if_pos h8]
  have a1 := fun w => partI64 #[.int .i64 h1, .int .u64 l1] 0 (.int .i64 h1) rfl w
  have a2 := fun w => partI64 #[.int .i64 h2, .int .u64 l2] 0 (.int .i64 h2) rfl w
  have a3 := fun w => partU64 #[.int .i64 h1, .int .u64 l1] 1 (.int .u64 l1) rfl w
  have a4 := fun w => partU64 #[.int .i64 h2, .int .u64 l2] 1 (.int .u64 l2) rfl w
  have a5 := fun w => eqI64 9998 h1 h2 w
  have a6 := fun w => eqU64 9998 l1 l2 w
  simp only [Sem.run_bind, a1, a2, a5, Result.andThen_ok]
  by_cases a : h1 = h2
  · rw [show (h1 == h2) = true by simpa using a]
    simp only [Bool.not_true, Bool.false_eq_true, if_false, Sem.run_bind, a3, a4, a6, Result.andThen_ok]
    by_cases b : l1 = l2
    · rw [show (l1 == l2) = true by simpa using b]
      simp [a, b]
    · rw [show (l1 == l2) = false by simpa using b]
      simp [a, b]
  · rw [show (h1 == h2) = false by simpa using a]
    simp [a]
theorem guardW (x y : Operand) (xs ys : Array Value) (w : World) : (eqGuard .eql 106 x y (.agg xs) (.agg ys)).run Try.prog w = .ok () w := run_eqGuard_agg w .eql 106 x y xs ys (by kernel_rfl)

set_option maxHeartbeats 1000000 in
theorem Cmp_wide (x y : Int) (w : World) :
    Calls Try.prog 108 #[.agg (wI x), .agg (wI y)] w fun e w' => e = .returned (.int .i64 (cmpI x y)) ∧ Below w.heap.size w w' := by
  have K := St.start w
  obtain ⟨H, hH⟩ : ∃ H : Int, H = x / 18446744073709551616 := ⟨_, rfl⟩
  obtain ⟨L, hL⟩ : ∃ L : Int, L = x % 18446744073709551616 := ⟨_, rfl⟩
  obtain ⟨H2, hH2⟩ : ∃ H : Int, H = y / 18446744073709551616 := ⟨_, rfl⟩
  obtain ⟨L2, hL2⟩ : ∃ L : Int, L = y % 18446744073709551616 := ⟨_, rfl⟩
  have ex : wI x = #[.int .i64 H, .int .u64 L] := by unfold wI; rw [hH, hL]
  have ey : wI y = #[.int .i64 H2, .int .u64 L2] := by unfold wI; rw [hH2, hL2]
  have eg := guardW
  have eq1 := fun w => equalIn_wide H H2 L L2 w
  rw [ex, ey]
  by_cases h1 : H < H2
  · have E : Hid (cmpI x y = -1) := Lib.hid (by unfold cmpI; rw [if_pos (by omega)])
    clear hH hL hH2 hL2 ex ey
    go_enter Try.func108, Try.ntmps108
    go_wp2_with (first|go_big_skip|((with_reducible refine at_load ?_);first|(refine wm_own (cs := ?_) (t := ?_) (v := ?_) K rfl _ _ rfl rfl ?_ ?_ ?_ ?_;rotate_left 2;(repeat (first|exact At.hd|refine At.tl ?_));rotate_left;(exact rfl);(with_reducible first|exact one2)))|((first|((with_reducible refine at_box ?_);refine wm_box K rfl _ _ rfl rfl rfl ?_));(try clear K);(try clear ww);(first|((fail_if_success (have _h := b2));intro b2 ww K)|((fail_if_success (have _h := b3));intro b3 ww K));(try simp [go_sem, Value.cells] at K)))
    go_ret
    exact ⟨by rw [E.out]; rfl, K.below⟩
  · have t1 : decide (H < H2) = false := decide_eq_false h1
    by_cases h2 : H = H2
    · subst h2
      by_cases h3 : L < L2
      · have E : Hid (cmpI x y = -1) := Lib.hid (by unfold cmpI; rw [if_pos (by omega)])
        clear hH hL hH2 hL2 ex ey
        go_enter Try.func108, Try.ntmps108
        go_wp2_with (first|((with_reducible refine at_load ?_);first|(refine wm_own (cs := ?_) (t := ?_) (v := ?_) K rfl _ _ rfl rfl ?_ ?_ ?_ ?_;rotate_left 2;(repeat (first|exact At.hd|refine At.tl ?_));rotate_left;(exact rfl);(with_reducible first|exact one2|exact one104)))|((first|((with_reducible refine at_box ?_);refine wm_box K rfl _ _ rfl rfl rfl ?_));(try clear K);(try clear ww);(first|((fail_if_success (have _h := b2));intro b2 ww K)|((fail_if_success (have _h := b3));intro b3 ww K));(try simp [go_sem, Value.cells] at K)))
        go_ret
        exact ⟨by rw [E.out]; rfl, K.below⟩
      · have t3 : decide (L < L2) = false := decide_eq_false h3
        by_cases h4 : L = L2
        · subst h4
          have E : Hid (cmpI x y = 0) := Lib.hid (by unfold cmpI; rw [if_neg (by omega), if_pos (by omega)])
          rw [decide_eq_true ⟨rfl, rfl⟩] at eq1
          clear hH hL hH2 hL2 ex ey
          go_enter Try.func108, Try.ntmps108
          go_wp2_with (first|((with_reducible refine at_load ?_);first|(refine wm_load (cs := ?_) (t := ?_) (n := ?_) K rfl _ _ rfl rfl ?_ ?_ ?_ ?_;rotate_left 2;(repeat (first|exact At.hd|refine At.tl ?_));rotate_left;(with_reducible first|exact row106);(exact rfl))|(refine wm_own (cs := ?_) (t := ?_) (v := ?_) K rfl _ _ rfl rfl ?_ ?_ ?_ ?_;rotate_left 2;(repeat (first|exact At.hd|refine At.tl ?_));rotate_left;(exact rfl);(with_reducible first|exact one2|exact one104)))|((first|((with_reducible refine at_box ?_);refine wm_box K rfl _ _ rfl rfl rfl ?_));(try clear K);(try clear ww);(first|((fail_if_success (have _h := b2));intro b2 ww K)|((fail_if_success (have _h := b3));intro b3 ww K));(try simp [go_sem, Value.cells] at K)))
          go_ret
          exact ⟨by rw [E.out]; rfl, K.below⟩
        · have E : Hid (cmpI x y = 1) := Lib.hid (by unfold cmpI; rw [if_neg (by omega), if_neg (by omega)])
          rw [decide_eq_false (fun h => h4 h.2)] at eq1
          clear hH hL hH2 hL2 ex ey
          go_enter Try.func108, Try.ntmps108
          go_wp2_with (first|((with_reducible refine at_load ?_);first|(refine wm_load (cs := ?_) (t := ?_) (n := ?_) K rfl _ _ rfl rfl ?_ ?_ ?_ ?_;rotate_left 2;(repeat (first|exact At.hd|refine At.tl ?_));rotate_left;(with_reducible first|exact row106);(exact rfl))|(refine wm_own (cs := ?_) (t := ?_) (v := ?_) K rfl _ _ rfl rfl ?_ ?_ ?_ ?_;rotate_left 2;(repeat (first|exact At.hd|refine At.tl ?_));rotate_left;(exact rfl);(with_reducible first|exact one2|exact one104)))|((first|((with_reducible refine at_box ?_);refine wm_box K rfl _ _ rfl rfl rfl ?_));(try clear K);(try clear ww);(first|((fail_if_success (have _h := b2));intro b2 ww K)|((fail_if_success (have _h := b3));intro b3 ww K));(try simp [go_sem, Value.cells] at K)))
          go_ret
          exact ⟨by rw [E.out]; rfl, K.below⟩
    · have t2 : (H == H2) = false := by simpa using h2
      have E : Hid (cmpI x y = 1) := Lib.hid (by unfold cmpI; rw [if_neg (by omega), if_neg (by omega)])
      rw [decide_eq_false (fun h => h2 h.1)] at eq1
      clear hH hL hH2 hL2 ex ey
      go_enter Try.func108, Try.ntmps108
      go_wp2_with (first|go_big_skip|((with_reducible refine at_load ?_);first|(refine wm_load (cs := ?_) (t := ?_) (n := ?_) K rfl _ _ rfl rfl ?_ ?_ ?_ ?_;rotate_left 2;(repeat (first|exact At.hd|refine At.tl ?_));rotate_left;(with_reducible first|exact row106);(exact rfl))|(refine wm_own (cs := ?_) (t := ?_) (v := ?_) K rfl _ _ rfl rfl ?_ ?_ ?_ ?_;rotate_left 2;(repeat (first|exact At.hd|refine At.tl ?_));rotate_left;(exact rfl);(with_reducible first|exact one2)))|((first|((with_reducible refine at_box ?_);refine wm_box K rfl _ _ rfl rfl rfl ?_));(try clear K);(try clear ww);(first|((fail_if_success (have _h := b2));intro b2 ww K)|((fail_if_success (have _h := b3));intro b3 ww K));(try simp [go_sem, Value.cells] at K)))
      go_ret
      exact ⟨by rw [E.out]; rfl, K.below⟩

end Go.Proofs.Ytpejoaefnnbghaa
