/-
  The walk of math/bits.Div64: a number of 128 bits divided by one of 64.
-/
import Derived.Test.YteancdipmpmjpaaV03
import Derived.Lib.ItoaNum
import Derived.Deep.Cut
import Derived.Deep.CutBlock
namespace Go.Proofs.Yteancdipmpmjpaa
open Go.RowKit
set_option linter.unusedVariables false

theorem lz_any (y s : Nat) (w : World) (h0 : 0 < y) (h : y < 18446744073709551616) (hs : 64 - (Lib.bitLen y : Int) = s) :
    Calls Try.prog 136 #[.int .u64 y] w fun e w' => e = .returned (.int .i64 s) ∧ w = w' := by
  refine Calls.mono (Try.bits_LeadingZeros64 y w (by omega) (by omega)) ?_
  rintro e w' ⟨rfl, hw⟩
  exact ⟨by rw [Int.toNat_natCast, hs], hw.symm⟩
structure Dv (hi lo y s Y y1 y0 u N u1 u0 q0 r0 : Nat) : Prop where
  eY : Y = y * 2 ^ s
  eN : N = lo * 2 ^ s % 18446744073709551616
  eu : u = hi * 2 ^ s + lo / 2 ^ (64 - s)
  ey : Y = y1 * 4294967296 + y0
  en : N = u1 * 4294967296 + u0
  by1 : 2147483648 ≤ y1
  by2 : y1 < 4294967296
  by0 : y0 < 4294967296
  bu1 : u1 < 4294967296
  bu0 : u0 < 4294967296
  bu : u < Y
  bs : s ≤ 63
  eq : q0 = u / y1
  er : r0 = u % y1
theorem wrap_mod (n : Int) : IntKind.u64.wrap n = n % 18446744073709551616 := IntKind.wrap_u64 n
theorem Dv.mid {hi lo y s Y y1 y0 u N u1 u0 q0 r0 qa v q2 r2 : Nat} (D : Dv hi lo y s Y y1 y0 u N u1 u0 q0 r0) (ha : qa = (u * 4294967296 + u1) / (y1 * 4294967296 + y0)) (hv : v = (u * 4294967296 + u1) % Y) (h2 : q2 = v / y1) (h3 : r2 = v % y1) :
    (v < Y ∧ q2 = v / y1 ∧ r2 = v % y1) ∧ IntKind.u64.wrap (IntKind.u64.wrap (IntKind.u64.wrap ((u : Int) * 4294967296) + u1) - IntKind.u64.wrap ((qa : Int) * Y)) = v ∧ (v : Int) / y1 = q2 ∧ IntKind.u64.wrap (q2 : Int) = q2 ∧ IntKind.u64.wrap ((v : Int) - IntKind.u64.wrap ((q2 : Int) * y1)) = r2 := by
  have hY := D.ey
  have b1 := D.by1
  have b2 := D.by2
  have b3 := D.by0
  have hY0 : 0 < Y := by omega
  have hvY : v < Y := by rw [hv]; exact Nat.mod_lt _ hY0
  have hd := Nat.div_add_mod (u * 4294967296 + u1) Y
  have hd2 := Nat.div_add_mod v y1
  have hq : q2 ≤ v := by rw [h2]; exact Nat.div_le_self _ _
  rw [← hY] at ha
  rw [← ha, ← hv] at hd
  rw [← h2, ← h3] at hd2
  refine ⟨⟨hvY, h2, h3⟩, ?_, ?_, ?_, ?_⟩
  · rw [← Int.natCast_mul, Nat.mul_comm qa Y]
    simp only [wrap_mod]
    generalize Y * qa = p at *
    omega
  · rw [h2]; rfl
  · rw [wrap_mod]; omega
  · rw [← Int.natCast_mul, Nat.mul_comm q2 y1]
    simp only [wrap_mod]
    have : r2 < y1 := by rw [h3]; exact Nat.mod_lt _ (by omega)
    generalize y1 * q2 = p at *
    omega
theorem Dv.last {hi lo y s Y y1 y0 u N u1 u0 q0 r0 qa v qb : Nat} (D : Dv hi lo y s Y y1 y0 u N u1 u0 q0 r0) (h : hi < y) (hl : lo < 18446744073709551616) (ha : qa = (u * 4294967296 + u1) / (y1 * 4294967296 + y0)) (hv : v = (u * 4294967296 + u1) % Y) (hb : qb = (v * 4294967296 + u0) / (y1 * 4294967296 + y0)) :
    IntKind.u64.wrap (IntKind.u64.wrap ((qa : Int) * 4294967296) + qb) = ((hi * 18446744073709551616 + lo) / y : Nat) ∧ IntKind.u64.wrap (IntKind.u64.wrap (IntKind.u64.wrap ((v : Int) * 4294967296) + u0) - IntKind.u64.wrap ((qb : Int) * Y)) / 2 ^ s = ((hi * 18446744073709551616 + lo) % y : Nat) := by
  have hY := D.ey
  have b1 := D.by1
  have b2 := D.by2
  have b3 := D.by0
  have hY0 : 0 < Y := by omega
  have hy0 : 0 < y := by omega
  rw [← hY] at ha hb
  have t := two_digits (u * 4294967296 + u1) u0 Y hY0
  rw [← ha, ← hv, ← hb] at t
  have em := moved hi lo s D.bs hl
  rw [← D.eu, ← D.eN, D.en] at em
  have eU : (u * 4294967296 + u1) * 4294967296 + u0 = (hi * 18446744073709551616 + lo) * 2 ^ s := by rw [em]; omega
  have sd := shift_div (hi * 18446744073709551616 + lo) y s
  rw [← D.eY, ← eU] at sd
  obtain ⟨t1, t2⟩ := t
  rw [sd.1] at t1
  have bq : (hi * 18446744073709551616 + lo) / y < 18446744073709551616 := by
    rw [Nat.div_lt_iff_lt_mul hy0, Nat.mul_comm]
    have : (hi + 1) * 18446744073709551616 ≤ y * 18446744073709551616 := Nat.mul_le_mul_right _ h
    omega
  have hd := Nat.div_add_mod (v * 4294967296 + u0) Y
  rw [← hb, t2] at hd
  have hr : ((u * 4294967296 + u1) * 4294967296 + u0) % Y < Y := Nat.mod_lt _ hY0
  refine ⟨?_, ?_⟩
  · rw [← t1, wrap_mod, wrap_mod]
    obtain ⟨k, hk⟩ : ∃ k, k = (hi * 18446744073709551616 + lo) / y := ⟨_, rfl⟩
    rw [← hk] at t1 bq
    omega
  · rw [← sd.2]
    obtain ⟨R, hR⟩ : ∃ R, R = ((u * 4294967296 + u1) * 4294967296 + u0) % Y := ⟨_, rfl⟩
    rw [← hR] at hd hr ⊢
    have e : IntKind.u64.wrap (IntKind.u64.wrap (IntKind.u64.wrap ((v : Int) * 4294967296) + u0) - IntKind.u64.wrap ((qb : Int) * Y)) = (R : Int) := by
      rw [← Int.natCast_mul, Nat.mul_comm qb Y]
      simp only [wrap_mod]
      generalize Y * qb = p at *
      omega
    rw [e]; simp
set_option maxHeartbeats 4000000 in
set_option maxRecDepth 100000 in
theorem Div64_walk (hi lo y s Y y1 y0 u N u1 u0 q0 r0 : Nat) (w : World) (D : Dv hi lo y s Y y1 y0 u N u1 u0 q0 r0) (h0 : hi ≠ 0) (hl : lo < 18446744073709551616) (h : hi < y) (hy : y < 18446744073709551616) (hs : 64 - (Lib.bitLen y : Int) = s)
    (eY : IntKind.u64.wrap ((y : Int) * 2 ^ s) = Y) (e1 : (Y : Int) / 4294967296 = y1) (e2 : bits .and .u64 (Y : Int) 4294967295 = y0)
    (e3 : bits .or .u64 (IntKind.u64.wrap ((hi : Int) * 2 ^ s)) ((lo : Int) / 2 ^ (64 - s)) = u) (e4 : IntKind.u64.wrap ((lo : Int) * 2 ^ s) = N) (e5 : (N : Int) / 4294967296 = u1) (e6 : bits .and .u64 (N : Int) 4294967295 = u0)
    (e7 : (u : Int) / y1 = q0) (e9 : IntKind.u64.wrap (q0 : Int) = q0) (e8 : IntKind.u64.wrap ((u : Int) - IntKind.u64.wrap ((q0 : Int) * y1)) = r0) :
    Calls Try.prog 130 #[.int .u64 hi, .int .u64 lo, .int .u64 y] w fun e w' => e = .returned (.tuple #[.int .u64 ((hi * 18446744073709551616 + lo) / y : Nat), .int .u64 ((hi * 18446744073709551616 + lo) % y : Nat)]) ∧ w = w' := by
  have hy0 : ((y : Int) == 0) = false := by simp; omega
  have hyl : decide (y ≤ hi) = false := decide_eq_false (by omega)
  have hh : ((hi : Int) == 0) = false := by simp; omega
  have q1 : ¬ y1 = 0 := by have := D.by1; omega
  have HD := Lib.hid D
  have hlz := fun w => lz_any y s w (by omega) hy hs
  have hbs := D.bs
  clear D
  go_enter Try.func130, Try.ntmps130
  go_upto_block 0 with (go_at_call 136; (with_reducible refine (hlz _).mono ?_); rintro e w2 ⟨rfl, rfl⟩; (try dsimp only))
  go_cut [15] from 67 to 85 (fun q wc => ∃ qn : Nat, q = .int .u64 qn ∧ Hid (qn = (u * 4294967296 + u1) / (y1 * 4294967296 + y0)) ∧ w = wc)
  case first =>
    go_wp2_with fail
    go_loop [15, 16] (fun q r => ∃ qn rn : Nat, q = .int .u64 qn ∧ r = .int .u64 rn ∧ Hid (Gs y1 y0 u u1 qn rn)) (fun q _ => (intOf q).toNat)
    case atStart => exact ⟨q0, r0, rfl, rfl, Lib.hid (by rw [HD.out.eq, HD.out.er]; exact Gs.start HD.out.by1 HD.out.by2 HD.out.by0 (by have := HD.out.bu; have := HD.out.ey; omega) HD.out.bu1)⟩
    case round =>
      obtain ⟨qn, rn, rfl, rfl, G⟩ := hrel
      clear eY e1 e2 e3 e4 e5 e6 e7 e9 e8 hlz hy0 hyl hh q1
      have by1 := HD.out.by1
      have by2 := HD.out.by2
      have bu1 := HD.out.bu1
      have brn := G.out.rest
      have bqn := G.out.hi
      have bq0 : 0 ≤ (qn : Int) - 1 ∨ qn = 0 := by omega
      obtain ⟨P, hP⟩ : ∃ P, P = qn * y0 := ⟨_, rfl⟩
      have bP : P < 18446744073709551616 := by rw [hP]; exact G.out.prod HD.out.by0
      have eP : IntKind.u64.wrap ((qn : Int) * (y0 : Int)) = (P : Int) := by
        rw [← Int.natCast_mul, ← hP, IntKind.wrap_u64]; omega
      by_cases g : 4294967296 ≤ qn ∨ 4294967296 * rn + u1 < P
      · have q1 : 1 ≤ qn := by
          have := G.out.less (by omega) (by have := HD.out.bu; have := HD.out.ey; omega) bu1 (by rw [← hP]; exact g)
          exact Nat.lt_of_le_of_lt (Nat.zero_le _) this
        have HB : 4294967296 ≤ rn + y1 → Hid (qn - 1 = (u * 4294967296 + u1) / (y1 * 4294967296 + y0)) := fun hb => Lib.hid (G.out.brk (by omega) HD.out.by0 (by have := HD.out.bu; have := HD.out.ey; omega) bu1 (by rw [← hP]; exact g) hb).symm
        have HN : rn + y1 < 4294967296 → Hid (Gs y1 y0 u u1 (qn - 1) (rn + y1)) := fun hb => Lib.hid (G.out.next (by omega) (by have := HD.out.bu; have := HD.out.ey; omega) bu1 (by rw [← hP]; exact g) hb)
        clear hP
        obtain ⟨p, rfl⟩ : ∃ p, qn = p + 1 := ⟨qn - 1, by omega⟩
        rw [show p + 1 - 1 = p by omega] at HB HN
        have eP' : IntKind.u64.wrap (((p : Int) + 1) * (y0 : Int)) = (P : Int) := eP
        clear eP
        have er : Hid (((rn : Int) + y1) = ((rn + y1 : Nat) : Int)) := Lib.hid (by omega)
        have T1 : (4294967296 ≤ (p : Int) + 1 → decide (4294967296 ≤ (p : Int) + 1) = true) ∧ (¬ 4294967296 ≤ (p : Int) + 1 → decide (4294967296 ≤ (p : Int) + 1) = false) := ⟨decide_eq_true, decide_eq_false⟩
        have HT1 := Lib.hid T1
        have T2 : Hid (¬ 4294967296 ≤ p + 1 → decide (4294967296 * (rn : Int) + u1 < P) = true) := Lib.hid (fun h => decide_eq_true (by omega))
        clear T1
        by_cases hb : 4294967296 ≤ rn + y1
        · replace HB := HB hb
          have T3 : decide (4294967296 ≤ (rn : Int) + y1) = true := decide_eq_true (by omega)
          clear HN G
          by_cases g1 : 4294967296 ≤ p + 1
          · have q2 := HT1.out.1 (by omega)
            clear g hb HT1 T2
            go_wp2
            go_meet
            exact ⟨p, rfl, HB, rfl⟩
          · have q2 := HT1.out.2 (by omega)
            have q3 := T2.out g1
            clear g hb HT1 T2 g1
            go_wp2
            go_meet
            exact ⟨p, rfl, HB, rfl⟩
        · replace HN := HN (by omega)
          have T3 : decide (4294967296 ≤ (rn : Int) + y1) = false := decide_eq_false (by omega)
          clear HB G
          by_cases g1 : 4294967296 ≤ p + 1
          · have q2 := HT1.out.1 (by omega)
            clear g hb HT1 T2
            go_wp2
            exact ⟨⟨p, rn + y1, rfl, by go_num, HN⟩, by simp [intOf]⟩
          · have q2 := HT1.out.2 (by omega)
            have q3 := T2.out g1
            clear g hb HT1 T2 g1
            go_wp2
            exact ⟨⟨p, rn + y1, rfl, by go_num, HN⟩, by simp [intOf]⟩
      · have HF : Hid (qn = (u * 4294967296 + u1) / (y1 * 4294967296 + y0)) := Lib.hid (G.out.fit (by omega) (by rw [← hP]; omega)).symm
        have q2 : decide (4294967296 ≤ (qn : Int)) = false := decide_eq_false (by omega)
        have q3 : decide (4294967296 * (rn : Int) + u1 < P) = false := decide_eq_false (by omega)
        clear g G hP
        go_wp2
        go_meet
        exact ⟨qn, rfl, HF, rfl⟩
  case rest =>
    obtain ⟨qa, rfl, hqa, rfl⟩ := hcut
    clear eY e1 e2 e3 e4 e5 e6 e7 e9 e8
    obtain ⟨v, hv⟩ : ∃ v, v = (u * 4294967296 + u1) % Y := ⟨_, rfl⟩
    obtain ⟨q2, hq2⟩ : ∃ q2, q2 = v / y1 := ⟨_, rfl⟩
    obtain ⟨r2, hr2⟩ : ∃ r2, r2 = v % y1 := ⟨_, rfl⟩
    have F := Dv.mid HD.out hqa.out hv hq2 hr2
    have HV := Lib.hid F.1
    have HVv := Lib.hid hv
    obtain ⟨f1, f2, f3, f4⟩ := F.2
    clear hv hq2 hr2 F
    go_upto_block 2 with fail
    go_cut [18] from 102 to 120 (fun q wc => ∃ qn : Nat, q = .int .u64 qn ∧ Hid (qn = (v * 4294967296 + u0) / (y1 * 4294967296 + y0)) ∧ w = wc)
    case first =>
      go_wp2_with fail
      go_loop [18, 16] (fun q r => ∃ qn rn : Nat, q = .int .u64 qn ∧ r = .int .u64 rn ∧ Hid (Gs y1 y0 v u0 qn rn)) (fun q _ => (intOf q).toNat)
      case atStart => exact ⟨q2, r2, rfl, rfl, Lib.hid (by rw [HV.out.2.1, HV.out.2.2]; exact Gs.start HD.out.by1 HD.out.by2 HD.out.by0 (by have := HV.out.1; have := HD.out.ey; omega) HD.out.bu0)⟩
      case round =>
        obtain ⟨qn, rn, rfl, rfl, G⟩ := hrel
        clear hlz hy0 hyl hh q1 f1 f2 f3 f4
        have by1 := HD.out.by1
        have by2 := HD.out.by2
        have bu1 := HD.out.bu0
        have brn := G.out.rest
        have bqn := G.out.hi
        have bq0 : 0 ≤ (qn : Int) - 1 ∨ qn = 0 := by omega
        obtain ⟨P, hP⟩ : ∃ P, P = qn * y0 := ⟨_, rfl⟩
        have bP : P < 18446744073709551616 := by rw [hP]; exact G.out.prod HD.out.by0
        have eP : IntKind.u64.wrap ((qn : Int) * (y0 : Int)) = (P : Int) := by
          rw [← Int.natCast_mul, ← hP, IntKind.wrap_u64]; omega
        by_cases g : 4294967296 ≤ qn ∨ 4294967296 * rn + u0 < P
        · have q1 : 1 ≤ qn := by
            have := G.out.less (by omega) (by have := HV.out.1; have := HD.out.ey; omega) bu1 (by rw [← hP]; exact g)
            exact Nat.lt_of_le_of_lt (Nat.zero_le _) this
          have HB : 4294967296 ≤ rn + y1 → Hid (qn - 1 = (v * 4294967296 + u0) / (y1 * 4294967296 + y0)) := fun hb => Lib.hid (G.out.brk (by omega) HD.out.by0 (by have := HV.out.1; have := HD.out.ey; omega) bu1 (by rw [← hP]; exact g) hb).symm
          have HN : rn + y1 < 4294967296 → Hid (Gs y1 y0 v u0 (qn - 1) (rn + y1)) := fun hb => Lib.hid (G.out.next (by omega) (by have := HV.out.1; have := HD.out.ey; omega) bu1 (by rw [← hP]; exact g) hb)
          clear hP
          obtain ⟨p, rfl⟩ : ∃ p, qn = p + 1 := ⟨qn - 1, by omega⟩
          rw [show p + 1 - 1 = p by omega] at HB HN
          have eP' : IntKind.u64.wrap (((p : Int) + 1) * (y0 : Int)) = (P : Int) := eP
          clear eP
          have er : Hid (((rn : Int) + y1) = ((rn + y1 : Nat) : Int)) := Lib.hid (by omega)
          have T1 : (4294967296 ≤ (p : Int) + 1 → decide (4294967296 ≤ (p : Int) + 1) = true) ∧ (¬ 4294967296 ≤ (p : Int) + 1 → decide (4294967296 ≤ (p : Int) + 1) = false) := ⟨decide_eq_true, decide_eq_false⟩
          have HT1 := Lib.hid T1
          have T2 : Hid (¬ 4294967296 ≤ p + 1 → decide (4294967296 * (rn : Int) + u0 < P) = true) := Lib.hid (fun h => decide_eq_true (by omega))
          clear T1
          by_cases hb : 4294967296 ≤ rn + y1
          · replace HB := HB hb
            have T3 : decide (4294967296 ≤ (rn : Int) + y1) = true := decide_eq_true (by omega)
            clear HN G
            by_cases g1 : 4294967296 ≤ p + 1
            · have q2' := HT1.out.1 (by omega)
              clear g hb HT1 T2
              go_wp2
              go_meet
              exact ⟨p, rfl, HB, rfl⟩
            · have q2' := HT1.out.2 (by omega)
              have q3 := T2.out g1
              clear g hb HT1 T2 g1
              go_wp2
              go_meet
              exact ⟨p, rfl, HB, rfl⟩
          · replace HN := HN (by omega)
            have T3 : decide (4294967296 ≤ (rn : Int) + y1) = false := decide_eq_false (by omega)
            clear HB G
            by_cases g1 : 4294967296 ≤ p + 1
            · have q2' := HT1.out.1 (by omega)
              clear g hb HT1 T2
              go_wp2
              exact ⟨⟨p, rn + y1, rfl, by go_num, HN⟩, by simp [intOf]⟩
            · have q2' := HT1.out.2 (by omega)
              have q3 := T2.out g1
              clear g hb HT1 T2 g1
              go_wp2
              exact ⟨⟨p, rn + y1, rfl, by go_num, HN⟩, by simp [intOf]⟩
        · have HF : Hid (qn = (v * 4294967296 + u0) / (y1 * 4294967296 + y0)) := Lib.hid (G.out.fit (by omega) (by rw [← hP]; omega)).symm
          have q2' : decide (4294967296 ≤ (qn : Int)) = false := decide_eq_false (by omega)
          have q3 : decide (4294967296 * (rn : Int) + u0 < P) = false := decide_eq_false (by omega)
          clear g G hP
          go_wp2
          go_meet
          exact ⟨qn, rfl, HF, rfl⟩
    case rest =>
      obtain ⟨qb, rfl, hqb, rfl⟩ := hcut
      have E := Lib.hid (Dv.last HD.out h hl hqa.out HVv.out hqb.out)
      clear f1 f2 f3 f4 hlz
      go_wp2
      go_ret2
      exact ⟨ret_tup2 (v_int E.out.1) (v_int E.out.2), rfl⟩
theorem and_low (n : Nat) (h : n < 18446744073709551616) : bits .and .u64 (n : Int) 4294967295 = ((n % 4294967296 : Nat) : Int) := by
  have := bits_and_u64_nat n 4294967295 h (by omega)
  rw [show (4294967295 : Nat) = 2 ^ 32 - 1 from rfl, Nat.and_two_pow_sub_one_eq_mod] at this
  exact this
theorem Div64_low (lo y : Nat) (w : World) (h0 : 0 < y) (hl : lo < 18446744073709551616) (hy : y < 18446744073709551616) :
    Calls Try.prog 130 #[.int .u64 0, .int .u64 lo, .int .u64 y] w fun e w' => e = .returned (.tuple #[.int .u64 (lo / y : Nat), .int .u64 (lo % y : Nat)]) ∧ Below w.heap.size w w' := by
  have hy0 : ((y : Int) == 0) = false := by simp; omega
  have hy1 : ¬ y = 0 := by omega
  have hyl : decide ((y : Int) ≤ 0) = false := decide_eq_false (by omega)
  have E : Hid (IntKind.u64.wrap ((lo : Int) / y) = (lo / y : Nat) ∧ ((lo : Int) % y) = (lo % y : Nat)) := Lib.hid (by
    have a1 : lo / y ≤ lo := Nat.div_le_self _ _
    rw [← Int.natCast_ediv, ← Int.natCast_emod, wrap_mod]
    obtain ⟨p, hp⟩ : ∃ p, p = lo / y := ⟨_, rfl⟩
    rw [← hp] at a1 ⊢
    exact ⟨by omega, rfl⟩)
  have HB := Below.refl w.heap.size w
  go_enter Try.func130, Try.ntmps130
  go_wp2
  go_region
  go_wp2
  go_ret2
  exact ⟨ret_tup2 (v_int E.out.1) (v_int E.out.2), by first | exact HB.drew | exact HB⟩
theorem Div64_any (hi lo y : Nat) (w : World) (h : hi < y) (hl : lo < 18446744073709551616) (hy : y < 18446744073709551616) :
    Calls Try.prog 130 #[.int .u64 hi, .int .u64 lo, .int .u64 y] w fun e w' => e = .returned (.tuple #[.int .u64 ((hi * 18446744073709551616 + lo) / y : Nat), .int .u64 ((hi * 18446744073709551616 + lo) % y : Nat)]) ∧ Below w.heap.size w w' := by
  by_cases h0 : hi = 0
  · subst h0
    have := Div64_low lo y w (by omega) hl hy
    simpa using this
  · have hyz : y ≠ 0 := by omega
    obtain ⟨b1, b2, b3⟩ := Lib.bitLenAux_bounds 64 y (by omega) hyz
    have b4 := Lib.bitLen_le y 64 (by omega) (by omega)
    obtain ⟨s, hs⟩ : ∃ s, s = 64 - Lib.bitLen y := ⟨_, rfl⟩
    change 1 ≤ Lib.bitLen y at b1
    change 2 ^ (Lib.bitLen y - 1) ≤ y at b2
    change y < 2 ^ Lib.bitLen y at b3
    have hs1 : s ≤ 63 := by omega
    obtain ⟨y1, y2⟩ := lz_up (y := y) (s := s) (by omega) (by rw [show 64 - s = Lib.bitLen y by omega]; exact b3) (by rw [show 63 - s = Lib.bitLen y - 1 by omega]; exact b2) hs1
    obtain ⟨Y, hY⟩ : ∃ Y, Y = y * 2 ^ s := ⟨_, rfl⟩
    obtain ⟨N, hN⟩ : ∃ N, N = lo * 2 ^ s % 18446744073709551616 := ⟨_, rfl⟩
    obtain ⟨u, hu⟩ : ∃ u, u = hi * 2 ^ s + lo / 2 ^ (64 - s) := ⟨_, rfl⟩
    rw [← hY] at y1 y2
    have bu : u < Y := by rw [hu, hY]; exact up_lt h hl hs1
    have bN : N < 18446744073709551616 := by rw [hN]; exact Nat.mod_lt _ (by omega)
    have bp := part_lt hl hs1
    have D : Dv hi lo y s Y (Y / 4294967296) (Y % 4294967296) u N (N / 4294967296) (N % 4294967296) (u / (Y / 4294967296)) (u % (Y / 4294967296)) :=
      ⟨hY, hN, hu, by omega, by omega, by omega, by omega, by omega, by omega, by omega, bu, hs1, rfl, rfl⟩
    have p1 : ((y : Int) * 2 ^ s) = (Y : Int) := by rw [hY, Int.natCast_mul, Int.natCast_pow]; rfl
    have p2 : ((hi : Int) * 2 ^ s) = ((hi * 2 ^ s : Nat) : Int) := by rw [Int.natCast_mul, Int.natCast_pow]; rfl
    have p3 : ((lo : Int) * 2 ^ s) = ((lo * 2 ^ s : Nat) : Int) := by rw [Int.natCast_mul, Int.natCast_pow]; rfl
    have p4 : ((lo : Int) / 2 ^ (64 - s)) = ((lo / 2 ^ (64 - s) : Nat) : Int) := by rw [Int.natCast_ediv, Int.natCast_pow]; rfl
    have hq : u / (Y / 4294967296) ≤ u := Nat.div_le_self _ _
    have bh : hi * 2 ^ s < 18446744073709551616 := by
      have := Nat.le_add_right (hi * 2 ^ s) (lo / 2 ^ (64 - s)); omega
    refine (Div64_walk hi lo y s Y _ _ u N _ _ _ _ w D h0 hl h hy (by omega) ?_ ?_ (and_low Y y2) ?_ ?_ ?_ (and_low N bN) ?_ ?_ ?_).mono ?_
    · rw [p1, wrap_mod]; omega
    · omega
    · rw [p2, p4, wrap_mod]
      have e : (((hi * 2 ^ s : Nat) : Int) % 18446744073709551616) = ((hi * 2 ^ s : Nat) : Int) := by omega
      rw [e, bits_or_u64_nat _ _ bh (by omega), or_add bp, hu]
    · rw [p3, wrap_mod, hN]; omega
    · omega
    · rw [Int.natCast_ediv, Int.natCast_ediv]; rfl
    · rw [wrap_mod]
      obtain ⟨q, hq'⟩ : ∃ q, q = u / (Y / 4294967296) := ⟨_, rfl⟩
      rw [← hq'] at hq ⊢; omega
    · have hd := Nat.div_add_mod u (Y / 4294967296)
      have hm := Nat.mod_lt u (show 0 < Y / 4294967296 by omega)
      rw [← Int.natCast_mul, Nat.mul_comm, wrap_mod, wrap_mod]
      obtain ⟨q, hq'⟩ : ∃ q, q = Y / 4294967296 * (u / (Y / 4294967296)) := ⟨_, rfl⟩
      obtain ⟨r, hr⟩ : ∃ r, r = u % (Y / 4294967296) := ⟨_, rfl⟩
      rw [← hq', ← hr] at hd
      rw [← hr] at hm
      rw [← hq', ← hr]; omega
    · rintro e w' ⟨rfl, rfl⟩
      exact ⟨rfl, Below.refl _ _⟩
end Go.Proofs.Yteancdipmpmjpaa
