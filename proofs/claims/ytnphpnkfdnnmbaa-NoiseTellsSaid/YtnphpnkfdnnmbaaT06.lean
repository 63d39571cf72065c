/-
  The walk of the reference's root.
-/
import Derived.Test.YtnphpnkfdnnmbaaQ06
namespace Go.Proofs.Ytnphpnkfdnnmbaa
open Go.RowKit
set_option linter.unusedVariables false

section
variable {P : Program} {w : World} {ops : Array Oper} {Q : Exit → Act → World → Prop} {md : Region.Mode} {S : World → Prop} {fuel : Nat} {listed : Array Bool} {a : Act} {oi : Oper}
/-- 'held_pure', the place of the value written out. -/
theorem hq_pure (i : Nat) (d : Tmp) (hi : ops[i]? = some oi) (hdst : oi.dst = some d) (hs : Region.noSelect ops = true) (hf : Region.free md ops listed i = true) (hr : (Region.ready md ops listed).contains i = true)
    (hw : Region.wanted oi (yielded ops a.tmps) = true) (v : Value) (hv : ∀ w, S w → (execOp a.eval oi).run P w = .ok (.value v) w)
    (hQ : ∀ c a w, Q (.panic c) (a.put (some d) v) w → Q (.panic c) a w) (hS : S w)
    (h : wpAnyH P md ops Q S fuel (listed.setIfInBounds i true) (a.put (some d) v) w) : wpAnyH P md ops Q S (fuel + 1) listed a w :=
  held_pure i hi hs hf hr hw v hv (by rw [hdst]; exact hQ) hS (by rw [hdst]; exact h)
/-- 'held_load', the place of the value written out. -/
theorem hq_load (i : Nat) (e : Tmp) (hi : ops[i]? = some oi) (hdst : oi.dst = some e) (hs : Region.noSelect ops = true) (hf : Region.free md ops listed i = true) (hr : (Region.ready md ops listed).contains i = true)
    (hw : Region.wanted oi (yielded ops a.tmps) = true) (ty : TypeId) (x : Operand) (ho : oi.op = .load ty x) (g : Nat) (hx : a.eval x = .pointer (some ⟨g, 0, none⟩)) {t : TypeId} {cs : Array Value} {d : TypeDesc}
    (hg : ∀ w, S w → Has w g cs t) (hu : P.underlying ty = some d) (hd : (match d with | .struct _ | .array _ _ => true | _ => false) = true) {n : Nat} (hi2 : (P.info? ty).map (·.size) = some n) (hn : cs.size = n)
    (hQ : ∀ c a w, Q (.panic c) (a.put (some e) (.agg cs)) w → Q (.panic c) a w) (hS : S w)
    (h : wpAnyH P md ops Q S fuel (listed.setIfInBounds i true) (a.put (some e) (.agg cs)) w) : wpAnyH P md ops Q S (fuel + 1) listed a w :=
  held_load i hi hs hf hr hw ty x ho g hx hg hu hd hi2 hn (by rw [hdst]; exact hQ) hS (by rw [hdst]; exact h)
end

set_option maxHeartbeats 4000000 in
set_option maxRecDepth 100000 in
theorem Root_any (h : Nat) (w : World) (hh : h < 4611686018427387904) :
    Calls Try.prog 90 #[.int .u64 h] w fun e w' => e = .returned (.int .u64 (isq (h * 4611686018427387904))) ∧ Below w.heap.size w w' := by
  have hzN := zeroN
  have C0 : Hid (∀ w : World, Calls Try.prog 89 #[.int .i64 62] w fun e w' => e = .returned (.int .i64 4611686018427387904) ∧ w = w') := Lib.hid (fun w => pow_any 62 w (by omega))
  have C1 : Hid (∀ w : World, Calls Try.prog 19 #[.int .i64 h, .int .i64 4611686018427387904] w fun e w' => e = .returned (.agg (numA false (h * 4611686018427387904))) ∧ Below w.heap.size w w') := Lib.hid (fun w => mul_nat h 4611686018427387904 w (by omega) (by omega))
  have bA : h * 4611686018427387904 < 21267647932558653966460912964485513216 := by omega
  have hi' : (h : Int) ≤ 4611686018427387904 := by omega
  obtain ⟨A, hA⟩ : ∃ A, A = h * 4611686018427387904 := ⟨_, rfl⟩
  rw [← hA] at C1 bA ⊢
  have KA := Lib.hid bA
  clear hA bA hh
  go_enter Try.func90, Try.ntmps90
  go_wp2_with fail
  refine (C0.out _).mono ?_; rintro e w1 ⟨rfl, rfl⟩; dsimp only
  go_wp2_with fail
  refine (C1.out _).mono ?_; rintro e w1 ⟨rfl, k1⟩; dsimp only
  have h3 := Has.new w1 (numA false A) 33
  have b3 := k1.size
  replace k1 := k1.alloc k1.size (.cells (numA false A) 33)
  go_wp2_with (first | ((with_reducible refine wl_at_store 33 ?_); refine wl_store_new rfl 33 _ _ rfl _ _ rfl rfl (by first | (with_reducible exact rfl) | simp only [World.size_alloc]) infoN (numA_size _ _) (numA_size _ _) (numA_ones _ _) rfl ?_))
  refine (C0.out _).mono ?_; rintro e w2 ⟨rfl, rfl⟩; dsimp only
  go_wp2
  go_loopw [4, 5] (fun lo hi wr => ∃ l u : Nat, lo = .int .u64 l ∧ hi = .int .u64 u ∧ Hid (l * l ≤ A ∧ A < u * u) ∧ l < u ∧ u ≤ 4611686018427387905 ∧ Has wr w1.heap.size (numA false A) 33 ∧ Below w.heap.size w wr) (fun lo hi _ => (intOf hi - intOf lo).toNat)
  case atStart => exact ⟨0, 4611686018427387905, rfl, rfl, Lib.hid ⟨by omega, by have := KA.out; omega⟩, by omega, by omega, h3, k1⟩
  case round =>
    clear h3 k1
    obtain ⟨l, u, rfl, rfl, HLU, hlu, hu, g3, g⟩ := hrel
    have e1 : IntKind.u64.wrap ((u : Int) - (l : Int)) = (u : Int) - (l : Int) := IntWalk.u64_in _ (by omega)
    by_cases hend : 1 < u - l
    · have T : decide ((1 : Int) < (u : Int) - (l : Int)) = true := decide_eq_true (by omega)
      obtain ⟨m, hm⟩ : ∃ m, m = (l + u) / 2 := ⟨_, rfl⟩
      have e2 : IntKind.u64.wrap ((l : Int) + (u : Int)) = (l : Int) + (u : Int) := IntWalk.u64_in _ (by omega)
      have e3 : ((l : Int) + (u : Int)) / 2 = (m : Int) := by omega
      have e3' : IntKind.u64.wrap (((l : Int) + (u : Int)) / 2) = (m : Int) := by rw [e3]; exact IntWalk.u64_in _ (by omega)
      have C2 : Hid (∀ w : World, Calls Try.prog 19 #[.int .i64 m, .int .i64 m] w fun e w' => e = .returned (.agg (numA false (m * m))) ∧ Below w.heap.size w w') := Lib.hid (fun w => mul_nat m m w (by omega) (by omega))
      have bmm : m * m ≤ 4611686018427387904 * 4611686018427387904 := Nat.mul_le_mul (by omega) (by omega)
      have hm0 : m * m ≠ 0 := by
        have : 1 ≤ m * m := Nat.mul_le_mul (show 1 ≤ m by omega) (show 1 ≤ m by omega)
        omega
      obtain ⟨r, hr⟩ : ∃ r : Int, (if m * m < A then -1 else if m * m = A then 0 else 1) = r := ⟨_, rfl⟩
      have C3 : Hid (∀ w : World, Calls Try.prog 99 #[.agg (numA false (m * m)), .agg (numA false A)] w (CmpPost r w)) := Lib.hid (fun w => by
        rw [← hr]; exact Cmp_pos (m * m) A w (by omega) (by have := KA.out; omega) hm0)
      have hrl : Hid (decide (r ≤ 0) = decide (m * m ≤ A)) := Lib.hid (by
        rw [← hr]
        by_cases c1 : m * m < A
        · rw [if_pos c1, decide_eq_true (show m * m ≤ A by omega)]; rfl
        · by_cases c2 : m * m = A
          · rw [if_neg c1, if_pos c2, decide_eq_true (show m * m ≤ A by omega)]; rfl
          · rw [if_neg c1, if_neg c2, decide_eq_false (show ¬ m * m ≤ A by omega)]; rfl)
      have hm1 : m ≤ 4611686018427387904 := by omega
      have hlm : l < m ∧ m < u := by omega
      have ec : IntKind.i64.wrap (m : Int) = (m : Int) := IntWalk.i64_in _ (by omega)
      have e4 : wrap64 (m : Int) = (m : Int) := IntWalk.wrap64_in _ (by omega)
      clear hm hr hend bmm hm0
      go_upto_region 6 with (fail)
      rw [e3]
      refine wp_region_held (S := fun w' => Has w' w1.heap.size (numA false A) 33 ∧ Below w.heap.size w w') (by kernel_rfl) ?_
      have S0 : Has (World.drew _) w1.heap.size (numA false A) 33 ∧ Below w.heap.size w (World.drew _) := ⟨g3.drew, g.drew⟩
      refine hq_pure 0 22 rfl rfl (by kernel_rfl) (by kernel_rfl) (by kernel_rfl) rfl (.int .u64 m) (fun w' _ => by simp [execOp, go_sem]) (fun _ _ _ h => h) S0 ?_
      refine hq_pure 1 23 rfl rfl (by kernel_rfl) (by kernel_rfl) (by kernel_rfl) rfl (.int .i64 m) (fun w' _ => by simp [execOp, go_sem, ec]) (fun _ _ _ h => h) S0 ?_
      refine hq_pure 2 24 rfl rfl (by kernel_rfl) (by kernel_rfl) (by kernel_rfl) rfl (.int .u64 m) (fun w' _ => by simp [execOp, go_sem]) (fun _ _ _ h => h) S0 ?_
      refine hq_pure 3 25 rfl rfl (by kernel_rfl) (by kernel_rfl) (by kernel_rfl) rfl (.int .i64 m) (fun w' _ => by simp [execOp, go_sem, ec]) (fun _ _ _ h => h) S0 ?_
      refine hq_load 5 27 rfl rfl (by kernel_rfl) (by kernel_rfl) (by kernel_rfl) rfl 33 _ rfl w1.heap.size rfl (fun w' h => h.1) Try.underlying33 rfl infoN (numA_size _ _) (fun _ _ _ h => h) S0 ?_
      refine held_step 4 rfl (by kernel_rfl) rfl (fun K hK => ?_)
      go_step
      refine (C2.out _).mono ?_
      rintro e w3 ⟨rfl, k3⟩
      dsimp only
      have S1 : Has w3 w1.heap.size (numA false A) 33 ∧ Below w.heap.size w w3 := ⟨S0.1.below k3, below_step S0.2 k3 S0.2.size⟩
      refine hK _ _ S1 ?_
      clear hK K k3 S0
      refine held_step 6 rfl (by kernel_rfl) rfl (fun K hK => ?_)
      go_step
      refine (C3.out _).mono ?_
      rintro e w4 ⟨rfl, k4⟩
      dsimp only
      have S2 : Has w4 w1.heap.size (numA false A) 33 ∧ Below w.heap.size w w4 := ⟨S1.1.below k4, below_step S1.2 k4 S1.2.size⟩
      refine hK _ _ S2 ?_
      clear hK K k4 S1
      refine hq_pure 7 29 rfl rfl (by kernel_rfl) (by kernel_rfl) (by kernel_rfl) rfl (.bool (decide (r ≤ 0))) (fun w' _ => by simp [execOp, go_sem]) (fun _ _ _ h => h) S2 ?_
      refine wpAnyH_done (by kernel_rfl) ?_ _
      rw [hrl.out]
      simp only [Act.put, List.setIfInBounds_toArray, List.set_cons_succ, List.set_cons_zero]
      by_cases hle : m * m ≤ A
      · have H2 : Hid (m * m ≤ A ∧ A < u * u) := Lib.hid ⟨hle, HLU.out.2⟩
        rw [decide_eq_true hle]
        clear hle hrl
        go_wp2
        refine ⟨⟨m, u, rfl, rfl, H2, hlm.2, hu, S2.1, S2.2⟩, ?_⟩
        simp only [intOf]
        have := hlm.1
        have := hlm.2
        clear C0 C1 C2 C3 HLU H2 KA e1 e2 e3 e3' e4 ec T
        omega
      · have H2 : Hid (l * l ≤ A ∧ A < m * m) := Lib.hid ⟨HLU.out.1, by omega⟩
        rw [decide_eq_false hle]
        clear hle hrl
        go_wp2
        refine ⟨⟨l, m, rfl, rfl, H2, hlm.1, ?_, S2.1, S2.2⟩, ?_⟩
        · have := hlm.2
          clear C0 C1 C2 C3 HLU H2 KA e1 e2 e3 e3' e4 ec T
          omega
        · simp only [intOf]
          have := hlm.1
          have := hlm.2
          clear C0 C1 C2 C3 HLU H2 KA e1 e2 e3 e3' e4 ec T
          omega
    · have T : decide ((1 : Int) < (u : Int) - (l : Int)) = false := decide_eq_false (by omega)
      have E : Hid (isq A = l) := Lib.hid (by
        have h1 := HLU.out
        have h2 := isq_spec (A := A) (by have := KA.out; omega)
        rw [show u = l + 1 by omega] at h1
        exact root_unique h2.1 h2.2.1 h1.1 h1.2)
      clear hend
      go_wp2
      go_ret
      exact ⟨by rw [E.out]; rfl, g⟩
end Go.Proofs.Ytnphpnkfdnnmbaa
