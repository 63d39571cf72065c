/-
  The walks of nat: how often, and what is left.
-/
import Derived.Test.YteancdipmpmjpaaSr16
import Derived.Test.YteancdipmpmjpaaHt
import Derived.Test.YteancdipmpmjpaaMemB
namespace Go.Proofs.Yteancdipmpmjpaa
open Go.RowKit
set_option maxRecDepth 100000
set_option linter.unusedVariables false

/-! Calls of nat's functions, in the words of 'St'. -/
section
variable {B : Nat} {w0 w : World} {L : List Blk} {F : World → Prop}
theorem St.shl1 {A : Option Addr} {n X : Nat} (K : St B w0 L F w) (hF : ∀ w, F w → Nt w A n n X ∧ Nw B A) (hn : n ≤ 1000000) :
    Calls Try.prog 80 #[.agg #[.slice A n n], .int .i64 1] w fun e w' => ∃ A' k, e = .returned (.agg #[.slice A' k k]) ∧ St B w0 L (fun w => (Nt w A' k k (2 * X) ∧ Nw B A') ∧ F w) w' := by
  by_cases h0 : X = 0
  · refine (Shl_same A n n X 1 w (hF _ K.fact).1 (.inr h0) (by omega)).mono ?_
    rintro e w' ⟨rfl, hb⟩
    subst h0
    exact ⟨A, n, rfl, (K.step hb).weak fun w h => ⟨by simpa using hF w h, h⟩⟩
  · refine (Shl_nat A n n X 1 w (hF _ K.fact).1 hn (Nat.le_refl _) (by omega) h0).mono ?_
    rintro e w' ⟨A', k, rfl, hn, hA, hb⟩
    have := K.madeNt hb hn hA
    rw [Nat.pow_one, Nat.mul_comm] at this
    exact ⟨A', k, rfl, this⟩
theorem St.of1 (x : Nat) (K : St B w0 L F w) (hx : x ≤ 18446744073709551615) :
    Calls Try.prog 65 #[.int .u64 x] w fun e w' => ∃ A k, e = .returned (.agg #[.slice A k k]) ∧ St B w0 L (fun w => (Nt w A k k x ∧ Nw B A) ∧ F w) w' := by
  refine (Of_nat x w hx).mono ?_
  rintro e w' ⟨A', k, rfl, hn, hA, hb⟩
  exact ⟨A', k, rfl, K.madeNt hb hn hA⟩
theorem St.ofOne (K : St B w0 L F w) :
    Calls Try.prog 65 #[.int .u64 1] w fun e w' => ∃ A k, e = .returned (.agg #[.slice A k k]) ∧ St B w0 L (fun w => (Nt w A k k 1 ∧ Nw B A) ∧ F w) w' := by simpa using K.of1 1 (by omega)
theorem St.swap {p q : Blk} (K : St B w0 (p :: q :: L) F w) : St B w0 (q :: p :: L) F w :=
  ⟨K.below, K.size, fun r hr => K.has r (by simp only [List.mem_cons] at hr ⊢; rcases hr with h | h | h <;> simp [h]),
    by
      have := K.nodup
      simp only [List.map_cons, List.nodup_cons, List.mem_cons, not_or] at this ⊢
      exact ⟨⟨fun e => this.1.1 e.symm, this.2.1⟩, this.1.2, this.2.2⟩,
    fun w' h1 h2 => K.keep w' h1 fun b hb1 hb2 => h2 b hb1 fun hm => hb2 (by simp only [List.map_cons, List.mem_cons] at hm ⊢; rcases hm with h | h | h <;> simp [h])⟩
theorem St.trimA {g n : Nat} {l : List Nat} (K : St B w0 ((g, (nums .u32 l).toArray, 24) :: L) F w) (hlen : l.length = n) (hl : ∀ x ∈ l, x < 4294967296) (hn : n ≤ 4611686018427387904) :
    Calls Try.prog 113 #[.slice (some ⟨g, 0, none⟩) n n] w fun e w' => ∃ A k, e = .returned (.agg #[.slice A k k]) ∧ St B w0 L (fun w => (Nt w A k k (val 4294967296 l) ∧ Nw B A) ∧ F w) w' := by
  have S := Sl.of_has (K.get .hd)
  simp only [List.size_toArray, nums_length, hlen] at S
  refine (trim_any _ n n l _ (by simpa using S) hl (Nat.le_refl _) (by omega)).mono ?_
  rintro e w' ⟨k, rfl, hn, hb⟩
  exact ⟨_, k, rfl, (K.step hb).freezeNt hn⟩
theorem Nt.len_le {A : Option Addr} {n c X Y m : Nat} (h : Nt w A n c X) (hX : X < Y) (hY : Y < 4294967296 ^ m) : n ≤ m := Nat.le_trans (Nat.le_of_eq h.len) ((digs_len (by omega) X m).2 (Nat.lt_trans hX hY))
theorem St.add2 {A A2 : Option Addr} {n c X n2 c2 Y : Nat} (K : St B w0 L F w) (h1 : Nt w A n c X) (h2 : Nt w A2 n2 c2 Y) (b1 : n ≤ 1000000) (b2 : n2 ≤ 1000000) :
    Calls Try.prog 75 #[.agg #[.slice A n c], .agg #[.slice A2 n2 c2]] w fun e w' => ∃ A k, e = .returned (.agg #[.slice A k k]) ∧ St B w0 L (fun w => (Nt w A k k (X + Y) ∧ Nw B A) ∧ F w) w' := by
  refine (Add_nat _ _ _ _ _ _ _ _ w h1 h2 b1 b2).mono ?_
  rintro e w' ⟨A', k, rfl, hn, hA, hb⟩
  exact ⟨A', k, rfl, K.madeNt hb hn hA⟩
theorem St.sub2 {A A2 : Option Addr} {n c X n2 c2 Y : Nat} (K : St B w0 L F w) (h1 : Nt w A n c X) (h2 : Nt w A2 n2 c2 Y) (b1 : n ≤ 1000000) (b2 : n2 ≤ 1000000) :
    Calls Try.prog 76 #[.agg #[.slice A n c], .agg #[.slice A2 n2 c2]] w fun e w' => ∃ A k, e = .returned (.agg #[.slice A k k]) ∧ St B w0 L (fun w => (Nt w A k k (X - Y + (Y - X)) ∧ Nw B A) ∧ F w) w' := by
  refine (Sub_nat _ _ _ _ _ _ _ _ w h1 h2 b1 b2).mono ?_
  rintro e w' ⟨A', k, rfl, hn, hA, hb⟩
  exact ⟨A', k, rfl, K.madeNt hb hn hA⟩
end



/-- What the loop keeps: the places from J on are done. -/
def DivAt (X Y N J : Nat) (o : List Nat) (R : Nat) : Prop := o.length = N ∧ (∀ x ∈ o, x < 4294967296) ∧ val 4294967296 o = X / 2 ^ J / Y * 2 ^ J ∧ R = X / 2 ^ J % Y
theorem half_step (X j : Nat) : X / 2 ^ j = 2 * (X / 2 ^ (j + 1)) + X / 2 ^ j % 2 := by
  rw [Nat.pow_succ, ← Nat.div_div_eq_div_mul]; omega
/-- The new rest, and whether the divisor goes in once more. -/
theorem DivAt.rest {X Y N j : Nat} {o : List Nat} {R : Nat} (h : DivAt X Y N (j + 1) o R) (hY : 0 < Y) :
    (2 * R + X / 2 ^ j % 2 < Y → X / 2 ^ j % Y = 2 * R + X / 2 ^ j % 2 ∧ X / 2 ^ j / Y = 2 * (X / 2 ^ (j + 1) / Y)) ∧
    (Y ≤ 2 * R + X / 2 ^ j % 2 → X / 2 ^ j % Y = 2 * R + X / 2 ^ j % 2 - Y ∧ X / 2 ^ j / Y = 2 * (X / 2 ^ (j + 1) / Y) + 1) := by
  have hr := h.2.2.2
  have hd := Nat.div_add_mod (X / 2 ^ (j + 1)) Y
  have hm := Nat.mod_lt (X / 2 ^ (j + 1)) hY
  have hs := half_step X j
  have hb := Nat.mod_lt (X / 2 ^ j) (show 0 < 2 by omega)
  rw [← hr] at hd hm
  generalize X / 2 ^ j % 2 = bit at *
  generalize X / 2 ^ (j + 1) / Y = d at *
  have e : X / 2 ^ j = Y * (2 * d) + (2 * R + bit) := by
    rw [hs, ← hd, Nat.mul_add, Nat.mul_left_comm]; omega
  constructor
  · intro hlt
    rw [e, Nat.mul_add_mod, Nat.mod_eq_of_lt hlt, Nat.mul_add_div hY, Nat.div_eq_of_lt hlt]
    exact ⟨rfl, rfl⟩
  · intro hge
    have e2 : X / 2 ^ j = Y * (2 * d + 1) + (2 * R + bit - Y) := by rw [e, Nat.mul_add Y (2 * d) 1, Nat.mul_one]; omega
    have hlt : 2 * R + bit - Y < Y := by omega
    rw [e2, Nat.mul_add_mod, Nat.mod_eq_of_lt hlt, Nat.mul_add_div hY, Nat.div_eq_of_lt hlt]
    exact ⟨rfl, rfl⟩
theorem DivAt.no {X Y N j : Nat} {o : List Nat} {R : Nat} (h : DivAt X Y N (j + 1) o R) (hY : 0 < Y) (hlt : 2 * R + X / 2 ^ j % 2 < Y) : DivAt X Y N j o (2 * R + X / 2 ^ j % 2) := by
  obtain ⟨h1, h2⟩ := (h.rest hY).1 hlt
  refine ⟨h.1, h.2.1, ?_, h1.symm⟩
  rw [h.2.2.1, h2, Nat.pow_succ, Nat.mul_comm 2, Nat.mul_assoc, Nat.mul_comm (2 ^ j) 2]
theorem DivAt.bit0 {X Y N j : Nat} {o : List Nat} {R : Nat} (h : DivAt X Y N (j + 1) o R) : ∃ a, o.getD (j / 32) 0 = 2 ^ (j % 32 + 1) * a ∧ o.getD (j / 32) 0 < 4294967296 := by
  have hv := val_get (b := 4294967296) (by omega) o h.2.1 (j / 32)
  rw [h.2.2.1] at hv
  generalize X / 2 ^ (j + 1) / Y = d at hv
  have ej : j + 1 = (j % 32 + 1) + 32 * (j / 32) := by omega
  have e1 : d * 2 ^ (j + 1) / 4294967296 ^ (j / 32) = d * 2 ^ (j % 32 + 1) := by
    conv => lhs; rw [ej]
    rw [Nat.pow_add, ← Nat.mul_assoc, show (4294967296 : Nat) = 2 ^ 32 from rfl, ← Nat.pow_mul, Nat.mul_div_cancel _ (Nat.two_pow_pos _)]
  rw [e1, show (4294967296 : Nat) = 2 ^ (j % 32 + 1) * 2 ^ (31 - j % 32) by rw [← Nat.pow_add, show j % 32 + 1 + (31 - j % 32) = 32 by omega], Nat.mul_comm d, Nat.mul_mod_mul_left] at hv
  refine ⟨_, hv, ?_⟩
  rw [hv]
  have := Nat.mod_lt d (Nat.two_pow_pos (31 - j % 32))
  have h2 := Nat.mul_lt_mul_of_pos_left this (Nat.two_pow_pos (j % 32 + 1))
  rw [← Nat.pow_add, show j % 32 + 1 + (31 - j % 32) = 32 by omega] at h2
  simpa using h2
theorem DivAt.yes {X Y N j : Nat} {o : List Nat} {R : Nat} (h : DivAt X Y N (j + 1) o R) (hY : 0 < Y) (hge : Y ≤ 2 * R + X / 2 ^ j % 2) (hj : j / 32 < N) :
    DivAt X Y N j (o.set (j / 32) (o.getD (j / 32) 0 + 2 ^ (j % 32))) (2 * R + X / 2 ^ j % 2 - Y) := by
  obtain ⟨h1, h2⟩ := (h.rest hY).2 hge
  obtain ⟨a, ha, hl⟩ := h.bit0
  have hb : o.getD (j / 32) 0 + 2 ^ (j % 32) < 4294967296 := by
    have h3 : 2 ^ (j % 32 + 1) * a < 2 ^ (j % 32 + 1) * 2 ^ (31 - j % 32) := by
      rw [← ha, ← Nat.pow_add, show j % 32 + 1 + (31 - j % 32) = 32 by omega]; exact hl
    have h4 := Nat.lt_of_mul_lt_mul_left h3
    have h5 := Nat.mul_le_mul_left (2 ^ (j % 32 + 1)) (show a + 1 ≤ 2 ^ (31 - j % 32) by omega)
    rw [Nat.mul_add, ← ha, ← Nat.pow_add, show j % 32 + 1 + (31 - j % 32) = 32 by omega, Nat.pow_succ] at h5
    have := Nat.two_pow_pos (j % 32)
    simp only [Nat.reducePow] at h5
    omega
  refine ⟨by simp [h.1], fun x hx => ?_, ?_, h1.symm⟩
  · rcases List.mem_or_eq_of_mem_set hx with hx | rfl
    · exact h.2.1 x hx
    · exact hb
  · have hs := val_set 4294967296 o (j / 32) (o.getD (j / 32) 0 + 2 ^ (j % 32)) (by rw [h.1]; exact hj)
    have h3 := h.2.2.1
    rw [h2]
    generalize X / 2 ^ (j + 1) / Y = d at *
    rw [Nat.mul_add, show (4294967296 : Nat) ^ (j / 32) * 2 ^ (j % 32) = 2 ^ j by rw [show (4294967296 : Nat) = 2 ^ 32 from rfl, ← Nat.pow_mul, ← Nat.pow_add, Nat.div_add_mod], h3, Nat.pow_succ] at hs
    rw [Nat.add_mul, Nat.one_mul, Nat.mul_comm 2, Nat.mul_assoc, Nat.mul_comm 2 (2 ^ j)]
    omega
theorem or_bit32 (x t a : Nat) (ht : t < 32) (hx : x = 2 ^ (t + 1) * a) (hl : x < 4294967296) : bits .or .u32 (x : Int) (IntKind.u32.wrap ((2 : Int) ^ t)) = ((x + 2 ^ t : Nat) : Int) := by
  have hp : 2 ^ t < 4294967296 := by
    have : 2 ^ t < 2 ^ 32 := Nat.pow_lt_pow_right (by omega) ht
    simpa using this
  have e : IntKind.u32.wrap ((2 : Int) ^ t) = ((2 ^ t : Nat) : Int) := by
    have : ((2 : Int) ^ t) = ((2 ^ t : Nat) : Int) := by rw [Int.natCast_pow]; rfl
    rw [this, IntKind.wrap_u32]; exact Int.emod_eq_of_lt (Int.natCast_nonneg _) (Int.ofNat_lt.2 hp)
  rw [e, (or32 _ _ hl hp).1, hx, Nat.two_pow_add_eq_or_of_lt (Nat.pow_lt_pow_right (by omega) (by omega))]
theorem and_bit32 (x t : Nat) (hx : x < 4294967296) : bits .and .u32 ((x : Int) / 2 ^ t) 1 = ((x / 2 ^ t % 2 : Nat) : Int) := by
  have e2 : ((x : Int) / 2 ^ t) = ((x / 2 ^ t : Nat) : Int) := by
    rw [Int.natCast_ediv, Int.natCast_pow]; rfl
  have b3 : x / 2 ^ t < 4294967296 := Nat.lt_of_le_of_lt (Nat.div_le_self _ _) hx
  have e1 : (1 : Int) = ((1 : Nat) : Int) := rfl
  rw [e2, e1, (and32 _ 1 b3 (by omega)).1, Nat.and_one_is_mod]
theorem bit_of (X j : Nat) : X / 4294967296 ^ (j / 32) % 4294967296 / 2 ^ (j % 32) % 2 = X / 2 ^ j % 2 := by
  have e : X / 2 ^ j = X / 4294967296 ^ (j / 32) / 2 ^ (j % 32) := by
    rw [Nat.div_div_eq_div_mul, show (4294967296 : Nat) = 2 ^ 32 from rfl, ← Nat.pow_mul, ← Nat.pow_add, Nat.div_add_mod]
  rw [e]
  generalize X / 4294967296 ^ (j / 32) = q
  have ht := Nat.mod_lt j (show 0 < 32 by omega)
  generalize j % 32 = t at *
  have hd := Nat.div_add_mod q 4294967296
  have h1 : q / 2 ^ t = 2 * (2 ^ (31 - t) * (q / 4294967296)) + q % 4294967296 / 2 ^ t := by
    conv => lhs; rw [← hd]
    rw [show (4294967296 : Nat) = 2 ^ t * (2 * 2 ^ (31 - t)) by rw [show (2 : Nat) * 2 ^ (31 - t) = 2 ^ (32 - t) by rw [show 32 - t = (31 - t) + 1 by omega, Nat.pow_succ, Nat.mul_comm], ← Nat.pow_add, show t + (32 - t) = 32 by omega], Nat.mul_assoc, Nat.mul_add_div (Nat.two_pow_pos _), Nat.mul_assoc]
  rw [h1, Nat.mul_add_mod]


end Go.Proofs.Yteancdipmpmjpaa
