/-
  How narrow it is, from both sides; there and back within a metre. Plain Lean, no program in sight.
-/
import Derived.Test.YtnphpnkfdnnmbaaPl32
namespace Go.Proofs.Ytnphpnkfdnnmbaa
set_option linter.unusedVariables false
/-! ### The turns from one on -/
def runF : Nat → Nat → Pt → Pt
  | 0, _, p => p
  | f + 1, i, p => runF f (i + 1) (stp i p)
theorem stps_run (p : Pt) : ∀ (f i : Nat), stps p (i + f) = runF f i (stps p i)
  | 0, i => rfl
  | f + 1, i => by
    rw [show i + (f + 1) = (i + 1) + f by omega, stps_run p f (i + 1)]
    rfl
/-- Whatever the signs, of all angles from one to another one. -/
def leafs (P : Int → Int → Bool) : Nat → Nat → Int → Int → Int → Int → Bool
  | 0, _, x, y, _, _ => P x y
  | f + 1, i, x, y, lo, hi =>
    (if hi < 0 then true else leafs P f (i + 1) (x - prt y i) (y + prt x i) (max lo 0 - arcA i) (hi - arcA i)) &&
    (if 0 ≤ lo then true else leafs P f (i + 1) (x + prt y i) (y - prt x i) (lo + arcA i) (min hi (-1) + arcA i))
theorem leafs_ok (P : Int → Int → Bool) : ∀ (f i : Nat) (x y lo hi z : Int), leafs P f i x y lo hi = true → lo ≤ z → z ≤ hi → P (runF f i ⟨x, y, z⟩).x (runF f i ⟨x, y, z⟩).y = true
  | 0, i, x, y, lo, hi, z, h, _, _ => h
  | f + 1, i, x, y, lo, hi, z, h, h1, h2 => by
    unfold leafs at h
    simp only [Bool.and_eq_true] at h
    unfold runF stp
    by_cases hz : 0 ≤ z
    · have a := h.1
      rw [if_neg (by omega)] at a
      rw [if_pos hz]
      exact leafs_ok P f (i + 1) _ _ _ _ (z - arcA i) a (by omega) (by omega)
    · have a := h.2
      rw [if_neg (by omega)] at a
      rw [if_neg hz]
      exact leafs_ok P f (i + 1) _ _ _ _ (z + arcA i) a (by omega) (by omega)
/-- What the later turns change. -/
def bndT : Nat → Int
  | 0 => 1200000000
  | k + 1 => bndT k + bndT k / 2 ^ (8 + k) + 1
def lossT : Nat → Int
  | 0 => 0
  | k + 1 => lossT k + (bndT k / 2 ^ (8 + k) + 1)
theorem bndT_pos (k : Nat) (h : k ≤ 22) : 0 ≤ bndT k ∧ 0 ≤ lossT k ∧ lossT k ≤ 10000000 := by
  have : ∀ j, j < 23 → 0 ≤ bndT j ∧ 0 ≤ lossT j ∧ lossT j ≤ 10000000 := by decide
  exact this k (by omega)
theorem tail_bd (p : Pt) (q : Pt) (hq : q = stps p 8) (h : Bd 1200000000 q) : ∀ k, k ≤ 22 → Bd (bndT k) (stps p (8 + k)) ∧ q.x - lossT k ≤ (stps p (8 + k)).x ∧ (stps p (8 + k)).x ≤ q.x + lossT k ∧ q.y - lossT k ≤ (stps p (8 + k)).y ∧ (stps p (8 + k)).y ≤ q.y + lossT k
  | 0, _ => by subst hq; exact ⟨h, by simp [lossT]⟩
  | k + 1, hk => by
    obtain ⟨hb, h1, h2, h3, h4⟩ := tail_bd p q hq h k (by omega)
    have h0 := (bndT_pos k (by omega)).1
    rw [show 8 + (k + 1) = (8 + k) + 1 by omega]
    have e : stps p (8 + k + 1) = stp (8 + k) (stps p (8 + k)) := rfl
    rw [e]
    generalize stps p (8 + k) = r at *
    have hx := prt_bd (8 + k) h0 hb.1 hb.2.1
    have hy := prt_bd (8 + k) h0 hb.2.2.1 hb.2.2.2
    unfold Bd at hb ⊢
    unfold stp bndT lossT
    split <;> (dsimp only; omega)
def goodX (x y : Int) : Bool := decide (-1200000000 ≤ x) && decide (x ≤ 1200000000) && decide (-1200000000 ≤ y) && decide (y ≤ 1200000000) && decide (110000000 ≤ x)
def goodY (x y : Int) : Bool := decide (-1200000000 ≤ x) && decide (x ≤ 1200000000) && decide (-1200000000 ≤ y) && decide (y ≤ 1200000000) && decide (110000000 ≤ y)
theorem leafX : leafs goodX 8 0 652032874 0 0 954437177 = true := by decide +kernel
theorem leafY : leafs goodY 8 0 652032874 0 119304647 1073741823 = true := by decide +kernel
theorem turned_x (r : Int) (h : 0 ≤ r ∧ r ≤ 954437177) : 100000000 ≤ (stps (gainP r) 30).x ∧ (stps (gainP r) 30).x ≤ 1300000000 := by
  have h1 := leafs_ok goodX 8 0 652032874 0 0 954437177 r leafX h.1 h.2
  have h2 := stps_run (gainP r) 8 0
  have h3 : stps (gainP r) 8 = runF 8 0 ⟨652032874, 0, r⟩ := h2
  rw [← h3] at h1
  unfold goodX at h1
  simp only [Bool.and_eq_true, decide_eq_true_eq] at h1
  have h4 := tail_bd (gainP r) (stps (gainP r) 8) rfl ⟨h1.1.1.1.1, h1.1.1.1.2, h1.1.1.2, h1.1.2⟩ 22 (by omega)
  have h5 := bndT_pos 22 (by omega)
  have h6 := h4.2
  rw [show 8 + 22 = 30 from rfl] at h6
  omega
theorem turned_y (r : Int) (h : 119304647 ≤ r ∧ r ≤ 1073741823) : 100000000 ≤ (stps (gainP r) 30).y ∧ (stps (gainP r) 30).y ≤ 1300000000 := by
  have h1 := leafs_ok goodY 8 0 652032874 0 119304647 1073741823 r leafY h.1 h.2
  have h2 := stps_run (gainP r) 8 0
  have h3 : stps (gainP r) 8 = runF 8 0 ⟨652032874, 0, r⟩ := h2
  rw [← h3] at h1
  unfold goodY at h1
  simp only [Bool.and_eq_true, decide_eq_true_eq] at h1
  have h4 := tail_bd (gainP r) (stps (gainP r) 8) rfl ⟨h1.1.1.1.1, h1.1.1.1.2, h1.1.1.2, h1.1.2⟩ 22 (by omega)
  have h5 := bndT_pos 22 (by omega)
  have h6 := h4.2
  rw [show 8 + 22 = 30 from rfl] at h6
  omega
theorem narA_in (a : Int) (h : -800000000 ≤ a ∧ a ≤ 800000000) : 100000000 ≤ narA a ∧ narA a ≤ 1300000000 := by
  have hw : wrapL a = a := wrapL_in (by omega)
  unfold narA angL nq sinA
  rw [hw, show (2 : Int) * 3600000000 = 7200000000 from rfl]
  clear hw
  by_cases h0 : 0 ≤ a
  · have hg : 0 ≤ (2 * (a * 4294967296) + 3600000000) / 7200000000 ∧ (2 * (a * 4294967296) + 3600000000) / 7200000000 ≤ 954437177 := by omega
    generalize (2 * (a * 4294967296) + 3600000000) / 7200000000 = g at *
    have e0 : g % 4294967296 / 1073741824 = 0 := by omega
    rw [e0, if_neg (by decide), if_neg (by decide), if_neg (by decide)]
    have := turned_x (g % 4294967296 % 1073741824) (by omega)
    dsimp only
    omega
  · have hg : -954437177 ≤ (2 * (a * 4294967296) + 3600000000) / 7200000000 ∧ (2 * (a * 4294967296) + 3600000000) / 7200000000 ≤ -1 := by omega
    generalize (2 * (a * 4294967296) + 3600000000) / 7200000000 = g at *
    have e0 : g % 4294967296 / 1073741824 = 3 := by omega
    rw [e0, if_neg (by decide), if_neg (by decide), if_pos rfl]
    have := turned_y (g % 4294967296 % 1073741824) (by omega)
    dsimp only
    omega
/-! ### There and back -/
theorem back_north (n : Int) (h : -600000 ≤ n ∧ n ≤ 600000) : -1 ≤ nq (nq (n * 4294967296) 47811357 * 47811357) 4294967296 - n ∧ nq (nq (n * 4294967296) 47811357 * 47811357) 4294967296 - n ≤ 1 := by
  unfold nq
  omega
theorem back_east (N E by' dx T : Int) (hN : 100000000 ≤ N ∧ N ≤ 1300000000) (hE : -600000 ≤ E ∧ E ≤ 600000) (hby : by' = nq (47811357 * N) 1073741824) (hdx : dx = nq (E * 4294967296) by') (hT : T = dx * 47811357 * N) :
    (0 < by' ∧ -600000000 ≤ dx ∧ dx ≤ 600000000) ∧ -1 ≤ nq T 4611686018427387904 - E ∧ nq T 4611686018427387904 - E ≤ 1 := by
  have b1 : 2147483648 * by' ≤ 2 * (47811357 * N) + 1073741824 ∧ 2 * (47811357 * N) + 1073741824 < 2147483648 * by' + 2147483648 := by rw [hby]; unfold nq; omega
  have b2 : 4400000 ≤ by' ∧ by' ≤ 58000000 := by omega
  have b3 : -600000000 ≤ dx ∧ dx ≤ 600000000 := by
    rw [hdx]
    exact nq_bd (B := 600000000) (by omega) (by omega) (by omega)
  have b4 : 2 * (by' * dx) ≤ 2 * (E * 4294967296) + by' ∧ 2 * (E * 4294967296) + by' < 2 * (by' * dx) + 2 * by' := by
    have e : dx = (2 * (E * 4294967296) + by') / (2 * by') := hdx
    have h1 := Int.mul_ediv_self_le (x := 2 * (E * 4294967296) + by') (k := 2 * by') (by omega)
    have h2 := Int.lt_mul_ediv_self_add (x := 2 * (E * 4294967296) + by') (k := 2 * by') (by omega)
    rw [← e, Int.mul_assoc] at h1 h2
    exact ⟨h1, by omega⟩
  obtain ⟨e1, he1⟩ : ∃ e1, e1 = 47811357 * N - 1073741824 * by' := ⟨_, rfl⟩
  have b5 : -536870912 ≤ e1 ∧ e1 ≤ 536870912 := by omega
  have b6 : -(600000000 * 536870912) ≤ dx * e1 ∧ dx * e1 ≤ 600000000 * 536870912 := by
    have a : dx.natAbs ≤ 600000000 := by omega
    have b : e1.natAbs ≤ 536870912 := by omega
    have c := Nat.mul_le_mul a b
    rw [← Int.natAbs_mul] at c
    omega
  have hT2 : T = 1073741824 * (by' * dx) + dx * e1 := by
    rw [hT, he1, Int.mul_assoc, Int.mul_sub, Int.mul_comm by' dx, Int.mul_left_comm 1073741824 dx by']
    omega
  refine ⟨⟨by omega, b3⟩, ?_⟩
  generalize by' * dx = p at *
  generalize dx * e1 = q at *
  unfold nq
  omega
theorem back_law {a b e n la lo : Int} (h : goA a b e n = ((la, lo), 0)) : (metA a b la lo).2.2 = 9 ∨ (metA a b la lo).2.2 = 0 ∧ (-1 ≤ (metA a b la lo).1 - e ∧ (metA a b la lo).1 - e ≤ 1) ∧ (-1 ≤ (metA a b la lo).2.1 - n ∧ (metA a b la lo).2.1 - n ≤ 1) := by
  unfold goA at h
  cases h1 : chkB a b
  case true => rw [h1, if_pos rfl] at h; simp at h
  rw [h1, if_neg (by simp)] at h
  cases h2 : (farB e 600000 && farB n 600000)
  case false => rw [h2, if_neg (by simp)] at h; simp at h
  rw [h2, if_pos rfl] at h
  cases h3 : chkB (goLat a n) (goLon a b e)
  case true => rw [h3, if_pos rfl] at h; simp at h
  rw [h3, if_neg (by simp)] at h
  simp only [Prod.mk.injEq, and_true] at h
  obtain ⟨rfl, rfl⟩ := h
  have k1 := chkB_ok h1
  have hf : (-600000 ≤ e ∧ e ≤ 600000) ∧ -600000 ≤ n ∧ n ≤ 600000 := by unfold farB at h2; simp at h2; omega
  have hN := narA_in a k1.1
  have hE := back_east (narA a) e (byA a) (nq (e * 4294967296) (byA a)) _ hN hf.1 rfl rfl rfl
  have hdx : (divM (e * 4294967296) (byA a) 2).1 = nq (e * 4294967296) (byA a) := by rw [divM_nq hE.1.1 (by omega)]
  have hn := back_north n hf.2
  unfold metA
  rw [h1, h3, if_neg (by simp), if_neg (by simp)]
  unfold goLat goLon
  rw [hdx, show a + nq (n * 4294967296) 47811357 - a = nq (n * 4294967296) 47811357 by omega]
  have hl : wrapL (wrapL (b + nq (e * 4294967296) (byA a)) - b) = nq (e * 4294967296) (byA a) := by
    have := hE.1.2
    generalize nq (e * 4294967296) (byA a) = dx at *
    unfold wrapL
    omega
  rw [hl]
  split
  · right
    have hx := hE.2
    generalize nq (nq (n * 4294967296) 47811357 * 47811357) 4294967296 = y at *
    have hq : -9223372036854775808 ≤ nq (nq (e * 4294967296) (byA a) * 47811357 * narA a) 4611686018427387904 ∧ nq (nq (e * 4294967296) (byA a) * 47811357 * narA a) 4611686018427387904 < 9223372036854775808 := by omega
    rw [divM_nq (by decide) hq]
    exact ⟨rfl, hx, hn⟩
  · exact .inl rfl
end Go.Proofs.Ytnphpnkfdnnmbaa
