/-
  A barometer's error, told by what is measured: the plain law. No program in sight.
-/
import Derived.Test.YtogbnecgikbkmaaRq
namespace Go.Proofs.Ytogbnecgikbkmaa
set_option linter.unusedVariables false
def inB (x lo hi : Int) : Bool := decide (lo ≤ x) && decide (x ≤ hi)
theorem inB_iff {x lo hi : Int} : inB x lo hi = true ↔ lo ≤ x ∧ x ≤ hi := by unfold inB; simp
theorem inB_not {x lo hi : Int} : inB x lo hi = false ↔ x < lo ∨ hi < x := by unfold inB; simp; omega
/-- Are the rules' numbers right? -/
def rul (P q r ga f : Int) : Bool := inB P 1 1073741824 && inB q 0 1073741824 && inB r 1 1073741824 && inB ga 1 16 && inB f 1 100
def chk34 (k o P q r ga f : Int) : Int := if k ≠ 0 ∧ k ≠ 1 ∧ k ≠ 2 then 13 else if k = 1 ∧ inB o 1 256 = false then 1 else if rul P q r ga f then 0 else 2
/-- A number times a part, rounded as told. -/
def mq (a b c m : Int) : Int := (divM (a * b) c m).1
def num34 (k o p : Int) : Int := if k = 0 then p else if k = 1 then o else 1
def den34 (k p r row : Int) : Int := if k = 0 then p + r else if k = 1 then 256 else row + 1
def over34 (ga r p d : Int) : Bool := decide (ga * ga * (p + r) < d * d)
structure S34 where
  x : Int
  p : Int
  row : Int
  out : Int
  tk : Int
  th : Int
def tick34 (q : Int) (s : S34) : S34 := { s with p := if s.p + q > 1073741824 then 1073741824 else s.p + q }
def take34 (k o r ga f : Int) (s : S34) (z : Int) : S34 × Int :=
  if inB z (-1099511627776) 1099511627776 = false then (s, 3)
  else if over34 ga r s.p (z - s.x) then
    if s.out + 1 < f then ({ s with out := s.out + 1, th := s.th + 1 }, 1) else (⟨z, r, 1, 0, s.tk, s.th + 1⟩, 2)
  else (⟨s.x + mq (z - s.x) (num34 k o s.p) (den34 k s.p r s.row) 2, if k = 0 then mq s.p r (s.p + r) 1 else s.p, s.row + 1, 0, s.tk + 1, s.th⟩, 0)
/-- What holds of right rules. -/
structure Ok34 (k o P q r ga f : Int) : Prop where
  kind : k = 0 ∨ k = 1 ∨ k = 2
  of : k = 1 → 1 ≤ o ∧ o ≤ 256
  p0 : 1 ≤ P
  p1 : P ≤ 1073741824
  q0 : 0 ≤ q
  q1 : q ≤ 1073741824
  r0 : 1 ≤ r
  r1 : r ≤ 1073741824
  g0 : 1 ≤ ga
  g1 : ga ≤ 16
  f0 : 1 ≤ f
  f1 : f ≤ 100
theorem ok34 {k o P q r ga f : Int} (h : chk34 k o P q r ga f = 0) : Ok34 k o P q r ga f := by
  unfold chk34 at h
  split at h
  · omega
  · split at h
    · omega
    · split at h
      · rename_i h1 h2 h3
        unfold rul at h3
        simp only [Bool.and_eq_true, inB_iff] at h3
        obtain ⟨⟨⟨⟨⟨a1, a2⟩, ⟨a3, a4⟩⟩, ⟨a5, a6⟩⟩, ⟨a7, a8⟩⟩, ⟨a9, a10⟩⟩ := h3
        refine ⟨by omega, fun e => ?_, a1, a2, a3, a4, a5, a6, a7, a8, a9, a10⟩
        by_cases h4 : inB o 1 256 = false
        · exact absurd ⟨e, h4⟩ h2
        · rw [Bool.not_eq_false] at h4
          exact inB_iff.1 h4
      · omega
/-- What holds of what is kept, behind n deeds. -/
structure In34 (n : Int) (s : S34) : Prop where
  x0 : -1099511627776 ≤ s.x
  x1 : s.x ≤ 1099511627776
  p0 : 1 ≤ s.p
  p1 : s.p ≤ 1073741824
  row0 : 0 ≤ s.row
  row1 : s.row ≤ n
  out0 : 0 ≤ s.out
  out1 : s.out ≤ n
  tk0 : 0 ≤ s.tk
  tk1 : s.tk ≤ n
  th0 : 0 ≤ s.th
  th1 : s.th ≤ n
theorem mulI_bd {a b A B : Int} (h1 : -A ≤ a) (h2 : a ≤ A) (h3 : 0 ≤ b) (h4 : b ≤ B) : -(A * B) ≤ a * b ∧ a * b ≤ A * B := by
  have hA : 0 ≤ A := by omega
  have x1 := Int.mul_le_mul_of_nonneg_right h2 h3
  have x2 := Int.mul_le_mul_of_nonneg_right h1 h3
  have x3 := Int.mul_le_mul_of_nonneg_left h4 hA
  rw [Int.neg_mul] at x2
  omega
/-- Rounded to the nearer one: between 0 and the whole. -/
theorem near_part {d a b : Int} (hb : 0 < b) (ha : 0 ≤ a) (hab : a ≤ b) (hd : -2199023255552 ≤ d ∧ d ≤ 2199023255552) :
    mq d a b 2 = (2 * (d * a) + b) / (2 * b) ∧ (0 ≤ d → 0 ≤ mq d a b 2 ∧ mq d a b 2 ≤ d) ∧ (d ≤ 0 → d ≤ mq d a b 2 ∧ mq d a b 2 ≤ 0) := by
  have key : (0 ≤ d → 0 ≤ (2 * (d * a) + b) / (2 * b) ∧ (2 * (d * a) + b) / (2 * b) ≤ d) ∧ (d ≤ 0 → d ≤ (2 * (d * a) + b) / (2 * b) ∧ (2 * (d * a) + b) / (2 * b) ≤ 0) := by
    refine ⟨fun h => ⟨?_, ?_⟩, fun h => ⟨?_, ?_⟩⟩
    · have := Int.mul_nonneg h ha
      exact Int.ediv_nonneg (by omega) (by omega)
    · have := Int.mul_le_mul_of_nonneg_left hab h
      refine Int.lt_add_one_iff.1 (Int.ediv_lt_of_lt_mul (by omega) ?_)
      rw [Int.add_mul, Int.mul_left_comm d 2 b]
      omega
    · have := Int.mul_le_mul_of_nonpos_left h hab
      refine Int.le_ediv_of_mul_le (by omega) ?_
      rw [Int.mul_left_comm d 2 b]
      omega
    · have := Int.mul_nonpos_of_nonpos_of_nonneg h ha
      refine Int.lt_add_one_iff.1 (Int.ediv_lt_of_lt_mul (by omega) ?_)
      omega
  have e : mq d a b 2 = (2 * (d * a) + b) / (2 * b) := by
    unfold mq
    rw [divM_near hb (by by_cases h : 0 ≤ d
                         · have := key.1 h; omega
                         · have := key.2 (by omega); omega) (by by_cases h : 0 ≤ d
                                                                · have := key.1 h; omega
                                                                · have := key.2 (by omega); omega)]
  rw [e]
  exact ⟨rfl, key⟩
/-- Rounded up: how unsure one is behind what is taken. -/
theorem up_part {p r : Int} (hp : 1 ≤ p) (hp1 : p ≤ 1073741824) (hr : 1 ≤ r) (hr1 : r ≤ 1073741824) : 1 ≤ mq p r (p + r) 1 ∧ mq p r (p + r) 1 ≤ p ∧ mq p r (p + r) 1 ≤ r := by
  have h0 : 0 < p * r := Int.mul_pos (by omega) (by omega)
  have e1 : -(-(p * r) / (p + r)) ≤ p := by
    have : -p ≤ -(p * r) / (p + r) := Int.le_ediv_of_mul_le (by omega) (by
      rw [Int.neg_mul, Int.mul_add]
      have := Int.mul_nonneg (show 0 ≤ p by omega) (show 0 ≤ p by omega)
      omega)
    omega
  have e2 : -(-(p * r) / (p + r)) ≤ r := by
    have : -r ≤ -(p * r) / (p + r) := Int.le_ediv_of_mul_le (by omega) (by
      rw [Int.neg_mul, Int.mul_add, Int.mul_comm r p]
      have := Int.mul_nonneg (show 0 ≤ r by omega) (show 0 ≤ r by omega)
      omega)
    omega
  have e3 : 1 ≤ -(-(p * r) / (p + r)) := by
    have : -(p * r) / (p + r) < 0 := Int.ediv_lt_of_lt_mul (by omega) (by omega)
    omega
  have e : mq p r (p + r) 1 = -(-(p * r) / (p + r)) := by
    unfold mq
    rw [divM_up (by omega) (by omega) (by omega)]
  rw [e]
  exact ⟨e3, e1, e2⟩
theorem part34 {k o P q r ga f n : Int} (h : Ok34 k o P q r ga f) {s : S34} (hs : In34 n s) : 0 < den34 k s.p r s.row ∧ 0 ≤ num34 k o s.p ∧ num34 k o s.p ≤ den34 k s.p r s.row := by
  have := h.kind; have := h.of; have := h.r0; have := hs.p0; have := hs.row0
  unfold num34 den34
  split
  · omega
  · split
    · omega
    · omega
theorem diff34 {n z : Int} {s : S34} (hs : In34 n s) (hz : inB z (-1099511627776) 1099511627776 = true) : -2199023255552 ≤ z - s.x ∧ z - s.x ≤ 2199023255552 := by
  have := inB_iff.1 hz; have := hs.x0; have := hs.x1
  omega
theorem tick_in {n q : Int} {s : S34} (hs : In34 n s) (hq : 0 ≤ q) : In34 (n + 1) (tick34 q s) ∧ s.p ≤ (tick34 q s).p := by
  obtain ⟨x0, x1, p0, p1, r0, r1, o0, o1, t0, t1, h0, h1⟩ := hs
  unfold tick34
  dsimp only
  split
  · exact ⟨⟨x0, x1, by (try dsimp only); omega, by (try dsimp only); omega, r0, by (try dsimp only); omega, o0, by (try dsimp only); omega, t0, by (try dsimp only); omega, h0, by (try dsimp only); omega⟩, by (try dsimp only); omega⟩
  · exact ⟨⟨x0, x1, by (try dsimp only); omega, by (try dsimp only); omega, r0, by (try dsimp only); omega, o0, by (try dsimp only); omega, t0, by (try dsimp only); omega, h0, by (try dsimp only); omega⟩, by (try dsimp only); omega⟩
theorem take_in {k o P q r ga f n : Int} (h : Ok34 k o P q r ga f) {s : S34} (hs : In34 n s) (hn : 0 ≤ n) (z : Int) : In34 (n + 1) (take34 k o r ga f s z).1 := by
  have hp := part34 h hs
  have hu := up_part hs.p0 hs.p1 h.r0 h.r1
  obtain ⟨x0, x1, p0, p1, r0, r1, o0, o1, t0, t1, h0, h1⟩ := id hs
  unfold take34
  split
  · exact ⟨x0, x1, p0, p1, r0, by (try dsimp only); omega, o0, by (try dsimp only); omega, t0, by (try dsimp only); omega, h0, by (try dsimp only); omega⟩
  · rename_i hz
    rw [Bool.not_eq_false] at hz
    have hd := diff34 hs hz
    have hz' := inB_iff.1 hz
    split
    · split
      · exact ⟨x0, x1, p0, p1, r0, by (try dsimp only); omega, by (try dsimp only); omega, by (try dsimp only); omega, t0, by (try dsimp only); omega, by (try dsimp only); omega, by (try dsimp only); omega⟩
      · exact ⟨hz'.1, hz'.2, h.r0, h.r1, by (try dsimp only); omega, by (try dsimp only); omega, by (try dsimp only); omega, by (try dsimp only); omega, t0, by (try dsimp only); omega, by (try dsimp only); omega, by (try dsimp only); omega⟩
    · have hm := (near_part hp.1 hp.2.1 hp.2.2 hd).2
      have hx : -1099511627776 ≤ s.x + mq (z - s.x) (num34 k o s.p) (den34 k s.p r s.row) 2 ∧ s.x + mq (z - s.x) (num34 k o s.p) (den34 k s.p r s.row) 2 ≤ 1099511627776 := by
        by_cases e : 0 ≤ z - s.x
        · have := hm.1 e; omega
        · have := hm.2 (by omega); omega
      refine ⟨hx.1, hx.2, ?_, ?_, by (try dsimp only); omega, by (try dsimp only); omega, by (try dsimp only); omega, by (try dsimp only); omega, by (try dsimp only); omega, by (try dsimp only); omega, h0, by (try dsimp only); omega⟩
      · dsimp only; split <;> omega
      · dsimp only; split <;> omega
/-- No further than what was measured. -/
theorem take_between {k o P q r ga f n lo hi : Int} (h : Ok34 k o P q r ga f) {s : S34} (hs : In34 n s) (z : Int) (hl : lo ≤ s.x) (hh : s.x ≤ hi) :
    ((take34 k o r ga f s z).2 = 3 → lo ≤ (take34 k o r ga f s z).1.x ∧ (take34 k o r ga f s z).1.x ≤ hi) ∧ ((take34 k o r ga f s z).2 ≠ 3 → min lo z ≤ (take34 k o r ga f s z).1.x ∧ (take34 k o r ga f s z).1.x ≤ max hi z) := by
  have hp := part34 h hs
  unfold take34
  split
  · exact ⟨fun _ => ⟨hl, hh⟩, fun e => absurd rfl e⟩
  · rename_i hz
    rw [Bool.not_eq_false] at hz
    have hd := diff34 hs hz
    split
    · split
      · exact ⟨fun e => absurd e (by simp), fun _ => by (try dsimp only); omega⟩
      · exact ⟨fun e => absurd e (by simp), fun _ => by (try dsimp only); omega⟩
    · have hm := (near_part hp.1 hp.2.1 hp.2.2 hd).2
      refine ⟨fun e => absurd e (by simp), fun _ => ?_⟩
      dsimp only
      by_cases e : 0 ≤ z - s.x
      · have := hm.1 e; omega
      · have := hm.2 (by omega); omega
/-- What is taken makes surer; what is refused changes nothing. -/
theorem take_sure {o P q r ga f n : Int} (h : Ok34 0 o P q r ga f) {s : S34} (hs : In34 n s) (z : Int) :
    1 ≤ (take34 0 o r ga f s z).1.p ∧ ((take34 0 o r ga f s z).2 = 0 → (take34 0 o r ga f s z).1.p ≤ s.p ∧ (take34 0 o r ga f s z).1.p ≤ r) ∧
    ((take34 0 o r ga f s z).2 = 1 ∨ (take34 0 o r ga f s z).2 = 3 → (take34 0 o r ga f s z).1.x = s.x ∧ (take34 0 o r ga f s z).1.p = s.p) := by
  have hu := up_part hs.p0 hs.p1 h.r0 h.r1
  have := hs.p0; have := h.r0
  unfold take34
  split
  · exact ⟨by (try dsimp only); omega, fun e => absurd e (by simp), fun _ => ⟨rfl, rfl⟩⟩
  · split
    · split
      · exact ⟨by (try dsimp only); omega, fun e => absurd e (by simp), fun _ => ⟨rfl, rfl⟩⟩
      · exact ⟨by (try dsimp only); omega, fun e => absurd e (by simp), fun e => by rcases e with e | e <;> exact absurd e (by simp)⟩
    · exact ⟨by dsimp only; rw [if_pos rfl]; omega, fun _ => by dsimp only; rw [if_pos rfl]; omega, fun e => by rcases e with e | e <;> exact absurd e (by simp)⟩
/-- Who is unsure learns fast. -/
theorem take_learns {o P q r ga f n : Int} (h : Ok34 0 o P q r ga f) {s : S34} (hs : In34 n s) (z : Int) (hp : r ≤ s.p) (h0 : (take34 0 o r ga f s z).2 = 0) :
    2 * max (z - (take34 0 o r ga f s z).1.x) (-(z - (take34 0 o r ga f s z).1.x)) ≤ max (z - s.x) (-(z - s.x)) + 1 := by
  have hq := part34 h hs
  unfold take34 at h0 ⊢
  split at h0
  · exact absurd h0 (by simp)
  · rename_i hz
    rw [if_neg hz]
    rw [Bool.not_eq_false] at hz
    have hd := diff34 hs hz
    split at h0
    · split at h0 <;> exact absurd h0 (by simp)
    · rename_i ho
      rw [if_neg ho]
      dsimp only
      have hm := near_part hq.1 hq.2.1 hq.2.2 hd
      have en : num34 0 o s.p = s.p := rfl
      have ed : den34 0 s.p r s.row = s.p + r := rfl
      rw [en, ed] at hm ⊢
      have hx : z - (s.x + mq (z - s.x) s.p (s.p + r) 2) = z - s.x - mq (z - s.x) s.p (s.p + r) 2 := by omega
      rw [hx]
      clear hx
      generalize z - s.x = d at *
      have hr := h.r0
      have key : (0 ≤ d → d ≤ 2 * mq d s.p (s.p + r) 2 + 1) ∧ (d ≤ 0 → 2 * mq d s.p (s.p + r) 2 ≤ d + 1) := by
        obtain ⟨e, _⟩ := hm
        rw [e]
        have hb := Int.emod_add_mul_ediv (2 * (d * s.p) + (s.p + r)) (2 * (s.p + r))
        have hb0 := Int.emod_nonneg (2 * (d * s.p) + (s.p + r)) (show 2 * (s.p + r) ≠ 0 by omega)
        have hb1 := Int.emod_lt_of_pos (2 * (d * s.p) + (s.p + r)) (show 0 < 2 * (s.p + r) by omega)
        generalize (2 * (d * s.p) + (s.p + r)) / (2 * (s.p + r)) = m at *
        generalize (2 * (d * s.p) + (s.p + r)) % (2 * (s.p + r)) = t at *
        have e2 : 2 * (s.p + r) * m = 2 * ((s.p + r) * m) := by rw [Int.mul_assoc]
        rw [e2] at hb
        constructor
        · intro h0
          by_cases hc : d ≤ 2 * m + 1
          · exact hc
          · exfalso
            have a1 := Int.mul_le_mul_of_nonneg_left (show 2 * m + 2 ≤ d by omega) (show 0 ≤ s.p + r by omega)
            have a2 := Int.mul_le_mul_of_nonneg_left hp h0
            have a3 : (s.p + r) * (2 * m + 2) = 2 * ((s.p + r) * m) + 2 * (s.p + r) := by rw [Int.mul_add, Int.mul_comm (s.p + r) (2 * m), Int.mul_assoc, Int.mul_comm m, Int.mul_comm (s.p + r) 2]
            have a4 : (s.p + r) * d = d * s.p + d * r := by rw [Int.mul_comm, Int.mul_add]
            omega
        · intro h0
          by_cases hc : 2 * m ≤ d + 1
          · exact hc
          · exfalso
            have a1 := Int.mul_le_mul_of_nonneg_left (show d + 2 ≤ 2 * m by omega) (show 0 ≤ s.p + r by omega)
            have a2 := Int.mul_le_mul_of_nonpos_left h0 hp
            have a3 : (s.p + r) * (2 * m) = 2 * ((s.p + r) * m) := by rw [Int.mul_comm (s.p + r) (2 * m), Int.mul_assoc, Int.mul_comm m]
            have a4 : (s.p + r) * (d + 2) = d * s.p + d * r + 2 * (s.p + r) := by rw [Int.mul_add, Int.mul_comm _ d, Int.mul_add, Int.mul_comm (s.p + r) 2]
            omega
      by_cases e : 0 ≤ d
      · have := key.1 e; have := hm.2.1 e; omega
      · have := key.2 (by omega); have := hm.2.2 (by omega); omega
theorem gg_bd {ga p r : Int} (g0 : 1 ≤ ga) (g1 : ga ≤ 16) (p0 : 1 ≤ p) (p1 : p ≤ 1073741824) (r0 : 1 ≤ r) (r1 : r ≤ 1073741824) : (1 ≤ ga * ga ∧ ga * ga ≤ 256) ∧ (0 ≤ ga * ga * (p + r) ∧ ga * ga * (p + r) ≤ 549755813888) := by
  have a := mulI_bd (a := ga) (b := ga) (A := 16) (B := 16) (by omega) (by omega) (by omega) (by omega)
  have b : 1 * 1 ≤ ga * ga := Int.mul_le_mul g0 g0 (by omega) (by omega)
  have c := mulI_bd (a := ga * ga) (b := p + r) (A := 256) (B := 2147483648) (by omega) (by omega) (by omega) (by omega)
  have d := Int.mul_nonneg (show 0 ≤ ga * ga by omega) (show 0 ≤ p + r by omega)
  omega
theorem sq_bd {d : Int} (h : -2199023255552 ≤ d ∧ d ≤ 2199023255552) : 0 ≤ d * d ∧ d * d ≤ 4835703278458516698824704 := by
  have e : d * d = (d.natAbs : Int) * d.natAbs := by rw [← Int.natCast_mul, ← Int.natAbs_mul_self' d]; simp
  have b : (d.natAbs : Int) ≤ 2199023255552 := by omega
  rw [e]
  have := Int.mul_le_mul b b (by omega) (by omega)
  have := Int.mul_nonneg (show (0 : Int) ≤ d.natAbs by omega) (show (0 : Int) ≤ d.natAbs by omega)
  omega
end Go.Proofs.Ytogbnecgikbkmaa
