/-
  Lemmas and walks of this claim (the texts W03 S03 Rw03 E06 of the work; what no proof here uses is left out). No claim of their own.
-/
import Derived.Test.YtpejoaefnnbghaaPG3
import Derived.Test.YtpejoaefnnbghaaPG2
import Derived.Test.YtpejoaefnnbghaaProg
import Derived.Deep.QuietTactic
import Derived.BigQuiet
import Derived.Deep.Cut
import Derived.Deep.LoopGhost
import Derived.WalkLawsBesides
import Derived.WalkSpells
set_option linter.all false
set_option linter.unusedSimpArgs false
set_option linter.unusedVariables false
namespace Go.Proofs.Ytpejoaefnnbghaa
open Go.RowKit

theorem zeroW (w : World) : (zeroValue 106).run Try.prog w = .ok (.agg #[.int .i64 0, .int .u64 0]) w := by kernel_rfl

def wI (z : Int) : Array Value := #[.int .i64 (z / 18446744073709551616), .int .u64 (z % 18446744073709551616)]
def wrap128 (z : Int) : Int := (z + 170141183460469231731687303715884105728) % 340282366920938463463374607431768211456 - 170141183460469231731687303715884105728

theorem wI_size (z : Int) : (wI z).size = 2 := rfl
theorem wI_ones (z : Int) : Ones (wI z) := by simp [Ones, wI, Value.oneCell']
theorem infoW : (Try.prog.info? 106).map (·.size) = some 2 := by kernel_rfl
theorem mul64_any (x y h l : Nat) (w : World) (hx : x < 18446744073709551616) (hy : y < 18446744073709551616) (he : x * y = h * 18446744073709551616 + l) (hl : l < 18446744073709551616) :
    Calls Try.prog 106 #[.int .u64 x, .int .u64 y] w fun e w' => e = .returned (.tuple #[.int .u64 h, .int .u64 l]) ∧ w = w' := by
  refine Calls.mono (Try.bits_Mul64 x y hx hy w) ?_
  rintro e w' ⟨rfl, hw⟩
  refine ⟨?_, hw.symm⟩
  rw [he, show (h * 18446744073709551616 + l) / 18446744073709551616 = h by omega, show (h * 18446744073709551616 + l) % 18446744073709551616 = l by omega]
theorem add64_run (x y c : Int) (x0 : 0 ≤ x) (y0 : 0 ≤ y) (hc0 : 0 ≤ c) (hc : c ≤ 1) (w : World) :
    (callFunc 105 #[.int .u64 x, .int .u64 y, .int .u64 c]).run Try.prog w = .ok (.value (.tuple #[.int .u64 ((x + y + c) % 18446744073709551616), .int .u64 ((x + y + c) / 18446744073709551616)])) w := by
  rw [run_callFunc_extern Try.func105 (by kernel_rfl) (by kernel_rfl) (by kernel_rfl) (e := add64Entry) (by kernel_rfl), run_add64 x y c x0 y0 hc0 hc]
  rfl

theorem Of_wide (x : Int) (w : World) (h0 : -9223372036854775808 ≤ x) (h1 : x ≤ 9223372036854775807) :
    Calls Try.prog 104 #[.int .i64 x] w fun e w' => e = .returned (.agg (wI x)) ∧ Below w.heap.size w w' := by
  have hz := zeroW
  have e1 : Hid (x / 9223372036854775808 = x / 18446744073709551616) := Lib.hid (by omega)
  have e2 : Hid (IntKind.u64.wrap x = x % 18446744073709551616) := Lib.hid (by rw [IntKind.wrap_u64])
  have hb := (Below.refl w.heap.size w).alloc (Nat.le_refl _) (.cells #[.int .i64 (x / 9223372036854775808), .int .u64 (IntKind.u64.wrap x)] 106)
  go_enter Try.func104, Try.ntmps104
  go_wp2
  refine bodyPost_ret (v := .agg #[.int .i64 (x / 9223372036854775808), .int .u64 (IntKind.u64.wrap x)]) (by simp [results, Try.results104, go_sem]) rfl ⟨?_, hb⟩
  rw [e1.out, e2.out]; rfl

def AddPost (h1 h2 l1 l2 : Int) (w : World) (e : Ending) (w' : World) : Prop := ∃ s c s' c' : Int, s = (l1 + l2 + 0) % 18446744073709551616 ∧ c = (l1 + l2 + 0) / 18446744073709551616 ∧ s' = (IntKind.u64.wrap h1 + IntKind.u64.wrap h2 + c) % 18446744073709551616 ∧ c' = (IntKind.u64.wrap h1 + IntKind.u64.wrap h2 + c) / 18446744073709551616 ∧
  e = .returned (.tuple #[.agg #[.int .i64 (wrap64 s'), .int .u64 s], .bool ((decide (h1 < 0) != decide (h2 < 0)) || decide (wrap64 s' < 0) == decide (h1 < 0))]) ∧ Below w.heap.size w w'

set_option maxHeartbeats 8000000 in
theorem Add_parts (h1 h2 l1 l2 : Int) (w : World) (a0 : -9223372036854775808 ≤ h1) (a1 : h1 ≤ 9223372036854775807) (b0 : -9223372036854775808 ≤ h2) (b1 : h2 ≤ 9223372036854775807)
    (c0 : 0 ≤ l1) (c1 : l1 ≤ 18446744073709551615) (d0 : 0 ≤ l2) (d1 : l2 ≤ 18446744073709551615) :
    Calls Try.prog 63 #[.agg #[.int .i64 h1, .int .u64 l1], .agg #[.int .i64 h2, .int .u64 l2]] w (AddPost h1 h2 l1 l2 w) := by
  have hz := zeroW
  obtain ⟨s, hs⟩ : ∃ s, s = (l1 + l2 + 0) % 18446744073709551616 := ⟨_, rfl⟩
  obtain ⟨c, hc⟩ : ∃ c, c = (l1 + l2 + 0) / 18446744073709551616 := ⟨_, rfl⟩
  have e1 := add64_run l1 l2 0 c0 d0 (by omega) (by omega)
  rw [← hs, ← hc] at e1
  have hu1 : 0 ≤ IntKind.u64.wrap h1 := by rw [IntKind.wrap_u64]; omega
  have hu2 : 0 ≤ IntKind.u64.wrap h2 := by rw [IntKind.wrap_u64]; omega
  have e2 := add64_run (IntKind.u64.wrap h1) (IntKind.u64.wrap h2) c hu1 hu2 (by omega) (by omega)
  obtain ⟨s', hs'⟩ : ∃ s', s' = (IntKind.u64.wrap h1 + IntKind.u64.wrap h2 + c) % 18446744073709551616 := ⟨_, rfl⟩
  obtain ⟨c', hc'⟩ : ∃ c', c' = (IntKind.u64.wrap h1 + IntKind.u64.wrap h2 + c) / 18446744073709551616 := ⟨_, rfl⟩
  rw [← hs', ← hc'] at e2
  have F := Lib.hid (And.intro hs (And.intro hc (And.intro hs' hc')))
  clear hs hc hs' hc' hu1 hu2
  have bel : ∀ (A B C D : Array Value), Below w.heap.size w ((((w.alloc (.cells A 106)).alloc (.cells B 106)).alloc (.cells C 106)).alloc (.cells D 106)).drew := fun A B C D => by
    refine Below.drew ?_
    repeat' (first | exact Below.refl _ _ | refine Below.alloc ?_ ?_ _ | exact Nat.le_refl _ | (simp only [World.size_alloc]; omega))
  by_cases n1 : h1 < 0 <;> by_cases n2 : h2 < 0 <;> by_cases n3 : wrap64 s' < 0
  all_goals
    first | have q1 : decide (h1 < 0) = true := decide_eq_true n1 | have q1 : decide (h1 < 0) = false := decide_eq_false n1
    first | have q2 : decide (h2 < 0) = true := decide_eq_true n2 | have q2 : decide (h2 < 0) = false := decide_eq_false n2
    first | have q3 : decide (wrap64 s' < 0) = true := decide_eq_true n3 | have q3 : decide (wrap64 s' < 0) = false := decide_eq_false n3
    try rw [IntWalk.u64_in h1 (by omega)] at e2
    try rw [IntWalk.u64_in h2 (by omega)] at e2
    go_enter Try.func63, Try.ntmps63
    go_wp2
    go_region
    go_wp2
    refine bodyPost_ret (v := .tuple #[.agg #[.int .i64 (wrap64 s'), .int .u64 s], .bool ((decide (h1 < 0) != decide (h2 < 0)) || decide (wrap64 s' < 0) == decide (h1 < 0))]) (by first|(simp [results, Try.results63, go_sem, q1, q2, q3];done)|(simp [results, Try.results63, go_sem];omega)) rfl ⟨s, c, s', c', F.out.1, F.out.2.1, F.out.2.2.1, F.out.2.2.2, ?_, bel _ _ _ _⟩
    rfl

def fits128 (z : Int) : Bool := decide (-170141183460469231731687303715884105728 ≤ z) && decide (z < 170141183460469231731687303715884105728)
theorem Add_any (x y : Int) (w : World) (x0 : -170141183460469231731687303715884105728 ≤ x) (x1 : x < 170141183460469231731687303715884105728) (y0 : -170141183460469231731687303715884105728 ≤ y) (y1 : y < 170141183460469231731687303715884105728) :
    Calls Try.prog 63 #[.agg (wI x), .agg (wI y)] w fun e w' => e = .returned (.tuple #[.agg (wI (wrap128 (x + y))), .bool (fits128 (x + y))]) ∧ Below w.heap.size w w' := by
  have h := Add_parts (x / 18446744073709551616) (y / 18446744073709551616) (x % 18446744073709551616) (y % 18446744073709551616) w (by omega) (by omega) (by omega) (by omega) (by omega) (by omega) (by omega) (by omega)
  refine Calls.mono h ?_
  rintro e w' ⟨s, c, s', c', hs, hc, hs', hc', rfl, hb⟩
  refine ⟨?_, hb⟩
  rw [IntKind.wrap_u64, IntKind.wrap_u64] at hs'
  have e1 : wrap64 s' = wrap128 (x + y) / 18446744073709551616 := by unfold wrap64 wrap128; omega
  have e2 : s = wrap128 (x + y) % 18446744073709551616 := by unfold wrap128; omega
  have e3 : ((decide (x / 18446744073709551616 < 0) != decide (y / 18446744073709551616 < 0)) || decide (wrap64 s' < 0) == decide (x / 18446744073709551616 < 0)) = fits128 (x + y) := by
    rw [e1]
    unfold fits128
    by_cases a : x / 18446744073709551616 < 0 <;> by_cases b : y / 18446744073709551616 < 0 <;> by_cases d : wrap128 (x + y) / 18446744073709551616 < 0
    all_goals
      simp only [a, b, d, decide_true, decide_false, bne_self_eq_false, Bool.false_or, Bool.true_or, beq_self_eq_true, Bool.bne_true, Bool.not_false, Bool.bne_false]
      unfold wrap128 at d
      first
        | (rw [decide_eq_true (by omega), decide_eq_true (by omega)]; rfl)
        | (rw [decide_eq_false (show ¬ (-170141183460469231731687303715884105728 ≤ x + y) by omega)]; rfl)
        | (rw [decide_eq_false (show ¬ (x + y < 170141183460469231731687303715884105728) by omega), Bool.and_false]; rfl)
  rw [e3, e1, e2]; rfl
end Go.Proofs.Ytpejoaefnnbghaa
namespace Go.Proofs.Ytpejoaefnnbghaa
open Go.RowKit

def ShlAt (z : Int) (ok0 : Bool) (k : Nat) (ok : Bool) (a : Int) : Prop :=
  ok = (ok0 && fits128 (z * 2 ^ k)) ∧ (fits128 (z * 2 ^ k) = true → a = z * 2 ^ k) ∧ -170141183460469231731687303715884105728 ≤ a ∧ a < 170141183460469231731687303715884105728
theorem ShlAt_zero {z : Int} (h : fits128 z = true) (ok0 : Bool) : ShlAt z ok0 0 ok0 z := by
  have e : z * 2 ^ 0 = z := by simp
  unfold ShlAt
  rw [e, h, Bool.and_true]
  unfold fits128 at h
  simp at h
  exact ⟨rfl, fun _ => rfl, h⟩
theorem wrap128_bd (z : Int) : -170141183460469231731687303715884105728 ≤ wrap128 z ∧ wrap128 z < 170141183460469231731687303715884105728 := by unfold wrap128; omega
theorem wrap128_in {z : Int} (h : fits128 z = true) : wrap128 z = z := by
  unfold fits128 at h
  simp at h
  unfold wrap128; omega
theorem ShlAt_succ {z : Int} {ok0 ok : Bool} {k : Nat} {a : Int} (h : ShlAt z ok0 k ok a) : ShlAt z ok0 (k + 1) (ok && fits128 (a + a)) (wrap128 (a + a)) := by
  obtain ⟨h1, h2, h3, h4⟩ := h
  have e : z * 2 ^ (k + 1) = z * 2 ^ k + z * 2 ^ k := by rw [Int.pow_succ, ← Int.mul_assoc]; omega
  unfold ShlAt
  rw [e]
  generalize z * 2 ^ k = y at *
  cases hf : fits128 y
  · rw [hf] at h1
    have hn : fits128 (y + y) = false := by
      cases hy : fits128 (y + y)
      · rfl
      · unfold fits128 at hf hy
        simp at hf hy
        omega
    rw [hn, h1]
    simp
    exact wrap128_bd _
  · have := h2 hf
    subst this
    rw [h1, hf, Bool.and_true]
    refine ⟨rfl, fun hy => wrap128_in hy, wrap128_bd _⟩

theorem zeroW' (w : World) : (zeroValue 106).run Try.prog w = .ok (.agg (wI 0)) w := by kernel_rfl

theorem builtW0 : Try.prog.built 106 [] = some (wI 0) := by kernel_rfl
def ShlPost (z : Int) (n : Nat) (w : World) (e : Ending) (w' : World) : Prop := e = .returned (.tuple #[.agg (wI (if fits128 (z * 2 ^ n) then z * 2 ^ n else 0)), .bool (fits128 (z * 2 ^ n))]) ∧ Below w.heap.size w w'
set_option maxHeartbeats 1000000 in
set_option maxRecDepth 100000 in
theorem Shl_in (z : Int) (n : Nat) (w : World) (hz : fits128 z = true) (hn : n ≤ 63) :
    Calls Try.prog 103 #[.agg (wI z), .int .i64 n] w (ShlPost z n w) := by
  have hzw := zeroW'
  have hn1 : decide ((n : Int) ≤ 63) = true := decide_eq_true (by omega)
  have hn2 : min (n : Int) 63 = n := by omega
  have g0 := ShlAt_zero hz true
  have HZ := Lib.hid hz
  clear hz
  have G0 := Lib.hid g0
  clear g0
  go_enter Try.func103, Try.ntmps103
  go_wp2
  go_loopw [6, 18] (fun o i wr => ∃ (k : Nat) (ok : Bool) (a : Int), k ≤ n ∧ i = .int .i64 k ∧ o = .bool ok ∧ Hid (ShlAt z true k ok a) ∧ Has wr w.heap.size (wI a) 106 ∧ Has wr (w.heap.size + 1) (wI 0) 106 ∧ Below w.heap.size w wr) (fun _ i _ => n - (intOf i).toNat)
  case atStart =>
    refine ⟨0, true, z, by omega, rfl, rfl, G0, (Has.new _ _ _).alloc _, ?_, ?_⟩
    · have := Has.new (w.alloc (.cells (wI z) 106)) (wI 0) 106
      simpa only [World.size_alloc] using this
    · repeat' (first | exact Below.refl _ _ | refine Below.alloc ?_ ?_ _ | exact Nat.le_refl _ | (simp only [World.size_alloc]; omega))
  case round =>
    obtain ⟨k, ok, a, hk, rfl, rfl, G, g1, g2, g3⟩ := hrel
    have bd := Lib.hid (And.intro G.out.2.2.1 G.out.2.2.2)
    by_cases hlt : k < n
    · have G' := Lib.hid (ShlAt_succ G.out)
      go_wp2_with (first | ((with_reducible refine wl_at_load 106 ?_); refine wl_load rfl 106 _ rfl _ rfl g1 Try.underlying106 rfl infoW (wI_size _) ?_))
      refine (Add_any a a _ bd.out.1 bd.out.2 bd.out.1 bd.out.2).mono ?_
      rintro e w1 ⟨rfl, hb⟩
      dsimp only
      replace g3 := below_step g3 hb (by have := g1.lt; omega)
      replace g1 := g1.below hb; replace g2 := g2.below hb
      clear hb
      have h7 := Has.new w1 (wI (wrap128 (a + a))) 106
      have h1 := g1.alloc (.cells (wI (wrap128 (a + a))) 106)
      have h2 := g2.alloc (.cells (wI (wrap128 (a + a))) 106)
      replace g3 := g3.alloc (by have := g1.lt; omega) (.cells (wI (wrap128 (a + a))) 106)
      clear g1 g2
      generalize wrap128 (a + a) = s at *
      generalize fits128 (a + a) = f at *
      cases ok
      all_goals
        go_wp2_with (first|((with_reducible refine wl_at_store 106 ?_);refine wl_store_new rfl 106 _ _ rfl _ _ rfl rfl (by first|(with_reducible exact rfl)|simp only [World.size_alloc]) infoW (wI_size _) (wI_size _) (wI_ones _) rfl ?_)|((with_reducible refine wl_at_load 106 ?_);refine wl_load rfl 106 _ rfl _ rfl h7 Try.underlying106 rfl infoW (wI_size _) ?_)|((with_reducible refine wl_at_store 106 ?_);refine wl_store rfl 106 _ _ rfl _ _ rfl rfl h1 infoW (wI_size _) (wI_size _) (wI_ones _) rfl ?_))
        refine ⟨⟨k + 1, _, s, by omega, by go_num, rfl, G', h1.row _, h2.rowKeep (by omega) _, below_setRow g3 (by omega) _⟩, by simp [intOf]; omega⟩
    · obtain rfl : k = n := by omega
      cases ok
      · go_wp2_with (first|((with_reducible refine wl_at_build 106 ?_);refine wl_build rfl 106 _ rfl rfl builtW0 ?_)|((with_reducible refine wl_at_store 106 ?_);refine wl_store rfl 106 _ _ rfl _ _ rfl rfl g2 infoW (wI_size _) (wI_size _) (wI_ones _) rfl ?_))
        refine bodyPost_ret (results_has2 rfl _ rfl (g2.row _) Try.underlying106 rfl infoW (wI_size _)) rfl ⟨?_, below_setRow g3 (by omega) _⟩
        have h1 : fits128 (z * 2 ^ k) = false := by have := G.out.1; simpa using this.symm
        rw [h1]; rfl
      · go_wp2_with (first|((with_reducible refine wl_at_load 106 ?_);refine wl_load rfl 106 _ rfl _ rfl g1 Try.underlying106 rfl infoW (wI_size _) ?_)|((with_reducible refine wl_at_store 106 ?_);refine wl_store rfl 106 _ _ rfl _ _ rfl rfl g2 infoW (wI_size _) (wI_size _) (wI_ones _) rfl ?_))
        refine bodyPost_ret (results_has2 rfl _ rfl (g2.row _) Try.underlying106 rfl infoW (wI_size _)) rfl ⟨?_, below_setRow g3 (by omega) _⟩
        have h1 : fits128 (z * 2 ^ k) = true := by have := G.out.1; simpa using this.symm
        rw [h1, if_pos rfl, ← G.out.2.1 h1]; rfl

end Go.Proofs.Ytpejoaefnnbghaa
namespace Go.Proofs.Ytpejoaefnnbghaa
open Go.RowKit

/-! ### The root of a number of 128 bits, bit by bit -/
def wroot (A : Nat) : Nat → Nat → Nat
  | 0, r => r
  | k + 1, r => wroot A k (if (r + 2 ^ k) * (r + 2 ^ k) ≤ A then r + 2 ^ k else r)
def RootAt (A k r : Nat) : Prop := r % 2 ^ k = 0 ∧ r < 2 ^ 64 ∧ r * r ≤ A ∧ A < (r + 2 ^ k) * (r + 2 ^ k)
theorem RootAt_start {A : Nat} (h : A < 2 ^ 128) : RootAt A 64 0 := ⟨rfl, by omega, by omega, by simpa using h⟩
theorem RootAt_fit {A k r : Nat} (h : RootAt A (k + 1) r) (hk : k < 64) : r + 2 ^ k < 2 ^ 64 := by
  obtain ⟨h1, h2, _, _⟩ := h
  have hp := Nat.two_pow_pos k
  have e : (2 : Nat) ^ 64 = 2 ^ (k + 1) * 2 ^ (63 - k) := by rw [← Nat.pow_add]; congr 1; omega
  obtain ⟨q, hq⟩ := Nat.dvd_of_mod_eq_zero h1
  rw [e, hq] at h2
  have hlt : q < 2 ^ (63 - k) := Nat.lt_of_mul_lt_mul_left h2
  have : 2 ^ (k + 1) * (q + 1) ≤ 2 ^ (k + 1) * 2 ^ (63 - k) := Nat.mul_le_mul_left _ hlt
  rw [← e, Nat.mul_add, ← hq, Nat.mul_one, Nat.pow_succ] at this
  omega
theorem RootAt_succ {A k r : Nat} (h : RootAt A (k + 1) r) (hk : k < 64) : RootAt A k (if (r + 2 ^ k) * (r + 2 ^ k) ≤ A then r + 2 ^ k else r) := by
  have hf := RootAt_fit h hk
  obtain ⟨h1, h2, h3, h4⟩ := h
  have hm : r % 2 ^ k = 0 := by
    have := Nat.mod_mod_of_dvd r (Nat.pow_dvd_pow 2 (Nat.le_succ k))
    rw [h1] at this; simpa using this.symm
  split
  · rename_i hle
    refine ⟨by rw [Nat.add_mod_right]; exact hm, hf, hle, ?_⟩
    rw [Nat.add_assoc, ← Nat.mul_two, ← Nat.pow_succ]; exact h4
  · rename_i hle
    exact ⟨hm, h2, h3, by omega⟩
theorem wroot_spec {A : Nat} : ∀ (k r : Nat), k ≤ 64 → RootAt A k r → RootAt A 0 (wroot A k r)
  | 0, _, _, h => h
  | k + 1, r, hk, h => wroot_spec k _ (by omega) (RootAt_succ h (by omega))
def isq (A : Nat) : Nat := wroot A 64 0
theorem isq_spec {A : Nat} (h : A < 2 ^ 128) : isq A * isq A ≤ A ∧ A < (isq A + 1) * (isq A + 1) ∧ isq A < 2 ^ 64 := by
  have := wroot_spec 64 0 (by omega) (RootAt_start h)
  exact ⟨this.2.2.1, by simpa [isq] using this.2.2.2, this.2.1⟩
theorem root_unique {A r s : Nat} (h1 : r * r ≤ A) (h2 : A < (r + 1) * (r + 1)) (h3 : s * s ≤ A) (h4 : A < (s + 1) * (s + 1)) : r = s := by
  rcases Nat.lt_trichotomy r s with h | h | h
  · have := Nat.mul_le_mul (show r + 1 ≤ s from h) (show r + 1 ≤ s from h); omega
  · exact h
  · have := Nat.mul_le_mul (show s + 1 ≤ r from h) (show s + 1 ≤ r from h); omega
theorem root_or {r k : Nat} (h : r % 2 ^ (k + 1) = 0) : r ||| 2 ^ k = r + 2 ^ k := by
  obtain ⟨q, rfl⟩ := Nat.dvd_of_mod_eq_zero h
  rw [Nat.two_pow_add_eq_or_of_lt (Nat.pow_lt_pow_right (by omega) (by omega))]

end Go.Proofs.Ytpejoaefnnbghaa
namespace Go.Proofs.Ytpejoaefnnbghaa
open Go.RowKit

theorem Bits_any (x n : Nat) (w : World) (h1 : x < 18446744073709551616) (hn : Lib.bitLen x = n) :
    Calls Try.prog 123 #[.int .u64 x] w fun e w' => e = .returned (.int .i64 n) ∧ w = w' := by
  have Hn := Lib.hid hn; clear hn
  go_enter Try.func123, Try.ntmps123
  go_wp2_with (go_at_call 127; refine (Try.bits_Len64 _ _ (by omega) (by omega)).mono ?_; rintro e w' ⟨rfl, rfl⟩)
  go_ret
  exact ⟨by rw [← Hn.out]; simp, rfl⟩

/-! ### The logarithm -/
theorem bitLen_log2 (x : Nat) (h0 : x ≠ 0) (h : x < 2 ^ 64) : Lib.bitLen x = Nat.log2 x + 1 := by
  have key : ∀ n x : Nat, x ≤ n → x ≠ 0 → x < 2 ^ 64 → Lib.bitLen x = Nat.log2 x + 1 := by
    intro n
    induction n with
    | zero => intro x hx h0; omega
    | succ n ih =>
      intro x hx h0 h
      rw [Lib.bitLen_half x h0 h, Nat.log2_def]
      split
      · rename_i h2
        rw [ih (x / 2) (by omega) (by omega) (by omega)]; omega
      · have : x = 1 := by omega
        subst this; rfl
  exact key x x (Nat.le_refl _) h0 h
/-! ### One divided by a power of two -/
end Go.Proofs.Ytpejoaefnnbghaa
