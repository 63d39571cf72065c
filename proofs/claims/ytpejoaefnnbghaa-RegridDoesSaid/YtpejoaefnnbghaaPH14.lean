/-
  Lemmas and walks of this claim (the texts W03 S03 of the work; what no proof here uses is left out). No claim of their own.
-/
import Derived.Test.YtpejoaefnnbghaaPH3
import Derived.Test.YtpejoaefnnbghaaPH2
import Derived.Test.YtpejoaefnnbghaaProg
import Derived.Deep.QuietTactic
import Derived.BigQuiet
import Derived.Deep.Cut
import Derived.Deep.LoopGhost
import Derived.WalkLawsBesides
import Derived.WalkSpells
set_option linter.all false
set_option linter.unusedSimpArgs false
set_option linter.unusedVariables false
namespace Go.Proofs.Ytpejoaefnnbghaa
open Go.RowKit

theorem zeroW (w : World) : (zeroValue 106).run Try.prog w = .ok (.agg #[.int .i64 0, .int .u64 0]) w := by kernel_rfl

def wI (z : Int) : Array Value := #[.int .i64 (z / 18446744073709551616), .int .u64 (z % 18446744073709551616)]
def wrap128 (z : Int) : Int := (z + 170141183460469231731687303715884105728) % 340282366920938463463374607431768211456 - 170141183460469231731687303715884105728

theorem wI_size (z : Int) : (wI z).size = 2 := rfl
theorem wI_ones (z : Int) : Ones (wI z) := by simp [Ones, wI, Value.oneCell']
theorem mul64_any (x y h l : Nat) (w : World) (hx : x < 18446744073709551616) (hy : y < 18446744073709551616) (he : x * y = h * 18446744073709551616 + l) (hl : l < 18446744073709551616) :
    Calls Try.prog 106 #[.int .u64 x, .int .u64 y] w fun e w' => e = .returned (.tuple #[.int .u64 h, .int .u64 l]) ∧ w = w' := by
  refine Calls.mono (Try.bits_Mul64 x y hx hy w) ?_
  rintro e w' ⟨rfl, hw⟩
  refine ⟨?_, hw.symm⟩
  rw [he, show (h * 18446744073709551616 + l) / 18446744073709551616 = h by omega, show (h * 18446744073709551616 + l) % 18446744073709551616 = l by omega]
theorem add64_run (x y c : Int) (x0 : 0 ≤ x) (y0 : 0 ≤ y) (hc0 : 0 ≤ c) (hc : c ≤ 1) (w : World) :
    (callFunc 105 #[.int .u64 x, .int .u64 y, .int .u64 c]).run Try.prog w = .ok (.value (.tuple #[.int .u64 ((x + y + c) % 18446744073709551616), .int .u64 ((x + y + c) / 18446744073709551616)])) w := by
  rw [run_callFunc_extern Try.func105 (by kernel_rfl) (by kernel_rfl) (by kernel_rfl) (e := add64Entry) (by kernel_rfl), run_add64 x y c x0 y0 hc0 hc]
  rfl

def AddPost (h1 h2 l1 l2 : Int) (w : World) (e : Ending) (w' : World) : Prop := ∃ s c s' c' : Int, s = (l1 + l2 + 0) % 18446744073709551616 ∧ c = (l1 + l2 + 0) / 18446744073709551616 ∧ s' = (IntKind.u64.wrap h1 + IntKind.u64.wrap h2 + c) % 18446744073709551616 ∧ c' = (IntKind.u64.wrap h1 + IntKind.u64.wrap h2 + c) / 18446744073709551616 ∧
  e = .returned (.tuple #[.agg #[.int .i64 (wrap64 s'), .int .u64 s], .bool ((decide (h1 < 0) != decide (h2 < 0)) || decide (wrap64 s' < 0) == decide (h1 < 0))]) ∧ Below w.heap.size w w'

set_option maxHeartbeats 8000000 in
theorem Add_parts (h1 h2 l1 l2 : Int) (w : World) (a0 : -9223372036854775808 ≤ h1) (a1 : h1 ≤ 9223372036854775807) (b0 : -9223372036854775808 ≤ h2) (b1 : h2 ≤ 9223372036854775807)
    (c0 : 0 ≤ l1) (c1 : l1 ≤ 18446744073709551615) (d0 : 0 ≤ l2) (d1 : l2 ≤ 18446744073709551615) :
    Calls Try.prog 63 #[.agg #[.int .i64 h1, .int .u64 l1], .agg #[.int .i64 h2, .int .u64 l2]] w (AddPost h1 h2 l1 l2 w) := by
  have hz := zeroW
  obtain ⟨s, hs⟩ : ∃ s, s = (l1 + l2 + 0) % 18446744073709551616 := ⟨_, rfl⟩
  obtain ⟨c, hc⟩ : ∃ c, c = (l1 + l2 + 0) / 18446744073709551616 := ⟨_, rfl⟩
  have e1 := add64_run l1 l2 0 c0 d0 (by omega) (by omega)
  rw [← hs, ← hc] at e1
  have hu1 : 0 ≤ IntKind.u64.wrap h1 := by rw [IntKind.wrap_u64]; omega
  have hu2 : 0 ≤ IntKind.u64.wrap h2 := by rw [IntKind.wrap_u64]; omega
  have e2 := add64_run (IntKind.u64.wrap h1) (IntKind.u64.wrap h2) c hu1 hu2 (by omega) (by omega)
  obtain ⟨s', hs'⟩ : ∃ s', s' = (IntKind.u64.wrap h1 + IntKind.u64.wrap h2 + c) % 18446744073709551616 := ⟨_, rfl⟩
  obtain ⟨c', hc'⟩ : ∃ c', c' = (IntKind.u64.wrap h1 + IntKind.u64.wrap h2 + c) / 18446744073709551616 := ⟨_, rfl⟩
  rw [← hs', ← hc'] at e2
  have F := Lib.hid (And.intro hs (And.intro hc (And.intro hs' hc')))
  clear hs hc hs' hc' hu1 hu2
  have bel : ∀ (A B C D : Array Value), Below w.heap.size w ((((w.alloc (.cells A 106)).alloc (.cells B 106)).alloc (.cells C 106)).alloc (.cells D 106)).drew := fun A B C D => by
    refine Below.drew ?_
    repeat' (first | exact Below.refl _ _ | refine Below.alloc ?_ ?_ _ | exact Nat.le_refl _ | (simp only [World.size_alloc]; omega))
  by_cases n1 : h1 < 0 <;> by_cases n2 : h2 < 0 <;> by_cases n3 : wrap64 s' < 0
  all_goals
    first | have q1 : decide (h1 < 0) = true := decide_eq_true n1 | have q1 : decide (h1 < 0) = false := decide_eq_false n1
    first | have q2 : decide (h2 < 0) = true := decide_eq_true n2 | have q2 : decide (h2 < 0) = false := decide_eq_false n2
    first | have q3 : decide (wrap64 s' < 0) = true := decide_eq_true n3 | have q3 : decide (wrap64 s' < 0) = false := decide_eq_false n3
    try rw [IntWalk.u64_in h1 (by omega)] at e2
    try rw [IntWalk.u64_in h2 (by omega)] at e2
    go_enter Try.func63, Try.ntmps63
    go_wp2
    go_region
    go_wp2
    refine bodyPost_ret (v := .tuple #[.agg #[.int .i64 (wrap64 s'), .int .u64 s], .bool ((decide (h1 < 0) != decide (h2 < 0)) || decide (wrap64 s' < 0) == decide (h1 < 0))]) (by first|(simp [results, Try.results63, go_sem, q1, q2, q3];done)|(simp [results, Try.results63, go_sem];omega)) rfl ⟨s, c, s', c', F.out.1, F.out.2.1, F.out.2.2.1, F.out.2.2.2, ?_, bel _ _ _ _⟩
    rfl

def fits128 (z : Int) : Bool := decide (-170141183460469231731687303715884105728 ≤ z) && decide (z < 170141183460469231731687303715884105728)
theorem Add_any (x y : Int) (w : World) (x0 : -170141183460469231731687303715884105728 ≤ x) (x1 : x < 170141183460469231731687303715884105728) (y0 : -170141183460469231731687303715884105728 ≤ y) (y1 : y < 170141183460469231731687303715884105728) :
    Calls Try.prog 63 #[.agg (wI x), .agg (wI y)] w fun e w' => e = .returned (.tuple #[.agg (wI (wrap128 (x + y))), .bool (fits128 (x + y))]) ∧ Below w.heap.size w w' := by
  have h := Add_parts (x / 18446744073709551616) (y / 18446744073709551616) (x % 18446744073709551616) (y % 18446744073709551616) w (by omega) (by omega) (by omega) (by omega) (by omega) (by omega) (by omega) (by omega)
  refine Calls.mono h ?_
  rintro e w' ⟨s, c, s', c', hs, hc, hs', hc', rfl, hb⟩
  refine ⟨?_, hb⟩
  rw [IntKind.wrap_u64, IntKind.wrap_u64] at hs'
  have e1 : wrap64 s' = wrap128 (x + y) / 18446744073709551616 := by unfold wrap64 wrap128; omega
  have e2 : s = wrap128 (x + y) % 18446744073709551616 := by unfold wrap128; omega
  have e3 : ((decide (x / 18446744073709551616 < 0) != decide (y / 18446744073709551616 < 0)) || decide (wrap64 s' < 0) == decide (x / 18446744073709551616 < 0)) = fits128 (x + y) := by
    rw [e1]
    unfold fits128
    by_cases a : x / 18446744073709551616 < 0 <;> by_cases b : y / 18446744073709551616 < 0 <;> by_cases d : wrap128 (x + y) / 18446744073709551616 < 0
    all_goals
      simp only [a, b, d, decide_true, decide_false, bne_self_eq_false, Bool.false_or, Bool.true_or, beq_self_eq_true, Bool.bne_true, Bool.not_false, Bool.bne_false]
      unfold wrap128 at d
      first
        | (rw [decide_eq_true (by omega), decide_eq_true (by omega)]; rfl)
        | (rw [decide_eq_false (show ¬ (-170141183460469231731687303715884105728 ≤ x + y) by omega)]; rfl)
        | (rw [decide_eq_false (show ¬ (x + y < 170141183460469231731687303715884105728) by omega), Bool.and_false]; rfl)
  rw [e3, e1, e2]; rfl
end Go.Proofs.Ytpejoaefnnbghaa
namespace Go.Proofs.Ytpejoaefnnbghaa
open Go.RowKit

theorem wrap128_in {z : Int} (h : fits128 z = true) : wrap128 z = z := by
  unfold fits128 at h
  simp at h
  unfold wrap128; omega
end Go.Proofs.Ytpejoaefnnbghaa
