/-
  What the walks of the laws of bias share.
-/
import Derived.Test.YtogbnecgikbkmaaBo34
import Derived.Test.YtogbnecgikbkmaaRec
import Derived.Test.YtogbnecgikbkmaaHnr
namespace Go.Proofs.Ytogbnecgikbkmaa
open Go.RowKit
set_option linter.unusedVariables false
theorem chk_le {k o P q r ga f : Int} : chk34 k o P q r ga f = 0 ∨ (chk34 k o P q r ga f != 0) = true ∧ (chk34 k o P q r ga f == 0) = false := by
  by_cases h : chk34 k o P q r ga f = 0
  · exact .inl h
  · exact .inr ⟨by simpa using h, by simpa using h⟩
theorem in34_zero {P : Int} (h0 : 1 ≤ P) (h1 : P ≤ 1073741824) : In34 ((0 : Nat) : Int) ⟨0, P, 0, 0, 0, 0⟩ := by
  constructor <;> (dsimp only; omega)
theorem z_parts (z x : Int) : ∃ (ok : Bool) (y : Int), inB z (-1099511627776) 1099511627776 = ok ∧ (if ok then z - x else 0) = y ∧ ((z < -1099511627776 ∧ ok = false ∧ y = 0) ∨ (-1099511627776 ≤ z ∧ 1099511627776 < z ∧ ok = false ∧ y = 0) ∨ (-1099511627776 ≤ z ∧ z ≤ 1099511627776 ∧ ok = true ∧ y = z - x)) := by
  refine ⟨_, _, rfl, rfl, ?_⟩
  cases h : inB z (-1099511627776) 1099511627776
  · rcases inB_not.1 h with h1 | h1
    · exact .inl ⟨h1, rfl, by simp⟩
    · exact .inr (.inl ⟨by omega, h1, rfl, by simp⟩)
  · have := inB_iff.1 h
    exact .inr (.inr ⟨this.1, this.2, rfl, by simp⟩)
section
variable {B : Nat} {w0 w : World} {F : World → Prop} {gb : Nat} {Lf : Array Value → List Blk} {k o P q r ga f n : Int}
theorem Tick34_S (hS : Slot gb 114 Lf) (hok : Ok34 k o P q r ga f) {s : S34} (hs : In34 n s) {gv : Value} (K : St B w0 (Lf #[.int .i64 k, .int .i64 o, .int .i64 P, .int .i64 q, .int .i64 r, .int .i64 ga, .int .i64 f, gv, .int .i64 (s.x), .int .i64 (s.p), .int .i64 (s.row), .int .i64 (s.out), .int .i64 (s.tk), .int .i64 (s.th)]) F w) :
    Calls Try.prog 19 #[.pointer (some ⟨gb, 0, none⟩)] w fun e w' => e = .returned (.tuple #[]) ∧ St B w0 (Lf #[.int .i64 k, .int .i64 o, .int .i64 P, .int .i64 q, .int .i64 r, .int .i64 ga, .int .i64 f, gv, .int .i64 ((tick34 q s).x), .int .i64 ((tick34 q s).p), .int .i64 ((tick34 q s).row), .int .i64 ((tick34 q s).out), .int .i64 ((tick34 q s).tk), .int .i64 ((tick34 q s).th)]) F w' :=
  Tick34 hS K (by have := hs.p0; omega) hs.p1 hok.q0 hok.q1
theorem RTick34_S (w : World) (hok : Ok34 k o P q r ga f) {s : S34} (hs : In34 n s) :
    Calls Try.prog 20 #[.agg #[.int .i64 k, .int .i64 o, .int .i64 P, .int .i64 q, .int .i64 r, .int .i64 ga, .int .i64 f], .agg #[.int .i64 (s.x), .int .i64 (s.p), .int .i64 (s.row), .int .i64 (s.out), .int .i64 (s.tk), .int .i64 (s.th)]] w fun e w' => e = .returned (.agg #[.int .i64 ((tick34 q s).x), .int .i64 ((tick34 q s).p), .int .i64 ((tick34 q s).row), .int .i64 ((tick34 q s).out), .int .i64 ((tick34 q s).tk), .int .i64 ((tick34 q s).th)]) ∧ Below w.heap.size w w' :=
  RTick34_any w (by have := hs.p0; omega) hs.p1 hok.q0 hok.q1
end
end Go.Proofs.Ytogbnecgikbkmaa
