/-
  What is proved: the law 'BiasDoes' of the given program returns true for every input, and leaves its arguments as they were. No condition. (The frame of this text follows the one that the kit's program proof-skeleton.mjs writes; the walk stands in the texts that are imported.)
-/
import Derived.Test.YtogbnecgikbkmaaRows
import Derived.WalkKit
import Derived.Test.YtogbnecgikbkmaaBq34
import Derived.Test.YtogbnecgikbkmaaAg34
import Derived.ProofKit
import Derived.OpenShut
import Derived.ShutString
import Derived.ChangeOld
import Derived.Below
namespace Go.Proofs.Ytogbnecgikbkmaa
open Go.ChangeShapes Go.WideShapes Go.ChangeAt Go.RowKit
open Go.ChangeMaps (open_string shut_string)
set_option linter.unusedVariables false

theorem own_BiasDoes : ownKnob Try.prog.godebug = none := by kernel_rfl
theorem laidOut_BiasDoes : laidOutB Try.prog = true := by kernel_rfl

theorem hole_BiasDoes (a0_0 a0_1 a0_2 a0_3 a0_4 a0_5 a0_6 : Int) (a1 : Option Addr) (len1 cap1 : Nat) (w : World) (w0_0 : (Lit.int .i64 a0_0).wf = true) (w0_1 : (Lit.int .i64 a0_1).wf = true) (w0_2 : (Lit.int .i64 a0_2).wf = true) (w0_3 : (Lit.int .i64 a0_3).wf = true) (w0_4 : (Lit.int .i64 a0_4).wf = true) (w0_5 : (Lit.int .i64 a0_5).wf = true) (w0_6 : (Lit.int .i64 a0_6).wf = true) (w1 : IsRecs [fBool, fInt .i64] w a1 len1 cap1) :
    Calls Try.prog 3 #[.agg #[.int .i64 a0_0, .int .i64 a0_1, .int .i64 a0_2, .int .i64 a0_3, .int .i64 a0_4, .int .i64 a0_5, .int .i64 a0_6], .slice a1 len1 cap1] w fun e w' => e = .returned (.bool true) ∧ Below w.heap.size w w' :=
  walk_BiasDoes a0_0 a0_1 a0_2 a0_3 a0_4 a0_5 a0_6 a1 len1 cap1 w w0_0 w0_1 w0_2 w0_3 w0_4 w0_5 w0_6 w1

set_option maxRecDepth 100000 in
theorem lifted_BiasDoes (os : Os) (started : os.Started) (H : Type) (enc : TypeId × Value → H) :
    ReturnsInHanded {} Try.checked os 3 .any (Rows.biasDoesSpec.pre6 enc Try.prog Try.f3 Rows.biasDoesRow.domain false) (Rows.biasDoesSpec.post enc Try.prog Try.f3 false true false false) := by
  refine returnsInHanded_of_change (C := Try.checked) own_BiasDoes started (by kernel_rfl) Try.func3
    (ChangeSpec.witness6 (enc := enc) (C := Try.checked) false ⟨#[], #[.agg #[.int .i64 0, .int .i64 0, .int .i64 0, .int .i64 0, .int .i64 0, .int .i64 0, .int .i64 0], .slice none 0 0], []⟩ 8 (by kernel_rfl) (by kernel_rfl) (by kernel_rfl) (by kernel_rfl)) ?_
  intro W base args ds gs before hval0 hW hcnd _
  have hval : ∀ (j : Nat) t v, Try.f3.params[j]? = some t → args[j]? = some v → Value.okWide Try.prog W .any base t v := hval0
  have hW' := hW
  obtain ⟨p, q, hA0, hV, rfl, hfz, hnd⟩ := hW
  have hA : DataW.TrodAll enc Try.prog W 0 (fun _ => true) true Try.f3.params.toList args.toList ds p := hA0
  rw [Try.params3] at hA hval
  obtain ⟨v0, vs0, d0, ds0, p0, q0, hargs, rfl, rfl, h0, r0⟩ := trodAll_cons hA
  obtain ⟨v1, vs1, d1, ds1, p1, q1, rfl, rfl, rfl, h1, r1⟩ := trodAll_cons r0
  obtain ⟨rfl, rfl, rfl⟩ := trodAll_nil r1
  obtain rfl : args = #[v0, v1] := by cases args; simp_all
  obtain ⟨rfl, rfl⟩ := trodVars_none hV
  obtain ⟨a0_0, a0_1, a0_2, a0_3, a0_4, a0_5, a0_6, rfl, rfl, rfl, w0_0, w0_1, w0_2, w0_3, w0_4, w0_5, w0_6⟩ := open_rules34 (hval 0 23 v0 rfl rfl) h0
  obtain ⟨a1, len1, cap1, rfl⟩ := okWide_slice Try.underlying24 (hval 1 24 v1 rfl rfl)
  have k1 := h1
  have lt1 : ∀ x ∈ p1, x.block < W.heap.size := by obtain ⟨m, hm⟩ := k1; exact DataW.trod_lt m _ _ _ hm
  have w1 : IsRecs [fBool, fInt .i64] W a1 len1 cap1 := by
    obtain ⟨fuel, hf⟩ := h1
    exact open_recs Try.underlying24 Try.underlying37 (by kernel_rfl) (by kernel_rfl) ⟨fbool_of Try.underlying4, fint_of Try.underlying2, trivial⟩ hf
  clear hA0 hval0
  refine (hole_BiasDoes a0_0 a0_1 a0_2 a0_3 a0_4 a0_5 a0_6 a1 len1 cap1 W w0_0 w0_1 w0_2 w0_3 w0_4 w0_5 w0_6 w1).mono fun e W' ⟨he, hg⟩ => ?_
  subst he
  exact ⟨_, rfl, _, _, _, [], _, [], hW', (trodAll_cons_mk (shut_bool Try.underlying4 _) trodAll_mk0), (trodAll_cons_mk (shut_rules34 w0_0 w0_1 w0_2 w0_3 w0_4 w0_5 w0_6) (trodAll_cons_mk (Below.trod laidOut_BiasDoes (by kernel_rfl) (of_decide_eq_true (by kernel_rfl)) k1 hg lt1) trodAll_mk0)), rfl, hg.frame _, fun h => by cases h⟩

theorem over_BiasDoes : Rows.biasDoesRow.holds Try.pinned (OpenSpec.ofChange Rows.biasDoesSpec) :=
  OpenClaim.holds_of_wide 3 Try.f3 rfl rfl rfl rfl rfl rfl rfl ⟨rfl, rfl, rfl, rfl, rfl⟩ rfl rfl rfl rfl rfl (by kernel_rfl) Try.func3 (by kernel_rfl)
    (of_decide_eq_true (by kernel_rfl)) (by unfold Func.isWrapper; first | (rw [if_pos (by decide +kernel)]; kernel_rfl) | (rw [if_neg (by decide +kernel)]; exact ⟨rfl, rfl⟩))
    (fun os started H enc _ => lifted_BiasDoes os started H enc)

/-- ████ THE STATEMENT ████ -/
theorem proved_BiasDoes : Rows.BiasDoesSaid :=
  over_BiasDoes
end Go.Proofs.Ytogbnecgikbkmaa
