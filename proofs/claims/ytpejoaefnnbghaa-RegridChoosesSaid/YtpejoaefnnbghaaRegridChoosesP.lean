/-
  What is proved: the law 'RegridChooses' of the given program returns true for every input, and leaves its arguments as they were. No condition. (The frame of this text follows the one that the kit's program proof-skeleton.mjs writes; the walk stands in the texts that are imported.)
-/
import Derived.Test.YtpejoaefnnbghaaRows
import Derived.WalkKit
import Derived.Test.YtpejoaefnnbghaaPG14
import Derived.Test.YtpejoaefnnbghaaPG31
import Derived.ProofKit
import Derived.OpenShut
import Derived.ShutString
import Derived.ChangeOld
import Derived.Below
namespace Go.Proofs.Ytpejoaefnnbghaa
open Go.ChangeShapes Go.WideShapes Go.ChangeAt Go.RowKit
open Go.ChangeMaps (open_string shut_string)
set_option linter.unusedVariables false

theorem own_RegridChooses : ownKnob Try.prog.godebug = none := by kernel_rfl
theorem laidOut_RegridChooses : laidOutB Try.prog = true := by kernel_rfl

theorem hole_RegridChooses (a0_0 a0_1 a0_2 a0_3 a0_4 : Int) (A0 : Option Addr) (len0 cap0 : Nat) (z0 : List Int) (w : World) (w0_0 : (Lit.int .i64 a0_0).wf = true) (w0_1 : (Lit.int .i64 a0_1).wf = true) (w0_2 : (Lit.int .i64 a0_2).wf = true) (w0_3 : (Lit.int .i64 a0_3).wf = true) (w0_4 : (Lit.int .i64 a0_4).wf = true) (w0 : IsRow .i64 w A0 len0 cap0 z0) :
    Calls Try.prog 7 #[.agg #[.int .i64 a0_0, .int .i64 a0_1, .int .i64 a0_2, .int .i64 a0_3, .int .i64 a0_4, .slice A0 len0 cap0]] w fun e w' => e = .returned (.bool true) ∧ Below w.heap.size w w' :=
  walk_RegridChooses a0_0 a0_1 a0_2 a0_3 a0_4 A0 len0 cap0 z0 w w0_0 w0_1 w0_2 w0_3 w0_4 w0

set_option maxRecDepth 100000 in
theorem lifted_RegridChooses (os : Os) (started : os.Started) (H : Type) (enc : TypeId × Value → H) :
    ReturnsInHanded {} Try.checked os 7 .any (Rows.regridChoosesSpec.pre6 enc Try.prog Try.f7 Rows.regridChoosesRow.domain false) (Rows.regridChoosesSpec.post enc Try.prog Try.f7 false true false false) := by
  refine returnsInHanded_of_change (C := Try.checked) own_RegridChooses started (by kernel_rfl) Try.func7
    (ChangeSpec.witness6 (enc := enc) (C := Try.checked) false ⟨#[], #[.agg #[.int .i64 0, .int .i64 0, .int .i64 0, .int .i64 0, .int .i64 0, .slice none 0 0]], []⟩ 8 (by kernel_rfl) (by kernel_rfl) (by kernel_rfl) (by kernel_rfl)) ?_
  intro W base args ds gs before hval0 hW hcnd _
  have hval : ∀ (j : Nat) t v, Try.f7.params[j]? = some t → args[j]? = some v → Value.okWide Try.prog W .any base t v := hval0
  have hW' := hW
  obtain ⟨p, q, hA0, hV, rfl, hfz, hnd⟩ := hW
  have hA : DataW.TrodAll enc Try.prog W 0 (fun _ => true) true Try.f7.params.toList args.toList ds p := hA0
  rw [Try.params7] at hA hval
  obtain ⟨v0, vs0, d0, ds0, p0, q0, hargs, rfl, rfl, h0, r0⟩ := trodAll_cons hA
  obtain ⟨rfl, rfl, rfl⟩ := trodAll_nil r0
  obtain rfl : args = #[v0] := by cases args; simp_all
  obtain ⟨rfl, rfl⟩ := trodVars_none hV
  have k0 := h0
  have lt0 : ∀ x ∈ p0, x.block < W.heap.size := by obtain ⟨m, hm⟩ := k0; exact DataW.trod_lt m _ _ _ hm
  obtain ⟨a0_0, a0_1, a0_2, a0_3, a0_4, A0, len0, cap0, z0, rfl, w0_0, w0_1, w0_2, w0_3, w0_4, w0⟩ := open_grid (hval 0 26 v0 rfl rfl) h0
  clear hA0 hval0
  refine (hole_RegridChooses a0_0 a0_1 a0_2 a0_3 a0_4 A0 len0 cap0 z0 W w0_0 w0_1 w0_2 w0_3 w0_4 w0).mono fun e W' ⟨he, hg⟩ => ?_
  subst he
  exact ⟨_, rfl, _, _, _, [], _, [], hW', (trodAll_cons_mk (shut_bool Try.underlying4 _) trodAll_mk0), (trodAll_cons_mk (Below.trod laidOut_RegridChooses (by kernel_rfl) (of_decide_eq_true (by kernel_rfl)) k0 hg lt0) trodAll_mk0), rfl, hg.frame _, fun h => by cases h⟩

theorem over_RegridChooses : Rows.regridChoosesRow.holds Try.pinned (OpenSpec.ofChange Rows.regridChoosesSpec) :=
  OpenClaim.holds_of_wide 7 Try.f7 rfl rfl rfl rfl rfl rfl rfl ⟨rfl, rfl, rfl, rfl, rfl⟩ rfl rfl rfl rfl rfl (by kernel_rfl) Try.func7 (by kernel_rfl)
    (of_decide_eq_true (by kernel_rfl)) (by unfold Func.isWrapper; first | (rw [if_pos (by decide +kernel)]; kernel_rfl) | (rw [if_neg (by decide +kernel)]; exact ⟨rfl, rfl⟩))
    (fun os started H enc _ => lifted_RegridChooses os started H enc)

/-- ████ THE STATEMENT ████ -/
theorem proved_RegridChooses : Rows.RegridChoosesSaid :=
  over_RegridChooses
end Go.Proofs.Ytpejoaefnnbghaa
