/-
  What is proved: the law 'FixTells' of the given program returns true for every input, and leaves its arguments as they were. No condition. (The frame of this text follows the one that the kit's program proof-skeleton.mjs writes; the walk stands in the texts that are imported.)
-/
import Derived.Test.YtpejoaefnnbghaaRows
import Derived.WalkKit
import Derived.Test.YtpejoaefnnbghaaPG11
import Derived.Test.YtpejoaefnnbghaaPG13
import Derived.Test.YtpejoaefnnbghaaPG25
import Derived.ProofKit
import Derived.OpenShut
import Derived.ShutString
import Derived.ChangeOld
import Derived.Below
namespace Go.Proofs.Ytpejoaefnnbghaa
open Go.ChangeShapes Go.WideShapes Go.ChangeAt Go.RowKit
open Go.ChangeMaps (open_string shut_string)
set_option linter.unusedVariables false

theorem own_FixTells : ownKnob Try.prog.godebug = none := by kernel_rfl
theorem laidOut_FixTells : laidOutB Try.prog = true := by kernel_rfl

theorem hole_FixTells (a0 : Int) (a1 : Int) (a2 : Int) (a3 : Int) (a4_0 a4_1 a4_2 a4_3 a4_4 : Bool) (a5_0 a5_1 a5_2 a5_3 a5_4 a5_5 : Int) (a6_0 a6_1 : Int) (w : World) (w0 : (Lit.int .i8 a0).wf = true) (w1 : (Lit.int .i32 a1).wf = true) (w2 : (Lit.int .u16 a2).wf = true) (w3 : (Lit.int .u32 a3).wf = true) (w5_0 : (Lit.int .i64 a5_0).wf = true) (w5_1 : (Lit.int .u16 a5_1).wf = true) (w5_2 : (Lit.int .u32 a5_2).wf = true) (w5_3 : (Lit.int .i32 a5_3).wf = true) (w5_4 : (Lit.int .i32 a5_4).wf = true) (w5_5 : (Lit.int .i32 a5_5).wf = true) (w6_0 : (Lit.int .i64 a6_0).wf = true) (w6_1 : (Lit.int .i64 a6_1).wf = true) :
    Calls Try.prog 11 #[.int .i8 a0, .int .i32 a1, .int .u16 a2, .int .u32 a3, .agg #[.bool a4_0, .bool a4_1, .bool a4_2, .bool a4_3, .bool a4_4], .agg #[.int .i64 a5_0, .int .u16 a5_1, .int .u32 a5_2, .int .i32 a5_3, .int .i32 a5_4, .int .i32 a5_5], .agg #[.int .i64 a6_0, .int .i64 a6_1]] w fun e w' => e = .returned (.bool true) ∧ Below w.heap.size w w' :=
  walk_FixTells a0 a1 a2 a3 a4_0 a4_1 a4_2 a4_3 a4_4 a5_0 a5_1 a5_2 a5_3 a5_4 a5_5 a6_0 a6_1 w w0 w1 w2 w3 w5_0 w5_1 w5_2 w5_3 w5_4 w5_5 w6_0 w6_1

set_option maxRecDepth 100000 in
theorem lifted_FixTells (os : Os) (started : os.Started) (H : Type) (enc : TypeId × Value → H) :
    ReturnsInHanded {} Try.checked os 11 .any (Rows.fixTellsSpec.pre6 enc Try.prog Try.f11 Rows.fixTellsRow.domain false) (Rows.fixTellsSpec.post enc Try.prog Try.f11 false true false false) := by
  refine returnsInHanded_of_change (C := Try.checked) own_FixTells started (by kernel_rfl) Try.func11
    (ChangeSpec.witness6 (enc := enc) (C := Try.checked) false ⟨#[], #[.int .i8 0, .int .i32 0, .int .u16 0, .int .u32 0, .agg #[.bool false, .bool false, .bool false, .bool false, .bool false], .agg #[.int .i64 0, .int .u16 0, .int .u32 0, .int .i32 0, .int .i32 0, .int .i32 0], .agg #[.int .i64 0, .int .i64 0]], []⟩ 8 (by kernel_rfl) (by kernel_rfl) (by kernel_rfl) (by kernel_rfl)) ?_
  intro W base args ds gs before hval0 hW hcnd _
  have hval : ∀ (j : Nat) t v, Try.f11.params[j]? = some t → args[j]? = some v → Value.okWide Try.prog W .any base t v := hval0
  have hW' := hW
  obtain ⟨p, q, hA0, hV, rfl, hfz, hnd⟩ := hW
  have hA : DataW.TrodAll enc Try.prog W 0 (fun _ => true) true Try.f11.params.toList args.toList ds p := hA0
  rw [Try.params11] at hA hval
  obtain ⟨v0, vs0, d0, ds0, p0, q0, hargs, rfl, rfl, h0, r0⟩ := trodAll_cons hA
  obtain ⟨v1, vs1, d1, ds1, p1, q1, rfl, rfl, rfl, h1, r1⟩ := trodAll_cons r0
  obtain ⟨v2, vs2, d2, ds2, p2, q2, rfl, rfl, rfl, h2, r2⟩ := trodAll_cons r1
  obtain ⟨v3, vs3, d3, ds3, p3, q3, rfl, rfl, rfl, h3, r3⟩ := trodAll_cons r2
  obtain ⟨v4, vs4, d4, ds4, p4, q4, rfl, rfl, rfl, h4, r4⟩ := trodAll_cons r3
  obtain ⟨v5, vs5, d5, ds5, p5, q5, rfl, rfl, rfl, h5, r5⟩ := trodAll_cons r4
  obtain ⟨v6, vs6, d6, ds6, p6, q6, rfl, rfl, rfl, h6, r6⟩ := trodAll_cons r5
  obtain ⟨rfl, rfl, rfl⟩ := trodAll_nil r6
  obtain rfl : args = #[v0, v1, v2, v3, v4, v5, v6] := by cases args; simp_all
  obtain ⟨rfl, rfl⟩ := trodVars_none hV
  obtain ⟨a0, rfl, rfl, rfl, w0⟩ := open_int Try.underlying87 (hval 0 87 v0 rfl rfl) h0
  obtain ⟨a1, rfl, rfl, rfl, w1⟩ := open_int Try.underlying21 (hval 1 21 v1 rfl rfl) h1
  obtain ⟨a2, rfl, rfl, rfl, w2⟩ := open_int Try.underlying72 (hval 2 72 v2 rfl rfl) h2
  obtain ⟨a3, rfl, rfl, rfl, w3⟩ := open_int Try.underlying73 (hval 3 73 v3 rfl rfl) h3
  obtain ⟨a4_0, a4_1, a4_2, a4_3, a4_4, rfl, rfl, rfl⟩ := open_bools (hval 4 88 v4 rfl rfl) h4
  obtain ⟨a5_0, a5_1, a5_2, a5_3, a5_4, a5_5, rfl, rfl, rfl, w5_0, w5_1, w5_2, w5_3, w5_4, w5_5⟩ := open_frm (hval 5 76 v5 rfl rfl) h5
  obtain ⟨a6_0, a6_1, rfl, rfl, rfl, w6_0, w6_1⟩ := open_spot (hval 6 29 v6 rfl rfl) h6
  clear hA0 hval0
  refine (hole_FixTells a0 a1 a2 a3 a4_0 a4_1 a4_2 a4_3 a4_4 a5_0 a5_1 a5_2 a5_3 a5_4 a5_5 a6_0 a6_1 W w0 w1 w2 w3 w5_0 w5_1 w5_2 w5_3 w5_4 w5_5 w6_0 w6_1).mono fun e W' ⟨he, hg⟩ => ?_
  subst he
  exact ⟨_, rfl, _, _, _, [], _, [], hW', (trodAll_cons_mk (shut_bool Try.underlying4 _) trodAll_mk0), (trodAll_cons_mk (shut_int Try.underlying87 w0) (trodAll_cons_mk (shut_int Try.underlying21 w1) (trodAll_cons_mk (shut_int Try.underlying72 w2) (trodAll_cons_mk (shut_int Try.underlying73 w3) (trodAll_cons_mk shut_bools (trodAll_cons_mk (shut_frm w5_0 w5_1 w5_2 w5_3 w5_4 w5_5) (trodAll_cons_mk (shut_spot w6_0 w6_1) trodAll_mk0))))))), rfl, hg.frame _, fun h => by cases h⟩

theorem over_FixTells : Rows.fixTellsRow.holds Try.pinned (OpenSpec.ofChange Rows.fixTellsSpec) :=
  OpenClaim.holds_of_wide 11 Try.f11 rfl rfl rfl rfl rfl rfl rfl ⟨rfl, rfl, rfl, rfl, rfl⟩ rfl rfl rfl rfl rfl (by kernel_rfl) Try.func11 (by kernel_rfl)
    (of_decide_eq_true (by kernel_rfl)) (by unfold Func.isWrapper; first | (rw [if_pos (by decide +kernel)]; kernel_rfl) | (rw [if_neg (by decide +kernel)]; exact ⟨rfl, rfl⟩))
    (fun os started H enc _ => lifted_FixTells os started H enc)

/-- ████ THE STATEMENT ████ -/
theorem proved_FixTells : Rows.FixTellsSaid :=
  over_FixTells
end Go.Proofs.Ytpejoaefnnbghaa
