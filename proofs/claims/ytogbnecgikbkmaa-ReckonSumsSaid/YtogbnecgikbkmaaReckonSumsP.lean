/-
  What is proved: the law 'ReckonSums' of the given program returns true for every input, and leaves its arguments as they were. No condition. (The frame of this text follows the one that the kit's program proof-skeleton.mjs writes; the walk stands in the texts that are imported.)
-/
import Derived.Test.YtogbnecgikbkmaaRows
import Derived.WalkKit
import Derived.Test.YtogbnecgikbkmaaRt33
import Derived.Test.YtogbnecgikbkmaaAg33
import Derived.ProofKit
import Derived.OpenShut
import Derived.ShutString
import Derived.ChangeOld
import Derived.Below
namespace Go.Proofs.Ytogbnecgikbkmaa
open Go.ChangeShapes Go.WideShapes Go.ChangeAt Go.RowKit
open Go.ChangeMaps (open_string shut_string)
set_option linter.unusedVariables false

theorem own_ReckonSums : ownKnob Try.prog.godebug = none := by kernel_rfl
theorem laidOut_ReckonSums : laidOutB Try.prog = true := by kernel_rfl

theorem hole_ReckonSums (a0 : Int) (a1_0 a1_1 : Int) (a2 : Option Addr) (len2 cap2 : Nat) (w : World) (w0 : (Lit.int .u16 a0).wf = true) (w1_0 : (Lit.int .i64 a1_0).wf = true) (w1_1 : (Lit.int .i64 a1_1).wf = true) (w2 : IsRecs [fInt .i64, fInt .u32, fInt .i64] w a2 len2 cap2) :
    Calls Try.prog 8 #[.int .u16 a0, .agg #[.int .i64 a1_0, .int .i64 a1_1], .slice a2 len2 cap2] w fun e w' => e = .returned (.bool true) ∧ Below w.heap.size w w' :=
  walk_ReckonSums a0 a1_0 a1_1 a2 len2 cap2 w w0 w1_0 w1_1 w2

set_option maxRecDepth 100000 in
theorem lifted_ReckonSums (os : Os) (started : os.Started) (H : Type) (enc : TypeId × Value → H) :
    ReturnsInHanded {} Try.checked os 8 .any (Rows.reckonSumsSpec.pre6 enc Try.prog Try.f8 Rows.reckonSumsRow.domain false) (Rows.reckonSumsSpec.post enc Try.prog Try.f8 false true false false) := by
  refine returnsInHanded_of_change (C := Try.checked) own_ReckonSums started (by kernel_rfl) Try.func8
    (ChangeSpec.witness6 (enc := enc) (C := Try.checked) false ⟨#[], #[.int .u16 0, .agg #[.int .i64 0, .int .i64 0], .slice none 0 0], []⟩ 8 (by kernel_rfl) (by kernel_rfl) (by kernel_rfl) (by kernel_rfl)) ?_
  intro W base args ds gs before hval0 hW hcnd _
  have hval : ∀ (j : Nat) t v, Try.f8.params[j]? = some t → args[j]? = some v → Value.okWide Try.prog W .any base t v := hval0
  have hW' := hW
  obtain ⟨p, q, hA0, hV, rfl, hfz, hnd⟩ := hW
  have hA : DataW.TrodAll enc Try.prog W 0 (fun _ => true) true Try.f8.params.toList args.toList ds p := hA0
  rw [Try.params8] at hA hval
  obtain ⟨v0, vs0, d0, ds0, p0, q0, hargs, rfl, rfl, h0, r0⟩ := trodAll_cons hA
  obtain ⟨v1, vs1, d1, ds1, p1, q1, rfl, rfl, rfl, h1, r1⟩ := trodAll_cons r0
  obtain ⟨v2, vs2, d2, ds2, p2, q2, rfl, rfl, rfl, h2, r2⟩ := trodAll_cons r1
  obtain ⟨rfl, rfl, rfl⟩ := trodAll_nil r2
  obtain rfl : args = #[v0, v1, v2] := by cases args; simp_all
  obtain ⟨rfl, rfl⟩ := trodVars_none hV
  obtain ⟨a0, rfl, rfl, rfl, w0⟩ := open_int Try.underlying71 (hval 0 71 v0 rfl rfl) h0
  obtain ⟨a1_0, a1_1, rfl, rfl, rfl, w1_0, w1_1⟩ := open_spot (hval 1 66 v1 rfl rfl) h1
  obtain ⟨a2, len2, cap2, rfl⟩ := okWide_slice Try.underlying49 (hval 2 49 v2 rfl rfl)
  have k2 := h2
  have lt2 : ∀ x ∈ p2, x.block < W.heap.size := by obtain ⟨m, hm⟩ := k2; exact DataW.trod_lt m _ _ _ hm
  have w2 : IsRecs [fInt .i64, fInt .u32, fInt .i64] W a2 len2 cap2 := by
    obtain ⟨fuel, hf⟩ := h2
    exact open_recs Try.underlying49 Try.underlying60 (by kernel_rfl) (by kernel_rfl) ⟨fint_of Try.underlying2, fint_of Try.underlying58, fint_of Try.underlying2, trivial⟩ hf
  clear hA0 hval0
  refine (hole_ReckonSums a0 a1_0 a1_1 a2 len2 cap2 W w0 w1_0 w1_1 w2).mono fun e W' ⟨he, hg⟩ => ?_
  subst he
  exact ⟨_, rfl, _, _, _, [], _, [], hW', (trodAll_cons_mk (shut_bool Try.underlying4 _) trodAll_mk0), (trodAll_cons_mk (shut_int Try.underlying71 w0) (trodAll_cons_mk (shut_spot w1_0 w1_1) (trodAll_cons_mk (Below.trod laidOut_ReckonSums (by kernel_rfl) (of_decide_eq_true (by kernel_rfl)) k2 hg lt2) trodAll_mk0))), rfl, hg.frame _, fun h => by cases h⟩

theorem over_ReckonSums : Rows.reckonSumsRow.holds Try.pinned (OpenSpec.ofChange Rows.reckonSumsSpec) :=
  OpenClaim.holds_of_wide 8 Try.f8 rfl rfl rfl rfl rfl rfl rfl ⟨rfl, rfl, rfl, rfl, rfl⟩ rfl rfl rfl rfl rfl (by kernel_rfl) Try.func8 (by kernel_rfl)
    (of_decide_eq_true (by kernel_rfl)) (by unfold Func.isWrapper; first | (rw [if_pos (by decide +kernel)]; kernel_rfl) | (rw [if_neg (by decide +kernel)]; exact ⟨rfl, rfl⟩))
    (fun os started H enc _ => lifted_ReckonSums os started H enc)

/-- ████ THE STATEMENT ████ -/
theorem proved_ReckonSums : Rows.ReckonSumsSaid :=
  over_ReckonSums
end Go.Proofs.Ytogbnecgikbkmaa
