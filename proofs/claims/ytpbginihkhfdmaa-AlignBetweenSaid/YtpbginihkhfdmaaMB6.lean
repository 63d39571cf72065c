/-
  Lemmas and walks of this claim (the texts Ty of the work; what no proof here uses is left out). No claim of their own.
-/
import Derived.Test.YtpbginihkhfdmaaMB5
import Derived.Test.YtpbginihkhfdmaaProg
set_option linter.all false
set_option linter.unusedSimpArgs false
set_option linter.unusedVariables false
namespace Go.Proofs.Ytpbginihkhfdmaa
theorem one2 : OneTy Try.prog 2 := ⟨_, Try.underlying2, rfl, by kernel_rfl⟩
theorem zero2 : (Try.prog.info? 2).map (·.zero) = some (some (.int .i64 0)) := by kernel_rfl
theorem one3 : OneTy Try.prog 3 := ⟨_, Try.underlying3, rfl, by kernel_rfl⟩
theorem zero3 : (Try.prog.info? 3).map (·.zero) = some (some (.int .i64 0)) := by kernel_rfl
theorem one22 : OneTy Try.prog 22 := ⟨_, Try.underlying22, rfl, by kernel_rfl⟩
theorem one27 : OneTy Try.prog 27 := ⟨_, Try.underlying27, rfl, by kernel_rfl⟩
theorem zero27 : (Try.prog.info? 27).map (·.zero) = some (some (.int .i64 0)) := by kernel_rfl
theorem row33 : RowTy Try.prog 33 2 := ⟨_, Try.underlying33, rfl, by kernel_rfl⟩
theorem row35 : RowTy Try.prog 35 2 := ⟨_, Try.underlying35, rfl, by kernel_rfl⟩
theorem zero35 : (Try.prog.info? 35).map (·.zero) = some (some (.agg (#[.int .u32 0, .int .i64 0]))) := by kernel_rfl
theorem one75 : OneTy Try.prog 75 := ⟨_, Try.underlying75, rfl, by kernel_rfl⟩
theorem row77 : RowTy Try.prog 77 2 := ⟨_, Try.underlying77, rfl, by kernel_rfl⟩
theorem zero77 : (Try.prog.info? 77).map (·.zero) = some (some (.agg (#[.int .i64 0, .int .u64 0]))) := by kernel_rfl
end Go.Proofs.Ytpbginihkhfdmaa
