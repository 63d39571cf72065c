/-
  Lemmas and walks of this claim (the texts Ty of the work; what no proof here uses is left out). No claim of their own.
-/
import Derived.Test.YteancdipmpmjpaaMD8
import Derived.Test.YteancdipmpmjpaaProg
set_option linter.all false
set_option linter.unusedSimpArgs false
set_option linter.unusedVariables false
namespace Go.Proofs.Yteancdipmpmjpaa
theorem one2 : OneTy Try.prog 2 := ⟨_, Try.underlying2, rfl, by kernel_rfl⟩
theorem num2 : (Try.prog.info? 2).map (fun i => (i.zero, i.size, i.bytes)) = some (some (.int .i64 0), 1, 8) := by kernel_rfl
theorem one3 : OneTy Try.prog 3 := ⟨_, Try.underlying3, rfl, by kernel_rfl⟩
theorem one5 : OneTy Try.prog 5 := ⟨_, Try.underlying5, rfl, by kernel_rfl⟩
theorem one22 : OneTy Try.prog 22 := ⟨_, Try.underlying22, rfl, by kernel_rfl⟩
theorem one23 : OneTy Try.prog 23 := ⟨_, Try.underlying23, rfl, by kernel_rfl⟩
theorem one24 : OneTy Try.prog 24 := ⟨_, Try.underlying24, rfl, by kernel_rfl⟩
theorem num24 : (Try.prog.info? 24).map (fun i => (i.zero, i.size, i.bytes)) = some (some (.int .u32 0), 1, 4) := by kernel_rfl
theorem row27 : RowTy Try.prog 27 2 := ⟨_, Try.underlying27, rfl, by kernel_rfl⟩
theorem zero27 : (Try.prog.info? 27).map (·.zero) = some (some (.agg (#[.int .i64 0, .int .u64 0]))) := by kernel_rfl
theorem row35 : RowTy Try.prog 35 2 := ⟨_, Try.underlying35, rfl, by kernel_rfl⟩
theorem zero35 : (Try.prog.info? 35).map (·.zero) = some (some (.agg (#[.int .i64 0, .int .i64 0]))) := by kernel_rfl
theorem one42 : OneTy Try.prog 42 := ⟨_, Try.underlying42, rfl, by kernel_rfl⟩
theorem one45 : OneTy Try.prog 45 := ⟨_, Try.underlying45, rfl, by kernel_rfl⟩
theorem row47 : RowTy Try.prog 47 6 := ⟨_, Try.underlying47, rfl, by kernel_rfl⟩
theorem zero47 : (Try.prog.info? 47).map (·.zero) = some (some (.agg (#[.int .i64 0, .int .i64 0, .int .i64 0, .int .i64 0, .int .i64 0, .slice none 0 0]))) := by kernel_rfl
theorem one49 : OneTy Try.prog 49 := ⟨_, Try.underlying49, rfl, by kernel_rfl⟩
theorem row51 : RowTy Try.prog 51 3 := ⟨_, Try.underlying51, rfl, by kernel_rfl⟩
theorem zero51 : (Try.prog.info? 51).map (·.zero) = some (some (.agg (#[.int .i64 0, .int .i64 0, .slice none 0 0]))) := by kernel_rfl
theorem row54 : RowTy Try.prog 54 11 := ⟨_, Try.underlying54, rfl, by kernel_rfl⟩
theorem zero54 : (Try.prog.info? 54).map (·.zero) = some (some (.agg (#[.int .i64 0, .int .i64 0, .int .i64 0, .int .i64 0, .int .i64 0, .slice none 0 0, .int .i64 0, .int .i64 0, .slice none 0 0, .int .i64 0, .int .i64 0]))) := by kernel_rfl
theorem one57 : OneTy Try.prog 57 := ⟨_, Try.underlying57, rfl, by kernel_rfl⟩
theorem row59 : RowTy Try.prog 59 7 := ⟨_, Try.underlying59, rfl, by kernel_rfl⟩
theorem one106 : OneTy Try.prog 106 := ⟨_, Try.underlying106, rfl, by kernel_rfl⟩
theorem row108 : RowTy Try.prog 108 1 := ⟨_, Try.underlying108, rfl, by kernel_rfl⟩
theorem zero108 : (Try.prog.info? 108).map (·.zero) = some (some (.agg (#[.slice none 0 0]))) := by kernel_rfl
end Go.Proofs.Yteancdipmpmjpaa
