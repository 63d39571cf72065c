/-
  Lemmas and walks of this claim (the texts Ty of the work; what no proof here uses is left out). No claim of their own.
-/
import Derived.Test.YtpejoaefnnbghaaPG7
import Derived.Test.YtpejoaefnnbghaaProg
set_option linter.all false
set_option linter.unusedSimpArgs false
set_option linter.unusedVariables false
namespace Go.Proofs.Ytpejoaefnnbghaa
theorem one2 : OneTy Try.prog 2 := ⟨_, Try.underlying2, rfl, by kernel_rfl⟩
theorem zero2 : (Try.prog.info? 2).map (·.zero) = some (some (.int .i64 0)) := by kernel_rfl
theorem num2 : (Try.prog.info? 2).map (fun i => (i.zero, i.size, i.bytes)) = some (some (.int .i64 0), 1, 8) := by kernel_rfl
theorem one3 : OneTy Try.prog 3 := ⟨_, Try.underlying3, rfl, by kernel_rfl⟩
theorem one4 : OneTy Try.prog 4 := ⟨_, Try.underlying4, rfl, by kernel_rfl⟩
theorem one5 : OneTy Try.prog 5 := ⟨_, Try.underlying5, rfl, by kernel_rfl⟩
theorem num5 : (Try.prog.info? 5).map (fun i => (i.zero, i.size, i.bytes)) = some (some (.int .u8 0), 1, 1) := by kernel_rfl
theorem one21 : OneTy Try.prog 21 := ⟨_, Try.underlying21, rfl, by kernel_rfl⟩
theorem row26 : RowTy Try.prog 26 6 := ⟨_, Try.underlying26, rfl, by kernel_rfl⟩
theorem zero26 : (Try.prog.info? 26).map (·.zero) = some (some (.agg (#[.int .i64 0, .int .i64 0, .int .i64 0, .int .i64 0, .int .i64 0, .slice none 0 0]))) := by kernel_rfl
theorem row29 : RowTy Try.prog 29 2 := ⟨_, Try.underlying29, rfl, by kernel_rfl⟩
theorem zero29 : (Try.prog.info? 29).map (·.zero) = some (some (.agg (#[.int .i64 0, .int .i64 0]))) := by kernel_rfl
theorem row34 : RowTy Try.prog 34 3 := ⟨_, Try.underlying34, rfl, by kernel_rfl⟩
theorem zero34 : (Try.prog.info? 34).map (·.zero) = some (some (.agg (#[.int .i64 0, .int .i64 0, .int .i64 0]))) := by kernel_rfl
theorem one72 : OneTy Try.prog 72 := ⟨_, Try.underlying72, rfl, by kernel_rfl⟩
theorem one73 : OneTy Try.prog 73 := ⟨_, Try.underlying73, rfl, by kernel_rfl⟩
theorem row76 : RowTy Try.prog 76 6 := ⟨_, Try.underlying76, rfl, by kernel_rfl⟩
theorem zero76 : (Try.prog.info? 76).map (·.zero) = some (some (.agg (#[.int .i64 0, .int .u16 0, .int .u32 0, .int .i32 0, .int .i32 0, .int .i32 0]))) := by kernel_rfl
theorem one80 : OneTy Try.prog 80 := ⟨_, Try.underlying80, rfl, by kernel_rfl⟩
theorem row98 : RowTy Try.prog 98 2 := ⟨_, Try.underlying98, rfl, by kernel_rfl⟩
theorem zero98 : (Try.prog.info? 98).map (·.zero) = some (some (.agg (#[.int .i64 0, .int .i64 0]))) := by kernel_rfl
theorem one104 : OneTy Try.prog 104 := ⟨_, Try.underlying104, rfl, by kernel_rfl⟩
theorem row106 : RowTy Try.prog 106 2 := ⟨_, Try.underlying106, rfl, by kernel_rfl⟩
theorem zero106 : (Try.prog.info? 106).map (·.zero) = some (some (.agg (#[.int .i64 0, .int .u64 0]))) := by kernel_rfl
theorem row128 : RowTy Try.prog 128 3 := ⟨_, Try.underlying128, rfl, by kernel_rfl⟩
theorem zero128 : (Try.prog.info? 128).map (·.zero) = some (some (.agg (#[.int .i32 0, .int .i32 0, .int .i32 0]))) := by kernel_rfl
theorem row159 : RowTy Try.prog 159 8 := ⟨_, Try.underlying159, rfl, by kernel_rfl⟩
theorem zero159 : (Try.prog.info? 159).map (·.zero) = some (some (.agg (#[.int .i64 0, .int .i64 0, .int .i64 0, .int .i64 0, .int .i64 0, .int .i64 0, .int .i64 0, .int .i64 0]))) := by kernel_rfl
end Go.Proofs.Ytpejoaefnnbghaa
