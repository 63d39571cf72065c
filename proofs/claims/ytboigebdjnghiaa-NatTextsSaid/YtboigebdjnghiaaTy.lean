/-
  The types of the program: whether their values lie in one cell or in a row of cells, and what a new one holds. (Printed by a small program of mine off the program's types.) No condition.
-/
import Derived.Test.YtboigebdjnghiaaProg
import Derived.Test.YtboigebdjnghiaaMem
namespace Go.Proofs.Ytboigebdjnghiaa
theorem one0 : OneTy Try.prog 0 := ⟨_, Try.underlying0, rfl, by kernel_rfl⟩
theorem zero0 : (Try.prog.info? 0).map (·.zero) = some (some (.tuple { toList := [] })) := by kernel_rfl
theorem one1 : OneTy Try.prog 1 := ⟨_, Try.underlying1, rfl, by kernel_rfl⟩
theorem zero1 : (Try.prog.info? 1).map (·.zero) = some (some (.nilFunc)) := by kernel_rfl
theorem one2 : OneTy Try.prog 2 := ⟨_, Try.underlying2, rfl, by kernel_rfl⟩
theorem zero2 : (Try.prog.info? 2).map (·.zero) = some (some (.int .i64 0)) := by kernel_rfl
theorem num2 : (Try.prog.info? 2).map (fun i => (i.zero, i.size, i.bytes)) = some (some (.int .i64 0), 1, 8) := by kernel_rfl
theorem one3 : OneTy Try.prog 3 := ⟨_, Try.underlying3, rfl, by kernel_rfl⟩
theorem zero3 : (Try.prog.info? 3).map (·.zero) = some (some (.int .i64 0)) := by kernel_rfl
theorem num3 : (Try.prog.info? 3).map (fun i => (i.zero, i.size, i.bytes)) = some (some (.int .i64 0), 1, 8) := by kernel_rfl
theorem one4 : OneTy Try.prog 4 := ⟨_, Try.underlying4, rfl, by kernel_rfl⟩
theorem zero4 : (Try.prog.info? 4).map (·.zero) = some (some (.bool false)) := by kernel_rfl
theorem one5 : OneTy Try.prog 5 := ⟨_, Try.underlying5, rfl, by kernel_rfl⟩
theorem zero5 : (Try.prog.info? 5).map (·.zero) = some (some (.int .u8 0)) := by kernel_rfl
theorem num5 : (Try.prog.info? 5).map (fun i => (i.zero, i.size, i.bytes)) = some (some (.int .u8 0), 1, 1) := by kernel_rfl
theorem one6 : OneTy Try.prog 6 := ⟨_, Try.underlying6, rfl, by kernel_rfl⟩
theorem zero6 : (Try.prog.info? 6).map (·.zero) = some (some (.int .u8 0)) := by kernel_rfl
theorem num6 : (Try.prog.info? 6).map (fun i => (i.zero, i.size, i.bytes)) = some (some (.int .u8 0), 1, 1) := by kernel_rfl
theorem one9 : OneTy Try.prog 9 := ⟨_, Try.underlying9, rfl, by kernel_rfl⟩
theorem zero9 : (Try.prog.info? 9).map (·.zero) = some (some (.string ByteArray.empty)) := by kernel_rfl
theorem one10 : OneTy Try.prog 10 := ⟨_, Try.underlying10, rfl, by kernel_rfl⟩
theorem zero10 : (Try.prog.info? 10).map (·.zero) = some (some (.string ByteArray.empty)) := by kernel_rfl
theorem one11 : OneTy Try.prog 11 := ⟨_, Try.underlying11, rfl, by kernel_rfl⟩
theorem zero11 : (Try.prog.info? 11).map (·.zero) = some (some (.string ByteArray.empty)) := by kernel_rfl
theorem one12 : OneTy Try.prog 12 := ⟨_, Try.underlying12, rfl, by kernel_rfl⟩
theorem zero12 : (Try.prog.info? 12).map (·.zero) = some (some (.int .u64 0)) := by kernel_rfl
theorem num12 : (Try.prog.info? 12).map (fun i => (i.zero, i.size, i.bytes)) = some (some (.int .u64 0), 1, 8) := by kernel_rfl
theorem one15 : OneTy Try.prog 15 := ⟨_, Try.underlying15, rfl, by kernel_rfl⟩
theorem zero15 : (Try.prog.info? 15).map (·.zero) = some (some (.pointer none)) := by kernel_rfl
theorem one16 : OneTy Try.prog 16 := ⟨_, Try.underlying16, rfl, by kernel_rfl⟩
theorem zero16 : (Try.prog.info? 16).map (·.zero) = some (some (.pointer none)) := by kernel_rfl
theorem one17 : OneTy Try.prog 17 := ⟨_, Try.underlying17, rfl, by kernel_rfl⟩
theorem zero17 : (Try.prog.info? 17).map (·.zero) = some (some (.pointer none)) := by kernel_rfl
theorem row18 : RowTy Try.prog 18 1 := ⟨_, Try.underlying18, rfl, by kernel_rfl⟩
theorem zero18 : (Try.prog.info? 18).map (·.zero) = some (some (.agg (#[.pointer none]))) := by kernel_rfl
theorem row19 : RowTy Try.prog 19 1 := ⟨_, Try.underlying19, rfl, by kernel_rfl⟩
theorem zero19 : (Try.prog.info? 19).map (·.zero) = some (some (.agg (#[.pointer none]))) := by kernel_rfl
theorem one20 : OneTy Try.prog 20 := ⟨_, Try.underlying20, rfl, by kernel_rfl⟩
theorem zero20 : (Try.prog.info? 20).map (·.zero) = some (some (.nilIface)) := by kernel_rfl
theorem one21 : OneTy Try.prog 21 := ⟨_, Try.underlying21, rfl, by kernel_rfl⟩
theorem zero21 : (Try.prog.info? 21).map (·.zero) = some (some (.int .i32 0)) := by kernel_rfl
theorem num21 : (Try.prog.info? 21).map (fun i => (i.zero, i.size, i.bytes)) = some (some (.int .i32 0), 1, 4) := by kernel_rfl
theorem one22 : OneTy Try.prog 22 := ⟨_, Try.underlying22, rfl, by kernel_rfl⟩
theorem zero22 : (Try.prog.info? 22).map (·.zero) = some (some (.slice none 0 0)) := by kernel_rfl
theorem one23 : OneTy Try.prog 23 := ⟨_, Try.underlying23, rfl, by kernel_rfl⟩
theorem zero23 : (Try.prog.info? 23).map (·.zero) = some (some (.nilFunc)) := by kernel_rfl
theorem one24 : OneTy Try.prog 24 := ⟨_, Try.underlying24, rfl, by kernel_rfl⟩
theorem zero24 : (Try.prog.info? 24).map (·.zero) = some (some (.nilFunc)) := by kernel_rfl
theorem row25 : RowTy Try.prog 25 1 := ⟨_, Try.underlying25, rfl, by kernel_rfl⟩
theorem zero25 : (Try.prog.info? 25).map (·.zero) = some (some (.agg (#[.slice none 0 0]))) := by kernel_rfl
theorem row26 : RowTy Try.prog 26 1 := ⟨_, Try.underlying26, rfl, by kernel_rfl⟩
theorem zero26 : (Try.prog.info? 26).map (·.zero) = some (some (.agg (#[.slice none 0 0]))) := by kernel_rfl
theorem one27 : OneTy Try.prog 27 := ⟨_, Try.underlying27, rfl, by kernel_rfl⟩
theorem zero27 : (Try.prog.info? 27).map (·.zero) = some (some (.nilFunc)) := by kernel_rfl
theorem one28 : OneTy Try.prog 28 := ⟨_, Try.underlying28, rfl, by kernel_rfl⟩
theorem zero28 : (Try.prog.info? 28).map (·.zero) = some (some (.slice none 0 0)) := by kernel_rfl
theorem one29 : OneTy Try.prog 29 := ⟨_, Try.underlying29, rfl, by kernel_rfl⟩
theorem zero29 : (Try.prog.info? 29).map (·.zero) = some (some (.nilFunc)) := by kernel_rfl
theorem one30 : OneTy Try.prog 30 := ⟨_, Try.underlying30, rfl, by kernel_rfl⟩
theorem zero30 : (Try.prog.info? 30).map (·.zero) = some (some (.nilFunc)) := by kernel_rfl
theorem one31 : OneTy Try.prog 31 := ⟨_, Try.underlying31, rfl, by kernel_rfl⟩
theorem zero31 : (Try.prog.info? 31).map (·.zero) = some (some (.nilFunc)) := by kernel_rfl
theorem one32 : OneTy Try.prog 32 := ⟨_, Try.underlying32, rfl, by kernel_rfl⟩
theorem zero32 : (Try.prog.info? 32).map (·.zero) = some (some (.nilFunc)) := by kernel_rfl
theorem one33 : OneTy Try.prog 33 := ⟨_, Try.underlying33, rfl, by kernel_rfl⟩
theorem zero33 : (Try.prog.info? 33).map (·.zero) = some (some (.nilFunc)) := by kernel_rfl
theorem one34 : OneTy Try.prog 34 := ⟨_, Try.underlying34, rfl, by kernel_rfl⟩
theorem zero34 : (Try.prog.info? 34).map (·.zero) = some (some (.nilFunc)) := by kernel_rfl
theorem one35 : OneTy Try.prog 35 := ⟨_, Try.underlying35, rfl, by kernel_rfl⟩
theorem zero35 : (Try.prog.info? 35).map (·.zero) = some (some (.nilFunc)) := by kernel_rfl
theorem one36 : OneTy Try.prog 36 := ⟨_, Try.underlying36, rfl, by kernel_rfl⟩
theorem zero36 : (Try.prog.info? 36).map (·.zero) = some (some (.nilFunc)) := by kernel_rfl
theorem one37 : OneTy Try.prog 37 := ⟨_, Try.underlying37, rfl, by kernel_rfl⟩
theorem zero37 : (Try.prog.info? 37).map (·.zero) = some (some (.int .u64 0)) := by kernel_rfl
theorem num37 : (Try.prog.info? 37).map (fun i => (i.zero, i.size, i.bytes)) = some (some (.int .u64 0), 1, 8) := by kernel_rfl
theorem one38 : OneTy Try.prog 38 := ⟨_, Try.underlying38, rfl, by kernel_rfl⟩
theorem zero38 : (Try.prog.info? 38).map (·.zero) = some (some (.int .u32 0)) := by kernel_rfl
theorem num38 : (Try.prog.info? 38).map (fun i => (i.zero, i.size, i.bytes)) = some (some (.int .u32 0), 1, 4) := by kernel_rfl
theorem one39 : OneTy Try.prog 39 := ⟨_, Try.underlying39, rfl, by kernel_rfl⟩
theorem zero39 : (Try.prog.info? 39).map (·.zero) = some (some (.int .u64 0)) := by kernel_rfl
theorem num39 : (Try.prog.info? 39).map (fun i => (i.zero, i.size, i.bytes)) = some (some (.int .u64 0), 1, 8) := by kernel_rfl
theorem one40 : OneTy Try.prog 40 := ⟨_, Try.underlying40, rfl, by kernel_rfl⟩
theorem zero40 : (Try.prog.info? 40).map (·.zero) = some (some (.nilFunc)) := by kernel_rfl
theorem one41 : OneTy Try.prog 41 := ⟨_, Try.underlying41, rfl, by kernel_rfl⟩
theorem zero41 : (Try.prog.info? 41).map (·.zero) = some (some (.nilFunc)) := by kernel_rfl
theorem one43 : OneTy Try.prog 43 := ⟨_, Try.underlying43, rfl, by kernel_rfl⟩
theorem zero43 : (Try.prog.info? 43).map (·.zero) = some (some (.nilFunc)) := by kernel_rfl
theorem one44 : OneTy Try.prog 44 := ⟨_, Try.underlying44, rfl, by kernel_rfl⟩
theorem zero44 : (Try.prog.info? 44).map (·.zero) = some (some (.nilFunc)) := by kernel_rfl
theorem one45 : OneTy Try.prog 45 := ⟨_, Try.underlying45, rfl, by kernel_rfl⟩
theorem zero45 : (Try.prog.info? 45).map (·.zero) = some (some (.nilFunc)) := by kernel_rfl
theorem one46 : OneTy Try.prog 46 := ⟨_, Try.underlying46, rfl, by kernel_rfl⟩
theorem zero46 : (Try.prog.info? 46).map (·.zero) = some (some (.nilFunc)) := by kernel_rfl
theorem one47 : OneTy Try.prog 47 := ⟨_, Try.underlying47, rfl, by kernel_rfl⟩
theorem zero47 : (Try.prog.info? 47).map (·.zero) = some (some (.nilFunc)) := by kernel_rfl
theorem one48 : OneTy Try.prog 48 := ⟨_, Try.underlying48, rfl, by kernel_rfl⟩
theorem zero48 : (Try.prog.info? 48).map (·.zero) = some (some (.slice none 0 0)) := by kernel_rfl
theorem one50 : OneTy Try.prog 50 := ⟨_, Try.underlying50, rfl, by kernel_rfl⟩
theorem zero50 : (Try.prog.info? 50).map (·.zero) = some (some (.nilFunc)) := by kernel_rfl
theorem one51 : OneTy Try.prog 51 := ⟨_, Try.underlying51, rfl, by kernel_rfl⟩
theorem zero51 : (Try.prog.info? 51).map (·.zero) = some (some (.nilFunc)) := by kernel_rfl
theorem one52 : OneTy Try.prog 52 := ⟨_, Try.underlying52, rfl, by kernel_rfl⟩
theorem zero52 : (Try.prog.info? 52).map (·.zero) = some (some (.nilFunc)) := by kernel_rfl
theorem one53 : OneTy Try.prog 53 := ⟨_, Try.underlying53, rfl, by kernel_rfl⟩
theorem zero53 : (Try.prog.info? 53).map (·.zero) = some (some (.slice none 0 0)) := by kernel_rfl
theorem one54 : OneTy Try.prog 54 := ⟨_, Try.underlying54, rfl, by kernel_rfl⟩
theorem zero54 : (Try.prog.info? 54).map (·.zero) = some (some (.nilFunc)) := by kernel_rfl
theorem one55 : OneTy Try.prog 55 := ⟨_, Try.underlying55, rfl, by kernel_rfl⟩
theorem zero55 : (Try.prog.info? 55).map (·.zero) = some (some (.nilFunc)) := by kernel_rfl
theorem one56 : OneTy Try.prog 56 := ⟨_, Try.underlying56, rfl, by kernel_rfl⟩
theorem zero56 : (Try.prog.info? 56).map (·.zero) = some (some (.nilFunc)) := by kernel_rfl
theorem one57 : OneTy Try.prog 57 := ⟨_, Try.underlying57, rfl, by kernel_rfl⟩
theorem zero57 : (Try.prog.info? 57).map (·.zero) = some (some (.nilFunc)) := by kernel_rfl
theorem one58 : OneTy Try.prog 58 := ⟨_, Try.underlying58, rfl, by kernel_rfl⟩
theorem zero58 : (Try.prog.info? 58).map (·.zero) = some (some (.nilFunc)) := by kernel_rfl
theorem one59 : OneTy Try.prog 59 := ⟨_, Try.underlying59, rfl, by kernel_rfl⟩
theorem zero59 : (Try.prog.info? 59).map (·.zero) = some (some (.nilFunc)) := by kernel_rfl
theorem one61 : OneTy Try.prog 61 := ⟨_, Try.underlying61, rfl, by kernel_rfl⟩
theorem zero61 : (Try.prog.info? 61).map (·.zero) = some (some (.nilFunc)) := by kernel_rfl
theorem one62 : OneTy Try.prog 62 := ⟨_, Try.underlying62, rfl, by kernel_rfl⟩
theorem zero62 : (Try.prog.info? 62).map (·.zero) = some (some (.nilFunc)) := by kernel_rfl
theorem one63 : OneTy Try.prog 63 := ⟨_, Try.underlying63, rfl, by kernel_rfl⟩
theorem zero63 : (Try.prog.info? 63).map (·.zero) = some (some (.slice none 0 0)) := by kernel_rfl
theorem one64 : OneTy Try.prog 64 := ⟨_, Try.underlying64, rfl, by kernel_rfl⟩
theorem zero64 : (Try.prog.info? 64).map (·.zero) = some (some (.nilFunc)) := by kernel_rfl
theorem row67 : RowTy Try.prog 67 0 := ⟨_, Try.underlying67, rfl, by kernel_rfl⟩
theorem zero67 : (Try.prog.info? 67).map (·.zero) = some (some (.agg (#[]))) := by kernel_rfl
theorem row68 : RowTy Try.prog 68 0 := ⟨_, Try.underlying68, rfl, by kernel_rfl⟩
theorem zero68 : (Try.prog.info? 68).map (·.zero) = some (some (.agg (#[]))) := by kernel_rfl
theorem row69 : RowTy Try.prog 69 0 := ⟨_, Try.underlying69, rfl, by kernel_rfl⟩
theorem zero69 : (Try.prog.info? 69).map (·.zero) = some (some (.agg (#[]))) := by kernel_rfl
theorem one70 : OneTy Try.prog 70 := ⟨_, Try.underlying70, rfl, by kernel_rfl⟩
theorem zero70 : (Try.prog.info? 70).map (·.zero) = some (some (.int .u8 0)) := by kernel_rfl
theorem num70 : (Try.prog.info? 70).map (fun i => (i.zero, i.size, i.bytes)) = some (some (.int .u8 0), 1, 1) := by kernel_rfl
theorem one71 : OneTy Try.prog 71 := ⟨_, Try.underlying71, rfl, by kernel_rfl⟩
theorem zero71 : (Try.prog.info? 71).map (·.zero) = some (some (.int .u8 0)) := by kernel_rfl
theorem num71 : (Try.prog.info? 71).map (fun i => (i.zero, i.size, i.bytes)) = some (some (.int .u8 0), 1, 1) := by kernel_rfl
theorem one72 : OneTy Try.prog 72 := ⟨_, Try.underlying72, rfl, by kernel_rfl⟩
theorem zero72 : (Try.prog.info? 72).map (·.zero) = some (some (.nilFunc)) := by kernel_rfl
theorem one73 : OneTy Try.prog 73 := ⟨_, Try.underlying73, rfl, by kernel_rfl⟩
theorem zero73 : (Try.prog.info? 73).map (·.zero) = some (some (.pointer none)) := by kernel_rfl
theorem one74 : OneTy Try.prog 74 := ⟨_, Try.underlying74, rfl, by kernel_rfl⟩
theorem zero74 : (Try.prog.info? 74).map (·.zero) = some (some (.int .i32 0)) := by kernel_rfl
theorem num74 : (Try.prog.info? 74).map (fun i => (i.zero, i.size, i.bytes)) = some (some (.int .i32 0), 1, 4) := by kernel_rfl
theorem one75 : OneTy Try.prog 75 := ⟨_, Try.underlying75, rfl, by kernel_rfl⟩
theorem zero75 : (Try.prog.info? 75).map (·.zero) = some (some (.int .i32 0)) := by kernel_rfl
theorem num75 : (Try.prog.info? 75).map (fun i => (i.zero, i.size, i.bytes)) = some (some (.int .i32 0), 1, 4) := by kernel_rfl
theorem one78 : OneTy Try.prog 78 := ⟨_, Try.underlying78, rfl, by kernel_rfl⟩
theorem zero78 : (Try.prog.info? 78).map (·.zero) = some (some (.pointer none)) := by kernel_rfl
end Go.Proofs.Ytboigebdjnghiaa
