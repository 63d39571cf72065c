/-
  The types of the program: whether their values lie in one cell or in a row of cells, and what a new one holds. (Printed by a small program of mine off the program's types.) No condition.
-/
import Derived.Test.YtogbnecgikbkmaaProg
import Derived.Test.YtogbnecgikbkmaaMem
namespace Go.Proofs.Ytogbnecgikbkmaa
theorem one0 : OneTy Try.prog 0 := ⟨_, Try.underlying0, rfl, by kernel_rfl⟩
theorem one1 : OneTy Try.prog 1 := ⟨_, Try.underlying1, rfl, by kernel_rfl⟩
theorem zero1 : (Try.prog.info? 1).map (·.zero) = some (some (.nilFunc)) := by kernel_rfl
theorem one2 : OneTy Try.prog 2 := ⟨_, Try.underlying2, rfl, by kernel_rfl⟩
theorem zero2 : (Try.prog.info? 2).map (·.zero) = some (some (.int .i64 0)) := by kernel_rfl
theorem num2 : (Try.prog.info? 2).map (fun i => (i.zero, i.size, i.bytes)) = some (some (.int .i64 0), 1, 8) := by kernel_rfl
theorem one3 : OneTy Try.prog 3 := ⟨_, Try.underlying3, rfl, by kernel_rfl⟩
theorem zero3 : (Try.prog.info? 3).map (·.zero) = some (some (.int .i64 0)) := by kernel_rfl
theorem num3 : (Try.prog.info? 3).map (fun i => (i.zero, i.size, i.bytes)) = some (some (.int .i64 0), 1, 8) := by kernel_rfl
theorem one4 : OneTy Try.prog 4 := ⟨_, Try.underlying4, rfl, by kernel_rfl⟩
theorem zero4 : (Try.prog.info? 4).map (·.zero) = some (some (.bool false)) := by kernel_rfl
theorem one5 : OneTy Try.prog 5 := ⟨_, Try.underlying5, rfl, by kernel_rfl⟩
theorem zero5 : (Try.prog.info? 5).map (·.zero) = some (some (.int .u8 0)) := by kernel_rfl
theorem num5 : (Try.prog.info? 5).map (fun i => (i.zero, i.size, i.bytes)) = some (some (.int .u8 0), 1, 1) := by kernel_rfl
theorem one6 : OneTy Try.prog 6 := ⟨_, Try.underlying6, rfl, by kernel_rfl⟩
theorem zero6 : (Try.prog.info? 6).map (·.zero) = some (some (.int .u8 0)) := by kernel_rfl
theorem num6 : (Try.prog.info? 6).map (fun i => (i.zero, i.size, i.bytes)) = some (some (.int .u8 0), 1, 1) := by kernel_rfl
theorem row7 : RowTy Try.prog 7 4 := ⟨_, Try.underlying7, rfl, by kernel_rfl⟩
theorem zero7 : (Try.prog.info? 7).map (·.zero) = some (some (.agg (#[.int .i64 0, .int .i64 0, .bool false, .int .u8 0]))) := by kernel_rfl
theorem row8 : RowTy Try.prog 8 4 := ⟨_, Try.underlying8, rfl, by kernel_rfl⟩
theorem zero8 : (Try.prog.info? 8).map (·.zero) = some (some (.agg (#[.int .i64 0, .int .i64 0, .bool false, .int .u8 0]))) := by kernel_rfl
theorem one9 : OneTy Try.prog 9 := ⟨_, Try.underlying9, rfl, by kernel_rfl⟩
theorem zero9 : (Try.prog.info? 9).map (·.zero) = some (some (.string ByteArray.empty)) := by kernel_rfl
theorem one10 : OneTy Try.prog 10 := ⟨_, Try.underlying10, rfl, by kernel_rfl⟩
theorem zero10 : (Try.prog.info? 10).map (·.zero) = some (some (.string ByteArray.empty)) := by kernel_rfl
theorem one11 : OneTy Try.prog 11 := ⟨_, Try.underlying11, rfl, by kernel_rfl⟩
theorem zero11 : (Try.prog.info? 11).map (·.zero) = some (some (.string ByteArray.empty)) := by kernel_rfl
theorem one12 : OneTy Try.prog 12 := ⟨_, Try.underlying12, rfl, by kernel_rfl⟩
theorem zero12 : (Try.prog.info? 12).map (·.zero) = some (some (.int .u64 0)) := by kernel_rfl
theorem num12 : (Try.prog.info? 12).map (fun i => (i.zero, i.size, i.bytes)) = some (some (.int .u64 0), 1, 8) := by kernel_rfl
theorem row13 : RowTy Try.prog 13 2 := ⟨_, Try.underlying13, rfl, by kernel_rfl⟩
theorem zero13 : (Try.prog.info? 13).map (·.zero) = some (some (.agg (#[.string ByteArray.empty, .int .u64 0]))) := by kernel_rfl
theorem row14 : RowTy Try.prog 14 2 := ⟨_, Try.underlying14, rfl, by kernel_rfl⟩
theorem zero14 : (Try.prog.info? 14).map (·.zero) = some (some (.agg (#[.string ByteArray.empty, .int .u64 0]))) := by kernel_rfl
theorem one15 : OneTy Try.prog 15 := ⟨_, Try.underlying15, rfl, by kernel_rfl⟩
theorem zero15 : (Try.prog.info? 15).map (·.zero) = some (some (.pointer none)) := by kernel_rfl
theorem one16 : OneTy Try.prog 16 := ⟨_, Try.underlying16, rfl, by kernel_rfl⟩
theorem zero16 : (Try.prog.info? 16).map (·.zero) = some (some (.pointer none)) := by kernel_rfl
theorem one17 : OneTy Try.prog 17 := ⟨_, Try.underlying17, rfl, by kernel_rfl⟩
theorem zero17 : (Try.prog.info? 17).map (·.zero) = some (some (.pointer none)) := by kernel_rfl
theorem row18 : RowTy Try.prog 18 1 := ⟨_, Try.underlying18, rfl, by kernel_rfl⟩
theorem zero18 : (Try.prog.info? 18).map (·.zero) = some (some (.agg (#[.pointer none]))) := by kernel_rfl
theorem row19 : RowTy Try.prog 19 1 := ⟨_, Try.underlying19, rfl, by kernel_rfl⟩
theorem zero19 : (Try.prog.info? 19).map (·.zero) = some (some (.agg (#[.pointer none]))) := by kernel_rfl
theorem one20 : OneTy Try.prog 20 := ⟨_, Try.underlying20, rfl, by kernel_rfl⟩
theorem zero20 : (Try.prog.info? 20).map (·.zero) = some (some (.nilIface)) := by kernel_rfl
theorem one21 : OneTy Try.prog 21 := ⟨_, Try.underlying21, rfl, by kernel_rfl⟩
theorem zero21 : (Try.prog.info? 21).map (·.zero) = some (some (.int .i32 0)) := by kernel_rfl
theorem num21 : (Try.prog.info? 21).map (fun i => (i.zero, i.size, i.bytes)) = some (some (.int .i32 0), 1, 4) := by kernel_rfl
theorem row22 : RowTy Try.prog 22 7 := ⟨_, Try.underlying22, rfl, by kernel_rfl⟩
theorem zero22 : (Try.prog.info? 22).map (·.zero) = some (some (.agg (#[.int .i64 0, .int .i64 0, .int .i64 0, .int .i64 0, .int .i64 0, .int .i64 0, .int .i64 0]))) := by kernel_rfl
theorem row23 : RowTy Try.prog 23 7 := ⟨_, Try.underlying23, rfl, by kernel_rfl⟩
theorem zero23 : (Try.prog.info? 23).map (·.zero) = some (some (.agg (#[.int .i64 0, .int .i64 0, .int .i64 0, .int .i64 0, .int .i64 0, .int .i64 0, .int .i64 0]))) := by kernel_rfl
theorem one24 : OneTy Try.prog 24 := ⟨_, Try.underlying24, rfl, by kernel_rfl⟩
theorem zero24 : (Try.prog.info? 24).map (·.zero) = some (some (.slice none 0 0)) := by kernel_rfl
theorem one25 : OneTy Try.prog 25 := ⟨_, Try.underlying25, rfl, by kernel_rfl⟩
theorem zero25 : (Try.prog.info? 25).map (·.zero) = some (some (.nilFunc)) := by kernel_rfl
theorem one26 : OneTy Try.prog 26 := ⟨_, Try.underlying26, rfl, by kernel_rfl⟩
theorem zero26 : (Try.prog.info? 26).map (·.zero) = some (some (.pointer none)) := by kernel_rfl
theorem one27 : OneTy Try.prog 27 := ⟨_, Try.underlying27, rfl, by kernel_rfl⟩
theorem zero27 : (Try.prog.info? 27).map (·.zero) = some (some (.int .i64 0)) := by kernel_rfl
theorem num27 : (Try.prog.info? 27).map (fun i => (i.zero, i.size, i.bytes)) = some (some (.int .i64 0), 1, 8) := by kernel_rfl
theorem one28 : OneTy Try.prog 28 := ⟨_, Try.underlying28, rfl, by kernel_rfl⟩
theorem one29 : OneTy Try.prog 29 := ⟨_, Try.underlying29, rfl, by kernel_rfl⟩
theorem zero29 : (Try.prog.info? 29).map (·.zero) = some (some (.nilFunc)) := by kernel_rfl
theorem row30 : RowTy Try.prog 30 7 := ⟨_, Try.underlying30, rfl, by kernel_rfl⟩
theorem zero30 : (Try.prog.info? 30).map (·.zero) = some (some (.agg (#[.int .i64 0, .int .i64 0, .int .i64 0, .int .i64 0, .int .i64 0, .int .i64 0, .int .i64 0]))) := by kernel_rfl
theorem one31 : OneTy Try.prog 31 := ⟨_, Try.underlying31, rfl, by kernel_rfl⟩
theorem zero31 : (Try.prog.info? 31).map (·.zero) = some (some (.nilFunc)) := by kernel_rfl
theorem one32 : OneTy Try.prog 32 := ⟨_, Try.underlying32, rfl, by kernel_rfl⟩
theorem zero32 : (Try.prog.info? 32).map (·.zero) = some (some (.nilFunc)) := by kernel_rfl
theorem one33 : OneTy Try.prog 33 := ⟨_, Try.underlying33, rfl, by kernel_rfl⟩
theorem zero33 : (Try.prog.info? 33).map (·.zero) = some (some (.nilFunc)) := by kernel_rfl
theorem row34 : RowTy Try.prog 34 6 := ⟨_, Try.underlying34, rfl, by kernel_rfl⟩
theorem zero34 : (Try.prog.info? 34).map (·.zero) = some (some (.agg (#[.int .i64 0, .int .i64 0, .int .i64 0, .int .i64 0, .int .i64 0, .int .i64 0]))) := by kernel_rfl
theorem row35 : RowTy Try.prog 35 6 := ⟨_, Try.underlying35, rfl, by kernel_rfl⟩
theorem zero35 : (Try.prog.info? 35).map (·.zero) = some (some (.agg (#[.int .i64 0, .int .i64 0, .int .i64 0, .int .i64 0, .int .i64 0, .int .i64 0]))) := by kernel_rfl
theorem row36 : RowTy Try.prog 36 2 := ⟨_, Try.underlying36, rfl, by kernel_rfl⟩
theorem zero36 : (Try.prog.info? 36).map (·.zero) = some (some (.agg (#[.bool false, .int .i64 0]))) := by kernel_rfl
theorem row37 : RowTy Try.prog 37 2 := ⟨_, Try.underlying37, rfl, by kernel_rfl⟩
theorem zero37 : (Try.prog.info? 37).map (·.zero) = some (some (.agg (#[.bool false, .int .i64 0]))) := by kernel_rfl
theorem one38 : OneTy Try.prog 38 := ⟨_, Try.underlying38, rfl, by kernel_rfl⟩
theorem zero38 : (Try.prog.info? 38).map (·.zero) = some (some (.nilFunc)) := by kernel_rfl
theorem one39 : OneTy Try.prog 39 := ⟨_, Try.underlying39, rfl, by kernel_rfl⟩
theorem one40 : OneTy Try.prog 40 := ⟨_, Try.underlying40, rfl, by kernel_rfl⟩
theorem zero40 : (Try.prog.info? 40).map (·.zero) = some (some (.nilFunc)) := by kernel_rfl
theorem one41 : OneTy Try.prog 41 := ⟨_, Try.underlying41, rfl, by kernel_rfl⟩
theorem zero41 : (Try.prog.info? 41).map (·.zero) = some (some (.nilFunc)) := by kernel_rfl
theorem one42 : OneTy Try.prog 42 := ⟨_, Try.underlying42, rfl, by kernel_rfl⟩
theorem one43 : OneTy Try.prog 43 := ⟨_, Try.underlying43, rfl, by kernel_rfl⟩
theorem zero43 : (Try.prog.info? 43).map (·.zero) = some (some (.nilFunc)) := by kernel_rfl
theorem one44 : OneTy Try.prog 44 := ⟨_, Try.underlying44, rfl, by kernel_rfl⟩
theorem zero44 : (Try.prog.info? 44).map (·.zero) = some (some (.nilFunc)) := by kernel_rfl
theorem one45 : OneTy Try.prog 45 := ⟨_, Try.underlying45, rfl, by kernel_rfl⟩
theorem one46 : OneTy Try.prog 46 := ⟨_, Try.underlying46, rfl, by kernel_rfl⟩
theorem zero46 : (Try.prog.info? 46).map (·.zero) = some (some (.nilFunc)) := by kernel_rfl
theorem one47 : OneTy Try.prog 47 := ⟨_, Try.underlying47, rfl, by kernel_rfl⟩
theorem zero47 : (Try.prog.info? 47).map (·.zero) = some (some (.nilFunc)) := by kernel_rfl
theorem one48 : OneTy Try.prog 48 := ⟨_, Try.underlying48, rfl, by kernel_rfl⟩
theorem zero48 : (Try.prog.info? 48).map (·.zero) = some (some (.nilFunc)) := by kernel_rfl
theorem one49 : OneTy Try.prog 49 := ⟨_, Try.underlying49, rfl, by kernel_rfl⟩
theorem zero49 : (Try.prog.info? 49).map (·.zero) = some (some (.slice none 0 0)) := by kernel_rfl
theorem row50 : RowTy Try.prog 50 4 := ⟨_, Try.underlying50, rfl, by kernel_rfl⟩
theorem zero50 : (Try.prog.info? 50).map (·.zero) = some (some (.agg (#[.int .i64 0, .int .i64 0, .int .i64 0, .int .i64 0]))) := by kernel_rfl
theorem row51 : RowTy Try.prog 51 4 := ⟨_, Try.underlying51, rfl, by kernel_rfl⟩
theorem zero51 : (Try.prog.info? 51).map (·.zero) = some (some (.agg (#[.int .i64 0, .int .i64 0, .int .i64 0, .int .i64 0]))) := by kernel_rfl
theorem one52 : OneTy Try.prog 52 := ⟨_, Try.underlying52, rfl, by kernel_rfl⟩
theorem one53 : OneTy Try.prog 53 := ⟨_, Try.underlying53, rfl, by kernel_rfl⟩
theorem zero53 : (Try.prog.info? 53).map (·.zero) = some (some (.nilFunc)) := by kernel_rfl
theorem row54 : RowTy Try.prog 54 4 := ⟨_, Try.underlying54, rfl, by kernel_rfl⟩
theorem zero54 : (Try.prog.info? 54).map (·.zero) = some (some (.agg (#[.int .i64 0, .int .i64 0, .int .i64 0, .int .i64 0]))) := by kernel_rfl
theorem row55 : RowTy Try.prog 55 4 := ⟨_, Try.underlying55, rfl, by kernel_rfl⟩
theorem zero55 : (Try.prog.info? 55).map (·.zero) = some (some (.agg (#[.int .i64 0, .int .i64 0, .int .i64 0, .int .i64 0]))) := by kernel_rfl
theorem one56 : OneTy Try.prog 56 := ⟨_, Try.underlying56, rfl, by kernel_rfl⟩
theorem one57 : OneTy Try.prog 57 := ⟨_, Try.underlying57, rfl, by kernel_rfl⟩
theorem zero57 : (Try.prog.info? 57).map (·.zero) = some (some (.nilFunc)) := by kernel_rfl
theorem one58 : OneTy Try.prog 58 := ⟨_, Try.underlying58, rfl, by kernel_rfl⟩
theorem zero58 : (Try.prog.info? 58).map (·.zero) = some (some (.int .u32 0)) := by kernel_rfl
theorem num58 : (Try.prog.info? 58).map (fun i => (i.zero, i.size, i.bytes)) = some (some (.int .u32 0), 1, 4) := by kernel_rfl
theorem row59 : RowTy Try.prog 59 3 := ⟨_, Try.underlying59, rfl, by kernel_rfl⟩
theorem zero59 : (Try.prog.info? 59).map (·.zero) = some (some (.agg (#[.int .i64 0, .int .u32 0, .int .i64 0]))) := by kernel_rfl
theorem row60 : RowTy Try.prog 60 3 := ⟨_, Try.underlying60, rfl, by kernel_rfl⟩
theorem zero60 : (Try.prog.info? 60).map (·.zero) = some (some (.agg (#[.int .i64 0, .int .u32 0, .int .i64 0]))) := by kernel_rfl
theorem one61 : OneTy Try.prog 61 := ⟨_, Try.underlying61, rfl, by kernel_rfl⟩
theorem one62 : OneTy Try.prog 62 := ⟨_, Try.underlying62, rfl, by kernel_rfl⟩
theorem zero62 : (Try.prog.info? 62).map (·.zero) = some (some (.nilFunc)) := by kernel_rfl
theorem one63 : OneTy Try.prog 63 := ⟨_, Try.underlying63, rfl, by kernel_rfl⟩
theorem one64 : OneTy Try.prog 64 := ⟨_, Try.underlying64, rfl, by kernel_rfl⟩
theorem zero64 : (Try.prog.info? 64).map (·.zero) = some (some (.nilFunc)) := by kernel_rfl
theorem row65 : RowTy Try.prog 65 2 := ⟨_, Try.underlying65, rfl, by kernel_rfl⟩
theorem zero65 : (Try.prog.info? 65).map (·.zero) = some (some (.agg (#[.int .i64 0, .int .i64 0]))) := by kernel_rfl
theorem row66 : RowTy Try.prog 66 2 := ⟨_, Try.underlying66, rfl, by kernel_rfl⟩
theorem zero66 : (Try.prog.info? 66).map (·.zero) = some (some (.agg (#[.int .i64 0, .int .i64 0]))) := by kernel_rfl
theorem one67 : OneTy Try.prog 67 := ⟨_, Try.underlying67, rfl, by kernel_rfl⟩
theorem zero67 : (Try.prog.info? 67).map (·.zero) = some (some (.nilFunc)) := by kernel_rfl
theorem one68 : OneTy Try.prog 68 := ⟨_, Try.underlying68, rfl, by kernel_rfl⟩
theorem zero68 : (Try.prog.info? 68).map (·.zero) = some (some (.nilFunc)) := by kernel_rfl
theorem one69 : OneTy Try.prog 69 := ⟨_, Try.underlying69, rfl, by kernel_rfl⟩
theorem zero69 : (Try.prog.info? 69).map (·.zero) = some (some (.nilFunc)) := by kernel_rfl
theorem one70 : OneTy Try.prog 70 := ⟨_, Try.underlying70, rfl, by kernel_rfl⟩
theorem zero70 : (Try.prog.info? 70).map (·.zero) = some (some (.nilFunc)) := by kernel_rfl
theorem one71 : OneTy Try.prog 71 := ⟨_, Try.underlying71, rfl, by kernel_rfl⟩
theorem zero71 : (Try.prog.info? 71).map (·.zero) = some (some (.int .u16 0)) := by kernel_rfl
theorem num71 : (Try.prog.info? 71).map (fun i => (i.zero, i.size, i.bytes)) = some (some (.int .u16 0), 1, 2) := by kernel_rfl
theorem one72 : OneTy Try.prog 72 := ⟨_, Try.underlying72, rfl, by kernel_rfl⟩
theorem zero72 : (Try.prog.info? 72).map (·.zero) = some (some (.nilFunc)) := by kernel_rfl
theorem one73 : OneTy Try.prog 73 := ⟨_, Try.underlying73, rfl, by kernel_rfl⟩
theorem zero73 : (Try.prog.info? 73).map (·.zero) = some (some (.nilFunc)) := by kernel_rfl
theorem row74 : RowTy Try.prog 74 6 := ⟨_, Try.underlying74, rfl, by kernel_rfl⟩
theorem zero74 : (Try.prog.info? 74).map (·.zero) = some (some (.agg (#[.int .i64 0, .int .u16 0, .int .u32 0, .int .i32 0, .int .i32 0, .int .i32 0]))) := by kernel_rfl
theorem row75 : RowTy Try.prog 75 6 := ⟨_, Try.underlying75, rfl, by kernel_rfl⟩
theorem zero75 : (Try.prog.info? 75).map (·.zero) = some (some (.agg (#[.int .i64 0, .int .u16 0, .int .u32 0, .int .i32 0, .int .i32 0, .int .i32 0]))) := by kernel_rfl
theorem one76 : OneTy Try.prog 76 := ⟨_, Try.underlying76, rfl, by kernel_rfl⟩
theorem one77 : OneTy Try.prog 77 := ⟨_, Try.underlying77, rfl, by kernel_rfl⟩
theorem zero77 : (Try.prog.info? 77).map (·.zero) = some (some (.nilFunc)) := by kernel_rfl
theorem one78 : OneTy Try.prog 78 := ⟨_, Try.underlying78, rfl, by kernel_rfl⟩
theorem zero78 : (Try.prog.info? 78).map (·.zero) = some (some (.slice none 0 0)) := by kernel_rfl
theorem one79 : OneTy Try.prog 79 := ⟨_, Try.underlying79, rfl, by kernel_rfl⟩
theorem one80 : OneTy Try.prog 80 := ⟨_, Try.underlying80, rfl, by kernel_rfl⟩
theorem zero80 : (Try.prog.info? 80).map (·.zero) = some (some (.nilFunc)) := by kernel_rfl
theorem one81 : OneTy Try.prog 81 := ⟨_, Try.underlying81, rfl, by kernel_rfl⟩
theorem zero81 : (Try.prog.info? 81).map (·.zero) = some (some (.nilFunc)) := by kernel_rfl
theorem one82 : OneTy Try.prog 82 := ⟨_, Try.underlying82, rfl, by kernel_rfl⟩
theorem zero82 : (Try.prog.info? 82).map (·.zero) = some (some (.slice none 0 0)) := by kernel_rfl
theorem one83 : OneTy Try.prog 83 := ⟨_, Try.underlying83, rfl, by kernel_rfl⟩
theorem zero83 : (Try.prog.info? 83).map (·.zero) = some (some (.slice none 0 0)) := by kernel_rfl
theorem one84 : OneTy Try.prog 84 := ⟨_, Try.underlying84, rfl, by kernel_rfl⟩
theorem zero84 : (Try.prog.info? 84).map (·.zero) = some (some (.pointer none)) := by kernel_rfl
theorem one85 : OneTy Try.prog 85 := ⟨_, Try.underlying85, rfl, by kernel_rfl⟩
theorem one86 : OneTy Try.prog 86 := ⟨_, Try.underlying86, rfl, by kernel_rfl⟩
theorem zero86 : (Try.prog.info? 86).map (·.zero) = some (some (.nilFunc)) := by kernel_rfl
theorem one87 : OneTy Try.prog 87 := ⟨_, Try.underlying87, rfl, by kernel_rfl⟩
theorem one88 : OneTy Try.prog 88 := ⟨_, Try.underlying88, rfl, by kernel_rfl⟩
theorem zero88 : (Try.prog.info? 88).map (·.zero) = some (some (.nilFunc)) := by kernel_rfl
theorem row89 : RowTy Try.prog 89 2 := ⟨_, Try.underlying89, rfl, by kernel_rfl⟩
theorem zero89 : (Try.prog.info? 89).map (·.zero) = some (some (.agg (#[.int .u32 0, .int .i64 0]))) := by kernel_rfl
theorem row90 : RowTy Try.prog 90 2 := ⟨_, Try.underlying90, rfl, by kernel_rfl⟩
theorem zero90 : (Try.prog.info? 90).map (·.zero) = some (some (.agg (#[.int .u32 0, .int .i64 0]))) := by kernel_rfl
theorem one91 : OneTy Try.prog 91 := ⟨_, Try.underlying91, rfl, by kernel_rfl⟩
theorem zero91 : (Try.prog.info? 91).map (·.zero) = some (some (.nilFunc)) := by kernel_rfl
theorem row92 : RowTy Try.prog 92 2 := ⟨_, Try.underlying92, rfl, by kernel_rfl⟩
theorem zero92 : (Try.prog.info? 92).map (·.zero) = some (some (.agg (#[.int .u32 0, .int .i64 0]))) := by kernel_rfl
theorem one93 : OneTy Try.prog 93 := ⟨_, Try.underlying93, rfl, by kernel_rfl⟩
theorem zero93 : (Try.prog.info? 93).map (·.zero) = some (some (.nilFunc)) := by kernel_rfl
theorem one94 : OneTy Try.prog 94 := ⟨_, Try.underlying94, rfl, by kernel_rfl⟩
theorem one95 : OneTy Try.prog 95 := ⟨_, Try.underlying95, rfl, by kernel_rfl⟩
theorem zero95 : (Try.prog.info? 95).map (·.zero) = some (some (.nilFunc)) := by kernel_rfl
theorem one96 : OneTy Try.prog 96 := ⟨_, Try.underlying96, rfl, by kernel_rfl⟩
theorem zero96 : (Try.prog.info? 96).map (·.zero) = some (some (.nilFunc)) := by kernel_rfl
theorem one97 : OneTy Try.prog 97 := ⟨_, Try.underlying97, rfl, by kernel_rfl⟩
theorem zero97 : (Try.prog.info? 97).map (·.zero) = some (some (.nilFunc)) := by kernel_rfl
theorem one98 : OneTy Try.prog 98 := ⟨_, Try.underlying98, rfl, by kernel_rfl⟩
theorem zero98 : (Try.prog.info? 98).map (·.zero) = some (some (.nilFunc)) := by kernel_rfl
theorem one99 : OneTy Try.prog 99 := ⟨_, Try.underlying99, rfl, by kernel_rfl⟩
theorem zero99 : (Try.prog.info? 99).map (·.zero) = some (some (.nilFunc)) := by kernel_rfl
theorem one100 : OneTy Try.prog 100 := ⟨_, Try.underlying100, rfl, by kernel_rfl⟩
theorem zero100 : (Try.prog.info? 100).map (·.zero) = some (some (.nilFunc)) := by kernel_rfl
theorem one101 : OneTy Try.prog 101 := ⟨_, Try.underlying101, rfl, by kernel_rfl⟩
theorem zero101 : (Try.prog.info? 101).map (·.zero) = some (some (.nilFunc)) := by kernel_rfl
theorem one102 : OneTy Try.prog 102 := ⟨_, Try.underlying102, rfl, by kernel_rfl⟩
theorem zero102 : (Try.prog.info? 102).map (·.zero) = some (some (.nilFunc)) := by kernel_rfl
theorem one103 : OneTy Try.prog 103 := ⟨_, Try.underlying103, rfl, by kernel_rfl⟩
theorem zero103 : (Try.prog.info? 103).map (·.zero) = some (some (.nilFunc)) := by kernel_rfl
theorem one104 : OneTy Try.prog 104 := ⟨_, Try.underlying104, rfl, by kernel_rfl⟩
theorem zero104 : (Try.prog.info? 104).map (·.zero) = some (some (.nilFunc)) := by kernel_rfl
theorem one105 : OneTy Try.prog 105 := ⟨_, Try.underlying105, rfl, by kernel_rfl⟩
theorem one106 : OneTy Try.prog 106 := ⟨_, Try.underlying106, rfl, by kernel_rfl⟩
theorem zero106 : (Try.prog.info? 106).map (·.zero) = some (some (.nilFunc)) := by kernel_rfl
theorem one107 : OneTy Try.prog 107 := ⟨_, Try.underlying107, rfl, by kernel_rfl⟩
theorem zero107 : (Try.prog.info? 107).map (·.zero) = some (some (.nilFunc)) := by kernel_rfl
theorem one108 : OneTy Try.prog 108 := ⟨_, Try.underlying108, rfl, by kernel_rfl⟩
theorem zero108 : (Try.prog.info? 108).map (·.zero) = some (some (.int .i16 0)) := by kernel_rfl
theorem num108 : (Try.prog.info? 108).map (fun i => (i.zero, i.size, i.bytes)) = some (some (.int .i16 0), 1, 2) := by kernel_rfl
theorem one109 : OneTy Try.prog 109 := ⟨_, Try.underlying109, rfl, by kernel_rfl⟩
theorem zero109 : (Try.prog.info? 109).map (·.zero) = some (some (.slice none 0 0)) := by kernel_rfl
theorem one110 : OneTy Try.prog 110 := ⟨_, Try.underlying110, rfl, by kernel_rfl⟩
theorem zero110 : (Try.prog.info? 110).map (·.zero) = some (some (.nilFunc)) := by kernel_rfl
theorem one111 : OneTy Try.prog 111 := ⟨_, Try.underlying111, rfl, by kernel_rfl⟩
theorem zero111 : (Try.prog.info? 111).map (·.zero) = some (some (.nilIface)) := by kernel_rfl
theorem one112 : OneTy Try.prog 112 := ⟨_, Try.underlying112, rfl, by kernel_rfl⟩
theorem zero112 : (Try.prog.info? 112).map (·.zero) = some (some (.nilIface)) := by kernel_rfl
theorem row113 : RowTy Try.prog 113 14 := ⟨_, Try.underlying113, rfl, by kernel_rfl⟩
theorem zero113 : (Try.prog.info? 113).map (·.zero) = some (some (.agg (Array.replicate 7 (.int .i64 0) ++ #[.nilIface] ++ Array.replicate 6 (.int .i64 0)))) := by kernel_rfl
theorem row114 : RowTy Try.prog 114 14 := ⟨_, Try.underlying114, rfl, by kernel_rfl⟩
theorem zero114 : (Try.prog.info? 114).map (·.zero) = some (some (.agg (Array.replicate 7 (.int .i64 0) ++ #[.nilIface] ++ Array.replicate 6 (.int .i64 0)))) := by kernel_rfl
theorem row115 : RowTy Try.prog 115 0 := ⟨_, Try.underlying115, rfl, by kernel_rfl⟩
theorem zero115 : (Try.prog.info? 115).map (·.zero) = some (some (.agg (#[]))) := by kernel_rfl
theorem row116 : RowTy Try.prog 116 0 := ⟨_, Try.underlying116, rfl, by kernel_rfl⟩
theorem zero116 : (Try.prog.info? 116).map (·.zero) = some (some (.agg (#[]))) := by kernel_rfl
theorem row117 : RowTy Try.prog 117 1 := ⟨_, Try.underlying117, rfl, by kernel_rfl⟩
theorem zero117 : (Try.prog.info? 117).map (·.zero) = some (some (.agg (#[.int .i64 0]))) := by kernel_rfl
theorem row118 : RowTy Try.prog 118 1 := ⟨_, Try.underlying118, rfl, by kernel_rfl⟩
theorem zero118 : (Try.prog.info? 118).map (·.zero) = some (some (.agg (#[.int .i64 0]))) := by kernel_rfl
theorem row119 : RowTy Try.prog 119 0 := ⟨_, Try.underlying119, rfl, by kernel_rfl⟩
theorem zero119 : (Try.prog.info? 119).map (·.zero) = some (some (.agg (#[]))) := by kernel_rfl
theorem one120 : OneTy Try.prog 120 := ⟨_, Try.underlying120, rfl, by kernel_rfl⟩
theorem zero120 : (Try.prog.info? 120).map (·.zero) = some (some (.nilFunc)) := by kernel_rfl
theorem one121 : OneTy Try.prog 121 := ⟨_, Try.underlying121, rfl, by kernel_rfl⟩
theorem zero121 : (Try.prog.info? 121).map (·.zero) = some (some (.nilFunc)) := by kernel_rfl
theorem row122 : RowTy Try.prog 122 129 := ⟨_, Try.underlying122, rfl, by kernel_rfl⟩
theorem zero122 : (Try.prog.info? 122).map (·.zero) = some (some (.agg (Array.replicate 129 (.int .i64 0)))) := by kernel_rfl
theorem row123 : RowTy Try.prog 123 130 := ⟨_, Try.underlying123, rfl, by kernel_rfl⟩
theorem zero123 : (Try.prog.info? 123).map (·.zero) = some (some (.agg (#[.bool false] ++ Array.replicate 129 (.int .i64 0)))) := by kernel_rfl
theorem row124 : RowTy Try.prog 124 130 := ⟨_, Try.underlying124, rfl, by kernel_rfl⟩
theorem zero124 : (Try.prog.info? 124).map (·.zero) = some (some (.agg (#[.bool false] ++ Array.replicate 129 (.int .i64 0)))) := by kernel_rfl
theorem one125 : OneTy Try.prog 125 := ⟨_, Try.underlying125, rfl, by kernel_rfl⟩
theorem zero125 : (Try.prog.info? 125).map (·.zero) = some (some (.nilFunc)) := by kernel_rfl
theorem one126 : OneTy Try.prog 126 := ⟨_, Try.underlying126, rfl, by kernel_rfl⟩
theorem zero126 : (Try.prog.info? 126).map (·.zero) = some (some (.nilFunc)) := by kernel_rfl
theorem one127 : OneTy Try.prog 127 := ⟨_, Try.underlying127, rfl, by kernel_rfl⟩
theorem zero127 : (Try.prog.info? 127).map (·.zero) = some (some (.nilFunc)) := by kernel_rfl
theorem one128 : OneTy Try.prog 128 := ⟨_, Try.underlying128, rfl, by kernel_rfl⟩
theorem zero128 : (Try.prog.info? 128).map (·.zero) = some (some (.nilFunc)) := by kernel_rfl
theorem one129 : OneTy Try.prog 129 := ⟨_, Try.underlying129, rfl, by kernel_rfl⟩
theorem zero129 : (Try.prog.info? 129).map (·.zero) = some (some (.nilFunc)) := by kernel_rfl
theorem one130 : OneTy Try.prog 130 := ⟨_, Try.underlying130, rfl, by kernel_rfl⟩
theorem zero130 : (Try.prog.info? 130).map (·.zero) = some (some (.pointer none)) := by kernel_rfl
theorem one131 : OneTy Try.prog 131 := ⟨_, Try.underlying131, rfl, by kernel_rfl⟩
theorem zero131 : (Try.prog.info? 131).map (·.zero) = some (some (.nilFunc)) := by kernel_rfl
theorem one132 : OneTy Try.prog 132 := ⟨_, Try.underlying132, rfl, by kernel_rfl⟩
theorem zero132 : (Try.prog.info? 132).map (·.zero) = some (some (.nilFunc)) := by kernel_rfl
theorem one133 : OneTy Try.prog 133 := ⟨_, Try.underlying133, rfl, by kernel_rfl⟩
theorem zero133 : (Try.prog.info? 133).map (·.zero) = some (some (.int .u64 0)) := by kernel_rfl
theorem num133 : (Try.prog.info? 133).map (fun i => (i.zero, i.size, i.bytes)) = some (some (.int .u64 0), 1, 8) := by kernel_rfl
theorem one134 : OneTy Try.prog 134 := ⟨_, Try.underlying134, rfl, by kernel_rfl⟩
theorem zero134 : (Try.prog.info? 134).map (·.zero) = some (some (.nilFunc)) := by kernel_rfl
theorem one135 : OneTy Try.prog 135 := ⟨_, Try.underlying135, rfl, by kernel_rfl⟩
theorem zero135 : (Try.prog.info? 135).map (·.zero) = some (some (.nilFunc)) := by kernel_rfl
theorem one136 : OneTy Try.prog 136 := ⟨_, Try.underlying136, rfl, by kernel_rfl⟩
theorem zero136 : (Try.prog.info? 136).map (·.zero) = some (some (.int .u64 0)) := by kernel_rfl
theorem num136 : (Try.prog.info? 136).map (fun i => (i.zero, i.size, i.bytes)) = some (some (.int .u64 0), 1, 8) := by kernel_rfl
theorem one137 : OneTy Try.prog 137 := ⟨_, Try.underlying137, rfl, by kernel_rfl⟩
theorem zero137 : (Try.prog.info? 137).map (·.zero) = some (some (.nilFunc)) := by kernel_rfl
theorem row138 : RowTy Try.prog 138 32 := ⟨_, Try.underlying138, rfl, by kernel_rfl⟩
theorem zero138 : (Try.prog.info? 138).map (·.zero) = some (some (.agg (#[.int .u32 0, .int .i64 0, .int .u32 0, .int .i64 0, .int .u32 0, .int .i64 0, .int .u32 0, .int .i64 0, .int .u32 0, .int .i64 0, .int .u32 0, .int .i64 0, .int .u32 0, .int .i64 0, .int .u32 0, .int .i64 0, .int .u32 0, .int .i64 0, .int .u32 0, .int .i64 0, .int .u32 0, .int .i64 0, .int .u32 0, .int .i64 0, .int .u32 0, .int .i64 0, .int .u32 0, .int .i64 0, .int .u32 0, .int .i64 0, .int .u32 0, .int .i64 0]))) := by kernel_rfl
theorem row139 : RowTy Try.prog 139 34 := ⟨_, Try.underlying139, rfl, by kernel_rfl⟩
theorem zero139 : (Try.prog.info? 139).map (·.zero) = some (some (.agg (#[.int .u32 0, .int .i64 0, .int .u32 0, .int .i64 0, .int .u32 0, .int .i64 0, .int .u32 0, .int .i64 0, .int .u32 0, .int .i64 0, .int .u32 0, .int .i64 0, .int .u32 0, .int .i64 0, .int .u32 0, .int .i64 0, .int .u32 0, .int .i64 0, .int .u32 0, .int .i64 0, .int .u32 0, .int .i64 0, .int .u32 0, .int .i64 0, .int .u32 0, .int .i64 0, .int .u32 0, .int .i64 0, .int .u32 0, .int .i64 0, .int .u32 0, .int .i64 0, .int .i64 0, .int .i64 0]))) := by kernel_rfl
theorem row140 : RowTy Try.prog 140 34 := ⟨_, Try.underlying140, rfl, by kernel_rfl⟩
theorem zero140 : (Try.prog.info? 140).map (·.zero) = some (some (.agg (#[.int .u32 0, .int .i64 0, .int .u32 0, .int .i64 0, .int .u32 0, .int .i64 0, .int .u32 0, .int .i64 0, .int .u32 0, .int .i64 0, .int .u32 0, .int .i64 0, .int .u32 0, .int .i64 0, .int .u32 0, .int .i64 0, .int .u32 0, .int .i64 0, .int .u32 0, .int .i64 0, .int .u32 0, .int .i64 0, .int .u32 0, .int .i64 0, .int .u32 0, .int .i64 0, .int .u32 0, .int .i64 0, .int .u32 0, .int .i64 0, .int .u32 0, .int .i64 0, .int .i64 0, .int .i64 0]))) := by kernel_rfl
theorem row141 : RowTy Try.prog 141 35 := ⟨_, Try.underlying141, rfl, by kernel_rfl⟩
theorem zero141 : (Try.prog.info? 141).map (·.zero) = some (some (.agg (#[.int .u32 0, .int .i64 0, .int .u32 0, .int .i64 0, .int .u32 0, .int .i64 0, .int .u32 0, .int .i64 0, .int .u32 0, .int .i64 0, .int .u32 0, .int .i64 0, .int .u32 0, .int .i64 0, .int .u32 0, .int .i64 0, .int .u32 0, .int .i64 0, .int .u32 0, .int .i64 0, .int .u32 0, .int .i64 0, .int .u32 0, .int .i64 0, .int .u32 0, .int .i64 0, .int .u32 0, .int .i64 0, .int .u32 0, .int .i64 0, .int .u32 0, .int .i64 0, .int .i64 0, .int .i64 0, .int .u32 0]))) := by kernel_rfl
theorem row142 : RowTy Try.prog 142 35 := ⟨_, Try.underlying142, rfl, by kernel_rfl⟩
theorem zero142 : (Try.prog.info? 142).map (·.zero) = some (some (.agg (#[.int .u32 0, .int .i64 0, .int .u32 0, .int .i64 0, .int .u32 0, .int .i64 0, .int .u32 0, .int .i64 0, .int .u32 0, .int .i64 0, .int .u32 0, .int .i64 0, .int .u32 0, .int .i64 0, .int .u32 0, .int .i64 0, .int .u32 0, .int .i64 0, .int .u32 0, .int .i64 0, .int .u32 0, .int .i64 0, .int .u32 0, .int .i64 0, .int .u32 0, .int .i64 0, .int .u32 0, .int .i64 0, .int .u32 0, .int .i64 0, .int .u32 0, .int .i64 0, .int .i64 0, .int .i64 0, .int .u32 0]))) := by kernel_rfl
theorem one143 : OneTy Try.prog 143 := ⟨_, Try.underlying143, rfl, by kernel_rfl⟩
theorem zero143 : (Try.prog.info? 143).map (·.zero) = some (some (.nilFunc)) := by kernel_rfl
theorem one144 : OneTy Try.prog 144 := ⟨_, Try.underlying144, rfl, by kernel_rfl⟩
theorem zero144 : (Try.prog.info? 144).map (·.zero) = some (some (.nilFunc)) := by kernel_rfl
theorem one145 : OneTy Try.prog 145 := ⟨_, Try.underlying145, rfl, by kernel_rfl⟩
theorem zero145 : (Try.prog.info? 145).map (·.zero) = some (some (.nilFunc)) := by kernel_rfl
theorem one146 : OneTy Try.prog 146 := ⟨_, Try.underlying146, rfl, by kernel_rfl⟩
theorem zero146 : (Try.prog.info? 146).map (·.zero) = some (some (.nilFunc)) := by kernel_rfl
theorem one147 : OneTy Try.prog 147 := ⟨_, Try.underlying147, rfl, by kernel_rfl⟩
theorem zero147 : (Try.prog.info? 147).map (·.zero) = some (some (.nilFunc)) := by kernel_rfl
theorem one148 : OneTy Try.prog 148 := ⟨_, Try.underlying148, rfl, by kernel_rfl⟩
theorem zero148 : (Try.prog.info? 148).map (·.zero) = some (some (.nilFunc)) := by kernel_rfl
theorem one149 : OneTy Try.prog 149 := ⟨_, Try.underlying149, rfl, by kernel_rfl⟩
theorem zero149 : (Try.prog.info? 149).map (·.zero) = some (some (.nilFunc)) := by kernel_rfl
theorem one150 : OneTy Try.prog 150 := ⟨_, Try.underlying150, rfl, by kernel_rfl⟩
theorem zero150 : (Try.prog.info? 150).map (·.zero) = some (some (.nilFunc)) := by kernel_rfl
theorem one151 : OneTy Try.prog 151 := ⟨_, Try.underlying151, rfl, by kernel_rfl⟩
theorem zero151 : (Try.prog.info? 151).map (·.zero) = some (some (.nilFunc)) := by kernel_rfl
theorem one152 : OneTy Try.prog 152 := ⟨_, Try.underlying152, rfl, by kernel_rfl⟩
theorem zero152 : (Try.prog.info? 152).map (·.zero) = some (some (.nilFunc)) := by kernel_rfl
theorem row153 : RowTy Try.prog 153 2 := ⟨_, Try.underlying153, rfl, by kernel_rfl⟩
theorem zero153 : (Try.prog.info? 153).map (·.zero) = some (some (.agg (#[.int .i64 0, .int .u64 0]))) := by kernel_rfl
theorem row154 : RowTy Try.prog 154 2 := ⟨_, Try.underlying154, rfl, by kernel_rfl⟩
theorem zero154 : (Try.prog.info? 154).map (·.zero) = some (some (.agg (#[.int .i64 0, .int .u64 0]))) := by kernel_rfl
theorem one155 : OneTy Try.prog 155 := ⟨_, Try.underlying155, rfl, by kernel_rfl⟩
theorem zero155 : (Try.prog.info? 155).map (·.zero) = some (some (.nilFunc)) := by kernel_rfl
theorem one156 : OneTy Try.prog 156 := ⟨_, Try.underlying156, rfl, by kernel_rfl⟩
theorem zero156 : (Try.prog.info? 156).map (·.zero) = some (some (.nilFunc)) := by kernel_rfl
theorem one157 : OneTy Try.prog 157 := ⟨_, Try.underlying157, rfl, by kernel_rfl⟩
theorem zero157 : (Try.prog.info? 157).map (·.zero) = some (some (.nilFunc)) := by kernel_rfl
theorem row158 : RowTy Try.prog 158 30 := ⟨_, Try.underlying158, rfl, by kernel_rfl⟩
theorem zero158 : (Try.prog.info? 158).map (·.zero) = some (some (.agg (Array.replicate 30 (.int .i64 0)))) := by kernel_rfl
theorem one159 : OneTy Try.prog 159 := ⟨_, Try.underlying159, rfl, by kernel_rfl⟩
theorem zero159 : (Try.prog.info? 159).map (·.zero) = some (some (.nilFunc)) := by kernel_rfl
theorem one160 : OneTy Try.prog 160 := ⟨_, Try.underlying160, rfl, by kernel_rfl⟩
theorem zero160 : (Try.prog.info? 160).map (·.zero) = some (some (.nilFunc)) := by kernel_rfl
theorem one161 : OneTy Try.prog 161 := ⟨_, Try.underlying161, rfl, by kernel_rfl⟩
theorem zero161 : (Try.prog.info? 161).map (·.zero) = some (some (.nilFunc)) := by kernel_rfl
theorem one162 : OneTy Try.prog 162 := ⟨_, Try.underlying162, rfl, by kernel_rfl⟩
theorem zero162 : (Try.prog.info? 162).map (·.zero) = some (some (.nilFunc)) := by kernel_rfl
theorem one163 : OneTy Try.prog 163 := ⟨_, Try.underlying163, rfl, by kernel_rfl⟩
theorem zero163 : (Try.prog.info? 163).map (·.zero) = some (some (.pointer none)) := by kernel_rfl
theorem one164 : OneTy Try.prog 164 := ⟨_, Try.underlying164, rfl, by kernel_rfl⟩
theorem zero164 : (Try.prog.info? 164).map (·.zero) = some (some (.nilFunc)) := by kernel_rfl
theorem one165 : OneTy Try.prog 165 := ⟨_, Try.underlying165, rfl, by kernel_rfl⟩
theorem one166 : OneTy Try.prog 166 := ⟨_, Try.underlying166, rfl, by kernel_rfl⟩
theorem zero166 : (Try.prog.info? 166).map (·.zero) = some (some (.nilFunc)) := by kernel_rfl
theorem one167 : OneTy Try.prog 167 := ⟨_, Try.underlying167, rfl, by kernel_rfl⟩
theorem zero167 : (Try.prog.info? 167).map (·.zero) = some (some (.nilFunc)) := by kernel_rfl
theorem one168 : OneTy Try.prog 168 := ⟨_, Try.underlying168, rfl, by kernel_rfl⟩
theorem zero168 : (Try.prog.info? 168).map (·.zero) = some (some (.nilFunc)) := by kernel_rfl
theorem one169 : OneTy Try.prog 169 := ⟨_, Try.underlying169, rfl, by kernel_rfl⟩
theorem one170 : OneTy Try.prog 170 := ⟨_, Try.underlying170, rfl, by kernel_rfl⟩
theorem zero170 : (Try.prog.info? 170).map (·.zero) = some (some (.nilFunc)) := by kernel_rfl
theorem one171 : OneTy Try.prog 171 := ⟨_, Try.underlying171, rfl, by kernel_rfl⟩
theorem one172 : OneTy Try.prog 172 := ⟨_, Try.underlying172, rfl, by kernel_rfl⟩
theorem zero172 : (Try.prog.info? 172).map (·.zero) = some (some (.nilFunc)) := by kernel_rfl
theorem one173 : OneTy Try.prog 173 := ⟨_, Try.underlying173, rfl, by kernel_rfl⟩
theorem zero173 : (Try.prog.info? 173).map (·.zero) = some (some (.nilFunc)) := by kernel_rfl
theorem one174 : OneTy Try.prog 174 := ⟨_, Try.underlying174, rfl, by kernel_rfl⟩
theorem zero174 : (Try.prog.info? 174).map (·.zero) = some (some (.nilFunc)) := by kernel_rfl
theorem one175 : OneTy Try.prog 175 := ⟨_, Try.underlying175, rfl, by kernel_rfl⟩
theorem zero175 : (Try.prog.info? 175).map (·.zero) = some (some (.nilFunc)) := by kernel_rfl
theorem one176 : OneTy Try.prog 176 := ⟨_, Try.underlying176, rfl, by kernel_rfl⟩
theorem zero176 : (Try.prog.info? 176).map (·.zero) = some (some (.nilFunc)) := by kernel_rfl
theorem one177 : OneTy Try.prog 177 := ⟨_, Try.underlying177, rfl, by kernel_rfl⟩
theorem zero177 : (Try.prog.info? 177).map (·.zero) = some (some (.nilFunc)) := by kernel_rfl
theorem one178 : OneTy Try.prog 178 := ⟨_, Try.underlying178, rfl, by kernel_rfl⟩
theorem zero178 : (Try.prog.info? 178).map (·.zero) = some (some (.nilFunc)) := by kernel_rfl
theorem one179 : OneTy Try.prog 179 := ⟨_, Try.underlying179, rfl, by kernel_rfl⟩
theorem zero179 : (Try.prog.info? 179).map (·.zero) = some (some (.nilFunc)) := by kernel_rfl
theorem one180 : OneTy Try.prog 180 := ⟨_, Try.underlying180, rfl, by kernel_rfl⟩
theorem zero180 : (Try.prog.info? 180).map (·.zero) = some (some (.nilIface)) := by kernel_rfl
theorem one181 : OneTy Try.prog 181 := ⟨_, Try.underlying181, rfl, by kernel_rfl⟩
theorem zero181 : (Try.prog.info? 181).map (·.zero) = some (some (.nilIface)) := by kernel_rfl
theorem one182 : OneTy Try.prog 182 := ⟨_, Try.underlying182, rfl, by kernel_rfl⟩
theorem zero182 : (Try.prog.info? 182).map (·.zero) = some (some (.nilFunc)) := by kernel_rfl
theorem one183 : OneTy Try.prog 183 := ⟨_, Try.underlying183, rfl, by kernel_rfl⟩
theorem zero183 : (Try.prog.info? 183).map (·.zero) = some (some (.slice none 0 0)) := by kernel_rfl
theorem one184 : OneTy Try.prog 184 := ⟨_, Try.underlying184, rfl, by kernel_rfl⟩
theorem zero184 : (Try.prog.info? 184).map (·.zero) = some (some (.nilFunc)) := by kernel_rfl
theorem row185 : RowTy Try.prog 185 4 := ⟨_, Try.underlying185, rfl, by kernel_rfl⟩
theorem zero185 : (Try.prog.info? 185).map (·.zero) = some (some (.agg (#[.pointer none, .pointer none, .pointer none, .string ByteArray.empty]))) := by kernel_rfl
theorem row186 : RowTy Try.prog 186 4 := ⟨_, Try.underlying186, rfl, by kernel_rfl⟩
theorem zero186 : (Try.prog.info? 186).map (·.zero) = some (some (.agg (#[.pointer none, .pointer none, .pointer none, .string ByteArray.empty]))) := by kernel_rfl
theorem row187 : RowTy Try.prog 187 0 := ⟨_, Try.underlying187, rfl, by kernel_rfl⟩
theorem zero187 : (Try.prog.info? 187).map (·.zero) = some (some (.agg (#[]))) := by kernel_rfl
theorem row188 : RowTy Try.prog 188 0 := ⟨_, Try.underlying188, rfl, by kernel_rfl⟩
theorem zero188 : (Try.prog.info? 188).map (·.zero) = some (some (.agg (#[]))) := by kernel_rfl
theorem row189 : RowTy Try.prog 189 0 := ⟨_, Try.underlying189, rfl, by kernel_rfl⟩
theorem zero189 : (Try.prog.info? 189).map (·.zero) = some (some (.agg (#[]))) := by kernel_rfl
theorem one190 : OneTy Try.prog 190 := ⟨_, Try.underlying190, rfl, by kernel_rfl⟩
theorem zero190 : (Try.prog.info? 190).map (·.zero) = some (some (.int .u8 0)) := by kernel_rfl
theorem num190 : (Try.prog.info? 190).map (fun i => (i.zero, i.size, i.bytes)) = some (some (.int .u8 0), 1, 1) := by kernel_rfl
theorem one191 : OneTy Try.prog 191 := ⟨_, Try.underlying191, rfl, by kernel_rfl⟩
theorem zero191 : (Try.prog.info? 191).map (·.zero) = some (some (.int .u8 0)) := by kernel_rfl
theorem num191 : (Try.prog.info? 191).map (fun i => (i.zero, i.size, i.bytes)) = some (some (.int .u8 0), 1, 1) := by kernel_rfl
theorem one192 : OneTy Try.prog 192 := ⟨_, Try.underlying192, rfl, by kernel_rfl⟩
theorem zero192 : (Try.prog.info? 192).map (·.zero) = some (some (.nilFunc)) := by kernel_rfl
theorem one193 : OneTy Try.prog 193 := ⟨_, Try.underlying193, rfl, by kernel_rfl⟩
theorem zero193 : (Try.prog.info? 193).map (·.zero) = some (some (.pointer none)) := by kernel_rfl
theorem one194 : OneTy Try.prog 194 := ⟨_, Try.underlying194, rfl, by kernel_rfl⟩
theorem zero194 : (Try.prog.info? 194).map (·.zero) = some (some (.int .i32 0)) := by kernel_rfl
theorem num194 : (Try.prog.info? 194).map (fun i => (i.zero, i.size, i.bytes)) = some (some (.int .i32 0), 1, 4) := by kernel_rfl
theorem one195 : OneTy Try.prog 195 := ⟨_, Try.underlying195, rfl, by kernel_rfl⟩
theorem zero195 : (Try.prog.info? 195).map (·.zero) = some (some (.int .i32 0)) := by kernel_rfl
theorem num195 : (Try.prog.info? 195).map (fun i => (i.zero, i.size, i.bytes)) = some (some (.int .i32 0), 1, 4) := by kernel_rfl
theorem row196 : RowTy Try.prog 196 11 := ⟨_, Try.underlying196, rfl, by kernel_rfl⟩
theorem zero196 : (Try.prog.info? 196).map (·.zero) = some (some (.agg (#[.int .u64 0, .int .u64 0, .int .u32 0, .int .u8 0, .int .u8 0, .int .u8 0, .int .u8 0, .nilFunc, .pointer none, .int .i32 0, .int .i32 0]))) := by kernel_rfl
theorem row197 : RowTy Try.prog 197 11 := ⟨_, Try.underlying197, rfl, by kernel_rfl⟩
theorem zero197 : (Try.prog.info? 197).map (·.zero) = some (some (.agg (#[.int .u64 0, .int .u64 0, .int .u32 0, .int .u8 0, .int .u8 0, .int .u8 0, .int .u8 0, .nilFunc, .pointer none, .int .i32 0, .int .i32 0]))) := by kernel_rfl
theorem one198 : OneTy Try.prog 198 := ⟨_, Try.underlying198, rfl, by kernel_rfl⟩
theorem zero198 : (Try.prog.info? 198).map (·.zero) = some (some (.pointer none)) := by kernel_rfl
end Go.Proofs.Ytogbnecgikbkmaa
