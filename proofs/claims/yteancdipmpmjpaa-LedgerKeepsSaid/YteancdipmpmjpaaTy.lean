/-
  The types of the program: whether their values lie in one cell or in a row of cells, and what a new one holds. (Printed by a small program of mine off the program's types.) No condition.
-/
import Derived.Test.YteancdipmpmjpaaProg
import Derived.Test.YteancdipmpmjpaaMem
namespace Go.Proofs.Yteancdipmpmjpaa
theorem one0 : OneTy Try.prog 0 := ⟨_, Try.underlying0, rfl, by kernel_rfl⟩
theorem one1 : OneTy Try.prog 1 := ⟨_, Try.underlying1, rfl, by kernel_rfl⟩
theorem zero1 : (Try.prog.info? 1).map (·.zero) = some (some (.nilFunc)) := by kernel_rfl
theorem one2 : OneTy Try.prog 2 := ⟨_, Try.underlying2, rfl, by kernel_rfl⟩
theorem zero2 : (Try.prog.info? 2).map (·.zero) = some (some (.int .i64 0)) := by kernel_rfl
theorem num2 : (Try.prog.info? 2).map (fun i => (i.zero, i.size, i.bytes)) = some (some (.int .i64 0), 1, 8) := by kernel_rfl
theorem one3 : OneTy Try.prog 3 := ⟨_, Try.underlying3, rfl, by kernel_rfl⟩
theorem zero3 : (Try.prog.info? 3).map (·.zero) = some (some (.int .i64 0)) := by kernel_rfl
theorem num3 : (Try.prog.info? 3).map (fun i => (i.zero, i.size, i.bytes)) = some (some (.int .i64 0), 1, 8) := by kernel_rfl
theorem one4 : OneTy Try.prog 4 := ⟨_, Try.underlying4, rfl, by kernel_rfl⟩
theorem zero4 : (Try.prog.info? 4).map (·.zero) = some (some (.bool false)) := by kernel_rfl
theorem one5 : OneTy Try.prog 5 := ⟨_, Try.underlying5, rfl, by kernel_rfl⟩
theorem zero5 : (Try.prog.info? 5).map (·.zero) = some (some (.int .u8 0)) := by kernel_rfl
theorem num5 : (Try.prog.info? 5).map (fun i => (i.zero, i.size, i.bytes)) = some (some (.int .u8 0), 1, 1) := by kernel_rfl
theorem one6 : OneTy Try.prog 6 := ⟨_, Try.underlying6, rfl, by kernel_rfl⟩
theorem zero6 : (Try.prog.info? 6).map (·.zero) = some (some (.int .u8 0)) := by kernel_rfl
theorem num6 : (Try.prog.info? 6).map (fun i => (i.zero, i.size, i.bytes)) = some (some (.int .u8 0), 1, 1) := by kernel_rfl
theorem row7 : RowTy Try.prog 7 4 := ⟨_, Try.underlying7, rfl, by kernel_rfl⟩
theorem zero7 : (Try.prog.info? 7).map (·.zero) = some (some (.agg (#[.int .i64 0, .int .i64 0, .bool false, .int .u8 0]))) := by kernel_rfl
theorem row8 : RowTy Try.prog 8 4 := ⟨_, Try.underlying8, rfl, by kernel_rfl⟩
theorem zero8 : (Try.prog.info? 8).map (·.zero) = some (some (.agg (#[.int .i64 0, .int .i64 0, .bool false, .int .u8 0]))) := by kernel_rfl
theorem one9 : OneTy Try.prog 9 := ⟨_, Try.underlying9, rfl, by kernel_rfl⟩
theorem zero9 : (Try.prog.info? 9).map (·.zero) = some (some (.string ByteArray.empty)) := by kernel_rfl
theorem one10 : OneTy Try.prog 10 := ⟨_, Try.underlying10, rfl, by kernel_rfl⟩
theorem zero10 : (Try.prog.info? 10).map (·.zero) = some (some (.string ByteArray.empty)) := by kernel_rfl
theorem one11 : OneTy Try.prog 11 := ⟨_, Try.underlying11, rfl, by kernel_rfl⟩
theorem zero11 : (Try.prog.info? 11).map (·.zero) = some (some (.string ByteArray.empty)) := by kernel_rfl
theorem one12 : OneTy Try.prog 12 := ⟨_, Try.underlying12, rfl, by kernel_rfl⟩
theorem zero12 : (Try.prog.info? 12).map (·.zero) = some (some (.int .u64 0)) := by kernel_rfl
theorem num12 : (Try.prog.info? 12).map (fun i => (i.zero, i.size, i.bytes)) = some (some (.int .u64 0), 1, 8) := by kernel_rfl
theorem row13 : RowTy Try.prog 13 2 := ⟨_, Try.underlying13, rfl, by kernel_rfl⟩
theorem zero13 : (Try.prog.info? 13).map (·.zero) = some (some (.agg (#[.string ByteArray.empty, .int .u64 0]))) := by kernel_rfl
theorem row14 : RowTy Try.prog 14 2 := ⟨_, Try.underlying14, rfl, by kernel_rfl⟩
theorem zero14 : (Try.prog.info? 14).map (·.zero) = some (some (.agg (#[.string ByteArray.empty, .int .u64 0]))) := by kernel_rfl
theorem one15 : OneTy Try.prog 15 := ⟨_, Try.underlying15, rfl, by kernel_rfl⟩
theorem zero15 : (Try.prog.info? 15).map (·.zero) = some (some (.pointer none)) := by kernel_rfl
theorem one16 : OneTy Try.prog 16 := ⟨_, Try.underlying16, rfl, by kernel_rfl⟩
theorem zero16 : (Try.prog.info? 16).map (·.zero) = some (some (.pointer none)) := by kernel_rfl
theorem one17 : OneTy Try.prog 17 := ⟨_, Try.underlying17, rfl, by kernel_rfl⟩
theorem zero17 : (Try.prog.info? 17).map (·.zero) = some (some (.pointer none)) := by kernel_rfl
theorem row18 : RowTy Try.prog 18 1 := ⟨_, Try.underlying18, rfl, by kernel_rfl⟩
theorem zero18 : (Try.prog.info? 18).map (·.zero) = some (some (.agg (#[.pointer none]))) := by kernel_rfl
theorem row19 : RowTy Try.prog 19 1 := ⟨_, Try.underlying19, rfl, by kernel_rfl⟩
theorem zero19 : (Try.prog.info? 19).map (·.zero) = some (some (.agg (#[.pointer none]))) := by kernel_rfl
theorem one20 : OneTy Try.prog 20 := ⟨_, Try.underlying20, rfl, by kernel_rfl⟩
theorem zero20 : (Try.prog.info? 20).map (·.zero) = some (some (.nilIface)) := by kernel_rfl
theorem one21 : OneTy Try.prog 21 := ⟨_, Try.underlying21, rfl, by kernel_rfl⟩
theorem zero21 : (Try.prog.info? 21).map (·.zero) = some (some (.int .i32 0)) := by kernel_rfl
theorem num21 : (Try.prog.info? 21).map (fun i => (i.zero, i.size, i.bytes)) = some (some (.int .i32 0), 1, 4) := by kernel_rfl
theorem one22 : OneTy Try.prog 22 := ⟨_, Try.underlying22, rfl, by kernel_rfl⟩
theorem zero22 : (Try.prog.info? 22).map (·.zero) = some (some (.int .u16 0)) := by kernel_rfl
theorem num22 : (Try.prog.info? 22).map (fun i => (i.zero, i.size, i.bytes)) = some (some (.int .u16 0), 1, 2) := by kernel_rfl
theorem one23 : OneTy Try.prog 23 := ⟨_, Try.underlying23, rfl, by kernel_rfl⟩
theorem zero23 : (Try.prog.info? 23).map (·.zero) = some (some (.int .u64 0)) := by kernel_rfl
theorem num23 : (Try.prog.info? 23).map (fun i => (i.zero, i.size, i.bytes)) = some (some (.int .u64 0), 1, 8) := by kernel_rfl
theorem one24 : OneTy Try.prog 24 := ⟨_, Try.underlying24, rfl, by kernel_rfl⟩
theorem zero24 : (Try.prog.info? 24).map (·.zero) = some (some (.int .u32 0)) := by kernel_rfl
theorem num24 : (Try.prog.info? 24).map (fun i => (i.zero, i.size, i.bytes)) = some (some (.int .u32 0), 1, 4) := by kernel_rfl
theorem one25 : OneTy Try.prog 25 := ⟨_, Try.underlying25, rfl, by kernel_rfl⟩
theorem zero25 : (Try.prog.info? 25).map (·.zero) = some (some (.nilFunc)) := by kernel_rfl
theorem row26 : RowTy Try.prog 26 2 := ⟨_, Try.underlying26, rfl, by kernel_rfl⟩
theorem zero26 : (Try.prog.info? 26).map (·.zero) = some (some (.agg (#[.int .i64 0, .int .u64 0]))) := by kernel_rfl
theorem row27 : RowTy Try.prog 27 2 := ⟨_, Try.underlying27, rfl, by kernel_rfl⟩
theorem zero27 : (Try.prog.info? 27).map (·.zero) = some (some (.agg (#[.int .i64 0, .int .u64 0]))) := by kernel_rfl
theorem one28 : OneTy Try.prog 28 := ⟨_, Try.underlying28, rfl, by kernel_rfl⟩
theorem zero28 : (Try.prog.info? 28).map (·.zero) = some (some (.nilFunc)) := by kernel_rfl
theorem one29 : OneTy Try.prog 29 := ⟨_, Try.underlying29, rfl, by kernel_rfl⟩
theorem zero29 : (Try.prog.info? 29).map (·.zero) = some (some (.nilFunc)) := by kernel_rfl
theorem one30 : OneTy Try.prog 30 := ⟨_, Try.underlying30, rfl, by kernel_rfl⟩
theorem zero30 : (Try.prog.info? 30).map (·.zero) = some (some (.nilFunc)) := by kernel_rfl
theorem one31 : OneTy Try.prog 31 := ⟨_, Try.underlying31, rfl, by kernel_rfl⟩
theorem zero31 : (Try.prog.info? 31).map (·.zero) = some (some (.nilFunc)) := by kernel_rfl
theorem one32 : OneTy Try.prog 32 := ⟨_, Try.underlying32, rfl, by kernel_rfl⟩
theorem zero32 : (Try.prog.info? 32).map (·.zero) = some (some (.nilFunc)) := by kernel_rfl
theorem one33 : OneTy Try.prog 33 := ⟨_, Try.underlying33, rfl, by kernel_rfl⟩
theorem zero33 : (Try.prog.info? 33).map (·.zero) = some (some (.nilFunc)) := by kernel_rfl
theorem row34 : RowTy Try.prog 34 2 := ⟨_, Try.underlying34, rfl, by kernel_rfl⟩
theorem zero34 : (Try.prog.info? 34).map (·.zero) = some (some (.agg (#[.int .i64 0, .int .i64 0]))) := by kernel_rfl
theorem row35 : RowTy Try.prog 35 2 := ⟨_, Try.underlying35, rfl, by kernel_rfl⟩
theorem zero35 : (Try.prog.info? 35).map (·.zero) = some (some (.agg (#[.int .i64 0, .int .i64 0]))) := by kernel_rfl
theorem one36 : OneTy Try.prog 36 := ⟨_, Try.underlying36, rfl, by kernel_rfl⟩
theorem zero36 : (Try.prog.info? 36).map (·.zero) = some (some (.nilFunc)) := by kernel_rfl
theorem one37 : OneTy Try.prog 37 := ⟨_, Try.underlying37, rfl, by kernel_rfl⟩
theorem zero37 : (Try.prog.info? 37).map (·.zero) = some (some (.nilFunc)) := by kernel_rfl
theorem one38 : OneTy Try.prog 38 := ⟨_, Try.underlying38, rfl, by kernel_rfl⟩
theorem zero38 : (Try.prog.info? 38).map (·.zero) = some (some (.nilFunc)) := by kernel_rfl
theorem one39 : OneTy Try.prog 39 := ⟨_, Try.underlying39, rfl, by kernel_rfl⟩
theorem zero39 : (Try.prog.info? 39).map (·.zero) = some (some (.nilFunc)) := by kernel_rfl
theorem one40 : OneTy Try.prog 40 := ⟨_, Try.underlying40, rfl, by kernel_rfl⟩
theorem zero40 : (Try.prog.info? 40).map (·.zero) = some (some (.nilFunc)) := by kernel_rfl
theorem one41 : OneTy Try.prog 41 := ⟨_, Try.underlying41, rfl, by kernel_rfl⟩
theorem zero41 : (Try.prog.info? 41).map (·.zero) = some (some (.nilFunc)) := by kernel_rfl
theorem one42 : OneTy Try.prog 42 := ⟨_, Try.underlying42, rfl, by kernel_rfl⟩
theorem zero42 : (Try.prog.info? 42).map (·.zero) = some (some (.slice none 0 0)) := by kernel_rfl
theorem one43 : OneTy Try.prog 43 := ⟨_, Try.underlying43, rfl, by kernel_rfl⟩
theorem zero43 : (Try.prog.info? 43).map (·.zero) = some (some (.slice none 0 0)) := by kernel_rfl
theorem one44 : OneTy Try.prog 44 := ⟨_, Try.underlying44, rfl, by kernel_rfl⟩
theorem zero44 : (Try.prog.info? 44).map (·.zero) = some (some (.nilFunc)) := by kernel_rfl
theorem one45 : OneTy Try.prog 45 := ⟨_, Try.underlying45, rfl, by kernel_rfl⟩
theorem zero45 : (Try.prog.info? 45).map (·.zero) = some (some (.slice none 0 0)) := by kernel_rfl
theorem row46 : RowTy Try.prog 46 6 := ⟨_, Try.underlying46, rfl, by kernel_rfl⟩
theorem zero46 : (Try.prog.info? 46).map (·.zero) = some (some (.agg (#[.int .i64 0, .int .i64 0, .int .i64 0, .int .i64 0, .int .i64 0, .slice none 0 0]))) := by kernel_rfl
theorem row47 : RowTy Try.prog 47 6 := ⟨_, Try.underlying47, rfl, by kernel_rfl⟩
theorem zero47 : (Try.prog.info? 47).map (·.zero) = some (some (.agg (#[.int .i64 0, .int .i64 0, .int .i64 0, .int .i64 0, .int .i64 0, .slice none 0 0]))) := by kernel_rfl
theorem one48 : OneTy Try.prog 48 := ⟨_, Try.underlying48, rfl, by kernel_rfl⟩
theorem zero48 : (Try.prog.info? 48).map (·.zero) = some (some (.nilFunc)) := by kernel_rfl
theorem one49 : OneTy Try.prog 49 := ⟨_, Try.underlying49, rfl, by kernel_rfl⟩
theorem zero49 : (Try.prog.info? 49).map (·.zero) = some (some (.slice none 0 0)) := by kernel_rfl
theorem row50 : RowTy Try.prog 50 3 := ⟨_, Try.underlying50, rfl, by kernel_rfl⟩
theorem zero50 : (Try.prog.info? 50).map (·.zero) = some (some (.agg (#[.int .i64 0, .int .i64 0, .slice none 0 0]))) := by kernel_rfl
theorem row51 : RowTy Try.prog 51 3 := ⟨_, Try.underlying51, rfl, by kernel_rfl⟩
theorem zero51 : (Try.prog.info? 51).map (·.zero) = some (some (.agg (#[.int .i64 0, .int .i64 0, .slice none 0 0]))) := by kernel_rfl
theorem one52 : OneTy Try.prog 52 := ⟨_, Try.underlying52, rfl, by kernel_rfl⟩
theorem zero52 : (Try.prog.info? 52).map (·.zero) = some (some (.nilFunc)) := by kernel_rfl
theorem row53 : RowTy Try.prog 53 11 := ⟨_, Try.underlying53, rfl, by kernel_rfl⟩
theorem zero53 : (Try.prog.info? 53).map (·.zero) = some (some (.agg (#[.int .i64 0, .int .i64 0, .int .i64 0, .int .i64 0, .int .i64 0, .slice none 0 0, .int .i64 0, .int .i64 0, .slice none 0 0, .int .i64 0, .int .i64 0]))) := by kernel_rfl
theorem row54 : RowTy Try.prog 54 11 := ⟨_, Try.underlying54, rfl, by kernel_rfl⟩
theorem zero54 : (Try.prog.info? 54).map (·.zero) = some (some (.agg (#[.int .i64 0, .int .i64 0, .int .i64 0, .int .i64 0, .int .i64 0, .slice none 0 0, .int .i64 0, .int .i64 0, .slice none 0 0, .int .i64 0, .int .i64 0]))) := by kernel_rfl
theorem one55 : OneTy Try.prog 55 := ⟨_, Try.underlying55, rfl, by kernel_rfl⟩
theorem one56 : OneTy Try.prog 56 := ⟨_, Try.underlying56, rfl, by kernel_rfl⟩
theorem zero56 : (Try.prog.info? 56).map (·.zero) = some (some (.nilFunc)) := by kernel_rfl
theorem one57 : OneTy Try.prog 57 := ⟨_, Try.underlying57, rfl, by kernel_rfl⟩
theorem zero57 : (Try.prog.info? 57).map (·.zero) = some (some (.int .i8 0)) := by kernel_rfl
theorem num57 : (Try.prog.info? 57).map (fun i => (i.zero, i.size, i.bytes)) = some (some (.int .i8 0), 1, 1) := by kernel_rfl
theorem row58 : RowTy Try.prog 58 7 := ⟨_, Try.underlying58, rfl, by kernel_rfl⟩
theorem zero58 : (Try.prog.info? 58).map (·.zero) = some (some (.agg (#[.int .u8 0, .int .u8 0, .slice none 0 0, .int .i8 0, .int .i8 0, .int .u8 0, .int .u8 0]))) := by kernel_rfl
theorem row59 : RowTy Try.prog 59 7 := ⟨_, Try.underlying59, rfl, by kernel_rfl⟩
theorem zero59 : (Try.prog.info? 59).map (·.zero) = some (some (.agg (#[.int .u8 0, .int .u8 0, .slice none 0 0, .int .i8 0, .int .i8 0, .int .u8 0, .int .u8 0]))) := by kernel_rfl
theorem one60 : OneTy Try.prog 60 := ⟨_, Try.underlying60, rfl, by kernel_rfl⟩
theorem zero60 : (Try.prog.info? 60).map (·.zero) = some (some (.int .i64 0)) := by kernel_rfl
theorem num60 : (Try.prog.info? 60).map (fun i => (i.zero, i.size, i.bytes)) = some (some (.int .i64 0), 1, 8) := by kernel_rfl
theorem one61 : OneTy Try.prog 61 := ⟨_, Try.underlying61, rfl, by kernel_rfl⟩
theorem zero61 : (Try.prog.info? 61).map (·.zero) = some (some (.nilFunc)) := by kernel_rfl
theorem one62 : OneTy Try.prog 62 := ⟨_, Try.underlying62, rfl, by kernel_rfl⟩
theorem zero62 : (Try.prog.info? 62).map (·.zero) = some (some (.nilFunc)) := by kernel_rfl
theorem one63 : OneTy Try.prog 63 := ⟨_, Try.underlying63, rfl, by kernel_rfl⟩
theorem zero63 : (Try.prog.info? 63).map (·.zero) = some (some (.nilFunc)) := by kernel_rfl
theorem one64 : OneTy Try.prog 64 := ⟨_, Try.underlying64, rfl, by kernel_rfl⟩
theorem one65 : OneTy Try.prog 65 := ⟨_, Try.underlying65, rfl, by kernel_rfl⟩
theorem zero65 : (Try.prog.info? 65).map (·.zero) = some (some (.nilFunc)) := by kernel_rfl
theorem one66 : OneTy Try.prog 66 := ⟨_, Try.underlying66, rfl, by kernel_rfl⟩
theorem zero66 : (Try.prog.info? 66).map (·.zero) = some (some (.nilFunc)) := by kernel_rfl
theorem one67 : OneTy Try.prog 67 := ⟨_, Try.underlying67, rfl, by kernel_rfl⟩
theorem zero67 : (Try.prog.info? 67).map (·.zero) = some (some (.nilFunc)) := by kernel_rfl
theorem one68 : OneTy Try.prog 68 := ⟨_, Try.underlying68, rfl, by kernel_rfl⟩
theorem zero68 : (Try.prog.info? 68).map (·.zero) = some (some (.nilFunc)) := by kernel_rfl
theorem one69 : OneTy Try.prog 69 := ⟨_, Try.underlying69, rfl, by kernel_rfl⟩
theorem zero69 : (Try.prog.info? 69).map (·.zero) = some (some (.nilFunc)) := by kernel_rfl
theorem one70 : OneTy Try.prog 70 := ⟨_, Try.underlying70, rfl, by kernel_rfl⟩
theorem zero70 : (Try.prog.info? 70).map (·.zero) = some (some (.nilFunc)) := by kernel_rfl
theorem one71 : OneTy Try.prog 71 := ⟨_, Try.underlying71, rfl, by kernel_rfl⟩
theorem zero71 : (Try.prog.info? 71).map (·.zero) = some (some (.nilFunc)) := by kernel_rfl
theorem one72 : OneTy Try.prog 72 := ⟨_, Try.underlying72, rfl, by kernel_rfl⟩
theorem zero72 : (Try.prog.info? 72).map (·.zero) = some (some (.nilFunc)) := by kernel_rfl
theorem one73 : OneTy Try.prog 73 := ⟨_, Try.underlying73, rfl, by kernel_rfl⟩
theorem one74 : OneTy Try.prog 74 := ⟨_, Try.underlying74, rfl, by kernel_rfl⟩
theorem zero74 : (Try.prog.info? 74).map (·.zero) = some (some (.nilFunc)) := by kernel_rfl
theorem one75 : OneTy Try.prog 75 := ⟨_, Try.underlying75, rfl, by kernel_rfl⟩
theorem zero75 : (Try.prog.info? 75).map (·.zero) = some (some (.nilFunc)) := by kernel_rfl
theorem one76 : OneTy Try.prog 76 := ⟨_, Try.underlying76, rfl, by kernel_rfl⟩
theorem one77 : OneTy Try.prog 77 := ⟨_, Try.underlying77, rfl, by kernel_rfl⟩
theorem zero77 : (Try.prog.info? 77).map (·.zero) = some (some (.nilFunc)) := by kernel_rfl
theorem one78 : OneTy Try.prog 78 := ⟨_, Try.underlying78, rfl, by kernel_rfl⟩
theorem zero78 : (Try.prog.info? 78).map (·.zero) = some (some (.nilFunc)) := by kernel_rfl
theorem one79 : OneTy Try.prog 79 := ⟨_, Try.underlying79, rfl, by kernel_rfl⟩
theorem zero79 : (Try.prog.info? 79).map (·.zero) = some (some (.nilFunc)) := by kernel_rfl
theorem row80 : RowTy Try.prog 80 2 := ⟨_, Try.underlying80, rfl, by kernel_rfl⟩
theorem zero80 : (Try.prog.info? 80).map (·.zero) = some (some (.agg (#[.int .i64 0, .int .i64 0]))) := by kernel_rfl
theorem row81 : RowTy Try.prog 81 2 := ⟨_, Try.underlying81, rfl, by kernel_rfl⟩
theorem zero81 : (Try.prog.info? 81).map (·.zero) = some (some (.agg (#[.int .i64 0, .int .i64 0]))) := by kernel_rfl
theorem one82 : OneTy Try.prog 82 := ⟨_, Try.underlying82, rfl, by kernel_rfl⟩
theorem one83 : OneTy Try.prog 83 := ⟨_, Try.underlying83, rfl, by kernel_rfl⟩
theorem zero83 : (Try.prog.info? 83).map (·.zero) = some (some (.nilFunc)) := by kernel_rfl
theorem one84 : OneTy Try.prog 84 := ⟨_, Try.underlying84, rfl, by kernel_rfl⟩
theorem zero84 : (Try.prog.info? 84).map (·.zero) = some (some (.nilFunc)) := by kernel_rfl
theorem one85 : OneTy Try.prog 85 := ⟨_, Try.underlying85, rfl, by kernel_rfl⟩
theorem zero85 : (Try.prog.info? 85).map (·.zero) = some (some (.nilFunc)) := by kernel_rfl
theorem one86 : OneTy Try.prog 86 := ⟨_, Try.underlying86, rfl, by kernel_rfl⟩
theorem zero86 : (Try.prog.info? 86).map (·.zero) = some (some (.slice none 0 0)) := by kernel_rfl
theorem row87 : RowTy Try.prog 87 3 := ⟨_, Try.underlying87, rfl, by kernel_rfl⟩
theorem zero87 : (Try.prog.info? 87).map (·.zero) = some (some (.agg (#[.int .i64 0, .int .i64 0, .slice none 0 0]))) := by kernel_rfl
theorem row88 : RowTy Try.prog 88 3 := ⟨_, Try.underlying88, rfl, by kernel_rfl⟩
theorem zero88 : (Try.prog.info? 88).map (·.zero) = some (some (.agg (#[.int .i64 0, .int .i64 0, .slice none 0 0]))) := by kernel_rfl
theorem one89 : OneTy Try.prog 89 := ⟨_, Try.underlying89, rfl, by kernel_rfl⟩
theorem zero89 : (Try.prog.info? 89).map (·.zero) = some (some (.nilFunc)) := by kernel_rfl
theorem one90 : OneTy Try.prog 90 := ⟨_, Try.underlying90, rfl, by kernel_rfl⟩
theorem zero90 : (Try.prog.info? 90).map (·.zero) = some (some (.nilFunc)) := by kernel_rfl
theorem one91 : OneTy Try.prog 91 := ⟨_, Try.underlying91, rfl, by kernel_rfl⟩
theorem one92 : OneTy Try.prog 92 := ⟨_, Try.underlying92, rfl, by kernel_rfl⟩
theorem zero92 : (Try.prog.info? 92).map (·.zero) = some (some (.nilFunc)) := by kernel_rfl
theorem one93 : OneTy Try.prog 93 := ⟨_, Try.underlying93, rfl, by kernel_rfl⟩
theorem zero93 : (Try.prog.info? 93).map (·.zero) = some (some (.nilFunc)) := by kernel_rfl
theorem one94 : OneTy Try.prog 94 := ⟨_, Try.underlying94, rfl, by kernel_rfl⟩
theorem zero94 : (Try.prog.info? 94).map (·.zero) = some (some (.nilFunc)) := by kernel_rfl
theorem one95 : OneTy Try.prog 95 := ⟨_, Try.underlying95, rfl, by kernel_rfl⟩
theorem zero95 : (Try.prog.info? 95).map (·.zero) = some (some (.nilFunc)) := by kernel_rfl
theorem one96 : OneTy Try.prog 96 := ⟨_, Try.underlying96, rfl, by kernel_rfl⟩
theorem zero96 : (Try.prog.info? 96).map (·.zero) = some (some (.nilFunc)) := by kernel_rfl
theorem one97 : OneTy Try.prog 97 := ⟨_, Try.underlying97, rfl, by kernel_rfl⟩
theorem zero97 : (Try.prog.info? 97).map (·.zero) = some (some (.nilFunc)) := by kernel_rfl
theorem one98 : OneTy Try.prog 98 := ⟨_, Try.underlying98, rfl, by kernel_rfl⟩
theorem one99 : OneTy Try.prog 99 := ⟨_, Try.underlying99, rfl, by kernel_rfl⟩
theorem zero99 : (Try.prog.info? 99).map (·.zero) = some (some (.nilFunc)) := by kernel_rfl
theorem one100 : OneTy Try.prog 100 := ⟨_, Try.underlying100, rfl, by kernel_rfl⟩
theorem zero100 : (Try.prog.info? 100).map (·.zero) = some (some (.int .u64 0)) := by kernel_rfl
theorem num100 : (Try.prog.info? 100).map (fun i => (i.zero, i.size, i.bytes)) = some (some (.int .u64 0), 1, 8) := by kernel_rfl
theorem one101 : OneTy Try.prog 101 := ⟨_, Try.underlying101, rfl, by kernel_rfl⟩
theorem zero101 : (Try.prog.info? 101).map (·.zero) = some (some (.nilFunc)) := by kernel_rfl
theorem one102 : OneTy Try.prog 102 := ⟨_, Try.underlying102, rfl, by kernel_rfl⟩
theorem zero102 : (Try.prog.info? 102).map (·.zero) = some (some (.slice none 0 0)) := by kernel_rfl
theorem one103 : OneTy Try.prog 103 := ⟨_, Try.underlying103, rfl, by kernel_rfl⟩
theorem zero103 : (Try.prog.info? 103).map (·.zero) = some (some (.nilFunc)) := by kernel_rfl
theorem one104 : OneTy Try.prog 104 := ⟨_, Try.underlying104, rfl, by kernel_rfl⟩
theorem zero104 : (Try.prog.info? 104).map (·.zero) = some (some (.nilFunc)) := by kernel_rfl
theorem one105 : OneTy Try.prog 105 := ⟨_, Try.underlying105, rfl, by kernel_rfl⟩
theorem zero105 : (Try.prog.info? 105).map (·.zero) = some (some (.nilFunc)) := by kernel_rfl
theorem one106 : OneTy Try.prog 106 := ⟨_, Try.underlying106, rfl, by kernel_rfl⟩
theorem zero106 : (Try.prog.info? 106).map (·.zero) = some (some (.slice none 0 0)) := by kernel_rfl
theorem row107 : RowTy Try.prog 107 1 := ⟨_, Try.underlying107, rfl, by kernel_rfl⟩
theorem zero107 : (Try.prog.info? 107).map (·.zero) = some (some (.agg (#[.slice none 0 0]))) := by kernel_rfl
theorem row108 : RowTy Try.prog 108 1 := ⟨_, Try.underlying108, rfl, by kernel_rfl⟩
theorem zero108 : (Try.prog.info? 108).map (·.zero) = some (some (.agg (#[.slice none 0 0]))) := by kernel_rfl
theorem one109 : OneTy Try.prog 109 := ⟨_, Try.underlying109, rfl, by kernel_rfl⟩
theorem zero109 : (Try.prog.info? 109).map (·.zero) = some (some (.nilFunc)) := by kernel_rfl
theorem one110 : OneTy Try.prog 110 := ⟨_, Try.underlying110, rfl, by kernel_rfl⟩
theorem zero110 : (Try.prog.info? 110).map (·.zero) = some (some (.nilFunc)) := by kernel_rfl
theorem one111 : OneTy Try.prog 111 := ⟨_, Try.underlying111, rfl, by kernel_rfl⟩
theorem zero111 : (Try.prog.info? 111).map (·.zero) = some (some (.nilFunc)) := by kernel_rfl
theorem one112 : OneTy Try.prog 112 := ⟨_, Try.underlying112, rfl, by kernel_rfl⟩
theorem one113 : OneTy Try.prog 113 := ⟨_, Try.underlying113, rfl, by kernel_rfl⟩
theorem zero113 : (Try.prog.info? 113).map (·.zero) = some (some (.nilFunc)) := by kernel_rfl
theorem one114 : OneTy Try.prog 114 := ⟨_, Try.underlying114, rfl, by kernel_rfl⟩
theorem zero114 : (Try.prog.info? 114).map (·.zero) = some (some (.nilFunc)) := by kernel_rfl
theorem one115 : OneTy Try.prog 115 := ⟨_, Try.underlying115, rfl, by kernel_rfl⟩
theorem zero115 : (Try.prog.info? 115).map (·.zero) = some (some (.nilFunc)) := by kernel_rfl
theorem one116 : OneTy Try.prog 116 := ⟨_, Try.underlying116, rfl, by kernel_rfl⟩
theorem zero116 : (Try.prog.info? 116).map (·.zero) = some (some (.nilFunc)) := by kernel_rfl
theorem one117 : OneTy Try.prog 117 := ⟨_, Try.underlying117, rfl, by kernel_rfl⟩
theorem zero117 : (Try.prog.info? 117).map (·.zero) = some (some (.nilFunc)) := by kernel_rfl
theorem one118 : OneTy Try.prog 118 := ⟨_, Try.underlying118, rfl, by kernel_rfl⟩
theorem zero118 : (Try.prog.info? 118).map (·.zero) = some (some (.nilFunc)) := by kernel_rfl
theorem one119 : OneTy Try.prog 119 := ⟨_, Try.underlying119, rfl, by kernel_rfl⟩
theorem zero119 : (Try.prog.info? 119).map (·.zero) = some (some (.nilFunc)) := by kernel_rfl
theorem one120 : OneTy Try.prog 120 := ⟨_, Try.underlying120, rfl, by kernel_rfl⟩
theorem zero120 : (Try.prog.info? 120).map (·.zero) = some (some (.nilFunc)) := by kernel_rfl
theorem one121 : OneTy Try.prog 121 := ⟨_, Try.underlying121, rfl, by kernel_rfl⟩
theorem zero121 : (Try.prog.info? 121).map (·.zero) = some (some (.nilFunc)) := by kernel_rfl
theorem one122 : OneTy Try.prog 122 := ⟨_, Try.underlying122, rfl, by kernel_rfl⟩
theorem zero122 : (Try.prog.info? 122).map (·.zero) = some (some (.nilFunc)) := by kernel_rfl
theorem one123 : OneTy Try.prog 123 := ⟨_, Try.underlying123, rfl, by kernel_rfl⟩
theorem zero123 : (Try.prog.info? 123).map (·.zero) = some (some (.nilFunc)) := by kernel_rfl
theorem one124 : OneTy Try.prog 124 := ⟨_, Try.underlying124, rfl, by kernel_rfl⟩
theorem zero124 : (Try.prog.info? 124).map (·.zero) = some (some (.nilFunc)) := by kernel_rfl
theorem one125 : OneTy Try.prog 125 := ⟨_, Try.underlying125, rfl, by kernel_rfl⟩
theorem zero125 : (Try.prog.info? 125).map (·.zero) = some (some (.nilFunc)) := by kernel_rfl
theorem one126 : OneTy Try.prog 126 := ⟨_, Try.underlying126, rfl, by kernel_rfl⟩
theorem zero126 : (Try.prog.info? 126).map (·.zero) = some (some (.nilFunc)) := by kernel_rfl
theorem one127 : OneTy Try.prog 127 := ⟨_, Try.underlying127, rfl, by kernel_rfl⟩
theorem zero127 : (Try.prog.info? 127).map (·.zero) = some (some (.nilFunc)) := by kernel_rfl
theorem one128 : OneTy Try.prog 128 := ⟨_, Try.underlying128, rfl, by kernel_rfl⟩
theorem zero128 : (Try.prog.info? 128).map (·.zero) = some (some (.nilFunc)) := by kernel_rfl
theorem one129 : OneTy Try.prog 129 := ⟨_, Try.underlying129, rfl, by kernel_rfl⟩
theorem zero129 : (Try.prog.info? 129).map (·.zero) = some (some (.nilFunc)) := by kernel_rfl
theorem one130 : OneTy Try.prog 130 := ⟨_, Try.underlying130, rfl, by kernel_rfl⟩
theorem one131 : OneTy Try.prog 131 := ⟨_, Try.underlying131, rfl, by kernel_rfl⟩
theorem zero131 : (Try.prog.info? 131).map (·.zero) = some (some (.nilFunc)) := by kernel_rfl
theorem one132 : OneTy Try.prog 132 := ⟨_, Try.underlying132, rfl, by kernel_rfl⟩
theorem zero132 : (Try.prog.info? 132).map (·.zero) = some (some (.nilFunc)) := by kernel_rfl
theorem one133 : OneTy Try.prog 133 := ⟨_, Try.underlying133, rfl, by kernel_rfl⟩
theorem zero133 : (Try.prog.info? 133).map (·.zero) = some (some (.nilFunc)) := by kernel_rfl
theorem one134 : OneTy Try.prog 134 := ⟨_, Try.underlying134, rfl, by kernel_rfl⟩
theorem zero134 : (Try.prog.info? 134).map (·.zero) = some (some (.nilFunc)) := by kernel_rfl
theorem one135 : OneTy Try.prog 135 := ⟨_, Try.underlying135, rfl, by kernel_rfl⟩
theorem zero135 : (Try.prog.info? 135).map (·.zero) = some (some (.nilFunc)) := by kernel_rfl
theorem one136 : OneTy Try.prog 136 := ⟨_, Try.underlying136, rfl, by kernel_rfl⟩
theorem zero136 : (Try.prog.info? 136).map (·.zero) = some (some (.nilFunc)) := by kernel_rfl
theorem one137 : OneTy Try.prog 137 := ⟨_, Try.underlying137, rfl, by kernel_rfl⟩
theorem zero137 : (Try.prog.info? 137).map (·.zero) = some (some (.nilFunc)) := by kernel_rfl
theorem one138 : OneTy Try.prog 138 := ⟨_, Try.underlying138, rfl, by kernel_rfl⟩
theorem zero138 : (Try.prog.info? 138).map (·.zero) = some (some (.nilFunc)) := by kernel_rfl
theorem one139 : OneTy Try.prog 139 := ⟨_, Try.underlying139, rfl, by kernel_rfl⟩
theorem zero139 : (Try.prog.info? 139).map (·.zero) = some (some (.nilFunc)) := by kernel_rfl
theorem one140 : OneTy Try.prog 140 := ⟨_, Try.underlying140, rfl, by kernel_rfl⟩
theorem zero140 : (Try.prog.info? 140).map (·.zero) = some (some (.nilFunc)) := by kernel_rfl
theorem one141 : OneTy Try.prog 141 := ⟨_, Try.underlying141, rfl, by kernel_rfl⟩
theorem zero141 : (Try.prog.info? 141).map (·.zero) = some (some (.nilFunc)) := by kernel_rfl
theorem one142 : OneTy Try.prog 142 := ⟨_, Try.underlying142, rfl, by kernel_rfl⟩
theorem zero142 : (Try.prog.info? 142).map (·.zero) = some (some (.nilFunc)) := by kernel_rfl
theorem one143 : OneTy Try.prog 143 := ⟨_, Try.underlying143, rfl, by kernel_rfl⟩
theorem zero143 : (Try.prog.info? 143).map (·.zero) = some (some (.nilFunc)) := by kernel_rfl
theorem one144 : OneTy Try.prog 144 := ⟨_, Try.underlying144, rfl, by kernel_rfl⟩
theorem zero144 : (Try.prog.info? 144).map (·.zero) = some (some (.nilFunc)) := by kernel_rfl
theorem one145 : OneTy Try.prog 145 := ⟨_, Try.underlying145, rfl, by kernel_rfl⟩
theorem zero145 : (Try.prog.info? 145).map (·.zero) = some (some (.nilFunc)) := by kernel_rfl
theorem one146 : OneTy Try.prog 146 := ⟨_, Try.underlying146, rfl, by kernel_rfl⟩
theorem zero146 : (Try.prog.info? 146).map (·.zero) = some (some (.nilFunc)) := by kernel_rfl
theorem one147 : OneTy Try.prog 147 := ⟨_, Try.underlying147, rfl, by kernel_rfl⟩
theorem zero147 : (Try.prog.info? 147).map (·.zero) = some (some (.nilFunc)) := by kernel_rfl
theorem one148 : OneTy Try.prog 148 := ⟨_, Try.underlying148, rfl, by kernel_rfl⟩
theorem zero148 : (Try.prog.info? 148).map (·.zero) = some (some (.nilFunc)) := by kernel_rfl
theorem one149 : OneTy Try.prog 149 := ⟨_, Try.underlying149, rfl, by kernel_rfl⟩
theorem zero149 : (Try.prog.info? 149).map (·.zero) = some (some (.nilFunc)) := by kernel_rfl
theorem one150 : OneTy Try.prog 150 := ⟨_, Try.underlying150, rfl, by kernel_rfl⟩
theorem zero150 : (Try.prog.info? 150).map (·.zero) = some (some (.nilFunc)) := by kernel_rfl
theorem one151 : OneTy Try.prog 151 := ⟨_, Try.underlying151, rfl, by kernel_rfl⟩
theorem one152 : OneTy Try.prog 152 := ⟨_, Try.underlying152, rfl, by kernel_rfl⟩
theorem zero152 : (Try.prog.info? 152).map (·.zero) = some (some (.nilFunc)) := by kernel_rfl
theorem one153 : OneTy Try.prog 153 := ⟨_, Try.underlying153, rfl, by kernel_rfl⟩
theorem zero153 : (Try.prog.info? 153).map (·.zero) = some (some (.nilFunc)) := by kernel_rfl
theorem one154 : OneTy Try.prog 154 := ⟨_, Try.underlying154, rfl, by kernel_rfl⟩
theorem one155 : OneTy Try.prog 155 := ⟨_, Try.underlying155, rfl, by kernel_rfl⟩
theorem zero155 : (Try.prog.info? 155).map (·.zero) = some (some (.nilFunc)) := by kernel_rfl
theorem one156 : OneTy Try.prog 156 := ⟨_, Try.underlying156, rfl, by kernel_rfl⟩
theorem zero156 : (Try.prog.info? 156).map (·.zero) = some (some (.nilFunc)) := by kernel_rfl
theorem one157 : OneTy Try.prog 157 := ⟨_, Try.underlying157, rfl, by kernel_rfl⟩
theorem zero157 : (Try.prog.info? 157).map (·.zero) = some (some (.nilFunc)) := by kernel_rfl
theorem one158 : OneTy Try.prog 158 := ⟨_, Try.underlying158, rfl, by kernel_rfl⟩
theorem zero158 : (Try.prog.info? 158).map (·.zero) = some (some (.nilFunc)) := by kernel_rfl
theorem one159 : OneTy Try.prog 159 := ⟨_, Try.underlying159, rfl, by kernel_rfl⟩
theorem zero159 : (Try.prog.info? 159).map (·.zero) = some (some (.nilFunc)) := by kernel_rfl
theorem one160 : OneTy Try.prog 160 := ⟨_, Try.underlying160, rfl, by kernel_rfl⟩
theorem zero160 : (Try.prog.info? 160).map (·.zero) = some (some (.nilFunc)) := by kernel_rfl
theorem one161 : OneTy Try.prog 161 := ⟨_, Try.underlying161, rfl, by kernel_rfl⟩
theorem zero161 : (Try.prog.info? 161).map (·.zero) = some (some (.nilFunc)) := by kernel_rfl
theorem one162 : OneTy Try.prog 162 := ⟨_, Try.underlying162, rfl, by kernel_rfl⟩
theorem zero162 : (Try.prog.info? 162).map (·.zero) = some (some (.nilFunc)) := by kernel_rfl
theorem one163 : OneTy Try.prog 163 := ⟨_, Try.underlying163, rfl, by kernel_rfl⟩
theorem one164 : OneTy Try.prog 164 := ⟨_, Try.underlying164, rfl, by kernel_rfl⟩
theorem zero164 : (Try.prog.info? 164).map (·.zero) = some (some (.nilFunc)) := by kernel_rfl
theorem one165 : OneTy Try.prog 165 := ⟨_, Try.underlying165, rfl, by kernel_rfl⟩
theorem zero165 : (Try.prog.info? 165).map (·.zero) = some (some (.nilFunc)) := by kernel_rfl
theorem one166 : OneTy Try.prog 166 := ⟨_, Try.underlying166, rfl, by kernel_rfl⟩
theorem zero166 : (Try.prog.info? 166).map (·.zero) = some (some (.nilIface)) := by kernel_rfl
theorem one167 : OneTy Try.prog 167 := ⟨_, Try.underlying167, rfl, by kernel_rfl⟩
theorem zero167 : (Try.prog.info? 167).map (·.zero) = some (some (.nilIface)) := by kernel_rfl
theorem one168 : OneTy Try.prog 168 := ⟨_, Try.underlying168, rfl, by kernel_rfl⟩
theorem zero168 : (Try.prog.info? 168).map (·.zero) = some (some (.nilFunc)) := by kernel_rfl
theorem one169 : OneTy Try.prog 169 := ⟨_, Try.underlying169, rfl, by kernel_rfl⟩
theorem zero169 : (Try.prog.info? 169).map (·.zero) = some (some (.nilFunc)) := by kernel_rfl
theorem one170 : OneTy Try.prog 170 := ⟨_, Try.underlying170, rfl, by kernel_rfl⟩
theorem zero170 : (Try.prog.info? 170).map (·.zero) = some (some (.nilFunc)) := by kernel_rfl
theorem row171 : RowTy Try.prog 171 4 := ⟨_, Try.underlying171, rfl, by kernel_rfl⟩
theorem zero171 : (Try.prog.info? 171).map (·.zero) = some (some (.agg (#[.pointer none, .pointer none, .pointer none, .string ByteArray.empty]))) := by kernel_rfl
theorem row172 : RowTy Try.prog 172 4 := ⟨_, Try.underlying172, rfl, by kernel_rfl⟩
theorem zero172 : (Try.prog.info? 172).map (·.zero) = some (some (.agg (#[.pointer none, .pointer none, .pointer none, .string ByteArray.empty]))) := by kernel_rfl
theorem row173 : RowTy Try.prog 173 0 := ⟨_, Try.underlying173, rfl, by kernel_rfl⟩
theorem zero173 : (Try.prog.info? 173).map (·.zero) = some (some (.agg (#[]))) := by kernel_rfl
theorem row174 : RowTy Try.prog 174 0 := ⟨_, Try.underlying174, rfl, by kernel_rfl⟩
theorem zero174 : (Try.prog.info? 174).map (·.zero) = some (some (.agg (#[]))) := by kernel_rfl
theorem row175 : RowTy Try.prog 175 0 := ⟨_, Try.underlying175, rfl, by kernel_rfl⟩
theorem zero175 : (Try.prog.info? 175).map (·.zero) = some (some (.agg (#[]))) := by kernel_rfl
theorem one176 : OneTy Try.prog 176 := ⟨_, Try.underlying176, rfl, by kernel_rfl⟩
theorem zero176 : (Try.prog.info? 176).map (·.zero) = some (some (.int .u8 0)) := by kernel_rfl
theorem num176 : (Try.prog.info? 176).map (fun i => (i.zero, i.size, i.bytes)) = some (some (.int .u8 0), 1, 1) := by kernel_rfl
theorem one177 : OneTy Try.prog 177 := ⟨_, Try.underlying177, rfl, by kernel_rfl⟩
theorem zero177 : (Try.prog.info? 177).map (·.zero) = some (some (.int .u8 0)) := by kernel_rfl
theorem num177 : (Try.prog.info? 177).map (fun i => (i.zero, i.size, i.bytes)) = some (some (.int .u8 0), 1, 1) := by kernel_rfl
theorem one178 : OneTy Try.prog 178 := ⟨_, Try.underlying178, rfl, by kernel_rfl⟩
theorem zero178 : (Try.prog.info? 178).map (·.zero) = some (some (.nilFunc)) := by kernel_rfl
theorem one179 : OneTy Try.prog 179 := ⟨_, Try.underlying179, rfl, by kernel_rfl⟩
theorem zero179 : (Try.prog.info? 179).map (·.zero) = some (some (.pointer none)) := by kernel_rfl
theorem one180 : OneTy Try.prog 180 := ⟨_, Try.underlying180, rfl, by kernel_rfl⟩
theorem zero180 : (Try.prog.info? 180).map (·.zero) = some (some (.int .i32 0)) := by kernel_rfl
theorem num180 : (Try.prog.info? 180).map (fun i => (i.zero, i.size, i.bytes)) = some (some (.int .i32 0), 1, 4) := by kernel_rfl
theorem one181 : OneTy Try.prog 181 := ⟨_, Try.underlying181, rfl, by kernel_rfl⟩
theorem zero181 : (Try.prog.info? 181).map (·.zero) = some (some (.int .i32 0)) := by kernel_rfl
theorem num181 : (Try.prog.info? 181).map (fun i => (i.zero, i.size, i.bytes)) = some (some (.int .i32 0), 1, 4) := by kernel_rfl
theorem row182 : RowTy Try.prog 182 11 := ⟨_, Try.underlying182, rfl, by kernel_rfl⟩
theorem zero182 : (Try.prog.info? 182).map (·.zero) = some (some (.agg (#[.int .u64 0, .int .u64 0, .int .u32 0, .int .u8 0, .int .u8 0, .int .u8 0, .int .u8 0, .nilFunc, .pointer none, .int .i32 0, .int .i32 0]))) := by kernel_rfl
theorem row183 : RowTy Try.prog 183 11 := ⟨_, Try.underlying183, rfl, by kernel_rfl⟩
theorem zero183 : (Try.prog.info? 183).map (·.zero) = some (some (.agg (#[.int .u64 0, .int .u64 0, .int .u32 0, .int .u8 0, .int .u8 0, .int .u8 0, .int .u8 0, .nilFunc, .pointer none, .int .i32 0, .int .i32 0]))) := by kernel_rfl
theorem one184 : OneTy Try.prog 184 := ⟨_, Try.underlying184, rfl, by kernel_rfl⟩
theorem zero184 : (Try.prog.info? 184).map (·.zero) = some (some (.pointer none)) := by kernel_rfl
end Go.Proofs.Yteancdipmpmjpaa
