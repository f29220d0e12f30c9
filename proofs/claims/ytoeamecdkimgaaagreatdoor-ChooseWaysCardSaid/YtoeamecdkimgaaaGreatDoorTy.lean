import Derived.Test.YtoeamecdkimgaaaGreatDoorShOpen
import Derived.Test.YtoeamecdkimgaaaGreatDoorProg
set_option linter.unusedVariables false
namespace Go.Proofs.YtoeamecdkimgaaaGreatDoor
open Go.Sh
theorem fu1 : isFuncT Tryz.prog 1 = true := by kernel_rfl
theorem one1 : oneT Tryz.prog 1 = true := by kernel_rfl
theorem ze1 : zeroT Tryz.prog 1 = some .nilFunc := by kernel_rfl
theorem it2 : intT Tryz.prog 2 = some .i64 := by kernel_rfl
theorem one2 : oneT Tryz.prog 2 = true := by kernel_rfl
theorem ze2 : zeroT Tryz.prog 2 = some (.int .i64 0) := by kernel_rfl
theorem it3 : intT Tryz.prog 3 = some .i64 := by kernel_rfl
theorem one3 : oneT Tryz.prog 3 = true := by kernel_rfl
theorem ze3 : zeroT Tryz.prog 3 = some (.int .i64 0) := by kernel_rfl
theorem bo4 : isBoolT Tryz.prog 4 = true := by kernel_rfl
theorem one4 : oneT Tryz.prog 4 = true := by kernel_rfl
theorem ze4 : zeroT Tryz.prog 4 = some (.bool false) := by kernel_rfl
theorem it5 : intT Tryz.prog 5 = some .u8 := by kernel_rfl
theorem one5 : oneT Tryz.prog 5 = true := by kernel_rfl
theorem ze5 : zeroT Tryz.prog 5 = some (.int .u8 0) := by kernel_rfl
theorem it6 : intT Tryz.prog 6 = some .u8 := by kernel_rfl
theorem one6 : oneT Tryz.prog 6 = true := by kernel_rfl
theorem ze6 : zeroT Tryz.prog 6 = some (.int .u8 0) := by kernel_rfl
theorem ag7 : aggT Tryz.prog 7 4 = true := by kernel_rfl
theorem ze7 : zeroT Tryz.prog 7 = some (.agg #[(.int .i64 0), (.int .i64 0), (.bool false), (.int .u8 0)]) := by kernel_rfl
theorem of7_0 : offT Tryz.prog 7 0 = some 0 := by kernel_rfl
theorem of7_1 : offT Tryz.prog 7 1 = some 1 := by kernel_rfl
theorem of7_2 : offT Tryz.prog 7 2 = some 2 := by kernel_rfl
theorem of7_3 : offT Tryz.prog 7 3 = some 3 := by kernel_rfl
theorem ag8 : aggT Tryz.prog 8 4 = true := by kernel_rfl
theorem ze8 : zeroT Tryz.prog 8 = some (.agg #[(.int .i64 0), (.int .i64 0), (.bool false), (.int .u8 0)]) := by kernel_rfl
theorem of8_0 : offT Tryz.prog 8 0 = some 0 := by kernel_rfl
theorem of8_1 : offT Tryz.prog 8 1 = some 1 := by kernel_rfl
theorem of8_2 : offT Tryz.prog 8 2 = some 2 := by kernel_rfl
theorem of8_3 : offT Tryz.prog 8 3 = some 3 := by kernel_rfl
theorem st9 : isStrT Tryz.prog 9 = true := by kernel_rfl
theorem one9 : oneT Tryz.prog 9 = true := by kernel_rfl
theorem ze9 : zeroT Tryz.prog 9 = some (.string ByteArray.empty) := by kernel_rfl
theorem st10 : isStrT Tryz.prog 10 = true := by kernel_rfl
theorem one10 : oneT Tryz.prog 10 = true := by kernel_rfl
theorem ze10 : zeroT Tryz.prog 10 = some (.string ByteArray.empty) := by kernel_rfl
theorem st11 : isStrT Tryz.prog 11 = true := by kernel_rfl
theorem one11 : oneT Tryz.prog 11 = true := by kernel_rfl
theorem ze11 : zeroT Tryz.prog 11 = some (.string ByteArray.empty) := by kernel_rfl
theorem it12 : intT Tryz.prog 12 = some .u64 := by kernel_rfl
theorem one12 : oneT Tryz.prog 12 = true := by kernel_rfl
theorem ze12 : zeroT Tryz.prog 12 = some (.int .u64 0) := by kernel_rfl
theorem ag13 : aggT Tryz.prog 13 2 = true := by kernel_rfl
theorem ze13 : zeroT Tryz.prog 13 = some (.agg #[(.string ByteArray.empty), (.int .u64 0)]) := by kernel_rfl
theorem of13_0 : offT Tryz.prog 13 0 = some 0 := by kernel_rfl
theorem of13_1 : offT Tryz.prog 13 1 = some 1 := by kernel_rfl
theorem ag14 : aggT Tryz.prog 14 2 = true := by kernel_rfl
theorem ze14 : zeroT Tryz.prog 14 = some (.agg #[(.string ByteArray.empty), (.int .u64 0)]) := by kernel_rfl
theorem of14_0 : offT Tryz.prog 14 0 = some 0 := by kernel_rfl
theorem of14_1 : offT Tryz.prog 14 1 = some 1 := by kernel_rfl
theorem pt15 : isPtrT Tryz.prog 15 = true := by kernel_rfl
theorem one15 : oneT Tryz.prog 15 = true := by kernel_rfl
theorem ze15 : zeroT Tryz.prog 15 = some (.pointer none) := by kernel_rfl
theorem pt16 : isPtrT Tryz.prog 16 = true := by kernel_rfl
theorem one16 : oneT Tryz.prog 16 = true := by kernel_rfl
theorem ze16 : zeroT Tryz.prog 16 = some (.pointer none) := by kernel_rfl
theorem pt17 : isPtrT Tryz.prog 17 = true := by kernel_rfl
theorem one17 : oneT Tryz.prog 17 = true := by kernel_rfl
theorem ze17 : zeroT Tryz.prog 17 = some (.pointer none) := by kernel_rfl
theorem ag18 : aggT Tryz.prog 18 1 = true := by kernel_rfl
theorem ze18 : zeroT Tryz.prog 18 = some (.agg #[(.pointer none)]) := by kernel_rfl
theorem of18_0 : offT Tryz.prog 18 0 = some 0 := by kernel_rfl
theorem ag19 : aggT Tryz.prog 19 1 = true := by kernel_rfl
theorem ze19 : zeroT Tryz.prog 19 = some (.agg #[(.pointer none)]) := by kernel_rfl
theorem of19_0 : offT Tryz.prog 19 0 = some 0 := by kernel_rfl
theorem one20 : oneT Tryz.prog 20 = true := by kernel_rfl
theorem ze20 : zeroT Tryz.prog 20 = some .nilIface := by kernel_rfl
theorem it21 : intT Tryz.prog 21 = some .i32 := by kernel_rfl
theorem one21 : oneT Tryz.prog 21 = true := by kernel_rfl
theorem ze21 : zeroT Tryz.prog 21 = some (.int .i32 0) := by kernel_rfl
theorem it22 : intT Tryz.prog 22 = some .u32 := by kernel_rfl
theorem one22 : oneT Tryz.prog 22 = true := by kernel_rfl
theorem ze22 : zeroT Tryz.prog 22 = some (.int .u32 0) := by kernel_rfl
theorem ag23 : aggT Tryz.prog 23 2 = true := by kernel_rfl
theorem ze23 : zeroT Tryz.prog 23 = some (.agg #[(.int .u32 0), (.int .u32 0)]) := by kernel_rfl
theorem of23_0 : offT Tryz.prog 23 0 = some 0 := by kernel_rfl
theorem of23_1 : offT Tryz.prog 23 1 = some 1 := by kernel_rfl
theorem ag24 : aggT Tryz.prog 24 2 = true := by kernel_rfl
theorem ze24 : zeroT Tryz.prog 24 = some (.agg #[(.int .u32 0), (.int .u32 0)]) := by kernel_rfl
theorem of24_0 : offT Tryz.prog 24 0 = some 0 := by kernel_rfl
theorem of24_1 : offT Tryz.prog 24 1 = some 1 := by kernel_rfl
theorem sl25 : isSliceT Tryz.prog 25 = true := by kernel_rfl
theorem one25 : oneT Tryz.prog 25 = true := by kernel_rfl
theorem el25 : El Tryz.prog 25 49 16 168 (.agg #[(.int .u32 0), (.int .u32 0), (.int .i8 0), (.int .u32 0), (.int .i64 0), (.int .i8 0), (.string ByteArray.empty), (.slice none 0 0), (.slice none 0 0), (.int .i32 0), (.bool false), (.bool false), (.int .i64 0), (.int .i32 0), (.slice none 0 0), (.slice none 0 0)]) := ⟨Tryz.underlying25, by kernel_rfl, by kernel_rfl, by decide⟩
theorem ze25 : zeroT Tryz.prog 25 = some (.slice none 0 0) := by kernel_rfl
theorem one26 : oneT Tryz.prog 26 = true := by kernel_rfl
theorem ze26 : zeroT Tryz.prog 26 = some (.float .f64 0) := by kernel_rfl
theorem ag27 : aggT Tryz.prog 27 8 = true := by kernel_rfl
theorem ze27 : zeroT Tryz.prog 27 = some (.agg #[(.int .u32 0), (.int .u32 0), (.int .u32 0), (.int .u32 0), (.slice none 0 0), (.int .i64 0), (.int .i64 0), (.float .f64 0)]) := by kernel_rfl
theorem of27_0 : offT Tryz.prog 27 0 = some 0 := by kernel_rfl
theorem of27_1 : offT Tryz.prog 27 1 = some 2 := by kernel_rfl
theorem of27_2 : offT Tryz.prog 27 2 = some 4 := by kernel_rfl
theorem of27_3 : offT Tryz.prog 27 3 = some 5 := by kernel_rfl
theorem of27_4 : offT Tryz.prog 27 4 = some 6 := by kernel_rfl
theorem of27_5 : offT Tryz.prog 27 5 = some 7 := by kernel_rfl
theorem ag28 : aggT Tryz.prog 28 8 = true := by kernel_rfl
theorem ze28 : zeroT Tryz.prog 28 = some (.agg #[(.int .u32 0), (.int .u32 0), (.int .u32 0), (.int .u32 0), (.slice none 0 0), (.int .i64 0), (.int .i64 0), (.float .f64 0)]) := by kernel_rfl
theorem of28_0 : offT Tryz.prog 28 0 = some 0 := by kernel_rfl
theorem of28_1 : offT Tryz.prog 28 1 = some 2 := by kernel_rfl
theorem of28_2 : offT Tryz.prog 28 2 = some 4 := by kernel_rfl
theorem of28_3 : offT Tryz.prog 28 3 = some 5 := by kernel_rfl
theorem of28_4 : offT Tryz.prog 28 4 = some 6 := by kernel_rfl
theorem of28_5 : offT Tryz.prog 28 5 = some 7 := by kernel_rfl
theorem fu29 : isFuncT Tryz.prog 29 = true := by kernel_rfl
theorem one29 : oneT Tryz.prog 29 = true := by kernel_rfl
theorem ze29 : zeroT Tryz.prog 29 = some .nilFunc := by kernel_rfl
theorem fu30 : isFuncT Tryz.prog 30 = true := by kernel_rfl
theorem one30 : oneT Tryz.prog 30 = true := by kernel_rfl
theorem ze30 : zeroT Tryz.prog 30 = some .nilFunc := by kernel_rfl
theorem fu31 : isFuncT Tryz.prog 31 = true := by kernel_rfl
theorem one31 : oneT Tryz.prog 31 = true := by kernel_rfl
theorem ze31 : zeroT Tryz.prog 31 = some .nilFunc := by kernel_rfl
theorem it32 : intT Tryz.prog 32 = some .i8 := by kernel_rfl
theorem one32 : oneT Tryz.prog 32 = true := by kernel_rfl
theorem ze32 : zeroT Tryz.prog 32 = some (.int .i8 0) := by kernel_rfl
theorem ag33 : aggT Tryz.prog 33 4 = true := by kernel_rfl
theorem ze33 : zeroT Tryz.prog 33 = some (.agg #[(.int .i8 0), (.int .u32 0), (.int .u32 0), (.bool false)]) := by kernel_rfl
theorem of33_0 : offT Tryz.prog 33 0 = some 0 := by kernel_rfl
theorem of33_1 : offT Tryz.prog 33 1 = some 1 := by kernel_rfl
theorem of33_2 : offT Tryz.prog 33 2 = some 3 := by kernel_rfl
theorem ag34 : aggT Tryz.prog 34 4 = true := by kernel_rfl
theorem ze34 : zeroT Tryz.prog 34 = some (.agg #[(.int .i8 0), (.int .u32 0), (.int .u32 0), (.bool false)]) := by kernel_rfl
theorem of34_0 : offT Tryz.prog 34 0 = some 0 := by kernel_rfl
theorem of34_1 : offT Tryz.prog 34 1 = some 1 := by kernel_rfl
theorem of34_2 : offT Tryz.prog 34 2 = some 3 := by kernel_rfl
theorem it35 : intT Tryz.prog 35 = some .i64 := by kernel_rfl
theorem one35 : oneT Tryz.prog 35 = true := by kernel_rfl
theorem ze35 : zeroT Tryz.prog 35 = some (.int .i64 0) := by kernel_rfl
theorem fu37 : isFuncT Tryz.prog 37 = true := by kernel_rfl
theorem one37 : oneT Tryz.prog 37 = true := by kernel_rfl
theorem ze37 : zeroT Tryz.prog 37 = some .nilFunc := by kernel_rfl
theorem fu38 : isFuncT Tryz.prog 38 = true := by kernel_rfl
theorem one38 : oneT Tryz.prog 38 = true := by kernel_rfl
theorem ze38 : zeroT Tryz.prog 38 = some .nilFunc := by kernel_rfl
theorem fu39 : isFuncT Tryz.prog 39 = true := by kernel_rfl
theorem one39 : oneT Tryz.prog 39 = true := by kernel_rfl
theorem ze39 : zeroT Tryz.prog 39 = some .nilFunc := by kernel_rfl
theorem ag40 : aggT Tryz.prog 40 3 = true := by kernel_rfl
theorem ze40 : zeroT Tryz.prog 40 = some (.agg #[(.int .i8 0), (.int .u32 0), (.int .i64 0)]) := by kernel_rfl
theorem of40_0 : offT Tryz.prog 40 0 = some 0 := by kernel_rfl
theorem of40_1 : offT Tryz.prog 40 1 = some 1 := by kernel_rfl
theorem of40_2 : offT Tryz.prog 40 2 = some 2 := by kernel_rfl
theorem ag41 : aggT Tryz.prog 41 3 = true := by kernel_rfl
theorem ze41 : zeroT Tryz.prog 41 = some (.agg #[(.int .i8 0), (.int .u32 0), (.int .i64 0)]) := by kernel_rfl
theorem of41_0 : offT Tryz.prog 41 0 = some 0 := by kernel_rfl
theorem of41_1 : offT Tryz.prog 41 1 = some 1 := by kernel_rfl
theorem of41_2 : offT Tryz.prog 41 2 = some 2 := by kernel_rfl
theorem sl42 : isSliceT Tryz.prog 42 = true := by kernel_rfl
theorem one42 : oneT Tryz.prog 42 = true := by kernel_rfl
theorem el42 : El Tryz.prog 42 5 1 1 (.int .u8 0) := ⟨Tryz.underlying42, by kernel_rfl, by kernel_rfl, by decide⟩
theorem ze42 : zeroT Tryz.prog 42 = some (.slice none 0 0) := by kernel_rfl
theorem sl43 : isSliceT Tryz.prog 43 = true := by kernel_rfl
theorem one43 : oneT Tryz.prog 43 = true := by kernel_rfl
theorem el43 : El Tryz.prog 43 99 3 40 (.agg #[(.int .i8 0), (.string ByteArray.empty), (.string ByteArray.empty)]) := ⟨Tryz.underlying43, by kernel_rfl, by kernel_rfl, by decide⟩
theorem ze43 : zeroT Tryz.prog 43 = some (.slice none 0 0) := by kernel_rfl
theorem sl44 : isSliceT Tryz.prog 44 = true := by kernel_rfl
theorem one44 : oneT Tryz.prog 44 = true := by kernel_rfl
theorem el44 : El Tryz.prog 44 97 2 32 (.agg #[(.string ByteArray.empty), (.string ByteArray.empty)]) := ⟨Tryz.underlying44, by kernel_rfl, by kernel_rfl, by decide⟩
theorem ze44 : zeroT Tryz.prog 44 = some (.slice none 0 0) := by kernel_rfl
theorem sl45 : isSliceT Tryz.prog 45 = true := by kernel_rfl
theorem one45 : oneT Tryz.prog 45 = true := by kernel_rfl
theorem el45 : El Tryz.prog 45 47 11 144 (.agg #[(.int .i8 0), (.string ByteArray.empty), (.slice none 0 0), (.slice none 0 0), (.int .i32 0), (.bool false), (.bool false), (.int .i64 0), (.int .i32 0), (.slice none 0 0), (.slice none 0 0)]) := ⟨Tryz.underlying45, by kernel_rfl, by kernel_rfl, by decide⟩
theorem ze45 : zeroT Tryz.prog 45 = some (.slice none 0 0) := by kernel_rfl
theorem ag46 : aggT Tryz.prog 46 11 = true := by kernel_rfl
theorem ze46 : zeroT Tryz.prog 46 = some (.agg #[(.int .i8 0), (.string ByteArray.empty), (.slice none 0 0), (.slice none 0 0), (.int .i32 0), (.bool false), (.bool false), (.int .i64 0), (.int .i32 0), (.slice none 0 0), (.slice none 0 0)]) := by kernel_rfl
theorem of46_0 : offT Tryz.prog 46 0 = some 0 := by kernel_rfl
theorem of46_1 : offT Tryz.prog 46 1 = some 1 := by kernel_rfl
theorem of46_2 : offT Tryz.prog 46 2 = some 2 := by kernel_rfl
theorem of46_3 : offT Tryz.prog 46 3 = some 3 := by kernel_rfl
theorem of46_4 : offT Tryz.prog 46 4 = some 4 := by kernel_rfl
theorem of46_5 : offT Tryz.prog 46 5 = some 5 := by kernel_rfl
theorem of46_6 : offT Tryz.prog 46 6 = some 6 := by kernel_rfl
theorem of46_7 : offT Tryz.prog 46 7 = some 7 := by kernel_rfl
theorem of46_8 : offT Tryz.prog 46 8 = some 8 := by kernel_rfl
theorem of46_9 : offT Tryz.prog 46 9 = some 9 := by kernel_rfl
theorem of46_10 : offT Tryz.prog 46 10 = some 10 := by kernel_rfl
theorem ag47 : aggT Tryz.prog 47 11 = true := by kernel_rfl
theorem ze47 : zeroT Tryz.prog 47 = some (.agg #[(.int .i8 0), (.string ByteArray.empty), (.slice none 0 0), (.slice none 0 0), (.int .i32 0), (.bool false), (.bool false), (.int .i64 0), (.int .i32 0), (.slice none 0 0), (.slice none 0 0)]) := by kernel_rfl
theorem of47_0 : offT Tryz.prog 47 0 = some 0 := by kernel_rfl
theorem of47_1 : offT Tryz.prog 47 1 = some 1 := by kernel_rfl
theorem of47_2 : offT Tryz.prog 47 2 = some 2 := by kernel_rfl
theorem of47_3 : offT Tryz.prog 47 3 = some 3 := by kernel_rfl
theorem of47_4 : offT Tryz.prog 47 4 = some 4 := by kernel_rfl
theorem of47_5 : offT Tryz.prog 47 5 = some 5 := by kernel_rfl
theorem of47_6 : offT Tryz.prog 47 6 = some 6 := by kernel_rfl
theorem of47_7 : offT Tryz.prog 47 7 = some 7 := by kernel_rfl
theorem of47_8 : offT Tryz.prog 47 8 = some 8 := by kernel_rfl
theorem of47_9 : offT Tryz.prog 47 9 = some 9 := by kernel_rfl
theorem of47_10 : offT Tryz.prog 47 10 = some 10 := by kernel_rfl
theorem ag48 : aggT Tryz.prog 48 16 = true := by kernel_rfl
theorem ze48 : zeroT Tryz.prog 48 = some (.agg #[(.int .u32 0), (.int .u32 0), (.int .i8 0), (.int .u32 0), (.int .i64 0), (.int .i8 0), (.string ByteArray.empty), (.slice none 0 0), (.slice none 0 0), (.int .i32 0), (.bool false), (.bool false), (.int .i64 0), (.int .i32 0), (.slice none 0 0), (.slice none 0 0)]) := by kernel_rfl
theorem of48_0 : offT Tryz.prog 48 0 = some 0 := by kernel_rfl
theorem of48_1 : offT Tryz.prog 48 1 = some 2 := by kernel_rfl
theorem of48_2 : offT Tryz.prog 48 2 = some 5 := by kernel_rfl
theorem ag49 : aggT Tryz.prog 49 16 = true := by kernel_rfl
theorem ze49 : zeroT Tryz.prog 49 = some (.agg #[(.int .u32 0), (.int .u32 0), (.int .i8 0), (.int .u32 0), (.int .i64 0), (.int .i8 0), (.string ByteArray.empty), (.slice none 0 0), (.slice none 0 0), (.int .i32 0), (.bool false), (.bool false), (.int .i64 0), (.int .i32 0), (.slice none 0 0), (.slice none 0 0)]) := by kernel_rfl
theorem of49_0 : offT Tryz.prog 49 0 = some 0 := by kernel_rfl
theorem of49_1 : offT Tryz.prog 49 1 = some 2 := by kernel_rfl
theorem of49_2 : offT Tryz.prog 49 2 = some 5 := by kernel_rfl
theorem fu50 : isFuncT Tryz.prog 50 = true := by kernel_rfl
theorem one50 : oneT Tryz.prog 50 = true := by kernel_rfl
theorem ze50 : zeroT Tryz.prog 50 = some .nilFunc := by kernel_rfl
theorem fu51 : isFuncT Tryz.prog 51 = true := by kernel_rfl
theorem one51 : oneT Tryz.prog 51 = true := by kernel_rfl
theorem ze51 : zeroT Tryz.prog 51 = some .nilFunc := by kernel_rfl
theorem fu52 : isFuncT Tryz.prog 52 = true := by kernel_rfl
theorem one52 : oneT Tryz.prog 52 = true := by kernel_rfl
theorem ze52 : zeroT Tryz.prog 52 = some .nilFunc := by kernel_rfl
theorem fu53 : isFuncT Tryz.prog 53 = true := by kernel_rfl
theorem one53 : oneT Tryz.prog 53 = true := by kernel_rfl
theorem ze53 : zeroT Tryz.prog 53 = some .nilFunc := by kernel_rfl
theorem fu54 : isFuncT Tryz.prog 54 = true := by kernel_rfl
theorem one54 : oneT Tryz.prog 54 = true := by kernel_rfl
theorem ze54 : zeroT Tryz.prog 54 = some .nilFunc := by kernel_rfl
theorem fu55 : isFuncT Tryz.prog 55 = true := by kernel_rfl
theorem one55 : oneT Tryz.prog 55 = true := by kernel_rfl
theorem ze55 : zeroT Tryz.prog 55 = some .nilFunc := by kernel_rfl
theorem fu56 : isFuncT Tryz.prog 56 = true := by kernel_rfl
theorem one56 : oneT Tryz.prog 56 = true := by kernel_rfl
theorem ze56 : zeroT Tryz.prog 56 = some .nilFunc := by kernel_rfl
theorem fu57 : isFuncT Tryz.prog 57 = true := by kernel_rfl
theorem one57 : oneT Tryz.prog 57 = true := by kernel_rfl
theorem ze57 : zeroT Tryz.prog 57 = some .nilFunc := by kernel_rfl
theorem fu58 : isFuncT Tryz.prog 58 = true := by kernel_rfl
theorem one58 : oneT Tryz.prog 58 = true := by kernel_rfl
theorem ze58 : zeroT Tryz.prog 58 = some .nilFunc := by kernel_rfl
theorem fu59 : isFuncT Tryz.prog 59 = true := by kernel_rfl
theorem one59 : oneT Tryz.prog 59 = true := by kernel_rfl
theorem ze59 : zeroT Tryz.prog 59 = some .nilFunc := by kernel_rfl
theorem fu60 : isFuncT Tryz.prog 60 = true := by kernel_rfl
theorem one60 : oneT Tryz.prog 60 = true := by kernel_rfl
theorem ze60 : zeroT Tryz.prog 60 = some .nilFunc := by kernel_rfl
theorem fu61 : isFuncT Tryz.prog 61 = true := by kernel_rfl
theorem one61 : oneT Tryz.prog 61 = true := by kernel_rfl
theorem ze61 : zeroT Tryz.prog 61 = some .nilFunc := by kernel_rfl
theorem fu62 : isFuncT Tryz.prog 62 = true := by kernel_rfl
theorem one62 : oneT Tryz.prog 62 = true := by kernel_rfl
theorem ze62 : zeroT Tryz.prog 62 = some .nilFunc := by kernel_rfl
theorem fu64 : isFuncT Tryz.prog 64 = true := by kernel_rfl
theorem one64 : oneT Tryz.prog 64 = true := by kernel_rfl
theorem ze64 : zeroT Tryz.prog 64 = some .nilFunc := by kernel_rfl
theorem fu65 : isFuncT Tryz.prog 65 = true := by kernel_rfl
theorem one65 : oneT Tryz.prog 65 = true := by kernel_rfl
theorem ze65 : zeroT Tryz.prog 65 = some .nilFunc := by kernel_rfl
theorem fu66 : isFuncT Tryz.prog 66 = true := by kernel_rfl
theorem one66 : oneT Tryz.prog 66 = true := by kernel_rfl
theorem ze66 : zeroT Tryz.prog 66 = some .nilFunc := by kernel_rfl
theorem fu67 : isFuncT Tryz.prog 67 = true := by kernel_rfl
theorem one67 : oneT Tryz.prog 67 = true := by kernel_rfl
theorem ze67 : zeroT Tryz.prog 67 = some .nilFunc := by kernel_rfl
theorem fu68 : isFuncT Tryz.prog 68 = true := by kernel_rfl
theorem one68 : oneT Tryz.prog 68 = true := by kernel_rfl
theorem ze68 : zeroT Tryz.prog 68 = some .nilFunc := by kernel_rfl
theorem fu69 : isFuncT Tryz.prog 69 = true := by kernel_rfl
theorem one69 : oneT Tryz.prog 69 = true := by kernel_rfl
theorem ze69 : zeroT Tryz.prog 69 = some .nilFunc := by kernel_rfl
theorem fu70 : isFuncT Tryz.prog 70 = true := by kernel_rfl
theorem one70 : oneT Tryz.prog 70 = true := by kernel_rfl
theorem ze70 : zeroT Tryz.prog 70 = some .nilFunc := by kernel_rfl
theorem fu71 : isFuncT Tryz.prog 71 = true := by kernel_rfl
theorem one71 : oneT Tryz.prog 71 = true := by kernel_rfl
theorem ze71 : zeroT Tryz.prog 71 = some .nilFunc := by kernel_rfl
theorem fu72 : isFuncT Tryz.prog 72 = true := by kernel_rfl
theorem one72 : oneT Tryz.prog 72 = true := by kernel_rfl
theorem ze72 : zeroT Tryz.prog 72 = some .nilFunc := by kernel_rfl
theorem fu73 : isFuncT Tryz.prog 73 = true := by kernel_rfl
theorem one73 : oneT Tryz.prog 73 = true := by kernel_rfl
theorem ze73 : zeroT Tryz.prog 73 = some .nilFunc := by kernel_rfl
theorem pt74 : isPtrT Tryz.prog 74 = true := by kernel_rfl
theorem one74 : oneT Tryz.prog 74 = true := by kernel_rfl
theorem ze74 : zeroT Tryz.prog 74 = some (.pointer none) := by kernel_rfl
theorem ag75 : aggT Tryz.prog 75 1 = true := by kernel_rfl
theorem ze75 : zeroT Tryz.prog 75 = some (.agg #[(.slice none 0 0)]) := by kernel_rfl
theorem of75_0 : offT Tryz.prog 75 0 = some 0 := by kernel_rfl
theorem ag76 : aggT Tryz.prog 76 1 = true := by kernel_rfl
theorem ze76 : zeroT Tryz.prog 76 = some (.agg #[(.slice none 0 0)]) := by kernel_rfl
theorem of76_0 : offT Tryz.prog 76 0 = some 0 := by kernel_rfl
theorem fu77 : isFuncT Tryz.prog 77 = true := by kernel_rfl
theorem one77 : oneT Tryz.prog 77 = true := by kernel_rfl
theorem ze77 : zeroT Tryz.prog 77 = some .nilFunc := by kernel_rfl
theorem fu78 : isFuncT Tryz.prog 78 = true := by kernel_rfl
theorem one78 : oneT Tryz.prog 78 = true := by kernel_rfl
theorem ze78 : zeroT Tryz.prog 78 = some .nilFunc := by kernel_rfl
theorem fu79 : isFuncT Tryz.prog 79 = true := by kernel_rfl
theorem one79 : oneT Tryz.prog 79 = true := by kernel_rfl
theorem ze79 : zeroT Tryz.prog 79 = some .nilFunc := by kernel_rfl
theorem ag80 : aggT Tryz.prog 80 1 = true := by kernel_rfl
theorem ze80 : zeroT Tryz.prog 80 = some (.agg #[(.bool false)]) := by kernel_rfl
theorem of80_0 : offT Tryz.prog 80 0 = some 0 := by kernel_rfl
theorem ag81 : aggT Tryz.prog 81 1 = true := by kernel_rfl
theorem ze81 : zeroT Tryz.prog 81 = some (.agg #[(.bool false)]) := by kernel_rfl
theorem of81_0 : offT Tryz.prog 81 0 = some 0 := by kernel_rfl
theorem fu82 : isFuncT Tryz.prog 82 = true := by kernel_rfl
theorem one82 : oneT Tryz.prog 82 = true := by kernel_rfl
theorem ze82 : zeroT Tryz.prog 82 = some .nilFunc := by kernel_rfl
theorem fu83 : isFuncT Tryz.prog 83 = true := by kernel_rfl
theorem one83 : oneT Tryz.prog 83 = true := by kernel_rfl
theorem ze83 : zeroT Tryz.prog 83 = some .nilFunc := by kernel_rfl
theorem fu84 : isFuncT Tryz.prog 84 = true := by kernel_rfl
theorem one84 : oneT Tryz.prog 84 = true := by kernel_rfl
theorem ze84 : zeroT Tryz.prog 84 = some .nilFunc := by kernel_rfl
theorem fu85 : isFuncT Tryz.prog 85 = true := by kernel_rfl
theorem one85 : oneT Tryz.prog 85 = true := by kernel_rfl
theorem ze85 : zeroT Tryz.prog 85 = some .nilFunc := by kernel_rfl
theorem fu86 : isFuncT Tryz.prog 86 = true := by kernel_rfl
theorem one86 : oneT Tryz.prog 86 = true := by kernel_rfl
theorem ze86 : zeroT Tryz.prog 86 = some .nilFunc := by kernel_rfl
theorem fu87 : isFuncT Tryz.prog 87 = true := by kernel_rfl
theorem one87 : oneT Tryz.prog 87 = true := by kernel_rfl
theorem ze87 : zeroT Tryz.prog 87 = some .nilFunc := by kernel_rfl
theorem fu88 : isFuncT Tryz.prog 88 = true := by kernel_rfl
theorem one88 : oneT Tryz.prog 88 = true := by kernel_rfl
theorem ze88 : zeroT Tryz.prog 88 = some .nilFunc := by kernel_rfl
theorem fu89 : isFuncT Tryz.prog 89 = true := by kernel_rfl
theorem one89 : oneT Tryz.prog 89 = true := by kernel_rfl
theorem ze89 : zeroT Tryz.prog 89 = some .nilFunc := by kernel_rfl
theorem fu90 : isFuncT Tryz.prog 90 = true := by kernel_rfl
theorem one90 : oneT Tryz.prog 90 = true := by kernel_rfl
theorem ze90 : zeroT Tryz.prog 90 = some .nilFunc := by kernel_rfl
theorem fu91 : isFuncT Tryz.prog 91 = true := by kernel_rfl
theorem one91 : oneT Tryz.prog 91 = true := by kernel_rfl
theorem ze91 : zeroT Tryz.prog 91 = some .nilFunc := by kernel_rfl
theorem fu92 : isFuncT Tryz.prog 92 = true := by kernel_rfl
theorem one92 : oneT Tryz.prog 92 = true := by kernel_rfl
theorem ze92 : zeroT Tryz.prog 92 = some .nilFunc := by kernel_rfl
theorem fu93 : isFuncT Tryz.prog 93 = true := by kernel_rfl
theorem one93 : oneT Tryz.prog 93 = true := by kernel_rfl
theorem ze93 : zeroT Tryz.prog 93 = some .nilFunc := by kernel_rfl
theorem fu94 : isFuncT Tryz.prog 94 = true := by kernel_rfl
theorem one94 : oneT Tryz.prog 94 = true := by kernel_rfl
theorem ze94 : zeroT Tryz.prog 94 = some .nilFunc := by kernel_rfl
theorem fu95 : isFuncT Tryz.prog 95 = true := by kernel_rfl
theorem one95 : oneT Tryz.prog 95 = true := by kernel_rfl
theorem ze95 : zeroT Tryz.prog 95 = some .nilFunc := by kernel_rfl
theorem ag96 : aggT Tryz.prog 96 2 = true := by kernel_rfl
theorem ze96 : zeroT Tryz.prog 96 = some (.agg #[(.string ByteArray.empty), (.string ByteArray.empty)]) := by kernel_rfl
theorem of96_0 : offT Tryz.prog 96 0 = some 0 := by kernel_rfl
theorem of96_1 : offT Tryz.prog 96 1 = some 1 := by kernel_rfl
theorem ag97 : aggT Tryz.prog 97 2 = true := by kernel_rfl
theorem ze97 : zeroT Tryz.prog 97 = some (.agg #[(.string ByteArray.empty), (.string ByteArray.empty)]) := by kernel_rfl
theorem of97_0 : offT Tryz.prog 97 0 = some 0 := by kernel_rfl
theorem of97_1 : offT Tryz.prog 97 1 = some 1 := by kernel_rfl
theorem ag98 : aggT Tryz.prog 98 3 = true := by kernel_rfl
theorem ze98 : zeroT Tryz.prog 98 = some (.agg #[(.int .i8 0), (.string ByteArray.empty), (.string ByteArray.empty)]) := by kernel_rfl
theorem of98_0 : offT Tryz.prog 98 0 = some 0 := by kernel_rfl
theorem of98_1 : offT Tryz.prog 98 1 = some 1 := by kernel_rfl
theorem ag99 : aggT Tryz.prog 99 3 = true := by kernel_rfl
theorem ze99 : zeroT Tryz.prog 99 = some (.agg #[(.int .i8 0), (.string ByteArray.empty), (.string ByteArray.empty)]) := by kernel_rfl
theorem of99_0 : offT Tryz.prog 99 0 = some 0 := by kernel_rfl
theorem of99_1 : offT Tryz.prog 99 1 = some 1 := by kernel_rfl
theorem fu100 : isFuncT Tryz.prog 100 = true := by kernel_rfl
theorem one100 : oneT Tryz.prog 100 = true := by kernel_rfl
theorem ze100 : zeroT Tryz.prog 100 = some .nilFunc := by kernel_rfl
theorem sl101 : isSliceT Tryz.prog 101 = true := by kernel_rfl
theorem one101 : oneT Tryz.prog 101 = true := by kernel_rfl
theorem el101 : El Tryz.prog 101 3 1 8 (.int .i64 0) := ⟨Tryz.underlying101, by kernel_rfl, by kernel_rfl, by decide⟩
theorem ze101 : zeroT Tryz.prog 101 = some (.slice none 0 0) := by kernel_rfl
theorem fu102 : isFuncT Tryz.prog 102 = true := by kernel_rfl
theorem one102 : oneT Tryz.prog 102 = true := by kernel_rfl
theorem ze102 : zeroT Tryz.prog 102 = some .nilFunc := by kernel_rfl
theorem fu103 : isFuncT Tryz.prog 103 = true := by kernel_rfl
theorem one103 : oneT Tryz.prog 103 = true := by kernel_rfl
theorem ze103 : zeroT Tryz.prog 103 = some .nilFunc := by kernel_rfl
theorem fu104 : isFuncT Tryz.prog 104 = true := by kernel_rfl
theorem one104 : oneT Tryz.prog 104 = true := by kernel_rfl
theorem ze104 : zeroT Tryz.prog 104 = some .nilFunc := by kernel_rfl
theorem it105 : intT Tryz.prog 105 = some .u64 := by kernel_rfl
theorem one105 : oneT Tryz.prog 105 = true := by kernel_rfl
theorem ze105 : zeroT Tryz.prog 105 = some (.int .u64 0) := by kernel_rfl
theorem it106 : intT Tryz.prog 106 = some .u64 := by kernel_rfl
theorem one106 : oneT Tryz.prog 106 = true := by kernel_rfl
theorem ze106 : zeroT Tryz.prog 106 = some (.int .u64 0) := by kernel_rfl
theorem fu107 : isFuncT Tryz.prog 107 = true := by kernel_rfl
theorem one107 : oneT Tryz.prog 107 = true := by kernel_rfl
theorem ze107 : zeroT Tryz.prog 107 = some .nilFunc := by kernel_rfl
theorem fu108 : isFuncT Tryz.prog 108 = true := by kernel_rfl
theorem one108 : oneT Tryz.prog 108 = true := by kernel_rfl
theorem ze108 : zeroT Tryz.prog 108 = some .nilFunc := by kernel_rfl
theorem fu109 : isFuncT Tryz.prog 109 = true := by kernel_rfl
theorem one109 : oneT Tryz.prog 109 = true := by kernel_rfl
theorem ze109 : zeroT Tryz.prog 109 = some .nilFunc := by kernel_rfl
theorem fu110 : isFuncT Tryz.prog 110 = true := by kernel_rfl
theorem one110 : oneT Tryz.prog 110 = true := by kernel_rfl
theorem ze110 : zeroT Tryz.prog 110 = some .nilFunc := by kernel_rfl
theorem fu111 : isFuncT Tryz.prog 111 = true := by kernel_rfl
theorem one111 : oneT Tryz.prog 111 = true := by kernel_rfl
theorem ze111 : zeroT Tryz.prog 111 = some .nilFunc := by kernel_rfl
theorem fu112 : isFuncT Tryz.prog 112 = true := by kernel_rfl
theorem one112 : oneT Tryz.prog 112 = true := by kernel_rfl
theorem ze112 : zeroT Tryz.prog 112 = some .nilFunc := by kernel_rfl
theorem fu113 : isFuncT Tryz.prog 113 = true := by kernel_rfl
theorem one113 : oneT Tryz.prog 113 = true := by kernel_rfl
theorem ze113 : zeroT Tryz.prog 113 = some .nilFunc := by kernel_rfl
theorem fu114 : isFuncT Tryz.prog 114 = true := by kernel_rfl
theorem one114 : oneT Tryz.prog 114 = true := by kernel_rfl
theorem ze114 : zeroT Tryz.prog 114 = some .nilFunc := by kernel_rfl
theorem fu115 : isFuncT Tryz.prog 115 = true := by kernel_rfl
theorem one115 : oneT Tryz.prog 115 = true := by kernel_rfl
theorem ze115 : zeroT Tryz.prog 115 = some .nilFunc := by kernel_rfl
theorem fu116 : isFuncT Tryz.prog 116 = true := by kernel_rfl
theorem one116 : oneT Tryz.prog 116 = true := by kernel_rfl
theorem ze116 : zeroT Tryz.prog 116 = some .nilFunc := by kernel_rfl
theorem fu117 : isFuncT Tryz.prog 117 = true := by kernel_rfl
theorem one117 : oneT Tryz.prog 117 = true := by kernel_rfl
theorem ze117 : zeroT Tryz.prog 117 = some .nilFunc := by kernel_rfl
theorem fu118 : isFuncT Tryz.prog 118 = true := by kernel_rfl
theorem one118 : oneT Tryz.prog 118 = true := by kernel_rfl
theorem ze118 : zeroT Tryz.prog 118 = some .nilFunc := by kernel_rfl
theorem fu119 : isFuncT Tryz.prog 119 = true := by kernel_rfl
theorem one119 : oneT Tryz.prog 119 = true := by kernel_rfl
theorem ze119 : zeroT Tryz.prog 119 = some .nilFunc := by kernel_rfl
theorem fu120 : isFuncT Tryz.prog 120 = true := by kernel_rfl
theorem one120 : oneT Tryz.prog 120 = true := by kernel_rfl
theorem ze120 : zeroT Tryz.prog 120 = some .nilFunc := by kernel_rfl
theorem fu121 : isFuncT Tryz.prog 121 = true := by kernel_rfl
theorem one121 : oneT Tryz.prog 121 = true := by kernel_rfl
theorem ze121 : zeroT Tryz.prog 121 = some .nilFunc := by kernel_rfl
theorem fu122 : isFuncT Tryz.prog 122 = true := by kernel_rfl
theorem one122 : oneT Tryz.prog 122 = true := by kernel_rfl
theorem ze122 : zeroT Tryz.prog 122 = some .nilFunc := by kernel_rfl
theorem fu123 : isFuncT Tryz.prog 123 = true := by kernel_rfl
theorem one123 : oneT Tryz.prog 123 = true := by kernel_rfl
theorem ze123 : zeroT Tryz.prog 123 = some .nilFunc := by kernel_rfl
theorem ag124 : aggT Tryz.prog 124 13 = true := by kernel_rfl
theorem ze124 : zeroT Tryz.prog 124 = some (.agg #[(.int .u64 0), (.int .u64 0), (.int .u64 0), (.int .u64 0), (.int .u64 0), (.int .u64 0), (.int .u64 0), (.int .u64 0), (.int .u64 0), (.int .u64 0), (.int .u64 0), (.int .u64 0), (.int .u64 0)]) := by kernel_rfl
theorem fu125 : isFuncT Tryz.prog 125 = true := by kernel_rfl
theorem one125 : oneT Tryz.prog 125 = true := by kernel_rfl
theorem ze125 : zeroT Tryz.prog 125 = some .nilFunc := by kernel_rfl
theorem fu126 : isFuncT Tryz.prog 126 = true := by kernel_rfl
theorem one126 : oneT Tryz.prog 126 = true := by kernel_rfl
theorem ze126 : zeroT Tryz.prog 126 = some .nilFunc := by kernel_rfl
theorem fu127 : isFuncT Tryz.prog 127 = true := by kernel_rfl
theorem one127 : oneT Tryz.prog 127 = true := by kernel_rfl
theorem ze127 : zeroT Tryz.prog 127 = some .nilFunc := by kernel_rfl
theorem fu128 : isFuncT Tryz.prog 128 = true := by kernel_rfl
theorem one128 : oneT Tryz.prog 128 = true := by kernel_rfl
theorem ze128 : zeroT Tryz.prog 128 = some .nilFunc := by kernel_rfl
theorem fu129 : isFuncT Tryz.prog 129 = true := by kernel_rfl
theorem one129 : oneT Tryz.prog 129 = true := by kernel_rfl
theorem ze129 : zeroT Tryz.prog 129 = some .nilFunc := by kernel_rfl
theorem fu130 : isFuncT Tryz.prog 130 = true := by kernel_rfl
theorem one130 : oneT Tryz.prog 130 = true := by kernel_rfl
theorem ze130 : zeroT Tryz.prog 130 = some .nilFunc := by kernel_rfl
theorem ag131 : aggT Tryz.prog 131 24 = true := by kernel_rfl
theorem ze131 : zeroT Tryz.prog 131 = some (.agg #[(.int .u8 0), (.int .u8 0), (.int .u8 0), (.int .u8 0), (.int .u8 0), (.int .u8 0), (.int .u8 0), (.int .u8 0), (.int .u8 0), (.int .u8 0), (.int .u8 0), (.int .u8 0), (.int .u8 0), (.int .u8 0), (.int .u8 0), (.int .u8 0), (.int .u8 0), (.int .u8 0), (.int .u8 0), (.int .u8 0), (.int .u8 0), (.int .u8 0), (.int .u8 0), (.int .u8 0)]) := by kernel_rfl
theorem fu132 : isFuncT Tryz.prog 132 = true := by kernel_rfl
theorem one132 : oneT Tryz.prog 132 = true := by kernel_rfl
theorem ze132 : zeroT Tryz.prog 132 = some .nilFunc := by kernel_rfl
theorem fu133 : isFuncT Tryz.prog 133 = true := by kernel_rfl
theorem one133 : oneT Tryz.prog 133 = true := by kernel_rfl
theorem ze133 : zeroT Tryz.prog 133 = some .nilFunc := by kernel_rfl
theorem fu135 : isFuncT Tryz.prog 135 = true := by kernel_rfl
theorem one135 : oneT Tryz.prog 135 = true := by kernel_rfl
theorem ze135 : zeroT Tryz.prog 135 = some .nilFunc := by kernel_rfl
theorem fu136 : isFuncT Tryz.prog 136 = true := by kernel_rfl
theorem one136 : oneT Tryz.prog 136 = true := by kernel_rfl
theorem ze136 : zeroT Tryz.prog 136 = some .nilFunc := by kernel_rfl
theorem fu137 : isFuncT Tryz.prog 137 = true := by kernel_rfl
theorem one137 : oneT Tryz.prog 137 = true := by kernel_rfl
theorem ze137 : zeroT Tryz.prog 137 = some .nilFunc := by kernel_rfl
theorem ag138 : aggT Tryz.prog 138 20 = true := by kernel_rfl
theorem ze138 : zeroT Tryz.prog 138 = some (.agg #[(.int .u64 0), (.int .u64 0), (.int .u64 0), (.int .u64 0), (.int .u64 0), (.int .u64 0), (.int .u64 0), (.int .u64 0), (.int .u64 0), (.int .u64 0), (.int .u64 0), (.int .u64 0), (.int .u64 0), (.int .u64 0), (.int .u64 0), (.int .u64 0), (.int .u64 0), (.int .u64 0), (.int .u64 0), (.int .u64 0)]) := by kernel_rfl
theorem ag139 : aggT Tryz.prog 139 65 = true := by kernel_rfl
theorem ze139 : zeroT Tryz.prog 139 = some (.agg #[(.int .u8 0), (.int .u8 0), (.int .u8 0), (.int .u8 0), (.int .u8 0), (.int .u8 0), (.int .u8 0), (.int .u8 0), (.int .u8 0), (.int .u8 0), (.int .u8 0), (.int .u8 0), (.int .u8 0), (.int .u8 0), (.int .u8 0), (.int .u8 0), (.int .u8 0), (.int .u8 0), (.int .u8 0), (.int .u8 0), (.int .u8 0), (.int .u8 0), (.int .u8 0), (.int .u8 0), (.int .u8 0), (.int .u8 0), (.int .u8 0), (.int .u8 0), (.int .u8 0), (.int .u8 0), (.int .u8 0), (.int .u8 0), (.int .u8 0), (.int .u8 0), (.int .u8 0), (.int .u8 0), (.int .u8 0), (.int .u8 0), (.int .u8 0), (.int .u8 0), (.int .u8 0), (.int .u8 0), (.int .u8 0), (.int .u8 0), (.int .u8 0), (.int .u8 0), (.int .u8 0), (.int .u8 0), (.int .u8 0), (.int .u8 0), (.int .u8 0), (.int .u8 0), (.int .u8 0), (.int .u8 0), (.int .u8 0), (.int .u8 0), (.int .u8 0), (.int .u8 0), (.int .u8 0), (.int .u8 0), (.int .u8 0), (.int .u8 0), (.int .u8 0), (.int .u8 0), (.int .u8 0)]) := by kernel_rfl
theorem fu140 : isFuncT Tryz.prog 140 = true := by kernel_rfl
theorem one140 : oneT Tryz.prog 140 = true := by kernel_rfl
theorem ze140 : zeroT Tryz.prog 140 = some .nilFunc := by kernel_rfl
theorem fu141 : isFuncT Tryz.prog 141 = true := by kernel_rfl
theorem one141 : oneT Tryz.prog 141 = true := by kernel_rfl
theorem ze141 : zeroT Tryz.prog 141 = some .nilFunc := by kernel_rfl
theorem fu142 : isFuncT Tryz.prog 142 = true := by kernel_rfl
theorem one142 : oneT Tryz.prog 142 = true := by kernel_rfl
theorem ze142 : zeroT Tryz.prog 142 = some .nilFunc := by kernel_rfl
theorem ag143 : aggT Tryz.prog 143 32 = true := by kernel_rfl
theorem ze143 : zeroT Tryz.prog 143 = some (.agg #[(.int .u8 0), (.int .u8 0), (.int .u8 0), (.int .u8 0), (.int .u8 0), (.int .u8 0), (.int .u8 0), (.int .u8 0), (.int .u8 0), (.int .u8 0), (.int .u8 0), (.int .u8 0), (.int .u8 0), (.int .u8 0), (.int .u8 0), (.int .u8 0), (.int .u8 0), (.int .u8 0), (.int .u8 0), (.int .u8 0), (.int .u8 0), (.int .u8 0), (.int .u8 0), (.int .u8 0), (.int .u8 0), (.int .u8 0), (.int .u8 0), (.int .u8 0), (.int .u8 0), (.int .u8 0), (.int .u8 0), (.int .u8 0)]) := by kernel_rfl
theorem ag144 : aggT Tryz.prog 144 64 = true := by kernel_rfl
theorem ze144 : zeroT Tryz.prog 144 = some (.agg #[(.int .u8 0), (.int .u8 0), (.int .u8 0), (.int .u8 0), (.int .u8 0), (.int .u8 0), (.int .u8 0), (.int .u8 0), (.int .u8 0), (.int .u8 0), (.int .u8 0), (.int .u8 0), (.int .u8 0), (.int .u8 0), (.int .u8 0), (.int .u8 0), (.int .u8 0), (.int .u8 0), (.int .u8 0), (.int .u8 0), (.int .u8 0), (.int .u8 0), (.int .u8 0), (.int .u8 0), (.int .u8 0), (.int .u8 0), (.int .u8 0), (.int .u8 0), (.int .u8 0), (.int .u8 0), (.int .u8 0), (.int .u8 0), (.int .u8 0), (.int .u8 0), (.int .u8 0), (.int .u8 0), (.int .u8 0), (.int .u8 0), (.int .u8 0), (.int .u8 0), (.int .u8 0), (.int .u8 0), (.int .u8 0), (.int .u8 0), (.int .u8 0), (.int .u8 0), (.int .u8 0), (.int .u8 0), (.int .u8 0), (.int .u8 0), (.int .u8 0), (.int .u8 0), (.int .u8 0), (.int .u8 0), (.int .u8 0), (.int .u8 0), (.int .u8 0), (.int .u8 0), (.int .u8 0), (.int .u8 0), (.int .u8 0), (.int .u8 0), (.int .u8 0), (.int .u8 0)]) := by kernel_rfl
theorem fu145 : isFuncT Tryz.prog 145 = true := by kernel_rfl
theorem one145 : oneT Tryz.prog 145 = true := by kernel_rfl
theorem ze145 : zeroT Tryz.prog 145 = some .nilFunc := by kernel_rfl
theorem ag146 : aggT Tryz.prog 146 4 = true := by kernel_rfl
theorem ze146 : zeroT Tryz.prog 146 = some (.agg #[(.pointer none), (.pointer none), (.pointer none), (.string ByteArray.empty)]) := by kernel_rfl
theorem of146_0 : offT Tryz.prog 146 0 = some 0 := by kernel_rfl
theorem of146_1 : offT Tryz.prog 146 1 = some 1 := by kernel_rfl
theorem of146_2 : offT Tryz.prog 146 2 = some 2 := by kernel_rfl
theorem of146_3 : offT Tryz.prog 146 3 = some 3 := by kernel_rfl
theorem ag147 : aggT Tryz.prog 147 4 = true := by kernel_rfl
theorem ze147 : zeroT Tryz.prog 147 = some (.agg #[(.pointer none), (.pointer none), (.pointer none), (.string ByteArray.empty)]) := by kernel_rfl
theorem of147_0 : offT Tryz.prog 147 0 = some 0 := by kernel_rfl
theorem of147_1 : offT Tryz.prog 147 1 = some 1 := by kernel_rfl
theorem of147_2 : offT Tryz.prog 147 2 = some 2 := by kernel_rfl
theorem of147_3 : offT Tryz.prog 147 3 = some 3 := by kernel_rfl
theorem fu151 : isFuncT Tryz.prog 151 = true := by kernel_rfl
theorem one151 : oneT Tryz.prog 151 = true := by kernel_rfl
theorem ze151 : zeroT Tryz.prog 151 = some .nilFunc := by kernel_rfl
theorem it152 : intT Tryz.prog 152 = some .u8 := by kernel_rfl
theorem one152 : oneT Tryz.prog 152 = true := by kernel_rfl
theorem ze152 : zeroT Tryz.prog 152 = some (.int .u8 0) := by kernel_rfl
theorem it153 : intT Tryz.prog 153 = some .u8 := by kernel_rfl
theorem one153 : oneT Tryz.prog 153 = true := by kernel_rfl
theorem ze153 : zeroT Tryz.prog 153 = some (.int .u8 0) := by kernel_rfl
theorem fu154 : isFuncT Tryz.prog 154 = true := by kernel_rfl
theorem one154 : oneT Tryz.prog 154 = true := by kernel_rfl
theorem ze154 : zeroT Tryz.prog 154 = some .nilFunc := by kernel_rfl
theorem pt155 : isPtrT Tryz.prog 155 = true := by kernel_rfl
theorem one155 : oneT Tryz.prog 155 = true := by kernel_rfl
theorem ze155 : zeroT Tryz.prog 155 = some (.pointer none) := by kernel_rfl
theorem it156 : intT Tryz.prog 156 = some .i32 := by kernel_rfl
theorem one156 : oneT Tryz.prog 156 = true := by kernel_rfl
theorem ze156 : zeroT Tryz.prog 156 = some (.int .i32 0) := by kernel_rfl
theorem it157 : intT Tryz.prog 157 = some .i32 := by kernel_rfl
theorem one157 : oneT Tryz.prog 157 = true := by kernel_rfl
theorem ze157 : zeroT Tryz.prog 157 = some (.int .i32 0) := by kernel_rfl
theorem ag158 : aggT Tryz.prog 158 11 = true := by kernel_rfl
theorem ze158 : zeroT Tryz.prog 158 = some (.agg #[(.int .u64 0), (.int .u64 0), (.int .u32 0), (.int .u8 0), (.int .u8 0), (.int .u8 0), (.int .u8 0), .nilFunc, (.pointer none), (.int .i32 0), (.int .i32 0)]) := by kernel_rfl
theorem of158_0 : offT Tryz.prog 158 0 = some 0 := by kernel_rfl
theorem of158_1 : offT Tryz.prog 158 1 = some 1 := by kernel_rfl
theorem of158_2 : offT Tryz.prog 158 2 = some 2 := by kernel_rfl
theorem of158_3 : offT Tryz.prog 158 3 = some 3 := by kernel_rfl
theorem of158_4 : offT Tryz.prog 158 4 = some 4 := by kernel_rfl
theorem of158_5 : offT Tryz.prog 158 5 = some 5 := by kernel_rfl
theorem of158_6 : offT Tryz.prog 158 6 = some 6 := by kernel_rfl
theorem of158_7 : offT Tryz.prog 158 7 = some 7 := by kernel_rfl
theorem of158_8 : offT Tryz.prog 158 8 = some 8 := by kernel_rfl
theorem of158_9 : offT Tryz.prog 158 9 = some 9 := by kernel_rfl
theorem of158_10 : offT Tryz.prog 158 10 = some 10 := by kernel_rfl
theorem ag159 : aggT Tryz.prog 159 11 = true := by kernel_rfl
theorem ze159 : zeroT Tryz.prog 159 = some (.agg #[(.int .u64 0), (.int .u64 0), (.int .u32 0), (.int .u8 0), (.int .u8 0), (.int .u8 0), (.int .u8 0), .nilFunc, (.pointer none), (.int .i32 0), (.int .i32 0)]) := by kernel_rfl
theorem of159_0 : offT Tryz.prog 159 0 = some 0 := by kernel_rfl
theorem of159_1 : offT Tryz.prog 159 1 = some 1 := by kernel_rfl
theorem of159_2 : offT Tryz.prog 159 2 = some 2 := by kernel_rfl
theorem of159_3 : offT Tryz.prog 159 3 = some 3 := by kernel_rfl
theorem of159_4 : offT Tryz.prog 159 4 = some 4 := by kernel_rfl
theorem of159_5 : offT Tryz.prog 159 5 = some 5 := by kernel_rfl
theorem of159_6 : offT Tryz.prog 159 6 = some 6 := by kernel_rfl
theorem of159_7 : offT Tryz.prog 159 7 = some 7 := by kernel_rfl
theorem of159_8 : offT Tryz.prog 159 8 = some 8 := by kernel_rfl
theorem of159_9 : offT Tryz.prog 159 9 = some 9 := by kernel_rfl
theorem of159_10 : offT Tryz.prog 159 10 = some 10 := by kernel_rfl
theorem one160 : oneT Tryz.prog 160 = true := by kernel_rfl
theorem fa_28_2 (b i : Nat) (Z : List PanicEntry → World → Prop) (w : World) (kk : Value → World → Prop) : run1 Tryz.prog Z (Instr.fieldAt 28 (.pointer (some ⟨b, i, none⟩)) 2) w kk = kk (.pointer (some ⟨b, i + 4, none⟩)) w := r1_eq fun w => run_fieldAt of28_2 b i w
theorem fa_28_2p (b i : Nat) (kv : Value → Prop) : Pure1 Tryz.prog (Instr.fieldAt 28 (.pointer (some ⟨b, i, none⟩)) 2) kv = kv (.pointer (some ⟨b, i + 4, none⟩)) := rp_eq fun w => run_fieldAt of28_2 b i w
theorem fa_28_0 (b i : Nat) (Z : List PanicEntry → World → Prop) (w : World) (kk : Value → World → Prop) : run1 Tryz.prog Z (Instr.fieldAt 28 (.pointer (some ⟨b, i, none⟩)) 0) w kk = kk (.pointer (some ⟨b, i + 0, none⟩)) w := r1_eq fun w => run_fieldAt of28_0 b i w
theorem fa_28_0p (b i : Nat) (kv : Value → Prop) : Pure1 Tryz.prog (Instr.fieldAt 28 (.pointer (some ⟨b, i, none⟩)) 0) kv = kv (.pointer (some ⟨b, i + 0, none⟩)) := rp_eq fun w => run_fieldAt of28_0 b i w
theorem fa_28_1 (b i : Nat) (Z : List PanicEntry → World → Prop) (w : World) (kk : Value → World → Prop) : run1 Tryz.prog Z (Instr.fieldAt 28 (.pointer (some ⟨b, i, none⟩)) 1) w kk = kk (.pointer (some ⟨b, i + 2, none⟩)) w := r1_eq fun w => run_fieldAt of28_1 b i w
theorem fa_28_1p (b i : Nat) (kv : Value → Prop) : Pure1 Tryz.prog (Instr.fieldAt 28 (.pointer (some ⟨b, i, none⟩)) 1) kv = kv (.pointer (some ⟨b, i + 2, none⟩)) := rp_eq fun w => run_fieldAt of28_1 b i w
theorem fa_28_3 (b i : Nat) (Z : List PanicEntry → World → Prop) (w : World) (kk : Value → World → Prop) : run1 Tryz.prog Z (Instr.fieldAt 28 (.pointer (some ⟨b, i, none⟩)) 3) w kk = kk (.pointer (some ⟨b, i + 5, none⟩)) w := r1_eq fun w => run_fieldAt of28_3 b i w
theorem fa_28_3p (b i : Nat) (kv : Value → Prop) : Pure1 Tryz.prog (Instr.fieldAt 28 (.pointer (some ⟨b, i, none⟩)) 3) kv = kv (.pointer (some ⟨b, i + 5, none⟩)) := rp_eq fun w => run_fieldAt of28_3 b i w
theorem fa_28_4 (b i : Nat) (Z : List PanicEntry → World → Prop) (w : World) (kk : Value → World → Prop) : run1 Tryz.prog Z (Instr.fieldAt 28 (.pointer (some ⟨b, i, none⟩)) 4) w kk = kk (.pointer (some ⟨b, i + 6, none⟩)) w := r1_eq fun w => run_fieldAt of28_4 b i w
theorem fa_28_4p (b i : Nat) (kv : Value → Prop) : Pure1 Tryz.prog (Instr.fieldAt 28 (.pointer (some ⟨b, i, none⟩)) 4) kv = kv (.pointer (some ⟨b, i + 6, none⟩)) := rp_eq fun w => run_fieldAt of28_4 b i w
theorem fa_28_5 (b i : Nat) (Z : List PanicEntry → World → Prop) (w : World) (kk : Value → World → Prop) : run1 Tryz.prog Z (Instr.fieldAt 28 (.pointer (some ⟨b, i, none⟩)) 5) w kk = kk (.pointer (some ⟨b, i + 7, none⟩)) w := r1_eq fun w => run_fieldAt of28_5 b i w
theorem fa_28_5p (b i : Nat) (kv : Value → Prop) : Pure1 Tryz.prog (Instr.fieldAt 28 (.pointer (some ⟨b, i, none⟩)) 5) kv = kv (.pointer (some ⟨b, i + 7, none⟩)) := rp_eq fun w => run_fieldAt of28_5 b i w
theorem ln_25_3 (a : Option Addr) (n c : Nat) (Z : List PanicEntry → World → Prop) (w : World) (kk : Value → World → Prop) : run1 Tryz.prog Z (Builtin.len_ #[25] 3 #[.slice a n c]) w kk = kk (.int .i64 n) w := r1_eq fun w => run_lenS sl25 _ rfl _ a n c w
theorem ln_25_3p (a : Option Addr) (n c : Nat) (kv : Value → Prop) : Pure1 Tryz.prog (Builtin.len_ #[25] 3 #[.slice a n c]) kv = kv (.int .i64 n) := rp_eq fun w => run_lenS sl25 _ rfl _ a n c w
theorem cv_3_22 (q : IntKind) (n : Int) (Z : List PanicEntry → World → Prop) (w : World) (kk : Value → World → Prop) : run1 Tryz.prog Z (convert 3 22 (.int q n)) w kk = kk (.int .u32 (IntKind.u32.wrap n)) w := r1_eq fun w => run_conv_int (by kernel_rfl) it22 q n w
theorem cv_3_22p (q : IntKind) (n : Int) (kv : Value → Prop) : Pure1 Tryz.prog (convert 3 22 (.int q n)) kv = kv (.int .u32 (IntKind.u32.wrap n)) := rp_eq fun w => run_conv_int (by kernel_rfl) it22 q n w
theorem fa_49_0 (b i : Nat) (Z : List PanicEntry → World → Prop) (w : World) (kk : Value → World → Prop) : run1 Tryz.prog Z (Instr.fieldAt 49 (.pointer (some ⟨b, i, none⟩)) 0) w kk = kk (.pointer (some ⟨b, i + 0, none⟩)) w := r1_eq fun w => run_fieldAt of49_0 b i w
theorem fa_49_0p (b i : Nat) (kv : Value → Prop) : Pure1 Tryz.prog (Instr.fieldAt 49 (.pointer (some ⟨b, i, none⟩)) 0) kv = kv (.pointer (some ⟨b, i + 0, none⟩)) := rp_eq fun w => run_fieldAt of49_0 b i w
theorem fa_49_2 (b i : Nat) (Z : List PanicEntry → World → Prop) (w : World) (kk : Value → World → Prop) : run1 Tryz.prog Z (Instr.fieldAt 49 (.pointer (some ⟨b, i, none⟩)) 2) w kk = kk (.pointer (some ⟨b, i + 5, none⟩)) w := r1_eq fun w => run_fieldAt of49_2 b i w
theorem fa_49_2p (b i : Nat) (kv : Value → Prop) : Pure1 Tryz.prog (Instr.fieldAt 49 (.pointer (some ⟨b, i, none⟩)) 2) kv = kv (.pointer (some ⟨b, i + 5, none⟩)) := rp_eq fun w => run_fieldAt of49_2 b i w
theorem fa_34_0 (b i : Nat) (Z : List PanicEntry → World → Prop) (w : World) (kk : Value → World → Prop) : run1 Tryz.prog Z (Instr.fieldAt 34 (.pointer (some ⟨b, i, none⟩)) 0) w kk = kk (.pointer (some ⟨b, i + 0, none⟩)) w := r1_eq fun w => run_fieldAt of34_0 b i w
theorem fa_34_0p (b i : Nat) (kv : Value → Prop) : Pure1 Tryz.prog (Instr.fieldAt 34 (.pointer (some ⟨b, i, none⟩)) 0) kv = kv (.pointer (some ⟨b, i + 0, none⟩)) := rp_eq fun w => run_fieldAt of34_0 b i w
theorem fa_34_2 (b i : Nat) (Z : List PanicEntry → World → Prop) (w : World) (kk : Value → World → Prop) : run1 Tryz.prog Z (Instr.fieldAt 34 (.pointer (some ⟨b, i, none⟩)) 2) w kk = kk (.pointer (some ⟨b, i + 3, none⟩)) w := r1_eq fun w => run_fieldAt of34_2 b i w
theorem fa_34_2p (b i : Nat) (kv : Value → Prop) : Pure1 Tryz.prog (Instr.fieldAt 34 (.pointer (some ⟨b, i, none⟩)) 2) kv = kv (.pointer (some ⟨b, i + 3, none⟩)) := rp_eq fun w => run_fieldAt of34_2 b i w
theorem fa_49_1 (b i : Nat) (Z : List PanicEntry → World → Prop) (w : World) (kk : Value → World → Prop) : run1 Tryz.prog Z (Instr.fieldAt 49 (.pointer (some ⟨b, i, none⟩)) 1) w kk = kk (.pointer (some ⟨b, i + 2, none⟩)) w := r1_eq fun w => run_fieldAt of49_1 b i w
theorem fa_49_1p (b i : Nat) (kv : Value → Prop) : Pure1 Tryz.prog (Instr.fieldAt 49 (.pointer (some ⟨b, i, none⟩)) 1) kv = kv (.pointer (some ⟨b, i + 2, none⟩)) := rp_eq fun w => run_fieldAt of49_1 b i w
theorem fa_41_2 (b i : Nat) (Z : List PanicEntry → World → Prop) (w : World) (kk : Value → World → Prop) : run1 Tryz.prog Z (Instr.fieldAt 41 (.pointer (some ⟨b, i, none⟩)) 2) w kk = kk (.pointer (some ⟨b, i + 2, none⟩)) w := r1_eq fun w => run_fieldAt of41_2 b i w
theorem fa_41_2p (b i : Nat) (kv : Value → Prop) : Pure1 Tryz.prog (Instr.fieldAt 41 (.pointer (some ⟨b, i, none⟩)) 2) kv = kv (.pointer (some ⟨b, i + 2, none⟩)) := rp_eq fun w => run_fieldAt of41_2 b i w
theorem fa_34_1 (b i : Nat) (Z : List PanicEntry → World → Prop) (w : World) (kk : Value → World → Prop) : run1 Tryz.prog Z (Instr.fieldAt 34 (.pointer (some ⟨b, i, none⟩)) 1) w kk = kk (.pointer (some ⟨b, i + 1, none⟩)) w := r1_eq fun w => run_fieldAt of34_1 b i w
theorem fa_34_1p (b i : Nat) (kv : Value → Prop) : Pure1 Tryz.prog (Instr.fieldAt 34 (.pointer (some ⟨b, i, none⟩)) 1) kv = kv (.pointer (some ⟨b, i + 1, none⟩)) := rp_eq fun w => run_fieldAt of34_1 b i w
theorem ln_42_3 (a : Option Addr) (n c : Nat) (Z : List PanicEntry → World → Prop) (w : World) (kk : Value → World → Prop) : run1 Tryz.prog Z (Builtin.len_ #[42] 3 #[.slice a n c]) w kk = kk (.int .i64 n) w := r1_eq fun w => run_lenS sl42 _ rfl _ a n c w
theorem ln_42_3p (a : Option Addr) (n c : Nat) (kv : Value → Prop) : Pure1 Tryz.prog (Builtin.len_ #[42] 3 #[.slice a n c]) kv = kv (.int .i64 n) := rp_eq fun w => run_lenS sl42 _ rfl _ a n c w
theorem fa_24_0 (b i : Nat) (Z : List PanicEntry → World → Prop) (w : World) (kk : Value → World → Prop) : run1 Tryz.prog Z (Instr.fieldAt 24 (.pointer (some ⟨b, i, none⟩)) 0) w kk = kk (.pointer (some ⟨b, i + 0, none⟩)) w := r1_eq fun w => run_fieldAt of24_0 b i w
theorem fa_24_0p (b i : Nat) (kv : Value → Prop) : Pure1 Tryz.prog (Instr.fieldAt 24 (.pointer (some ⟨b, i, none⟩)) 0) kv = kv (.pointer (some ⟨b, i + 0, none⟩)) := rp_eq fun w => run_fieldAt of24_0 b i w
theorem fa_24_1 (b i : Nat) (Z : List PanicEntry → World → Prop) (w : World) (kk : Value → World → Prop) : run1 Tryz.prog Z (Instr.fieldAt 24 (.pointer (some ⟨b, i, none⟩)) 1) w kk = kk (.pointer (some ⟨b, i + 1, none⟩)) w := r1_eq fun w => run_fieldAt of24_1 b i w
theorem fa_24_1p (b i : Nat) (kv : Value → Prop) : Pure1 Tryz.prog (Instr.fieldAt 24 (.pointer (some ⟨b, i, none⟩)) 1) kv = kv (.pointer (some ⟨b, i + 1, none⟩)) := rp_eq fun w => run_fieldAt of24_1 b i w
theorem fa_47_2 (b i : Nat) (Z : List PanicEntry → World → Prop) (w : World) (kk : Value → World → Prop) : run1 Tryz.prog Z (Instr.fieldAt 47 (.pointer (some ⟨b, i, none⟩)) 2) w kk = kk (.pointer (some ⟨b, i + 2, none⟩)) w := r1_eq fun w => run_fieldAt of47_2 b i w
theorem fa_47_2p (b i : Nat) (kv : Value → Prop) : Pure1 Tryz.prog (Instr.fieldAt 47 (.pointer (some ⟨b, i, none⟩)) 2) kv = kv (.pointer (some ⟨b, i + 2, none⟩)) := rp_eq fun w => run_fieldAt of47_2 b i w
theorem fa_47_3 (b i : Nat) (Z : List PanicEntry → World → Prop) (w : World) (kk : Value → World → Prop) : run1 Tryz.prog Z (Instr.fieldAt 47 (.pointer (some ⟨b, i, none⟩)) 3) w kk = kk (.pointer (some ⟨b, i + 3, none⟩)) w := r1_eq fun w => run_fieldAt of47_3 b i w
theorem fa_47_3p (b i : Nat) (kv : Value → Prop) : Pure1 Tryz.prog (Instr.fieldAt 47 (.pointer (some ⟨b, i, none⟩)) 3) kv = kv (.pointer (some ⟨b, i + 3, none⟩)) := rp_eq fun w => run_fieldAt of47_3 b i w
theorem fa_47_9 (b i : Nat) (Z : List PanicEntry → World → Prop) (w : World) (kk : Value → World → Prop) : run1 Tryz.prog Z (Instr.fieldAt 47 (.pointer (some ⟨b, i, none⟩)) 9) w kk = kk (.pointer (some ⟨b, i + 9, none⟩)) w := r1_eq fun w => run_fieldAt of47_9 b i w
theorem fa_47_9p (b i : Nat) (kv : Value → Prop) : Pure1 Tryz.prog (Instr.fieldAt 47 (.pointer (some ⟨b, i, none⟩)) 9) kv = kv (.pointer (some ⟨b, i + 9, none⟩)) := rp_eq fun w => run_fieldAt of47_9 b i w
theorem fa_47_10 (b i : Nat) (Z : List PanicEntry → World → Prop) (w : World) (kk : Value → World → Prop) : run1 Tryz.prog Z (Instr.fieldAt 47 (.pointer (some ⟨b, i, none⟩)) 10) w kk = kk (.pointer (some ⟨b, i + 10, none⟩)) w := r1_eq fun w => run_fieldAt of47_10 b i w
theorem fa_47_10p (b i : Nat) (kv : Value → Prop) : Pure1 Tryz.prog (Instr.fieldAt 47 (.pointer (some ⟨b, i, none⟩)) 10) kv = kv (.pointer (some ⟨b, i + 10, none⟩)) := rp_eq fun w => run_fieldAt of47_10 b i w
theorem ln_43_3 (a : Option Addr) (n c : Nat) (Z : List PanicEntry → World → Prop) (w : World) (kk : Value → World → Prop) : run1 Tryz.prog Z (Builtin.len_ #[43] 3 #[.slice a n c]) w kk = kk (.int .i64 n) w := r1_eq fun w => run_lenS sl43 _ rfl _ a n c w
theorem ln_43_3p (a : Option Addr) (n c : Nat) (kv : Value → Prop) : Pure1 Tryz.prog (Builtin.len_ #[43] 3 #[.slice a n c]) kv = kv (.int .i64 n) := rp_eq fun w => run_lenS sl43 _ rfl _ a n c w
theorem ln_44_3 (a : Option Addr) (n c : Nat) (Z : List PanicEntry → World → Prop) (w : World) (kk : Value → World → Prop) : run1 Tryz.prog Z (Builtin.len_ #[44] 3 #[.slice a n c]) w kk = kk (.int .i64 n) w := r1_eq fun w => run_lenS sl44 _ rfl _ a n c w
theorem ln_44_3p (a : Option Addr) (n c : Nat) (kv : Value → Prop) : Pure1 Tryz.prog (Builtin.len_ #[44] 3 #[.slice a n c]) kv = kv (.int .i64 n) := rp_eq fun w => run_lenS sl44 _ rfl _ a n c w
theorem ln_45_3 (a : Option Addr) (n c : Nat) (Z : List PanicEntry → World → Prop) (w : World) (kk : Value → World → Prop) : run1 Tryz.prog Z (Builtin.len_ #[45] 3 #[.slice a n c]) w kk = kk (.int .i64 n) w := r1_eq fun w => run_lenS sl45 _ rfl _ a n c w
theorem ln_45_3p (a : Option Addr) (n c : Nat) (kv : Value → Prop) : Pure1 Tryz.prog (Builtin.len_ #[45] 3 #[.slice a n c]) kv = kv (.int .i64 n) := rp_eq fun w => run_lenS sl45 _ rfl _ a n c w
theorem fa_41_0 (b i : Nat) (Z : List PanicEntry → World → Prop) (w : World) (kk : Value → World → Prop) : run1 Tryz.prog Z (Instr.fieldAt 41 (.pointer (some ⟨b, i, none⟩)) 0) w kk = kk (.pointer (some ⟨b, i + 0, none⟩)) w := r1_eq fun w => run_fieldAt of41_0 b i w
theorem fa_41_0p (b i : Nat) (kv : Value → Prop) : Pure1 Tryz.prog (Instr.fieldAt 41 (.pointer (some ⟨b, i, none⟩)) 0) kv = kv (.pointer (some ⟨b, i + 0, none⟩)) := rp_eq fun w => run_fieldAt of41_0 b i w
theorem fa_41_1 (b i : Nat) (Z : List PanicEntry → World → Prop) (w : World) (kk : Value → World → Prop) : run1 Tryz.prog Z (Instr.fieldAt 41 (.pointer (some ⟨b, i, none⟩)) 1) w kk = kk (.pointer (some ⟨b, i + 1, none⟩)) w := r1_eq fun w => run_fieldAt of41_1 b i w
theorem fa_41_1p (b i : Nat) (kv : Value → Prop) : Pure1 Tryz.prog (Instr.fieldAt 41 (.pointer (some ⟨b, i, none⟩)) 1) kv = kv (.pointer (some ⟨b, i + 1, none⟩)) := rp_eq fun w => run_fieldAt of41_1 b i w
theorem fa_47_0 (b i : Nat) (Z : List PanicEntry → World → Prop) (w : World) (kk : Value → World → Prop) : run1 Tryz.prog Z (Instr.fieldAt 47 (.pointer (some ⟨b, i, none⟩)) 0) w kk = kk (.pointer (some ⟨b, i + 0, none⟩)) w := r1_eq fun w => run_fieldAt of47_0 b i w
theorem fa_47_0p (b i : Nat) (kv : Value → Prop) : Pure1 Tryz.prog (Instr.fieldAt 47 (.pointer (some ⟨b, i, none⟩)) 0) kv = kv (.pointer (some ⟨b, i + 0, none⟩)) := rp_eq fun w => run_fieldAt of47_0 b i w
theorem fa_47_1 (b i : Nat) (Z : List PanicEntry → World → Prop) (w : World) (kk : Value → World → Prop) : run1 Tryz.prog Z (Instr.fieldAt 47 (.pointer (some ⟨b, i, none⟩)) 1) w kk = kk (.pointer (some ⟨b, i + 1, none⟩)) w := r1_eq fun w => run_fieldAt of47_1 b i w
theorem fa_47_1p (b i : Nat) (kv : Value → Prop) : Pure1 Tryz.prog (Instr.fieldAt 47 (.pointer (some ⟨b, i, none⟩)) 1) kv = kv (.pointer (some ⟨b, i + 1, none⟩)) := rp_eq fun w => run_fieldAt of47_1 b i w
theorem fa_47_4 (b i : Nat) (Z : List PanicEntry → World → Prop) (w : World) (kk : Value → World → Prop) : run1 Tryz.prog Z (Instr.fieldAt 47 (.pointer (some ⟨b, i, none⟩)) 4) w kk = kk (.pointer (some ⟨b, i + 4, none⟩)) w := r1_eq fun w => run_fieldAt of47_4 b i w
theorem fa_47_4p (b i : Nat) (kv : Value → Prop) : Pure1 Tryz.prog (Instr.fieldAt 47 (.pointer (some ⟨b, i, none⟩)) 4) kv = kv (.pointer (some ⟨b, i + 4, none⟩)) := rp_eq fun w => run_fieldAt of47_4 b i w
theorem fa_47_5 (b i : Nat) (Z : List PanicEntry → World → Prop) (w : World) (kk : Value → World → Prop) : run1 Tryz.prog Z (Instr.fieldAt 47 (.pointer (some ⟨b, i, none⟩)) 5) w kk = kk (.pointer (some ⟨b, i + 5, none⟩)) w := r1_eq fun w => run_fieldAt of47_5 b i w
theorem fa_47_5p (b i : Nat) (kv : Value → Prop) : Pure1 Tryz.prog (Instr.fieldAt 47 (.pointer (some ⟨b, i, none⟩)) 5) kv = kv (.pointer (some ⟨b, i + 5, none⟩)) := rp_eq fun w => run_fieldAt of47_5 b i w
theorem neqb_4 (cx cy a b : Bool) (Z : List PanicEntry → World → Prop) (w : World) (kk : Value → World → Prop) : run1 Tryz.prog Z (eqOp .neq 4 cx cy (.bool a) (.bool b)) w kk = kk (.bool (a != b)) w := r1_eq fun w => run_neq_boolV bo4 cx cy a b w
theorem neqb_4p (cx cy a b : Bool) (kv : Value → Prop) : Pure1 Tryz.prog (eqOp .neq 4 cx cy (.bool a) (.bool b)) kv = kv (.bool (a != b)) := rp_eq fun w => run_neq_boolV bo4 cx cy a b w
theorem fa_47_6 (b i : Nat) (Z : List PanicEntry → World → Prop) (w : World) (kk : Value → World → Prop) : run1 Tryz.prog Z (Instr.fieldAt 47 (.pointer (some ⟨b, i, none⟩)) 6) w kk = kk (.pointer (some ⟨b, i + 6, none⟩)) w := r1_eq fun w => run_fieldAt of47_6 b i w
theorem fa_47_6p (b i : Nat) (kv : Value → Prop) : Pure1 Tryz.prog (Instr.fieldAt 47 (.pointer (some ⟨b, i, none⟩)) 6) kv = kv (.pointer (some ⟨b, i + 6, none⟩)) := rp_eq fun w => run_fieldAt of47_6 b i w
theorem fa_47_7 (b i : Nat) (Z : List PanicEntry → World → Prop) (w : World) (kk : Value → World → Prop) : run1 Tryz.prog Z (Instr.fieldAt 47 (.pointer (some ⟨b, i, none⟩)) 7) w kk = kk (.pointer (some ⟨b, i + 7, none⟩)) w := r1_eq fun w => run_fieldAt of47_7 b i w
theorem fa_47_7p (b i : Nat) (kv : Value → Prop) : Pure1 Tryz.prog (Instr.fieldAt 47 (.pointer (some ⟨b, i, none⟩)) 7) kv = kv (.pointer (some ⟨b, i + 7, none⟩)) := rp_eq fun w => run_fieldAt of47_7 b i w
theorem fa_47_8 (b i : Nat) (Z : List PanicEntry → World → Prop) (w : World) (kk : Value → World → Prop) : run1 Tryz.prog Z (Instr.fieldAt 47 (.pointer (some ⟨b, i, none⟩)) 8) w kk = kk (.pointer (some ⟨b, i + 8, none⟩)) w := r1_eq fun w => run_fieldAt of47_8 b i w
theorem fa_47_8p (b i : Nat) (kv : Value → Prop) : Pure1 Tryz.prog (Instr.fieldAt 47 (.pointer (some ⟨b, i, none⟩)) 8) kv = kv (.pointer (some ⟨b, i + 8, none⟩)) := rp_eq fun w => run_fieldAt of47_8 b i w
theorem cv_3_5 (q : IntKind) (n : Int) (Z : List PanicEntry → World → Prop) (w : World) (kk : Value → World → Prop) : run1 Tryz.prog Z (convert 3 5 (.int q n)) w kk = kk (.int .u8 (IntKind.u8.wrap n)) w := r1_eq fun w => run_conv_int (by kernel_rfl) it5 q n w
theorem cv_3_5p (q : IntKind) (n : Int) (kv : Value → Prop) : Pure1 Tryz.prog (convert 3 5 (.int q n)) kv = kv (.int .u8 (IntKind.u8.wrap n)) := rp_eq fun w => run_conv_int (by kernel_rfl) it5 q n w
theorem fa_99_1 (b i : Nat) (Z : List PanicEntry → World → Prop) (w : World) (kk : Value → World → Prop) : run1 Tryz.prog Z (Instr.fieldAt 99 (.pointer (some ⟨b, i, none⟩)) 1) w kk = kk (.pointer (some ⟨b, i + 1, none⟩)) w := r1_eq fun w => run_fieldAt of99_1 b i w
theorem fa_99_1p (b i : Nat) (kv : Value → Prop) : Pure1 Tryz.prog (Instr.fieldAt 99 (.pointer (some ⟨b, i, none⟩)) 1) kv = kv (.pointer (some ⟨b, i + 1, none⟩)) := rp_eq fun w => run_fieldAt of99_1 b i w
theorem fa_97_1 (b i : Nat) (Z : List PanicEntry → World → Prop) (w : World) (kk : Value → World → Prop) : run1 Tryz.prog Z (Instr.fieldAt 97 (.pointer (some ⟨b, i, none⟩)) 1) w kk = kk (.pointer (some ⟨b, i + 1, none⟩)) w := r1_eq fun w => run_fieldAt of97_1 b i w
theorem fa_97_1p (b i : Nat) (kv : Value → Prop) : Pure1 Tryz.prog (Instr.fieldAt 97 (.pointer (some ⟨b, i, none⟩)) 1) kv = kv (.pointer (some ⟨b, i + 1, none⟩)) := rp_eq fun w => run_fieldAt of97_1 b i w
theorem ln_101_3 (a : Option Addr) (n c : Nat) (Z : List PanicEntry → World → Prop) (w : World) (kk : Value → World → Prop) : run1 Tryz.prog Z (Builtin.len_ #[101] 3 #[.slice a n c]) w kk = kk (.int .i64 n) w := r1_eq fun w => run_lenS sl101 _ rfl _ a n c w
theorem ln_101_3p (a : Option Addr) (n c : Nat) (kv : Value → Prop) : Pure1 Tryz.prog (Builtin.len_ #[101] 3 #[.slice a n c]) kv = kv (.int .i64 n) := rp_eq fun w => run_lenS sl101 _ rfl _ a n c w
theorem cv_22_105 (q : IntKind) (n : Int) (Z : List PanicEntry → World → Prop) (w : World) (kk : Value → World → Prop) : run1 Tryz.prog Z (convert 22 105 (.int q n)) w kk = kk (.int .u64 (IntKind.u64.wrap n)) w := r1_eq fun w => run_conv_int (by kernel_rfl) it105 q n w
theorem cv_22_105p (q : IntKind) (n : Int) (kv : Value → Prop) : Pure1 Tryz.prog (convert 22 105 (.int q n)) kv = kv (.int .u64 (IntKind.u64.wrap n)) := rp_eq fun w => run_conv_int (by kernel_rfl) it105 q n w
theorem cv_32_105 (q : IntKind) (n : Int) (Z : List PanicEntry → World → Prop) (w : World) (kk : Value → World → Prop) : run1 Tryz.prog Z (convert 32 105 (.int q n)) w kk = kk (.int .u64 (IntKind.u64.wrap n)) w := r1_eq fun w => run_conv_int (by kernel_rfl) it105 q n w
theorem cv_32_105p (q : IntKind) (n : Int) (kv : Value → Prop) : Pure1 Tryz.prog (convert 32 105 (.int q n)) kv = kv (.int .u64 (IntKind.u64.wrap n)) := rp_eq fun w => run_conv_int (by kernel_rfl) it105 q n w
theorem cv_2_105 (q : IntKind) (n : Int) (Z : List PanicEntry → World → Prop) (w : World) (kk : Value → World → Prop) : run1 Tryz.prog Z (convert 2 105 (.int q n)) w kk = kk (.int .u64 (IntKind.u64.wrap n)) w := r1_eq fun w => run_conv_int (by kernel_rfl) it105 q n w
theorem cv_2_105p (q : IntKind) (n : Int) (kv : Value → Prop) : Pure1 Tryz.prog (convert 2 105 (.int q n)) kv = kv (.int .u64 (IntKind.u64.wrap n)) := rp_eq fun w => run_conv_int (by kernel_rfl) it105 q n w
theorem eqlp_74 (cx cy : Bool) (a : Addr) (Z : List PanicEntry → World → Prop) (w : World) (kk : Value → World → Prop) : run1 Tryz.prog Z (eqOp .eql 74 cx cy (.pointer (some a)) (.pointer none)) w kk = kk (.bool false) w := r1_eq fun w => run_eql_ptr_nil pt74 cx cy a w
theorem eqlp_74p (cx cy : Bool) (a : Addr) (kv : Value → Prop) : Pure1 Tryz.prog (eqOp .eql 74 cx cy (.pointer (some a)) (.pointer none)) kv = kv (.bool false) := rp_eq fun w => run_eql_ptr_nil pt74 cx cy a w
theorem eqln_74 (cx cy : Bool) (Z : List PanicEntry → World → Prop) (w : World) (kk : Value → World → Prop) : run1 Tryz.prog Z (eqOp .eql 74 cx cy (.pointer none) (.pointer none)) w kk = kk (.bool true) w := r1_eq fun w => run_eqlNN pt74 cx cy w
theorem eqln_74p (cx cy : Bool) (kv : Value → Prop) : Pure1 Tryz.prog (eqOp .eql 74 cx cy (.pointer none) (.pointer none)) kv = kv (.bool true) := rp_eq fun w => run_eqlNN pt74 cx cy w
theorem fa_76_0 (b i : Nat) (Z : List PanicEntry → World → Prop) (w : World) (kk : Value → World → Prop) : run1 Tryz.prog Z (Instr.fieldAt 76 (.pointer (some ⟨b, i, none⟩)) 0) w kk = kk (.pointer (some ⟨b, i + 0, none⟩)) w := r1_eq fun w => run_fieldAt of76_0 b i w
theorem fa_76_0p (b i : Nat) (kv : Value → Prop) : Pure1 Tryz.prog (Instr.fieldAt 76 (.pointer (some ⟨b, i, none⟩)) 0) kv = kv (.pointer (some ⟨b, i + 0, none⟩)) := rp_eq fun w => run_fieldAt of76_0 b i w
theorem cv_22_2 (q : IntKind) (n : Int) (Z : List PanicEntry → World → Prop) (w : World) (kk : Value → World → Prop) : run1 Tryz.prog Z (convert 22 2 (.int q n)) w kk = kk (.int .i64 (IntKind.i64.wrap n)) w := r1_eq fun w => run_conv_int (by kernel_rfl) it2 q n w
theorem cv_22_2p (q : IntKind) (n : Int) (kv : Value → Prop) : Pure1 Tryz.prog (convert 22 2 (.int q n)) kv = kv (.int .i64 (IntKind.i64.wrap n)) := rp_eq fun w => run_conv_int (by kernel_rfl) it2 q n w
theorem cv_32_3 (q : IntKind) (n : Int) (Z : List PanicEntry → World → Prop) (w : World) (kk : Value → World → Prop) : run1 Tryz.prog Z (convert 32 3 (.int q n)) w kk = kk (.int .i64 (IntKind.i64.wrap n)) w := r1_eq fun w => run_conv_int (by kernel_rfl) it3 q n w
theorem cv_32_3p (q : IntKind) (n : Int) (kv : Value → Prop) : Pure1 Tryz.prog (convert 32 3 (.int q n)) kv = kv (.int .i64 (IntKind.i64.wrap n)) := rp_eq fun w => run_conv_int (by kernel_rfl) it3 q n w
theorem ln_9_3 (s : ByteArray) (Z : List PanicEntry → World → Prop) (w : World) (kk : Value → World → Prop) : run1 Tryz.prog Z (Builtin.len_ #[9] 3 #[.string s]) w kk = kk (.int .i64 s.size) w := r1_eq fun w => run_lenStr st9 _ rfl _ s w
theorem ln_9_3p (s : ByteArray) (kv : Value → Prop) : Pure1 Tryz.prog (Builtin.len_ #[9] 3 #[.string s]) kv = kv (.int .i64 s.size) := rp_eq fun w => run_lenStr st9 _ rfl _ s w
theorem cv_3_21 (q : IntKind) (n : Int) (Z : List PanicEntry → World → Prop) (w : World) (kk : Value → World → Prop) : run1 Tryz.prog Z (convert 3 21 (.int q n)) w kk = kk (.int .i32 (IntKind.i32.wrap n)) w := r1_eq fun w => run_conv_int (by kernel_rfl) it21 q n w
theorem cv_3_21p (q : IntKind) (n : Int) (kv : Value → Prop) : Pure1 Tryz.prog (convert 3 21 (.int q n)) kv = kv (.int .i32 (IntKind.i32.wrap n)) := rp_eq fun w => run_conv_int (by kernel_rfl) it21 q n w
theorem fa_99_0 (b i : Nat) (Z : List PanicEntry → World → Prop) (w : World) (kk : Value → World → Prop) : run1 Tryz.prog Z (Instr.fieldAt 99 (.pointer (some ⟨b, i, none⟩)) 0) w kk = kk (.pointer (some ⟨b, i + 0, none⟩)) w := r1_eq fun w => run_fieldAt of99_0 b i w
theorem fa_99_0p (b i : Nat) (kv : Value → Prop) : Pure1 Tryz.prog (Instr.fieldAt 99 (.pointer (some ⟨b, i, none⟩)) 0) kv = kv (.pointer (some ⟨b, i + 0, none⟩)) := rp_eq fun w => run_fieldAt of99_0 b i w
theorem cv_105_5 (q : IntKind) (n : Int) (Z : List PanicEntry → World → Prop) (w : World) (kk : Value → World → Prop) : run1 Tryz.prog Z (convert 105 5 (.int q n)) w kk = kk (.int .u8 (IntKind.u8.wrap n)) w := r1_eq fun w => run_conv_int (by kernel_rfl) it5 q n w
theorem cv_105_5p (q : IntKind) (n : Int) (kv : Value → Prop) : Pure1 Tryz.prog (convert 105 5 (.int q n)) kv = kv (.int .u8 (IntKind.u8.wrap n)) := rp_eq fun w => run_conv_int (by kernel_rfl) it5 q n w
theorem fa_81_0 (b i : Nat) (Z : List PanicEntry → World → Prop) (w : World) (kk : Value → World → Prop) : run1 Tryz.prog Z (Instr.fieldAt 81 (.pointer (some ⟨b, i, none⟩)) 0) w kk = kk (.pointer (some ⟨b, i + 0, none⟩)) w := r1_eq fun w => run_fieldAt of81_0 b i w
theorem fa_81_0p (b i : Nat) (kv : Value → Prop) : Pure1 Tryz.prog (Instr.fieldAt 81 (.pointer (some ⟨b, i, none⟩)) 0) kv = kv (.pointer (some ⟨b, i + 0, none⟩)) := rp_eq fun w => run_fieldAt of81_0 b i w
theorem eqlf_111 (cx cy : Bool) (f : Fn) (a b : Array Value) (Z : List PanicEntry → World → Prop) (w : World) (kk : Value → World → Prop) : run1 Tryz.prog Z (eqOp .eql 111 cx cy (.func f a b) .nilFunc) w kk = kk (.bool false) w := r1_eq fun w => run_eql_func fu111 cx cy f a b w
theorem eqlf_111p (cx cy : Bool) (f : Fn) (a b : Array Value) (kv : Value → Prop) : Pure1 Tryz.prog (eqOp .eql 111 cx cy (.func f a b) .nilFunc) kv = kv (.bool false) := rp_eq fun w => run_eql_func fu111 cx cy f a b w
theorem eqlf0_111 (cx cy : Bool) (Z : List PanicEntry → World → Prop) (w : World) (kk : Value → World → Prop) : run1 Tryz.prog Z (eqOp .eql 111 cx cy .nilFunc .nilFunc) w kk = kk (.bool true) w := r1_eq fun w => run_eql_func0 fu111 cx cy w
theorem eqlf0_111p (cx cy : Bool) (kv : Value → Prop) : Pure1 Tryz.prog (eqOp .eql 111 cx cy .nilFunc .nilFunc) kv = kv (.bool true) := rp_eq fun w => run_eql_func0 fu111 cx cy w
theorem cv_21_105 (q : IntKind) (n : Int) (Z : List PanicEntry → World → Prop) (w : World) (kk : Value → World → Prop) : run1 Tryz.prog Z (convert 21 105 (.int q n)) w kk = kk (.int .u64 (IntKind.u64.wrap n)) w := r1_eq fun w => run_conv_int (by kernel_rfl) it105 q n w
theorem cv_21_105p (q : IntKind) (n : Int) (kv : Value → Prop) : Pure1 Tryz.prog (convert 21 105 (.int q n)) kv = kv (.int .u64 (IntKind.u64.wrap n)) := rp_eq fun w => run_conv_int (by kernel_rfl) it105 q n w
theorem eqlf_115 (cx cy : Bool) (f : Fn) (a b : Array Value) (Z : List PanicEntry → World → Prop) (w : World) (kk : Value → World → Prop) : run1 Tryz.prog Z (eqOp .eql 115 cx cy (.func f a b) .nilFunc) w kk = kk (.bool false) w := r1_eq fun w => run_eql_func fu115 cx cy f a b w
theorem eqlf_115p (cx cy : Bool) (f : Fn) (a b : Array Value) (kv : Value → Prop) : Pure1 Tryz.prog (eqOp .eql 115 cx cy (.func f a b) .nilFunc) kv = kv (.bool false) := rp_eq fun w => run_eql_func fu115 cx cy f a b w
theorem eqlf0_115 (cx cy : Bool) (Z : List PanicEntry → World → Prop) (w : World) (kk : Value → World → Prop) : run1 Tryz.prog Z (eqOp .eql 115 cx cy .nilFunc .nilFunc) w kk = kk (.bool true) w := r1_eq fun w => run_eql_func0 fu115 cx cy w
theorem eqlf0_115p (cx cy : Bool) (kv : Value → Prop) : Pure1 Tryz.prog (eqOp .eql 115 cx cy .nilFunc .nilFunc) kv = kv (.bool true) := rp_eq fun w => run_eql_func0 fu115 cx cy w
theorem fa_97_0 (b i : Nat) (Z : List PanicEntry → World → Prop) (w : World) (kk : Value → World → Prop) : run1 Tryz.prog Z (Instr.fieldAt 97 (.pointer (some ⟨b, i, none⟩)) 0) w kk = kk (.pointer (some ⟨b, i + 0, none⟩)) w := r1_eq fun w => run_fieldAt of97_0 b i w
theorem fa_97_0p (b i : Nat) (kv : Value → Prop) : Pure1 Tryz.prog (Instr.fieldAt 97 (.pointer (some ⟨b, i, none⟩)) 0) kv = kv (.pointer (some ⟨b, i + 0, none⟩)) := rp_eq fun w => run_fieldAt of97_0 b i w
theorem eqlf_82 (cx cy : Bool) (f : Fn) (a b : Array Value) (Z : List PanicEntry → World → Prop) (w : World) (kk : Value → World → Prop) : run1 Tryz.prog Z (eqOp .eql 82 cx cy (.func f a b) .nilFunc) w kk = kk (.bool false) w := r1_eq fun w => run_eql_func fu82 cx cy f a b w
theorem eqlf_82p (cx cy : Bool) (f : Fn) (a b : Array Value) (kv : Value → Prop) : Pure1 Tryz.prog (eqOp .eql 82 cx cy (.func f a b) .nilFunc) kv = kv (.bool false) := rp_eq fun w => run_eql_func fu82 cx cy f a b w
theorem eqlf0_82 (cx cy : Bool) (Z : List PanicEntry → World → Prop) (w : World) (kk : Value → World → Prop) : run1 Tryz.prog Z (eqOp .eql 82 cx cy .nilFunc .nilFunc) w kk = kk (.bool true) w := r1_eq fun w => run_eql_func0 fu82 cx cy w
theorem eqlf0_82p (cx cy : Bool) (kv : Value → Prop) : Pure1 Tryz.prog (eqOp .eql 82 cx cy .nilFunc .nilFunc) kv = kv (.bool true) := rp_eq fun w => run_eql_func0 fu82 cx cy w
theorem cv_21_2 (q : IntKind) (n : Int) (Z : List PanicEntry → World → Prop) (w : World) (kk : Value → World → Prop) : run1 Tryz.prog Z (convert 21 2 (.int q n)) w kk = kk (.int .i64 (IntKind.i64.wrap n)) w := r1_eq fun w => run_conv_int (by kernel_rfl) it2 q n w
theorem cv_21_2p (q : IntKind) (n : Int) (kv : Value → Prop) : Pure1 Tryz.prog (convert 21 2 (.int q n)) kv = kv (.int .i64 (IntKind.i64.wrap n)) := rp_eq fun w => run_conv_int (by kernel_rfl) it2 q n w
theorem neqp_74 (cx cy : Bool) (a : Addr) (Z : List PanicEntry → World → Prop) (w : World) (kk : Value → World → Prop) : run1 Tryz.prog Z (eqOp .neq 74 cx cy (.pointer (some a)) (.pointer none)) w kk = kk (.bool true) w := r1_eq fun w => run_neq_ptr_nil pt74 cx cy a w
theorem neqp_74p (cx cy : Bool) (a : Addr) (kv : Value → Prop) : Pure1 Tryz.prog (eqOp .neq 74 cx cy (.pointer (some a)) (.pointer none)) kv = kv (.bool true) := rp_eq fun w => run_neq_ptr_nil pt74 cx cy a w
theorem neqn_74 (cx cy : Bool) (Z : List PanicEntry → World → Prop) (w : World) (kk : Value → World → Prop) : run1 Tryz.prog Z (eqOp .neq 74 cx cy (.pointer none) (.pointer none)) w kk = kk (.bool false) w := r1_eq fun w => run_neqNN pt74 cx cy w
theorem neqn_74p (cx cy : Bool) (kv : Value → Prop) : Pure1 Tryz.prog (eqOp .neq 74 cx cy (.pointer none) (.pointer none)) kv = kv (.bool false) := rp_eq fun w => run_neqNN pt74 cx cy w
theorem cv_105_22 (q : IntKind) (n : Int) (Z : List PanicEntry → World → Prop) (w : World) (kk : Value → World → Prop) : run1 Tryz.prog Z (convert 105 22 (.int q n)) w kk = kk (.int .u32 (IntKind.u32.wrap n)) w := r1_eq fun w => run_conv_int (by kernel_rfl) it22 q n w
theorem cv_105_22p (q : IntKind) (n : Int) (kv : Value → Prop) : Pure1 Tryz.prog (convert 105 22 (.int q n)) kv = kv (.int .u32 (IntKind.u32.wrap n)) := rp_eq fun w => run_conv_int (by kernel_rfl) it22 q n w
theorem cv_22_5 (q : IntKind) (n : Int) (Z : List PanicEntry → World → Prop) (w : World) (kk : Value → World → Prop) : run1 Tryz.prog Z (convert 22 5 (.int q n)) w kk = kk (.int .u8 (IntKind.u8.wrap n)) w := r1_eq fun w => run_conv_int (by kernel_rfl) it5 q n w
theorem cv_22_5p (q : IntKind) (n : Int) (kv : Value → Prop) : Pure1 Tryz.prog (convert 22 5 (.int q n)) kv = kv (.int .u8 (IntKind.u8.wrap n)) := rp_eq fun w => run_conv_int (by kernel_rfl) it5 q n w
theorem cv_3_106 (q : IntKind) (n : Int) (Z : List PanicEntry → World → Prop) (w : World) (kk : Value → World → Prop) : run1 Tryz.prog Z (convert 3 106 (.int q n)) w kk = kk (.int .u64 (IntKind.u64.wrap n)) w := r1_eq fun w => run_conv_int (by kernel_rfl) it106 q n w
theorem cv_3_106p (q : IntKind) (n : Int) (kv : Value → Prop) : Pure1 Tryz.prog (convert 3 106 (.int q n)) kv = kv (.int .u64 (IntKind.u64.wrap n)) := rp_eq fun w => run_conv_int (by kernel_rfl) it106 q n w
theorem cv_3_105 (q : IntKind) (n : Int) (Z : List PanicEntry → World → Prop) (w : World) (kk : Value → World → Prop) : run1 Tryz.prog Z (convert 3 105 (.int q n)) w kk = kk (.int .u64 (IntKind.u64.wrap n)) w := r1_eq fun w => run_conv_int (by kernel_rfl) it105 q n w
theorem cv_3_105p (q : IntKind) (n : Int) (kv : Value → Prop) : Pure1 Tryz.prog (convert 3 105 (.int q n)) kv = kv (.int .u64 (IntKind.u64.wrap n)) := rp_eq fun w => run_conv_int (by kernel_rfl) it105 q n w
theorem cv_5_3 (q : IntKind) (n : Int) (Z : List PanicEntry → World → Prop) (w : World) (kk : Value → World → Prop) : run1 Tryz.prog Z (convert 5 3 (.int q n)) w kk = kk (.int .i64 (IntKind.i64.wrap n)) w := r1_eq fun w => run_conv_int (by kernel_rfl) it3 q n w
theorem cv_5_3p (q : IntKind) (n : Int) (kv : Value → Prop) : Pure1 Tryz.prog (convert 5 3 (.int q n)) kv = kv (.int .i64 (IntKind.i64.wrap n)) := rp_eq fun w => run_conv_int (by kernel_rfl) it3 q n w
theorem cv_106_22 (q : IntKind) (n : Int) (Z : List PanicEntry → World → Prop) (w : World) (kk : Value → World → Prop) : run1 Tryz.prog Z (convert 106 22 (.int q n)) w kk = kk (.int .u32 (IntKind.u32.wrap n)) w := r1_eq fun w => run_conv_int (by kernel_rfl) it22 q n w
theorem cv_106_22p (q : IntKind) (n : Int) (kv : Value → Prop) : Pure1 Tryz.prog (convert 106 22 (.int q n)) kv = kv (.int .u32 (IntKind.u32.wrap n)) := rp_eq fun w => run_conv_int (by kernel_rfl) it22 q n w
theorem o_add (t : TypeId) (k : IntKind) (x y : Int) (Z : List PanicEntry → World → Prop) (w : World) (kk : Value → World → Prop) : run1 Tryz.prog Z (binOp .add t (.int k x) (.int k y)) w kk = kk (.int k (k.wrap (x + y))) w := r1_eq fun w => run_add _ w t k x y
theorem o_addp (t : TypeId) (k : IntKind) (x y : Int) (kv : Value → Prop) : Pure1 Tryz.prog (binOp .add t (.int k x) (.int k y)) kv = kv (.int k (k.wrap (x + y))) := rp_eq fun w => run_add _ w t k x y
theorem o_sub (t : TypeId) (k : IntKind) (x y : Int) (Z : List PanicEntry → World → Prop) (w : World) (kk : Value → World → Prop) : run1 Tryz.prog Z (binOp .sub t (.int k x) (.int k y)) w kk = kk (.int k (k.wrap (x - y))) w := r1_eq fun w => run_sub _ w t k x y
theorem o_subp (t : TypeId) (k : IntKind) (x y : Int) (kv : Value → Prop) : Pure1 Tryz.prog (binOp .sub t (.int k x) (.int k y)) kv = kv (.int k (k.wrap (x - y))) := rp_eq fun w => run_sub _ w t k x y
theorem o_mul (t : TypeId) (k : IntKind) (x y : Int) (Z : List PanicEntry → World → Prop) (w : World) (kk : Value → World → Prop) : run1 Tryz.prog Z (binOp .mul t (.int k x) (.int k y)) w kk = kk (.int k (k.wrap (x * y))) w := r1_eq fun w => run_mul _ w t k x y
theorem o_mulp (t : TypeId) (k : IntKind) (x y : Int) (kv : Value → Prop) : Pure1 Tryz.prog (binOp .mul t (.int k x) (.int k y)) kv = kv (.int k (k.wrap (x * y))) := rp_eq fun w => run_mul _ w t k x y
theorem o_lss (t : TypeId) (k : IntKind) (x y : Int) (Z : List PanicEntry → World → Prop) (w : World) (kk : Value → World → Prop) : run1 Tryz.prog Z (binOp .lss t (.int k x) (.int k y)) w kk = kk (.bool (decide (x < y))) w := r1_eq fun w => run_lss _ w t k x y
theorem o_lssp (t : TypeId) (k : IntKind) (x y : Int) (kv : Value → Prop) : Pure1 Tryz.prog (binOp .lss t (.int k x) (.int k y)) kv = kv (.bool (decide (x < y))) := rp_eq fun w => run_lss _ w t k x y
theorem o_leq (t : TypeId) (k : IntKind) (x y : Int) (Z : List PanicEntry → World → Prop) (w : World) (kk : Value → World → Prop) : run1 Tryz.prog Z (binOp .leq t (.int k x) (.int k y)) w kk = kk (.bool (decide (x ≤ y))) w := r1_eq fun w => run_leq _ w t k x y
theorem o_leqp (t : TypeId) (k : IntKind) (x y : Int) (kv : Value → Prop) : Pure1 Tryz.prog (binOp .leq t (.int k x) (.int k y)) kv = kv (.bool (decide (x ≤ y))) := rp_eq fun w => run_leq _ w t k x y
theorem o_gtr (t : TypeId) (k : IntKind) (x y : Int) (Z : List PanicEntry → World → Prop) (w : World) (kk : Value → World → Prop) : run1 Tryz.prog Z (binOp .gtr t (.int k x) (.int k y)) w kk = kk (.bool (decide (y < x))) w := r1_eq fun w => run_gtr _ w t k x y
theorem o_gtrp (t : TypeId) (k : IntKind) (x y : Int) (kv : Value → Prop) : Pure1 Tryz.prog (binOp .gtr t (.int k x) (.int k y)) kv = kv (.bool (decide (y < x))) := rp_eq fun w => run_gtr _ w t k x y
theorem o_geq (t : TypeId) (k : IntKind) (x y : Int) (Z : List PanicEntry → World → Prop) (w : World) (kk : Value → World → Prop) : run1 Tryz.prog Z (binOp .geq t (.int k x) (.int k y)) w kk = kk (.bool (decide (y ≤ x))) w := r1_eq fun w => run_geq _ w t k x y
theorem o_geqp (t : TypeId) (k : IntKind) (x y : Int) (kv : Value → Prop) : Pure1 Tryz.prog (binOp .geq t (.int k x) (.int k y)) kv = kv (.bool (decide (y ≤ x))) := rp_eq fun w => run_geq _ w t k x y
theorem o_eql (t : TypeId) (cx cy : Bool) (k : IntKind) (x y : Int) (Z : List PanicEntry → World → Prop) (w : World) (kk : Value → World → Prop) : run1 Tryz.prog Z (eqOp .eql t cx cy (.int k x) (.int k y)) w kk = kk (.bool (x == y)) w := r1_eq fun w => run_eql_int _ w t cx cy k x y
theorem o_eqlp (t : TypeId) (cx cy : Bool) (k : IntKind) (x y : Int) (kv : Value → Prop) : Pure1 Tryz.prog (eqOp .eql t cx cy (.int k x) (.int k y)) kv = kv (.bool (x == y)) := rp_eq fun w => run_eql_int _ w t cx cy k x y
theorem o_neq (t : TypeId) (cx cy : Bool) (k : IntKind) (x y : Int) (Z : List PanicEntry → World → Prop) (w : World) (kk : Value → World → Prop) : run1 Tryz.prog Z (eqOp .neq t cx cy (.int k x) (.int k y)) w kk = kk (.bool (x != y)) w := r1_eq fun w => run_neq_int _ w t cx cy k x y
theorem o_neqp (t : TypeId) (cx cy : Bool) (k : IntKind) (x y : Int) (kv : Value → Prop) : Pure1 Tryz.prog (eqOp .neq t cx cy (.int k x) (.int k y)) kv = kv (.bool (x != y)) := rp_eq fun w => run_neq_int _ w t cx cy k x y
theorem os_eql (t : TypeId) (cx cy : Bool) (a b : ByteArray) (Z : List PanicEntry → World → Prop) (w : World) (kk : Value → World → Prop) : run1 Tryz.prog Z (eqOp .eql t cx cy (.string a) (.string b)) w kk = kk (.bool ((a.toList == b.toList))) w := r1_eq fun w => run_eql_str t cx cy a b w
theorem os_eqlp (t : TypeId) (cx cy : Bool) (a b : ByteArray) (kv : Value → Prop) : Pure1 Tryz.prog (eqOp .eql t cx cy (.string a) (.string b)) kv = kv (.bool ((a.toList == b.toList))) := rp_eq fun w => run_eql_str t cx cy a b w
theorem os_neq (t : TypeId) (cx cy : Bool) (a b : ByteArray) (Z : List PanicEntry → World → Prop) (w : World) (kk : Value → World → Prop) : run1 Tryz.prog Z (eqOp .neq t cx cy (.string a) (.string b)) w kk = kk (.bool (!(a.toList == b.toList))) w := r1_eq fun w => run_neq_str t cx cy a b w
theorem os_neqp (t : TypeId) (cx cy : Bool) (a b : ByteArray) (kv : Value → Prop) : Pure1 Tryz.prog (eqOp .neq t cx cy (.string a) (.string b)) kv = kv (.bool (!(a.toList == b.toList))) := rp_eq fun w => run_neq_str t cx cy a b w
theorem o_and (t : TypeId) (k : IntKind) (x y : Int) (Z : List PanicEntry → World → Prop) (w : World) (kk : Value → World → Prop) : run1 Tryz.prog Z (binOp .and t (.int k x) (.int k y)) w kk = kk (.int k (k.wrap (BitVec.ofInt k.bits x &&& BitVec.ofInt k.bits y).toNat)) w := r1_eq fun w => run_and _ w t k x y
theorem o_andp (t : TypeId) (k : IntKind) (x y : Int) (kv : Value → Prop) : Pure1 Tryz.prog (binOp .and t (.int k x) (.int k y)) kv = kv (.int k (k.wrap (BitVec.ofInt k.bits x &&& BitVec.ofInt k.bits y).toNat)) := rp_eq fun w => run_and _ w t k x y
theorem o_or (t : TypeId) (k : IntKind) (x y : Int) (Z : List PanicEntry → World → Prop) (w : World) (kk : Value → World → Prop) : run1 Tryz.prog Z (binOp .or t (.int k x) (.int k y)) w kk = kk (.int k (k.wrap (BitVec.ofInt k.bits x ||| BitVec.ofInt k.bits y).toNat)) w := r1_eq fun w => run_or _ w t k x y
theorem o_orp (t : TypeId) (k : IntKind) (x y : Int) (kv : Value → Prop) : Pure1 Tryz.prog (binOp .or t (.int k x) (.int k y)) kv = kv (.int k (k.wrap (BitVec.ofInt k.bits x ||| BitVec.ofInt k.bits y).toNat)) := rp_eq fun w => run_or _ w t k x y
theorem o_xor (t : TypeId) (k : IntKind) (x y : Int) (Z : List PanicEntry → World → Prop) (w : World) (kk : Value → World → Prop) : run1 Tryz.prog Z (binOp .xor t (.int k x) (.int k y)) w kk = kk (.int k (k.wrap (BitVec.ofInt k.bits x ^^^ BitVec.ofInt k.bits y).toNat)) w := r1_eq fun w => run_xor _ w t k x y
theorem o_xorp (t : TypeId) (k : IntKind) (x y : Int) (kv : Value → Prop) : Pure1 Tryz.prog (binOp .xor t (.int k x) (.int k y)) kv = kv (.int k (k.wrap (BitVec.ofInt k.bits x ^^^ BitVec.ofInt k.bits y).toNat)) := rp_eq fun w => run_xor _ w t k x y
theorem o_not (b : Bool) (Z : List PanicEntry → World → Prop) (w : World) (kk : Value → World → Prop) : run1 Tryz.prog Z (Op.unary .not (.bool b)) w kk = kk (.bool !b) w := r1_eq fun w => run_not _ w b
theorem o_notp (b : Bool) (kv : Value → Prop) : Pure1 Tryz.prog (Op.unary .not (.bool b)) kv = kv (.bool !b) := rp_eq fun w => run_not _ w b
theorem o_pickT (x y : Value) (Z : List PanicEntry → World → Prop) (w : World) (kk : Value → World → Prop) : run1 Tryz.prog Z (pickV (.bool true) x y) w kk = kk x w := r1_eq fun w => run_pick _ w true x y
theorem o_pickTp (x y : Value) (kv : Value → Prop) : Pure1 Tryz.prog (pickV (.bool true) x y) kv = kv x := rp_eq fun w => run_pick _ w true x y
theorem o_pickF (x y : Value) (Z : List PanicEntry → World → Prop) (w : World) (kk : Value → World → Prop) : run1 Tryz.prog Z (pickV (.bool false) x y) w kk = kk y w := r1_eq fun w => run_pick _ w false x y
theorem o_pickFp (x y : Value) (kv : Value → Prop) : Pure1 Tryz.prog (pickV (.bool false) x y) kv = kv y := rp_eq fun w => run_pick _ w false x y
theorem o_ext1_0 (v0 : Value) (Z : List PanicEntry → World → Prop) (w : World) (kk : Value → World → Prop) : run1 Tryz.prog Z (Instr.extract (.tuple #[v0]) 0) w kk = kk v0 w := r1_eq fun w => run_extract _ w _ 0 _ rfl
theorem o_ext1_0p (v0 : Value) (kv : Value → Prop) : Pure1 Tryz.prog (Instr.extract (.tuple #[v0]) 0) kv = kv v0 := rp_eq fun w => run_extract _ w _ 0 _ rfl
theorem o_ext2_0 (v0 v1 : Value) (Z : List PanicEntry → World → Prop) (w : World) (kk : Value → World → Prop) : run1 Tryz.prog Z (Instr.extract (.tuple #[v0, v1]) 0) w kk = kk v0 w := r1_eq fun w => run_extract _ w _ 0 _ rfl
theorem o_ext2_0p (v0 v1 : Value) (kv : Value → Prop) : Pure1 Tryz.prog (Instr.extract (.tuple #[v0, v1]) 0) kv = kv v0 := rp_eq fun w => run_extract _ w _ 0 _ rfl
theorem o_ext2_1 (v0 v1 : Value) (Z : List PanicEntry → World → Prop) (w : World) (kk : Value → World → Prop) : run1 Tryz.prog Z (Instr.extract (.tuple #[v0, v1]) 1) w kk = kk v1 w := r1_eq fun w => run_extract _ w _ 1 _ rfl
theorem o_ext2_1p (v0 v1 : Value) (kv : Value → Prop) : Pure1 Tryz.prog (Instr.extract (.tuple #[v0, v1]) 1) kv = kv v1 := rp_eq fun w => run_extract _ w _ 1 _ rfl
theorem o_ext3_0 (v0 v1 v2 : Value) (Z : List PanicEntry → World → Prop) (w : World) (kk : Value → World → Prop) : run1 Tryz.prog Z (Instr.extract (.tuple #[v0, v1, v2]) 0) w kk = kk v0 w := r1_eq fun w => run_extract _ w _ 0 _ rfl
theorem o_ext3_0p (v0 v1 v2 : Value) (kv : Value → Prop) : Pure1 Tryz.prog (Instr.extract (.tuple #[v0, v1, v2]) 0) kv = kv v0 := rp_eq fun w => run_extract _ w _ 0 _ rfl
theorem o_ext3_1 (v0 v1 v2 : Value) (Z : List PanicEntry → World → Prop) (w : World) (kk : Value → World → Prop) : run1 Tryz.prog Z (Instr.extract (.tuple #[v0, v1, v2]) 1) w kk = kk v1 w := r1_eq fun w => run_extract _ w _ 1 _ rfl
theorem o_ext3_1p (v0 v1 v2 : Value) (kv : Value → Prop) : Pure1 Tryz.prog (Instr.extract (.tuple #[v0, v1, v2]) 1) kv = kv v1 := rp_eq fun w => run_extract _ w _ 1 _ rfl
theorem o_ext3_2 (v0 v1 v2 : Value) (Z : List PanicEntry → World → Prop) (w : World) (kk : Value → World → Prop) : run1 Tryz.prog Z (Instr.extract (.tuple #[v0, v1, v2]) 2) w kk = kk v2 w := r1_eq fun w => run_extract _ w _ 2 _ rfl
theorem o_ext3_2p (v0 v1 v2 : Value) (kv : Value → Prop) : Pure1 Tryz.prog (Instr.extract (.tuple #[v0, v1, v2]) 2) kv = kv v2 := rp_eq fun w => run_extract _ w _ 2 _ rfl
theorem o_ext4_0 (v0 v1 v2 v3 : Value) (Z : List PanicEntry → World → Prop) (w : World) (kk : Value → World → Prop) : run1 Tryz.prog Z (Instr.extract (.tuple #[v0, v1, v2, v3]) 0) w kk = kk v0 w := r1_eq fun w => run_extract _ w _ 0 _ rfl
theorem o_ext4_0p (v0 v1 v2 v3 : Value) (kv : Value → Prop) : Pure1 Tryz.prog (Instr.extract (.tuple #[v0, v1, v2, v3]) 0) kv = kv v0 := rp_eq fun w => run_extract _ w _ 0 _ rfl
theorem o_ext4_1 (v0 v1 v2 v3 : Value) (Z : List PanicEntry → World → Prop) (w : World) (kk : Value → World → Prop) : run1 Tryz.prog Z (Instr.extract (.tuple #[v0, v1, v2, v3]) 1) w kk = kk v1 w := r1_eq fun w => run_extract _ w _ 1 _ rfl
theorem o_ext4_1p (v0 v1 v2 v3 : Value) (kv : Value → Prop) : Pure1 Tryz.prog (Instr.extract (.tuple #[v0, v1, v2, v3]) 1) kv = kv v1 := rp_eq fun w => run_extract _ w _ 1 _ rfl
theorem o_ext4_2 (v0 v1 v2 v3 : Value) (Z : List PanicEntry → World → Prop) (w : World) (kk : Value → World → Prop) : run1 Tryz.prog Z (Instr.extract (.tuple #[v0, v1, v2, v3]) 2) w kk = kk v2 w := r1_eq fun w => run_extract _ w _ 2 _ rfl
theorem o_ext4_2p (v0 v1 v2 v3 : Value) (kv : Value → Prop) : Pure1 Tryz.prog (Instr.extract (.tuple #[v0, v1, v2, v3]) 2) kv = kv v2 := rp_eq fun w => run_extract _ w _ 2 _ rfl
theorem o_ext4_3 (v0 v1 v2 v3 : Value) (Z : List PanicEntry → World → Prop) (w : World) (kk : Value → World → Prop) : run1 Tryz.prog Z (Instr.extract (.tuple #[v0, v1, v2, v3]) 3) w kk = kk v3 w := r1_eq fun w => run_extract _ w _ 3 _ rfl
theorem o_ext4_3p (v0 v1 v2 v3 : Value) (kv : Value → Prop) : Pure1 Tryz.prog (Instr.extract (.tuple #[v0, v1, v2, v3]) 3) kv = kv v3 := rp_eq fun w => run_extract _ w _ 3 _ rfl
theorem o_ext5_0 (v0 v1 v2 v3 v4 : Value) (Z : List PanicEntry → World → Prop) (w : World) (kk : Value → World → Prop) : run1 Tryz.prog Z (Instr.extract (.tuple #[v0, v1, v2, v3, v4]) 0) w kk = kk v0 w := r1_eq fun w => run_extract _ w _ 0 _ rfl
theorem o_ext5_0p (v0 v1 v2 v3 v4 : Value) (kv : Value → Prop) : Pure1 Tryz.prog (Instr.extract (.tuple #[v0, v1, v2, v3, v4]) 0) kv = kv v0 := rp_eq fun w => run_extract _ w _ 0 _ rfl
theorem o_ext5_1 (v0 v1 v2 v3 v4 : Value) (Z : List PanicEntry → World → Prop) (w : World) (kk : Value → World → Prop) : run1 Tryz.prog Z (Instr.extract (.tuple #[v0, v1, v2, v3, v4]) 1) w kk = kk v1 w := r1_eq fun w => run_extract _ w _ 1 _ rfl
theorem o_ext5_1p (v0 v1 v2 v3 v4 : Value) (kv : Value → Prop) : Pure1 Tryz.prog (Instr.extract (.tuple #[v0, v1, v2, v3, v4]) 1) kv = kv v1 := rp_eq fun w => run_extract _ w _ 1 _ rfl
theorem o_ext5_2 (v0 v1 v2 v3 v4 : Value) (Z : List PanicEntry → World → Prop) (w : World) (kk : Value → World → Prop) : run1 Tryz.prog Z (Instr.extract (.tuple #[v0, v1, v2, v3, v4]) 2) w kk = kk v2 w := r1_eq fun w => run_extract _ w _ 2 _ rfl
theorem o_ext5_2p (v0 v1 v2 v3 v4 : Value) (kv : Value → Prop) : Pure1 Tryz.prog (Instr.extract (.tuple #[v0, v1, v2, v3, v4]) 2) kv = kv v2 := rp_eq fun w => run_extract _ w _ 2 _ rfl
theorem o_ext5_3 (v0 v1 v2 v3 v4 : Value) (Z : List PanicEntry → World → Prop) (w : World) (kk : Value → World → Prop) : run1 Tryz.prog Z (Instr.extract (.tuple #[v0, v1, v2, v3, v4]) 3) w kk = kk v3 w := r1_eq fun w => run_extract _ w _ 3 _ rfl
theorem o_ext5_3p (v0 v1 v2 v3 v4 : Value) (kv : Value → Prop) : Pure1 Tryz.prog (Instr.extract (.tuple #[v0, v1, v2, v3, v4]) 3) kv = kv v3 := rp_eq fun w => run_extract _ w _ 3 _ rfl
theorem o_ext5_4 (v0 v1 v2 v3 v4 : Value) (Z : List PanicEntry → World → Prop) (w : World) (kk : Value → World → Prop) : run1 Tryz.prog Z (Instr.extract (.tuple #[v0, v1, v2, v3, v4]) 4) w kk = kk v4 w := r1_eq fun w => run_extract _ w _ 4 _ rfl
theorem o_ext5_4p (v0 v1 v2 v3 v4 : Value) (kv : Value → Prop) : Pure1 Tryz.prog (Instr.extract (.tuple #[v0, v1, v2, v3, v4]) 4) kv = kv v4 := rp_eq fun w => run_extract _ w _ 4 _ rfl
theorem o_max (ts : Array TypeId) (t : TypeId) (k k' : IntKind) (x y : Int) (Z : List PanicEntry → World → Prop) (w : World) (kk : Value → World → Prop) : run1 Tryz.prog Z (Builtin.max_ ts t #[.int k x, .int k' y]) w kk = kk (.int k (max x y)) w := r1_eq fun w => run_maxV ts t k k' x y w
theorem o_maxp (ts : Array TypeId) (t : TypeId) (k k' : IntKind) (x y : Int) (kv : Value → Prop) : Pure1 Tryz.prog (Builtin.max_ ts t #[.int k x, .int k' y]) kv = kv (.int k (max x y)) := rp_eq fun w => run_maxV ts t k k' x y w
theorem o_min (ts : Array TypeId) (t : TypeId) (k k' : IntKind) (x y : Int) (Z : List PanicEntry → World → Prop) (w : World) (kk : Value → World → Prop) : run1 Tryz.prog Z (Builtin.min_ ts t #[.int k x, .int k' y]) w kk = kk (.int k (min x y)) w := r1_eq fun w => run_minV ts t k k' x y w
theorem o_minp (ts : Array TypeId) (t : TypeId) (k k' : IntKind) (x y : Int) (kv : Value → Prop) : Pure1 Tryz.prog (Builtin.min_ ts t #[.int k x, .int k' y]) kv = kv (.int k (min x y)) := rp_eq fun w => run_minV ts t k k' x y w
theorem o_fn (fn : Fn) (a b : Array Value) (Z : List PanicEntry → World → Prop) (w : World) (kk : Value → World → Prop) : run1 Tryz.prog Z (Instr.makeFunc fn a b) w kk = kk (.func fn a b) w := r1_eq fun w => run_makeFunc _ w fn a b
theorem o_fnp (fn : Fn) (a b : Array Value) (kv : Value → Prop) : Pure1 Tryz.prog (Instr.makeFunc fn a b) kv = kv (.func fn a b) := rp_eq fun w => run_makeFunc _ w fn a b
theorem o_chk (a : Addr) (Z : List PanicEntry → World → Prop) (w : World) (kk : Value → World → Prop) : runX Tryz.prog Z (nilChk (.pointer (some a))) w kk = kk (.pointer (some a)) w := rX_eq fun w => run_nilChk _ w a
theorem o_chkp (a : Addr) (kv : Value → Prop) : PureV Tryz.prog (nilChk (.pointer (some a))) kv = kv (.pointer (some a)) := rpV_eq fun w => run_nilChk _ w a
end Go.Proofs.YtoeamecdkimgaaaGreatDoor
