import Derived.Test.YtoeamecdkimgaaaDoorShOpen
import Derived.Test.YtoeamecdkimgaaaDoorProg
set_option linter.unusedVariables false
namespace Go.Proofs.YtoeamecdkimgaaaDoor
open Go.Sh
theorem fu1 : isFuncT Tryd.prog 1 = true := by kernel_rfl
theorem one1 : oneT Tryd.prog 1 = true := by kernel_rfl
theorem ze1 : zeroT Tryd.prog 1 = some .nilFunc := by kernel_rfl
theorem it2 : intT Tryd.prog 2 = some .i64 := by kernel_rfl
theorem one2 : oneT Tryd.prog 2 = true := by kernel_rfl
theorem ze2 : zeroT Tryd.prog 2 = some (.int .i64 0) := by kernel_rfl
theorem it3 : intT Tryd.prog 3 = some .i64 := by kernel_rfl
theorem one3 : oneT Tryd.prog 3 = true := by kernel_rfl
theorem ze3 : zeroT Tryd.prog 3 = some (.int .i64 0) := by kernel_rfl
theorem bo4 : isBoolT Tryd.prog 4 = true := by kernel_rfl
theorem one4 : oneT Tryd.prog 4 = true := by kernel_rfl
theorem ze4 : zeroT Tryd.prog 4 = some (.bool false) := by kernel_rfl
theorem it5 : intT Tryd.prog 5 = some .u8 := by kernel_rfl
theorem one5 : oneT Tryd.prog 5 = true := by kernel_rfl
theorem ze5 : zeroT Tryd.prog 5 = some (.int .u8 0) := by kernel_rfl
theorem it6 : intT Tryd.prog 6 = some .u8 := by kernel_rfl
theorem one6 : oneT Tryd.prog 6 = true := by kernel_rfl
theorem ze6 : zeroT Tryd.prog 6 = some (.int .u8 0) := by kernel_rfl
theorem ag7 : aggT Tryd.prog 7 4 = true := by kernel_rfl
theorem ze7 : zeroT Tryd.prog 7 = some (.agg #[(.int .i64 0), (.int .i64 0), (.bool false), (.int .u8 0)]) := by kernel_rfl
theorem of7_0 : offT Tryd.prog 7 0 = some 0 := by kernel_rfl
theorem of7_1 : offT Tryd.prog 7 1 = some 1 := by kernel_rfl
theorem of7_2 : offT Tryd.prog 7 2 = some 2 := by kernel_rfl
theorem of7_3 : offT Tryd.prog 7 3 = some 3 := by kernel_rfl
theorem ag8 : aggT Tryd.prog 8 4 = true := by kernel_rfl
theorem ze8 : zeroT Tryd.prog 8 = some (.agg #[(.int .i64 0), (.int .i64 0), (.bool false), (.int .u8 0)]) := by kernel_rfl
theorem of8_0 : offT Tryd.prog 8 0 = some 0 := by kernel_rfl
theorem of8_1 : offT Tryd.prog 8 1 = some 1 := by kernel_rfl
theorem of8_2 : offT Tryd.prog 8 2 = some 2 := by kernel_rfl
theorem of8_3 : offT Tryd.prog 8 3 = some 3 := by kernel_rfl
theorem st9 : isStrT Tryd.prog 9 = true := by kernel_rfl
theorem one9 : oneT Tryd.prog 9 = true := by kernel_rfl
theorem ze9 : zeroT Tryd.prog 9 = some (.string ByteArray.empty) := by kernel_rfl
theorem st10 : isStrT Tryd.prog 10 = true := by kernel_rfl
theorem one10 : oneT Tryd.prog 10 = true := by kernel_rfl
theorem ze10 : zeroT Tryd.prog 10 = some (.string ByteArray.empty) := by kernel_rfl
theorem st11 : isStrT Tryd.prog 11 = true := by kernel_rfl
theorem one11 : oneT Tryd.prog 11 = true := by kernel_rfl
theorem ze11 : zeroT Tryd.prog 11 = some (.string ByteArray.empty) := by kernel_rfl
theorem it12 : intT Tryd.prog 12 = some .u64 := by kernel_rfl
theorem one12 : oneT Tryd.prog 12 = true := by kernel_rfl
theorem ze12 : zeroT Tryd.prog 12 = some (.int .u64 0) := by kernel_rfl
theorem ag13 : aggT Tryd.prog 13 2 = true := by kernel_rfl
theorem ze13 : zeroT Tryd.prog 13 = some (.agg #[(.string ByteArray.empty), (.int .u64 0)]) := by kernel_rfl
theorem of13_0 : offT Tryd.prog 13 0 = some 0 := by kernel_rfl
theorem of13_1 : offT Tryd.prog 13 1 = some 1 := by kernel_rfl
theorem ag14 : aggT Tryd.prog 14 2 = true := by kernel_rfl
theorem ze14 : zeroT Tryd.prog 14 = some (.agg #[(.string ByteArray.empty), (.int .u64 0)]) := by kernel_rfl
theorem of14_0 : offT Tryd.prog 14 0 = some 0 := by kernel_rfl
theorem of14_1 : offT Tryd.prog 14 1 = some 1 := by kernel_rfl
theorem pt15 : isPtrT Tryd.prog 15 = true := by kernel_rfl
theorem one15 : oneT Tryd.prog 15 = true := by kernel_rfl
theorem ze15 : zeroT Tryd.prog 15 = some (.pointer none) := by kernel_rfl
theorem pt16 : isPtrT Tryd.prog 16 = true := by kernel_rfl
theorem one16 : oneT Tryd.prog 16 = true := by kernel_rfl
theorem ze16 : zeroT Tryd.prog 16 = some (.pointer none) := by kernel_rfl
theorem pt17 : isPtrT Tryd.prog 17 = true := by kernel_rfl
theorem one17 : oneT Tryd.prog 17 = true := by kernel_rfl
theorem ze17 : zeroT Tryd.prog 17 = some (.pointer none) := by kernel_rfl
theorem ag18 : aggT Tryd.prog 18 1 = true := by kernel_rfl
theorem ze18 : zeroT Tryd.prog 18 = some (.agg #[(.pointer none)]) := by kernel_rfl
theorem of18_0 : offT Tryd.prog 18 0 = some 0 := by kernel_rfl
theorem ag19 : aggT Tryd.prog 19 1 = true := by kernel_rfl
theorem ze19 : zeroT Tryd.prog 19 = some (.agg #[(.pointer none)]) := by kernel_rfl
theorem of19_0 : offT Tryd.prog 19 0 = some 0 := by kernel_rfl
theorem one20 : oneT Tryd.prog 20 = true := by kernel_rfl
theorem ze20 : zeroT Tryd.prog 20 = some .nilIface := by kernel_rfl
theorem it21 : intT Tryd.prog 21 = some .i32 := by kernel_rfl
theorem one21 : oneT Tryd.prog 21 = true := by kernel_rfl
theorem ze21 : zeroT Tryd.prog 21 = some (.int .i32 0) := by kernel_rfl
theorem sl22 : isSliceT Tryd.prog 22 = true := by kernel_rfl
theorem one22 : oneT Tryd.prog 22 = true := by kernel_rfl
theorem el22 : El Tryd.prog 22 49 16 168 (.agg #[(.int .u32 0), (.int .u32 0), (.int .i8 0), (.int .u32 0), (.int .i64 0), (.int .i8 0), (.string ByteArray.empty), (.slice none 0 0), (.slice none 0 0), (.int .i32 0), (.bool false), (.bool false), (.int .i64 0), (.int .i32 0), (.slice none 0 0), (.slice none 0 0)]) := ⟨Tryd.underlying22, by kernel_rfl, by kernel_rfl, by decide⟩
theorem ze22 : zeroT Tryd.prog 22 = some (.slice none 0 0) := by kernel_rfl
theorem one23 : oneT Tryd.prog 23 = true := by kernel_rfl
theorem ze23 : zeroT Tryd.prog 23 = some (.float .f64 0) := by kernel_rfl
theorem ag24 : aggT Tryd.prog 24 5 = true := by kernel_rfl
theorem ze24 : zeroT Tryd.prog 24 = some (.agg #[(.slice none 0 0), (.slice none 0 0), (.int .i64 0), (.int .i64 0), (.float .f64 0)]) := by kernel_rfl
theorem of24_0 : offT Tryd.prog 24 0 = some 0 := by kernel_rfl
theorem of24_1 : offT Tryd.prog 24 1 = some 1 := by kernel_rfl
theorem of24_2 : offT Tryd.prog 24 2 = some 2 := by kernel_rfl
theorem of24_3 : offT Tryd.prog 24 3 = some 3 := by kernel_rfl
theorem of24_4 : offT Tryd.prog 24 4 = some 4 := by kernel_rfl
theorem ag25 : aggT Tryd.prog 25 5 = true := by kernel_rfl
theorem ze25 : zeroT Tryd.prog 25 = some (.agg #[(.slice none 0 0), (.slice none 0 0), (.int .i64 0), (.int .i64 0), (.float .f64 0)]) := by kernel_rfl
theorem of25_0 : offT Tryd.prog 25 0 = some 0 := by kernel_rfl
theorem of25_1 : offT Tryd.prog 25 1 = some 1 := by kernel_rfl
theorem of25_2 : offT Tryd.prog 25 2 = some 2 := by kernel_rfl
theorem of25_3 : offT Tryd.prog 25 3 = some 3 := by kernel_rfl
theorem of25_4 : offT Tryd.prog 25 4 = some 4 := by kernel_rfl
theorem fu26 : isFuncT Tryd.prog 26 = true := by kernel_rfl
theorem one26 : oneT Tryd.prog 26 = true := by kernel_rfl
theorem ze26 : zeroT Tryd.prog 26 = some .nilFunc := by kernel_rfl
theorem fu27 : isFuncT Tryd.prog 27 = true := by kernel_rfl
theorem one27 : oneT Tryd.prog 27 = true := by kernel_rfl
theorem ze27 : zeroT Tryd.prog 27 = some .nilFunc := by kernel_rfl
theorem it28 : intT Tryd.prog 28 = some .u32 := by kernel_rfl
theorem one28 : oneT Tryd.prog 28 = true := by kernel_rfl
theorem ze28 : zeroT Tryd.prog 28 = some (.int .u32 0) := by kernel_rfl
theorem ag29 : aggT Tryd.prog 29 2 = true := by kernel_rfl
theorem ze29 : zeroT Tryd.prog 29 = some (.agg #[(.int .u32 0), (.int .u32 0)]) := by kernel_rfl
theorem of29_0 : offT Tryd.prog 29 0 = some 0 := by kernel_rfl
theorem of29_1 : offT Tryd.prog 29 1 = some 1 := by kernel_rfl
theorem ag30 : aggT Tryd.prog 30 2 = true := by kernel_rfl
theorem ze30 : zeroT Tryd.prog 30 = some (.agg #[(.int .u32 0), (.int .u32 0)]) := by kernel_rfl
theorem of30_0 : offT Tryd.prog 30 0 = some 0 := by kernel_rfl
theorem of30_1 : offT Tryd.prog 30 1 = some 1 := by kernel_rfl
theorem it31 : intT Tryd.prog 31 = some .i8 := by kernel_rfl
theorem one31 : oneT Tryd.prog 31 = true := by kernel_rfl
theorem ze31 : zeroT Tryd.prog 31 = some (.int .i8 0) := by kernel_rfl
theorem ag32 : aggT Tryd.prog 32 4 = true := by kernel_rfl
theorem ze32 : zeroT Tryd.prog 32 = some (.agg #[(.int .i8 0), (.int .u32 0), (.int .u32 0), (.bool false)]) := by kernel_rfl
theorem of32_0 : offT Tryd.prog 32 0 = some 0 := by kernel_rfl
theorem of32_1 : offT Tryd.prog 32 1 = some 1 := by kernel_rfl
theorem of32_2 : offT Tryd.prog 32 2 = some 3 := by kernel_rfl
theorem ag33 : aggT Tryd.prog 33 4 = true := by kernel_rfl
theorem ze33 : zeroT Tryd.prog 33 = some (.agg #[(.int .i8 0), (.int .u32 0), (.int .u32 0), (.bool false)]) := by kernel_rfl
theorem of33_0 : offT Tryd.prog 33 0 = some 0 := by kernel_rfl
theorem of33_1 : offT Tryd.prog 33 1 = some 1 := by kernel_rfl
theorem of33_2 : offT Tryd.prog 33 2 = some 3 := by kernel_rfl
theorem it34 : intT Tryd.prog 34 = some .i64 := by kernel_rfl
theorem one34 : oneT Tryd.prog 34 = true := by kernel_rfl
theorem ze34 : zeroT Tryd.prog 34 = some (.int .i64 0) := by kernel_rfl
theorem fu36 : isFuncT Tryd.prog 36 = true := by kernel_rfl
theorem one36 : oneT Tryd.prog 36 = true := by kernel_rfl
theorem ze36 : zeroT Tryd.prog 36 = some .nilFunc := by kernel_rfl
theorem fu37 : isFuncT Tryd.prog 37 = true := by kernel_rfl
theorem one37 : oneT Tryd.prog 37 = true := by kernel_rfl
theorem ze37 : zeroT Tryd.prog 37 = some .nilFunc := by kernel_rfl
theorem fu38 : isFuncT Tryd.prog 38 = true := by kernel_rfl
theorem one38 : oneT Tryd.prog 38 = true := by kernel_rfl
theorem ze38 : zeroT Tryd.prog 38 = some .nilFunc := by kernel_rfl
theorem fu39 : isFuncT Tryd.prog 39 = true := by kernel_rfl
theorem one39 : oneT Tryd.prog 39 = true := by kernel_rfl
theorem ze39 : zeroT Tryd.prog 39 = some .nilFunc := by kernel_rfl
theorem ag40 : aggT Tryd.prog 40 3 = true := by kernel_rfl
theorem ze40 : zeroT Tryd.prog 40 = some (.agg #[(.int .i8 0), (.int .u32 0), (.int .i64 0)]) := by kernel_rfl
theorem of40_0 : offT Tryd.prog 40 0 = some 0 := by kernel_rfl
theorem of40_1 : offT Tryd.prog 40 1 = some 1 := by kernel_rfl
theorem of40_2 : offT Tryd.prog 40 2 = some 2 := by kernel_rfl
theorem ag41 : aggT Tryd.prog 41 3 = true := by kernel_rfl
theorem ze41 : zeroT Tryd.prog 41 = some (.agg #[(.int .i8 0), (.int .u32 0), (.int .i64 0)]) := by kernel_rfl
theorem of41_0 : offT Tryd.prog 41 0 = some 0 := by kernel_rfl
theorem of41_1 : offT Tryd.prog 41 1 = some 1 := by kernel_rfl
theorem of41_2 : offT Tryd.prog 41 2 = some 2 := by kernel_rfl
theorem sl42 : isSliceT Tryd.prog 42 = true := by kernel_rfl
theorem one42 : oneT Tryd.prog 42 = true := by kernel_rfl
theorem el42 : El Tryd.prog 42 5 1 1 (.int .u8 0) := ⟨Tryd.underlying42, by kernel_rfl, by kernel_rfl, by decide⟩
theorem ze42 : zeroT Tryd.prog 42 = some (.slice none 0 0) := by kernel_rfl
theorem sl43 : isSliceT Tryd.prog 43 = true := by kernel_rfl
theorem one43 : oneT Tryd.prog 43 = true := by kernel_rfl
theorem el43 : El Tryd.prog 43 116 3 40 (.agg #[(.int .i8 0), (.string ByteArray.empty), (.string ByteArray.empty)]) := ⟨Tryd.underlying43, by kernel_rfl, by kernel_rfl, by decide⟩
theorem ze43 : zeroT Tryd.prog 43 = some (.slice none 0 0) := by kernel_rfl
theorem sl44 : isSliceT Tryd.prog 44 = true := by kernel_rfl
theorem one44 : oneT Tryd.prog 44 = true := by kernel_rfl
theorem el44 : El Tryd.prog 44 114 2 32 (.agg #[(.string ByteArray.empty), (.string ByteArray.empty)]) := ⟨Tryd.underlying44, by kernel_rfl, by kernel_rfl, by decide⟩
theorem ze44 : zeroT Tryd.prog 44 = some (.slice none 0 0) := by kernel_rfl
theorem sl45 : isSliceT Tryd.prog 45 = true := by kernel_rfl
theorem one45 : oneT Tryd.prog 45 = true := by kernel_rfl
theorem el45 : El Tryd.prog 45 47 11 144 (.agg #[(.int .i8 0), (.string ByteArray.empty), (.slice none 0 0), (.slice none 0 0), (.int .i32 0), (.bool false), (.bool false), (.int .i64 0), (.int .i32 0), (.slice none 0 0), (.slice none 0 0)]) := ⟨Tryd.underlying45, by kernel_rfl, by kernel_rfl, by decide⟩
theorem ze45 : zeroT Tryd.prog 45 = some (.slice none 0 0) := by kernel_rfl
theorem ag46 : aggT Tryd.prog 46 11 = true := by kernel_rfl
theorem ze46 : zeroT Tryd.prog 46 = some (.agg #[(.int .i8 0), (.string ByteArray.empty), (.slice none 0 0), (.slice none 0 0), (.int .i32 0), (.bool false), (.bool false), (.int .i64 0), (.int .i32 0), (.slice none 0 0), (.slice none 0 0)]) := by kernel_rfl
theorem of46_0 : offT Tryd.prog 46 0 = some 0 := by kernel_rfl
theorem of46_1 : offT Tryd.prog 46 1 = some 1 := by kernel_rfl
theorem of46_2 : offT Tryd.prog 46 2 = some 2 := by kernel_rfl
theorem of46_3 : offT Tryd.prog 46 3 = some 3 := by kernel_rfl
theorem of46_4 : offT Tryd.prog 46 4 = some 4 := by kernel_rfl
theorem of46_5 : offT Tryd.prog 46 5 = some 5 := by kernel_rfl
theorem of46_6 : offT Tryd.prog 46 6 = some 6 := by kernel_rfl
theorem of46_7 : offT Tryd.prog 46 7 = some 7 := by kernel_rfl
theorem of46_8 : offT Tryd.prog 46 8 = some 8 := by kernel_rfl
theorem of46_9 : offT Tryd.prog 46 9 = some 9 := by kernel_rfl
theorem of46_10 : offT Tryd.prog 46 10 = some 10 := by kernel_rfl
theorem ag47 : aggT Tryd.prog 47 11 = true := by kernel_rfl
theorem ze47 : zeroT Tryd.prog 47 = some (.agg #[(.int .i8 0), (.string ByteArray.empty), (.slice none 0 0), (.slice none 0 0), (.int .i32 0), (.bool false), (.bool false), (.int .i64 0), (.int .i32 0), (.slice none 0 0), (.slice none 0 0)]) := by kernel_rfl
theorem of47_0 : offT Tryd.prog 47 0 = some 0 := by kernel_rfl
theorem of47_1 : offT Tryd.prog 47 1 = some 1 := by kernel_rfl
theorem of47_2 : offT Tryd.prog 47 2 = some 2 := by kernel_rfl
theorem of47_3 : offT Tryd.prog 47 3 = some 3 := by kernel_rfl
theorem of47_4 : offT Tryd.prog 47 4 = some 4 := by kernel_rfl
theorem of47_5 : offT Tryd.prog 47 5 = some 5 := by kernel_rfl
theorem of47_6 : offT Tryd.prog 47 6 = some 6 := by kernel_rfl
theorem of47_7 : offT Tryd.prog 47 7 = some 7 := by kernel_rfl
theorem of47_8 : offT Tryd.prog 47 8 = some 8 := by kernel_rfl
theorem of47_9 : offT Tryd.prog 47 9 = some 9 := by kernel_rfl
theorem of47_10 : offT Tryd.prog 47 10 = some 10 := by kernel_rfl
theorem ag48 : aggT Tryd.prog 48 16 = true := by kernel_rfl
theorem ze48 : zeroT Tryd.prog 48 = some (.agg #[(.int .u32 0), (.int .u32 0), (.int .i8 0), (.int .u32 0), (.int .i64 0), (.int .i8 0), (.string ByteArray.empty), (.slice none 0 0), (.slice none 0 0), (.int .i32 0), (.bool false), (.bool false), (.int .i64 0), (.int .i32 0), (.slice none 0 0), (.slice none 0 0)]) := by kernel_rfl
theorem of48_0 : offT Tryd.prog 48 0 = some 0 := by kernel_rfl
theorem of48_1 : offT Tryd.prog 48 1 = some 2 := by kernel_rfl
theorem of48_2 : offT Tryd.prog 48 2 = some 5 := by kernel_rfl
theorem ag49 : aggT Tryd.prog 49 16 = true := by kernel_rfl
theorem ze49 : zeroT Tryd.prog 49 = some (.agg #[(.int .u32 0), (.int .u32 0), (.int .i8 0), (.int .u32 0), (.int .i64 0), (.int .i8 0), (.string ByteArray.empty), (.slice none 0 0), (.slice none 0 0), (.int .i32 0), (.bool false), (.bool false), (.int .i64 0), (.int .i32 0), (.slice none 0 0), (.slice none 0 0)]) := by kernel_rfl
theorem of49_0 : offT Tryd.prog 49 0 = some 0 := by kernel_rfl
theorem of49_1 : offT Tryd.prog 49 1 = some 2 := by kernel_rfl
theorem of49_2 : offT Tryd.prog 49 2 = some 5 := by kernel_rfl
theorem fu50 : isFuncT Tryd.prog 50 = true := by kernel_rfl
theorem one50 : oneT Tryd.prog 50 = true := by kernel_rfl
theorem ze50 : zeroT Tryd.prog 50 = some .nilFunc := by kernel_rfl
theorem fu51 : isFuncT Tryd.prog 51 = true := by kernel_rfl
theorem one51 : oneT Tryd.prog 51 = true := by kernel_rfl
theorem ze51 : zeroT Tryd.prog 51 = some .nilFunc := by kernel_rfl
theorem fu52 : isFuncT Tryd.prog 52 = true := by kernel_rfl
theorem one52 : oneT Tryd.prog 52 = true := by kernel_rfl
theorem ze52 : zeroT Tryd.prog 52 = some .nilFunc := by kernel_rfl
theorem ag53 : aggT Tryd.prog 53 8 = true := by kernel_rfl
theorem ze53 : zeroT Tryd.prog 53 = some (.agg #[(.int .u32 0), (.int .u32 0), (.int .u32 0), (.int .u32 0), (.slice none 0 0), (.int .i64 0), (.int .i64 0), (.float .f64 0)]) := by kernel_rfl
theorem of53_0 : offT Tryd.prog 53 0 = some 0 := by kernel_rfl
theorem of53_1 : offT Tryd.prog 53 1 = some 2 := by kernel_rfl
theorem of53_2 : offT Tryd.prog 53 2 = some 4 := by kernel_rfl
theorem of53_3 : offT Tryd.prog 53 3 = some 5 := by kernel_rfl
theorem of53_4 : offT Tryd.prog 53 4 = some 6 := by kernel_rfl
theorem of53_5 : offT Tryd.prog 53 5 = some 7 := by kernel_rfl
theorem ag54 : aggT Tryd.prog 54 8 = true := by kernel_rfl
theorem ze54 : zeroT Tryd.prog 54 = some (.agg #[(.int .u32 0), (.int .u32 0), (.int .u32 0), (.int .u32 0), (.slice none 0 0), (.int .i64 0), (.int .i64 0), (.float .f64 0)]) := by kernel_rfl
theorem of54_0 : offT Tryd.prog 54 0 = some 0 := by kernel_rfl
theorem of54_1 : offT Tryd.prog 54 1 = some 2 := by kernel_rfl
theorem of54_2 : offT Tryd.prog 54 2 = some 4 := by kernel_rfl
theorem of54_3 : offT Tryd.prog 54 3 = some 5 := by kernel_rfl
theorem of54_4 : offT Tryd.prog 54 4 = some 6 := by kernel_rfl
theorem of54_5 : offT Tryd.prog 54 5 = some 7 := by kernel_rfl
theorem fu55 : isFuncT Tryd.prog 55 = true := by kernel_rfl
theorem one55 : oneT Tryd.prog 55 = true := by kernel_rfl
theorem ze55 : zeroT Tryd.prog 55 = some .nilFunc := by kernel_rfl
theorem fu56 : isFuncT Tryd.prog 56 = true := by kernel_rfl
theorem one56 : oneT Tryd.prog 56 = true := by kernel_rfl
theorem ze56 : zeroT Tryd.prog 56 = some .nilFunc := by kernel_rfl
theorem fu57 : isFuncT Tryd.prog 57 = true := by kernel_rfl
theorem one57 : oneT Tryd.prog 57 = true := by kernel_rfl
theorem ze57 : zeroT Tryd.prog 57 = some .nilFunc := by kernel_rfl
theorem fu58 : isFuncT Tryd.prog 58 = true := by kernel_rfl
theorem one58 : oneT Tryd.prog 58 = true := by kernel_rfl
theorem ze58 : zeroT Tryd.prog 58 = some .nilFunc := by kernel_rfl
theorem fu59 : isFuncT Tryd.prog 59 = true := by kernel_rfl
theorem one59 : oneT Tryd.prog 59 = true := by kernel_rfl
theorem ze59 : zeroT Tryd.prog 59 = some .nilFunc := by kernel_rfl
theorem fu60 : isFuncT Tryd.prog 60 = true := by kernel_rfl
theorem one60 : oneT Tryd.prog 60 = true := by kernel_rfl
theorem ze60 : zeroT Tryd.prog 60 = some .nilFunc := by kernel_rfl
theorem fu61 : isFuncT Tryd.prog 61 = true := by kernel_rfl
theorem one61 : oneT Tryd.prog 61 = true := by kernel_rfl
theorem ze61 : zeroT Tryd.prog 61 = some .nilFunc := by kernel_rfl
theorem fu62 : isFuncT Tryd.prog 62 = true := by kernel_rfl
theorem one62 : oneT Tryd.prog 62 = true := by kernel_rfl
theorem ze62 : zeroT Tryd.prog 62 = some .nilFunc := by kernel_rfl
theorem fu63 : isFuncT Tryd.prog 63 = true := by kernel_rfl
theorem one63 : oneT Tryd.prog 63 = true := by kernel_rfl
theorem ze63 : zeroT Tryd.prog 63 = some .nilFunc := by kernel_rfl
theorem fu64 : isFuncT Tryd.prog 64 = true := by kernel_rfl
theorem one64 : oneT Tryd.prog 64 = true := by kernel_rfl
theorem ze64 : zeroT Tryd.prog 64 = some .nilFunc := by kernel_rfl
theorem fu65 : isFuncT Tryd.prog 65 = true := by kernel_rfl
theorem one65 : oneT Tryd.prog 65 = true := by kernel_rfl
theorem ze65 : zeroT Tryd.prog 65 = some .nilFunc := by kernel_rfl
theorem fu66 : isFuncT Tryd.prog 66 = true := by kernel_rfl
theorem one66 : oneT Tryd.prog 66 = true := by kernel_rfl
theorem ze66 : zeroT Tryd.prog 66 = some .nilFunc := by kernel_rfl
theorem fu67 : isFuncT Tryd.prog 67 = true := by kernel_rfl
theorem one67 : oneT Tryd.prog 67 = true := by kernel_rfl
theorem ze67 : zeroT Tryd.prog 67 = some .nilFunc := by kernel_rfl
theorem fu68 : isFuncT Tryd.prog 68 = true := by kernel_rfl
theorem one68 : oneT Tryd.prog 68 = true := by kernel_rfl
theorem ze68 : zeroT Tryd.prog 68 = some .nilFunc := by kernel_rfl
theorem fu70 : isFuncT Tryd.prog 70 = true := by kernel_rfl
theorem one70 : oneT Tryd.prog 70 = true := by kernel_rfl
theorem ze70 : zeroT Tryd.prog 70 = some .nilFunc := by kernel_rfl
theorem fu71 : isFuncT Tryd.prog 71 = true := by kernel_rfl
theorem one71 : oneT Tryd.prog 71 = true := by kernel_rfl
theorem ze71 : zeroT Tryd.prog 71 = some .nilFunc := by kernel_rfl
theorem fu72 : isFuncT Tryd.prog 72 = true := by kernel_rfl
theorem one72 : oneT Tryd.prog 72 = true := by kernel_rfl
theorem ze72 : zeroT Tryd.prog 72 = some .nilFunc := by kernel_rfl
theorem fu73 : isFuncT Tryd.prog 73 = true := by kernel_rfl
theorem one73 : oneT Tryd.prog 73 = true := by kernel_rfl
theorem ze73 : zeroT Tryd.prog 73 = some .nilFunc := by kernel_rfl
theorem fu74 : isFuncT Tryd.prog 74 = true := by kernel_rfl
theorem one74 : oneT Tryd.prog 74 = true := by kernel_rfl
theorem ze74 : zeroT Tryd.prog 74 = some .nilFunc := by kernel_rfl
theorem fu75 : isFuncT Tryd.prog 75 = true := by kernel_rfl
theorem one75 : oneT Tryd.prog 75 = true := by kernel_rfl
theorem ze75 : zeroT Tryd.prog 75 = some .nilFunc := by kernel_rfl
theorem fu76 : isFuncT Tryd.prog 76 = true := by kernel_rfl
theorem one76 : oneT Tryd.prog 76 = true := by kernel_rfl
theorem ze76 : zeroT Tryd.prog 76 = some .nilFunc := by kernel_rfl
theorem pt77 : isPtrT Tryd.prog 77 = true := by kernel_rfl
theorem one77 : oneT Tryd.prog 77 = true := by kernel_rfl
theorem ze77 : zeroT Tryd.prog 77 = some (.pointer none) := by kernel_rfl
theorem ag78 : aggT Tryd.prog 78 1 = true := by kernel_rfl
theorem ze78 : zeroT Tryd.prog 78 = some (.agg #[(.slice none 0 0)]) := by kernel_rfl
theorem of78_0 : offT Tryd.prog 78 0 = some 0 := by kernel_rfl
theorem ag79 : aggT Tryd.prog 79 1 = true := by kernel_rfl
theorem ze79 : zeroT Tryd.prog 79 = some (.agg #[(.slice none 0 0)]) := by kernel_rfl
theorem of79_0 : offT Tryd.prog 79 0 = some 0 := by kernel_rfl
theorem fu80 : isFuncT Tryd.prog 80 = true := by kernel_rfl
theorem one80 : oneT Tryd.prog 80 = true := by kernel_rfl
theorem ze80 : zeroT Tryd.prog 80 = some .nilFunc := by kernel_rfl
theorem fu81 : isFuncT Tryd.prog 81 = true := by kernel_rfl
theorem one81 : oneT Tryd.prog 81 = true := by kernel_rfl
theorem ze81 : zeroT Tryd.prog 81 = some .nilFunc := by kernel_rfl
theorem fu82 : isFuncT Tryd.prog 82 = true := by kernel_rfl
theorem one82 : oneT Tryd.prog 82 = true := by kernel_rfl
theorem ze82 : zeroT Tryd.prog 82 = some .nilFunc := by kernel_rfl
theorem ag83 : aggT Tryd.prog 83 1 = true := by kernel_rfl
theorem ze83 : zeroT Tryd.prog 83 = some (.agg #[(.bool false)]) := by kernel_rfl
theorem of83_0 : offT Tryd.prog 83 0 = some 0 := by kernel_rfl
theorem ag84 : aggT Tryd.prog 84 1 = true := by kernel_rfl
theorem ze84 : zeroT Tryd.prog 84 = some (.agg #[(.bool false)]) := by kernel_rfl
theorem of84_0 : offT Tryd.prog 84 0 = some 0 := by kernel_rfl
theorem fu85 : isFuncT Tryd.prog 85 = true := by kernel_rfl
theorem one85 : oneT Tryd.prog 85 = true := by kernel_rfl
theorem ze85 : zeroT Tryd.prog 85 = some .nilFunc := by kernel_rfl
theorem fu86 : isFuncT Tryd.prog 86 = true := by kernel_rfl
theorem one86 : oneT Tryd.prog 86 = true := by kernel_rfl
theorem ze86 : zeroT Tryd.prog 86 = some .nilFunc := by kernel_rfl
theorem fu87 : isFuncT Tryd.prog 87 = true := by kernel_rfl
theorem one87 : oneT Tryd.prog 87 = true := by kernel_rfl
theorem ze87 : zeroT Tryd.prog 87 = some .nilFunc := by kernel_rfl
theorem fu88 : isFuncT Tryd.prog 88 = true := by kernel_rfl
theorem one88 : oneT Tryd.prog 88 = true := by kernel_rfl
theorem ze88 : zeroT Tryd.prog 88 = some .nilFunc := by kernel_rfl
theorem fu89 : isFuncT Tryd.prog 89 = true := by kernel_rfl
theorem one89 : oneT Tryd.prog 89 = true := by kernel_rfl
theorem ze89 : zeroT Tryd.prog 89 = some .nilFunc := by kernel_rfl
theorem fu90 : isFuncT Tryd.prog 90 = true := by kernel_rfl
theorem one90 : oneT Tryd.prog 90 = true := by kernel_rfl
theorem ze90 : zeroT Tryd.prog 90 = some .nilFunc := by kernel_rfl
theorem fu91 : isFuncT Tryd.prog 91 = true := by kernel_rfl
theorem one91 : oneT Tryd.prog 91 = true := by kernel_rfl
theorem ze91 : zeroT Tryd.prog 91 = some .nilFunc := by kernel_rfl
theorem fu92 : isFuncT Tryd.prog 92 = true := by kernel_rfl
theorem one92 : oneT Tryd.prog 92 = true := by kernel_rfl
theorem ze92 : zeroT Tryd.prog 92 = some .nilFunc := by kernel_rfl
theorem fu93 : isFuncT Tryd.prog 93 = true := by kernel_rfl
theorem one93 : oneT Tryd.prog 93 = true := by kernel_rfl
theorem ze93 : zeroT Tryd.prog 93 = some .nilFunc := by kernel_rfl
theorem fu94 : isFuncT Tryd.prog 94 = true := by kernel_rfl
theorem one94 : oneT Tryd.prog 94 = true := by kernel_rfl
theorem ze94 : zeroT Tryd.prog 94 = some .nilFunc := by kernel_rfl
theorem fu95 : isFuncT Tryd.prog 95 = true := by kernel_rfl
theorem one95 : oneT Tryd.prog 95 = true := by kernel_rfl
theorem ze95 : zeroT Tryd.prog 95 = some .nilFunc := by kernel_rfl
theorem sl96 : isSliceT Tryd.prog 96 = true := by kernel_rfl
theorem one96 : oneT Tryd.prog 96 = true := by kernel_rfl
theorem el96 : El Tryd.prog 96 3 1 8 (.int .i64 0) := ⟨Tryd.underlying96, by kernel_rfl, by kernel_rfl, by decide⟩
theorem ze96 : zeroT Tryd.prog 96 = some (.slice none 0 0) := by kernel_rfl
theorem fu97 : isFuncT Tryd.prog 97 = true := by kernel_rfl
theorem one97 : oneT Tryd.prog 97 = true := by kernel_rfl
theorem ze97 : zeroT Tryd.prog 97 = some .nilFunc := by kernel_rfl
theorem fu98 : isFuncT Tryd.prog 98 = true := by kernel_rfl
theorem one98 : oneT Tryd.prog 98 = true := by kernel_rfl
theorem ze98 : zeroT Tryd.prog 98 = some .nilFunc := by kernel_rfl
theorem fu99 : isFuncT Tryd.prog 99 = true := by kernel_rfl
theorem one99 : oneT Tryd.prog 99 = true := by kernel_rfl
theorem ze99 : zeroT Tryd.prog 99 = some .nilFunc := by kernel_rfl
theorem fu100 : isFuncT Tryd.prog 100 = true := by kernel_rfl
theorem one100 : oneT Tryd.prog 100 = true := by kernel_rfl
theorem ze100 : zeroT Tryd.prog 100 = some .nilFunc := by kernel_rfl
theorem fu101 : isFuncT Tryd.prog 101 = true := by kernel_rfl
theorem one101 : oneT Tryd.prog 101 = true := by kernel_rfl
theorem ze101 : zeroT Tryd.prog 101 = some .nilFunc := by kernel_rfl
theorem fu102 : isFuncT Tryd.prog 102 = true := by kernel_rfl
theorem one102 : oneT Tryd.prog 102 = true := by kernel_rfl
theorem ze102 : zeroT Tryd.prog 102 = some .nilFunc := by kernel_rfl
theorem fu103 : isFuncT Tryd.prog 103 = true := by kernel_rfl
theorem one103 : oneT Tryd.prog 103 = true := by kernel_rfl
theorem ze103 : zeroT Tryd.prog 103 = some .nilFunc := by kernel_rfl
theorem fu104 : isFuncT Tryd.prog 104 = true := by kernel_rfl
theorem one104 : oneT Tryd.prog 104 = true := by kernel_rfl
theorem ze104 : zeroT Tryd.prog 104 = some .nilFunc := by kernel_rfl
theorem fu105 : isFuncT Tryd.prog 105 = true := by kernel_rfl
theorem one105 : oneT Tryd.prog 105 = true := by kernel_rfl
theorem ze105 : zeroT Tryd.prog 105 = some .nilFunc := by kernel_rfl
theorem fu106 : isFuncT Tryd.prog 106 = true := by kernel_rfl
theorem one106 : oneT Tryd.prog 106 = true := by kernel_rfl
theorem ze106 : zeroT Tryd.prog 106 = some .nilFunc := by kernel_rfl
theorem it107 : intT Tryd.prog 107 = some .u64 := by kernel_rfl
theorem one107 : oneT Tryd.prog 107 = true := by kernel_rfl
theorem ze107 : zeroT Tryd.prog 107 = some (.int .u64 0) := by kernel_rfl
theorem it108 : intT Tryd.prog 108 = some .u64 := by kernel_rfl
theorem one108 : oneT Tryd.prog 108 = true := by kernel_rfl
theorem ze108 : zeroT Tryd.prog 108 = some (.int .u64 0) := by kernel_rfl
theorem fu109 : isFuncT Tryd.prog 109 = true := by kernel_rfl
theorem one109 : oneT Tryd.prog 109 = true := by kernel_rfl
theorem ze109 : zeroT Tryd.prog 109 = some .nilFunc := by kernel_rfl
theorem fu110 : isFuncT Tryd.prog 110 = true := by kernel_rfl
theorem one110 : oneT Tryd.prog 110 = true := by kernel_rfl
theorem ze110 : zeroT Tryd.prog 110 = some .nilFunc := by kernel_rfl
theorem fu111 : isFuncT Tryd.prog 111 = true := by kernel_rfl
theorem one111 : oneT Tryd.prog 111 = true := by kernel_rfl
theorem ze111 : zeroT Tryd.prog 111 = some .nilFunc := by kernel_rfl
theorem fu112 : isFuncT Tryd.prog 112 = true := by kernel_rfl
theorem one112 : oneT Tryd.prog 112 = true := by kernel_rfl
theorem ze112 : zeroT Tryd.prog 112 = some .nilFunc := by kernel_rfl
theorem ag113 : aggT Tryd.prog 113 2 = true := by kernel_rfl
theorem ze113 : zeroT Tryd.prog 113 = some (.agg #[(.string ByteArray.empty), (.string ByteArray.empty)]) := by kernel_rfl
theorem of113_0 : offT Tryd.prog 113 0 = some 0 := by kernel_rfl
theorem of113_1 : offT Tryd.prog 113 1 = some 1 := by kernel_rfl
theorem ag114 : aggT Tryd.prog 114 2 = true := by kernel_rfl
theorem ze114 : zeroT Tryd.prog 114 = some (.agg #[(.string ByteArray.empty), (.string ByteArray.empty)]) := by kernel_rfl
theorem of114_0 : offT Tryd.prog 114 0 = some 0 := by kernel_rfl
theorem of114_1 : offT Tryd.prog 114 1 = some 1 := by kernel_rfl
theorem ag115 : aggT Tryd.prog 115 3 = true := by kernel_rfl
theorem ze115 : zeroT Tryd.prog 115 = some (.agg #[(.int .i8 0), (.string ByteArray.empty), (.string ByteArray.empty)]) := by kernel_rfl
theorem of115_0 : offT Tryd.prog 115 0 = some 0 := by kernel_rfl
theorem of115_1 : offT Tryd.prog 115 1 = some 1 := by kernel_rfl
theorem ag116 : aggT Tryd.prog 116 3 = true := by kernel_rfl
theorem ze116 : zeroT Tryd.prog 116 = some (.agg #[(.int .i8 0), (.string ByteArray.empty), (.string ByteArray.empty)]) := by kernel_rfl
theorem of116_0 : offT Tryd.prog 116 0 = some 0 := by kernel_rfl
theorem of116_1 : offT Tryd.prog 116 1 = some 1 := by kernel_rfl
theorem fu117 : isFuncT Tryd.prog 117 = true := by kernel_rfl
theorem one117 : oneT Tryd.prog 117 = true := by kernel_rfl
theorem ze117 : zeroT Tryd.prog 117 = some .nilFunc := by kernel_rfl
theorem fu118 : isFuncT Tryd.prog 118 = true := by kernel_rfl
theorem one118 : oneT Tryd.prog 118 = true := by kernel_rfl
theorem ze118 : zeroT Tryd.prog 118 = some .nilFunc := by kernel_rfl
theorem fu119 : isFuncT Tryd.prog 119 = true := by kernel_rfl
theorem one119 : oneT Tryd.prog 119 = true := by kernel_rfl
theorem ze119 : zeroT Tryd.prog 119 = some .nilFunc := by kernel_rfl
theorem fu120 : isFuncT Tryd.prog 120 = true := by kernel_rfl
theorem one120 : oneT Tryd.prog 120 = true := by kernel_rfl
theorem ze120 : zeroT Tryd.prog 120 = some .nilFunc := by kernel_rfl
theorem fu121 : isFuncT Tryd.prog 121 = true := by kernel_rfl
theorem one121 : oneT Tryd.prog 121 = true := by kernel_rfl
theorem ze121 : zeroT Tryd.prog 121 = some .nilFunc := by kernel_rfl
theorem fu122 : isFuncT Tryd.prog 122 = true := by kernel_rfl
theorem one122 : oneT Tryd.prog 122 = true := by kernel_rfl
theorem ze122 : zeroT Tryd.prog 122 = some .nilFunc := by kernel_rfl
theorem fu123 : isFuncT Tryd.prog 123 = true := by kernel_rfl
theorem one123 : oneT Tryd.prog 123 = true := by kernel_rfl
theorem ze123 : zeroT Tryd.prog 123 = some .nilFunc := by kernel_rfl
theorem fu124 : isFuncT Tryd.prog 124 = true := by kernel_rfl
theorem one124 : oneT Tryd.prog 124 = true := by kernel_rfl
theorem ze124 : zeroT Tryd.prog 124 = some .nilFunc := by kernel_rfl
theorem fu125 : isFuncT Tryd.prog 125 = true := by kernel_rfl
theorem one125 : oneT Tryd.prog 125 = true := by kernel_rfl
theorem ze125 : zeroT Tryd.prog 125 = some .nilFunc := by kernel_rfl
theorem fu126 : isFuncT Tryd.prog 126 = true := by kernel_rfl
theorem one126 : oneT Tryd.prog 126 = true := by kernel_rfl
theorem ze126 : zeroT Tryd.prog 126 = some .nilFunc := by kernel_rfl
theorem fu127 : isFuncT Tryd.prog 127 = true := by kernel_rfl
theorem one127 : oneT Tryd.prog 127 = true := by kernel_rfl
theorem ze127 : zeroT Tryd.prog 127 = some .nilFunc := by kernel_rfl
theorem fu128 : isFuncT Tryd.prog 128 = true := by kernel_rfl
theorem one128 : oneT Tryd.prog 128 = true := by kernel_rfl
theorem ze128 : zeroT Tryd.prog 128 = some .nilFunc := by kernel_rfl
theorem fu129 : isFuncT Tryd.prog 129 = true := by kernel_rfl
theorem one129 : oneT Tryd.prog 129 = true := by kernel_rfl
theorem ze129 : zeroT Tryd.prog 129 = some .nilFunc := by kernel_rfl
theorem fu130 : isFuncT Tryd.prog 130 = true := by kernel_rfl
theorem one130 : oneT Tryd.prog 130 = true := by kernel_rfl
theorem ze130 : zeroT Tryd.prog 130 = some .nilFunc := by kernel_rfl
theorem ag131 : aggT Tryd.prog 131 13 = true := by kernel_rfl
theorem ze131 : zeroT Tryd.prog 131 = some (.agg #[(.int .u64 0), (.int .u64 0), (.int .u64 0), (.int .u64 0), (.int .u64 0), (.int .u64 0), (.int .u64 0), (.int .u64 0), (.int .u64 0), (.int .u64 0), (.int .u64 0), (.int .u64 0), (.int .u64 0)]) := by kernel_rfl
theorem fu132 : isFuncT Tryd.prog 132 = true := by kernel_rfl
theorem one132 : oneT Tryd.prog 132 = true := by kernel_rfl
theorem ze132 : zeroT Tryd.prog 132 = some .nilFunc := by kernel_rfl
theorem fu133 : isFuncT Tryd.prog 133 = true := by kernel_rfl
theorem one133 : oneT Tryd.prog 133 = true := by kernel_rfl
theorem ze133 : zeroT Tryd.prog 133 = some .nilFunc := by kernel_rfl
theorem fu134 : isFuncT Tryd.prog 134 = true := by kernel_rfl
theorem one134 : oneT Tryd.prog 134 = true := by kernel_rfl
theorem ze134 : zeroT Tryd.prog 134 = some .nilFunc := by kernel_rfl
theorem fu135 : isFuncT Tryd.prog 135 = true := by kernel_rfl
theorem one135 : oneT Tryd.prog 135 = true := by kernel_rfl
theorem ze135 : zeroT Tryd.prog 135 = some .nilFunc := by kernel_rfl
theorem fu136 : isFuncT Tryd.prog 136 = true := by kernel_rfl
theorem one136 : oneT Tryd.prog 136 = true := by kernel_rfl
theorem ze136 : zeroT Tryd.prog 136 = some .nilFunc := by kernel_rfl
theorem fu137 : isFuncT Tryd.prog 137 = true := by kernel_rfl
theorem one137 : oneT Tryd.prog 137 = true := by kernel_rfl
theorem ze137 : zeroT Tryd.prog 137 = some .nilFunc := by kernel_rfl
theorem ag138 : aggT Tryd.prog 138 24 = true := by kernel_rfl
theorem ze138 : zeroT Tryd.prog 138 = some (.agg #[(.int .u8 0), (.int .u8 0), (.int .u8 0), (.int .u8 0), (.int .u8 0), (.int .u8 0), (.int .u8 0), (.int .u8 0), (.int .u8 0), (.int .u8 0), (.int .u8 0), (.int .u8 0), (.int .u8 0), (.int .u8 0), (.int .u8 0), (.int .u8 0), (.int .u8 0), (.int .u8 0), (.int .u8 0), (.int .u8 0), (.int .u8 0), (.int .u8 0), (.int .u8 0), (.int .u8 0)]) := by kernel_rfl
theorem fu139 : isFuncT Tryd.prog 139 = true := by kernel_rfl
theorem one139 : oneT Tryd.prog 139 = true := by kernel_rfl
theorem ze139 : zeroT Tryd.prog 139 = some .nilFunc := by kernel_rfl
theorem fu140 : isFuncT Tryd.prog 140 = true := by kernel_rfl
theorem one140 : oneT Tryd.prog 140 = true := by kernel_rfl
theorem ze140 : zeroT Tryd.prog 140 = some .nilFunc := by kernel_rfl
theorem fu142 : isFuncT Tryd.prog 142 = true := by kernel_rfl
theorem one142 : oneT Tryd.prog 142 = true := by kernel_rfl
theorem ze142 : zeroT Tryd.prog 142 = some .nilFunc := by kernel_rfl
theorem fu143 : isFuncT Tryd.prog 143 = true := by kernel_rfl
theorem one143 : oneT Tryd.prog 143 = true := by kernel_rfl
theorem ze143 : zeroT Tryd.prog 143 = some .nilFunc := by kernel_rfl
theorem fu144 : isFuncT Tryd.prog 144 = true := by kernel_rfl
theorem one144 : oneT Tryd.prog 144 = true := by kernel_rfl
theorem ze144 : zeroT Tryd.prog 144 = some .nilFunc := by kernel_rfl
theorem ag145 : aggT Tryd.prog 145 20 = true := by kernel_rfl
theorem ze145 : zeroT Tryd.prog 145 = some (.agg #[(.int .u64 0), (.int .u64 0), (.int .u64 0), (.int .u64 0), (.int .u64 0), (.int .u64 0), (.int .u64 0), (.int .u64 0), (.int .u64 0), (.int .u64 0), (.int .u64 0), (.int .u64 0), (.int .u64 0), (.int .u64 0), (.int .u64 0), (.int .u64 0), (.int .u64 0), (.int .u64 0), (.int .u64 0), (.int .u64 0)]) := by kernel_rfl
theorem ag146 : aggT Tryd.prog 146 65 = true := by kernel_rfl
theorem ze146 : zeroT Tryd.prog 146 = some (.agg #[(.int .u8 0), (.int .u8 0), (.int .u8 0), (.int .u8 0), (.int .u8 0), (.int .u8 0), (.int .u8 0), (.int .u8 0), (.int .u8 0), (.int .u8 0), (.int .u8 0), (.int .u8 0), (.int .u8 0), (.int .u8 0), (.int .u8 0), (.int .u8 0), (.int .u8 0), (.int .u8 0), (.int .u8 0), (.int .u8 0), (.int .u8 0), (.int .u8 0), (.int .u8 0), (.int .u8 0), (.int .u8 0), (.int .u8 0), (.int .u8 0), (.int .u8 0), (.int .u8 0), (.int .u8 0), (.int .u8 0), (.int .u8 0), (.int .u8 0), (.int .u8 0), (.int .u8 0), (.int .u8 0), (.int .u8 0), (.int .u8 0), (.int .u8 0), (.int .u8 0), (.int .u8 0), (.int .u8 0), (.int .u8 0), (.int .u8 0), (.int .u8 0), (.int .u8 0), (.int .u8 0), (.int .u8 0), (.int .u8 0), (.int .u8 0), (.int .u8 0), (.int .u8 0), (.int .u8 0), (.int .u8 0), (.int .u8 0), (.int .u8 0), (.int .u8 0), (.int .u8 0), (.int .u8 0), (.int .u8 0), (.int .u8 0), (.int .u8 0), (.int .u8 0), (.int .u8 0), (.int .u8 0)]) := by kernel_rfl
theorem fu147 : isFuncT Tryd.prog 147 = true := by kernel_rfl
theorem one147 : oneT Tryd.prog 147 = true := by kernel_rfl
theorem ze147 : zeroT Tryd.prog 147 = some .nilFunc := by kernel_rfl
theorem fu148 : isFuncT Tryd.prog 148 = true := by kernel_rfl
theorem one148 : oneT Tryd.prog 148 = true := by kernel_rfl
theorem ze148 : zeroT Tryd.prog 148 = some .nilFunc := by kernel_rfl
theorem fu149 : isFuncT Tryd.prog 149 = true := by kernel_rfl
theorem one149 : oneT Tryd.prog 149 = true := by kernel_rfl
theorem ze149 : zeroT Tryd.prog 149 = some .nilFunc := by kernel_rfl
theorem ag150 : aggT Tryd.prog 150 32 = true := by kernel_rfl
theorem ze150 : zeroT Tryd.prog 150 = some (.agg #[(.int .u8 0), (.int .u8 0), (.int .u8 0), (.int .u8 0), (.int .u8 0), (.int .u8 0), (.int .u8 0), (.int .u8 0), (.int .u8 0), (.int .u8 0), (.int .u8 0), (.int .u8 0), (.int .u8 0), (.int .u8 0), (.int .u8 0), (.int .u8 0), (.int .u8 0), (.int .u8 0), (.int .u8 0), (.int .u8 0), (.int .u8 0), (.int .u8 0), (.int .u8 0), (.int .u8 0), (.int .u8 0), (.int .u8 0), (.int .u8 0), (.int .u8 0), (.int .u8 0), (.int .u8 0), (.int .u8 0), (.int .u8 0)]) := by kernel_rfl
theorem ag151 : aggT Tryd.prog 151 64 = true := by kernel_rfl
theorem ze151 : zeroT Tryd.prog 151 = some (.agg #[(.int .u8 0), (.int .u8 0), (.int .u8 0), (.int .u8 0), (.int .u8 0), (.int .u8 0), (.int .u8 0), (.int .u8 0), (.int .u8 0), (.int .u8 0), (.int .u8 0), (.int .u8 0), (.int .u8 0), (.int .u8 0), (.int .u8 0), (.int .u8 0), (.int .u8 0), (.int .u8 0), (.int .u8 0), (.int .u8 0), (.int .u8 0), (.int .u8 0), (.int .u8 0), (.int .u8 0), (.int .u8 0), (.int .u8 0), (.int .u8 0), (.int .u8 0), (.int .u8 0), (.int .u8 0), (.int .u8 0), (.int .u8 0), (.int .u8 0), (.int .u8 0), (.int .u8 0), (.int .u8 0), (.int .u8 0), (.int .u8 0), (.int .u8 0), (.int .u8 0), (.int .u8 0), (.int .u8 0), (.int .u8 0), (.int .u8 0), (.int .u8 0), (.int .u8 0), (.int .u8 0), (.int .u8 0), (.int .u8 0), (.int .u8 0), (.int .u8 0), (.int .u8 0), (.int .u8 0), (.int .u8 0), (.int .u8 0), (.int .u8 0), (.int .u8 0), (.int .u8 0), (.int .u8 0), (.int .u8 0), (.int .u8 0), (.int .u8 0), (.int .u8 0), (.int .u8 0)]) := by kernel_rfl
theorem fu152 : isFuncT Tryd.prog 152 = true := by kernel_rfl
theorem one152 : oneT Tryd.prog 152 = true := by kernel_rfl
theorem ze152 : zeroT Tryd.prog 152 = some .nilFunc := by kernel_rfl
theorem ag153 : aggT Tryd.prog 153 4 = true := by kernel_rfl
theorem ze153 : zeroT Tryd.prog 153 = some (.agg #[(.pointer none), (.pointer none), (.pointer none), (.string ByteArray.empty)]) := by kernel_rfl
theorem of153_0 : offT Tryd.prog 153 0 = some 0 := by kernel_rfl
theorem of153_1 : offT Tryd.prog 153 1 = some 1 := by kernel_rfl
theorem of153_2 : offT Tryd.prog 153 2 = some 2 := by kernel_rfl
theorem of153_3 : offT Tryd.prog 153 3 = some 3 := by kernel_rfl
theorem ag154 : aggT Tryd.prog 154 4 = true := by kernel_rfl
theorem ze154 : zeroT Tryd.prog 154 = some (.agg #[(.pointer none), (.pointer none), (.pointer none), (.string ByteArray.empty)]) := by kernel_rfl
theorem of154_0 : offT Tryd.prog 154 0 = some 0 := by kernel_rfl
theorem of154_1 : offT Tryd.prog 154 1 = some 1 := by kernel_rfl
theorem of154_2 : offT Tryd.prog 154 2 = some 2 := by kernel_rfl
theorem of154_3 : offT Tryd.prog 154 3 = some 3 := by kernel_rfl
theorem fu158 : isFuncT Tryd.prog 158 = true := by kernel_rfl
theorem one158 : oneT Tryd.prog 158 = true := by kernel_rfl
theorem ze158 : zeroT Tryd.prog 158 = some .nilFunc := by kernel_rfl
theorem it159 : intT Tryd.prog 159 = some .u8 := by kernel_rfl
theorem one159 : oneT Tryd.prog 159 = true := by kernel_rfl
theorem ze159 : zeroT Tryd.prog 159 = some (.int .u8 0) := by kernel_rfl
theorem it160 : intT Tryd.prog 160 = some .u8 := by kernel_rfl
theorem one160 : oneT Tryd.prog 160 = true := by kernel_rfl
theorem ze160 : zeroT Tryd.prog 160 = some (.int .u8 0) := by kernel_rfl
theorem fu161 : isFuncT Tryd.prog 161 = true := by kernel_rfl
theorem one161 : oneT Tryd.prog 161 = true := by kernel_rfl
theorem ze161 : zeroT Tryd.prog 161 = some .nilFunc := by kernel_rfl
theorem pt162 : isPtrT Tryd.prog 162 = true := by kernel_rfl
theorem one162 : oneT Tryd.prog 162 = true := by kernel_rfl
theorem ze162 : zeroT Tryd.prog 162 = some (.pointer none) := by kernel_rfl
theorem it163 : intT Tryd.prog 163 = some .i32 := by kernel_rfl
theorem one163 : oneT Tryd.prog 163 = true := by kernel_rfl
theorem ze163 : zeroT Tryd.prog 163 = some (.int .i32 0) := by kernel_rfl
theorem it164 : intT Tryd.prog 164 = some .i32 := by kernel_rfl
theorem one164 : oneT Tryd.prog 164 = true := by kernel_rfl
theorem ze164 : zeroT Tryd.prog 164 = some (.int .i32 0) := by kernel_rfl
theorem ag165 : aggT Tryd.prog 165 11 = true := by kernel_rfl
theorem ze165 : zeroT Tryd.prog 165 = some (.agg #[(.int .u64 0), (.int .u64 0), (.int .u32 0), (.int .u8 0), (.int .u8 0), (.int .u8 0), (.int .u8 0), .nilFunc, (.pointer none), (.int .i32 0), (.int .i32 0)]) := by kernel_rfl
theorem of165_0 : offT Tryd.prog 165 0 = some 0 := by kernel_rfl
theorem of165_1 : offT Tryd.prog 165 1 = some 1 := by kernel_rfl
theorem of165_2 : offT Tryd.prog 165 2 = some 2 := by kernel_rfl
theorem of165_3 : offT Tryd.prog 165 3 = some 3 := by kernel_rfl
theorem of165_4 : offT Tryd.prog 165 4 = some 4 := by kernel_rfl
theorem of165_5 : offT Tryd.prog 165 5 = some 5 := by kernel_rfl
theorem of165_6 : offT Tryd.prog 165 6 = some 6 := by kernel_rfl
theorem of165_7 : offT Tryd.prog 165 7 = some 7 := by kernel_rfl
theorem of165_8 : offT Tryd.prog 165 8 = some 8 := by kernel_rfl
theorem of165_9 : offT Tryd.prog 165 9 = some 9 := by kernel_rfl
theorem of165_10 : offT Tryd.prog 165 10 = some 10 := by kernel_rfl
theorem ag166 : aggT Tryd.prog 166 11 = true := by kernel_rfl
theorem ze166 : zeroT Tryd.prog 166 = some (.agg #[(.int .u64 0), (.int .u64 0), (.int .u32 0), (.int .u8 0), (.int .u8 0), (.int .u8 0), (.int .u8 0), .nilFunc, (.pointer none), (.int .i32 0), (.int .i32 0)]) := by kernel_rfl
theorem of166_0 : offT Tryd.prog 166 0 = some 0 := by kernel_rfl
theorem of166_1 : offT Tryd.prog 166 1 = some 1 := by kernel_rfl
theorem of166_2 : offT Tryd.prog 166 2 = some 2 := by kernel_rfl
theorem of166_3 : offT Tryd.prog 166 3 = some 3 := by kernel_rfl
theorem of166_4 : offT Tryd.prog 166 4 = some 4 := by kernel_rfl
theorem of166_5 : offT Tryd.prog 166 5 = some 5 := by kernel_rfl
theorem of166_6 : offT Tryd.prog 166 6 = some 6 := by kernel_rfl
theorem of166_7 : offT Tryd.prog 166 7 = some 7 := by kernel_rfl
theorem of166_8 : offT Tryd.prog 166 8 = some 8 := by kernel_rfl
theorem of166_9 : offT Tryd.prog 166 9 = some 9 := by kernel_rfl
theorem of166_10 : offT Tryd.prog 166 10 = some 10 := by kernel_rfl
theorem one167 : oneT Tryd.prog 167 = true := by kernel_rfl
theorem fa_25_0 (b i : Nat) (Z : List PanicEntry → World → Prop) (w : World) (kk : Value → World → Prop) : run1 Tryd.prog Z (Instr.fieldAt 25 (.pointer (some ⟨b, i, none⟩)) 0) w kk = kk (.pointer (some ⟨b, i + 0, none⟩)) w := r1_eq fun w => run_fieldAt of25_0 b i w
theorem fa_25_0p (b i : Nat) (kv : Value → Prop) : Pure1 Tryd.prog (Instr.fieldAt 25 (.pointer (some ⟨b, i, none⟩)) 0) kv = kv (.pointer (some ⟨b, i + 0, none⟩)) := rp_eq fun w => run_fieldAt of25_0 b i w
theorem fa_25_1 (b i : Nat) (Z : List PanicEntry → World → Prop) (w : World) (kk : Value → World → Prop) : run1 Tryd.prog Z (Instr.fieldAt 25 (.pointer (some ⟨b, i, none⟩)) 1) w kk = kk (.pointer (some ⟨b, i + 1, none⟩)) w := r1_eq fun w => run_fieldAt of25_1 b i w
theorem fa_25_1p (b i : Nat) (kv : Value → Prop) : Pure1 Tryd.prog (Instr.fieldAt 25 (.pointer (some ⟨b, i, none⟩)) 1) kv = kv (.pointer (some ⟨b, i + 1, none⟩)) := rp_eq fun w => run_fieldAt of25_1 b i w
theorem fa_25_2 (b i : Nat) (Z : List PanicEntry → World → Prop) (w : World) (kk : Value → World → Prop) : run1 Tryd.prog Z (Instr.fieldAt 25 (.pointer (some ⟨b, i, none⟩)) 2) w kk = kk (.pointer (some ⟨b, i + 2, none⟩)) w := r1_eq fun w => run_fieldAt of25_2 b i w
theorem fa_25_2p (b i : Nat) (kv : Value → Prop) : Pure1 Tryd.prog (Instr.fieldAt 25 (.pointer (some ⟨b, i, none⟩)) 2) kv = kv (.pointer (some ⟨b, i + 2, none⟩)) := rp_eq fun w => run_fieldAt of25_2 b i w
theorem fa_25_3 (b i : Nat) (Z : List PanicEntry → World → Prop) (w : World) (kk : Value → World → Prop) : run1 Tryd.prog Z (Instr.fieldAt 25 (.pointer (some ⟨b, i, none⟩)) 3) w kk = kk (.pointer (some ⟨b, i + 3, none⟩)) w := r1_eq fun w => run_fieldAt of25_3 b i w
theorem fa_25_3p (b i : Nat) (kv : Value → Prop) : Pure1 Tryd.prog (Instr.fieldAt 25 (.pointer (some ⟨b, i, none⟩)) 3) kv = kv (.pointer (some ⟨b, i + 3, none⟩)) := rp_eq fun w => run_fieldAt of25_3 b i w
theorem fa_25_4 (b i : Nat) (Z : List PanicEntry → World → Prop) (w : World) (kk : Value → World → Prop) : run1 Tryd.prog Z (Instr.fieldAt 25 (.pointer (some ⟨b, i, none⟩)) 4) w kk = kk (.pointer (some ⟨b, i + 4, none⟩)) w := r1_eq fun w => run_fieldAt of25_4 b i w
theorem fa_25_4p (b i : Nat) (kv : Value → Prop) : Pure1 Tryd.prog (Instr.fieldAt 25 (.pointer (some ⟨b, i, none⟩)) 4) kv = kv (.pointer (some ⟨b, i + 4, none⟩)) := rp_eq fun w => run_fieldAt of25_4 b i w
theorem ln_22_3 (a : Option Addr) (n c : Nat) (Z : List PanicEntry → World → Prop) (w : World) (kk : Value → World → Prop) : run1 Tryd.prog Z (Builtin.len_ #[22] 3 #[.slice a n c]) w kk = kk (.int .i64 n) w := r1_eq fun w => run_lenS sl22 _ rfl _ a n c w
theorem ln_22_3p (a : Option Addr) (n c : Nat) (kv : Value → Prop) : Pure1 Tryd.prog (Builtin.len_ #[22] 3 #[.slice a n c]) kv = kv (.int .i64 n) := rp_eq fun w => run_lenS sl22 _ rfl _ a n c w
theorem fa_33_0 (b i : Nat) (Z : List PanicEntry → World → Prop) (w : World) (kk : Value → World → Prop) : run1 Tryd.prog Z (Instr.fieldAt 33 (.pointer (some ⟨b, i, none⟩)) 0) w kk = kk (.pointer (some ⟨b, i + 0, none⟩)) w := r1_eq fun w => run_fieldAt of33_0 b i w
theorem fa_33_0p (b i : Nat) (kv : Value → Prop) : Pure1 Tryd.prog (Instr.fieldAt 33 (.pointer (some ⟨b, i, none⟩)) 0) kv = kv (.pointer (some ⟨b, i + 0, none⟩)) := rp_eq fun w => run_fieldAt of33_0 b i w
theorem fa_33_1 (b i : Nat) (Z : List PanicEntry → World → Prop) (w : World) (kk : Value → World → Prop) : run1 Tryd.prog Z (Instr.fieldAt 33 (.pointer (some ⟨b, i, none⟩)) 1) w kk = kk (.pointer (some ⟨b, i + 1, none⟩)) w := r1_eq fun w => run_fieldAt of33_1 b i w
theorem fa_33_1p (b i : Nat) (kv : Value → Prop) : Pure1 Tryd.prog (Instr.fieldAt 33 (.pointer (some ⟨b, i, none⟩)) 1) kv = kv (.pointer (some ⟨b, i + 1, none⟩)) := rp_eq fun w => run_fieldAt of33_1 b i w
theorem fa_49_0 (b i : Nat) (Z : List PanicEntry → World → Prop) (w : World) (kk : Value → World → Prop) : run1 Tryd.prog Z (Instr.fieldAt 49 (.pointer (some ⟨b, i, none⟩)) 0) w kk = kk (.pointer (some ⟨b, i + 0, none⟩)) w := r1_eq fun w => run_fieldAt of49_0 b i w
theorem fa_49_0p (b i : Nat) (kv : Value → Prop) : Pure1 Tryd.prog (Instr.fieldAt 49 (.pointer (some ⟨b, i, none⟩)) 0) kv = kv (.pointer (some ⟨b, i + 0, none⟩)) := rp_eq fun w => run_fieldAt of49_0 b i w
theorem fa_54_2 (b i : Nat) (Z : List PanicEntry → World → Prop) (w : World) (kk : Value → World → Prop) : run1 Tryd.prog Z (Instr.fieldAt 54 (.pointer (some ⟨b, i, none⟩)) 2) w kk = kk (.pointer (some ⟨b, i + 4, none⟩)) w := r1_eq fun w => run_fieldAt of54_2 b i w
theorem fa_54_2p (b i : Nat) (kv : Value → Prop) : Pure1 Tryd.prog (Instr.fieldAt 54 (.pointer (some ⟨b, i, none⟩)) 2) kv = kv (.pointer (some ⟨b, i + 4, none⟩)) := rp_eq fun w => run_fieldAt of54_2 b i w
theorem fa_54_5 (b i : Nat) (Z : List PanicEntry → World → Prop) (w : World) (kk : Value → World → Prop) : run1 Tryd.prog Z (Instr.fieldAt 54 (.pointer (some ⟨b, i, none⟩)) 5) w kk = kk (.pointer (some ⟨b, i + 7, none⟩)) w := r1_eq fun w => run_fieldAt of54_5 b i w
theorem fa_54_5p (b i : Nat) (kv : Value → Prop) : Pure1 Tryd.prog (Instr.fieldAt 54 (.pointer (some ⟨b, i, none⟩)) 5) kv = kv (.pointer (some ⟨b, i + 7, none⟩)) := rp_eq fun w => run_fieldAt of54_5 b i w
theorem fa_54_3 (b i : Nat) (Z : List PanicEntry → World → Prop) (w : World) (kk : Value → World → Prop) : run1 Tryd.prog Z (Instr.fieldAt 54 (.pointer (some ⟨b, i, none⟩)) 3) w kk = kk (.pointer (some ⟨b, i + 5, none⟩)) w := r1_eq fun w => run_fieldAt of54_3 b i w
theorem fa_54_3p (b i : Nat) (kv : Value → Prop) : Pure1 Tryd.prog (Instr.fieldAt 54 (.pointer (some ⟨b, i, none⟩)) 3) kv = kv (.pointer (some ⟨b, i + 5, none⟩)) := rp_eq fun w => run_fieldAt of54_3 b i w
theorem fa_54_4 (b i : Nat) (Z : List PanicEntry → World → Prop) (w : World) (kk : Value → World → Prop) : run1 Tryd.prog Z (Instr.fieldAt 54 (.pointer (some ⟨b, i, none⟩)) 4) w kk = kk (.pointer (some ⟨b, i + 6, none⟩)) w := r1_eq fun w => run_fieldAt of54_4 b i w
theorem fa_54_4p (b i : Nat) (kv : Value → Prop) : Pure1 Tryd.prog (Instr.fieldAt 54 (.pointer (some ⟨b, i, none⟩)) 4) kv = kv (.pointer (some ⟨b, i + 6, none⟩)) := rp_eq fun w => run_fieldAt of54_4 b i w
theorem fa_33_2 (b i : Nat) (Z : List PanicEntry → World → Prop) (w : World) (kk : Value → World → Prop) : run1 Tryd.prog Z (Instr.fieldAt 33 (.pointer (some ⟨b, i, none⟩)) 2) w kk = kk (.pointer (some ⟨b, i + 3, none⟩)) w := r1_eq fun w => run_fieldAt of33_2 b i w
theorem fa_33_2p (b i : Nat) (kv : Value → Prop) : Pure1 Tryd.prog (Instr.fieldAt 33 (.pointer (some ⟨b, i, none⟩)) 2) kv = kv (.pointer (some ⟨b, i + 3, none⟩)) := rp_eq fun w => run_fieldAt of33_2 b i w
theorem fa_54_1 (b i : Nat) (Z : List PanicEntry → World → Prop) (w : World) (kk : Value → World → Prop) : run1 Tryd.prog Z (Instr.fieldAt 54 (.pointer (some ⟨b, i, none⟩)) 1) w kk = kk (.pointer (some ⟨b, i + 2, none⟩)) w := r1_eq fun w => run_fieldAt of54_1 b i w
theorem fa_54_1p (b i : Nat) (kv : Value → Prop) : Pure1 Tryd.prog (Instr.fieldAt 54 (.pointer (some ⟨b, i, none⟩)) 1) kv = kv (.pointer (some ⟨b, i + 2, none⟩)) := rp_eq fun w => run_fieldAt of54_1 b i w
theorem fa_54_0 (b i : Nat) (Z : List PanicEntry → World → Prop) (w : World) (kk : Value → World → Prop) : run1 Tryd.prog Z (Instr.fieldAt 54 (.pointer (some ⟨b, i, none⟩)) 0) w kk = kk (.pointer (some ⟨b, i + 0, none⟩)) w := r1_eq fun w => run_fieldAt of54_0 b i w
theorem fa_54_0p (b i : Nat) (kv : Value → Prop) : Pure1 Tryd.prog (Instr.fieldAt 54 (.pointer (some ⟨b, i, none⟩)) 0) kv = kv (.pointer (some ⟨b, i + 0, none⟩)) := rp_eq fun w => run_fieldAt of54_0 b i w
theorem neqb_4 (cx cy a b : Bool) (Z : List PanicEntry → World → Prop) (w : World) (kk : Value → World → Prop) : run1 Tryd.prog Z (eqOp .neq 4 cx cy (.bool a) (.bool b)) w kk = kk (.bool (a != b)) w := r1_eq fun w => run_neq_boolV bo4 cx cy a b w
theorem neqb_4p (cx cy a b : Bool) (kv : Value → Prop) : Pure1 Tryd.prog (eqOp .neq 4 cx cy (.bool a) (.bool b)) kv = kv (.bool (a != b)) := rp_eq fun w => run_neq_boolV bo4 cx cy a b w
theorem eqlb_4 (cx cy a b : Bool) (Z : List PanicEntry → World → Prop) (w : World) (kk : Value → World → Prop) : run1 Tryd.prog Z (eqOp .eql 4 cx cy (.bool a) (.bool b)) w kk = kk (.bool (a == b)) w := r1_eq fun w => run_eql_boolV bo4 cx cy a b w
theorem eqlb_4p (cx cy a b : Bool) (kv : Value → Prop) : Pure1 Tryd.prog (eqOp .eql 4 cx cy (.bool a) (.bool b)) kv = kv (.bool (a == b)) := rp_eq fun w => run_eql_boolV bo4 cx cy a b w
theorem fa_49_2 (b i : Nat) (Z : List PanicEntry → World → Prop) (w : World) (kk : Value → World → Prop) : run1 Tryd.prog Z (Instr.fieldAt 49 (.pointer (some ⟨b, i, none⟩)) 2) w kk = kk (.pointer (some ⟨b, i + 5, none⟩)) w := r1_eq fun w => run_fieldAt of49_2 b i w
theorem fa_49_2p (b i : Nat) (kv : Value → Prop) : Pure1 Tryd.prog (Instr.fieldAt 49 (.pointer (some ⟨b, i, none⟩)) 2) kv = kv (.pointer (some ⟨b, i + 5, none⟩)) := rp_eq fun w => run_fieldAt of49_2 b i w
theorem fa_30_0 (b i : Nat) (Z : List PanicEntry → World → Prop) (w : World) (kk : Value → World → Prop) : run1 Tryd.prog Z (Instr.fieldAt 30 (.pointer (some ⟨b, i, none⟩)) 0) w kk = kk (.pointer (some ⟨b, i + 0, none⟩)) w := r1_eq fun w => run_fieldAt of30_0 b i w
theorem fa_30_0p (b i : Nat) (kv : Value → Prop) : Pure1 Tryd.prog (Instr.fieldAt 30 (.pointer (some ⟨b, i, none⟩)) 0) kv = kv (.pointer (some ⟨b, i + 0, none⟩)) := rp_eq fun w => run_fieldAt of30_0 b i w
theorem fa_30_1 (b i : Nat) (Z : List PanicEntry → World → Prop) (w : World) (kk : Value → World → Prop) : run1 Tryd.prog Z (Instr.fieldAt 30 (.pointer (some ⟨b, i, none⟩)) 1) w kk = kk (.pointer (some ⟨b, i + 1, none⟩)) w := r1_eq fun w => run_fieldAt of30_1 b i w
theorem fa_30_1p (b i : Nat) (kv : Value → Prop) : Pure1 Tryd.prog (Instr.fieldAt 30 (.pointer (some ⟨b, i, none⟩)) 1) kv = kv (.pointer (some ⟨b, i + 1, none⟩)) := rp_eq fun w => run_fieldAt of30_1 b i w
theorem ln_42_3 (a : Option Addr) (n c : Nat) (Z : List PanicEntry → World → Prop) (w : World) (kk : Value → World → Prop) : run1 Tryd.prog Z (Builtin.len_ #[42] 3 #[.slice a n c]) w kk = kk (.int .i64 n) w := r1_eq fun w => run_lenS sl42 _ rfl _ a n c w
theorem ln_42_3p (a : Option Addr) (n c : Nat) (kv : Value → Prop) : Pure1 Tryd.prog (Builtin.len_ #[42] 3 #[.slice a n c]) kv = kv (.int .i64 n) := rp_eq fun w => run_lenS sl42 _ rfl _ a n c w
theorem fa_49_1 (b i : Nat) (Z : List PanicEntry → World → Prop) (w : World) (kk : Value → World → Prop) : run1 Tryd.prog Z (Instr.fieldAt 49 (.pointer (some ⟨b, i, none⟩)) 1) w kk = kk (.pointer (some ⟨b, i + 2, none⟩)) w := r1_eq fun w => run_fieldAt of49_1 b i w
theorem fa_49_1p (b i : Nat) (kv : Value → Prop) : Pure1 Tryd.prog (Instr.fieldAt 49 (.pointer (some ⟨b, i, none⟩)) 1) kv = kv (.pointer (some ⟨b, i + 2, none⟩)) := rp_eq fun w => run_fieldAt of49_1 b i w
theorem fa_41_2 (b i : Nat) (Z : List PanicEntry → World → Prop) (w : World) (kk : Value → World → Prop) : run1 Tryd.prog Z (Instr.fieldAt 41 (.pointer (some ⟨b, i, none⟩)) 2) w kk = kk (.pointer (some ⟨b, i + 2, none⟩)) w := r1_eq fun w => run_fieldAt of41_2 b i w
theorem fa_41_2p (b i : Nat) (kv : Value → Prop) : Pure1 Tryd.prog (Instr.fieldAt 41 (.pointer (some ⟨b, i, none⟩)) 2) kv = kv (.pointer (some ⟨b, i + 2, none⟩)) := rp_eq fun w => run_fieldAt of41_2 b i w
theorem fa_41_0 (b i : Nat) (Z : List PanicEntry → World → Prop) (w : World) (kk : Value → World → Prop) : run1 Tryd.prog Z (Instr.fieldAt 41 (.pointer (some ⟨b, i, none⟩)) 0) w kk = kk (.pointer (some ⟨b, i + 0, none⟩)) w := r1_eq fun w => run_fieldAt of41_0 b i w
theorem fa_41_0p (b i : Nat) (kv : Value → Prop) : Pure1 Tryd.prog (Instr.fieldAt 41 (.pointer (some ⟨b, i, none⟩)) 0) kv = kv (.pointer (some ⟨b, i + 0, none⟩)) := rp_eq fun w => run_fieldAt of41_0 b i w
theorem fa_41_1 (b i : Nat) (Z : List PanicEntry → World → Prop) (w : World) (kk : Value → World → Prop) : run1 Tryd.prog Z (Instr.fieldAt 41 (.pointer (some ⟨b, i, none⟩)) 1) w kk = kk (.pointer (some ⟨b, i + 1, none⟩)) w := r1_eq fun w => run_fieldAt of41_1 b i w
theorem fa_41_1p (b i : Nat) (kv : Value → Prop) : Pure1 Tryd.prog (Instr.fieldAt 41 (.pointer (some ⟨b, i, none⟩)) 1) kv = kv (.pointer (some ⟨b, i + 1, none⟩)) := rp_eq fun w => run_fieldAt of41_1 b i w
theorem fa_47_2 (b i : Nat) (Z : List PanicEntry → World → Prop) (w : World) (kk : Value → World → Prop) : run1 Tryd.prog Z (Instr.fieldAt 47 (.pointer (some ⟨b, i, none⟩)) 2) w kk = kk (.pointer (some ⟨b, i + 2, none⟩)) w := r1_eq fun w => run_fieldAt of47_2 b i w
theorem fa_47_2p (b i : Nat) (kv : Value → Prop) : Pure1 Tryd.prog (Instr.fieldAt 47 (.pointer (some ⟨b, i, none⟩)) 2) kv = kv (.pointer (some ⟨b, i + 2, none⟩)) := rp_eq fun w => run_fieldAt of47_2 b i w
theorem fa_47_3 (b i : Nat) (Z : List PanicEntry → World → Prop) (w : World) (kk : Value → World → Prop) : run1 Tryd.prog Z (Instr.fieldAt 47 (.pointer (some ⟨b, i, none⟩)) 3) w kk = kk (.pointer (some ⟨b, i + 3, none⟩)) w := r1_eq fun w => run_fieldAt of47_3 b i w
theorem fa_47_3p (b i : Nat) (kv : Value → Prop) : Pure1 Tryd.prog (Instr.fieldAt 47 (.pointer (some ⟨b, i, none⟩)) 3) kv = kv (.pointer (some ⟨b, i + 3, none⟩)) := rp_eq fun w => run_fieldAt of47_3 b i w
theorem fa_47_9 (b i : Nat) (Z : List PanicEntry → World → Prop) (w : World) (kk : Value → World → Prop) : run1 Tryd.prog Z (Instr.fieldAt 47 (.pointer (some ⟨b, i, none⟩)) 9) w kk = kk (.pointer (some ⟨b, i + 9, none⟩)) w := r1_eq fun w => run_fieldAt of47_9 b i w
theorem fa_47_9p (b i : Nat) (kv : Value → Prop) : Pure1 Tryd.prog (Instr.fieldAt 47 (.pointer (some ⟨b, i, none⟩)) 9) kv = kv (.pointer (some ⟨b, i + 9, none⟩)) := rp_eq fun w => run_fieldAt of47_9 b i w
theorem fa_47_10 (b i : Nat) (Z : List PanicEntry → World → Prop) (w : World) (kk : Value → World → Prop) : run1 Tryd.prog Z (Instr.fieldAt 47 (.pointer (some ⟨b, i, none⟩)) 10) w kk = kk (.pointer (some ⟨b, i + 10, none⟩)) w := r1_eq fun w => run_fieldAt of47_10 b i w
theorem fa_47_10p (b i : Nat) (kv : Value → Prop) : Pure1 Tryd.prog (Instr.fieldAt 47 (.pointer (some ⟨b, i, none⟩)) 10) kv = kv (.pointer (some ⟨b, i + 10, none⟩)) := rp_eq fun w => run_fieldAt of47_10 b i w
theorem ln_43_3 (a : Option Addr) (n c : Nat) (Z : List PanicEntry → World → Prop) (w : World) (kk : Value → World → Prop) : run1 Tryd.prog Z (Builtin.len_ #[43] 3 #[.slice a n c]) w kk = kk (.int .i64 n) w := r1_eq fun w => run_lenS sl43 _ rfl _ a n c w
theorem ln_43_3p (a : Option Addr) (n c : Nat) (kv : Value → Prop) : Pure1 Tryd.prog (Builtin.len_ #[43] 3 #[.slice a n c]) kv = kv (.int .i64 n) := rp_eq fun w => run_lenS sl43 _ rfl _ a n c w
theorem ln_44_3 (a : Option Addr) (n c : Nat) (Z : List PanicEntry → World → Prop) (w : World) (kk : Value → World → Prop) : run1 Tryd.prog Z (Builtin.len_ #[44] 3 #[.slice a n c]) w kk = kk (.int .i64 n) w := r1_eq fun w => run_lenS sl44 _ rfl _ a n c w
theorem ln_44_3p (a : Option Addr) (n c : Nat) (kv : Value → Prop) : Pure1 Tryd.prog (Builtin.len_ #[44] 3 #[.slice a n c]) kv = kv (.int .i64 n) := rp_eq fun w => run_lenS sl44 _ rfl _ a n c w
theorem ln_45_3 (a : Option Addr) (n c : Nat) (Z : List PanicEntry → World → Prop) (w : World) (kk : Value → World → Prop) : run1 Tryd.prog Z (Builtin.len_ #[45] 3 #[.slice a n c]) w kk = kk (.int .i64 n) w := r1_eq fun w => run_lenS sl45 _ rfl _ a n c w
theorem ln_45_3p (a : Option Addr) (n c : Nat) (kv : Value → Prop) : Pure1 Tryd.prog (Builtin.len_ #[45] 3 #[.slice a n c]) kv = kv (.int .i64 n) := rp_eq fun w => run_lenS sl45 _ rfl _ a n c w
theorem ln_96_3 (a : Option Addr) (n c : Nat) (Z : List PanicEntry → World → Prop) (w : World) (kk : Value → World → Prop) : run1 Tryd.prog Z (Builtin.len_ #[96] 3 #[.slice a n c]) w kk = kk (.int .i64 n) w := r1_eq fun w => run_lenS sl96 _ rfl _ a n c w
theorem ln_96_3p (a : Option Addr) (n c : Nat) (kv : Value → Prop) : Pure1 Tryd.prog (Builtin.len_ #[96] 3 #[.slice a n c]) kv = kv (.int .i64 n) := rp_eq fun w => run_lenS sl96 _ rfl _ a n c w
theorem fa_47_0 (b i : Nat) (Z : List PanicEntry → World → Prop) (w : World) (kk : Value → World → Prop) : run1 Tryd.prog Z (Instr.fieldAt 47 (.pointer (some ⟨b, i, none⟩)) 0) w kk = kk (.pointer (some ⟨b, i + 0, none⟩)) w := r1_eq fun w => run_fieldAt of47_0 b i w
theorem fa_47_0p (b i : Nat) (kv : Value → Prop) : Pure1 Tryd.prog (Instr.fieldAt 47 (.pointer (some ⟨b, i, none⟩)) 0) kv = kv (.pointer (some ⟨b, i + 0, none⟩)) := rp_eq fun w => run_fieldAt of47_0 b i w
theorem fa_47_1 (b i : Nat) (Z : List PanicEntry → World → Prop) (w : World) (kk : Value → World → Prop) : run1 Tryd.prog Z (Instr.fieldAt 47 (.pointer (some ⟨b, i, none⟩)) 1) w kk = kk (.pointer (some ⟨b, i + 1, none⟩)) w := r1_eq fun w => run_fieldAt of47_1 b i w
theorem fa_47_1p (b i : Nat) (kv : Value → Prop) : Pure1 Tryd.prog (Instr.fieldAt 47 (.pointer (some ⟨b, i, none⟩)) 1) kv = kv (.pointer (some ⟨b, i + 1, none⟩)) := rp_eq fun w => run_fieldAt of47_1 b i w
theorem fa_47_4 (b i : Nat) (Z : List PanicEntry → World → Prop) (w : World) (kk : Value → World → Prop) : run1 Tryd.prog Z (Instr.fieldAt 47 (.pointer (some ⟨b, i, none⟩)) 4) w kk = kk (.pointer (some ⟨b, i + 4, none⟩)) w := r1_eq fun w => run_fieldAt of47_4 b i w
theorem fa_47_4p (b i : Nat) (kv : Value → Prop) : Pure1 Tryd.prog (Instr.fieldAt 47 (.pointer (some ⟨b, i, none⟩)) 4) kv = kv (.pointer (some ⟨b, i + 4, none⟩)) := rp_eq fun w => run_fieldAt of47_4 b i w
theorem fa_47_5 (b i : Nat) (Z : List PanicEntry → World → Prop) (w : World) (kk : Value → World → Prop) : run1 Tryd.prog Z (Instr.fieldAt 47 (.pointer (some ⟨b, i, none⟩)) 5) w kk = kk (.pointer (some ⟨b, i + 5, none⟩)) w := r1_eq fun w => run_fieldAt of47_5 b i w
theorem fa_47_5p (b i : Nat) (kv : Value → Prop) : Pure1 Tryd.prog (Instr.fieldAt 47 (.pointer (some ⟨b, i, none⟩)) 5) kv = kv (.pointer (some ⟨b, i + 5, none⟩)) := rp_eq fun w => run_fieldAt of47_5 b i w
theorem fa_47_6 (b i : Nat) (Z : List PanicEntry → World → Prop) (w : World) (kk : Value → World → Prop) : run1 Tryd.prog Z (Instr.fieldAt 47 (.pointer (some ⟨b, i, none⟩)) 6) w kk = kk (.pointer (some ⟨b, i + 6, none⟩)) w := r1_eq fun w => run_fieldAt of47_6 b i w
theorem fa_47_6p (b i : Nat) (kv : Value → Prop) : Pure1 Tryd.prog (Instr.fieldAt 47 (.pointer (some ⟨b, i, none⟩)) 6) kv = kv (.pointer (some ⟨b, i + 6, none⟩)) := rp_eq fun w => run_fieldAt of47_6 b i w
theorem fa_47_7 (b i : Nat) (Z : List PanicEntry → World → Prop) (w : World) (kk : Value → World → Prop) : run1 Tryd.prog Z (Instr.fieldAt 47 (.pointer (some ⟨b, i, none⟩)) 7) w kk = kk (.pointer (some ⟨b, i + 7, none⟩)) w := r1_eq fun w => run_fieldAt of47_7 b i w
theorem fa_47_7p (b i : Nat) (kv : Value → Prop) : Pure1 Tryd.prog (Instr.fieldAt 47 (.pointer (some ⟨b, i, none⟩)) 7) kv = kv (.pointer (some ⟨b, i + 7, none⟩)) := rp_eq fun w => run_fieldAt of47_7 b i w
theorem fa_47_8 (b i : Nat) (Z : List PanicEntry → World → Prop) (w : World) (kk : Value → World → Prop) : run1 Tryd.prog Z (Instr.fieldAt 47 (.pointer (some ⟨b, i, none⟩)) 8) w kk = kk (.pointer (some ⟨b, i + 8, none⟩)) w := r1_eq fun w => run_fieldAt of47_8 b i w
theorem fa_47_8p (b i : Nat) (kv : Value → Prop) : Pure1 Tryd.prog (Instr.fieldAt 47 (.pointer (some ⟨b, i, none⟩)) 8) kv = kv (.pointer (some ⟨b, i + 8, none⟩)) := rp_eq fun w => run_fieldAt of47_8 b i w
theorem cv_28_107 (q : IntKind) (n : Int) (Z : List PanicEntry → World → Prop) (w : World) (kk : Value → World → Prop) : run1 Tryd.prog Z (convert 28 107 (.int q n)) w kk = kk (.int .u64 (IntKind.u64.wrap n)) w := r1_eq fun w => run_conv_int (by kernel_rfl) it107 q n w
theorem cv_28_107p (q : IntKind) (n : Int) (kv : Value → Prop) : Pure1 Tryd.prog (convert 28 107 (.int q n)) kv = kv (.int .u64 (IntKind.u64.wrap n)) := rp_eq fun w => run_conv_int (by kernel_rfl) it107 q n w
theorem cv_31_107 (q : IntKind) (n : Int) (Z : List PanicEntry → World → Prop) (w : World) (kk : Value → World → Prop) : run1 Tryd.prog Z (convert 31 107 (.int q n)) w kk = kk (.int .u64 (IntKind.u64.wrap n)) w := r1_eq fun w => run_conv_int (by kernel_rfl) it107 q n w
theorem cv_31_107p (q : IntKind) (n : Int) (kv : Value → Prop) : Pure1 Tryd.prog (convert 31 107 (.int q n)) kv = kv (.int .u64 (IntKind.u64.wrap n)) := rp_eq fun w => run_conv_int (by kernel_rfl) it107 q n w
theorem cv_2_107 (q : IntKind) (n : Int) (Z : List PanicEntry → World → Prop) (w : World) (kk : Value → World → Prop) : run1 Tryd.prog Z (convert 2 107 (.int q n)) w kk = kk (.int .u64 (IntKind.u64.wrap n)) w := r1_eq fun w => run_conv_int (by kernel_rfl) it107 q n w
theorem cv_2_107p (q : IntKind) (n : Int) (kv : Value → Prop) : Pure1 Tryd.prog (convert 2 107 (.int q n)) kv = kv (.int .u64 (IntKind.u64.wrap n)) := rp_eq fun w => run_conv_int (by kernel_rfl) it107 q n w
theorem eqlp_77 (cx cy : Bool) (a : Addr) (Z : List PanicEntry → World → Prop) (w : World) (kk : Value → World → Prop) : run1 Tryd.prog Z (eqOp .eql 77 cx cy (.pointer (some a)) (.pointer none)) w kk = kk (.bool false) w := r1_eq fun w => run_eql_ptr_nil pt77 cx cy a w
theorem eqlp_77p (cx cy : Bool) (a : Addr) (kv : Value → Prop) : Pure1 Tryd.prog (eqOp .eql 77 cx cy (.pointer (some a)) (.pointer none)) kv = kv (.bool false) := rp_eq fun w => run_eql_ptr_nil pt77 cx cy a w
theorem eqln_77 (cx cy : Bool) (Z : List PanicEntry → World → Prop) (w : World) (kk : Value → World → Prop) : run1 Tryd.prog Z (eqOp .eql 77 cx cy (.pointer none) (.pointer none)) w kk = kk (.bool true) w := r1_eq fun w => run_eqlNN pt77 cx cy w
theorem eqln_77p (cx cy : Bool) (kv : Value → Prop) : Pure1 Tryd.prog (eqOp .eql 77 cx cy (.pointer none) (.pointer none)) kv = kv (.bool true) := rp_eq fun w => run_eqlNN pt77 cx cy w
theorem fa_79_0 (b i : Nat) (Z : List PanicEntry → World → Prop) (w : World) (kk : Value → World → Prop) : run1 Tryd.prog Z (Instr.fieldAt 79 (.pointer (some ⟨b, i, none⟩)) 0) w kk = kk (.pointer (some ⟨b, i + 0, none⟩)) w := r1_eq fun w => run_fieldAt of79_0 b i w
theorem fa_79_0p (b i : Nat) (kv : Value → Prop) : Pure1 Tryd.prog (Instr.fieldAt 79 (.pointer (some ⟨b, i, none⟩)) 0) kv = kv (.pointer (some ⟨b, i + 0, none⟩)) := rp_eq fun w => run_fieldAt of79_0 b i w
theorem cv_28_2 (q : IntKind) (n : Int) (Z : List PanicEntry → World → Prop) (w : World) (kk : Value → World → Prop) : run1 Tryd.prog Z (convert 28 2 (.int q n)) w kk = kk (.int .i64 (IntKind.i64.wrap n)) w := r1_eq fun w => run_conv_int (by kernel_rfl) it2 q n w
theorem cv_28_2p (q : IntKind) (n : Int) (kv : Value → Prop) : Pure1 Tryd.prog (convert 28 2 (.int q n)) kv = kv (.int .i64 (IntKind.i64.wrap n)) := rp_eq fun w => run_conv_int (by kernel_rfl) it2 q n w
theorem cv_31_3 (q : IntKind) (n : Int) (Z : List PanicEntry → World → Prop) (w : World) (kk : Value → World → Prop) : run1 Tryd.prog Z (convert 31 3 (.int q n)) w kk = kk (.int .i64 (IntKind.i64.wrap n)) w := r1_eq fun w => run_conv_int (by kernel_rfl) it3 q n w
theorem cv_31_3p (q : IntKind) (n : Int) (kv : Value → Prop) : Pure1 Tryd.prog (convert 31 3 (.int q n)) kv = kv (.int .i64 (IntKind.i64.wrap n)) := rp_eq fun w => run_conv_int (by kernel_rfl) it3 q n w
theorem cv_3_5 (q : IntKind) (n : Int) (Z : List PanicEntry → World → Prop) (w : World) (kk : Value → World → Prop) : run1 Tryd.prog Z (convert 3 5 (.int q n)) w kk = kk (.int .u8 (IntKind.u8.wrap n)) w := r1_eq fun w => run_conv_int (by kernel_rfl) it5 q n w
theorem cv_3_5p (q : IntKind) (n : Int) (kv : Value → Prop) : Pure1 Tryd.prog (convert 3 5 (.int q n)) kv = kv (.int .u8 (IntKind.u8.wrap n)) := rp_eq fun w => run_conv_int (by kernel_rfl) it5 q n w
theorem ln_9_3 (s : ByteArray) (Z : List PanicEntry → World → Prop) (w : World) (kk : Value → World → Prop) : run1 Tryd.prog Z (Builtin.len_ #[9] 3 #[.string s]) w kk = kk (.int .i64 s.size) w := r1_eq fun w => run_lenStr st9 _ rfl _ s w
theorem ln_9_3p (s : ByteArray) (kv : Value → Prop) : Pure1 Tryd.prog (Builtin.len_ #[9] 3 #[.string s]) kv = kv (.int .i64 s.size) := rp_eq fun w => run_lenStr st9 _ rfl _ s w
theorem cv_3_21 (q : IntKind) (n : Int) (Z : List PanicEntry → World → Prop) (w : World) (kk : Value → World → Prop) : run1 Tryd.prog Z (convert 3 21 (.int q n)) w kk = kk (.int .i32 (IntKind.i32.wrap n)) w := r1_eq fun w => run_conv_int (by kernel_rfl) it21 q n w
theorem cv_3_21p (q : IntKind) (n : Int) (kv : Value → Prop) : Pure1 Tryd.prog (convert 3 21 (.int q n)) kv = kv (.int .i32 (IntKind.i32.wrap n)) := rp_eq fun w => run_conv_int (by kernel_rfl) it21 q n w
theorem fa_116_0 (b i : Nat) (Z : List PanicEntry → World → Prop) (w : World) (kk : Value → World → Prop) : run1 Tryd.prog Z (Instr.fieldAt 116 (.pointer (some ⟨b, i, none⟩)) 0) w kk = kk (.pointer (some ⟨b, i + 0, none⟩)) w := r1_eq fun w => run_fieldAt of116_0 b i w
theorem fa_116_0p (b i : Nat) (kv : Value → Prop) : Pure1 Tryd.prog (Instr.fieldAt 116 (.pointer (some ⟨b, i, none⟩)) 0) kv = kv (.pointer (some ⟨b, i + 0, none⟩)) := rp_eq fun w => run_fieldAt of116_0 b i w
theorem fa_116_1 (b i : Nat) (Z : List PanicEntry → World → Prop) (w : World) (kk : Value → World → Prop) : run1 Tryd.prog Z (Instr.fieldAt 116 (.pointer (some ⟨b, i, none⟩)) 1) w kk = kk (.pointer (some ⟨b, i + 1, none⟩)) w := r1_eq fun w => run_fieldAt of116_1 b i w
theorem fa_116_1p (b i : Nat) (kv : Value → Prop) : Pure1 Tryd.prog (Instr.fieldAt 116 (.pointer (some ⟨b, i, none⟩)) 1) kv = kv (.pointer (some ⟨b, i + 1, none⟩)) := rp_eq fun w => run_fieldAt of116_1 b i w
theorem fa_114_1 (b i : Nat) (Z : List PanicEntry → World → Prop) (w : World) (kk : Value → World → Prop) : run1 Tryd.prog Z (Instr.fieldAt 114 (.pointer (some ⟨b, i, none⟩)) 1) w kk = kk (.pointer (some ⟨b, i + 1, none⟩)) w := r1_eq fun w => run_fieldAt of114_1 b i w
theorem fa_114_1p (b i : Nat) (kv : Value → Prop) : Pure1 Tryd.prog (Instr.fieldAt 114 (.pointer (some ⟨b, i, none⟩)) 1) kv = kv (.pointer (some ⟨b, i + 1, none⟩)) := rp_eq fun w => run_fieldAt of114_1 b i w
theorem cv_107_5 (q : IntKind) (n : Int) (Z : List PanicEntry → World → Prop) (w : World) (kk : Value → World → Prop) : run1 Tryd.prog Z (convert 107 5 (.int q n)) w kk = kk (.int .u8 (IntKind.u8.wrap n)) w := r1_eq fun w => run_conv_int (by kernel_rfl) it5 q n w
theorem cv_107_5p (q : IntKind) (n : Int) (kv : Value → Prop) : Pure1 Tryd.prog (convert 107 5 (.int q n)) kv = kv (.int .u8 (IntKind.u8.wrap n)) := rp_eq fun w => run_conv_int (by kernel_rfl) it5 q n w
theorem fa_84_0 (b i : Nat) (Z : List PanicEntry → World → Prop) (w : World) (kk : Value → World → Prop) : run1 Tryd.prog Z (Instr.fieldAt 84 (.pointer (some ⟨b, i, none⟩)) 0) w kk = kk (.pointer (some ⟨b, i + 0, none⟩)) w := r1_eq fun w => run_fieldAt of84_0 b i w
theorem fa_84_0p (b i : Nat) (kv : Value → Prop) : Pure1 Tryd.prog (Instr.fieldAt 84 (.pointer (some ⟨b, i, none⟩)) 0) kv = kv (.pointer (some ⟨b, i + 0, none⟩)) := rp_eq fun w => run_fieldAt of84_0 b i w
theorem eqlf_117 (cx cy : Bool) (f : Fn) (a b : Array Value) (Z : List PanicEntry → World → Prop) (w : World) (kk : Value → World → Prop) : run1 Tryd.prog Z (eqOp .eql 117 cx cy (.func f a b) .nilFunc) w kk = kk (.bool false) w := r1_eq fun w => run_eql_func fu117 cx cy f a b w
theorem eqlf_117p (cx cy : Bool) (f : Fn) (a b : Array Value) (kv : Value → Prop) : Pure1 Tryd.prog (eqOp .eql 117 cx cy (.func f a b) .nilFunc) kv = kv (.bool false) := rp_eq fun w => run_eql_func fu117 cx cy f a b w
theorem eqlf0_117 (cx cy : Bool) (Z : List PanicEntry → World → Prop) (w : World) (kk : Value → World → Prop) : run1 Tryd.prog Z (eqOp .eql 117 cx cy .nilFunc .nilFunc) w kk = kk (.bool true) w := r1_eq fun w => run_eql_func0 fu117 cx cy w
theorem eqlf0_117p (cx cy : Bool) (kv : Value → Prop) : Pure1 Tryd.prog (eqOp .eql 117 cx cy .nilFunc .nilFunc) kv = kv (.bool true) := rp_eq fun w => run_eql_func0 fu117 cx cy w
theorem cv_21_107 (q : IntKind) (n : Int) (Z : List PanicEntry → World → Prop) (w : World) (kk : Value → World → Prop) : run1 Tryd.prog Z (convert 21 107 (.int q n)) w kk = kk (.int .u64 (IntKind.u64.wrap n)) w := r1_eq fun w => run_conv_int (by kernel_rfl) it107 q n w
theorem cv_21_107p (q : IntKind) (n : Int) (kv : Value → Prop) : Pure1 Tryd.prog (convert 21 107 (.int q n)) kv = kv (.int .u64 (IntKind.u64.wrap n)) := rp_eq fun w => run_conv_int (by kernel_rfl) it107 q n w
theorem eqlf_121 (cx cy : Bool) (f : Fn) (a b : Array Value) (Z : List PanicEntry → World → Prop) (w : World) (kk : Value → World → Prop) : run1 Tryd.prog Z (eqOp .eql 121 cx cy (.func f a b) .nilFunc) w kk = kk (.bool false) w := r1_eq fun w => run_eql_func fu121 cx cy f a b w
theorem eqlf_121p (cx cy : Bool) (f : Fn) (a b : Array Value) (kv : Value → Prop) : Pure1 Tryd.prog (eqOp .eql 121 cx cy (.func f a b) .nilFunc) kv = kv (.bool false) := rp_eq fun w => run_eql_func fu121 cx cy f a b w
theorem eqlf0_121 (cx cy : Bool) (Z : List PanicEntry → World → Prop) (w : World) (kk : Value → World → Prop) : run1 Tryd.prog Z (eqOp .eql 121 cx cy .nilFunc .nilFunc) w kk = kk (.bool true) w := r1_eq fun w => run_eql_func0 fu121 cx cy w
theorem eqlf0_121p (cx cy : Bool) (kv : Value → Prop) : Pure1 Tryd.prog (eqOp .eql 121 cx cy .nilFunc .nilFunc) kv = kv (.bool true) := rp_eq fun w => run_eql_func0 fu121 cx cy w
theorem fa_114_0 (b i : Nat) (Z : List PanicEntry → World → Prop) (w : World) (kk : Value → World → Prop) : run1 Tryd.prog Z (Instr.fieldAt 114 (.pointer (some ⟨b, i, none⟩)) 0) w kk = kk (.pointer (some ⟨b, i + 0, none⟩)) w := r1_eq fun w => run_fieldAt of114_0 b i w
theorem fa_114_0p (b i : Nat) (kv : Value → Prop) : Pure1 Tryd.prog (Instr.fieldAt 114 (.pointer (some ⟨b, i, none⟩)) 0) kv = kv (.pointer (some ⟨b, i + 0, none⟩)) := rp_eq fun w => run_fieldAt of114_0 b i w
theorem eqlf_85 (cx cy : Bool) (f : Fn) (a b : Array Value) (Z : List PanicEntry → World → Prop) (w : World) (kk : Value → World → Prop) : run1 Tryd.prog Z (eqOp .eql 85 cx cy (.func f a b) .nilFunc) w kk = kk (.bool false) w := r1_eq fun w => run_eql_func fu85 cx cy f a b w
theorem eqlf_85p (cx cy : Bool) (f : Fn) (a b : Array Value) (kv : Value → Prop) : Pure1 Tryd.prog (eqOp .eql 85 cx cy (.func f a b) .nilFunc) kv = kv (.bool false) := rp_eq fun w => run_eql_func fu85 cx cy f a b w
theorem eqlf0_85 (cx cy : Bool) (Z : List PanicEntry → World → Prop) (w : World) (kk : Value → World → Prop) : run1 Tryd.prog Z (eqOp .eql 85 cx cy .nilFunc .nilFunc) w kk = kk (.bool true) w := r1_eq fun w => run_eql_func0 fu85 cx cy w
theorem eqlf0_85p (cx cy : Bool) (kv : Value → Prop) : Pure1 Tryd.prog (eqOp .eql 85 cx cy .nilFunc .nilFunc) kv = kv (.bool true) := rp_eq fun w => run_eql_func0 fu85 cx cy w
theorem cv_21_2 (q : IntKind) (n : Int) (Z : List PanicEntry → World → Prop) (w : World) (kk : Value → World → Prop) : run1 Tryd.prog Z (convert 21 2 (.int q n)) w kk = kk (.int .i64 (IntKind.i64.wrap n)) w := r1_eq fun w => run_conv_int (by kernel_rfl) it2 q n w
theorem cv_21_2p (q : IntKind) (n : Int) (kv : Value → Prop) : Pure1 Tryd.prog (convert 21 2 (.int q n)) kv = kv (.int .i64 (IntKind.i64.wrap n)) := rp_eq fun w => run_conv_int (by kernel_rfl) it2 q n w
theorem neqp_77 (cx cy : Bool) (a : Addr) (Z : List PanicEntry → World → Prop) (w : World) (kk : Value → World → Prop) : run1 Tryd.prog Z (eqOp .neq 77 cx cy (.pointer (some a)) (.pointer none)) w kk = kk (.bool true) w := r1_eq fun w => run_neq_ptr_nil pt77 cx cy a w
theorem neqp_77p (cx cy : Bool) (a : Addr) (kv : Value → Prop) : Pure1 Tryd.prog (eqOp .neq 77 cx cy (.pointer (some a)) (.pointer none)) kv = kv (.bool true) := rp_eq fun w => run_neq_ptr_nil pt77 cx cy a w
theorem neqn_77 (cx cy : Bool) (Z : List PanicEntry → World → Prop) (w : World) (kk : Value → World → Prop) : run1 Tryd.prog Z (eqOp .neq 77 cx cy (.pointer none) (.pointer none)) w kk = kk (.bool false) w := r1_eq fun w => run_neqNN pt77 cx cy w
theorem neqn_77p (cx cy : Bool) (kv : Value → Prop) : Pure1 Tryd.prog (eqOp .neq 77 cx cy (.pointer none) (.pointer none)) kv = kv (.bool false) := rp_eq fun w => run_neqNN pt77 cx cy w
theorem cv_107_28 (q : IntKind) (n : Int) (Z : List PanicEntry → World → Prop) (w : World) (kk : Value → World → Prop) : run1 Tryd.prog Z (convert 107 28 (.int q n)) w kk = kk (.int .u32 (IntKind.u32.wrap n)) w := r1_eq fun w => run_conv_int (by kernel_rfl) it28 q n w
theorem cv_107_28p (q : IntKind) (n : Int) (kv : Value → Prop) : Pure1 Tryd.prog (convert 107 28 (.int q n)) kv = kv (.int .u32 (IntKind.u32.wrap n)) := rp_eq fun w => run_conv_int (by kernel_rfl) it28 q n w
theorem cv_28_5 (q : IntKind) (n : Int) (Z : List PanicEntry → World → Prop) (w : World) (kk : Value → World → Prop) : run1 Tryd.prog Z (convert 28 5 (.int q n)) w kk = kk (.int .u8 (IntKind.u8.wrap n)) w := r1_eq fun w => run_conv_int (by kernel_rfl) it5 q n w
theorem cv_28_5p (q : IntKind) (n : Int) (kv : Value → Prop) : Pure1 Tryd.prog (convert 28 5 (.int q n)) kv = kv (.int .u8 (IntKind.u8.wrap n)) := rp_eq fun w => run_conv_int (by kernel_rfl) it5 q n w
theorem cv_3_108 (q : IntKind) (n : Int) (Z : List PanicEntry → World → Prop) (w : World) (kk : Value → World → Prop) : run1 Tryd.prog Z (convert 3 108 (.int q n)) w kk = kk (.int .u64 (IntKind.u64.wrap n)) w := r1_eq fun w => run_conv_int (by kernel_rfl) it108 q n w
theorem cv_3_108p (q : IntKind) (n : Int) (kv : Value → Prop) : Pure1 Tryd.prog (convert 3 108 (.int q n)) kv = kv (.int .u64 (IntKind.u64.wrap n)) := rp_eq fun w => run_conv_int (by kernel_rfl) it108 q n w
theorem cv_3_107 (q : IntKind) (n : Int) (Z : List PanicEntry → World → Prop) (w : World) (kk : Value → World → Prop) : run1 Tryd.prog Z (convert 3 107 (.int q n)) w kk = kk (.int .u64 (IntKind.u64.wrap n)) w := r1_eq fun w => run_conv_int (by kernel_rfl) it107 q n w
theorem cv_3_107p (q : IntKind) (n : Int) (kv : Value → Prop) : Pure1 Tryd.prog (convert 3 107 (.int q n)) kv = kv (.int .u64 (IntKind.u64.wrap n)) := rp_eq fun w => run_conv_int (by kernel_rfl) it107 q n w
theorem cv_5_3 (q : IntKind) (n : Int) (Z : List PanicEntry → World → Prop) (w : World) (kk : Value → World → Prop) : run1 Tryd.prog Z (convert 5 3 (.int q n)) w kk = kk (.int .i64 (IntKind.i64.wrap n)) w := r1_eq fun w => run_conv_int (by kernel_rfl) it3 q n w
theorem cv_5_3p (q : IntKind) (n : Int) (kv : Value → Prop) : Pure1 Tryd.prog (convert 5 3 (.int q n)) kv = kv (.int .i64 (IntKind.i64.wrap n)) := rp_eq fun w => run_conv_int (by kernel_rfl) it3 q n w
theorem cv_108_28 (q : IntKind) (n : Int) (Z : List PanicEntry → World → Prop) (w : World) (kk : Value → World → Prop) : run1 Tryd.prog Z (convert 108 28 (.int q n)) w kk = kk (.int .u32 (IntKind.u32.wrap n)) w := r1_eq fun w => run_conv_int (by kernel_rfl) it28 q n w
theorem cv_108_28p (q : IntKind) (n : Int) (kv : Value → Prop) : Pure1 Tryd.prog (convert 108 28 (.int q n)) kv = kv (.int .u32 (IntKind.u32.wrap n)) := rp_eq fun w => run_conv_int (by kernel_rfl) it28 q n w
theorem o_add (t : TypeId) (k : IntKind) (x y : Int) (Z : List PanicEntry → World → Prop) (w : World) (kk : Value → World → Prop) : run1 Tryd.prog Z (binOp .add t (.int k x) (.int k y)) w kk = kk (.int k (k.wrap (x + y))) w := r1_eq fun w => run_add _ w t k x y
theorem o_addp (t : TypeId) (k : IntKind) (x y : Int) (kv : Value → Prop) : Pure1 Tryd.prog (binOp .add t (.int k x) (.int k y)) kv = kv (.int k (k.wrap (x + y))) := rp_eq fun w => run_add _ w t k x y
theorem o_sub (t : TypeId) (k : IntKind) (x y : Int) (Z : List PanicEntry → World → Prop) (w : World) (kk : Value → World → Prop) : run1 Tryd.prog Z (binOp .sub t (.int k x) (.int k y)) w kk = kk (.int k (k.wrap (x - y))) w := r1_eq fun w => run_sub _ w t k x y
theorem o_subp (t : TypeId) (k : IntKind) (x y : Int) (kv : Value → Prop) : Pure1 Tryd.prog (binOp .sub t (.int k x) (.int k y)) kv = kv (.int k (k.wrap (x - y))) := rp_eq fun w => run_sub _ w t k x y
theorem o_mul (t : TypeId) (k : IntKind) (x y : Int) (Z : List PanicEntry → World → Prop) (w : World) (kk : Value → World → Prop) : run1 Tryd.prog Z (binOp .mul t (.int k x) (.int k y)) w kk = kk (.int k (k.wrap (x * y))) w := r1_eq fun w => run_mul _ w t k x y
theorem o_mulp (t : TypeId) (k : IntKind) (x y : Int) (kv : Value → Prop) : Pure1 Tryd.prog (binOp .mul t (.int k x) (.int k y)) kv = kv (.int k (k.wrap (x * y))) := rp_eq fun w => run_mul _ w t k x y
theorem o_lss (t : TypeId) (k : IntKind) (x y : Int) (Z : List PanicEntry → World → Prop) (w : World) (kk : Value → World → Prop) : run1 Tryd.prog Z (binOp .lss t (.int k x) (.int k y)) w kk = kk (.bool (decide (x < y))) w := r1_eq fun w => run_lss _ w t k x y
theorem o_lssp (t : TypeId) (k : IntKind) (x y : Int) (kv : Value → Prop) : Pure1 Tryd.prog (binOp .lss t (.int k x) (.int k y)) kv = kv (.bool (decide (x < y))) := rp_eq fun w => run_lss _ w t k x y
theorem o_leq (t : TypeId) (k : IntKind) (x y : Int) (Z : List PanicEntry → World → Prop) (w : World) (kk : Value → World → Prop) : run1 Tryd.prog Z (binOp .leq t (.int k x) (.int k y)) w kk = kk (.bool (decide (x ≤ y))) w := r1_eq fun w => run_leq _ w t k x y
theorem o_leqp (t : TypeId) (k : IntKind) (x y : Int) (kv : Value → Prop) : Pure1 Tryd.prog (binOp .leq t (.int k x) (.int k y)) kv = kv (.bool (decide (x ≤ y))) := rp_eq fun w => run_leq _ w t k x y
theorem o_gtr (t : TypeId) (k : IntKind) (x y : Int) (Z : List PanicEntry → World → Prop) (w : World) (kk : Value → World → Prop) : run1 Tryd.prog Z (binOp .gtr t (.int k x) (.int k y)) w kk = kk (.bool (decide (y < x))) w := r1_eq fun w => run_gtr _ w t k x y
theorem o_gtrp (t : TypeId) (k : IntKind) (x y : Int) (kv : Value → Prop) : Pure1 Tryd.prog (binOp .gtr t (.int k x) (.int k y)) kv = kv (.bool (decide (y < x))) := rp_eq fun w => run_gtr _ w t k x y
theorem o_geq (t : TypeId) (k : IntKind) (x y : Int) (Z : List PanicEntry → World → Prop) (w : World) (kk : Value → World → Prop) : run1 Tryd.prog Z (binOp .geq t (.int k x) (.int k y)) w kk = kk (.bool (decide (y ≤ x))) w := r1_eq fun w => run_geq _ w t k x y
theorem o_geqp (t : TypeId) (k : IntKind) (x y : Int) (kv : Value → Prop) : Pure1 Tryd.prog (binOp .geq t (.int k x) (.int k y)) kv = kv (.bool (decide (y ≤ x))) := rp_eq fun w => run_geq _ w t k x y
theorem o_eql (t : TypeId) (cx cy : Bool) (k : IntKind) (x y : Int) (Z : List PanicEntry → World → Prop) (w : World) (kk : Value → World → Prop) : run1 Tryd.prog Z (eqOp .eql t cx cy (.int k x) (.int k y)) w kk = kk (.bool (x == y)) w := r1_eq fun w => run_eql_int _ w t cx cy k x y
theorem o_eqlp (t : TypeId) (cx cy : Bool) (k : IntKind) (x y : Int) (kv : Value → Prop) : Pure1 Tryd.prog (eqOp .eql t cx cy (.int k x) (.int k y)) kv = kv (.bool (x == y)) := rp_eq fun w => run_eql_int _ w t cx cy k x y
theorem o_neq (t : TypeId) (cx cy : Bool) (k : IntKind) (x y : Int) (Z : List PanicEntry → World → Prop) (w : World) (kk : Value → World → Prop) : run1 Tryd.prog Z (eqOp .neq t cx cy (.int k x) (.int k y)) w kk = kk (.bool (x != y)) w := r1_eq fun w => run_neq_int _ w t cx cy k x y
theorem o_neqp (t : TypeId) (cx cy : Bool) (k : IntKind) (x y : Int) (kv : Value → Prop) : Pure1 Tryd.prog (eqOp .neq t cx cy (.int k x) (.int k y)) kv = kv (.bool (x != y)) := rp_eq fun w => run_neq_int _ w t cx cy k x y
theorem os_eql (t : TypeId) (cx cy : Bool) (a b : ByteArray) (Z : List PanicEntry → World → Prop) (w : World) (kk : Value → World → Prop) : run1 Tryd.prog Z (eqOp .eql t cx cy (.string a) (.string b)) w kk = kk (.bool ((a.toList == b.toList))) w := r1_eq fun w => run_eql_str t cx cy a b w
theorem os_eqlp (t : TypeId) (cx cy : Bool) (a b : ByteArray) (kv : Value → Prop) : Pure1 Tryd.prog (eqOp .eql t cx cy (.string a) (.string b)) kv = kv (.bool ((a.toList == b.toList))) := rp_eq fun w => run_eql_str t cx cy a b w
theorem os_neq (t : TypeId) (cx cy : Bool) (a b : ByteArray) (Z : List PanicEntry → World → Prop) (w : World) (kk : Value → World → Prop) : run1 Tryd.prog Z (eqOp .neq t cx cy (.string a) (.string b)) w kk = kk (.bool (!(a.toList == b.toList))) w := r1_eq fun w => run_neq_str t cx cy a b w
theorem os_neqp (t : TypeId) (cx cy : Bool) (a b : ByteArray) (kv : Value → Prop) : Pure1 Tryd.prog (eqOp .neq t cx cy (.string a) (.string b)) kv = kv (.bool (!(a.toList == b.toList))) := rp_eq fun w => run_neq_str t cx cy a b w
theorem o_and (t : TypeId) (k : IntKind) (x y : Int) (Z : List PanicEntry → World → Prop) (w : World) (kk : Value → World → Prop) : run1 Tryd.prog Z (binOp .and t (.int k x) (.int k y)) w kk = kk (.int k (k.wrap (BitVec.ofInt k.bits x &&& BitVec.ofInt k.bits y).toNat)) w := r1_eq fun w => run_and _ w t k x y
theorem o_andp (t : TypeId) (k : IntKind) (x y : Int) (kv : Value → Prop) : Pure1 Tryd.prog (binOp .and t (.int k x) (.int k y)) kv = kv (.int k (k.wrap (BitVec.ofInt k.bits x &&& BitVec.ofInt k.bits y).toNat)) := rp_eq fun w => run_and _ w t k x y
theorem o_or (t : TypeId) (k : IntKind) (x y : Int) (Z : List PanicEntry → World → Prop) (w : World) (kk : Value → World → Prop) : run1 Tryd.prog Z (binOp .or t (.int k x) (.int k y)) w kk = kk (.int k (k.wrap (BitVec.ofInt k.bits x ||| BitVec.ofInt k.bits y).toNat)) w := r1_eq fun w => run_or _ w t k x y
theorem o_orp (t : TypeId) (k : IntKind) (x y : Int) (kv : Value → Prop) : Pure1 Tryd.prog (binOp .or t (.int k x) (.int k y)) kv = kv (.int k (k.wrap (BitVec.ofInt k.bits x ||| BitVec.ofInt k.bits y).toNat)) := rp_eq fun w => run_or _ w t k x y
theorem o_xor (t : TypeId) (k : IntKind) (x y : Int) (Z : List PanicEntry → World → Prop) (w : World) (kk : Value → World → Prop) : run1 Tryd.prog Z (binOp .xor t (.int k x) (.int k y)) w kk = kk (.int k (k.wrap (BitVec.ofInt k.bits x ^^^ BitVec.ofInt k.bits y).toNat)) w := r1_eq fun w => run_xor _ w t k x y
theorem o_xorp (t : TypeId) (k : IntKind) (x y : Int) (kv : Value → Prop) : Pure1 Tryd.prog (binOp .xor t (.int k x) (.int k y)) kv = kv (.int k (k.wrap (BitVec.ofInt k.bits x ^^^ BitVec.ofInt k.bits y).toNat)) := rp_eq fun w => run_xor _ w t k x y
theorem o_not (b : Bool) (Z : List PanicEntry → World → Prop) (w : World) (kk : Value → World → Prop) : run1 Tryd.prog Z (Op.unary .not (.bool b)) w kk = kk (.bool !b) w := r1_eq fun w => run_not _ w b
theorem o_notp (b : Bool) (kv : Value → Prop) : Pure1 Tryd.prog (Op.unary .not (.bool b)) kv = kv (.bool !b) := rp_eq fun w => run_not _ w b
theorem o_pickT (x y : Value) (Z : List PanicEntry → World → Prop) (w : World) (kk : Value → World → Prop) : run1 Tryd.prog Z (pickV (.bool true) x y) w kk = kk x w := r1_eq fun w => run_pick _ w true x y
theorem o_pickTp (x y : Value) (kv : Value → Prop) : Pure1 Tryd.prog (pickV (.bool true) x y) kv = kv x := rp_eq fun w => run_pick _ w true x y
theorem o_pickF (x y : Value) (Z : List PanicEntry → World → Prop) (w : World) (kk : Value → World → Prop) : run1 Tryd.prog Z (pickV (.bool false) x y) w kk = kk y w := r1_eq fun w => run_pick _ w false x y
theorem o_pickFp (x y : Value) (kv : Value → Prop) : Pure1 Tryd.prog (pickV (.bool false) x y) kv = kv y := rp_eq fun w => run_pick _ w false x y
theorem o_ext1_0 (v0 : Value) (Z : List PanicEntry → World → Prop) (w : World) (kk : Value → World → Prop) : run1 Tryd.prog Z (Instr.extract (.tuple #[v0]) 0) w kk = kk v0 w := r1_eq fun w => run_extract _ w _ 0 _ rfl
theorem o_ext1_0p (v0 : Value) (kv : Value → Prop) : Pure1 Tryd.prog (Instr.extract (.tuple #[v0]) 0) kv = kv v0 := rp_eq fun w => run_extract _ w _ 0 _ rfl
theorem o_ext2_0 (v0 v1 : Value) (Z : List PanicEntry → World → Prop) (w : World) (kk : Value → World → Prop) : run1 Tryd.prog Z (Instr.extract (.tuple #[v0, v1]) 0) w kk = kk v0 w := r1_eq fun w => run_extract _ w _ 0 _ rfl
theorem o_ext2_0p (v0 v1 : Value) (kv : Value → Prop) : Pure1 Tryd.prog (Instr.extract (.tuple #[v0, v1]) 0) kv = kv v0 := rp_eq fun w => run_extract _ w _ 0 _ rfl
theorem o_ext2_1 (v0 v1 : Value) (Z : List PanicEntry → World → Prop) (w : World) (kk : Value → World → Prop) : run1 Tryd.prog Z (Instr.extract (.tuple #[v0, v1]) 1) w kk = kk v1 w := r1_eq fun w => run_extract _ w _ 1 _ rfl
theorem o_ext2_1p (v0 v1 : Value) (kv : Value → Prop) : Pure1 Tryd.prog (Instr.extract (.tuple #[v0, v1]) 1) kv = kv v1 := rp_eq fun w => run_extract _ w _ 1 _ rfl
theorem o_ext3_0 (v0 v1 v2 : Value) (Z : List PanicEntry → World → Prop) (w : World) (kk : Value → World → Prop) : run1 Tryd.prog Z (Instr.extract (.tuple #[v0, v1, v2]) 0) w kk = kk v0 w := r1_eq fun w => run_extract _ w _ 0 _ rfl
theorem o_ext3_0p (v0 v1 v2 : Value) (kv : Value → Prop) : Pure1 Tryd.prog (Instr.extract (.tuple #[v0, v1, v2]) 0) kv = kv v0 := rp_eq fun w => run_extract _ w _ 0 _ rfl
theorem o_ext3_1 (v0 v1 v2 : Value) (Z : List PanicEntry → World → Prop) (w : World) (kk : Value → World → Prop) : run1 Tryd.prog Z (Instr.extract (.tuple #[v0, v1, v2]) 1) w kk = kk v1 w := r1_eq fun w => run_extract _ w _ 1 _ rfl
theorem o_ext3_1p (v0 v1 v2 : Value) (kv : Value → Prop) : Pure1 Tryd.prog (Instr.extract (.tuple #[v0, v1, v2]) 1) kv = kv v1 := rp_eq fun w => run_extract _ w _ 1 _ rfl
theorem o_ext3_2 (v0 v1 v2 : Value) (Z : List PanicEntry → World → Prop) (w : World) (kk : Value → World → Prop) : run1 Tryd.prog Z (Instr.extract (.tuple #[v0, v1, v2]) 2) w kk = kk v2 w := r1_eq fun w => run_extract _ w _ 2 _ rfl
theorem o_ext3_2p (v0 v1 v2 : Value) (kv : Value → Prop) : Pure1 Tryd.prog (Instr.extract (.tuple #[v0, v1, v2]) 2) kv = kv v2 := rp_eq fun w => run_extract _ w _ 2 _ rfl
theorem o_ext4_0 (v0 v1 v2 v3 : Value) (Z : List PanicEntry → World → Prop) (w : World) (kk : Value → World → Prop) : run1 Tryd.prog Z (Instr.extract (.tuple #[v0, v1, v2, v3]) 0) w kk = kk v0 w := r1_eq fun w => run_extract _ w _ 0 _ rfl
theorem o_ext4_0p (v0 v1 v2 v3 : Value) (kv : Value → Prop) : Pure1 Tryd.prog (Instr.extract (.tuple #[v0, v1, v2, v3]) 0) kv = kv v0 := rp_eq fun w => run_extract _ w _ 0 _ rfl
theorem o_ext4_1 (v0 v1 v2 v3 : Value) (Z : List PanicEntry → World → Prop) (w : World) (kk : Value → World → Prop) : run1 Tryd.prog Z (Instr.extract (.tuple #[v0, v1, v2, v3]) 1) w kk = kk v1 w := r1_eq fun w => run_extract _ w _ 1 _ rfl
theorem o_ext4_1p (v0 v1 v2 v3 : Value) (kv : Value → Prop) : Pure1 Tryd.prog (Instr.extract (.tuple #[v0, v1, v2, v3]) 1) kv = kv v1 := rp_eq fun w => run_extract _ w _ 1 _ rfl
theorem o_ext4_2 (v0 v1 v2 v3 : Value) (Z : List PanicEntry → World → Prop) (w : World) (kk : Value → World → Prop) : run1 Tryd.prog Z (Instr.extract (.tuple #[v0, v1, v2, v3]) 2) w kk = kk v2 w := r1_eq fun w => run_extract _ w _ 2 _ rfl
theorem o_ext4_2p (v0 v1 v2 v3 : Value) (kv : Value → Prop) : Pure1 Tryd.prog (Instr.extract (.tuple #[v0, v1, v2, v3]) 2) kv = kv v2 := rp_eq fun w => run_extract _ w _ 2 _ rfl
theorem o_ext4_3 (v0 v1 v2 v3 : Value) (Z : List PanicEntry → World → Prop) (w : World) (kk : Value → World → Prop) : run1 Tryd.prog Z (Instr.extract (.tuple #[v0, v1, v2, v3]) 3) w kk = kk v3 w := r1_eq fun w => run_extract _ w _ 3 _ rfl
theorem o_ext4_3p (v0 v1 v2 v3 : Value) (kv : Value → Prop) : Pure1 Tryd.prog (Instr.extract (.tuple #[v0, v1, v2, v3]) 3) kv = kv v3 := rp_eq fun w => run_extract _ w _ 3 _ rfl
theorem o_ext5_0 (v0 v1 v2 v3 v4 : Value) (Z : List PanicEntry → World → Prop) (w : World) (kk : Value → World → Prop) : run1 Tryd.prog Z (Instr.extract (.tuple #[v0, v1, v2, v3, v4]) 0) w kk = kk v0 w := r1_eq fun w => run_extract _ w _ 0 _ rfl
theorem o_ext5_0p (v0 v1 v2 v3 v4 : Value) (kv : Value → Prop) : Pure1 Tryd.prog (Instr.extract (.tuple #[v0, v1, v2, v3, v4]) 0) kv = kv v0 := rp_eq fun w => run_extract _ w _ 0 _ rfl
theorem o_ext5_1 (v0 v1 v2 v3 v4 : Value) (Z : List PanicEntry → World → Prop) (w : World) (kk : Value → World → Prop) : run1 Tryd.prog Z (Instr.extract (.tuple #[v0, v1, v2, v3, v4]) 1) w kk = kk v1 w := r1_eq fun w => run_extract _ w _ 1 _ rfl
theorem o_ext5_1p (v0 v1 v2 v3 v4 : Value) (kv : Value → Prop) : Pure1 Tryd.prog (Instr.extract (.tuple #[v0, v1, v2, v3, v4]) 1) kv = kv v1 := rp_eq fun w => run_extract _ w _ 1 _ rfl
theorem o_ext5_2 (v0 v1 v2 v3 v4 : Value) (Z : List PanicEntry → World → Prop) (w : World) (kk : Value → World → Prop) : run1 Tryd.prog Z (Instr.extract (.tuple #[v0, v1, v2, v3, v4]) 2) w kk = kk v2 w := r1_eq fun w => run_extract _ w _ 2 _ rfl
theorem o_ext5_2p (v0 v1 v2 v3 v4 : Value) (kv : Value → Prop) : Pure1 Tryd.prog (Instr.extract (.tuple #[v0, v1, v2, v3, v4]) 2) kv = kv v2 := rp_eq fun w => run_extract _ w _ 2 _ rfl
theorem o_ext5_3 (v0 v1 v2 v3 v4 : Value) (Z : List PanicEntry → World → Prop) (w : World) (kk : Value → World → Prop) : run1 Tryd.prog Z (Instr.extract (.tuple #[v0, v1, v2, v3, v4]) 3) w kk = kk v3 w := r1_eq fun w => run_extract _ w _ 3 _ rfl
theorem o_ext5_3p (v0 v1 v2 v3 v4 : Value) (kv : Value → Prop) : Pure1 Tryd.prog (Instr.extract (.tuple #[v0, v1, v2, v3, v4]) 3) kv = kv v3 := rp_eq fun w => run_extract _ w _ 3 _ rfl
theorem o_ext5_4 (v0 v1 v2 v3 v4 : Value) (Z : List PanicEntry → World → Prop) (w : World) (kk : Value → World → Prop) : run1 Tryd.prog Z (Instr.extract (.tuple #[v0, v1, v2, v3, v4]) 4) w kk = kk v4 w := r1_eq fun w => run_extract _ w _ 4 _ rfl
theorem o_ext5_4p (v0 v1 v2 v3 v4 : Value) (kv : Value → Prop) : Pure1 Tryd.prog (Instr.extract (.tuple #[v0, v1, v2, v3, v4]) 4) kv = kv v4 := rp_eq fun w => run_extract _ w _ 4 _ rfl
theorem o_max (ts : Array TypeId) (t : TypeId) (k k' : IntKind) (x y : Int) (Z : List PanicEntry → World → Prop) (w : World) (kk : Value → World → Prop) : run1 Tryd.prog Z (Builtin.max_ ts t #[.int k x, .int k' y]) w kk = kk (.int k (max x y)) w := r1_eq fun w => run_maxV ts t k k' x y w
theorem o_maxp (ts : Array TypeId) (t : TypeId) (k k' : IntKind) (x y : Int) (kv : Value → Prop) : Pure1 Tryd.prog (Builtin.max_ ts t #[.int k x, .int k' y]) kv = kv (.int k (max x y)) := rp_eq fun w => run_maxV ts t k k' x y w
theorem o_min (ts : Array TypeId) (t : TypeId) (k k' : IntKind) (x y : Int) (Z : List PanicEntry → World → Prop) (w : World) (kk : Value → World → Prop) : run1 Tryd.prog Z (Builtin.min_ ts t #[.int k x, .int k' y]) w kk = kk (.int k (min x y)) w := r1_eq fun w => run_minV ts t k k' x y w
theorem o_minp (ts : Array TypeId) (t : TypeId) (k k' : IntKind) (x y : Int) (kv : Value → Prop) : Pure1 Tryd.prog (Builtin.min_ ts t #[.int k x, .int k' y]) kv = kv (.int k (min x y)) := rp_eq fun w => run_minV ts t k k' x y w
theorem o_fn (fn : Fn) (a b : Array Value) (Z : List PanicEntry → World → Prop) (w : World) (kk : Value → World → Prop) : run1 Tryd.prog Z (Instr.makeFunc fn a b) w kk = kk (.func fn a b) w := r1_eq fun w => run_makeFunc _ w fn a b
theorem o_fnp (fn : Fn) (a b : Array Value) (kv : Value → Prop) : Pure1 Tryd.prog (Instr.makeFunc fn a b) kv = kv (.func fn a b) := rp_eq fun w => run_makeFunc _ w fn a b
theorem o_chk (a : Addr) (Z : List PanicEntry → World → Prop) (w : World) (kk : Value → World → Prop) : runX Tryd.prog Z (nilChk (.pointer (some a))) w kk = kk (.pointer (some a)) w := rX_eq fun w => run_nilChk _ w a
theorem o_chkp (a : Addr) (kv : Value → Prop) : PureV Tryd.prog (nilChk (.pointer (some a))) kv = kv (.pointer (some a)) := rpV_eq fun w => run_nilChk _ w a
end Go.Proofs.YtoeamecdkimgaaaDoor
