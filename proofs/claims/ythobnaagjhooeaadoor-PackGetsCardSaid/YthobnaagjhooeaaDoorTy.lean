import Derived.Test.YthobnaagjhooeaaDoorShOpen
import Derived.Test.YthobnaagjhooeaaDoorProg
set_option linter.unusedVariables false
namespace Go.Proofs.YthobnaagjhooeaaDoor
open Go.Sh
theorem fu1 : isFuncT Tryd.prog 1 = true := by kernel_rfl
theorem one1 : oneT Tryd.prog 1 = true := by kernel_rfl
theorem ze1 : zeroT Tryd.prog 1 = some .nilFunc := by kernel_rfl
theorem it2 : intT Tryd.prog 2 = some .i64 := by kernel_rfl
theorem one2 : oneT Tryd.prog 2 = true := by kernel_rfl
theorem ze2 : zeroT Tryd.prog 2 = some (.int .i64 0) := by kernel_rfl
theorem it3 : intT Tryd.prog 3 = some .i64 := by kernel_rfl
theorem one3 : oneT Tryd.prog 3 = true := by kernel_rfl
theorem ze3 : zeroT Tryd.prog 3 = some (.int .i64 0) := by kernel_rfl
theorem bo4 : isBoolT Tryd.prog 4 = true := by kernel_rfl
theorem one4 : oneT Tryd.prog 4 = true := by kernel_rfl
theorem ze4 : zeroT Tryd.prog 4 = some (.bool false) := by kernel_rfl
theorem it5 : intT Tryd.prog 5 = some .u8 := by kernel_rfl
theorem one5 : oneT Tryd.prog 5 = true := by kernel_rfl
theorem ze5 : zeroT Tryd.prog 5 = some (.int .u8 0) := by kernel_rfl
theorem it6 : intT Tryd.prog 6 = some .u8 := by kernel_rfl
theorem one6 : oneT Tryd.prog 6 = true := by kernel_rfl
theorem ze6 : zeroT Tryd.prog 6 = some (.int .u8 0) := by kernel_rfl
theorem ag7 : aggT Tryd.prog 7 4 = true := by kernel_rfl
theorem ze7 : zeroT Tryd.prog 7 = some (.agg #[(.int .i64 0), (.int .i64 0), (.bool false), (.int .u8 0)]) := by kernel_rfl
theorem of7_0 : offT Tryd.prog 7 0 = some 0 := by kernel_rfl
theorem of7_1 : offT Tryd.prog 7 1 = some 1 := by kernel_rfl
theorem of7_2 : offT Tryd.prog 7 2 = some 2 := by kernel_rfl
theorem of7_3 : offT Tryd.prog 7 3 = some 3 := by kernel_rfl
theorem ag8 : aggT Tryd.prog 8 4 = true := by kernel_rfl
theorem ze8 : zeroT Tryd.prog 8 = some (.agg #[(.int .i64 0), (.int .i64 0), (.bool false), (.int .u8 0)]) := by kernel_rfl
theorem of8_0 : offT Tryd.prog 8 0 = some 0 := by kernel_rfl
theorem of8_1 : offT Tryd.prog 8 1 = some 1 := by kernel_rfl
theorem of8_2 : offT Tryd.prog 8 2 = some 2 := by kernel_rfl
theorem of8_3 : offT Tryd.prog 8 3 = some 3 := by kernel_rfl
theorem st9 : isStrT Tryd.prog 9 = true := by kernel_rfl
theorem one9 : oneT Tryd.prog 9 = true := by kernel_rfl
theorem ze9 : zeroT Tryd.prog 9 = some (.string ByteArray.empty) := by kernel_rfl
theorem st10 : isStrT Tryd.prog 10 = true := by kernel_rfl
theorem one10 : oneT Tryd.prog 10 = true := by kernel_rfl
theorem ze10 : zeroT Tryd.prog 10 = some (.string ByteArray.empty) := by kernel_rfl
theorem st11 : isStrT Tryd.prog 11 = true := by kernel_rfl
theorem one11 : oneT Tryd.prog 11 = true := by kernel_rfl
theorem ze11 : zeroT Tryd.prog 11 = some (.string ByteArray.empty) := by kernel_rfl
theorem it12 : intT Tryd.prog 12 = some .u64 := by kernel_rfl
theorem one12 : oneT Tryd.prog 12 = true := by kernel_rfl
theorem ze12 : zeroT Tryd.prog 12 = some (.int .u64 0) := by kernel_rfl
theorem ag13 : aggT Tryd.prog 13 2 = true := by kernel_rfl
theorem ze13 : zeroT Tryd.prog 13 = some (.agg #[(.string ByteArray.empty), (.int .u64 0)]) := by kernel_rfl
theorem of13_0 : offT Tryd.prog 13 0 = some 0 := by kernel_rfl
theorem of13_1 : offT Tryd.prog 13 1 = some 1 := by kernel_rfl
theorem ag14 : aggT Tryd.prog 14 2 = true := by kernel_rfl
theorem ze14 : zeroT Tryd.prog 14 = some (.agg #[(.string ByteArray.empty), (.int .u64 0)]) := by kernel_rfl
theorem of14_0 : offT Tryd.prog 14 0 = some 0 := by kernel_rfl
theorem of14_1 : offT Tryd.prog 14 1 = some 1 := by kernel_rfl
theorem pt15 : isPtrT Tryd.prog 15 = true := by kernel_rfl
theorem one15 : oneT Tryd.prog 15 = true := by kernel_rfl
theorem ze15 : zeroT Tryd.prog 15 = some (.pointer none) := by kernel_rfl
theorem pt16 : isPtrT Tryd.prog 16 = true := by kernel_rfl
theorem one16 : oneT Tryd.prog 16 = true := by kernel_rfl
theorem ze16 : zeroT Tryd.prog 16 = some (.pointer none) := by kernel_rfl
theorem pt17 : isPtrT Tryd.prog 17 = true := by kernel_rfl
theorem one17 : oneT Tryd.prog 17 = true := by kernel_rfl
theorem ze17 : zeroT Tryd.prog 17 = some (.pointer none) := by kernel_rfl
theorem ag18 : aggT Tryd.prog 18 1 = true := by kernel_rfl
theorem ze18 : zeroT Tryd.prog 18 = some (.agg #[(.pointer none)]) := by kernel_rfl
theorem of18_0 : offT Tryd.prog 18 0 = some 0 := by kernel_rfl
theorem ag19 : aggT Tryd.prog 19 1 = true := by kernel_rfl
theorem ze19 : zeroT Tryd.prog 19 = some (.agg #[(.pointer none)]) := by kernel_rfl
theorem of19_0 : offT Tryd.prog 19 0 = some 0 := by kernel_rfl
theorem one20 : oneT Tryd.prog 20 = true := by kernel_rfl
theorem ze20 : zeroT Tryd.prog 20 = some .nilIface := by kernel_rfl
theorem it21 : intT Tryd.prog 21 = some .i32 := by kernel_rfl
theorem one21 : oneT Tryd.prog 21 = true := by kernel_rfl
theorem ze21 : zeroT Tryd.prog 21 = some (.int .i32 0) := by kernel_rfl
theorem sl22 : isSliceT Tryd.prog 22 = true := by kernel_rfl
theorem one22 : oneT Tryd.prog 22 = true := by kernel_rfl
theorem el22 : El Tryd.prog 22 5 1 1 (.int .u8 0) := ⟨Tryd.underlying22, by kernel_rfl, by kernel_rfl, by decide⟩
theorem ze22 : zeroT Tryd.prog 22 = some (.slice none 0 0) := by kernel_rfl
theorem fu23 : isFuncT Tryd.prog 23 = true := by kernel_rfl
theorem one23 : oneT Tryd.prog 23 = true := by kernel_rfl
theorem ze23 : zeroT Tryd.prog 23 = some .nilFunc := by kernel_rfl
theorem pt24 : isPtrT Tryd.prog 24 = true := by kernel_rfl
theorem one24 : oneT Tryd.prog 24 = true := by kernel_rfl
theorem ze24 : zeroT Tryd.prog 24 = some (.pointer none) := by kernel_rfl
theorem fu25 : isFuncT Tryd.prog 25 = true := by kernel_rfl
theorem one25 : oneT Tryd.prog 25 = true := by kernel_rfl
theorem ze25 : zeroT Tryd.prog 25 = some .nilFunc := by kernel_rfl
theorem fu26 : isFuncT Tryd.prog 26 = true := by kernel_rfl
theorem one26 : oneT Tryd.prog 26 = true := by kernel_rfl
theorem ze26 : zeroT Tryd.prog 26 = some .nilFunc := by kernel_rfl
theorem sl27 : isSliceT Tryd.prog 27 = true := by kernel_rfl
theorem one27 : oneT Tryd.prog 27 = true := by kernel_rfl
theorem el27 : El Tryd.prog 27 9 1 16 (.string ByteArray.empty) := ⟨Tryd.underlying27, by kernel_rfl, by kernel_rfl, by decide⟩
theorem ze27 : zeroT Tryd.prog 27 = some (.slice none 0 0) := by kernel_rfl
theorem fu28 : isFuncT Tryd.prog 28 = true := by kernel_rfl
theorem one28 : oneT Tryd.prog 28 = true := by kernel_rfl
theorem ze28 : zeroT Tryd.prog 28 = some .nilFunc := by kernel_rfl
theorem fu29 : isFuncT Tryd.prog 29 = true := by kernel_rfl
theorem one29 : oneT Tryd.prog 29 = true := by kernel_rfl
theorem ze29 : zeroT Tryd.prog 29 = some .nilFunc := by kernel_rfl
theorem pt30 : isPtrT Tryd.prog 30 = true := by kernel_rfl
theorem one30 : oneT Tryd.prog 30 = true := by kernel_rfl
theorem ze30 : zeroT Tryd.prog 30 = some (.pointer none) := by kernel_rfl
theorem fu31 : isFuncT Tryd.prog 31 = true := by kernel_rfl
theorem one31 : oneT Tryd.prog 31 = true := by kernel_rfl
theorem ze31 : zeroT Tryd.prog 31 = some .nilFunc := by kernel_rfl
theorem fu32 : isFuncT Tryd.prog 32 = true := by kernel_rfl
theorem one32 : oneT Tryd.prog 32 = true := by kernel_rfl
theorem ze32 : zeroT Tryd.prog 32 = some .nilFunc := by kernel_rfl
theorem it33 : intT Tryd.prog 33 = some .i64 := by kernel_rfl
theorem one33 : oneT Tryd.prog 33 = true := by kernel_rfl
theorem ze33 : zeroT Tryd.prog 33 = some (.int .i64 0) := by kernel_rfl
theorem ag34 : aggT Tryd.prog 34 3 = true := by kernel_rfl
theorem ze34 : zeroT Tryd.prog 34 = some (.agg #[(.slice none 0 0), (.int .i64 0), (.int .i64 0)]) := by kernel_rfl
theorem of34_0 : offT Tryd.prog 34 0 = some 0 := by kernel_rfl
theorem of34_1 : offT Tryd.prog 34 1 = some 1 := by kernel_rfl
theorem of34_2 : offT Tryd.prog 34 2 = some 2 := by kernel_rfl
theorem ag35 : aggT Tryd.prog 35 3 = true := by kernel_rfl
theorem ze35 : zeroT Tryd.prog 35 = some (.agg #[(.slice none 0 0), (.int .i64 0), (.int .i64 0)]) := by kernel_rfl
theorem of35_0 : offT Tryd.prog 35 0 = some 0 := by kernel_rfl
theorem of35_1 : offT Tryd.prog 35 1 = some 1 := by kernel_rfl
theorem of35_2 : offT Tryd.prog 35 2 = some 2 := by kernel_rfl
theorem fu36 : isFuncT Tryd.prog 36 = true := by kernel_rfl
theorem one36 : oneT Tryd.prog 36 = true := by kernel_rfl
theorem ze36 : zeroT Tryd.prog 36 = some .nilFunc := by kernel_rfl
theorem fu37 : isFuncT Tryd.prog 37 = true := by kernel_rfl
theorem one37 : oneT Tryd.prog 37 = true := by kernel_rfl
theorem ze37 : zeroT Tryd.prog 37 = some .nilFunc := by kernel_rfl
theorem fu38 : isFuncT Tryd.prog 38 = true := by kernel_rfl
theorem one38 : oneT Tryd.prog 38 = true := by kernel_rfl
theorem ze38 : zeroT Tryd.prog 38 = some .nilFunc := by kernel_rfl
theorem fu39 : isFuncT Tryd.prog 39 = true := by kernel_rfl
theorem one39 : oneT Tryd.prog 39 = true := by kernel_rfl
theorem ze39 : zeroT Tryd.prog 39 = some .nilFunc := by kernel_rfl
theorem pt40 : isPtrT Tryd.prog 40 = true := by kernel_rfl
theorem one40 : oneT Tryd.prog 40 = true := by kernel_rfl
theorem ze40 : zeroT Tryd.prog 40 = some (.pointer none) := by kernel_rfl
theorem sl41 : isSliceT Tryd.prog 41 = true := by kernel_rfl
theorem one41 : oneT Tryd.prog 41 = true := by kernel_rfl
theorem el41 : El Tryd.prog 41 22 1 24 (.slice none 0 0) := ⟨Tryd.underlying41, by kernel_rfl, by kernel_rfl, by decide⟩
theorem ze41 : zeroT Tryd.prog 41 = some (.slice none 0 0) := by kernel_rfl
theorem sl42 : isSliceT Tryd.prog 42 = true := by kernel_rfl
theorem one42 : oneT Tryd.prog 42 = true := by kernel_rfl
theorem el42 : El Tryd.prog 42 108 1 24 (.slice none 0 0) := ⟨Tryd.underlying42, by kernel_rfl, by kernel_rfl, by decide⟩
theorem ze42 : zeroT Tryd.prog 42 = some (.slice none 0 0) := by kernel_rfl
theorem sl43 : isSliceT Tryd.prog 43 = true := by kernel_rfl
theorem one43 : oneT Tryd.prog 43 = true := by kernel_rfl
theorem el43 : El Tryd.prog 43 27 1 24 (.slice none 0 0) := ⟨Tryd.underlying43, by kernel_rfl, by kernel_rfl, by decide⟩
theorem ze43 : zeroT Tryd.prog 43 = some (.slice none 0 0) := by kernel_rfl
theorem sl44 : isSliceT Tryd.prog 44 = true := by kernel_rfl
theorem one44 : oneT Tryd.prog 44 = true := by kernel_rfl
theorem el44 : El Tryd.prog 44 41 1 24 (.slice none 0 0) := ⟨Tryd.underlying44, by kernel_rfl, by kernel_rfl, by decide⟩
theorem ze44 : zeroT Tryd.prog 44 = some (.slice none 0 0) := by kernel_rfl
theorem sl45 : isSliceT Tryd.prog 45 = true := by kernel_rfl
theorem one45 : oneT Tryd.prog 45 = true := by kernel_rfl
theorem el45 : El Tryd.prog 45 112 1 24 (.slice none 0 0) := ⟨Tryd.underlying45, by kernel_rfl, by kernel_rfl, by decide⟩
theorem ze45 : zeroT Tryd.prog 45 = some (.slice none 0 0) := by kernel_rfl
theorem sl46 : isSliceT Tryd.prog 46 = true := by kernel_rfl
theorem one46 : oneT Tryd.prog 46 = true := by kernel_rfl
theorem el46 : El Tryd.prog 46 116 1 24 (.slice none 0 0) := ⟨Tryd.underlying46, by kernel_rfl, by kernel_rfl, by decide⟩
theorem ze46 : zeroT Tryd.prog 46 = some (.slice none 0 0) := by kernel_rfl
theorem sl47 : isSliceT Tryd.prog 47 = true := by kernel_rfl
theorem one47 : oneT Tryd.prog 47 = true := by kernel_rfl
theorem el47 : El Tryd.prog 47 121 1 24 (.slice none 0 0) := ⟨Tryd.underlying47, by kernel_rfl, by kernel_rfl, by decide⟩
theorem ze47 : zeroT Tryd.prog 47 = some (.slice none 0 0) := by kernel_rfl
theorem sl48 : isSliceT Tryd.prog 48 = true := by kernel_rfl
theorem one48 : oneT Tryd.prog 48 = true := by kernel_rfl
theorem el48 : El Tryd.prog 48 125 1 24 (.slice none 0 0) := ⟨Tryd.underlying48, by kernel_rfl, by kernel_rfl, by decide⟩
theorem ze48 : zeroT Tryd.prog 48 = some (.slice none 0 0) := by kernel_rfl
theorem sl49 : isSliceT Tryd.prog 49 = true := by kernel_rfl
theorem one49 : oneT Tryd.prog 49 = true := by kernel_rfl
theorem el49 : El Tryd.prog 49 133 1 24 (.slice none 0 0) := ⟨Tryd.underlying49, by kernel_rfl, by kernel_rfl, by decide⟩
theorem ze49 : zeroT Tryd.prog 49 = some (.slice none 0 0) := by kernel_rfl
theorem sl50 : isSliceT Tryd.prog 50 = true := by kernel_rfl
theorem one50 : oneT Tryd.prog 50 = true := by kernel_rfl
theorem el50 : El Tryd.prog 50 139 1 24 (.slice none 0 0) := ⟨Tryd.underlying50, by kernel_rfl, by kernel_rfl, by decide⟩
theorem ze50 : zeroT Tryd.prog 50 = some (.slice none 0 0) := by kernel_rfl
theorem sl51 : isSliceT Tryd.prog 51 = true := by kernel_rfl
theorem one51 : oneT Tryd.prog 51 = true := by kernel_rfl
theorem el51 : El Tryd.prog 51 143 1 24 (.slice none 0 0) := ⟨Tryd.underlying51, by kernel_rfl, by kernel_rfl, by decide⟩
theorem ze51 : zeroT Tryd.prog 51 = some (.slice none 0 0) := by kernel_rfl
theorem sl52 : isSliceT Tryd.prog 52 = true := by kernel_rfl
theorem one52 : oneT Tryd.prog 52 = true := by kernel_rfl
theorem el52 : El Tryd.prog 52 147 1 24 (.slice none 0 0) := ⟨Tryd.underlying52, by kernel_rfl, by kernel_rfl, by decide⟩
theorem ze52 : zeroT Tryd.prog 52 = some (.slice none 0 0) := by kernel_rfl
theorem sl53 : isSliceT Tryd.prog 53 = true := by kernel_rfl
theorem one53 : oneT Tryd.prog 53 = true := by kernel_rfl
theorem el53 : El Tryd.prog 53 151 1 24 (.slice none 0 0) := ⟨Tryd.underlying53, by kernel_rfl, by kernel_rfl, by decide⟩
theorem ze53 : zeroT Tryd.prog 53 = some (.slice none 0 0) := by kernel_rfl
theorem sl54 : isSliceT Tryd.prog 54 = true := by kernel_rfl
theorem one54 : oneT Tryd.prog 54 = true := by kernel_rfl
theorem el54 : El Tryd.prog 54 155 1 24 (.slice none 0 0) := ⟨Tryd.underlying54, by kernel_rfl, by kernel_rfl, by decide⟩
theorem ze54 : zeroT Tryd.prog 54 = some (.slice none 0 0) := by kernel_rfl
theorem sl55 : isSliceT Tryd.prog 55 = true := by kernel_rfl
theorem one55 : oneT Tryd.prog 55 = true := by kernel_rfl
theorem el55 : El Tryd.prog 55 161 1 24 (.slice none 0 0) := ⟨Tryd.underlying55, by kernel_rfl, by kernel_rfl, by decide⟩
theorem ze55 : zeroT Tryd.prog 55 = some (.slice none 0 0) := by kernel_rfl
theorem sl56 : isSliceT Tryd.prog 56 = true := by kernel_rfl
theorem one56 : oneT Tryd.prog 56 = true := by kernel_rfl
theorem el56 : El Tryd.prog 56 165 1 24 (.slice none 0 0) := ⟨Tryd.underlying56, by kernel_rfl, by kernel_rfl, by decide⟩
theorem ze56 : zeroT Tryd.prog 56 = some (.slice none 0 0) := by kernel_rfl
theorem sl57 : isSliceT Tryd.prog 57 = true := by kernel_rfl
theorem one57 : oneT Tryd.prog 57 = true := by kernel_rfl
theorem el57 : El Tryd.prog 57 169 1 24 (.slice none 0 0) := ⟨Tryd.underlying57, by kernel_rfl, by kernel_rfl, by decide⟩
theorem ze57 : zeroT Tryd.prog 57 = some (.slice none 0 0) := by kernel_rfl
theorem sl58 : isSliceT Tryd.prog 58 = true := by kernel_rfl
theorem one58 : oneT Tryd.prog 58 = true := by kernel_rfl
theorem el58 : El Tryd.prog 58 173 1 24 (.slice none 0 0) := ⟨Tryd.underlying58, by kernel_rfl, by kernel_rfl, by decide⟩
theorem ze58 : zeroT Tryd.prog 58 = some (.slice none 0 0) := by kernel_rfl
theorem sl59 : isSliceT Tryd.prog 59 = true := by kernel_rfl
theorem one59 : oneT Tryd.prog 59 = true := by kernel_rfl
theorem el59 : El Tryd.prog 59 177 1 24 (.slice none 0 0) := ⟨Tryd.underlying59, by kernel_rfl, by kernel_rfl, by decide⟩
theorem ze59 : zeroT Tryd.prog 59 = some (.slice none 0 0) := by kernel_rfl
theorem sl60 : isSliceT Tryd.prog 60 = true := by kernel_rfl
theorem one60 : oneT Tryd.prog 60 = true := by kernel_rfl
theorem el60 : El Tryd.prog 60 181 1 24 (.slice none 0 0) := ⟨Tryd.underlying60, by kernel_rfl, by kernel_rfl, by decide⟩
theorem ze60 : zeroT Tryd.prog 60 = some (.slice none 0 0) := by kernel_rfl
theorem sl61 : isSliceT Tryd.prog 61 = true := by kernel_rfl
theorem one61 : oneT Tryd.prog 61 = true := by kernel_rfl
theorem el61 : El Tryd.prog 61 58 1 24 (.slice none 0 0) := ⟨Tryd.underlying61, by kernel_rfl, by kernel_rfl, by decide⟩
theorem ze61 : zeroT Tryd.prog 61 = some (.slice none 0 0) := by kernel_rfl
theorem ag62 : aggT Tryd.prog 62 21 = true := by kernel_rfl
theorem ze62 : zeroT Tryd.prog 62 = some (.agg #[(.slice none 0 0), (.slice none 0 0), (.slice none 0 0), (.slice none 0 0), (.slice none 0 0), (.slice none 0 0), (.slice none 0 0), (.slice none 0 0), (.slice none 0 0), (.slice none 0 0), (.slice none 0 0), (.slice none 0 0), (.slice none 0 0), (.slice none 0 0), (.slice none 0 0), (.slice none 0 0), (.slice none 0 0), (.slice none 0 0), (.slice none 0 0), (.slice none 0 0), (.slice none 0 0)]) := by kernel_rfl
theorem of62_0 : offT Tryd.prog 62 0 = some 0 := by kernel_rfl
theorem of62_1 : offT Tryd.prog 62 1 = some 1 := by kernel_rfl
theorem of62_2 : offT Tryd.prog 62 2 = some 2 := by kernel_rfl
theorem of62_3 : offT Tryd.prog 62 3 = some 3 := by kernel_rfl
theorem of62_4 : offT Tryd.prog 62 4 = some 4 := by kernel_rfl
theorem of62_5 : offT Tryd.prog 62 5 = some 5 := by kernel_rfl
theorem of62_6 : offT Tryd.prog 62 6 = some 6 := by kernel_rfl
theorem of62_7 : offT Tryd.prog 62 7 = some 7 := by kernel_rfl
theorem of62_8 : offT Tryd.prog 62 8 = some 8 := by kernel_rfl
theorem of62_9 : offT Tryd.prog 62 9 = some 9 := by kernel_rfl
theorem of62_10 : offT Tryd.prog 62 10 = some 10 := by kernel_rfl
theorem of62_11 : offT Tryd.prog 62 11 = some 11 := by kernel_rfl
theorem of62_12 : offT Tryd.prog 62 12 = some 12 := by kernel_rfl
theorem of62_13 : offT Tryd.prog 62 13 = some 13 := by kernel_rfl
theorem of62_14 : offT Tryd.prog 62 14 = some 14 := by kernel_rfl
theorem of62_15 : offT Tryd.prog 62 15 = some 15 := by kernel_rfl
theorem of62_16 : offT Tryd.prog 62 16 = some 16 := by kernel_rfl
theorem of62_17 : offT Tryd.prog 62 17 = some 17 := by kernel_rfl
theorem of62_18 : offT Tryd.prog 62 18 = some 18 := by kernel_rfl
theorem of62_19 : offT Tryd.prog 62 19 = some 19 := by kernel_rfl
theorem of62_20 : offT Tryd.prog 62 20 = some 20 := by kernel_rfl
theorem ag63 : aggT Tryd.prog 63 21 = true := by kernel_rfl
theorem ze63 : zeroT Tryd.prog 63 = some (.agg #[(.slice none 0 0), (.slice none 0 0), (.slice none 0 0), (.slice none 0 0), (.slice none 0 0), (.slice none 0 0), (.slice none 0 0), (.slice none 0 0), (.slice none 0 0), (.slice none 0 0), (.slice none 0 0), (.slice none 0 0), (.slice none 0 0), (.slice none 0 0), (.slice none 0 0), (.slice none 0 0), (.slice none 0 0), (.slice none 0 0), (.slice none 0 0), (.slice none 0 0), (.slice none 0 0)]) := by kernel_rfl
theorem of63_0 : offT Tryd.prog 63 0 = some 0 := by kernel_rfl
theorem of63_1 : offT Tryd.prog 63 1 = some 1 := by kernel_rfl
theorem of63_2 : offT Tryd.prog 63 2 = some 2 := by kernel_rfl
theorem of63_3 : offT Tryd.prog 63 3 = some 3 := by kernel_rfl
theorem of63_4 : offT Tryd.prog 63 4 = some 4 := by kernel_rfl
theorem of63_5 : offT Tryd.prog 63 5 = some 5 := by kernel_rfl
theorem of63_6 : offT Tryd.prog 63 6 = some 6 := by kernel_rfl
theorem of63_7 : offT Tryd.prog 63 7 = some 7 := by kernel_rfl
theorem of63_8 : offT Tryd.prog 63 8 = some 8 := by kernel_rfl
theorem of63_9 : offT Tryd.prog 63 9 = some 9 := by kernel_rfl
theorem of63_10 : offT Tryd.prog 63 10 = some 10 := by kernel_rfl
theorem of63_11 : offT Tryd.prog 63 11 = some 11 := by kernel_rfl
theorem of63_12 : offT Tryd.prog 63 12 = some 12 := by kernel_rfl
theorem of63_13 : offT Tryd.prog 63 13 = some 13 := by kernel_rfl
theorem of63_14 : offT Tryd.prog 63 14 = some 14 := by kernel_rfl
theorem of63_15 : offT Tryd.prog 63 15 = some 15 := by kernel_rfl
theorem of63_16 : offT Tryd.prog 63 16 = some 16 := by kernel_rfl
theorem of63_17 : offT Tryd.prog 63 17 = some 17 := by kernel_rfl
theorem of63_18 : offT Tryd.prog 63 18 = some 18 := by kernel_rfl
theorem of63_19 : offT Tryd.prog 63 19 = some 19 := by kernel_rfl
theorem of63_20 : offT Tryd.prog 63 20 = some 20 := by kernel_rfl
theorem fu64 : isFuncT Tryd.prog 64 = true := by kernel_rfl
theorem one64 : oneT Tryd.prog 64 = true := by kernel_rfl
theorem ze64 : zeroT Tryd.prog 64 = some .nilFunc := by kernel_rfl
theorem fu65 : isFuncT Tryd.prog 65 = true := by kernel_rfl
theorem one65 : oneT Tryd.prog 65 = true := by kernel_rfl
theorem ze65 : zeroT Tryd.prog 65 = some .nilFunc := by kernel_rfl
theorem pt66 : isPtrT Tryd.prog 66 = true := by kernel_rfl
theorem one66 : oneT Tryd.prog 66 = true := by kernel_rfl
theorem ze66 : zeroT Tryd.prog 66 = some (.pointer none) := by kernel_rfl
theorem ag67 : aggT Tryd.prog 67 1 = true := by kernel_rfl
theorem ze67 : zeroT Tryd.prog 67 = some (.agg #[(.slice none 0 0)]) := by kernel_rfl
theorem of67_0 : offT Tryd.prog 67 0 = some 0 := by kernel_rfl
theorem ag68 : aggT Tryd.prog 68 1 = true := by kernel_rfl
theorem ze68 : zeroT Tryd.prog 68 = some (.agg #[(.slice none 0 0)]) := by kernel_rfl
theorem of68_0 : offT Tryd.prog 68 0 = some 0 := by kernel_rfl
theorem fu69 : isFuncT Tryd.prog 69 = true := by kernel_rfl
theorem one69 : oneT Tryd.prog 69 = true := by kernel_rfl
theorem ze69 : zeroT Tryd.prog 69 = some .nilFunc := by kernel_rfl
theorem fu70 : isFuncT Tryd.prog 70 = true := by kernel_rfl
theorem one70 : oneT Tryd.prog 70 = true := by kernel_rfl
theorem ze70 : zeroT Tryd.prog 70 = some .nilFunc := by kernel_rfl
theorem it71 : intT Tryd.prog 71 = some .u32 := by kernel_rfl
theorem one71 : oneT Tryd.prog 71 = true := by kernel_rfl
theorem ze71 : zeroT Tryd.prog 71 = some (.int .u32 0) := by kernel_rfl
theorem fu72 : isFuncT Tryd.prog 72 = true := by kernel_rfl
theorem one72 : oneT Tryd.prog 72 = true := by kernel_rfl
theorem ze72 : zeroT Tryd.prog 72 = some .nilFunc := by kernel_rfl
theorem fu73 : isFuncT Tryd.prog 73 = true := by kernel_rfl
theorem one73 : oneT Tryd.prog 73 = true := by kernel_rfl
theorem ze73 : zeroT Tryd.prog 73 = some .nilFunc := by kernel_rfl
theorem fu74 : isFuncT Tryd.prog 74 = true := by kernel_rfl
theorem one74 : oneT Tryd.prog 74 = true := by kernel_rfl
theorem ze74 : zeroT Tryd.prog 74 = some .nilFunc := by kernel_rfl
theorem ag75 : aggT Tryd.prog 75 3 = true := by kernel_rfl
theorem ze75 : zeroT Tryd.prog 75 = some (.agg #[(.bool false), (.slice none 0 0), (.int .i64 0)]) := by kernel_rfl
theorem of75_0 : offT Tryd.prog 75 0 = some 0 := by kernel_rfl
theorem of75_1 : offT Tryd.prog 75 1 = some 1 := by kernel_rfl
theorem of75_2 : offT Tryd.prog 75 2 = some 2 := by kernel_rfl
theorem ag76 : aggT Tryd.prog 76 3 = true := by kernel_rfl
theorem ze76 : zeroT Tryd.prog 76 = some (.agg #[(.bool false), (.slice none 0 0), (.int .i64 0)]) := by kernel_rfl
theorem of76_0 : offT Tryd.prog 76 0 = some 0 := by kernel_rfl
theorem of76_1 : offT Tryd.prog 76 1 = some 1 := by kernel_rfl
theorem of76_2 : offT Tryd.prog 76 2 = some 2 := by kernel_rfl
theorem fu77 : isFuncT Tryd.prog 77 = true := by kernel_rfl
theorem one77 : oneT Tryd.prog 77 = true := by kernel_rfl
theorem ze77 : zeroT Tryd.prog 77 = some .nilFunc := by kernel_rfl
theorem fu78 : isFuncT Tryd.prog 78 = true := by kernel_rfl
theorem one78 : oneT Tryd.prog 78 = true := by kernel_rfl
theorem ze78 : zeroT Tryd.prog 78 = some .nilFunc := by kernel_rfl
theorem fu79 : isFuncT Tryd.prog 79 = true := by kernel_rfl
theorem one79 : oneT Tryd.prog 79 = true := by kernel_rfl
theorem ze79 : zeroT Tryd.prog 79 = some .nilFunc := by kernel_rfl
theorem fu80 : isFuncT Tryd.prog 80 = true := by kernel_rfl
theorem one80 : oneT Tryd.prog 80 = true := by kernel_rfl
theorem ze80 : zeroT Tryd.prog 80 = some .nilFunc := by kernel_rfl
theorem fu81 : isFuncT Tryd.prog 81 = true := by kernel_rfl
theorem one81 : oneT Tryd.prog 81 = true := by kernel_rfl
theorem ze81 : zeroT Tryd.prog 81 = some .nilFunc := by kernel_rfl
theorem fu82 : isFuncT Tryd.prog 82 = true := by kernel_rfl
theorem one82 : oneT Tryd.prog 82 = true := by kernel_rfl
theorem ze82 : zeroT Tryd.prog 82 = some .nilFunc := by kernel_rfl
theorem fu83 : isFuncT Tryd.prog 83 = true := by kernel_rfl
theorem one83 : oneT Tryd.prog 83 = true := by kernel_rfl
theorem ze83 : zeroT Tryd.prog 83 = some .nilFunc := by kernel_rfl
theorem fu84 : isFuncT Tryd.prog 84 = true := by kernel_rfl
theorem one84 : oneT Tryd.prog 84 = true := by kernel_rfl
theorem ze84 : zeroT Tryd.prog 84 = some .nilFunc := by kernel_rfl
theorem fu85 : isFuncT Tryd.prog 85 = true := by kernel_rfl
theorem one85 : oneT Tryd.prog 85 = true := by kernel_rfl
theorem ze85 : zeroT Tryd.prog 85 = some .nilFunc := by kernel_rfl
theorem fu86 : isFuncT Tryd.prog 86 = true := by kernel_rfl
theorem one86 : oneT Tryd.prog 86 = true := by kernel_rfl
theorem ze86 : zeroT Tryd.prog 86 = some .nilFunc := by kernel_rfl
theorem fu87 : isFuncT Tryd.prog 87 = true := by kernel_rfl
theorem one87 : oneT Tryd.prog 87 = true := by kernel_rfl
theorem ze87 : zeroT Tryd.prog 87 = some .nilFunc := by kernel_rfl
theorem fu88 : isFuncT Tryd.prog 88 = true := by kernel_rfl
theorem one88 : oneT Tryd.prog 88 = true := by kernel_rfl
theorem ze88 : zeroT Tryd.prog 88 = some .nilFunc := by kernel_rfl
theorem fu89 : isFuncT Tryd.prog 89 = true := by kernel_rfl
theorem one89 : oneT Tryd.prog 89 = true := by kernel_rfl
theorem ze89 : zeroT Tryd.prog 89 = some .nilFunc := by kernel_rfl
theorem fu90 : isFuncT Tryd.prog 90 = true := by kernel_rfl
theorem one90 : oneT Tryd.prog 90 = true := by kernel_rfl
theorem ze90 : zeroT Tryd.prog 90 = some .nilFunc := by kernel_rfl
theorem fu91 : isFuncT Tryd.prog 91 = true := by kernel_rfl
theorem one91 : oneT Tryd.prog 91 = true := by kernel_rfl
theorem ze91 : zeroT Tryd.prog 91 = some .nilFunc := by kernel_rfl
theorem fu92 : isFuncT Tryd.prog 92 = true := by kernel_rfl
theorem one92 : oneT Tryd.prog 92 = true := by kernel_rfl
theorem ze92 : zeroT Tryd.prog 92 = some .nilFunc := by kernel_rfl
theorem fu93 : isFuncT Tryd.prog 93 = true := by kernel_rfl
theorem one93 : oneT Tryd.prog 93 = true := by kernel_rfl
theorem ze93 : zeroT Tryd.prog 93 = some .nilFunc := by kernel_rfl
theorem fu94 : isFuncT Tryd.prog 94 = true := by kernel_rfl
theorem one94 : oneT Tryd.prog 94 = true := by kernel_rfl
theorem ze94 : zeroT Tryd.prog 94 = some .nilFunc := by kernel_rfl
theorem fu95 : isFuncT Tryd.prog 95 = true := by kernel_rfl
theorem one95 : oneT Tryd.prog 95 = true := by kernel_rfl
theorem ze95 : zeroT Tryd.prog 95 = some .nilFunc := by kernel_rfl
theorem fu96 : isFuncT Tryd.prog 96 = true := by kernel_rfl
theorem one96 : oneT Tryd.prog 96 = true := by kernel_rfl
theorem ze96 : zeroT Tryd.prog 96 = some .nilFunc := by kernel_rfl
theorem fu97 : isFuncT Tryd.prog 97 = true := by kernel_rfl
theorem one97 : oneT Tryd.prog 97 = true := by kernel_rfl
theorem ze97 : zeroT Tryd.prog 97 = some .nilFunc := by kernel_rfl
theorem fu98 : isFuncT Tryd.prog 98 = true := by kernel_rfl
theorem one98 : oneT Tryd.prog 98 = true := by kernel_rfl
theorem ze98 : zeroT Tryd.prog 98 = some .nilFunc := by kernel_rfl
theorem fu99 : isFuncT Tryd.prog 99 = true := by kernel_rfl
theorem one99 : oneT Tryd.prog 99 = true := by kernel_rfl
theorem ze99 : zeroT Tryd.prog 99 = some .nilFunc := by kernel_rfl
theorem fu100 : isFuncT Tryd.prog 100 = true := by kernel_rfl
theorem one100 : oneT Tryd.prog 100 = true := by kernel_rfl
theorem ze100 : zeroT Tryd.prog 100 = some .nilFunc := by kernel_rfl
theorem fu101 : isFuncT Tryd.prog 101 = true := by kernel_rfl
theorem one101 : oneT Tryd.prog 101 = true := by kernel_rfl
theorem ze101 : zeroT Tryd.prog 101 = some .nilFunc := by kernel_rfl
theorem it102 : intT Tryd.prog 102 = some .u64 := by kernel_rfl
theorem one102 : oneT Tryd.prog 102 = true := by kernel_rfl
theorem ze102 : zeroT Tryd.prog 102 = some (.int .u64 0) := by kernel_rfl
theorem fu103 : isFuncT Tryd.prog 103 = true := by kernel_rfl
theorem one103 : oneT Tryd.prog 103 = true := by kernel_rfl
theorem ze103 : zeroT Tryd.prog 103 = some .nilFunc := by kernel_rfl
theorem it104 : intT Tryd.prog 104 = some .u64 := by kernel_rfl
theorem one104 : oneT Tryd.prog 104 = true := by kernel_rfl
theorem ze104 : zeroT Tryd.prog 104 = some (.int .u64 0) := by kernel_rfl
theorem fu106 : isFuncT Tryd.prog 106 = true := by kernel_rfl
theorem one106 : oneT Tryd.prog 106 = true := by kernel_rfl
theorem ze106 : zeroT Tryd.prog 106 = some .nilFunc := by kernel_rfl
theorem fu107 : isFuncT Tryd.prog 107 = true := by kernel_rfl
theorem one107 : oneT Tryd.prog 107 = true := by kernel_rfl
theorem ze107 : zeroT Tryd.prog 107 = some .nilFunc := by kernel_rfl
theorem sl108 : isSliceT Tryd.prog 108 = true := by kernel_rfl
theorem one108 : oneT Tryd.prog 108 = true := by kernel_rfl
theorem el108 : El Tryd.prog 108 3 1 8 (.int .i64 0) := ⟨Tryd.underlying108, by kernel_rfl, by kernel_rfl, by decide⟩
theorem ze108 : zeroT Tryd.prog 108 = some (.slice none 0 0) := by kernel_rfl
theorem fu109 : isFuncT Tryd.prog 109 = true := by kernel_rfl
theorem one109 : oneT Tryd.prog 109 = true := by kernel_rfl
theorem ze109 : zeroT Tryd.prog 109 = some .nilFunc := by kernel_rfl
theorem fu110 : isFuncT Tryd.prog 110 = true := by kernel_rfl
theorem one110 : oneT Tryd.prog 110 = true := by kernel_rfl
theorem ze110 : zeroT Tryd.prog 110 = some .nilFunc := by kernel_rfl
theorem fu111 : isFuncT Tryd.prog 111 = true := by kernel_rfl
theorem one111 : oneT Tryd.prog 111 = true := by kernel_rfl
theorem ze111 : zeroT Tryd.prog 111 = some .nilFunc := by kernel_rfl
theorem sl112 : isSliceT Tryd.prog 112 = true := by kernel_rfl
theorem one112 : oneT Tryd.prog 112 = true := by kernel_rfl
theorem el112 : El Tryd.prog 112 114 2 32 (.agg #[(.string ByteArray.empty), (.string ByteArray.empty)]) := ⟨Tryd.underlying112, by kernel_rfl, by kernel_rfl, by decide⟩
theorem ze112 : zeroT Tryd.prog 112 = some (.slice none 0 0) := by kernel_rfl
theorem ag113 : aggT Tryd.prog 113 2 = true := by kernel_rfl
theorem ze113 : zeroT Tryd.prog 113 = some (.agg #[(.string ByteArray.empty), (.string ByteArray.empty)]) := by kernel_rfl
theorem of113_0 : offT Tryd.prog 113 0 = some 0 := by kernel_rfl
theorem of113_1 : offT Tryd.prog 113 1 = some 1 := by kernel_rfl
theorem ag114 : aggT Tryd.prog 114 2 = true := by kernel_rfl
theorem ze114 : zeroT Tryd.prog 114 = some (.agg #[(.string ByteArray.empty), (.string ByteArray.empty)]) := by kernel_rfl
theorem of114_0 : offT Tryd.prog 114 0 = some 0 := by kernel_rfl
theorem of114_1 : offT Tryd.prog 114 1 = some 1 := by kernel_rfl
theorem fu115 : isFuncT Tryd.prog 115 = true := by kernel_rfl
theorem one115 : oneT Tryd.prog 115 = true := by kernel_rfl
theorem ze115 : zeroT Tryd.prog 115 = some .nilFunc := by kernel_rfl
theorem sl116 : isSliceT Tryd.prog 116 = true := by kernel_rfl
theorem one116 : oneT Tryd.prog 116 = true := by kernel_rfl
theorem el116 : El Tryd.prog 116 119 3 40 (.agg #[(.int .i8 0), (.string ByteArray.empty), (.string ByteArray.empty)]) := ⟨Tryd.underlying116, by kernel_rfl, by kernel_rfl, by decide⟩
theorem ze116 : zeroT Tryd.prog 116 = some (.slice none 0 0) := by kernel_rfl
theorem it117 : intT Tryd.prog 117 = some .i8 := by kernel_rfl
theorem one117 : oneT Tryd.prog 117 = true := by kernel_rfl
theorem ze117 : zeroT Tryd.prog 117 = some (.int .i8 0) := by kernel_rfl
theorem ag118 : aggT Tryd.prog 118 3 = true := by kernel_rfl
theorem ze118 : zeroT Tryd.prog 118 = some (.agg #[(.int .i8 0), (.string ByteArray.empty), (.string ByteArray.empty)]) := by kernel_rfl
theorem of118_0 : offT Tryd.prog 118 0 = some 0 := by kernel_rfl
theorem of118_1 : offT Tryd.prog 118 1 = some 1 := by kernel_rfl
theorem ag119 : aggT Tryd.prog 119 3 = true := by kernel_rfl
theorem ze119 : zeroT Tryd.prog 119 = some (.agg #[(.int .i8 0), (.string ByteArray.empty), (.string ByteArray.empty)]) := by kernel_rfl
theorem of119_0 : offT Tryd.prog 119 0 = some 0 := by kernel_rfl
theorem of119_1 : offT Tryd.prog 119 1 = some 1 := by kernel_rfl
theorem fu120 : isFuncT Tryd.prog 120 = true := by kernel_rfl
theorem one120 : oneT Tryd.prog 120 = true := by kernel_rfl
theorem ze120 : zeroT Tryd.prog 120 = some .nilFunc := by kernel_rfl
theorem sl121 : isSliceT Tryd.prog 121 = true := by kernel_rfl
theorem one121 : oneT Tryd.prog 121 = true := by kernel_rfl
theorem el121 : El Tryd.prog 121 123 11 144 (.agg #[(.int .i8 0), (.string ByteArray.empty), (.slice none 0 0), (.slice none 0 0), (.int .i32 0), (.bool false), (.bool false), (.int .i64 0), (.int .i32 0), (.slice none 0 0), (.slice none 0 0)]) := ⟨Tryd.underlying121, by kernel_rfl, by kernel_rfl, by decide⟩
theorem ze121 : zeroT Tryd.prog 121 = some (.slice none 0 0) := by kernel_rfl
theorem ag122 : aggT Tryd.prog 122 11 = true := by kernel_rfl
theorem ze122 : zeroT Tryd.prog 122 = some (.agg #[(.int .i8 0), (.string ByteArray.empty), (.slice none 0 0), (.slice none 0 0), (.int .i32 0), (.bool false), (.bool false), (.int .i64 0), (.int .i32 0), (.slice none 0 0), (.slice none 0 0)]) := by kernel_rfl
theorem of122_0 : offT Tryd.prog 122 0 = some 0 := by kernel_rfl
theorem of122_1 : offT Tryd.prog 122 1 = some 1 := by kernel_rfl
theorem of122_2 : offT Tryd.prog 122 2 = some 2 := by kernel_rfl
theorem of122_3 : offT Tryd.prog 122 3 = some 3 := by kernel_rfl
theorem of122_4 : offT Tryd.prog 122 4 = some 4 := by kernel_rfl
theorem of122_5 : offT Tryd.prog 122 5 = some 5 := by kernel_rfl
theorem of122_6 : offT Tryd.prog 122 6 = some 6 := by kernel_rfl
theorem of122_7 : offT Tryd.prog 122 7 = some 7 := by kernel_rfl
theorem of122_8 : offT Tryd.prog 122 8 = some 8 := by kernel_rfl
theorem of122_9 : offT Tryd.prog 122 9 = some 9 := by kernel_rfl
theorem of122_10 : offT Tryd.prog 122 10 = some 10 := by kernel_rfl
theorem ag123 : aggT Tryd.prog 123 11 = true := by kernel_rfl
theorem ze123 : zeroT Tryd.prog 123 = some (.agg #[(.int .i8 0), (.string ByteArray.empty), (.slice none 0 0), (.slice none 0 0), (.int .i32 0), (.bool false), (.bool false), (.int .i64 0), (.int .i32 0), (.slice none 0 0), (.slice none 0 0)]) := by kernel_rfl
theorem of123_0 : offT Tryd.prog 123 0 = some 0 := by kernel_rfl
theorem of123_1 : offT Tryd.prog 123 1 = some 1 := by kernel_rfl
theorem of123_2 : offT Tryd.prog 123 2 = some 2 := by kernel_rfl
theorem of123_3 : offT Tryd.prog 123 3 = some 3 := by kernel_rfl
theorem of123_4 : offT Tryd.prog 123 4 = some 4 := by kernel_rfl
theorem of123_5 : offT Tryd.prog 123 5 = some 5 := by kernel_rfl
theorem of123_6 : offT Tryd.prog 123 6 = some 6 := by kernel_rfl
theorem of123_7 : offT Tryd.prog 123 7 = some 7 := by kernel_rfl
theorem of123_8 : offT Tryd.prog 123 8 = some 8 := by kernel_rfl
theorem of123_9 : offT Tryd.prog 123 9 = some 9 := by kernel_rfl
theorem of123_10 : offT Tryd.prog 123 10 = some 10 := by kernel_rfl
theorem fu124 : isFuncT Tryd.prog 124 = true := by kernel_rfl
theorem one124 : oneT Tryd.prog 124 = true := by kernel_rfl
theorem ze124 : zeroT Tryd.prog 124 = some .nilFunc := by kernel_rfl
theorem sl125 : isSliceT Tryd.prog 125 = true := by kernel_rfl
theorem one125 : oneT Tryd.prog 125 = true := by kernel_rfl
theorem el125 : El Tryd.prog 125 131 16 168 (.agg #[(.int .u32 0), (.int .u32 0), (.int .i8 0), (.int .u32 0), (.int .i64 0), (.int .i8 0), (.string ByteArray.empty), (.slice none 0 0), (.slice none 0 0), (.int .i32 0), (.bool false), (.bool false), (.int .i64 0), (.int .i32 0), (.slice none 0 0), (.slice none 0 0)]) := ⟨Tryd.underlying125, by kernel_rfl, by kernel_rfl, by decide⟩
theorem ze125 : zeroT Tryd.prog 125 = some (.slice none 0 0) := by kernel_rfl
theorem ag126 : aggT Tryd.prog 126 3 = true := by kernel_rfl
theorem ze126 : zeroT Tryd.prog 126 = some (.agg #[(.int .i8 0), (.int .u32 0), (.int .i64 0)]) := by kernel_rfl
theorem of126_0 : offT Tryd.prog 126 0 = some 0 := by kernel_rfl
theorem of126_1 : offT Tryd.prog 126 1 = some 1 := by kernel_rfl
theorem of126_2 : offT Tryd.prog 126 2 = some 2 := by kernel_rfl
theorem ag127 : aggT Tryd.prog 127 3 = true := by kernel_rfl
theorem ze127 : zeroT Tryd.prog 127 = some (.agg #[(.int .i8 0), (.int .u32 0), (.int .i64 0)]) := by kernel_rfl
theorem of127_0 : offT Tryd.prog 127 0 = some 0 := by kernel_rfl
theorem of127_1 : offT Tryd.prog 127 1 = some 1 := by kernel_rfl
theorem of127_2 : offT Tryd.prog 127 2 = some 2 := by kernel_rfl
theorem ag128 : aggT Tryd.prog 128 2 = true := by kernel_rfl
theorem ze128 : zeroT Tryd.prog 128 = some (.agg #[(.int .u32 0), (.int .u32 0)]) := by kernel_rfl
theorem of128_0 : offT Tryd.prog 128 0 = some 0 := by kernel_rfl
theorem of128_1 : offT Tryd.prog 128 1 = some 1 := by kernel_rfl
theorem ag129 : aggT Tryd.prog 129 2 = true := by kernel_rfl
theorem ze129 : zeroT Tryd.prog 129 = some (.agg #[(.int .u32 0), (.int .u32 0)]) := by kernel_rfl
theorem of129_0 : offT Tryd.prog 129 0 = some 0 := by kernel_rfl
theorem of129_1 : offT Tryd.prog 129 1 = some 1 := by kernel_rfl
theorem ag130 : aggT Tryd.prog 130 16 = true := by kernel_rfl
theorem ze130 : zeroT Tryd.prog 130 = some (.agg #[(.int .u32 0), (.int .u32 0), (.int .i8 0), (.int .u32 0), (.int .i64 0), (.int .i8 0), (.string ByteArray.empty), (.slice none 0 0), (.slice none 0 0), (.int .i32 0), (.bool false), (.bool false), (.int .i64 0), (.int .i32 0), (.slice none 0 0), (.slice none 0 0)]) := by kernel_rfl
theorem of130_0 : offT Tryd.prog 130 0 = some 0 := by kernel_rfl
theorem of130_1 : offT Tryd.prog 130 1 = some 2 := by kernel_rfl
theorem of130_2 : offT Tryd.prog 130 2 = some 5 := by kernel_rfl
theorem ag131 : aggT Tryd.prog 131 16 = true := by kernel_rfl
theorem ze131 : zeroT Tryd.prog 131 = some (.agg #[(.int .u32 0), (.int .u32 0), (.int .i8 0), (.int .u32 0), (.int .i64 0), (.int .i8 0), (.string ByteArray.empty), (.slice none 0 0), (.slice none 0 0), (.int .i32 0), (.bool false), (.bool false), (.int .i64 0), (.int .i32 0), (.slice none 0 0), (.slice none 0 0)]) := by kernel_rfl
theorem of131_0 : offT Tryd.prog 131 0 = some 0 := by kernel_rfl
theorem of131_1 : offT Tryd.prog 131 1 = some 2 := by kernel_rfl
theorem of131_2 : offT Tryd.prog 131 2 = some 5 := by kernel_rfl
theorem fu132 : isFuncT Tryd.prog 132 = true := by kernel_rfl
theorem one132 : oneT Tryd.prog 132 = true := by kernel_rfl
theorem ze132 : zeroT Tryd.prog 132 = some .nilFunc := by kernel_rfl
theorem sl133 : isSliceT Tryd.prog 133 = true := by kernel_rfl
theorem one133 : oneT Tryd.prog 133 = true := by kernel_rfl
theorem el133 : El Tryd.prog 133 137 19 192 (.agg #[(.int .i64 0), (.string ByteArray.empty), (.slice none 0 0), (.slice none 0 0), (.int .u32 0), (.int .u32 0), (.int .u32 0), (.int .u32 0), (.int .u32 0), (.int .u32 0), (.int .i32 0), (.int .i32 0), (.int .i32 0), (.int .i64 0), (.int .i64 0), (.int .i64 0), (.slice none 0 0), (.int .i64 0), (.slice none 0 0)]) := ⟨Tryd.underlying133, by kernel_rfl, by kernel_rfl, by decide⟩
theorem ze133 : zeroT Tryd.prog 133 = some (.slice none 0 0) := by kernel_rfl
theorem ag134 : aggT Tryd.prog 134 12 = true := by kernel_rfl
theorem ze134 : zeroT Tryd.prog 134 = some (.agg #[(.int .u32 0), (.int .u32 0), (.int .u32 0), (.int .u32 0), (.int .u32 0), (.int .u32 0), (.int .i32 0), (.int .i32 0), (.int .i32 0), (.int .i64 0), (.int .i64 0), (.int .i64 0)]) := by kernel_rfl
theorem of134_0 : offT Tryd.prog 134 0 = some 0 := by kernel_rfl
theorem of134_1 : offT Tryd.prog 134 1 = some 2 := by kernel_rfl
theorem of134_2 : offT Tryd.prog 134 2 = some 4 := by kernel_rfl
theorem of134_3 : offT Tryd.prog 134 3 = some 6 := by kernel_rfl
theorem of134_4 : offT Tryd.prog 134 4 = some 7 := by kernel_rfl
theorem of134_5 : offT Tryd.prog 134 5 = some 8 := by kernel_rfl
theorem of134_6 : offT Tryd.prog 134 6 = some 9 := by kernel_rfl
theorem of134_7 : offT Tryd.prog 134 7 = some 10 := by kernel_rfl
theorem of134_8 : offT Tryd.prog 134 8 = some 11 := by kernel_rfl
theorem ag135 : aggT Tryd.prog 135 12 = true := by kernel_rfl
theorem ze135 : zeroT Tryd.prog 135 = some (.agg #[(.int .u32 0), (.int .u32 0), (.int .u32 0), (.int .u32 0), (.int .u32 0), (.int .u32 0), (.int .i32 0), (.int .i32 0), (.int .i32 0), (.int .i64 0), (.int .i64 0), (.int .i64 0)]) := by kernel_rfl
theorem of135_0 : offT Tryd.prog 135 0 = some 0 := by kernel_rfl
theorem of135_1 : offT Tryd.prog 135 1 = some 2 := by kernel_rfl
theorem of135_2 : offT Tryd.prog 135 2 = some 4 := by kernel_rfl
theorem of135_3 : offT Tryd.prog 135 3 = some 6 := by kernel_rfl
theorem of135_4 : offT Tryd.prog 135 4 = some 7 := by kernel_rfl
theorem of135_5 : offT Tryd.prog 135 5 = some 8 := by kernel_rfl
theorem of135_6 : offT Tryd.prog 135 6 = some 9 := by kernel_rfl
theorem of135_7 : offT Tryd.prog 135 7 = some 10 := by kernel_rfl
theorem of135_8 : offT Tryd.prog 135 8 = some 11 := by kernel_rfl
theorem ag136 : aggT Tryd.prog 136 19 = true := by kernel_rfl
theorem ze136 : zeroT Tryd.prog 136 = some (.agg #[(.int .i64 0), (.string ByteArray.empty), (.slice none 0 0), (.slice none 0 0), (.int .u32 0), (.int .u32 0), (.int .u32 0), (.int .u32 0), (.int .u32 0), (.int .u32 0), (.int .i32 0), (.int .i32 0), (.int .i32 0), (.int .i64 0), (.int .i64 0), (.int .i64 0), (.slice none 0 0), (.int .i64 0), (.slice none 0 0)]) := by kernel_rfl
theorem of136_0 : offT Tryd.prog 136 0 = some 0 := by kernel_rfl
theorem of136_1 : offT Tryd.prog 136 1 = some 1 := by kernel_rfl
theorem of136_2 : offT Tryd.prog 136 2 = some 2 := by kernel_rfl
theorem of136_3 : offT Tryd.prog 136 3 = some 3 := by kernel_rfl
theorem of136_4 : offT Tryd.prog 136 4 = some 4 := by kernel_rfl
theorem of136_5 : offT Tryd.prog 136 5 = some 16 := by kernel_rfl
theorem of136_6 : offT Tryd.prog 136 6 = some 17 := by kernel_rfl
theorem of136_7 : offT Tryd.prog 136 7 = some 18 := by kernel_rfl
theorem ag137 : aggT Tryd.prog 137 19 = true := by kernel_rfl
theorem ze137 : zeroT Tryd.prog 137 = some (.agg #[(.int .i64 0), (.string ByteArray.empty), (.slice none 0 0), (.slice none 0 0), (.int .u32 0), (.int .u32 0), (.int .u32 0), (.int .u32 0), (.int .u32 0), (.int .u32 0), (.int .i32 0), (.int .i32 0), (.int .i32 0), (.int .i64 0), (.int .i64 0), (.int .i64 0), (.slice none 0 0), (.int .i64 0), (.slice none 0 0)]) := by kernel_rfl
theorem of137_0 : offT Tryd.prog 137 0 = some 0 := by kernel_rfl
theorem of137_1 : offT Tryd.prog 137 1 = some 1 := by kernel_rfl
theorem of137_2 : offT Tryd.prog 137 2 = some 2 := by kernel_rfl
theorem of137_3 : offT Tryd.prog 137 3 = some 3 := by kernel_rfl
theorem of137_4 : offT Tryd.prog 137 4 = some 4 := by kernel_rfl
theorem of137_5 : offT Tryd.prog 137 5 = some 16 := by kernel_rfl
theorem of137_6 : offT Tryd.prog 137 6 = some 17 := by kernel_rfl
theorem of137_7 : offT Tryd.prog 137 7 = some 18 := by kernel_rfl
theorem fu138 : isFuncT Tryd.prog 138 = true := by kernel_rfl
theorem one138 : oneT Tryd.prog 138 = true := by kernel_rfl
theorem ze138 : zeroT Tryd.prog 138 = some .nilFunc := by kernel_rfl
theorem sl139 : isSliceT Tryd.prog 139 = true := by kernel_rfl
theorem one139 : oneT Tryd.prog 139 = true := by kernel_rfl
theorem el139 : El Tryd.prog 139 141 16 136 (.agg #[(.string ByteArray.empty), (.slice none 0 0), (.slice none 0 0), (.int .u32 0), (.int .u32 0), (.int .u32 0), (.int .u32 0), (.int .u32 0), (.int .u32 0), (.int .i32 0), (.int .i32 0), (.int .i32 0), (.int .i64 0), (.int .i64 0), (.int .i64 0), (.int .i32 0)]) := ⟨Tryd.underlying139, by kernel_rfl, by kernel_rfl, by decide⟩
theorem ze139 : zeroT Tryd.prog 139 = some (.slice none 0 0) := by kernel_rfl
theorem ag140 : aggT Tryd.prog 140 16 = true := by kernel_rfl
theorem ze140 : zeroT Tryd.prog 140 = some (.agg #[(.string ByteArray.empty), (.slice none 0 0), (.slice none 0 0), (.int .u32 0), (.int .u32 0), (.int .u32 0), (.int .u32 0), (.int .u32 0), (.int .u32 0), (.int .i32 0), (.int .i32 0), (.int .i32 0), (.int .i64 0), (.int .i64 0), (.int .i64 0), (.int .i32 0)]) := by kernel_rfl
theorem of140_0 : offT Tryd.prog 140 0 = some 0 := by kernel_rfl
theorem of140_1 : offT Tryd.prog 140 1 = some 1 := by kernel_rfl
theorem of140_2 : offT Tryd.prog 140 2 = some 2 := by kernel_rfl
theorem of140_3 : offT Tryd.prog 140 3 = some 3 := by kernel_rfl
theorem of140_4 : offT Tryd.prog 140 4 = some 15 := by kernel_rfl
theorem ag141 : aggT Tryd.prog 141 16 = true := by kernel_rfl
theorem ze141 : zeroT Tryd.prog 141 = some (.agg #[(.string ByteArray.empty), (.slice none 0 0), (.slice none 0 0), (.int .u32 0), (.int .u32 0), (.int .u32 0), (.int .u32 0), (.int .u32 0), (.int .u32 0), (.int .i32 0), (.int .i32 0), (.int .i32 0), (.int .i64 0), (.int .i64 0), (.int .i64 0), (.int .i32 0)]) := by kernel_rfl
theorem of141_0 : offT Tryd.prog 141 0 = some 0 := by kernel_rfl
theorem of141_1 : offT Tryd.prog 141 1 = some 1 := by kernel_rfl
theorem of141_2 : offT Tryd.prog 141 2 = some 2 := by kernel_rfl
theorem of141_3 : offT Tryd.prog 141 3 = some 3 := by kernel_rfl
theorem of141_4 : offT Tryd.prog 141 4 = some 15 := by kernel_rfl
theorem fu142 : isFuncT Tryd.prog 142 = true := by kernel_rfl
theorem one142 : oneT Tryd.prog 142 = true := by kernel_rfl
theorem ze142 : zeroT Tryd.prog 142 = some .nilFunc := by kernel_rfl
theorem sl143 : isSliceT Tryd.prog 143 = true := by kernel_rfl
theorem one143 : oneT Tryd.prog 143 = true := by kernel_rfl
theorem el143 : El Tryd.prog 143 145 2 16 (.agg #[(.int .i64 0), (.int .i32 0)]) := ⟨Tryd.underlying143, by kernel_rfl, by kernel_rfl, by decide⟩
theorem ze143 : zeroT Tryd.prog 143 = some (.slice none 0 0) := by kernel_rfl
theorem ag144 : aggT Tryd.prog 144 2 = true := by kernel_rfl
theorem ze144 : zeroT Tryd.prog 144 = some (.agg #[(.int .i64 0), (.int .i32 0)]) := by kernel_rfl
theorem of144_0 : offT Tryd.prog 144 0 = some 0 := by kernel_rfl
theorem of144_1 : offT Tryd.prog 144 1 = some 1 := by kernel_rfl
theorem ag145 : aggT Tryd.prog 145 2 = true := by kernel_rfl
theorem ze145 : zeroT Tryd.prog 145 = some (.agg #[(.int .i64 0), (.int .i32 0)]) := by kernel_rfl
theorem of145_0 : offT Tryd.prog 145 0 = some 0 := by kernel_rfl
theorem of145_1 : offT Tryd.prog 145 1 = some 1 := by kernel_rfl
theorem fu146 : isFuncT Tryd.prog 146 = true := by kernel_rfl
theorem one146 : oneT Tryd.prog 146 = true := by kernel_rfl
theorem ze146 : zeroT Tryd.prog 146 = some .nilFunc := by kernel_rfl
theorem sl147 : isSliceT Tryd.prog 147 = true := by kernel_rfl
theorem one147 : oneT Tryd.prog 147 = true := by kernel_rfl
theorem el147 : El Tryd.prog 147 149 2 24 (.agg #[(.int .i8 0), (.string ByteArray.empty)]) := ⟨Tryd.underlying147, by kernel_rfl, by kernel_rfl, by decide⟩
theorem ze147 : zeroT Tryd.prog 147 = some (.slice none 0 0) := by kernel_rfl
theorem ag148 : aggT Tryd.prog 148 2 = true := by kernel_rfl
theorem ze148 : zeroT Tryd.prog 148 = some (.agg #[(.int .i8 0), (.string ByteArray.empty)]) := by kernel_rfl
theorem of148_0 : offT Tryd.prog 148 0 = some 0 := by kernel_rfl
theorem of148_1 : offT Tryd.prog 148 1 = some 1 := by kernel_rfl
theorem ag149 : aggT Tryd.prog 149 2 = true := by kernel_rfl
theorem ze149 : zeroT Tryd.prog 149 = some (.agg #[(.int .i8 0), (.string ByteArray.empty)]) := by kernel_rfl
theorem of149_0 : offT Tryd.prog 149 0 = some 0 := by kernel_rfl
theorem of149_1 : offT Tryd.prog 149 1 = some 1 := by kernel_rfl
theorem fu150 : isFuncT Tryd.prog 150 = true := by kernel_rfl
theorem one150 : oneT Tryd.prog 150 = true := by kernel_rfl
theorem ze150 : zeroT Tryd.prog 150 = some .nilFunc := by kernel_rfl
theorem sl151 : isSliceT Tryd.prog 151 = true := by kernel_rfl
theorem one151 : oneT Tryd.prog 151 = true := by kernel_rfl
theorem el151 : El Tryd.prog 151 153 3 48 (.agg #[(.string ByteArray.empty), (.slice none 0 0), (.int .i64 0)]) := ⟨Tryd.underlying151, by kernel_rfl, by kernel_rfl, by decide⟩
theorem ze151 : zeroT Tryd.prog 151 = some (.slice none 0 0) := by kernel_rfl
theorem ag152 : aggT Tryd.prog 152 3 = true := by kernel_rfl
theorem ze152 : zeroT Tryd.prog 152 = some (.agg #[(.string ByteArray.empty), (.slice none 0 0), (.int .i64 0)]) := by kernel_rfl
theorem of152_0 : offT Tryd.prog 152 0 = some 0 := by kernel_rfl
theorem of152_1 : offT Tryd.prog 152 1 = some 1 := by kernel_rfl
theorem of152_2 : offT Tryd.prog 152 2 = some 2 := by kernel_rfl
theorem ag153 : aggT Tryd.prog 153 3 = true := by kernel_rfl
theorem ze153 : zeroT Tryd.prog 153 = some (.agg #[(.string ByteArray.empty), (.slice none 0 0), (.int .i64 0)]) := by kernel_rfl
theorem of153_0 : offT Tryd.prog 153 0 = some 0 := by kernel_rfl
theorem of153_1 : offT Tryd.prog 153 1 = some 1 := by kernel_rfl
theorem of153_2 : offT Tryd.prog 153 2 = some 2 := by kernel_rfl
theorem fu154 : isFuncT Tryd.prog 154 = true := by kernel_rfl
theorem one154 : oneT Tryd.prog 154 = true := by kernel_rfl
theorem ze154 : zeroT Tryd.prog 154 = some .nilFunc := by kernel_rfl
theorem sl155 : isSliceT Tryd.prog 155 = true := by kernel_rfl
theorem one155 : oneT Tryd.prog 155 = true := by kernel_rfl
theorem el155 : El Tryd.prog 155 159 32 264 (.agg #[(.int .i8 0), (.int .u32 0), (.int .u32 0), (.int .u32 0), (.int .u32 0), (.int .i64 0), (.int .u32 0), (.int .u32 0), (.int .u32 0), (.int .u32 0), (.int .u32 0), (.int .u32 0), (.bool false), (.bool false), (.int .u32 0), (.int .u32 0), (.int .i8 0), (.int .u32 0), (.int .i64 0), (.int .i8 0), (.string ByteArray.empty), (.slice none 0 0), (.slice none 0 0), (.int .i32 0), (.bool false), (.bool false), (.int .i64 0), (.int .i32 0), (.slice none 0 0), (.slice none 0 0), (.slice none 0 0), (.int .i64 0)]) := ⟨Tryd.underlying155, by kernel_rfl, by kernel_rfl, by decide⟩
theorem ze155 : zeroT Tryd.prog 155 = some (.slice none 0 0) := by kernel_rfl
theorem ag156 : aggT Tryd.prog 156 2 = true := by kernel_rfl
theorem ze156 : zeroT Tryd.prog 156 = some (.agg #[(.int .u32 0), (.int .u32 0)]) := by kernel_rfl
theorem of156_0 : offT Tryd.prog 156 0 = some 0 := by kernel_rfl
theorem of156_1 : offT Tryd.prog 156 1 = some 1 := by kernel_rfl
theorem ag157 : aggT Tryd.prog 157 2 = true := by kernel_rfl
theorem ze157 : zeroT Tryd.prog 157 = some (.agg #[(.int .u32 0), (.int .u32 0)]) := by kernel_rfl
theorem of157_0 : offT Tryd.prog 157 0 = some 0 := by kernel_rfl
theorem of157_1 : offT Tryd.prog 157 1 = some 1 := by kernel_rfl
theorem ag158 : aggT Tryd.prog 158 32 = true := by kernel_rfl
theorem ze158 : zeroT Tryd.prog 158 = some (.agg #[(.int .i8 0), (.int .u32 0), (.int .u32 0), (.int .u32 0), (.int .u32 0), (.int .i64 0), (.int .u32 0), (.int .u32 0), (.int .u32 0), (.int .u32 0), (.int .u32 0), (.int .u32 0), (.bool false), (.bool false), (.int .u32 0), (.int .u32 0), (.int .i8 0), (.int .u32 0), (.int .i64 0), (.int .i8 0), (.string ByteArray.empty), (.slice none 0 0), (.slice none 0 0), (.int .i32 0), (.bool false), (.bool false), (.int .i64 0), (.int .i32 0), (.slice none 0 0), (.slice none 0 0), (.slice none 0 0), (.int .i64 0)]) := by kernel_rfl
theorem of158_0 : offT Tryd.prog 158 0 = some 0 := by kernel_rfl
theorem of158_1 : offT Tryd.prog 158 1 = some 1 := by kernel_rfl
theorem of158_2 : offT Tryd.prog 158 2 = some 3 := by kernel_rfl
theorem of158_3 : offT Tryd.prog 158 3 = some 5 := by kernel_rfl
theorem of158_4 : offT Tryd.prog 158 4 = some 6 := by kernel_rfl
theorem of158_5 : offT Tryd.prog 158 5 = some 7 := by kernel_rfl
theorem of158_6 : offT Tryd.prog 158 6 = some 8 := by kernel_rfl
theorem of158_7 : offT Tryd.prog 158 7 = some 10 := by kernel_rfl
theorem of158_8 : offT Tryd.prog 158 8 = some 12 := by kernel_rfl
theorem of158_9 : offT Tryd.prog 158 9 = some 13 := by kernel_rfl
theorem of158_10 : offT Tryd.prog 158 10 = some 14 := by kernel_rfl
theorem of158_11 : offT Tryd.prog 158 11 = some 30 := by kernel_rfl
theorem of158_12 : offT Tryd.prog 158 12 = some 31 := by kernel_rfl
theorem ag159 : aggT Tryd.prog 159 32 = true := by kernel_rfl
theorem ze159 : zeroT Tryd.prog 159 = some (.agg #[(.int .i8 0), (.int .u32 0), (.int .u32 0), (.int .u32 0), (.int .u32 0), (.int .i64 0), (.int .u32 0), (.int .u32 0), (.int .u32 0), (.int .u32 0), (.int .u32 0), (.int .u32 0), (.bool false), (.bool false), (.int .u32 0), (.int .u32 0), (.int .i8 0), (.int .u32 0), (.int .i64 0), (.int .i8 0), (.string ByteArray.empty), (.slice none 0 0), (.slice none 0 0), (.int .i32 0), (.bool false), (.bool false), (.int .i64 0), (.int .i32 0), (.slice none 0 0), (.slice none 0 0), (.slice none 0 0), (.int .i64 0)]) := by kernel_rfl
theorem of159_0 : offT Tryd.prog 159 0 = some 0 := by kernel_rfl
theorem of159_1 : offT Tryd.prog 159 1 = some 1 := by kernel_rfl
theorem of159_2 : offT Tryd.prog 159 2 = some 3 := by kernel_rfl
theorem of159_3 : offT Tryd.prog 159 3 = some 5 := by kernel_rfl
theorem of159_4 : offT Tryd.prog 159 4 = some 6 := by kernel_rfl
theorem of159_5 : offT Tryd.prog 159 5 = some 7 := by kernel_rfl
theorem of159_6 : offT Tryd.prog 159 6 = some 8 := by kernel_rfl
theorem of159_7 : offT Tryd.prog 159 7 = some 10 := by kernel_rfl
theorem of159_8 : offT Tryd.prog 159 8 = some 12 := by kernel_rfl
theorem of159_9 : offT Tryd.prog 159 9 = some 13 := by kernel_rfl
theorem of159_10 : offT Tryd.prog 159 10 = some 14 := by kernel_rfl
theorem of159_11 : offT Tryd.prog 159 11 = some 30 := by kernel_rfl
theorem of159_12 : offT Tryd.prog 159 12 = some 31 := by kernel_rfl
theorem fu160 : isFuncT Tryd.prog 160 = true := by kernel_rfl
theorem one160 : oneT Tryd.prog 160 = true := by kernel_rfl
theorem ze160 : zeroT Tryd.prog 160 = some .nilFunc := by kernel_rfl
theorem sl161 : isSliceT Tryd.prog 161 = true := by kernel_rfl
theorem one161 : oneT Tryd.prog 161 = true := by kernel_rfl
theorem el161 : El Tryd.prog 161 163 4 40 (.agg #[(.int .i8 0), (.int .i8 0), (.slice none 0 0), (.bool false)]) := ⟨Tryd.underlying161, by kernel_rfl, by kernel_rfl, by decide⟩
theorem ze161 : zeroT Tryd.prog 161 = some (.slice none 0 0) := by kernel_rfl
theorem ag162 : aggT Tryd.prog 162 4 = true := by kernel_rfl
theorem ze162 : zeroT Tryd.prog 162 = some (.agg #[(.int .i8 0), (.int .i8 0), (.slice none 0 0), (.bool false)]) := by kernel_rfl
theorem of162_0 : offT Tryd.prog 162 0 = some 0 := by kernel_rfl
theorem of162_1 : offT Tryd.prog 162 1 = some 1 := by kernel_rfl
theorem of162_2 : offT Tryd.prog 162 2 = some 2 := by kernel_rfl
theorem of162_3 : offT Tryd.prog 162 3 = some 3 := by kernel_rfl
theorem ag163 : aggT Tryd.prog 163 4 = true := by kernel_rfl
theorem ze163 : zeroT Tryd.prog 163 = some (.agg #[(.int .i8 0), (.int .i8 0), (.slice none 0 0), (.bool false)]) := by kernel_rfl
theorem of163_0 : offT Tryd.prog 163 0 = some 0 := by kernel_rfl
theorem of163_1 : offT Tryd.prog 163 1 = some 1 := by kernel_rfl
theorem of163_2 : offT Tryd.prog 163 2 = some 2 := by kernel_rfl
theorem of163_3 : offT Tryd.prog 163 3 = some 3 := by kernel_rfl
theorem fu164 : isFuncT Tryd.prog 164 = true := by kernel_rfl
theorem one164 : oneT Tryd.prog 164 = true := by kernel_rfl
theorem ze164 : zeroT Tryd.prog 164 = some .nilFunc := by kernel_rfl
theorem sl165 : isSliceT Tryd.prog 165 = true := by kernel_rfl
theorem one165 : oneT Tryd.prog 165 = true := by kernel_rfl
theorem el165 : El Tryd.prog 165 167 3 32 (.agg #[(.int .i64 0), (.int .i8 0), (.string ByteArray.empty)]) := ⟨Tryd.underlying165, by kernel_rfl, by kernel_rfl, by decide⟩
theorem ze165 : zeroT Tryd.prog 165 = some (.slice none 0 0) := by kernel_rfl
theorem ag166 : aggT Tryd.prog 166 3 = true := by kernel_rfl
theorem ze166 : zeroT Tryd.prog 166 = some (.agg #[(.int .i64 0), (.int .i8 0), (.string ByteArray.empty)]) := by kernel_rfl
theorem of166_0 : offT Tryd.prog 166 0 = some 0 := by kernel_rfl
theorem of166_1 : offT Tryd.prog 166 1 = some 1 := by kernel_rfl
theorem of166_2 : offT Tryd.prog 166 2 = some 2 := by kernel_rfl
theorem ag167 : aggT Tryd.prog 167 3 = true := by kernel_rfl
theorem ze167 : zeroT Tryd.prog 167 = some (.agg #[(.int .i64 0), (.int .i8 0), (.string ByteArray.empty)]) := by kernel_rfl
theorem of167_0 : offT Tryd.prog 167 0 = some 0 := by kernel_rfl
theorem of167_1 : offT Tryd.prog 167 1 = some 1 := by kernel_rfl
theorem of167_2 : offT Tryd.prog 167 2 = some 2 := by kernel_rfl
theorem fu168 : isFuncT Tryd.prog 168 = true := by kernel_rfl
theorem one168 : oneT Tryd.prog 168 = true := by kernel_rfl
theorem ze168 : zeroT Tryd.prog 168 = some .nilFunc := by kernel_rfl
theorem sl169 : isSliceT Tryd.prog 169 = true := by kernel_rfl
theorem one169 : oneT Tryd.prog 169 = true := by kernel_rfl
theorem el169 : El Tryd.prog 169 171 5 56 (.agg #[(.int .i64 0), (.int .i8 0), (.string ByteArray.empty), (.int .i8 0), (.string ByteArray.empty)]) := ⟨Tryd.underlying169, by kernel_rfl, by kernel_rfl, by decide⟩
theorem ze169 : zeroT Tryd.prog 169 = some (.slice none 0 0) := by kernel_rfl
theorem ag170 : aggT Tryd.prog 170 5 = true := by kernel_rfl
theorem ze170 : zeroT Tryd.prog 170 = some (.agg #[(.int .i64 0), (.int .i8 0), (.string ByteArray.empty), (.int .i8 0), (.string ByteArray.empty)]) := by kernel_rfl
theorem of170_0 : offT Tryd.prog 170 0 = some 0 := by kernel_rfl
theorem of170_1 : offT Tryd.prog 170 1 = some 3 := by kernel_rfl
theorem ag171 : aggT Tryd.prog 171 5 = true := by kernel_rfl
theorem ze171 : zeroT Tryd.prog 171 = some (.agg #[(.int .i64 0), (.int .i8 0), (.string ByteArray.empty), (.int .i8 0), (.string ByteArray.empty)]) := by kernel_rfl
theorem of171_0 : offT Tryd.prog 171 0 = some 0 := by kernel_rfl
theorem of171_1 : offT Tryd.prog 171 1 = some 3 := by kernel_rfl
theorem fu172 : isFuncT Tryd.prog 172 = true := by kernel_rfl
theorem one172 : oneT Tryd.prog 172 = true := by kernel_rfl
theorem ze172 : zeroT Tryd.prog 172 = some .nilFunc := by kernel_rfl
theorem sl173 : isSliceT Tryd.prog 173 = true := by kernel_rfl
theorem one173 : oneT Tryd.prog 173 = true := by kernel_rfl
theorem el173 : El Tryd.prog 173 175 52 488 (.agg #[(.int .i8 0), (.int .i8 0), (.int .i8 0), (.int .u32 0), (.int .u32 0), (.int .u32 0), (.int .i8 0), (.int .i64 0), (.int .u32 0), (.int .u32 0), (.int .i8 0), (.int .u32 0), (.int .i64 0), (.int .i8 0), (.string ByteArray.empty), (.slice none 0 0), (.slice none 0 0), (.int .i32 0), (.bool false), (.bool false), (.int .i64 0), (.int .i32 0), (.slice none 0 0), (.slice none 0 0), (.int .i64 0), (.string ByteArray.empty), (.slice none 0 0), (.slice none 0 0), (.int .u32 0), (.int .u32 0), (.int .u32 0), (.int .u32 0), (.int .u32 0), (.int .u32 0), (.int .i32 0), (.int .i32 0), (.int .i32 0), (.int .i64 0), (.int .i64 0), (.int .i64 0), (.slice none 0 0), (.int .i64 0), (.slice none 0 0), (.int .i64 0), (.int .i8 0), (.string ByteArray.empty), (.int .i8 0), (.string ByteArray.empty), (.int .i64 0), (.int .u32 0), (.int .u32 0), (.slice none 0 0)]) := ⟨Tryd.underlying173, by kernel_rfl, by kernel_rfl, by decide⟩
theorem ze173 : zeroT Tryd.prog 173 = some (.slice none 0 0) := by kernel_rfl
theorem ag174 : aggT Tryd.prog 174 52 = true := by kernel_rfl
theorem ze174 : zeroT Tryd.prog 174 = some (.agg #[(.int .i8 0), (.int .i8 0), (.int .i8 0), (.int .u32 0), (.int .u32 0), (.int .u32 0), (.int .i8 0), (.int .i64 0), (.int .u32 0), (.int .u32 0), (.int .i8 0), (.int .u32 0), (.int .i64 0), (.int .i8 0), (.string ByteArray.empty), (.slice none 0 0), (.slice none 0 0), (.int .i32 0), (.bool false), (.bool false), (.int .i64 0), (.int .i32 0), (.slice none 0 0), (.slice none 0 0), (.int .i64 0), (.string ByteArray.empty), (.slice none 0 0), (.slice none 0 0), (.int .u32 0), (.int .u32 0), (.int .u32 0), (.int .u32 0), (.int .u32 0), (.int .u32 0), (.int .i32 0), (.int .i32 0), (.int .i32 0), (.int .i64 0), (.int .i64 0), (.int .i64 0), (.slice none 0 0), (.int .i64 0), (.slice none 0 0), (.int .i64 0), (.int .i8 0), (.string ByteArray.empty), (.int .i8 0), (.string ByteArray.empty), (.int .i64 0), (.int .u32 0), (.int .u32 0), (.slice none 0 0)]) := by kernel_rfl
theorem of174_0 : offT Tryd.prog 174 0 = some 0 := by kernel_rfl
theorem of174_1 : offT Tryd.prog 174 1 = some 1 := by kernel_rfl
theorem of174_2 : offT Tryd.prog 174 2 = some 2 := by kernel_rfl
theorem of174_3 : offT Tryd.prog 174 3 = some 3 := by kernel_rfl
theorem of174_4 : offT Tryd.prog 174 4 = some 4 := by kernel_rfl
theorem of174_5 : offT Tryd.prog 174 5 = some 6 := by kernel_rfl
theorem of174_6 : offT Tryd.prog 174 6 = some 7 := by kernel_rfl
theorem of174_7 : offT Tryd.prog 174 7 = some 8 := by kernel_rfl
theorem of174_8 : offT Tryd.prog 174 8 = some 24 := by kernel_rfl
theorem of174_9 : offT Tryd.prog 174 9 = some 43 := by kernel_rfl
theorem of174_10 : offT Tryd.prog 174 10 = some 48 := by kernel_rfl
theorem of174_11 : offT Tryd.prog 174 11 = some 49 := by kernel_rfl
theorem of174_12 : offT Tryd.prog 174 12 = some 51 := by kernel_rfl
theorem ag175 : aggT Tryd.prog 175 52 = true := by kernel_rfl
theorem ze175 : zeroT Tryd.prog 175 = some (.agg #[(.int .i8 0), (.int .i8 0), (.int .i8 0), (.int .u32 0), (.int .u32 0), (.int .u32 0), (.int .i8 0), (.int .i64 0), (.int .u32 0), (.int .u32 0), (.int .i8 0), (.int .u32 0), (.int .i64 0), (.int .i8 0), (.string ByteArray.empty), (.slice none 0 0), (.slice none 0 0), (.int .i32 0), (.bool false), (.bool false), (.int .i64 0), (.int .i32 0), (.slice none 0 0), (.slice none 0 0), (.int .i64 0), (.string ByteArray.empty), (.slice none 0 0), (.slice none 0 0), (.int .u32 0), (.int .u32 0), (.int .u32 0), (.int .u32 0), (.int .u32 0), (.int .u32 0), (.int .i32 0), (.int .i32 0), (.int .i32 0), (.int .i64 0), (.int .i64 0), (.int .i64 0), (.slice none 0 0), (.int .i64 0), (.slice none 0 0), (.int .i64 0), (.int .i8 0), (.string ByteArray.empty), (.int .i8 0), (.string ByteArray.empty), (.int .i64 0), (.int .u32 0), (.int .u32 0), (.slice none 0 0)]) := by kernel_rfl
theorem of175_0 : offT Tryd.prog 175 0 = some 0 := by kernel_rfl
theorem of175_1 : offT Tryd.prog 175 1 = some 1 := by kernel_rfl
theorem of175_2 : offT Tryd.prog 175 2 = some 2 := by kernel_rfl
theorem of175_3 : offT Tryd.prog 175 3 = some 3 := by kernel_rfl
theorem of175_4 : offT Tryd.prog 175 4 = some 4 := by kernel_rfl
theorem of175_5 : offT Tryd.prog 175 5 = some 6 := by kernel_rfl
theorem of175_6 : offT Tryd.prog 175 6 = some 7 := by kernel_rfl
theorem of175_7 : offT Tryd.prog 175 7 = some 8 := by kernel_rfl
theorem of175_8 : offT Tryd.prog 175 8 = some 24 := by kernel_rfl
theorem of175_9 : offT Tryd.prog 175 9 = some 43 := by kernel_rfl
theorem of175_10 : offT Tryd.prog 175 10 = some 48 := by kernel_rfl
theorem of175_11 : offT Tryd.prog 175 11 = some 49 := by kernel_rfl
theorem of175_12 : offT Tryd.prog 175 12 = some 51 := by kernel_rfl
theorem fu176 : isFuncT Tryd.prog 176 = true := by kernel_rfl
theorem one176 : oneT Tryd.prog 176 = true := by kernel_rfl
theorem ze176 : zeroT Tryd.prog 176 = some .nilFunc := by kernel_rfl
theorem sl177 : isSliceT Tryd.prog 177 = true := by kernel_rfl
theorem one177 : oneT Tryd.prog 177 = true := by kernel_rfl
theorem el177 : El Tryd.prog 177 179 2 32 (.agg #[(.int .i8 0), (.slice none 0 0)]) := ⟨Tryd.underlying177, by kernel_rfl, by kernel_rfl, by decide⟩
theorem ze177 : zeroT Tryd.prog 177 = some (.slice none 0 0) := by kernel_rfl
theorem ag178 : aggT Tryd.prog 178 2 = true := by kernel_rfl
theorem ze178 : zeroT Tryd.prog 178 = some (.agg #[(.int .i8 0), (.slice none 0 0)]) := by kernel_rfl
theorem of178_0 : offT Tryd.prog 178 0 = some 0 := by kernel_rfl
theorem of178_1 : offT Tryd.prog 178 1 = some 1 := by kernel_rfl
theorem ag179 : aggT Tryd.prog 179 2 = true := by kernel_rfl
theorem ze179 : zeroT Tryd.prog 179 = some (.agg #[(.int .i8 0), (.slice none 0 0)]) := by kernel_rfl
theorem of179_0 : offT Tryd.prog 179 0 = some 0 := by kernel_rfl
theorem of179_1 : offT Tryd.prog 179 1 = some 1 := by kernel_rfl
theorem fu180 : isFuncT Tryd.prog 180 = true := by kernel_rfl
theorem one180 : oneT Tryd.prog 180 = true := by kernel_rfl
theorem ze180 : zeroT Tryd.prog 180 = some .nilFunc := by kernel_rfl
theorem sl181 : isSliceT Tryd.prog 181 = true := by kernel_rfl
theorem one181 : oneT Tryd.prog 181 = true := by kernel_rfl
theorem el181 : El Tryd.prog 181 183 19 208 (.agg #[(.int .i8 0), (.int .i8 0), (.int .i8 0), (.int .i64 0), (.int .i64 0), (.int .u8 0), (.slice none 0 0), (.int .i8 0), (.string ByteArray.empty), (.slice none 0 0), (.slice none 0 0), (.int .i32 0), (.bool false), (.bool false), (.int .i64 0), (.int .i32 0), (.slice none 0 0), (.slice none 0 0), (.int .i8 0)]) := ⟨Tryd.underlying181, by kernel_rfl, by kernel_rfl, by decide⟩
theorem ze181 : zeroT Tryd.prog 181 = some (.slice none 0 0) := by kernel_rfl
theorem ag182 : aggT Tryd.prog 182 19 = true := by kernel_rfl
theorem ze182 : zeroT Tryd.prog 182 = some (.agg #[(.int .i8 0), (.int .i8 0), (.int .i8 0), (.int .i64 0), (.int .i64 0), (.int .u8 0), (.slice none 0 0), (.int .i8 0), (.string ByteArray.empty), (.slice none 0 0), (.slice none 0 0), (.int .i32 0), (.bool false), (.bool false), (.int .i64 0), (.int .i32 0), (.slice none 0 0), (.slice none 0 0), (.int .i8 0)]) := by kernel_rfl
theorem of182_0 : offT Tryd.prog 182 0 = some 0 := by kernel_rfl
theorem of182_1 : offT Tryd.prog 182 1 = some 1 := by kernel_rfl
theorem of182_2 : offT Tryd.prog 182 2 = some 2 := by kernel_rfl
theorem of182_3 : offT Tryd.prog 182 3 = some 3 := by kernel_rfl
theorem of182_4 : offT Tryd.prog 182 4 = some 4 := by kernel_rfl
theorem of182_5 : offT Tryd.prog 182 5 = some 5 := by kernel_rfl
theorem of182_6 : offT Tryd.prog 182 6 = some 6 := by kernel_rfl
theorem of182_7 : offT Tryd.prog 182 7 = some 7 := by kernel_rfl
theorem of182_8 : offT Tryd.prog 182 8 = some 18 := by kernel_rfl
theorem ag183 : aggT Tryd.prog 183 19 = true := by kernel_rfl
theorem ze183 : zeroT Tryd.prog 183 = some (.agg #[(.int .i8 0), (.int .i8 0), (.int .i8 0), (.int .i64 0), (.int .i64 0), (.int .u8 0), (.slice none 0 0), (.int .i8 0), (.string ByteArray.empty), (.slice none 0 0), (.slice none 0 0), (.int .i32 0), (.bool false), (.bool false), (.int .i64 0), (.int .i32 0), (.slice none 0 0), (.slice none 0 0), (.int .i8 0)]) := by kernel_rfl
theorem of183_0 : offT Tryd.prog 183 0 = some 0 := by kernel_rfl
theorem of183_1 : offT Tryd.prog 183 1 = some 1 := by kernel_rfl
theorem of183_2 : offT Tryd.prog 183 2 = some 2 := by kernel_rfl
theorem of183_3 : offT Tryd.prog 183 3 = some 3 := by kernel_rfl
theorem of183_4 : offT Tryd.prog 183 4 = some 4 := by kernel_rfl
theorem of183_5 : offT Tryd.prog 183 5 = some 5 := by kernel_rfl
theorem of183_6 : offT Tryd.prog 183 6 = some 6 := by kernel_rfl
theorem of183_7 : offT Tryd.prog 183 7 = some 7 := by kernel_rfl
theorem of183_8 : offT Tryd.prog 183 8 = some 18 := by kernel_rfl
theorem fu184 : isFuncT Tryd.prog 184 = true := by kernel_rfl
theorem one184 : oneT Tryd.prog 184 = true := by kernel_rfl
theorem ze184 : zeroT Tryd.prog 184 = some .nilFunc := by kernel_rfl
theorem fu185 : isFuncT Tryd.prog 185 = true := by kernel_rfl
theorem one185 : oneT Tryd.prog 185 = true := by kernel_rfl
theorem ze185 : zeroT Tryd.prog 185 = some .nilFunc := by kernel_rfl
theorem fu187 : isFuncT Tryd.prog 187 = true := by kernel_rfl
theorem one187 : oneT Tryd.prog 187 = true := by kernel_rfl
theorem ze187 : zeroT Tryd.prog 187 = some .nilFunc := by kernel_rfl
theorem fu188 : isFuncT Tryd.prog 188 = true := by kernel_rfl
theorem one188 : oneT Tryd.prog 188 = true := by kernel_rfl
theorem ze188 : zeroT Tryd.prog 188 = some .nilFunc := by kernel_rfl
theorem ag189 : aggT Tryd.prog 189 24 = true := by kernel_rfl
theorem ze189 : zeroT Tryd.prog 189 = some (.agg #[(.int .u8 0), (.int .u8 0), (.int .u8 0), (.int .u8 0), (.int .u8 0), (.int .u8 0), (.int .u8 0), (.int .u8 0), (.int .u8 0), (.int .u8 0), (.int .u8 0), (.int .u8 0), (.int .u8 0), (.int .u8 0), (.int .u8 0), (.int .u8 0), (.int .u8 0), (.int .u8 0), (.int .u8 0), (.int .u8 0), (.int .u8 0), (.int .u8 0), (.int .u8 0), (.int .u8 0)]) := by kernel_rfl
theorem fu190 : isFuncT Tryd.prog 190 = true := by kernel_rfl
theorem one190 : oneT Tryd.prog 190 = true := by kernel_rfl
theorem ze190 : zeroT Tryd.prog 190 = some .nilFunc := by kernel_rfl
theorem fu191 : isFuncT Tryd.prog 191 = true := by kernel_rfl
theorem one191 : oneT Tryd.prog 191 = true := by kernel_rfl
theorem ze191 : zeroT Tryd.prog 191 = some .nilFunc := by kernel_rfl
theorem fu193 : isFuncT Tryd.prog 193 = true := by kernel_rfl
theorem one193 : oneT Tryd.prog 193 = true := by kernel_rfl
theorem ze193 : zeroT Tryd.prog 193 = some .nilFunc := by kernel_rfl
theorem fu194 : isFuncT Tryd.prog 194 = true := by kernel_rfl
theorem one194 : oneT Tryd.prog 194 = true := by kernel_rfl
theorem ze194 : zeroT Tryd.prog 194 = some .nilFunc := by kernel_rfl
theorem ag195 : aggT Tryd.prog 195 20 = true := by kernel_rfl
theorem ze195 : zeroT Tryd.prog 195 = some (.agg #[(.int .u64 0), (.int .u64 0), (.int .u64 0), (.int .u64 0), (.int .u64 0), (.int .u64 0), (.int .u64 0), (.int .u64 0), (.int .u64 0), (.int .u64 0), (.int .u64 0), (.int .u64 0), (.int .u64 0), (.int .u64 0), (.int .u64 0), (.int .u64 0), (.int .u64 0), (.int .u64 0), (.int .u64 0), (.int .u64 0)]) := by kernel_rfl
theorem ag196 : aggT Tryd.prog 196 65 = true := by kernel_rfl
theorem ze196 : zeroT Tryd.prog 196 = some (.agg #[(.int .u8 0), (.int .u8 0), (.int .u8 0), (.int .u8 0), (.int .u8 0), (.int .u8 0), (.int .u8 0), (.int .u8 0), (.int .u8 0), (.int .u8 0), (.int .u8 0), (.int .u8 0), (.int .u8 0), (.int .u8 0), (.int .u8 0), (.int .u8 0), (.int .u8 0), (.int .u8 0), (.int .u8 0), (.int .u8 0), (.int .u8 0), (.int .u8 0), (.int .u8 0), (.int .u8 0), (.int .u8 0), (.int .u8 0), (.int .u8 0), (.int .u8 0), (.int .u8 0), (.int .u8 0), (.int .u8 0), (.int .u8 0), (.int .u8 0), (.int .u8 0), (.int .u8 0), (.int .u8 0), (.int .u8 0), (.int .u8 0), (.int .u8 0), (.int .u8 0), (.int .u8 0), (.int .u8 0), (.int .u8 0), (.int .u8 0), (.int .u8 0), (.int .u8 0), (.int .u8 0), (.int .u8 0), (.int .u8 0), (.int .u8 0), (.int .u8 0), (.int .u8 0), (.int .u8 0), (.int .u8 0), (.int .u8 0), (.int .u8 0), (.int .u8 0), (.int .u8 0), (.int .u8 0), (.int .u8 0), (.int .u8 0), (.int .u8 0), (.int .u8 0), (.int .u8 0), (.int .u8 0)]) := by kernel_rfl
theorem fu197 : isFuncT Tryd.prog 197 = true := by kernel_rfl
theorem one197 : oneT Tryd.prog 197 = true := by kernel_rfl
theorem ze197 : zeroT Tryd.prog 197 = some .nilFunc := by kernel_rfl
theorem fu198 : isFuncT Tryd.prog 198 = true := by kernel_rfl
theorem one198 : oneT Tryd.prog 198 = true := by kernel_rfl
theorem ze198 : zeroT Tryd.prog 198 = some .nilFunc := by kernel_rfl
theorem fu199 : isFuncT Tryd.prog 199 = true := by kernel_rfl
theorem one199 : oneT Tryd.prog 199 = true := by kernel_rfl
theorem ze199 : zeroT Tryd.prog 199 = some .nilFunc := by kernel_rfl
theorem ag200 : aggT Tryd.prog 200 32 = true := by kernel_rfl
theorem ze200 : zeroT Tryd.prog 200 = some (.agg #[(.int .u8 0), (.int .u8 0), (.int .u8 0), (.int .u8 0), (.int .u8 0), (.int .u8 0), (.int .u8 0), (.int .u8 0), (.int .u8 0), (.int .u8 0), (.int .u8 0), (.int .u8 0), (.int .u8 0), (.int .u8 0), (.int .u8 0), (.int .u8 0), (.int .u8 0), (.int .u8 0), (.int .u8 0), (.int .u8 0), (.int .u8 0), (.int .u8 0), (.int .u8 0), (.int .u8 0), (.int .u8 0), (.int .u8 0), (.int .u8 0), (.int .u8 0), (.int .u8 0), (.int .u8 0), (.int .u8 0), (.int .u8 0)]) := by kernel_rfl
theorem ag201 : aggT Tryd.prog 201 64 = true := by kernel_rfl
theorem ze201 : zeroT Tryd.prog 201 = some (.agg #[(.int .u8 0), (.int .u8 0), (.int .u8 0), (.int .u8 0), (.int .u8 0), (.int .u8 0), (.int .u8 0), (.int .u8 0), (.int .u8 0), (.int .u8 0), (.int .u8 0), (.int .u8 0), (.int .u8 0), (.int .u8 0), (.int .u8 0), (.int .u8 0), (.int .u8 0), (.int .u8 0), (.int .u8 0), (.int .u8 0), (.int .u8 0), (.int .u8 0), (.int .u8 0), (.int .u8 0), (.int .u8 0), (.int .u8 0), (.int .u8 0), (.int .u8 0), (.int .u8 0), (.int .u8 0), (.int .u8 0), (.int .u8 0), (.int .u8 0), (.int .u8 0), (.int .u8 0), (.int .u8 0), (.int .u8 0), (.int .u8 0), (.int .u8 0), (.int .u8 0), (.int .u8 0), (.int .u8 0), (.int .u8 0), (.int .u8 0), (.int .u8 0), (.int .u8 0), (.int .u8 0), (.int .u8 0), (.int .u8 0), (.int .u8 0), (.int .u8 0), (.int .u8 0), (.int .u8 0), (.int .u8 0), (.int .u8 0), (.int .u8 0), (.int .u8 0), (.int .u8 0), (.int .u8 0), (.int .u8 0), (.int .u8 0), (.int .u8 0), (.int .u8 0), (.int .u8 0)]) := by kernel_rfl
theorem fu202 : isFuncT Tryd.prog 202 = true := by kernel_rfl
theorem one202 : oneT Tryd.prog 202 = true := by kernel_rfl
theorem ze202 : zeroT Tryd.prog 202 = some .nilFunc := by kernel_rfl
theorem ag203 : aggT Tryd.prog 203 4 = true := by kernel_rfl
theorem ze203 : zeroT Tryd.prog 203 = some (.agg #[(.pointer none), (.pointer none), (.pointer none), (.string ByteArray.empty)]) := by kernel_rfl
theorem of203_0 : offT Tryd.prog 203 0 = some 0 := by kernel_rfl
theorem of203_1 : offT Tryd.prog 203 1 = some 1 := by kernel_rfl
theorem of203_2 : offT Tryd.prog 203 2 = some 2 := by kernel_rfl
theorem of203_3 : offT Tryd.prog 203 3 = some 3 := by kernel_rfl
theorem ag204 : aggT Tryd.prog 204 4 = true := by kernel_rfl
theorem ze204 : zeroT Tryd.prog 204 = some (.agg #[(.pointer none), (.pointer none), (.pointer none), (.string ByteArray.empty)]) := by kernel_rfl
theorem of204_0 : offT Tryd.prog 204 0 = some 0 := by kernel_rfl
theorem of204_1 : offT Tryd.prog 204 1 = some 1 := by kernel_rfl
theorem of204_2 : offT Tryd.prog 204 2 = some 2 := by kernel_rfl
theorem of204_3 : offT Tryd.prog 204 3 = some 3 := by kernel_rfl
theorem it208 : intT Tryd.prog 208 = some .u8 := by kernel_rfl
theorem one208 : oneT Tryd.prog 208 = true := by kernel_rfl
theorem ze208 : zeroT Tryd.prog 208 = some (.int .u8 0) := by kernel_rfl
theorem it209 : intT Tryd.prog 209 = some .u8 := by kernel_rfl
theorem one209 : oneT Tryd.prog 209 = true := by kernel_rfl
theorem ze209 : zeroT Tryd.prog 209 = some (.int .u8 0) := by kernel_rfl
theorem fu210 : isFuncT Tryd.prog 210 = true := by kernel_rfl
theorem one210 : oneT Tryd.prog 210 = true := by kernel_rfl
theorem ze210 : zeroT Tryd.prog 210 = some .nilFunc := by kernel_rfl
theorem pt211 : isPtrT Tryd.prog 211 = true := by kernel_rfl
theorem one211 : oneT Tryd.prog 211 = true := by kernel_rfl
theorem ze211 : zeroT Tryd.prog 211 = some (.pointer none) := by kernel_rfl
theorem it212 : intT Tryd.prog 212 = some .i32 := by kernel_rfl
theorem one212 : oneT Tryd.prog 212 = true := by kernel_rfl
theorem ze212 : zeroT Tryd.prog 212 = some (.int .i32 0) := by kernel_rfl
theorem it213 : intT Tryd.prog 213 = some .i32 := by kernel_rfl
theorem one213 : oneT Tryd.prog 213 = true := by kernel_rfl
theorem ze213 : zeroT Tryd.prog 213 = some (.int .i32 0) := by kernel_rfl
theorem ag214 : aggT Tryd.prog 214 11 = true := by kernel_rfl
theorem ze214 : zeroT Tryd.prog 214 = some (.agg #[(.int .u64 0), (.int .u64 0), (.int .u32 0), (.int .u8 0), (.int .u8 0), (.int .u8 0), (.int .u8 0), .nilFunc, (.pointer none), (.int .i32 0), (.int .i32 0)]) := by kernel_rfl
theorem of214_0 : offT Tryd.prog 214 0 = some 0 := by kernel_rfl
theorem of214_1 : offT Tryd.prog 214 1 = some 1 := by kernel_rfl
theorem of214_2 : offT Tryd.prog 214 2 = some 2 := by kernel_rfl
theorem of214_3 : offT Tryd.prog 214 3 = some 3 := by kernel_rfl
theorem of214_4 : offT Tryd.prog 214 4 = some 4 := by kernel_rfl
theorem of214_5 : offT Tryd.prog 214 5 = some 5 := by kernel_rfl
theorem of214_6 : offT Tryd.prog 214 6 = some 6 := by kernel_rfl
theorem of214_7 : offT Tryd.prog 214 7 = some 7 := by kernel_rfl
theorem of214_8 : offT Tryd.prog 214 8 = some 8 := by kernel_rfl
theorem of214_9 : offT Tryd.prog 214 9 = some 9 := by kernel_rfl
theorem of214_10 : offT Tryd.prog 214 10 = some 10 := by kernel_rfl
theorem ag215 : aggT Tryd.prog 215 11 = true := by kernel_rfl
theorem ze215 : zeroT Tryd.prog 215 = some (.agg #[(.int .u64 0), (.int .u64 0), (.int .u32 0), (.int .u8 0), (.int .u8 0), (.int .u8 0), (.int .u8 0), .nilFunc, (.pointer none), (.int .i32 0), (.int .i32 0)]) := by kernel_rfl
theorem of215_0 : offT Tryd.prog 215 0 = some 0 := by kernel_rfl
theorem of215_1 : offT Tryd.prog 215 1 = some 1 := by kernel_rfl
theorem of215_2 : offT Tryd.prog 215 2 = some 2 := by kernel_rfl
theorem of215_3 : offT Tryd.prog 215 3 = some 3 := by kernel_rfl
theorem of215_4 : offT Tryd.prog 215 4 = some 4 := by kernel_rfl
theorem of215_5 : offT Tryd.prog 215 5 = some 5 := by kernel_rfl
theorem of215_6 : offT Tryd.prog 215 6 = some 6 := by kernel_rfl
theorem of215_7 : offT Tryd.prog 215 7 = some 7 := by kernel_rfl
theorem of215_8 : offT Tryd.prog 215 8 = some 8 := by kernel_rfl
theorem of215_9 : offT Tryd.prog 215 9 = some 9 := by kernel_rfl
theorem of215_10 : offT Tryd.prog 215 10 = some 10 := by kernel_rfl
theorem fu216 : isFuncT Tryd.prog 216 = true := by kernel_rfl
theorem one216 : oneT Tryd.prog 216 = true := by kernel_rfl
theorem ze216 : zeroT Tryd.prog 216 = some .nilFunc := by kernel_rfl
theorem one217 : oneT Tryd.prog 217 = true := by kernel_rfl
theorem ln_22_3 (a : Option Addr) (n c : Nat) (Z : List PanicEntry → World → Prop) (w : World) (kk : Value → World → Prop) : run1 Tryd.prog Z (Builtin.len_ #[22] 3 #[.slice a n c]) w kk = kk (.int .i64 n) w := r1_eq fun w => run_lenS sl22 _ rfl _ a n c w
theorem ln_22_3p (a : Option Addr) (n c : Nat) (kv : Value → Prop) : Pure1 Tryd.prog (Builtin.len_ #[22] 3 #[.slice a n c]) kv = kv (.int .i64 n) := rp_eq fun w => run_lenS sl22 _ rfl _ a n c w
theorem eqlp_24 (cx cy : Bool) (a : Addr) (Z : List PanicEntry → World → Prop) (w : World) (kk : Value → World → Prop) : run1 Tryd.prog Z (eqOp .eql 24 cx cy (.pointer (some a)) (.pointer none)) w kk = kk (.bool false) w := r1_eq fun w => run_eql_ptr_nil pt24 cx cy a w
theorem eqlp_24p (cx cy : Bool) (a : Addr) (kv : Value → Prop) : Pure1 Tryd.prog (eqOp .eql 24 cx cy (.pointer (some a)) (.pointer none)) kv = kv (.bool false) := rp_eq fun w => run_eql_ptr_nil pt24 cx cy a w
theorem eqln_24 (cx cy : Bool) (Z : List PanicEntry → World → Prop) (w : World) (kk : Value → World → Prop) : run1 Tryd.prog Z (eqOp .eql 24 cx cy (.pointer none) (.pointer none)) w kk = kk (.bool true) w := r1_eq fun w => run_eqlNN pt24 cx cy w
theorem eqln_24p (cx cy : Bool) (kv : Value → Prop) : Pure1 Tryd.prog (eqOp .eql 24 cx cy (.pointer none) (.pointer none)) kv = kv (.bool true) := rp_eq fun w => run_eqlNN pt24 cx cy w
theorem fa_35_2 (b i : Nat) (Z : List PanicEntry → World → Prop) (w : World) (kk : Value → World → Prop) : run1 Tryd.prog Z (Instr.fieldAt 35 (.pointer (some ⟨b, i, none⟩)) 2) w kk = kk (.pointer (some ⟨b, i + 2, none⟩)) w := r1_eq fun w => run_fieldAt of35_2 b i w
theorem fa_35_2p (b i : Nat) (kv : Value → Prop) : Pure1 Tryd.prog (Instr.fieldAt 35 (.pointer (some ⟨b, i, none⟩)) 2) kv = kv (.pointer (some ⟨b, i + 2, none⟩)) := rp_eq fun w => run_fieldAt of35_2 b i w
theorem cv_21_3 (q : IntKind) (n : Int) (Z : List PanicEntry → World → Prop) (w : World) (kk : Value → World → Prop) : run1 Tryd.prog Z (convert 21 3 (.int q n)) w kk = kk (.int .i64 (IntKind.i64.wrap n)) w := r1_eq fun w => run_conv_int (by kernel_rfl) it3 q n w
theorem cv_21_3p (q : IntKind) (n : Int) (kv : Value → Prop) : Pure1 Tryd.prog (convert 21 3 (.int q n)) kv = kv (.int .i64 (IntKind.i64.wrap n)) := rp_eq fun w => run_conv_int (by kernel_rfl) it3 q n w
theorem fa_76_1 (b i : Nat) (Z : List PanicEntry → World → Prop) (w : World) (kk : Value → World → Prop) : run1 Tryd.prog Z (Instr.fieldAt 76 (.pointer (some ⟨b, i, none⟩)) 1) w kk = kk (.pointer (some ⟨b, i + 1, none⟩)) w := r1_eq fun w => run_fieldAt of76_1 b i w
theorem fa_76_1p (b i : Nat) (kv : Value → Prop) : Pure1 Tryd.prog (Instr.fieldAt 76 (.pointer (some ⟨b, i, none⟩)) 1) kv = kv (.pointer (some ⟨b, i + 1, none⟩)) := rp_eq fun w => run_fieldAt of76_1 b i w
theorem eqlf_29 (cx cy : Bool) (f : Fn) (a b : Array Value) (Z : List PanicEntry → World → Prop) (w : World) (kk : Value → World → Prop) : run1 Tryd.prog Z (eqOp .eql 29 cx cy (.func f a b) .nilFunc) w kk = kk (.bool false) w := r1_eq fun w => run_eql_func fu29 cx cy f a b w
theorem eqlf_29p (cx cy : Bool) (f : Fn) (a b : Array Value) (kv : Value → Prop) : Pure1 Tryd.prog (eqOp .eql 29 cx cy (.func f a b) .nilFunc) kv = kv (.bool false) := rp_eq fun w => run_eql_func fu29 cx cy f a b w
theorem eqlf0_29 (cx cy : Bool) (Z : List PanicEntry → World → Prop) (w : World) (kk : Value → World → Prop) : run1 Tryd.prog Z (eqOp .eql 29 cx cy .nilFunc .nilFunc) w kk = kk (.bool true) w := r1_eq fun w => run_eql_func0 fu29 cx cy w
theorem eqlf0_29p (cx cy : Bool) (kv : Value → Prop) : Pure1 Tryd.prog (eqOp .eql 29 cx cy .nilFunc .nilFunc) kv = kv (.bool true) := rp_eq fun w => run_eql_func0 fu29 cx cy w
theorem fa_35_1 (b i : Nat) (Z : List PanicEntry → World → Prop) (w : World) (kk : Value → World → Prop) : run1 Tryd.prog Z (Instr.fieldAt 35 (.pointer (some ⟨b, i, none⟩)) 1) w kk = kk (.pointer (some ⟨b, i + 1, none⟩)) w := r1_eq fun w => run_fieldAt of35_1 b i w
theorem fa_35_1p (b i : Nat) (kv : Value → Prop) : Pure1 Tryd.prog (Instr.fieldAt 35 (.pointer (some ⟨b, i, none⟩)) 1) kv = kv (.pointer (some ⟨b, i + 1, none⟩)) := rp_eq fun w => run_fieldAt of35_1 b i w
theorem fa_35_0 (b i : Nat) (Z : List PanicEntry → World → Prop) (w : World) (kk : Value → World → Prop) : run1 Tryd.prog Z (Instr.fieldAt 35 (.pointer (some ⟨b, i, none⟩)) 0) w kk = kk (.pointer (some ⟨b, i + 0, none⟩)) w := r1_eq fun w => run_fieldAt of35_0 b i w
theorem fa_35_0p (b i : Nat) (kv : Value → Prop) : Pure1 Tryd.prog (Instr.fieldAt 35 (.pointer (some ⟨b, i, none⟩)) 0) kv = kv (.pointer (some ⟨b, i + 0, none⟩)) := rp_eq fun w => run_fieldAt of35_0 b i w
theorem ln_27_3 (a : Option Addr) (n c : Nat) (Z : List PanicEntry → World → Prop) (w : World) (kk : Value → World → Prop) : run1 Tryd.prog Z (Builtin.len_ #[27] 3 #[.slice a n c]) w kk = kk (.int .i64 n) w := r1_eq fun w => run_lenS sl27 _ rfl _ a n c w
theorem ln_27_3p (a : Option Addr) (n c : Nat) (kv : Value → Prop) : Pure1 Tryd.prog (Builtin.len_ #[27] 3 #[.slice a n c]) kv = kv (.int .i64 n) := rp_eq fun w => run_lenS sl27 _ rfl _ a n c w
theorem fa_76_2 (b i : Nat) (Z : List PanicEntry → World → Prop) (w : World) (kk : Value → World → Prop) : run1 Tryd.prog Z (Instr.fieldAt 76 (.pointer (some ⟨b, i, none⟩)) 2) w kk = kk (.pointer (some ⟨b, i + 2, none⟩)) w := r1_eq fun w => run_fieldAt of76_2 b i w
theorem fa_76_2p (b i : Nat) (kv : Value → Prop) : Pure1 Tryd.prog (Instr.fieldAt 76 (.pointer (some ⟨b, i, none⟩)) 2) kv = kv (.pointer (some ⟨b, i + 2, none⟩)) := rp_eq fun w => run_fieldAt of76_2 b i w
theorem fa_63_2 (b i : Nat) (Z : List PanicEntry → World → Prop) (w : World) (kk : Value → World → Prop) : run1 Tryd.prog Z (Instr.fieldAt 63 (.pointer (some ⟨b, i, none⟩)) 2) w kk = kk (.pointer (some ⟨b, i + 2, none⟩)) w := r1_eq fun w => run_fieldAt of63_2 b i w
theorem fa_63_2p (b i : Nat) (kv : Value → Prop) : Pure1 Tryd.prog (Instr.fieldAt 63 (.pointer (some ⟨b, i, none⟩)) 2) kv = kv (.pointer (some ⟨b, i + 2, none⟩)) := rp_eq fun w => run_fieldAt of63_2 b i w
theorem ln_43_3 (a : Option Addr) (n c : Nat) (Z : List PanicEntry → World → Prop) (w : World) (kk : Value → World → Prop) : run1 Tryd.prog Z (Builtin.len_ #[43] 3 #[.slice a n c]) w kk = kk (.int .i64 n) w := r1_eq fun w => run_lenS sl43 _ rfl _ a n c w
theorem ln_43_3p (a : Option Addr) (n c : Nat) (kv : Value → Prop) : Pure1 Tryd.prog (Builtin.len_ #[43] 3 #[.slice a n c]) kv = kv (.int .i64 n) := rp_eq fun w => run_lenS sl43 _ rfl _ a n c w
theorem fa_63_0 (b i : Nat) (Z : List PanicEntry → World → Prop) (w : World) (kk : Value → World → Prop) : run1 Tryd.prog Z (Instr.fieldAt 63 (.pointer (some ⟨b, i, none⟩)) 0) w kk = kk (.pointer (some ⟨b, i + 0, none⟩)) w := r1_eq fun w => run_fieldAt of63_0 b i w
theorem fa_63_0p (b i : Nat) (kv : Value → Prop) : Pure1 Tryd.prog (Instr.fieldAt 63 (.pointer (some ⟨b, i, none⟩)) 0) kv = kv (.pointer (some ⟨b, i + 0, none⟩)) := rp_eq fun w => run_fieldAt of63_0 b i w
theorem fa_63_1 (b i : Nat) (Z : List PanicEntry → World → Prop) (w : World) (kk : Value → World → Prop) : run1 Tryd.prog Z (Instr.fieldAt 63 (.pointer (some ⟨b, i, none⟩)) 1) w kk = kk (.pointer (some ⟨b, i + 1, none⟩)) w := r1_eq fun w => run_fieldAt of63_1 b i w
theorem fa_63_1p (b i : Nat) (kv : Value → Prop) : Pure1 Tryd.prog (Instr.fieldAt 63 (.pointer (some ⟨b, i, none⟩)) 1) kv = kv (.pointer (some ⟨b, i + 1, none⟩)) := rp_eq fun w => run_fieldAt of63_1 b i w
theorem fa_63_3 (b i : Nat) (Z : List PanicEntry → World → Prop) (w : World) (kk : Value → World → Prop) : run1 Tryd.prog Z (Instr.fieldAt 63 (.pointer (some ⟨b, i, none⟩)) 3) w kk = kk (.pointer (some ⟨b, i + 3, none⟩)) w := r1_eq fun w => run_fieldAt of63_3 b i w
theorem fa_63_3p (b i : Nat) (kv : Value → Prop) : Pure1 Tryd.prog (Instr.fieldAt 63 (.pointer (some ⟨b, i, none⟩)) 3) kv = kv (.pointer (some ⟨b, i + 3, none⟩)) := rp_eq fun w => run_fieldAt of63_3 b i w
theorem fa_63_4 (b i : Nat) (Z : List PanicEntry → World → Prop) (w : World) (kk : Value → World → Prop) : run1 Tryd.prog Z (Instr.fieldAt 63 (.pointer (some ⟨b, i, none⟩)) 4) w kk = kk (.pointer (some ⟨b, i + 4, none⟩)) w := r1_eq fun w => run_fieldAt of63_4 b i w
theorem fa_63_4p (b i : Nat) (kv : Value → Prop) : Pure1 Tryd.prog (Instr.fieldAt 63 (.pointer (some ⟨b, i, none⟩)) 4) kv = kv (.pointer (some ⟨b, i + 4, none⟩)) := rp_eq fun w => run_fieldAt of63_4 b i w
theorem fa_63_5 (b i : Nat) (Z : List PanicEntry → World → Prop) (w : World) (kk : Value → World → Prop) : run1 Tryd.prog Z (Instr.fieldAt 63 (.pointer (some ⟨b, i, none⟩)) 5) w kk = kk (.pointer (some ⟨b, i + 5, none⟩)) w := r1_eq fun w => run_fieldAt of63_5 b i w
theorem fa_63_5p (b i : Nat) (kv : Value → Prop) : Pure1 Tryd.prog (Instr.fieldAt 63 (.pointer (some ⟨b, i, none⟩)) 5) kv = kv (.pointer (some ⟨b, i + 5, none⟩)) := rp_eq fun w => run_fieldAt of63_5 b i w
theorem fa_63_6 (b i : Nat) (Z : List PanicEntry → World → Prop) (w : World) (kk : Value → World → Prop) : run1 Tryd.prog Z (Instr.fieldAt 63 (.pointer (some ⟨b, i, none⟩)) 6) w kk = kk (.pointer (some ⟨b, i + 6, none⟩)) w := r1_eq fun w => run_fieldAt of63_6 b i w
theorem fa_63_6p (b i : Nat) (kv : Value → Prop) : Pure1 Tryd.prog (Instr.fieldAt 63 (.pointer (some ⟨b, i, none⟩)) 6) kv = kv (.pointer (some ⟨b, i + 6, none⟩)) := rp_eq fun w => run_fieldAt of63_6 b i w
theorem fa_63_7 (b i : Nat) (Z : List PanicEntry → World → Prop) (w : World) (kk : Value → World → Prop) : run1 Tryd.prog Z (Instr.fieldAt 63 (.pointer (some ⟨b, i, none⟩)) 7) w kk = kk (.pointer (some ⟨b, i + 7, none⟩)) w := r1_eq fun w => run_fieldAt of63_7 b i w
theorem fa_63_7p (b i : Nat) (kv : Value → Prop) : Pure1 Tryd.prog (Instr.fieldAt 63 (.pointer (some ⟨b, i, none⟩)) 7) kv = kv (.pointer (some ⟨b, i + 7, none⟩)) := rp_eq fun w => run_fieldAt of63_7 b i w
theorem fa_63_8 (b i : Nat) (Z : List PanicEntry → World → Prop) (w : World) (kk : Value → World → Prop) : run1 Tryd.prog Z (Instr.fieldAt 63 (.pointer (some ⟨b, i, none⟩)) 8) w kk = kk (.pointer (some ⟨b, i + 8, none⟩)) w := r1_eq fun w => run_fieldAt of63_8 b i w
theorem fa_63_8p (b i : Nat) (kv : Value → Prop) : Pure1 Tryd.prog (Instr.fieldAt 63 (.pointer (some ⟨b, i, none⟩)) 8) kv = kv (.pointer (some ⟨b, i + 8, none⟩)) := rp_eq fun w => run_fieldAt of63_8 b i w
theorem fa_63_9 (b i : Nat) (Z : List PanicEntry → World → Prop) (w : World) (kk : Value → World → Prop) : run1 Tryd.prog Z (Instr.fieldAt 63 (.pointer (some ⟨b, i, none⟩)) 9) w kk = kk (.pointer (some ⟨b, i + 9, none⟩)) w := r1_eq fun w => run_fieldAt of63_9 b i w
theorem fa_63_9p (b i : Nat) (kv : Value → Prop) : Pure1 Tryd.prog (Instr.fieldAt 63 (.pointer (some ⟨b, i, none⟩)) 9) kv = kv (.pointer (some ⟨b, i + 9, none⟩)) := rp_eq fun w => run_fieldAt of63_9 b i w
theorem fa_63_10 (b i : Nat) (Z : List PanicEntry → World → Prop) (w : World) (kk : Value → World → Prop) : run1 Tryd.prog Z (Instr.fieldAt 63 (.pointer (some ⟨b, i, none⟩)) 10) w kk = kk (.pointer (some ⟨b, i + 10, none⟩)) w := r1_eq fun w => run_fieldAt of63_10 b i w
theorem fa_63_10p (b i : Nat) (kv : Value → Prop) : Pure1 Tryd.prog (Instr.fieldAt 63 (.pointer (some ⟨b, i, none⟩)) 10) kv = kv (.pointer (some ⟨b, i + 10, none⟩)) := rp_eq fun w => run_fieldAt of63_10 b i w
theorem fa_63_11 (b i : Nat) (Z : List PanicEntry → World → Prop) (w : World) (kk : Value → World → Prop) : run1 Tryd.prog Z (Instr.fieldAt 63 (.pointer (some ⟨b, i, none⟩)) 11) w kk = kk (.pointer (some ⟨b, i + 11, none⟩)) w := r1_eq fun w => run_fieldAt of63_11 b i w
theorem fa_63_11p (b i : Nat) (kv : Value → Prop) : Pure1 Tryd.prog (Instr.fieldAt 63 (.pointer (some ⟨b, i, none⟩)) 11) kv = kv (.pointer (some ⟨b, i + 11, none⟩)) := rp_eq fun w => run_fieldAt of63_11 b i w
theorem fa_63_12 (b i : Nat) (Z : List PanicEntry → World → Prop) (w : World) (kk : Value → World → Prop) : run1 Tryd.prog Z (Instr.fieldAt 63 (.pointer (some ⟨b, i, none⟩)) 12) w kk = kk (.pointer (some ⟨b, i + 12, none⟩)) w := r1_eq fun w => run_fieldAt of63_12 b i w
theorem fa_63_12p (b i : Nat) (kv : Value → Prop) : Pure1 Tryd.prog (Instr.fieldAt 63 (.pointer (some ⟨b, i, none⟩)) 12) kv = kv (.pointer (some ⟨b, i + 12, none⟩)) := rp_eq fun w => run_fieldAt of63_12 b i w
theorem fa_63_13 (b i : Nat) (Z : List PanicEntry → World → Prop) (w : World) (kk : Value → World → Prop) : run1 Tryd.prog Z (Instr.fieldAt 63 (.pointer (some ⟨b, i, none⟩)) 13) w kk = kk (.pointer (some ⟨b, i + 13, none⟩)) w := r1_eq fun w => run_fieldAt of63_13 b i w
theorem fa_63_13p (b i : Nat) (kv : Value → Prop) : Pure1 Tryd.prog (Instr.fieldAt 63 (.pointer (some ⟨b, i, none⟩)) 13) kv = kv (.pointer (some ⟨b, i + 13, none⟩)) := rp_eq fun w => run_fieldAt of63_13 b i w
theorem fa_63_14 (b i : Nat) (Z : List PanicEntry → World → Prop) (w : World) (kk : Value → World → Prop) : run1 Tryd.prog Z (Instr.fieldAt 63 (.pointer (some ⟨b, i, none⟩)) 14) w kk = kk (.pointer (some ⟨b, i + 14, none⟩)) w := r1_eq fun w => run_fieldAt of63_14 b i w
theorem fa_63_14p (b i : Nat) (kv : Value → Prop) : Pure1 Tryd.prog (Instr.fieldAt 63 (.pointer (some ⟨b, i, none⟩)) 14) kv = kv (.pointer (some ⟨b, i + 14, none⟩)) := rp_eq fun w => run_fieldAt of63_14 b i w
theorem fa_63_15 (b i : Nat) (Z : List PanicEntry → World → Prop) (w : World) (kk : Value → World → Prop) : run1 Tryd.prog Z (Instr.fieldAt 63 (.pointer (some ⟨b, i, none⟩)) 15) w kk = kk (.pointer (some ⟨b, i + 15, none⟩)) w := r1_eq fun w => run_fieldAt of63_15 b i w
theorem fa_63_15p (b i : Nat) (kv : Value → Prop) : Pure1 Tryd.prog (Instr.fieldAt 63 (.pointer (some ⟨b, i, none⟩)) 15) kv = kv (.pointer (some ⟨b, i + 15, none⟩)) := rp_eq fun w => run_fieldAt of63_15 b i w
theorem fa_63_16 (b i : Nat) (Z : List PanicEntry → World → Prop) (w : World) (kk : Value → World → Prop) : run1 Tryd.prog Z (Instr.fieldAt 63 (.pointer (some ⟨b, i, none⟩)) 16) w kk = kk (.pointer (some ⟨b, i + 16, none⟩)) w := r1_eq fun w => run_fieldAt of63_16 b i w
theorem fa_63_16p (b i : Nat) (kv : Value → Prop) : Pure1 Tryd.prog (Instr.fieldAt 63 (.pointer (some ⟨b, i, none⟩)) 16) kv = kv (.pointer (some ⟨b, i + 16, none⟩)) := rp_eq fun w => run_fieldAt of63_16 b i w
theorem fa_63_17 (b i : Nat) (Z : List PanicEntry → World → Prop) (w : World) (kk : Value → World → Prop) : run1 Tryd.prog Z (Instr.fieldAt 63 (.pointer (some ⟨b, i, none⟩)) 17) w kk = kk (.pointer (some ⟨b, i + 17, none⟩)) w := r1_eq fun w => run_fieldAt of63_17 b i w
theorem fa_63_17p (b i : Nat) (kv : Value → Prop) : Pure1 Tryd.prog (Instr.fieldAt 63 (.pointer (some ⟨b, i, none⟩)) 17) kv = kv (.pointer (some ⟨b, i + 17, none⟩)) := rp_eq fun w => run_fieldAt of63_17 b i w
theorem fa_63_18 (b i : Nat) (Z : List PanicEntry → World → Prop) (w : World) (kk : Value → World → Prop) : run1 Tryd.prog Z (Instr.fieldAt 63 (.pointer (some ⟨b, i, none⟩)) 18) w kk = kk (.pointer (some ⟨b, i + 18, none⟩)) w := r1_eq fun w => run_fieldAt of63_18 b i w
theorem fa_63_18p (b i : Nat) (kv : Value → Prop) : Pure1 Tryd.prog (Instr.fieldAt 63 (.pointer (some ⟨b, i, none⟩)) 18) kv = kv (.pointer (some ⟨b, i + 18, none⟩)) := rp_eq fun w => run_fieldAt of63_18 b i w
theorem fa_63_19 (b i : Nat) (Z : List PanicEntry → World → Prop) (w : World) (kk : Value → World → Prop) : run1 Tryd.prog Z (Instr.fieldAt 63 (.pointer (some ⟨b, i, none⟩)) 19) w kk = kk (.pointer (some ⟨b, i + 19, none⟩)) w := r1_eq fun w => run_fieldAt of63_19 b i w
theorem fa_63_19p (b i : Nat) (kv : Value → Prop) : Pure1 Tryd.prog (Instr.fieldAt 63 (.pointer (some ⟨b, i, none⟩)) 19) kv = kv (.pointer (some ⟨b, i + 19, none⟩)) := rp_eq fun w => run_fieldAt of63_19 b i w
theorem fa_63_20 (b i : Nat) (Z : List PanicEntry → World → Prop) (w : World) (kk : Value → World → Prop) : run1 Tryd.prog Z (Instr.fieldAt 63 (.pointer (some ⟨b, i, none⟩)) 20) w kk = kk (.pointer (some ⟨b, i + 20, none⟩)) w := r1_eq fun w => run_fieldAt of63_20 b i w
theorem fa_63_20p (b i : Nat) (kv : Value → Prop) : Pure1 Tryd.prog (Instr.fieldAt 63 (.pointer (some ⟨b, i, none⟩)) 20) kv = kv (.pointer (some ⟨b, i + 20, none⟩)) := rp_eq fun w => run_fieldAt of63_20 b i w
theorem cv_21_102 (q : IntKind) (n : Int) (Z : List PanicEntry → World → Prop) (w : World) (kk : Value → World → Prop) : run1 Tryd.prog Z (convert 21 102 (.int q n)) w kk = kk (.int .u64 (IntKind.u64.wrap n)) w := r1_eq fun w => run_conv_int (by kernel_rfl) it102 q n w
theorem cv_21_102p (q : IntKind) (n : Int) (kv : Value → Prop) : Pure1 Tryd.prog (convert 21 102 (.int q n)) kv = kv (.int .u64 (IntKind.u64.wrap n)) := rp_eq fun w => run_conv_int (by kernel_rfl) it102 q n w
theorem cv_102_21 (q : IntKind) (n : Int) (Z : List PanicEntry → World → Prop) (w : World) (kk : Value → World → Prop) : run1 Tryd.prog Z (convert 102 21 (.int q n)) w kk = kk (.int .i32 (IntKind.i32.wrap n)) w := r1_eq fun w => run_conv_int (by kernel_rfl) it21 q n w
theorem cv_102_21p (q : IntKind) (n : Int) (kv : Value → Prop) : Pure1 Tryd.prog (convert 102 21 (.int q n)) kv = kv (.int .i32 (IntKind.i32.wrap n)) := rp_eq fun w => run_conv_int (by kernel_rfl) it21 q n w
theorem cv_5_71 (q : IntKind) (n : Int) (Z : List PanicEntry → World → Prop) (w : World) (kk : Value → World → Prop) : run1 Tryd.prog Z (convert 5 71 (.int q n)) w kk = kk (.int .u32 (IntKind.u32.wrap n)) w := r1_eq fun w => run_conv_int (by kernel_rfl) it71 q n w
theorem cv_5_71p (q : IntKind) (n : Int) (kv : Value → Prop) : Pure1 Tryd.prog (convert 5 71 (.int q n)) kv = kv (.int .u32 (IntKind.u32.wrap n)) := rp_eq fun w => run_conv_int (by kernel_rfl) it71 q n w
theorem eqlp_66 (cx cy : Bool) (a : Addr) (Z : List PanicEntry → World → Prop) (w : World) (kk : Value → World → Prop) : run1 Tryd.prog Z (eqOp .eql 66 cx cy (.pointer (some a)) (.pointer none)) w kk = kk (.bool false) w := r1_eq fun w => run_eql_ptr_nil pt66 cx cy a w
theorem eqlp_66p (cx cy : Bool) (a : Addr) (kv : Value → Prop) : Pure1 Tryd.prog (eqOp .eql 66 cx cy (.pointer (some a)) (.pointer none)) kv = kv (.bool false) := rp_eq fun w => run_eql_ptr_nil pt66 cx cy a w
theorem eqln_66 (cx cy : Bool) (Z : List PanicEntry → World → Prop) (w : World) (kk : Value → World → Prop) : run1 Tryd.prog Z (eqOp .eql 66 cx cy (.pointer none) (.pointer none)) w kk = kk (.bool true) w := r1_eq fun w => run_eqlNN pt66 cx cy w
theorem eqln_66p (cx cy : Bool) (kv : Value → Prop) : Pure1 Tryd.prog (eqOp .eql 66 cx cy (.pointer none) (.pointer none)) kv = kv (.bool true) := rp_eq fun w => run_eqlNN pt66 cx cy w
theorem fa_68_0 (b i : Nat) (Z : List PanicEntry → World → Prop) (w : World) (kk : Value → World → Prop) : run1 Tryd.prog Z (Instr.fieldAt 68 (.pointer (some ⟨b, i, none⟩)) 0) w kk = kk (.pointer (some ⟨b, i + 0, none⟩)) w := r1_eq fun w => run_fieldAt of68_0 b i w
theorem fa_68_0p (b i : Nat) (kv : Value → Prop) : Pure1 Tryd.prog (Instr.fieldAt 68 (.pointer (some ⟨b, i, none⟩)) 0) kv = kv (.pointer (some ⟨b, i + 0, none⟩)) := rp_eq fun w => run_fieldAt of68_0 b i w
theorem cv_102_2 (q : IntKind) (n : Int) (Z : List PanicEntry → World → Prop) (w : World) (kk : Value → World → Prop) : run1 Tryd.prog Z (convert 102 2 (.int q n)) w kk = kk (.int .i64 (IntKind.i64.wrap n)) w := r1_eq fun w => run_conv_int (by kernel_rfl) it2 q n w
theorem cv_102_2p (q : IntKind) (n : Int) (kv : Value → Prop) : Pure1 Tryd.prog (convert 102 2 (.int q n)) kv = kv (.int .i64 (IntKind.i64.wrap n)) := rp_eq fun w => run_conv_int (by kernel_rfl) it2 q n w
theorem cv_2_21 (q : IntKind) (n : Int) (Z : List PanicEntry → World → Prop) (w : World) (kk : Value → World → Prop) : run1 Tryd.prog Z (convert 2 21 (.int q n)) w kk = kk (.int .i32 (IntKind.i32.wrap n)) w := r1_eq fun w => run_conv_int (by kernel_rfl) it21 q n w
theorem cv_2_21p (q : IntKind) (n : Int) (kv : Value → Prop) : Pure1 Tryd.prog (convert 2 21 (.int q n)) kv = kv (.int .i32 (IntKind.i32.wrap n)) := rp_eq fun w => run_conv_int (by kernel_rfl) it21 q n w
theorem fa_76_0 (b i : Nat) (Z : List PanicEntry → World → Prop) (w : World) (kk : Value → World → Prop) : run1 Tryd.prog Z (Instr.fieldAt 76 (.pointer (some ⟨b, i, none⟩)) 0) w kk = kk (.pointer (some ⟨b, i + 0, none⟩)) w := r1_eq fun w => run_fieldAt of76_0 b i w
theorem fa_76_0p (b i : Nat) (kv : Value → Prop) : Pure1 Tryd.prog (Instr.fieldAt 76 (.pointer (some ⟨b, i, none⟩)) 0) kv = kv (.pointer (some ⟨b, i + 0, none⟩)) := rp_eq fun w => run_fieldAt of76_0 b i w
theorem ln_41_3 (a : Option Addr) (n c : Nat) (Z : List PanicEntry → World → Prop) (w : World) (kk : Value → World → Prop) : run1 Tryd.prog Z (Builtin.len_ #[41] 3 #[.slice a n c]) w kk = kk (.int .i64 n) w := r1_eq fun w => run_lenS sl41 _ rfl _ a n c w
theorem ln_41_3p (a : Option Addr) (n c : Nat) (kv : Value → Prop) : Pure1 Tryd.prog (Builtin.len_ #[41] 3 #[.slice a n c]) kv = kv (.int .i64 n) := rp_eq fun w => run_lenS sl41 _ rfl _ a n c w
theorem cv_3_5 (q : IntKind) (n : Int) (Z : List PanicEntry → World → Prop) (w : World) (kk : Value → World → Prop) : run1 Tryd.prog Z (convert 3 5 (.int q n)) w kk = kk (.int .u8 (IntKind.u8.wrap n)) w := r1_eq fun w => run_conv_int (by kernel_rfl) it5 q n w
theorem cv_3_5p (q : IntKind) (n : Int) (kv : Value → Prop) : Pure1 Tryd.prog (convert 3 5 (.int q n)) kv = kv (.int .u8 (IntKind.u8.wrap n)) := rp_eq fun w => run_conv_int (by kernel_rfl) it5 q n w
theorem ln_42_3 (a : Option Addr) (n c : Nat) (Z : List PanicEntry → World → Prop) (w : World) (kk : Value → World → Prop) : run1 Tryd.prog Z (Builtin.len_ #[42] 3 #[.slice a n c]) w kk = kk (.int .i64 n) w := r1_eq fun w => run_lenS sl42 _ rfl _ a n c w
theorem ln_42_3p (a : Option Addr) (n c : Nat) (kv : Value → Prop) : Pure1 Tryd.prog (Builtin.len_ #[42] 3 #[.slice a n c]) kv = kv (.int .i64 n) := rp_eq fun w => run_lenS sl42 _ rfl _ a n c w
theorem ln_108_3 (a : Option Addr) (n c : Nat) (Z : List PanicEntry → World → Prop) (w : World) (kk : Value → World → Prop) : run1 Tryd.prog Z (Builtin.len_ #[108] 3 #[.slice a n c]) w kk = kk (.int .i64 n) w := r1_eq fun w => run_lenS sl108 _ rfl _ a n c w
theorem ln_108_3p (a : Option Addr) (n c : Nat) (kv : Value → Prop) : Pure1 Tryd.prog (Builtin.len_ #[108] 3 #[.slice a n c]) kv = kv (.int .i64 n) := rp_eq fun w => run_lenS sl108 _ rfl _ a n c w
theorem ln_44_3 (a : Option Addr) (n c : Nat) (Z : List PanicEntry → World → Prop) (w : World) (kk : Value → World → Prop) : run1 Tryd.prog Z (Builtin.len_ #[44] 3 #[.slice a n c]) w kk = kk (.int .i64 n) w := r1_eq fun w => run_lenS sl44 _ rfl _ a n c w
theorem ln_44_3p (a : Option Addr) (n c : Nat) (kv : Value → Prop) : Pure1 Tryd.prog (Builtin.len_ #[44] 3 #[.slice a n c]) kv = kv (.int .i64 n) := rp_eq fun w => run_lenS sl44 _ rfl _ a n c w
theorem ln_45_3 (a : Option Addr) (n c : Nat) (Z : List PanicEntry → World → Prop) (w : World) (kk : Value → World → Prop) : run1 Tryd.prog Z (Builtin.len_ #[45] 3 #[.slice a n c]) w kk = kk (.int .i64 n) w := r1_eq fun w => run_lenS sl45 _ rfl _ a n c w
theorem ln_45_3p (a : Option Addr) (n c : Nat) (kv : Value → Prop) : Pure1 Tryd.prog (Builtin.len_ #[45] 3 #[.slice a n c]) kv = kv (.int .i64 n) := rp_eq fun w => run_lenS sl45 _ rfl _ a n c w
theorem ln_112_3 (a : Option Addr) (n c : Nat) (Z : List PanicEntry → World → Prop) (w : World) (kk : Value → World → Prop) : run1 Tryd.prog Z (Builtin.len_ #[112] 3 #[.slice a n c]) w kk = kk (.int .i64 n) w := r1_eq fun w => run_lenS sl112 _ rfl _ a n c w
theorem ln_112_3p (a : Option Addr) (n c : Nat) (kv : Value → Prop) : Pure1 Tryd.prog (Builtin.len_ #[112] 3 #[.slice a n c]) kv = kv (.int .i64 n) := rp_eq fun w => run_lenS sl112 _ rfl _ a n c w
theorem ln_46_3 (a : Option Addr) (n c : Nat) (Z : List PanicEntry → World → Prop) (w : World) (kk : Value → World → Prop) : run1 Tryd.prog Z (Builtin.len_ #[46] 3 #[.slice a n c]) w kk = kk (.int .i64 n) w := r1_eq fun w => run_lenS sl46 _ rfl _ a n c w
theorem ln_46_3p (a : Option Addr) (n c : Nat) (kv : Value → Prop) : Pure1 Tryd.prog (Builtin.len_ #[46] 3 #[.slice a n c]) kv = kv (.int .i64 n) := rp_eq fun w => run_lenS sl46 _ rfl _ a n c w
theorem ln_116_3 (a : Option Addr) (n c : Nat) (Z : List PanicEntry → World → Prop) (w : World) (kk : Value → World → Prop) : run1 Tryd.prog Z (Builtin.len_ #[116] 3 #[.slice a n c]) w kk = kk (.int .i64 n) w := r1_eq fun w => run_lenS sl116 _ rfl _ a n c w
theorem ln_116_3p (a : Option Addr) (n c : Nat) (kv : Value → Prop) : Pure1 Tryd.prog (Builtin.len_ #[116] 3 #[.slice a n c]) kv = kv (.int .i64 n) := rp_eq fun w => run_lenS sl116 _ rfl _ a n c w
theorem ln_47_3 (a : Option Addr) (n c : Nat) (Z : List PanicEntry → World → Prop) (w : World) (kk : Value → World → Prop) : run1 Tryd.prog Z (Builtin.len_ #[47] 3 #[.slice a n c]) w kk = kk (.int .i64 n) w := r1_eq fun w => run_lenS sl47 _ rfl _ a n c w
theorem ln_47_3p (a : Option Addr) (n c : Nat) (kv : Value → Prop) : Pure1 Tryd.prog (Builtin.len_ #[47] 3 #[.slice a n c]) kv = kv (.int .i64 n) := rp_eq fun w => run_lenS sl47 _ rfl _ a n c w
theorem ln_121_3 (a : Option Addr) (n c : Nat) (Z : List PanicEntry → World → Prop) (w : World) (kk : Value → World → Prop) : run1 Tryd.prog Z (Builtin.len_ #[121] 3 #[.slice a n c]) w kk = kk (.int .i64 n) w := r1_eq fun w => run_lenS sl121 _ rfl _ a n c w
theorem ln_121_3p (a : Option Addr) (n c : Nat) (kv : Value → Prop) : Pure1 Tryd.prog (Builtin.len_ #[121] 3 #[.slice a n c]) kv = kv (.int .i64 n) := rp_eq fun w => run_lenS sl121 _ rfl _ a n c w
theorem ln_48_3 (a : Option Addr) (n c : Nat) (Z : List PanicEntry → World → Prop) (w : World) (kk : Value → World → Prop) : run1 Tryd.prog Z (Builtin.len_ #[48] 3 #[.slice a n c]) w kk = kk (.int .i64 n) w := r1_eq fun w => run_lenS sl48 _ rfl _ a n c w
theorem ln_48_3p (a : Option Addr) (n c : Nat) (kv : Value → Prop) : Pure1 Tryd.prog (Builtin.len_ #[48] 3 #[.slice a n c]) kv = kv (.int .i64 n) := rp_eq fun w => run_lenS sl48 _ rfl _ a n c w
theorem ln_125_3 (a : Option Addr) (n c : Nat) (Z : List PanicEntry → World → Prop) (w : World) (kk : Value → World → Prop) : run1 Tryd.prog Z (Builtin.len_ #[125] 3 #[.slice a n c]) w kk = kk (.int .i64 n) w := r1_eq fun w => run_lenS sl125 _ rfl _ a n c w
theorem ln_125_3p (a : Option Addr) (n c : Nat) (kv : Value → Prop) : Pure1 Tryd.prog (Builtin.len_ #[125] 3 #[.slice a n c]) kv = kv (.int .i64 n) := rp_eq fun w => run_lenS sl125 _ rfl _ a n c w
theorem ln_49_3 (a : Option Addr) (n c : Nat) (Z : List PanicEntry → World → Prop) (w : World) (kk : Value → World → Prop) : run1 Tryd.prog Z (Builtin.len_ #[49] 3 #[.slice a n c]) w kk = kk (.int .i64 n) w := r1_eq fun w => run_lenS sl49 _ rfl _ a n c w
theorem ln_49_3p (a : Option Addr) (n c : Nat) (kv : Value → Prop) : Pure1 Tryd.prog (Builtin.len_ #[49] 3 #[.slice a n c]) kv = kv (.int .i64 n) := rp_eq fun w => run_lenS sl49 _ rfl _ a n c w
theorem ln_133_3 (a : Option Addr) (n c : Nat) (Z : List PanicEntry → World → Prop) (w : World) (kk : Value → World → Prop) : run1 Tryd.prog Z (Builtin.len_ #[133] 3 #[.slice a n c]) w kk = kk (.int .i64 n) w := r1_eq fun w => run_lenS sl133 _ rfl _ a n c w
theorem ln_133_3p (a : Option Addr) (n c : Nat) (kv : Value → Prop) : Pure1 Tryd.prog (Builtin.len_ #[133] 3 #[.slice a n c]) kv = kv (.int .i64 n) := rp_eq fun w => run_lenS sl133 _ rfl _ a n c w
theorem ln_50_3 (a : Option Addr) (n c : Nat) (Z : List PanicEntry → World → Prop) (w : World) (kk : Value → World → Prop) : run1 Tryd.prog Z (Builtin.len_ #[50] 3 #[.slice a n c]) w kk = kk (.int .i64 n) w := r1_eq fun w => run_lenS sl50 _ rfl _ a n c w
theorem ln_50_3p (a : Option Addr) (n c : Nat) (kv : Value → Prop) : Pure1 Tryd.prog (Builtin.len_ #[50] 3 #[.slice a n c]) kv = kv (.int .i64 n) := rp_eq fun w => run_lenS sl50 _ rfl _ a n c w
theorem ln_139_3 (a : Option Addr) (n c : Nat) (Z : List PanicEntry → World → Prop) (w : World) (kk : Value → World → Prop) : run1 Tryd.prog Z (Builtin.len_ #[139] 3 #[.slice a n c]) w kk = kk (.int .i64 n) w := r1_eq fun w => run_lenS sl139 _ rfl _ a n c w
theorem ln_139_3p (a : Option Addr) (n c : Nat) (kv : Value → Prop) : Pure1 Tryd.prog (Builtin.len_ #[139] 3 #[.slice a n c]) kv = kv (.int .i64 n) := rp_eq fun w => run_lenS sl139 _ rfl _ a n c w
theorem ln_51_3 (a : Option Addr) (n c : Nat) (Z : List PanicEntry → World → Prop) (w : World) (kk : Value → World → Prop) : run1 Tryd.prog Z (Builtin.len_ #[51] 3 #[.slice a n c]) w kk = kk (.int .i64 n) w := r1_eq fun w => run_lenS sl51 _ rfl _ a n c w
theorem ln_51_3p (a : Option Addr) (n c : Nat) (kv : Value → Prop) : Pure1 Tryd.prog (Builtin.len_ #[51] 3 #[.slice a n c]) kv = kv (.int .i64 n) := rp_eq fun w => run_lenS sl51 _ rfl _ a n c w
theorem ln_143_3 (a : Option Addr) (n c : Nat) (Z : List PanicEntry → World → Prop) (w : World) (kk : Value → World → Prop) : run1 Tryd.prog Z (Builtin.len_ #[143] 3 #[.slice a n c]) w kk = kk (.int .i64 n) w := r1_eq fun w => run_lenS sl143 _ rfl _ a n c w
theorem ln_143_3p (a : Option Addr) (n c : Nat) (kv : Value → Prop) : Pure1 Tryd.prog (Builtin.len_ #[143] 3 #[.slice a n c]) kv = kv (.int .i64 n) := rp_eq fun w => run_lenS sl143 _ rfl _ a n c w
theorem ln_52_3 (a : Option Addr) (n c : Nat) (Z : List PanicEntry → World → Prop) (w : World) (kk : Value → World → Prop) : run1 Tryd.prog Z (Builtin.len_ #[52] 3 #[.slice a n c]) w kk = kk (.int .i64 n) w := r1_eq fun w => run_lenS sl52 _ rfl _ a n c w
theorem ln_52_3p (a : Option Addr) (n c : Nat) (kv : Value → Prop) : Pure1 Tryd.prog (Builtin.len_ #[52] 3 #[.slice a n c]) kv = kv (.int .i64 n) := rp_eq fun w => run_lenS sl52 _ rfl _ a n c w
theorem ln_147_3 (a : Option Addr) (n c : Nat) (Z : List PanicEntry → World → Prop) (w : World) (kk : Value → World → Prop) : run1 Tryd.prog Z (Builtin.len_ #[147] 3 #[.slice a n c]) w kk = kk (.int .i64 n) w := r1_eq fun w => run_lenS sl147 _ rfl _ a n c w
theorem ln_147_3p (a : Option Addr) (n c : Nat) (kv : Value → Prop) : Pure1 Tryd.prog (Builtin.len_ #[147] 3 #[.slice a n c]) kv = kv (.int .i64 n) := rp_eq fun w => run_lenS sl147 _ rfl _ a n c w
theorem ln_53_3 (a : Option Addr) (n c : Nat) (Z : List PanicEntry → World → Prop) (w : World) (kk : Value → World → Prop) : run1 Tryd.prog Z (Builtin.len_ #[53] 3 #[.slice a n c]) w kk = kk (.int .i64 n) w := r1_eq fun w => run_lenS sl53 _ rfl _ a n c w
theorem ln_53_3p (a : Option Addr) (n c : Nat) (kv : Value → Prop) : Pure1 Tryd.prog (Builtin.len_ #[53] 3 #[.slice a n c]) kv = kv (.int .i64 n) := rp_eq fun w => run_lenS sl53 _ rfl _ a n c w
theorem ln_151_3 (a : Option Addr) (n c : Nat) (Z : List PanicEntry → World → Prop) (w : World) (kk : Value → World → Prop) : run1 Tryd.prog Z (Builtin.len_ #[151] 3 #[.slice a n c]) w kk = kk (.int .i64 n) w := r1_eq fun w => run_lenS sl151 _ rfl _ a n c w
theorem ln_151_3p (a : Option Addr) (n c : Nat) (kv : Value → Prop) : Pure1 Tryd.prog (Builtin.len_ #[151] 3 #[.slice a n c]) kv = kv (.int .i64 n) := rp_eq fun w => run_lenS sl151 _ rfl _ a n c w
theorem ln_54_3 (a : Option Addr) (n c : Nat) (Z : List PanicEntry → World → Prop) (w : World) (kk : Value → World → Prop) : run1 Tryd.prog Z (Builtin.len_ #[54] 3 #[.slice a n c]) w kk = kk (.int .i64 n) w := r1_eq fun w => run_lenS sl54 _ rfl _ a n c w
theorem ln_54_3p (a : Option Addr) (n c : Nat) (kv : Value → Prop) : Pure1 Tryd.prog (Builtin.len_ #[54] 3 #[.slice a n c]) kv = kv (.int .i64 n) := rp_eq fun w => run_lenS sl54 _ rfl _ a n c w
theorem ln_155_3 (a : Option Addr) (n c : Nat) (Z : List PanicEntry → World → Prop) (w : World) (kk : Value → World → Prop) : run1 Tryd.prog Z (Builtin.len_ #[155] 3 #[.slice a n c]) w kk = kk (.int .i64 n) w := r1_eq fun w => run_lenS sl155 _ rfl _ a n c w
theorem ln_155_3p (a : Option Addr) (n c : Nat) (kv : Value → Prop) : Pure1 Tryd.prog (Builtin.len_ #[155] 3 #[.slice a n c]) kv = kv (.int .i64 n) := rp_eq fun w => run_lenS sl155 _ rfl _ a n c w
theorem ln_55_3 (a : Option Addr) (n c : Nat) (Z : List PanicEntry → World → Prop) (w : World) (kk : Value → World → Prop) : run1 Tryd.prog Z (Builtin.len_ #[55] 3 #[.slice a n c]) w kk = kk (.int .i64 n) w := r1_eq fun w => run_lenS sl55 _ rfl _ a n c w
theorem ln_55_3p (a : Option Addr) (n c : Nat) (kv : Value → Prop) : Pure1 Tryd.prog (Builtin.len_ #[55] 3 #[.slice a n c]) kv = kv (.int .i64 n) := rp_eq fun w => run_lenS sl55 _ rfl _ a n c w
theorem ln_161_3 (a : Option Addr) (n c : Nat) (Z : List PanicEntry → World → Prop) (w : World) (kk : Value → World → Prop) : run1 Tryd.prog Z (Builtin.len_ #[161] 3 #[.slice a n c]) w kk = kk (.int .i64 n) w := r1_eq fun w => run_lenS sl161 _ rfl _ a n c w
theorem ln_161_3p (a : Option Addr) (n c : Nat) (kv : Value → Prop) : Pure1 Tryd.prog (Builtin.len_ #[161] 3 #[.slice a n c]) kv = kv (.int .i64 n) := rp_eq fun w => run_lenS sl161 _ rfl _ a n c w
theorem ln_56_3 (a : Option Addr) (n c : Nat) (Z : List PanicEntry → World → Prop) (w : World) (kk : Value → World → Prop) : run1 Tryd.prog Z (Builtin.len_ #[56] 3 #[.slice a n c]) w kk = kk (.int .i64 n) w := r1_eq fun w => run_lenS sl56 _ rfl _ a n c w
theorem ln_56_3p (a : Option Addr) (n c : Nat) (kv : Value → Prop) : Pure1 Tryd.prog (Builtin.len_ #[56] 3 #[.slice a n c]) kv = kv (.int .i64 n) := rp_eq fun w => run_lenS sl56 _ rfl _ a n c w
theorem ln_165_3 (a : Option Addr) (n c : Nat) (Z : List PanicEntry → World → Prop) (w : World) (kk : Value → World → Prop) : run1 Tryd.prog Z (Builtin.len_ #[165] 3 #[.slice a n c]) w kk = kk (.int .i64 n) w := r1_eq fun w => run_lenS sl165 _ rfl _ a n c w
theorem ln_165_3p (a : Option Addr) (n c : Nat) (kv : Value → Prop) : Pure1 Tryd.prog (Builtin.len_ #[165] 3 #[.slice a n c]) kv = kv (.int .i64 n) := rp_eq fun w => run_lenS sl165 _ rfl _ a n c w
theorem ln_57_3 (a : Option Addr) (n c : Nat) (Z : List PanicEntry → World → Prop) (w : World) (kk : Value → World → Prop) : run1 Tryd.prog Z (Builtin.len_ #[57] 3 #[.slice a n c]) w kk = kk (.int .i64 n) w := r1_eq fun w => run_lenS sl57 _ rfl _ a n c w
theorem ln_57_3p (a : Option Addr) (n c : Nat) (kv : Value → Prop) : Pure1 Tryd.prog (Builtin.len_ #[57] 3 #[.slice a n c]) kv = kv (.int .i64 n) := rp_eq fun w => run_lenS sl57 _ rfl _ a n c w
theorem ln_169_3 (a : Option Addr) (n c : Nat) (Z : List PanicEntry → World → Prop) (w : World) (kk : Value → World → Prop) : run1 Tryd.prog Z (Builtin.len_ #[169] 3 #[.slice a n c]) w kk = kk (.int .i64 n) w := r1_eq fun w => run_lenS sl169 _ rfl _ a n c w
theorem ln_169_3p (a : Option Addr) (n c : Nat) (kv : Value → Prop) : Pure1 Tryd.prog (Builtin.len_ #[169] 3 #[.slice a n c]) kv = kv (.int .i64 n) := rp_eq fun w => run_lenS sl169 _ rfl _ a n c w
theorem ln_58_3 (a : Option Addr) (n c : Nat) (Z : List PanicEntry → World → Prop) (w : World) (kk : Value → World → Prop) : run1 Tryd.prog Z (Builtin.len_ #[58] 3 #[.slice a n c]) w kk = kk (.int .i64 n) w := r1_eq fun w => run_lenS sl58 _ rfl _ a n c w
theorem ln_58_3p (a : Option Addr) (n c : Nat) (kv : Value → Prop) : Pure1 Tryd.prog (Builtin.len_ #[58] 3 #[.slice a n c]) kv = kv (.int .i64 n) := rp_eq fun w => run_lenS sl58 _ rfl _ a n c w
theorem ln_173_3 (a : Option Addr) (n c : Nat) (Z : List PanicEntry → World → Prop) (w : World) (kk : Value → World → Prop) : run1 Tryd.prog Z (Builtin.len_ #[173] 3 #[.slice a n c]) w kk = kk (.int .i64 n) w := r1_eq fun w => run_lenS sl173 _ rfl _ a n c w
theorem ln_173_3p (a : Option Addr) (n c : Nat) (kv : Value → Prop) : Pure1 Tryd.prog (Builtin.len_ #[173] 3 #[.slice a n c]) kv = kv (.int .i64 n) := rp_eq fun w => run_lenS sl173 _ rfl _ a n c w
theorem ln_59_3 (a : Option Addr) (n c : Nat) (Z : List PanicEntry → World → Prop) (w : World) (kk : Value → World → Prop) : run1 Tryd.prog Z (Builtin.len_ #[59] 3 #[.slice a n c]) w kk = kk (.int .i64 n) w := r1_eq fun w => run_lenS sl59 _ rfl _ a n c w
theorem ln_59_3p (a : Option Addr) (n c : Nat) (kv : Value → Prop) : Pure1 Tryd.prog (Builtin.len_ #[59] 3 #[.slice a n c]) kv = kv (.int .i64 n) := rp_eq fun w => run_lenS sl59 _ rfl _ a n c w
theorem ln_177_3 (a : Option Addr) (n c : Nat) (Z : List PanicEntry → World → Prop) (w : World) (kk : Value → World → Prop) : run1 Tryd.prog Z (Builtin.len_ #[177] 3 #[.slice a n c]) w kk = kk (.int .i64 n) w := r1_eq fun w => run_lenS sl177 _ rfl _ a n c w
theorem ln_177_3p (a : Option Addr) (n c : Nat) (kv : Value → Prop) : Pure1 Tryd.prog (Builtin.len_ #[177] 3 #[.slice a n c]) kv = kv (.int .i64 n) := rp_eq fun w => run_lenS sl177 _ rfl _ a n c w
theorem ln_60_3 (a : Option Addr) (n c : Nat) (Z : List PanicEntry → World → Prop) (w : World) (kk : Value → World → Prop) : run1 Tryd.prog Z (Builtin.len_ #[60] 3 #[.slice a n c]) w kk = kk (.int .i64 n) w := r1_eq fun w => run_lenS sl60 _ rfl _ a n c w
theorem ln_60_3p (a : Option Addr) (n c : Nat) (kv : Value → Prop) : Pure1 Tryd.prog (Builtin.len_ #[60] 3 #[.slice a n c]) kv = kv (.int .i64 n) := rp_eq fun w => run_lenS sl60 _ rfl _ a n c w
theorem ln_181_3 (a : Option Addr) (n c : Nat) (Z : List PanicEntry → World → Prop) (w : World) (kk : Value → World → Prop) : run1 Tryd.prog Z (Builtin.len_ #[181] 3 #[.slice a n c]) w kk = kk (.int .i64 n) w := r1_eq fun w => run_lenS sl181 _ rfl _ a n c w
theorem ln_181_3p (a : Option Addr) (n c : Nat) (kv : Value → Prop) : Pure1 Tryd.prog (Builtin.len_ #[181] 3 #[.slice a n c]) kv = kv (.int .i64 n) := rp_eq fun w => run_lenS sl181 _ rfl _ a n c w
theorem ln_61_3 (a : Option Addr) (n c : Nat) (Z : List PanicEntry → World → Prop) (w : World) (kk : Value → World → Prop) : run1 Tryd.prog Z (Builtin.len_ #[61] 3 #[.slice a n c]) w kk = kk (.int .i64 n) w := r1_eq fun w => run_lenS sl61 _ rfl _ a n c w
theorem ln_61_3p (a : Option Addr) (n c : Nat) (kv : Value → Prop) : Pure1 Tryd.prog (Builtin.len_ #[61] 3 #[.slice a n c]) kv = kv (.int .i64 n) := rp_eq fun w => run_lenS sl61 _ rfl _ a n c w
theorem cv_102_5 (q : IntKind) (n : Int) (Z : List PanicEntry → World → Prop) (w : World) (kk : Value → World → Prop) : run1 Tryd.prog Z (convert 102 5 (.int q n)) w kk = kk (.int .u8 (IntKind.u8.wrap n)) w := r1_eq fun w => run_conv_int (by kernel_rfl) it5 q n w
theorem cv_102_5p (q : IntKind) (n : Int) (kv : Value → Prop) : Pure1 Tryd.prog (convert 102 5 (.int q n)) kv = kv (.int .u8 (IntKind.u8.wrap n)) := rp_eq fun w => run_conv_int (by kernel_rfl) it5 q n w
theorem cv_5_102 (q : IntKind) (n : Int) (Z : List PanicEntry → World → Prop) (w : World) (kk : Value → World → Prop) : run1 Tryd.prog Z (convert 5 102 (.int q n)) w kk = kk (.int .u64 (IntKind.u64.wrap n)) w := r1_eq fun w => run_conv_int (by kernel_rfl) it102 q n w
theorem cv_5_102p (q : IntKind) (n : Int) (kv : Value → Prop) : Pure1 Tryd.prog (convert 5 102 (.int q n)) kv = kv (.int .u64 (IntKind.u64.wrap n)) := rp_eq fun w => run_conv_int (by kernel_rfl) it102 q n w
theorem fa_114_1 (b i : Nat) (Z : List PanicEntry → World → Prop) (w : World) (kk : Value → World → Prop) : run1 Tryd.prog Z (Instr.fieldAt 114 (.pointer (some ⟨b, i, none⟩)) 1) w kk = kk (.pointer (some ⟨b, i + 1, none⟩)) w := r1_eq fun w => run_fieldAt of114_1 b i w
theorem fa_114_1p (b i : Nat) (kv : Value → Prop) : Pure1 Tryd.prog (Instr.fieldAt 114 (.pointer (some ⟨b, i, none⟩)) 1) kv = kv (.pointer (some ⟨b, i + 1, none⟩)) := rp_eq fun w => run_fieldAt of114_1 b i w
theorem fa_119_1 (b i : Nat) (Z : List PanicEntry → World → Prop) (w : World) (kk : Value → World → Prop) : run1 Tryd.prog Z (Instr.fieldAt 119 (.pointer (some ⟨b, i, none⟩)) 1) w kk = kk (.pointer (some ⟨b, i + 1, none⟩)) w := r1_eq fun w => run_fieldAt of119_1 b i w
theorem fa_119_1p (b i : Nat) (kv : Value → Prop) : Pure1 Tryd.prog (Instr.fieldAt 119 (.pointer (some ⟨b, i, none⟩)) 1) kv = kv (.pointer (some ⟨b, i + 1, none⟩)) := rp_eq fun w => run_fieldAt of119_1 b i w
theorem fa_123_7 (b i : Nat) (Z : List PanicEntry → World → Prop) (w : World) (kk : Value → World → Prop) : run1 Tryd.prog Z (Instr.fieldAt 123 (.pointer (some ⟨b, i, none⟩)) 7) w kk = kk (.pointer (some ⟨b, i + 7, none⟩)) w := r1_eq fun w => run_fieldAt of123_7 b i w
theorem fa_123_7p (b i : Nat) (kv : Value → Prop) : Pure1 Tryd.prog (Instr.fieldAt 123 (.pointer (some ⟨b, i, none⟩)) 7) kv = kv (.pointer (some ⟨b, i + 7, none⟩)) := rp_eq fun w => run_fieldAt of123_7 b i w
theorem fa_131_1 (b i : Nat) (Z : List PanicEntry → World → Prop) (w : World) (kk : Value → World → Prop) : run1 Tryd.prog Z (Instr.fieldAt 131 (.pointer (some ⟨b, i, none⟩)) 1) w kk = kk (.pointer (some ⟨b, i + 2, none⟩)) w := r1_eq fun w => run_fieldAt of131_1 b i w
theorem fa_131_1p (b i : Nat) (kv : Value → Prop) : Pure1 Tryd.prog (Instr.fieldAt 131 (.pointer (some ⟨b, i, none⟩)) 1) kv = kv (.pointer (some ⟨b, i + 2, none⟩)) := rp_eq fun w => run_fieldAt of131_1 b i w
theorem fa_127_2 (b i : Nat) (Z : List PanicEntry → World → Prop) (w : World) (kk : Value → World → Prop) : run1 Tryd.prog Z (Instr.fieldAt 127 (.pointer (some ⟨b, i, none⟩)) 2) w kk = kk (.pointer (some ⟨b, i + 2, none⟩)) w := r1_eq fun w => run_fieldAt of127_2 b i w
theorem fa_127_2p (b i : Nat) (kv : Value → Prop) : Pure1 Tryd.prog (Instr.fieldAt 127 (.pointer (some ⟨b, i, none⟩)) 2) kv = kv (.pointer (some ⟨b, i + 2, none⟩)) := rp_eq fun w => run_fieldAt of127_2 b i w
theorem fa_137_6 (b i : Nat) (Z : List PanicEntry → World → Prop) (w : World) (kk : Value → World → Prop) : run1 Tryd.prog Z (Instr.fieldAt 137 (.pointer (some ⟨b, i, none⟩)) 6) w kk = kk (.pointer (some ⟨b, i + 17, none⟩)) w := r1_eq fun w => run_fieldAt of137_6 b i w
theorem fa_137_6p (b i : Nat) (kv : Value → Prop) : Pure1 Tryd.prog (Instr.fieldAt 137 (.pointer (some ⟨b, i, none⟩)) 6) kv = kv (.pointer (some ⟨b, i + 17, none⟩)) := rp_eq fun w => run_fieldAt of137_6 b i w
theorem fa_141_0 (b i : Nat) (Z : List PanicEntry → World → Prop) (w : World) (kk : Value → World → Prop) : run1 Tryd.prog Z (Instr.fieldAt 141 (.pointer (some ⟨b, i, none⟩)) 0) w kk = kk (.pointer (some ⟨b, i + 0, none⟩)) w := r1_eq fun w => run_fieldAt of141_0 b i w
theorem fa_141_0p (b i : Nat) (kv : Value → Prop) : Pure1 Tryd.prog (Instr.fieldAt 141 (.pointer (some ⟨b, i, none⟩)) 0) kv = kv (.pointer (some ⟨b, i + 0, none⟩)) := rp_eq fun w => run_fieldAt of141_0 b i w
theorem fa_145_0 (b i : Nat) (Z : List PanicEntry → World → Prop) (w : World) (kk : Value → World → Prop) : run1 Tryd.prog Z (Instr.fieldAt 145 (.pointer (some ⟨b, i, none⟩)) 0) w kk = kk (.pointer (some ⟨b, i + 0, none⟩)) w := r1_eq fun w => run_fieldAt of145_0 b i w
theorem fa_145_0p (b i : Nat) (kv : Value → Prop) : Pure1 Tryd.prog (Instr.fieldAt 145 (.pointer (some ⟨b, i, none⟩)) 0) kv = kv (.pointer (some ⟨b, i + 0, none⟩)) := rp_eq fun w => run_fieldAt of145_0 b i w
theorem fa_149_1 (b i : Nat) (Z : List PanicEntry → World → Prop) (w : World) (kk : Value → World → Prop) : run1 Tryd.prog Z (Instr.fieldAt 149 (.pointer (some ⟨b, i, none⟩)) 1) w kk = kk (.pointer (some ⟨b, i + 1, none⟩)) w := r1_eq fun w => run_fieldAt of149_1 b i w
theorem fa_149_1p (b i : Nat) (kv : Value → Prop) : Pure1 Tryd.prog (Instr.fieldAt 149 (.pointer (some ⟨b, i, none⟩)) 1) kv = kv (.pointer (some ⟨b, i + 1, none⟩)) := rp_eq fun w => run_fieldAt of149_1 b i w
theorem fa_153_0 (b i : Nat) (Z : List PanicEntry → World → Prop) (w : World) (kk : Value → World → Prop) : run1 Tryd.prog Z (Instr.fieldAt 153 (.pointer (some ⟨b, i, none⟩)) 0) w kk = kk (.pointer (some ⟨b, i + 0, none⟩)) w := r1_eq fun w => run_fieldAt of153_0 b i w
theorem fa_153_0p (b i : Nat) (kv : Value → Prop) : Pure1 Tryd.prog (Instr.fieldAt 153 (.pointer (some ⟨b, i, none⟩)) 0) kv = kv (.pointer (some ⟨b, i + 0, none⟩)) := rp_eq fun w => run_fieldAt of153_0 b i w
theorem fa_159_3 (b i : Nat) (Z : List PanicEntry → World → Prop) (w : World) (kk : Value → World → Prop) : run1 Tryd.prog Z (Instr.fieldAt 159 (.pointer (some ⟨b, i, none⟩)) 3) w kk = kk (.pointer (some ⟨b, i + 5, none⟩)) w := r1_eq fun w => run_fieldAt of159_3 b i w
theorem fa_159_3p (b i : Nat) (kv : Value → Prop) : Pure1 Tryd.prog (Instr.fieldAt 159 (.pointer (some ⟨b, i, none⟩)) 3) kv = kv (.pointer (some ⟨b, i + 5, none⟩)) := rp_eq fun w => run_fieldAt of159_3 b i w
theorem fa_163_2 (b i : Nat) (Z : List PanicEntry → World → Prop) (w : World) (kk : Value → World → Prop) : run1 Tryd.prog Z (Instr.fieldAt 163 (.pointer (some ⟨b, i, none⟩)) 2) w kk = kk (.pointer (some ⟨b, i + 2, none⟩)) w := r1_eq fun w => run_fieldAt of163_2 b i w
theorem fa_163_2p (b i : Nat) (kv : Value → Prop) : Pure1 Tryd.prog (Instr.fieldAt 163 (.pointer (some ⟨b, i, none⟩)) 2) kv = kv (.pointer (some ⟨b, i + 2, none⟩)) := rp_eq fun w => run_fieldAt of163_2 b i w
theorem fa_167_0 (b i : Nat) (Z : List PanicEntry → World → Prop) (w : World) (kk : Value → World → Prop) : run1 Tryd.prog Z (Instr.fieldAt 167 (.pointer (some ⟨b, i, none⟩)) 0) w kk = kk (.pointer (some ⟨b, i + 0, none⟩)) w := r1_eq fun w => run_fieldAt of167_0 b i w
theorem fa_167_0p (b i : Nat) (kv : Value → Prop) : Pure1 Tryd.prog (Instr.fieldAt 167 (.pointer (some ⟨b, i, none⟩)) 0) kv = kv (.pointer (some ⟨b, i + 0, none⟩)) := rp_eq fun w => run_fieldAt of167_0 b i w
theorem fa_171_0 (b i : Nat) (Z : List PanicEntry → World → Prop) (w : World) (kk : Value → World → Prop) : run1 Tryd.prog Z (Instr.fieldAt 171 (.pointer (some ⟨b, i, none⟩)) 0) w kk = kk (.pointer (some ⟨b, i + 0, none⟩)) w := r1_eq fun w => run_fieldAt of171_0 b i w
theorem fa_171_0p (b i : Nat) (kv : Value → Prop) : Pure1 Tryd.prog (Instr.fieldAt 171 (.pointer (some ⟨b, i, none⟩)) 0) kv = kv (.pointer (some ⟨b, i + 0, none⟩)) := rp_eq fun w => run_fieldAt of171_0 b i w
theorem fa_175_6 (b i : Nat) (Z : List PanicEntry → World → Prop) (w : World) (kk : Value → World → Prop) : run1 Tryd.prog Z (Instr.fieldAt 175 (.pointer (some ⟨b, i, none⟩)) 6) w kk = kk (.pointer (some ⟨b, i + 7, none⟩)) w := r1_eq fun w => run_fieldAt of175_6 b i w
theorem fa_175_6p (b i : Nat) (kv : Value → Prop) : Pure1 Tryd.prog (Instr.fieldAt 175 (.pointer (some ⟨b, i, none⟩)) 6) kv = kv (.pointer (some ⟨b, i + 7, none⟩)) := rp_eq fun w => run_fieldAt of175_6 b i w
theorem fa_179_1 (b i : Nat) (Z : List PanicEntry → World → Prop) (w : World) (kk : Value → World → Prop) : run1 Tryd.prog Z (Instr.fieldAt 179 (.pointer (some ⟨b, i, none⟩)) 1) w kk = kk (.pointer (some ⟨b, i + 1, none⟩)) w := r1_eq fun w => run_fieldAt of179_1 b i w
theorem fa_179_1p (b i : Nat) (kv : Value → Prop) : Pure1 Tryd.prog (Instr.fieldAt 179 (.pointer (some ⟨b, i, none⟩)) 1) kv = kv (.pointer (some ⟨b, i + 1, none⟩)) := rp_eq fun w => run_fieldAt of179_1 b i w
theorem fa_183_4 (b i : Nat) (Z : List PanicEntry → World → Prop) (w : World) (kk : Value → World → Prop) : run1 Tryd.prog Z (Instr.fieldAt 183 (.pointer (some ⟨b, i, none⟩)) 4) w kk = kk (.pointer (some ⟨b, i + 4, none⟩)) w := r1_eq fun w => run_fieldAt of183_4 b i w
theorem fa_183_4p (b i : Nat) (kv : Value → Prop) : Pure1 Tryd.prog (Instr.fieldAt 183 (.pointer (some ⟨b, i, none⟩)) 4) kv = kv (.pointer (some ⟨b, i + 4, none⟩)) := rp_eq fun w => run_fieldAt of183_4 b i w
theorem cv_2_102 (q : IntKind) (n : Int) (Z : List PanicEntry → World → Prop) (w : World) (kk : Value → World → Prop) : run1 Tryd.prog Z (convert 2 102 (.int q n)) w kk = kk (.int .u64 (IntKind.u64.wrap n)) w := r1_eq fun w => run_conv_int (by kernel_rfl) it102 q n w
theorem cv_2_102p (q : IntKind) (n : Int) (kv : Value → Prop) : Pure1 Tryd.prog (convert 2 102 (.int q n)) kv = kv (.int .u64 (IntKind.u64.wrap n)) := rp_eq fun w => run_conv_int (by kernel_rfl) it102 q n w
theorem cv_102_71 (q : IntKind) (n : Int) (Z : List PanicEntry → World → Prop) (w : World) (kk : Value → World → Prop) : run1 Tryd.prog Z (convert 102 71 (.int q n)) w kk = kk (.int .u32 (IntKind.u32.wrap n)) w := r1_eq fun w => run_conv_int (by kernel_rfl) it71 q n w
theorem cv_102_71p (q : IntKind) (n : Int) (kv : Value → Prop) : Pure1 Tryd.prog (convert 102 71 (.int q n)) kv = kv (.int .u32 (IntKind.u32.wrap n)) := rp_eq fun w => run_conv_int (by kernel_rfl) it71 q n w
theorem cv_71_5 (q : IntKind) (n : Int) (Z : List PanicEntry → World → Prop) (w : World) (kk : Value → World → Prop) : run1 Tryd.prog Z (convert 71 5 (.int q n)) w kk = kk (.int .u8 (IntKind.u8.wrap n)) w := r1_eq fun w => run_conv_int (by kernel_rfl) it5 q n w
theorem cv_71_5p (q : IntKind) (n : Int) (kv : Value → Prop) : Pure1 Tryd.prog (convert 71 5 (.int q n)) kv = kv (.int .u8 (IntKind.u8.wrap n)) := rp_eq fun w => run_conv_int (by kernel_rfl) it5 q n w
theorem cv_3_104 (q : IntKind) (n : Int) (Z : List PanicEntry → World → Prop) (w : World) (kk : Value → World → Prop) : run1 Tryd.prog Z (convert 3 104 (.int q n)) w kk = kk (.int .u64 (IntKind.u64.wrap n)) w := r1_eq fun w => run_conv_int (by kernel_rfl) it104 q n w
theorem cv_3_104p (q : IntKind) (n : Int) (kv : Value → Prop) : Pure1 Tryd.prog (convert 3 104 (.int q n)) kv = kv (.int .u64 (IntKind.u64.wrap n)) := rp_eq fun w => run_conv_int (by kernel_rfl) it104 q n w
theorem cv_3_102 (q : IntKind) (n : Int) (Z : List PanicEntry → World → Prop) (w : World) (kk : Value → World → Prop) : run1 Tryd.prog Z (convert 3 102 (.int q n)) w kk = kk (.int .u64 (IntKind.u64.wrap n)) w := r1_eq fun w => run_conv_int (by kernel_rfl) it102 q n w
theorem cv_3_102p (q : IntKind) (n : Int) (kv : Value → Prop) : Pure1 Tryd.prog (convert 3 102 (.int q n)) kv = kv (.int .u64 (IntKind.u64.wrap n)) := rp_eq fun w => run_conv_int (by kernel_rfl) it102 q n w
theorem cv_5_3 (q : IntKind) (n : Int) (Z : List PanicEntry → World → Prop) (w : World) (kk : Value → World → Prop) : run1 Tryd.prog Z (convert 5 3 (.int q n)) w kk = kk (.int .i64 (IntKind.i64.wrap n)) w := r1_eq fun w => run_conv_int (by kernel_rfl) it3 q n w
theorem cv_5_3p (q : IntKind) (n : Int) (kv : Value → Prop) : Pure1 Tryd.prog (convert 5 3 (.int q n)) kv = kv (.int .i64 (IntKind.i64.wrap n)) := rp_eq fun w => run_conv_int (by kernel_rfl) it3 q n w
theorem cv_104_71 (q : IntKind) (n : Int) (Z : List PanicEntry → World → Prop) (w : World) (kk : Value → World → Prop) : run1 Tryd.prog Z (convert 104 71 (.int q n)) w kk = kk (.int .u32 (IntKind.u32.wrap n)) w := r1_eq fun w => run_conv_int (by kernel_rfl) it71 q n w
theorem cv_104_71p (q : IntKind) (n : Int) (kv : Value → Prop) : Pure1 Tryd.prog (convert 104 71 (.int q n)) kv = kv (.int .u32 (IntKind.u32.wrap n)) := rp_eq fun w => run_conv_int (by kernel_rfl) it71 q n w
theorem o_add (t : TypeId) (k : IntKind) (x y : Int) (Z : List PanicEntry → World → Prop) (w : World) (kk : Value → World → Prop) : run1 Tryd.prog Z (binOp .add t (.int k x) (.int k y)) w kk = kk (.int k (k.wrap (x + y))) w := r1_eq fun w => run_add _ w t k x y
theorem o_addp (t : TypeId) (k : IntKind) (x y : Int) (kv : Value → Prop) : Pure1 Tryd.prog (binOp .add t (.int k x) (.int k y)) kv = kv (.int k (k.wrap (x + y))) := rp_eq fun w => run_add _ w t k x y
theorem o_sub (t : TypeId) (k : IntKind) (x y : Int) (Z : List PanicEntry → World → Prop) (w : World) (kk : Value → World → Prop) : run1 Tryd.prog Z (binOp .sub t (.int k x) (.int k y)) w kk = kk (.int k (k.wrap (x - y))) w := r1_eq fun w => run_sub _ w t k x y
theorem o_subp (t : TypeId) (k : IntKind) (x y : Int) (kv : Value → Prop) : Pure1 Tryd.prog (binOp .sub t (.int k x) (.int k y)) kv = kv (.int k (k.wrap (x - y))) := rp_eq fun w => run_sub _ w t k x y
theorem o_mul (t : TypeId) (k : IntKind) (x y : Int) (Z : List PanicEntry → World → Prop) (w : World) (kk : Value → World → Prop) : run1 Tryd.prog Z (binOp .mul t (.int k x) (.int k y)) w kk = kk (.int k (k.wrap (x * y))) w := r1_eq fun w => run_mul _ w t k x y
theorem o_mulp (t : TypeId) (k : IntKind) (x y : Int) (kv : Value → Prop) : Pure1 Tryd.prog (binOp .mul t (.int k x) (.int k y)) kv = kv (.int k (k.wrap (x * y))) := rp_eq fun w => run_mul _ w t k x y
theorem o_lss (t : TypeId) (k : IntKind) (x y : Int) (Z : List PanicEntry → World → Prop) (w : World) (kk : Value → World → Prop) : run1 Tryd.prog Z (binOp .lss t (.int k x) (.int k y)) w kk = kk (.bool (decide (x < y))) w := r1_eq fun w => run_lss _ w t k x y
theorem o_lssp (t : TypeId) (k : IntKind) (x y : Int) (kv : Value → Prop) : Pure1 Tryd.prog (binOp .lss t (.int k x) (.int k y)) kv = kv (.bool (decide (x < y))) := rp_eq fun w => run_lss _ w t k x y
theorem o_leq (t : TypeId) (k : IntKind) (x y : Int) (Z : List PanicEntry → World → Prop) (w : World) (kk : Value → World → Prop) : run1 Tryd.prog Z (binOp .leq t (.int k x) (.int k y)) w kk = kk (.bool (decide (x ≤ y))) w := r1_eq fun w => run_leq _ w t k x y
theorem o_leqp (t : TypeId) (k : IntKind) (x y : Int) (kv : Value → Prop) : Pure1 Tryd.prog (binOp .leq t (.int k x) (.int k y)) kv = kv (.bool (decide (x ≤ y))) := rp_eq fun w => run_leq _ w t k x y
theorem o_gtr (t : TypeId) (k : IntKind) (x y : Int) (Z : List PanicEntry → World → Prop) (w : World) (kk : Value → World → Prop) : run1 Tryd.prog Z (binOp .gtr t (.int k x) (.int k y)) w kk = kk (.bool (decide (y < x))) w := r1_eq fun w => run_gtr _ w t k x y
theorem o_gtrp (t : TypeId) (k : IntKind) (x y : Int) (kv : Value → Prop) : Pure1 Tryd.prog (binOp .gtr t (.int k x) (.int k y)) kv = kv (.bool (decide (y < x))) := rp_eq fun w => run_gtr _ w t k x y
theorem o_geq (t : TypeId) (k : IntKind) (x y : Int) (Z : List PanicEntry → World → Prop) (w : World) (kk : Value → World → Prop) : run1 Tryd.prog Z (binOp .geq t (.int k x) (.int k y)) w kk = kk (.bool (decide (y ≤ x))) w := r1_eq fun w => run_geq _ w t k x y
theorem o_geqp (t : TypeId) (k : IntKind) (x y : Int) (kv : Value → Prop) : Pure1 Tryd.prog (binOp .geq t (.int k x) (.int k y)) kv = kv (.bool (decide (y ≤ x))) := rp_eq fun w => run_geq _ w t k x y
theorem o_eql (t : TypeId) (cx cy : Bool) (k : IntKind) (x y : Int) (Z : List PanicEntry → World → Prop) (w : World) (kk : Value → World → Prop) : run1 Tryd.prog Z (eqOp .eql t cx cy (.int k x) (.int k y)) w kk = kk (.bool (x == y)) w := r1_eq fun w => run_eql_int _ w t cx cy k x y
theorem o_eqlp (t : TypeId) (cx cy : Bool) (k : IntKind) (x y : Int) (kv : Value → Prop) : Pure1 Tryd.prog (eqOp .eql t cx cy (.int k x) (.int k y)) kv = kv (.bool (x == y)) := rp_eq fun w => run_eql_int _ w t cx cy k x y
theorem o_neq (t : TypeId) (cx cy : Bool) (k : IntKind) (x y : Int) (Z : List PanicEntry → World → Prop) (w : World) (kk : Value → World → Prop) : run1 Tryd.prog Z (eqOp .neq t cx cy (.int k x) (.int k y)) w kk = kk (.bool (x != y)) w := r1_eq fun w => run_neq_int _ w t cx cy k x y
theorem o_neqp (t : TypeId) (cx cy : Bool) (k : IntKind) (x y : Int) (kv : Value → Prop) : Pure1 Tryd.prog (eqOp .neq t cx cy (.int k x) (.int k y)) kv = kv (.bool (x != y)) := rp_eq fun w => run_neq_int _ w t cx cy k x y
theorem os_eql (t : TypeId) (cx cy : Bool) (a b : ByteArray) (Z : List PanicEntry → World → Prop) (w : World) (kk : Value → World → Prop) : run1 Tryd.prog Z (eqOp .eql t cx cy (.string a) (.string b)) w kk = kk (.bool ((a.toList == b.toList))) w := r1_eq fun w => run_eql_str t cx cy a b w
theorem os_eqlp (t : TypeId) (cx cy : Bool) (a b : ByteArray) (kv : Value → Prop) : Pure1 Tryd.prog (eqOp .eql t cx cy (.string a) (.string b)) kv = kv (.bool ((a.toList == b.toList))) := rp_eq fun w => run_eql_str t cx cy a b w
theorem os_neq (t : TypeId) (cx cy : Bool) (a b : ByteArray) (Z : List PanicEntry → World → Prop) (w : World) (kk : Value → World → Prop) : run1 Tryd.prog Z (eqOp .neq t cx cy (.string a) (.string b)) w kk = kk (.bool (!(a.toList == b.toList))) w := r1_eq fun w => run_neq_str t cx cy a b w
theorem os_neqp (t : TypeId) (cx cy : Bool) (a b : ByteArray) (kv : Value → Prop) : Pure1 Tryd.prog (eqOp .neq t cx cy (.string a) (.string b)) kv = kv (.bool (!(a.toList == b.toList))) := rp_eq fun w => run_neq_str t cx cy a b w
theorem o_and (t : TypeId) (k : IntKind) (x y : Int) (Z : List PanicEntry → World → Prop) (w : World) (kk : Value → World → Prop) : run1 Tryd.prog Z (binOp .and t (.int k x) (.int k y)) w kk = kk (.int k (k.wrap (BitVec.ofInt k.bits x &&& BitVec.ofInt k.bits y).toNat)) w := r1_eq fun w => run_and _ w t k x y
theorem o_andp (t : TypeId) (k : IntKind) (x y : Int) (kv : Value → Prop) : Pure1 Tryd.prog (binOp .and t (.int k x) (.int k y)) kv = kv (.int k (k.wrap (BitVec.ofInt k.bits x &&& BitVec.ofInt k.bits y).toNat)) := rp_eq fun w => run_and _ w t k x y
theorem o_or (t : TypeId) (k : IntKind) (x y : Int) (Z : List PanicEntry → World → Prop) (w : World) (kk : Value → World → Prop) : run1 Tryd.prog Z (binOp .or t (.int k x) (.int k y)) w kk = kk (.int k (k.wrap (BitVec.ofInt k.bits x ||| BitVec.ofInt k.bits y).toNat)) w := r1_eq fun w => run_or _ w t k x y
theorem o_orp (t : TypeId) (k : IntKind) (x y : Int) (kv : Value → Prop) : Pure1 Tryd.prog (binOp .or t (.int k x) (.int k y)) kv = kv (.int k (k.wrap (BitVec.ofInt k.bits x ||| BitVec.ofInt k.bits y).toNat)) := rp_eq fun w => run_or _ w t k x y
theorem o_xor (t : TypeId) (k : IntKind) (x y : Int) (Z : List PanicEntry → World → Prop) (w : World) (kk : Value → World → Prop) : run1 Tryd.prog Z (binOp .xor t (.int k x) (.int k y)) w kk = kk (.int k (k.wrap (BitVec.ofInt k.bits x ^^^ BitVec.ofInt k.bits y).toNat)) w := r1_eq fun w => run_xor _ w t k x y
theorem o_xorp (t : TypeId) (k : IntKind) (x y : Int) (kv : Value → Prop) : Pure1 Tryd.prog (binOp .xor t (.int k x) (.int k y)) kv = kv (.int k (k.wrap (BitVec.ofInt k.bits x ^^^ BitVec.ofInt k.bits y).toNat)) := rp_eq fun w => run_xor _ w t k x y
theorem o_not (b : Bool) (Z : List PanicEntry → World → Prop) (w : World) (kk : Value → World → Prop) : run1 Tryd.prog Z (Op.unary .not (.bool b)) w kk = kk (.bool !b) w := r1_eq fun w => run_not _ w b
theorem o_notp (b : Bool) (kv : Value → Prop) : Pure1 Tryd.prog (Op.unary .not (.bool b)) kv = kv (.bool !b) := rp_eq fun w => run_not _ w b
theorem o_pickT (x y : Value) (Z : List PanicEntry → World → Prop) (w : World) (kk : Value → World → Prop) : run1 Tryd.prog Z (pickV (.bool true) x y) w kk = kk x w := r1_eq fun w => run_pick _ w true x y
theorem o_pickTp (x y : Value) (kv : Value → Prop) : Pure1 Tryd.prog (pickV (.bool true) x y) kv = kv x := rp_eq fun w => run_pick _ w true x y
theorem o_pickF (x y : Value) (Z : List PanicEntry → World → Prop) (w : World) (kk : Value → World → Prop) : run1 Tryd.prog Z (pickV (.bool false) x y) w kk = kk y w := r1_eq fun w => run_pick _ w false x y
theorem o_pickFp (x y : Value) (kv : Value → Prop) : Pure1 Tryd.prog (pickV (.bool false) x y) kv = kv y := rp_eq fun w => run_pick _ w false x y
theorem o_ext1_0 (v0 : Value) (Z : List PanicEntry → World → Prop) (w : World) (kk : Value → World → Prop) : run1 Tryd.prog Z (Instr.extract (.tuple #[v0]) 0) w kk = kk v0 w := r1_eq fun w => run_extract _ w _ 0 _ rfl
theorem o_ext1_0p (v0 : Value) (kv : Value → Prop) : Pure1 Tryd.prog (Instr.extract (.tuple #[v0]) 0) kv = kv v0 := rp_eq fun w => run_extract _ w _ 0 _ rfl
theorem o_ext2_0 (v0 v1 : Value) (Z : List PanicEntry → World → Prop) (w : World) (kk : Value → World → Prop) : run1 Tryd.prog Z (Instr.extract (.tuple #[v0, v1]) 0) w kk = kk v0 w := r1_eq fun w => run_extract _ w _ 0 _ rfl
theorem o_ext2_0p (v0 v1 : Value) (kv : Value → Prop) : Pure1 Tryd.prog (Instr.extract (.tuple #[v0, v1]) 0) kv = kv v0 := rp_eq fun w => run_extract _ w _ 0 _ rfl
theorem o_ext2_1 (v0 v1 : Value) (Z : List PanicEntry → World → Prop) (w : World) (kk : Value → World → Prop) : run1 Tryd.prog Z (Instr.extract (.tuple #[v0, v1]) 1) w kk = kk v1 w := r1_eq fun w => run_extract _ w _ 1 _ rfl
theorem o_ext2_1p (v0 v1 : Value) (kv : Value → Prop) : Pure1 Tryd.prog (Instr.extract (.tuple #[v0, v1]) 1) kv = kv v1 := rp_eq fun w => run_extract _ w _ 1 _ rfl
theorem o_ext3_0 (v0 v1 v2 : Value) (Z : List PanicEntry → World → Prop) (w : World) (kk : Value → World → Prop) : run1 Tryd.prog Z (Instr.extract (.tuple #[v0, v1, v2]) 0) w kk = kk v0 w := r1_eq fun w => run_extract _ w _ 0 _ rfl
theorem o_ext3_0p (v0 v1 v2 : Value) (kv : Value → Prop) : Pure1 Tryd.prog (Instr.extract (.tuple #[v0, v1, v2]) 0) kv = kv v0 := rp_eq fun w => run_extract _ w _ 0 _ rfl
theorem o_ext3_1 (v0 v1 v2 : Value) (Z : List PanicEntry → World → Prop) (w : World) (kk : Value → World → Prop) : run1 Tryd.prog Z (Instr.extract (.tuple #[v0, v1, v2]) 1) w kk = kk v1 w := r1_eq fun w => run_extract _ w _ 1 _ rfl
theorem o_ext3_1p (v0 v1 v2 : Value) (kv : Value → Prop) : Pure1 Tryd.prog (Instr.extract (.tuple #[v0, v1, v2]) 1) kv = kv v1 := rp_eq fun w => run_extract _ w _ 1 _ rfl
theorem o_ext3_2 (v0 v1 v2 : Value) (Z : List PanicEntry → World → Prop) (w : World) (kk : Value → World → Prop) : run1 Tryd.prog Z (Instr.extract (.tuple #[v0, v1, v2]) 2) w kk = kk v2 w := r1_eq fun w => run_extract _ w _ 2 _ rfl
theorem o_ext3_2p (v0 v1 v2 : Value) (kv : Value → Prop) : Pure1 Tryd.prog (Instr.extract (.tuple #[v0, v1, v2]) 2) kv = kv v2 := rp_eq fun w => run_extract _ w _ 2 _ rfl
theorem o_ext4_0 (v0 v1 v2 v3 : Value) (Z : List PanicEntry → World → Prop) (w : World) (kk : Value → World → Prop) : run1 Tryd.prog Z (Instr.extract (.tuple #[v0, v1, v2, v3]) 0) w kk = kk v0 w := r1_eq fun w => run_extract _ w _ 0 _ rfl
theorem o_ext4_0p (v0 v1 v2 v3 : Value) (kv : Value → Prop) : Pure1 Tryd.prog (Instr.extract (.tuple #[v0, v1, v2, v3]) 0) kv = kv v0 := rp_eq fun w => run_extract _ w _ 0 _ rfl
theorem o_ext4_1 (v0 v1 v2 v3 : Value) (Z : List PanicEntry → World → Prop) (w : World) (kk : Value → World → Prop) : run1 Tryd.prog Z (Instr.extract (.tuple #[v0, v1, v2, v3]) 1) w kk = kk v1 w := r1_eq fun w => run_extract _ w _ 1 _ rfl
theorem o_ext4_1p (v0 v1 v2 v3 : Value) (kv : Value → Prop) : Pure1 Tryd.prog (Instr.extract (.tuple #[v0, v1, v2, v3]) 1) kv = kv v1 := rp_eq fun w => run_extract _ w _ 1 _ rfl
theorem o_ext4_2 (v0 v1 v2 v3 : Value) (Z : List PanicEntry → World → Prop) (w : World) (kk : Value → World → Prop) : run1 Tryd.prog Z (Instr.extract (.tuple #[v0, v1, v2, v3]) 2) w kk = kk v2 w := r1_eq fun w => run_extract _ w _ 2 _ rfl
theorem o_ext4_2p (v0 v1 v2 v3 : Value) (kv : Value → Prop) : Pure1 Tryd.prog (Instr.extract (.tuple #[v0, v1, v2, v3]) 2) kv = kv v2 := rp_eq fun w => run_extract _ w _ 2 _ rfl
theorem o_ext4_3 (v0 v1 v2 v3 : Value) (Z : List PanicEntry → World → Prop) (w : World) (kk : Value → World → Prop) : run1 Tryd.prog Z (Instr.extract (.tuple #[v0, v1, v2, v3]) 3) w kk = kk v3 w := r1_eq fun w => run_extract _ w _ 3 _ rfl
theorem o_ext4_3p (v0 v1 v2 v3 : Value) (kv : Value → Prop) : Pure1 Tryd.prog (Instr.extract (.tuple #[v0, v1, v2, v3]) 3) kv = kv v3 := rp_eq fun w => run_extract _ w _ 3 _ rfl
theorem o_ext5_0 (v0 v1 v2 v3 v4 : Value) (Z : List PanicEntry → World → Prop) (w : World) (kk : Value → World → Prop) : run1 Tryd.prog Z (Instr.extract (.tuple #[v0, v1, v2, v3, v4]) 0) w kk = kk v0 w := r1_eq fun w => run_extract _ w _ 0 _ rfl
theorem o_ext5_0p (v0 v1 v2 v3 v4 : Value) (kv : Value → Prop) : Pure1 Tryd.prog (Instr.extract (.tuple #[v0, v1, v2, v3, v4]) 0) kv = kv v0 := rp_eq fun w => run_extract _ w _ 0 _ rfl
theorem o_ext5_1 (v0 v1 v2 v3 v4 : Value) (Z : List PanicEntry → World → Prop) (w : World) (kk : Value → World → Prop) : run1 Tryd.prog Z (Instr.extract (.tuple #[v0, v1, v2, v3, v4]) 1) w kk = kk v1 w := r1_eq fun w => run_extract _ w _ 1 _ rfl
theorem o_ext5_1p (v0 v1 v2 v3 v4 : Value) (kv : Value → Prop) : Pure1 Tryd.prog (Instr.extract (.tuple #[v0, v1, v2, v3, v4]) 1) kv = kv v1 := rp_eq fun w => run_extract _ w _ 1 _ rfl
theorem o_ext5_2 (v0 v1 v2 v3 v4 : Value) (Z : List PanicEntry → World → Prop) (w : World) (kk : Value → World → Prop) : run1 Tryd.prog Z (Instr.extract (.tuple #[v0, v1, v2, v3, v4]) 2) w kk = kk v2 w := r1_eq fun w => run_extract _ w _ 2 _ rfl
theorem o_ext5_2p (v0 v1 v2 v3 v4 : Value) (kv : Value → Prop) : Pure1 Tryd.prog (Instr.extract (.tuple #[v0, v1, v2, v3, v4]) 2) kv = kv v2 := rp_eq fun w => run_extract _ w _ 2 _ rfl
theorem o_ext5_3 (v0 v1 v2 v3 v4 : Value) (Z : List PanicEntry → World → Prop) (w : World) (kk : Value → World → Prop) : run1 Tryd.prog Z (Instr.extract (.tuple #[v0, v1, v2, v3, v4]) 3) w kk = kk v3 w := r1_eq fun w => run_extract _ w _ 3 _ rfl
theorem o_ext5_3p (v0 v1 v2 v3 v4 : Value) (kv : Value → Prop) : Pure1 Tryd.prog (Instr.extract (.tuple #[v0, v1, v2, v3, v4]) 3) kv = kv v3 := rp_eq fun w => run_extract _ w _ 3 _ rfl
theorem o_ext5_4 (v0 v1 v2 v3 v4 : Value) (Z : List PanicEntry → World → Prop) (w : World) (kk : Value → World → Prop) : run1 Tryd.prog Z (Instr.extract (.tuple #[v0, v1, v2, v3, v4]) 4) w kk = kk v4 w := r1_eq fun w => run_extract _ w _ 4 _ rfl
theorem o_ext5_4p (v0 v1 v2 v3 v4 : Value) (kv : Value → Prop) : Pure1 Tryd.prog (Instr.extract (.tuple #[v0, v1, v2, v3, v4]) 4) kv = kv v4 := rp_eq fun w => run_extract _ w _ 4 _ rfl
theorem o_max (ts : Array TypeId) (t : TypeId) (k k' : IntKind) (x y : Int) (Z : List PanicEntry → World → Prop) (w : World) (kk : Value → World → Prop) : run1 Tryd.prog Z (Builtin.max_ ts t #[.int k x, .int k' y]) w kk = kk (.int k (max x y)) w := r1_eq fun w => run_maxV ts t k k' x y w
theorem o_maxp (ts : Array TypeId) (t : TypeId) (k k' : IntKind) (x y : Int) (kv : Value → Prop) : Pure1 Tryd.prog (Builtin.max_ ts t #[.int k x, .int k' y]) kv = kv (.int k (max x y)) := rp_eq fun w => run_maxV ts t k k' x y w
theorem o_min (ts : Array TypeId) (t : TypeId) (k k' : IntKind) (x y : Int) (Z : List PanicEntry → World → Prop) (w : World) (kk : Value → World → Prop) : run1 Tryd.prog Z (Builtin.min_ ts t #[.int k x, .int k' y]) w kk = kk (.int k (min x y)) w := r1_eq fun w => run_minV ts t k k' x y w
theorem o_minp (ts : Array TypeId) (t : TypeId) (k k' : IntKind) (x y : Int) (kv : Value → Prop) : Pure1 Tryd.prog (Builtin.min_ ts t #[.int k x, .int k' y]) kv = kv (.int k (min x y)) := rp_eq fun w => run_minV ts t k k' x y w
theorem o_fn (fn : Fn) (a b : Array Value) (Z : List PanicEntry → World → Prop) (w : World) (kk : Value → World → Prop) : run1 Tryd.prog Z (Instr.makeFunc fn a b) w kk = kk (.func fn a b) w := r1_eq fun w => run_makeFunc _ w fn a b
theorem o_fnp (fn : Fn) (a b : Array Value) (kv : Value → Prop) : Pure1 Tryd.prog (Instr.makeFunc fn a b) kv = kv (.func fn a b) := rp_eq fun w => run_makeFunc _ w fn a b
theorem o_chk (a : Addr) (Z : List PanicEntry → World → Prop) (w : World) (kk : Value → World → Prop) : runX Tryd.prog Z (nilChk (.pointer (some a))) w kk = kk (.pointer (some a)) w := rX_eq fun w => run_nilChk _ w a
theorem o_chkp (a : Addr) (kv : Value → Prop) : PureV Tryd.prog (nilChk (.pointer (some a))) kv = kv (.pointer (some a)) := rpV_eq fun w => run_nilChk _ w a
end Go.Proofs.YthobnaagjhooeaaDoor
