import Derived.Test.YtklojohafbmonaaDoorShOpen
import Derived.Test.YtklojohafbmonaaDoorProg
set_option linter.unusedVariables false
namespace Go.Proofs.YtklojohafbmonaaDoor
open Go.Sh
theorem fu1 : isFuncT Tryd.prog 1 = true := by kernel_rfl
theorem one1 : oneT Tryd.prog 1 = true := by kernel_rfl
theorem ze1 : zeroT Tryd.prog 1 = some .nilFunc := by kernel_rfl
theorem it2 : intT Tryd.prog 2 = some .i64 := by kernel_rfl
theorem one2 : oneT Tryd.prog 2 = true := by kernel_rfl
theorem ze2 : zeroT Tryd.prog 2 = some (.int .i64 0) := by kernel_rfl
theorem it3 : intT Tryd.prog 3 = some .i64 := by kernel_rfl
theorem one3 : oneT Tryd.prog 3 = true := by kernel_rfl
theorem ze3 : zeroT Tryd.prog 3 = some (.int .i64 0) := by kernel_rfl
theorem bo4 : isBoolT Tryd.prog 4 = true := by kernel_rfl
theorem one4 : oneT Tryd.prog 4 = true := by kernel_rfl
theorem ze4 : zeroT Tryd.prog 4 = some (.bool false) := by kernel_rfl
theorem it5 : intT Tryd.prog 5 = some .u8 := by kernel_rfl
theorem one5 : oneT Tryd.prog 5 = true := by kernel_rfl
theorem ze5 : zeroT Tryd.prog 5 = some (.int .u8 0) := by kernel_rfl
theorem it6 : intT Tryd.prog 6 = some .u8 := by kernel_rfl
theorem one6 : oneT Tryd.prog 6 = true := by kernel_rfl
theorem ze6 : zeroT Tryd.prog 6 = some (.int .u8 0) := by kernel_rfl
theorem ag7 : aggT Tryd.prog 7 4 = true := by kernel_rfl
theorem ze7 : zeroT Tryd.prog 7 = some (.agg #[(.int .i64 0), (.int .i64 0), (.bool false), (.int .u8 0)]) := by kernel_rfl
theorem of7_0 : offT Tryd.prog 7 0 = some 0 := by kernel_rfl
theorem of7_1 : offT Tryd.prog 7 1 = some 1 := by kernel_rfl
theorem of7_2 : offT Tryd.prog 7 2 = some 2 := by kernel_rfl
theorem of7_3 : offT Tryd.prog 7 3 = some 3 := by kernel_rfl
theorem ag8 : aggT Tryd.prog 8 4 = true := by kernel_rfl
theorem ze8 : zeroT Tryd.prog 8 = some (.agg #[(.int .i64 0), (.int .i64 0), (.bool false), (.int .u8 0)]) := by kernel_rfl
theorem of8_0 : offT Tryd.prog 8 0 = some 0 := by kernel_rfl
theorem of8_1 : offT Tryd.prog 8 1 = some 1 := by kernel_rfl
theorem of8_2 : offT Tryd.prog 8 2 = some 2 := by kernel_rfl
theorem of8_3 : offT Tryd.prog 8 3 = some 3 := by kernel_rfl
theorem st9 : isStrT Tryd.prog 9 = true := by kernel_rfl
theorem one9 : oneT Tryd.prog 9 = true := by kernel_rfl
theorem ze9 : zeroT Tryd.prog 9 = some (.string ByteArray.empty) := by kernel_rfl
theorem st10 : isStrT Tryd.prog 10 = true := by kernel_rfl
theorem one10 : oneT Tryd.prog 10 = true := by kernel_rfl
theorem ze10 : zeroT Tryd.prog 10 = some (.string ByteArray.empty) := by kernel_rfl
theorem st11 : isStrT Tryd.prog 11 = true := by kernel_rfl
theorem one11 : oneT Tryd.prog 11 = true := by kernel_rfl
theorem ze11 : zeroT Tryd.prog 11 = some (.string ByteArray.empty) := by kernel_rfl
theorem it12 : intT Tryd.prog 12 = some .u64 := by kernel_rfl
theorem one12 : oneT Tryd.prog 12 = true := by kernel_rfl
theorem ze12 : zeroT Tryd.prog 12 = some (.int .u64 0) := by kernel_rfl
theorem ag13 : aggT Tryd.prog 13 2 = true := by kernel_rfl
theorem ze13 : zeroT Tryd.prog 13 = some (.agg #[(.string ByteArray.empty), (.int .u64 0)]) := by kernel_rfl
theorem of13_0 : offT Tryd.prog 13 0 = some 0 := by kernel_rfl
theorem of13_1 : offT Tryd.prog 13 1 = some 1 := by kernel_rfl
theorem ag14 : aggT Tryd.prog 14 2 = true := by kernel_rfl
theorem ze14 : zeroT Tryd.prog 14 = some (.agg #[(.string ByteArray.empty), (.int .u64 0)]) := by kernel_rfl
theorem of14_0 : offT Tryd.prog 14 0 = some 0 := by kernel_rfl
theorem of14_1 : offT Tryd.prog 14 1 = some 1 := by kernel_rfl
theorem pt15 : isPtrT Tryd.prog 15 = true := by kernel_rfl
theorem one15 : oneT Tryd.prog 15 = true := by kernel_rfl
theorem ze15 : zeroT Tryd.prog 15 = some (.pointer none) := by kernel_rfl
theorem pt16 : isPtrT Tryd.prog 16 = true := by kernel_rfl
theorem one16 : oneT Tryd.prog 16 = true := by kernel_rfl
theorem ze16 : zeroT Tryd.prog 16 = some (.pointer none) := by kernel_rfl
theorem pt17 : isPtrT Tryd.prog 17 = true := by kernel_rfl
theorem one17 : oneT Tryd.prog 17 = true := by kernel_rfl
theorem ze17 : zeroT Tryd.prog 17 = some (.pointer none) := by kernel_rfl
theorem ag18 : aggT Tryd.prog 18 1 = true := by kernel_rfl
theorem ze18 : zeroT Tryd.prog 18 = some (.agg #[(.pointer none)]) := by kernel_rfl
theorem of18_0 : offT Tryd.prog 18 0 = some 0 := by kernel_rfl
theorem ag19 : aggT Tryd.prog 19 1 = true := by kernel_rfl
theorem ze19 : zeroT Tryd.prog 19 = some (.agg #[(.pointer none)]) := by kernel_rfl
theorem of19_0 : offT Tryd.prog 19 0 = some 0 := by kernel_rfl
theorem one20 : oneT Tryd.prog 20 = true := by kernel_rfl
theorem ze20 : zeroT Tryd.prog 20 = some .nilIface := by kernel_rfl
theorem it21 : intT Tryd.prog 21 = some .i32 := by kernel_rfl
theorem one21 : oneT Tryd.prog 21 = true := by kernel_rfl
theorem ze21 : zeroT Tryd.prog 21 = some (.int .i32 0) := by kernel_rfl
theorem sl22 : isSliceT Tryd.prog 22 = true := by kernel_rfl
theorem one22 : oneT Tryd.prog 22 = true := by kernel_rfl
theorem el22 : El Tryd.prog 22 9 1 16 (.string ByteArray.empty) := ⟨Tryd.underlying22, by kernel_rfl, by kernel_rfl, by decide⟩
theorem ze22 : zeroT Tryd.prog 22 = some (.slice none 0 0) := by kernel_rfl
theorem fu23 : isFuncT Tryd.prog 23 = true := by kernel_rfl
theorem one23 : oneT Tryd.prog 23 = true := by kernel_rfl
theorem ze23 : zeroT Tryd.prog 23 = some .nilFunc := by kernel_rfl
theorem pt24 : isPtrT Tryd.prog 24 = true := by kernel_rfl
theorem one24 : oneT Tryd.prog 24 = true := by kernel_rfl
theorem ze24 : zeroT Tryd.prog 24 = some (.pointer none) := by kernel_rfl
theorem sl25 : isSliceT Tryd.prog 25 = true := by kernel_rfl
theorem one25 : oneT Tryd.prog 25 = true := by kernel_rfl
theorem el25 : El Tryd.prog 25 5 1 1 (.int .u8 0) := ⟨Tryd.underlying25, by kernel_rfl, by kernel_rfl, by decide⟩
theorem ze25 : zeroT Tryd.prog 25 = some (.slice none 0 0) := by kernel_rfl
theorem ag26 : aggT Tryd.prog 26 1 = true := by kernel_rfl
theorem ze26 : zeroT Tryd.prog 26 = some (.agg #[(.slice none 0 0)]) := by kernel_rfl
theorem of26_0 : offT Tryd.prog 26 0 = some 0 := by kernel_rfl
theorem ag27 : aggT Tryd.prog 27 1 = true := by kernel_rfl
theorem ze27 : zeroT Tryd.prog 27 = some (.agg #[(.slice none 0 0)]) := by kernel_rfl
theorem of27_0 : offT Tryd.prog 27 0 = some 0 := by kernel_rfl
theorem fu28 : isFuncT Tryd.prog 28 = true := by kernel_rfl
theorem one28 : oneT Tryd.prog 28 = true := by kernel_rfl
theorem ze28 : zeroT Tryd.prog 28 = some .nilFunc := by kernel_rfl
theorem fu29 : isFuncT Tryd.prog 29 = true := by kernel_rfl
theorem one29 : oneT Tryd.prog 29 = true := by kernel_rfl
theorem ze29 : zeroT Tryd.prog 29 = some .nilFunc := by kernel_rfl
theorem fu30 : isFuncT Tryd.prog 30 = true := by kernel_rfl
theorem one30 : oneT Tryd.prog 30 = true := by kernel_rfl
theorem ze30 : zeroT Tryd.prog 30 = some .nilFunc := by kernel_rfl
theorem pt31 : isPtrT Tryd.prog 31 = true := by kernel_rfl
theorem one31 : oneT Tryd.prog 31 = true := by kernel_rfl
theorem ze31 : zeroT Tryd.prog 31 = some (.pointer none) := by kernel_rfl
theorem fu32 : isFuncT Tryd.prog 32 = true := by kernel_rfl
theorem one32 : oneT Tryd.prog 32 = true := by kernel_rfl
theorem ze32 : zeroT Tryd.prog 32 = some .nilFunc := by kernel_rfl
theorem fu33 : isFuncT Tryd.prog 33 = true := by kernel_rfl
theorem one33 : oneT Tryd.prog 33 = true := by kernel_rfl
theorem ze33 : zeroT Tryd.prog 33 = some .nilFunc := by kernel_rfl
theorem sl34 : isSliceT Tryd.prog 34 = true := by kernel_rfl
theorem one34 : oneT Tryd.prog 34 = true := by kernel_rfl
theorem el34 : El Tryd.prog 34 36 1 1 (.int .i8 0) := ⟨Tryd.underlying34, by kernel_rfl, by kernel_rfl, by decide⟩
theorem ze34 : zeroT Tryd.prog 34 = some (.slice none 0 0) := by kernel_rfl
theorem fu35 : isFuncT Tryd.prog 35 = true := by kernel_rfl
theorem one35 : oneT Tryd.prog 35 = true := by kernel_rfl
theorem ze35 : zeroT Tryd.prog 35 = some .nilFunc := by kernel_rfl
theorem it36 : intT Tryd.prog 36 = some .i8 := by kernel_rfl
theorem one36 : oneT Tryd.prog 36 = true := by kernel_rfl
theorem ze36 : zeroT Tryd.prog 36 = some (.int .i8 0) := by kernel_rfl
theorem it37 : intT Tryd.prog 37 = some .i64 := by kernel_rfl
theorem one37 : oneT Tryd.prog 37 = true := by kernel_rfl
theorem ze37 : zeroT Tryd.prog 37 = some (.int .i64 0) := by kernel_rfl
theorem fu38 : isFuncT Tryd.prog 38 = true := by kernel_rfl
theorem one38 : oneT Tryd.prog 38 = true := by kernel_rfl
theorem ze38 : zeroT Tryd.prog 38 = some .nilFunc := by kernel_rfl
theorem fu39 : isFuncT Tryd.prog 39 = true := by kernel_rfl
theorem one39 : oneT Tryd.prog 39 = true := by kernel_rfl
theorem ze39 : zeroT Tryd.prog 39 = some .nilFunc := by kernel_rfl
theorem fu40 : isFuncT Tryd.prog 40 = true := by kernel_rfl
theorem one40 : oneT Tryd.prog 40 = true := by kernel_rfl
theorem ze40 : zeroT Tryd.prog 40 = some .nilFunc := by kernel_rfl
theorem fu41 : isFuncT Tryd.prog 41 = true := by kernel_rfl
theorem one41 : oneT Tryd.prog 41 = true := by kernel_rfl
theorem ze41 : zeroT Tryd.prog 41 = some .nilFunc := by kernel_rfl
theorem fu42 : isFuncT Tryd.prog 42 = true := by kernel_rfl
theorem one42 : oneT Tryd.prog 42 = true := by kernel_rfl
theorem ze42 : zeroT Tryd.prog 42 = some .nilFunc := by kernel_rfl
theorem fu43 : isFuncT Tryd.prog 43 = true := by kernel_rfl
theorem one43 : oneT Tryd.prog 43 = true := by kernel_rfl
theorem ze43 : zeroT Tryd.prog 43 = some .nilFunc := by kernel_rfl
theorem fu44 : isFuncT Tryd.prog 44 = true := by kernel_rfl
theorem one44 : oneT Tryd.prog 44 = true := by kernel_rfl
theorem ze44 : zeroT Tryd.prog 44 = some .nilFunc := by kernel_rfl
theorem fu45 : isFuncT Tryd.prog 45 = true := by kernel_rfl
theorem one45 : oneT Tryd.prog 45 = true := by kernel_rfl
theorem ze45 : zeroT Tryd.prog 45 = some .nilFunc := by kernel_rfl
theorem pt46 : isPtrT Tryd.prog 46 = true := by kernel_rfl
theorem one46 : oneT Tryd.prog 46 = true := by kernel_rfl
theorem ze46 : zeroT Tryd.prog 46 = some (.pointer none) := by kernel_rfl
theorem fu47 : isFuncT Tryd.prog 47 = true := by kernel_rfl
theorem one47 : oneT Tryd.prog 47 = true := by kernel_rfl
theorem ze47 : zeroT Tryd.prog 47 = some .nilFunc := by kernel_rfl
theorem fu48 : isFuncT Tryd.prog 48 = true := by kernel_rfl
theorem one48 : oneT Tryd.prog 48 = true := by kernel_rfl
theorem ze48 : zeroT Tryd.prog 48 = some .nilFunc := by kernel_rfl
theorem ag49 : aggT Tryd.prog 49 3 = true := by kernel_rfl
theorem ze49 : zeroT Tryd.prog 49 = some (.agg #[(.slice none 0 0), (.int .i64 0), (.int .i64 0)]) := by kernel_rfl
theorem of49_0 : offT Tryd.prog 49 0 = some 0 := by kernel_rfl
theorem of49_1 : offT Tryd.prog 49 1 = some 1 := by kernel_rfl
theorem of49_2 : offT Tryd.prog 49 2 = some 2 := by kernel_rfl
theorem ag50 : aggT Tryd.prog 50 3 = true := by kernel_rfl
theorem ze50 : zeroT Tryd.prog 50 = some (.agg #[(.slice none 0 0), (.int .i64 0), (.int .i64 0)]) := by kernel_rfl
theorem of50_0 : offT Tryd.prog 50 0 = some 0 := by kernel_rfl
theorem of50_1 : offT Tryd.prog 50 1 = some 1 := by kernel_rfl
theorem of50_2 : offT Tryd.prog 50 2 = some 2 := by kernel_rfl
theorem fu51 : isFuncT Tryd.prog 51 = true := by kernel_rfl
theorem one51 : oneT Tryd.prog 51 = true := by kernel_rfl
theorem ze51 : zeroT Tryd.prog 51 = some .nilFunc := by kernel_rfl
theorem fu52 : isFuncT Tryd.prog 52 = true := by kernel_rfl
theorem one52 : oneT Tryd.prog 52 = true := by kernel_rfl
theorem ze52 : zeroT Tryd.prog 52 = some .nilFunc := by kernel_rfl
theorem pt53 : isPtrT Tryd.prog 53 = true := by kernel_rfl
theorem one53 : oneT Tryd.prog 53 = true := by kernel_rfl
theorem ze53 : zeroT Tryd.prog 53 = some (.pointer none) := by kernel_rfl
theorem sl54 : isSliceT Tryd.prog 54 = true := by kernel_rfl
theorem one54 : oneT Tryd.prog 54 = true := by kernel_rfl
theorem el54 : El Tryd.prog 54 25 1 24 (.slice none 0 0) := ⟨Tryd.underlying54, by kernel_rfl, by kernel_rfl, by decide⟩
theorem ze54 : zeroT Tryd.prog 54 = some (.slice none 0 0) := by kernel_rfl
theorem sl55 : isSliceT Tryd.prog 55 = true := by kernel_rfl
theorem one55 : oneT Tryd.prog 55 = true := by kernel_rfl
theorem el55 : El Tryd.prog 55 119 1 24 (.slice none 0 0) := ⟨Tryd.underlying55, by kernel_rfl, by kernel_rfl, by decide⟩
theorem ze55 : zeroT Tryd.prog 55 = some (.slice none 0 0) := by kernel_rfl
theorem sl56 : isSliceT Tryd.prog 56 = true := by kernel_rfl
theorem one56 : oneT Tryd.prog 56 = true := by kernel_rfl
theorem el56 : El Tryd.prog 56 22 1 24 (.slice none 0 0) := ⟨Tryd.underlying56, by kernel_rfl, by kernel_rfl, by decide⟩
theorem ze56 : zeroT Tryd.prog 56 = some (.slice none 0 0) := by kernel_rfl
theorem sl57 : isSliceT Tryd.prog 57 = true := by kernel_rfl
theorem one57 : oneT Tryd.prog 57 = true := by kernel_rfl
theorem el57 : El Tryd.prog 57 54 1 24 (.slice none 0 0) := ⟨Tryd.underlying57, by kernel_rfl, by kernel_rfl, by decide⟩
theorem ze57 : zeroT Tryd.prog 57 = some (.slice none 0 0) := by kernel_rfl
theorem sl58 : isSliceT Tryd.prog 58 = true := by kernel_rfl
theorem one58 : oneT Tryd.prog 58 = true := by kernel_rfl
theorem el58 : El Tryd.prog 58 123 1 24 (.slice none 0 0) := ⟨Tryd.underlying58, by kernel_rfl, by kernel_rfl, by decide⟩
theorem ze58 : zeroT Tryd.prog 58 = some (.slice none 0 0) := by kernel_rfl
theorem sl59 : isSliceT Tryd.prog 59 = true := by kernel_rfl
theorem one59 : oneT Tryd.prog 59 = true := by kernel_rfl
theorem el59 : El Tryd.prog 59 127 1 24 (.slice none 0 0) := ⟨Tryd.underlying59, by kernel_rfl, by kernel_rfl, by decide⟩
theorem ze59 : zeroT Tryd.prog 59 = some (.slice none 0 0) := by kernel_rfl
theorem sl60 : isSliceT Tryd.prog 60 = true := by kernel_rfl
theorem one60 : oneT Tryd.prog 60 = true := by kernel_rfl
theorem el60 : El Tryd.prog 60 131 1 24 (.slice none 0 0) := ⟨Tryd.underlying60, by kernel_rfl, by kernel_rfl, by decide⟩
theorem ze60 : zeroT Tryd.prog 60 = some (.slice none 0 0) := by kernel_rfl
theorem sl61 : isSliceT Tryd.prog 61 = true := by kernel_rfl
theorem one61 : oneT Tryd.prog 61 = true := by kernel_rfl
theorem el61 : El Tryd.prog 61 135 1 24 (.slice none 0 0) := ⟨Tryd.underlying61, by kernel_rfl, by kernel_rfl, by decide⟩
theorem ze61 : zeroT Tryd.prog 61 = some (.slice none 0 0) := by kernel_rfl
theorem sl62 : isSliceT Tryd.prog 62 = true := by kernel_rfl
theorem one62 : oneT Tryd.prog 62 = true := by kernel_rfl
theorem el62 : El Tryd.prog 62 143 1 24 (.slice none 0 0) := ⟨Tryd.underlying62, by kernel_rfl, by kernel_rfl, by decide⟩
theorem ze62 : zeroT Tryd.prog 62 = some (.slice none 0 0) := by kernel_rfl
theorem sl63 : isSliceT Tryd.prog 63 = true := by kernel_rfl
theorem one63 : oneT Tryd.prog 63 = true := by kernel_rfl
theorem el63 : El Tryd.prog 63 149 1 24 (.slice none 0 0) := ⟨Tryd.underlying63, by kernel_rfl, by kernel_rfl, by decide⟩
theorem ze63 : zeroT Tryd.prog 63 = some (.slice none 0 0) := by kernel_rfl
theorem sl64 : isSliceT Tryd.prog 64 = true := by kernel_rfl
theorem one64 : oneT Tryd.prog 64 = true := by kernel_rfl
theorem el64 : El Tryd.prog 64 153 1 24 (.slice none 0 0) := ⟨Tryd.underlying64, by kernel_rfl, by kernel_rfl, by decide⟩
theorem ze64 : zeroT Tryd.prog 64 = some (.slice none 0 0) := by kernel_rfl
theorem sl65 : isSliceT Tryd.prog 65 = true := by kernel_rfl
theorem one65 : oneT Tryd.prog 65 = true := by kernel_rfl
theorem el65 : El Tryd.prog 65 157 1 24 (.slice none 0 0) := ⟨Tryd.underlying65, by kernel_rfl, by kernel_rfl, by decide⟩
theorem ze65 : zeroT Tryd.prog 65 = some (.slice none 0 0) := by kernel_rfl
theorem sl66 : isSliceT Tryd.prog 66 = true := by kernel_rfl
theorem one66 : oneT Tryd.prog 66 = true := by kernel_rfl
theorem el66 : El Tryd.prog 66 161 1 24 (.slice none 0 0) := ⟨Tryd.underlying66, by kernel_rfl, by kernel_rfl, by decide⟩
theorem ze66 : zeroT Tryd.prog 66 = some (.slice none 0 0) := by kernel_rfl
theorem sl67 : isSliceT Tryd.prog 67 = true := by kernel_rfl
theorem one67 : oneT Tryd.prog 67 = true := by kernel_rfl
theorem el67 : El Tryd.prog 67 165 1 24 (.slice none 0 0) := ⟨Tryd.underlying67, by kernel_rfl, by kernel_rfl, by decide⟩
theorem ze67 : zeroT Tryd.prog 67 = some (.slice none 0 0) := by kernel_rfl
theorem sl68 : isSliceT Tryd.prog 68 = true := by kernel_rfl
theorem one68 : oneT Tryd.prog 68 = true := by kernel_rfl
theorem el68 : El Tryd.prog 68 171 1 24 (.slice none 0 0) := ⟨Tryd.underlying68, by kernel_rfl, by kernel_rfl, by decide⟩
theorem ze68 : zeroT Tryd.prog 68 = some (.slice none 0 0) := by kernel_rfl
theorem sl69 : isSliceT Tryd.prog 69 = true := by kernel_rfl
theorem one69 : oneT Tryd.prog 69 = true := by kernel_rfl
theorem el69 : El Tryd.prog 69 175 1 24 (.slice none 0 0) := ⟨Tryd.underlying69, by kernel_rfl, by kernel_rfl, by decide⟩
theorem ze69 : zeroT Tryd.prog 69 = some (.slice none 0 0) := by kernel_rfl
theorem sl70 : isSliceT Tryd.prog 70 = true := by kernel_rfl
theorem one70 : oneT Tryd.prog 70 = true := by kernel_rfl
theorem el70 : El Tryd.prog 70 179 1 24 (.slice none 0 0) := ⟨Tryd.underlying70, by kernel_rfl, by kernel_rfl, by decide⟩
theorem ze70 : zeroT Tryd.prog 70 = some (.slice none 0 0) := by kernel_rfl
theorem sl71 : isSliceT Tryd.prog 71 = true := by kernel_rfl
theorem one71 : oneT Tryd.prog 71 = true := by kernel_rfl
theorem el71 : El Tryd.prog 71 183 1 24 (.slice none 0 0) := ⟨Tryd.underlying71, by kernel_rfl, by kernel_rfl, by decide⟩
theorem ze71 : zeroT Tryd.prog 71 = some (.slice none 0 0) := by kernel_rfl
theorem sl72 : isSliceT Tryd.prog 72 = true := by kernel_rfl
theorem one72 : oneT Tryd.prog 72 = true := by kernel_rfl
theorem el72 : El Tryd.prog 72 187 1 24 (.slice none 0 0) := ⟨Tryd.underlying72, by kernel_rfl, by kernel_rfl, by decide⟩
theorem ze72 : zeroT Tryd.prog 72 = some (.slice none 0 0) := by kernel_rfl
theorem sl73 : isSliceT Tryd.prog 73 = true := by kernel_rfl
theorem one73 : oneT Tryd.prog 73 = true := by kernel_rfl
theorem el73 : El Tryd.prog 73 191 1 24 (.slice none 0 0) := ⟨Tryd.underlying73, by kernel_rfl, by kernel_rfl, by decide⟩
theorem ze73 : zeroT Tryd.prog 73 = some (.slice none 0 0) := by kernel_rfl
theorem sl74 : isSliceT Tryd.prog 74 = true := by kernel_rfl
theorem one74 : oneT Tryd.prog 74 = true := by kernel_rfl
theorem el74 : El Tryd.prog 74 71 1 24 (.slice none 0 0) := ⟨Tryd.underlying74, by kernel_rfl, by kernel_rfl, by decide⟩
theorem ze74 : zeroT Tryd.prog 74 = some (.slice none 0 0) := by kernel_rfl
theorem ag75 : aggT Tryd.prog 75 21 = true := by kernel_rfl
theorem ze75 : zeroT Tryd.prog 75 = some (.agg #[(.slice none 0 0), (.slice none 0 0), (.slice none 0 0), (.slice none 0 0), (.slice none 0 0), (.slice none 0 0), (.slice none 0 0), (.slice none 0 0), (.slice none 0 0), (.slice none 0 0), (.slice none 0 0), (.slice none 0 0), (.slice none 0 0), (.slice none 0 0), (.slice none 0 0), (.slice none 0 0), (.slice none 0 0), (.slice none 0 0), (.slice none 0 0), (.slice none 0 0), (.slice none 0 0)]) := by kernel_rfl
theorem of75_0 : offT Tryd.prog 75 0 = some 0 := by kernel_rfl
theorem of75_1 : offT Tryd.prog 75 1 = some 1 := by kernel_rfl
theorem of75_2 : offT Tryd.prog 75 2 = some 2 := by kernel_rfl
theorem of75_3 : offT Tryd.prog 75 3 = some 3 := by kernel_rfl
theorem of75_4 : offT Tryd.prog 75 4 = some 4 := by kernel_rfl
theorem of75_5 : offT Tryd.prog 75 5 = some 5 := by kernel_rfl
theorem of75_6 : offT Tryd.prog 75 6 = some 6 := by kernel_rfl
theorem of75_7 : offT Tryd.prog 75 7 = some 7 := by kernel_rfl
theorem of75_8 : offT Tryd.prog 75 8 = some 8 := by kernel_rfl
theorem of75_9 : offT Tryd.prog 75 9 = some 9 := by kernel_rfl
theorem of75_10 : offT Tryd.prog 75 10 = some 10 := by kernel_rfl
theorem of75_11 : offT Tryd.prog 75 11 = some 11 := by kernel_rfl
theorem of75_12 : offT Tryd.prog 75 12 = some 12 := by kernel_rfl
theorem of75_13 : offT Tryd.prog 75 13 = some 13 := by kernel_rfl
theorem of75_14 : offT Tryd.prog 75 14 = some 14 := by kernel_rfl
theorem of75_15 : offT Tryd.prog 75 15 = some 15 := by kernel_rfl
theorem of75_16 : offT Tryd.prog 75 16 = some 16 := by kernel_rfl
theorem of75_17 : offT Tryd.prog 75 17 = some 17 := by kernel_rfl
theorem of75_18 : offT Tryd.prog 75 18 = some 18 := by kernel_rfl
theorem of75_19 : offT Tryd.prog 75 19 = some 19 := by kernel_rfl
theorem of75_20 : offT Tryd.prog 75 20 = some 20 := by kernel_rfl
theorem ag76 : aggT Tryd.prog 76 21 = true := by kernel_rfl
theorem ze76 : zeroT Tryd.prog 76 = some (.agg #[(.slice none 0 0), (.slice none 0 0), (.slice none 0 0), (.slice none 0 0), (.slice none 0 0), (.slice none 0 0), (.slice none 0 0), (.slice none 0 0), (.slice none 0 0), (.slice none 0 0), (.slice none 0 0), (.slice none 0 0), (.slice none 0 0), (.slice none 0 0), (.slice none 0 0), (.slice none 0 0), (.slice none 0 0), (.slice none 0 0), (.slice none 0 0), (.slice none 0 0), (.slice none 0 0)]) := by kernel_rfl
theorem of76_0 : offT Tryd.prog 76 0 = some 0 := by kernel_rfl
theorem of76_1 : offT Tryd.prog 76 1 = some 1 := by kernel_rfl
theorem of76_2 : offT Tryd.prog 76 2 = some 2 := by kernel_rfl
theorem of76_3 : offT Tryd.prog 76 3 = some 3 := by kernel_rfl
theorem of76_4 : offT Tryd.prog 76 4 = some 4 := by kernel_rfl
theorem of76_5 : offT Tryd.prog 76 5 = some 5 := by kernel_rfl
theorem of76_6 : offT Tryd.prog 76 6 = some 6 := by kernel_rfl
theorem of76_7 : offT Tryd.prog 76 7 = some 7 := by kernel_rfl
theorem of76_8 : offT Tryd.prog 76 8 = some 8 := by kernel_rfl
theorem of76_9 : offT Tryd.prog 76 9 = some 9 := by kernel_rfl
theorem of76_10 : offT Tryd.prog 76 10 = some 10 := by kernel_rfl
theorem of76_11 : offT Tryd.prog 76 11 = some 11 := by kernel_rfl
theorem of76_12 : offT Tryd.prog 76 12 = some 12 := by kernel_rfl
theorem of76_13 : offT Tryd.prog 76 13 = some 13 := by kernel_rfl
theorem of76_14 : offT Tryd.prog 76 14 = some 14 := by kernel_rfl
theorem of76_15 : offT Tryd.prog 76 15 = some 15 := by kernel_rfl
theorem of76_16 : offT Tryd.prog 76 16 = some 16 := by kernel_rfl
theorem of76_17 : offT Tryd.prog 76 17 = some 17 := by kernel_rfl
theorem of76_18 : offT Tryd.prog 76 18 = some 18 := by kernel_rfl
theorem of76_19 : offT Tryd.prog 76 19 = some 19 := by kernel_rfl
theorem of76_20 : offT Tryd.prog 76 20 = some 20 := by kernel_rfl
theorem fu77 : isFuncT Tryd.prog 77 = true := by kernel_rfl
theorem one77 : oneT Tryd.prog 77 = true := by kernel_rfl
theorem ze77 : zeroT Tryd.prog 77 = some .nilFunc := by kernel_rfl
theorem fu78 : isFuncT Tryd.prog 78 = true := by kernel_rfl
theorem one78 : oneT Tryd.prog 78 = true := by kernel_rfl
theorem ze78 : zeroT Tryd.prog 78 = some .nilFunc := by kernel_rfl
theorem fu79 : isFuncT Tryd.prog 79 = true := by kernel_rfl
theorem one79 : oneT Tryd.prog 79 = true := by kernel_rfl
theorem ze79 : zeroT Tryd.prog 79 = some .nilFunc := by kernel_rfl
theorem fu80 : isFuncT Tryd.prog 80 = true := by kernel_rfl
theorem one80 : oneT Tryd.prog 80 = true := by kernel_rfl
theorem ze80 : zeroT Tryd.prog 80 = some .nilFunc := by kernel_rfl
theorem it81 : intT Tryd.prog 81 = some .u32 := by kernel_rfl
theorem one81 : oneT Tryd.prog 81 = true := by kernel_rfl
theorem ze81 : zeroT Tryd.prog 81 = some (.int .u32 0) := by kernel_rfl
theorem fu82 : isFuncT Tryd.prog 82 = true := by kernel_rfl
theorem one82 : oneT Tryd.prog 82 = true := by kernel_rfl
theorem ze82 : zeroT Tryd.prog 82 = some .nilFunc := by kernel_rfl
theorem fu83 : isFuncT Tryd.prog 83 = true := by kernel_rfl
theorem one83 : oneT Tryd.prog 83 = true := by kernel_rfl
theorem ze83 : zeroT Tryd.prog 83 = some .nilFunc := by kernel_rfl
theorem fu84 : isFuncT Tryd.prog 84 = true := by kernel_rfl
theorem one84 : oneT Tryd.prog 84 = true := by kernel_rfl
theorem ze84 : zeroT Tryd.prog 84 = some .nilFunc := by kernel_rfl
theorem it85 : intT Tryd.prog 85 = some .u64 := by kernel_rfl
theorem one85 : oneT Tryd.prog 85 = true := by kernel_rfl
theorem ze85 : zeroT Tryd.prog 85 = some (.int .u64 0) := by kernel_rfl
theorem ag86 : aggT Tryd.prog 86 3 = true := by kernel_rfl
theorem ze86 : zeroT Tryd.prog 86 = some (.agg #[(.bool false), (.slice none 0 0), (.int .i64 0)]) := by kernel_rfl
theorem of86_0 : offT Tryd.prog 86 0 = some 0 := by kernel_rfl
theorem of86_1 : offT Tryd.prog 86 1 = some 1 := by kernel_rfl
theorem of86_2 : offT Tryd.prog 86 2 = some 2 := by kernel_rfl
theorem ag87 : aggT Tryd.prog 87 3 = true := by kernel_rfl
theorem ze87 : zeroT Tryd.prog 87 = some (.agg #[(.bool false), (.slice none 0 0), (.int .i64 0)]) := by kernel_rfl
theorem of87_0 : offT Tryd.prog 87 0 = some 0 := by kernel_rfl
theorem of87_1 : offT Tryd.prog 87 1 = some 1 := by kernel_rfl
theorem of87_2 : offT Tryd.prog 87 2 = some 2 := by kernel_rfl
theorem fu88 : isFuncT Tryd.prog 88 = true := by kernel_rfl
theorem one88 : oneT Tryd.prog 88 = true := by kernel_rfl
theorem ze88 : zeroT Tryd.prog 88 = some .nilFunc := by kernel_rfl
theorem fu89 : isFuncT Tryd.prog 89 = true := by kernel_rfl
theorem one89 : oneT Tryd.prog 89 = true := by kernel_rfl
theorem ze89 : zeroT Tryd.prog 89 = some .nilFunc := by kernel_rfl
theorem fu90 : isFuncT Tryd.prog 90 = true := by kernel_rfl
theorem one90 : oneT Tryd.prog 90 = true := by kernel_rfl
theorem ze90 : zeroT Tryd.prog 90 = some .nilFunc := by kernel_rfl
theorem fu91 : isFuncT Tryd.prog 91 = true := by kernel_rfl
theorem one91 : oneT Tryd.prog 91 = true := by kernel_rfl
theorem ze91 : zeroT Tryd.prog 91 = some .nilFunc := by kernel_rfl
theorem fu92 : isFuncT Tryd.prog 92 = true := by kernel_rfl
theorem one92 : oneT Tryd.prog 92 = true := by kernel_rfl
theorem ze92 : zeroT Tryd.prog 92 = some .nilFunc := by kernel_rfl
theorem fu93 : isFuncT Tryd.prog 93 = true := by kernel_rfl
theorem one93 : oneT Tryd.prog 93 = true := by kernel_rfl
theorem ze93 : zeroT Tryd.prog 93 = some .nilFunc := by kernel_rfl
theorem fu94 : isFuncT Tryd.prog 94 = true := by kernel_rfl
theorem one94 : oneT Tryd.prog 94 = true := by kernel_rfl
theorem ze94 : zeroT Tryd.prog 94 = some .nilFunc := by kernel_rfl
theorem fu95 : isFuncT Tryd.prog 95 = true := by kernel_rfl
theorem one95 : oneT Tryd.prog 95 = true := by kernel_rfl
theorem ze95 : zeroT Tryd.prog 95 = some .nilFunc := by kernel_rfl
theorem fu96 : isFuncT Tryd.prog 96 = true := by kernel_rfl
theorem one96 : oneT Tryd.prog 96 = true := by kernel_rfl
theorem ze96 : zeroT Tryd.prog 96 = some .nilFunc := by kernel_rfl
theorem fu97 : isFuncT Tryd.prog 97 = true := by kernel_rfl
theorem one97 : oneT Tryd.prog 97 = true := by kernel_rfl
theorem ze97 : zeroT Tryd.prog 97 = some .nilFunc := by kernel_rfl
theorem fu98 : isFuncT Tryd.prog 98 = true := by kernel_rfl
theorem one98 : oneT Tryd.prog 98 = true := by kernel_rfl
theorem ze98 : zeroT Tryd.prog 98 = some .nilFunc := by kernel_rfl
theorem fu99 : isFuncT Tryd.prog 99 = true := by kernel_rfl
theorem one99 : oneT Tryd.prog 99 = true := by kernel_rfl
theorem ze99 : zeroT Tryd.prog 99 = some .nilFunc := by kernel_rfl
theorem fu100 : isFuncT Tryd.prog 100 = true := by kernel_rfl
theorem one100 : oneT Tryd.prog 100 = true := by kernel_rfl
theorem ze100 : zeroT Tryd.prog 100 = some .nilFunc := by kernel_rfl
theorem fu101 : isFuncT Tryd.prog 101 = true := by kernel_rfl
theorem one101 : oneT Tryd.prog 101 = true := by kernel_rfl
theorem ze101 : zeroT Tryd.prog 101 = some .nilFunc := by kernel_rfl
theorem fu102 : isFuncT Tryd.prog 102 = true := by kernel_rfl
theorem one102 : oneT Tryd.prog 102 = true := by kernel_rfl
theorem ze102 : zeroT Tryd.prog 102 = some .nilFunc := by kernel_rfl
theorem fu103 : isFuncT Tryd.prog 103 = true := by kernel_rfl
theorem one103 : oneT Tryd.prog 103 = true := by kernel_rfl
theorem ze103 : zeroT Tryd.prog 103 = some .nilFunc := by kernel_rfl
theorem fu104 : isFuncT Tryd.prog 104 = true := by kernel_rfl
theorem one104 : oneT Tryd.prog 104 = true := by kernel_rfl
theorem ze104 : zeroT Tryd.prog 104 = some .nilFunc := by kernel_rfl
theorem fu105 : isFuncT Tryd.prog 105 = true := by kernel_rfl
theorem one105 : oneT Tryd.prog 105 = true := by kernel_rfl
theorem ze105 : zeroT Tryd.prog 105 = some .nilFunc := by kernel_rfl
theorem fu106 : isFuncT Tryd.prog 106 = true := by kernel_rfl
theorem one106 : oneT Tryd.prog 106 = true := by kernel_rfl
theorem ze106 : zeroT Tryd.prog 106 = some .nilFunc := by kernel_rfl
theorem fu107 : isFuncT Tryd.prog 107 = true := by kernel_rfl
theorem one107 : oneT Tryd.prog 107 = true := by kernel_rfl
theorem ze107 : zeroT Tryd.prog 107 = some .nilFunc := by kernel_rfl
theorem fu108 : isFuncT Tryd.prog 108 = true := by kernel_rfl
theorem one108 : oneT Tryd.prog 108 = true := by kernel_rfl
theorem ze108 : zeroT Tryd.prog 108 = some .nilFunc := by kernel_rfl
theorem fu109 : isFuncT Tryd.prog 109 = true := by kernel_rfl
theorem one109 : oneT Tryd.prog 109 = true := by kernel_rfl
theorem ze109 : zeroT Tryd.prog 109 = some .nilFunc := by kernel_rfl
theorem fu110 : isFuncT Tryd.prog 110 = true := by kernel_rfl
theorem one110 : oneT Tryd.prog 110 = true := by kernel_rfl
theorem ze110 : zeroT Tryd.prog 110 = some .nilFunc := by kernel_rfl
theorem fu111 : isFuncT Tryd.prog 111 = true := by kernel_rfl
theorem one111 : oneT Tryd.prog 111 = true := by kernel_rfl
theorem ze111 : zeroT Tryd.prog 111 = some .nilFunc := by kernel_rfl
theorem fu112 : isFuncT Tryd.prog 112 = true := by kernel_rfl
theorem one112 : oneT Tryd.prog 112 = true := by kernel_rfl
theorem ze112 : zeroT Tryd.prog 112 = some .nilFunc := by kernel_rfl
theorem fu113 : isFuncT Tryd.prog 113 = true := by kernel_rfl
theorem one113 : oneT Tryd.prog 113 = true := by kernel_rfl
theorem ze113 : zeroT Tryd.prog 113 = some .nilFunc := by kernel_rfl
theorem fu114 : isFuncT Tryd.prog 114 = true := by kernel_rfl
theorem one114 : oneT Tryd.prog 114 = true := by kernel_rfl
theorem ze114 : zeroT Tryd.prog 114 = some .nilFunc := by kernel_rfl
theorem it115 : intT Tryd.prog 115 = some .u64 := by kernel_rfl
theorem one115 : oneT Tryd.prog 115 = true := by kernel_rfl
theorem ze115 : zeroT Tryd.prog 115 = some (.int .u64 0) := by kernel_rfl
theorem fu117 : isFuncT Tryd.prog 117 = true := by kernel_rfl
theorem one117 : oneT Tryd.prog 117 = true := by kernel_rfl
theorem ze117 : zeroT Tryd.prog 117 = some .nilFunc := by kernel_rfl
theorem fu118 : isFuncT Tryd.prog 118 = true := by kernel_rfl
theorem one118 : oneT Tryd.prog 118 = true := by kernel_rfl
theorem ze118 : zeroT Tryd.prog 118 = some .nilFunc := by kernel_rfl
theorem sl119 : isSliceT Tryd.prog 119 = true := by kernel_rfl
theorem one119 : oneT Tryd.prog 119 = true := by kernel_rfl
theorem el119 : El Tryd.prog 119 3 1 8 (.int .i64 0) := ⟨Tryd.underlying119, by kernel_rfl, by kernel_rfl, by decide⟩
theorem ze119 : zeroT Tryd.prog 119 = some (.slice none 0 0) := by kernel_rfl
theorem fu120 : isFuncT Tryd.prog 120 = true := by kernel_rfl
theorem one120 : oneT Tryd.prog 120 = true := by kernel_rfl
theorem ze120 : zeroT Tryd.prog 120 = some .nilFunc := by kernel_rfl
theorem fu121 : isFuncT Tryd.prog 121 = true := by kernel_rfl
theorem one121 : oneT Tryd.prog 121 = true := by kernel_rfl
theorem ze121 : zeroT Tryd.prog 121 = some .nilFunc := by kernel_rfl
theorem fu122 : isFuncT Tryd.prog 122 = true := by kernel_rfl
theorem one122 : oneT Tryd.prog 122 = true := by kernel_rfl
theorem ze122 : zeroT Tryd.prog 122 = some .nilFunc := by kernel_rfl
theorem sl123 : isSliceT Tryd.prog 123 = true := by kernel_rfl
theorem one123 : oneT Tryd.prog 123 = true := by kernel_rfl
theorem el123 : El Tryd.prog 123 125 2 32 (.agg #[(.string ByteArray.empty), (.string ByteArray.empty)]) := ⟨Tryd.underlying123, by kernel_rfl, by kernel_rfl, by decide⟩
theorem ze123 : zeroT Tryd.prog 123 = some (.slice none 0 0) := by kernel_rfl
theorem ag124 : aggT Tryd.prog 124 2 = true := by kernel_rfl
theorem ze124 : zeroT Tryd.prog 124 = some (.agg #[(.string ByteArray.empty), (.string ByteArray.empty)]) := by kernel_rfl
theorem of124_0 : offT Tryd.prog 124 0 = some 0 := by kernel_rfl
theorem of124_1 : offT Tryd.prog 124 1 = some 1 := by kernel_rfl
theorem ag125 : aggT Tryd.prog 125 2 = true := by kernel_rfl
theorem ze125 : zeroT Tryd.prog 125 = some (.agg #[(.string ByteArray.empty), (.string ByteArray.empty)]) := by kernel_rfl
theorem of125_0 : offT Tryd.prog 125 0 = some 0 := by kernel_rfl
theorem of125_1 : offT Tryd.prog 125 1 = some 1 := by kernel_rfl
theorem fu126 : isFuncT Tryd.prog 126 = true := by kernel_rfl
theorem one126 : oneT Tryd.prog 126 = true := by kernel_rfl
theorem ze126 : zeroT Tryd.prog 126 = some .nilFunc := by kernel_rfl
theorem sl127 : isSliceT Tryd.prog 127 = true := by kernel_rfl
theorem one127 : oneT Tryd.prog 127 = true := by kernel_rfl
theorem el127 : El Tryd.prog 127 129 3 40 (.agg #[(.int .i8 0), (.string ByteArray.empty), (.string ByteArray.empty)]) := ⟨Tryd.underlying127, by kernel_rfl, by kernel_rfl, by decide⟩
theorem ze127 : zeroT Tryd.prog 127 = some (.slice none 0 0) := by kernel_rfl
theorem ag128 : aggT Tryd.prog 128 3 = true := by kernel_rfl
theorem ze128 : zeroT Tryd.prog 128 = some (.agg #[(.int .i8 0), (.string ByteArray.empty), (.string ByteArray.empty)]) := by kernel_rfl
theorem of128_0 : offT Tryd.prog 128 0 = some 0 := by kernel_rfl
theorem of128_1 : offT Tryd.prog 128 1 = some 1 := by kernel_rfl
theorem ag129 : aggT Tryd.prog 129 3 = true := by kernel_rfl
theorem ze129 : zeroT Tryd.prog 129 = some (.agg #[(.int .i8 0), (.string ByteArray.empty), (.string ByteArray.empty)]) := by kernel_rfl
theorem of129_0 : offT Tryd.prog 129 0 = some 0 := by kernel_rfl
theorem of129_1 : offT Tryd.prog 129 1 = some 1 := by kernel_rfl
theorem fu130 : isFuncT Tryd.prog 130 = true := by kernel_rfl
theorem one130 : oneT Tryd.prog 130 = true := by kernel_rfl
theorem ze130 : zeroT Tryd.prog 130 = some .nilFunc := by kernel_rfl
theorem sl131 : isSliceT Tryd.prog 131 = true := by kernel_rfl
theorem one131 : oneT Tryd.prog 131 = true := by kernel_rfl
theorem el131 : El Tryd.prog 131 133 11 144 (.agg #[(.int .i8 0), (.string ByteArray.empty), (.slice none 0 0), (.slice none 0 0), (.int .i32 0), (.bool false), (.bool false), (.int .i64 0), (.int .i32 0), (.slice none 0 0), (.slice none 0 0)]) := ⟨Tryd.underlying131, by kernel_rfl, by kernel_rfl, by decide⟩
theorem ze131 : zeroT Tryd.prog 131 = some (.slice none 0 0) := by kernel_rfl
theorem ag132 : aggT Tryd.prog 132 11 = true := by kernel_rfl
theorem ze132 : zeroT Tryd.prog 132 = some (.agg #[(.int .i8 0), (.string ByteArray.empty), (.slice none 0 0), (.slice none 0 0), (.int .i32 0), (.bool false), (.bool false), (.int .i64 0), (.int .i32 0), (.slice none 0 0), (.slice none 0 0)]) := by kernel_rfl
theorem of132_0 : offT Tryd.prog 132 0 = some 0 := by kernel_rfl
theorem of132_1 : offT Tryd.prog 132 1 = some 1 := by kernel_rfl
theorem of132_2 : offT Tryd.prog 132 2 = some 2 := by kernel_rfl
theorem of132_3 : offT Tryd.prog 132 3 = some 3 := by kernel_rfl
theorem of132_4 : offT Tryd.prog 132 4 = some 4 := by kernel_rfl
theorem of132_5 : offT Tryd.prog 132 5 = some 5 := by kernel_rfl
theorem of132_6 : offT Tryd.prog 132 6 = some 6 := by kernel_rfl
theorem of132_7 : offT Tryd.prog 132 7 = some 7 := by kernel_rfl
theorem of132_8 : offT Tryd.prog 132 8 = some 8 := by kernel_rfl
theorem of132_9 : offT Tryd.prog 132 9 = some 9 := by kernel_rfl
theorem of132_10 : offT Tryd.prog 132 10 = some 10 := by kernel_rfl
theorem ag133 : aggT Tryd.prog 133 11 = true := by kernel_rfl
theorem ze133 : zeroT Tryd.prog 133 = some (.agg #[(.int .i8 0), (.string ByteArray.empty), (.slice none 0 0), (.slice none 0 0), (.int .i32 0), (.bool false), (.bool false), (.int .i64 0), (.int .i32 0), (.slice none 0 0), (.slice none 0 0)]) := by kernel_rfl
theorem of133_0 : offT Tryd.prog 133 0 = some 0 := by kernel_rfl
theorem of133_1 : offT Tryd.prog 133 1 = some 1 := by kernel_rfl
theorem of133_2 : offT Tryd.prog 133 2 = some 2 := by kernel_rfl
theorem of133_3 : offT Tryd.prog 133 3 = some 3 := by kernel_rfl
theorem of133_4 : offT Tryd.prog 133 4 = some 4 := by kernel_rfl
theorem of133_5 : offT Tryd.prog 133 5 = some 5 := by kernel_rfl
theorem of133_6 : offT Tryd.prog 133 6 = some 6 := by kernel_rfl
theorem of133_7 : offT Tryd.prog 133 7 = some 7 := by kernel_rfl
theorem of133_8 : offT Tryd.prog 133 8 = some 8 := by kernel_rfl
theorem of133_9 : offT Tryd.prog 133 9 = some 9 := by kernel_rfl
theorem of133_10 : offT Tryd.prog 133 10 = some 10 := by kernel_rfl
theorem fu134 : isFuncT Tryd.prog 134 = true := by kernel_rfl
theorem one134 : oneT Tryd.prog 134 = true := by kernel_rfl
theorem ze134 : zeroT Tryd.prog 134 = some .nilFunc := by kernel_rfl
theorem sl135 : isSliceT Tryd.prog 135 = true := by kernel_rfl
theorem one135 : oneT Tryd.prog 135 = true := by kernel_rfl
theorem el135 : El Tryd.prog 135 141 16 168 (.agg #[(.int .u32 0), (.int .u32 0), (.int .i8 0), (.int .u32 0), (.int .i64 0), (.int .i8 0), (.string ByteArray.empty), (.slice none 0 0), (.slice none 0 0), (.int .i32 0), (.bool false), (.bool false), (.int .i64 0), (.int .i32 0), (.slice none 0 0), (.slice none 0 0)]) := ⟨Tryd.underlying135, by kernel_rfl, by kernel_rfl, by decide⟩
theorem ze135 : zeroT Tryd.prog 135 = some (.slice none 0 0) := by kernel_rfl
theorem ag136 : aggT Tryd.prog 136 3 = true := by kernel_rfl
theorem ze136 : zeroT Tryd.prog 136 = some (.agg #[(.int .i8 0), (.int .u32 0), (.int .i64 0)]) := by kernel_rfl
theorem of136_0 : offT Tryd.prog 136 0 = some 0 := by kernel_rfl
theorem of136_1 : offT Tryd.prog 136 1 = some 1 := by kernel_rfl
theorem of136_2 : offT Tryd.prog 136 2 = some 2 := by kernel_rfl
theorem ag137 : aggT Tryd.prog 137 3 = true := by kernel_rfl
theorem ze137 : zeroT Tryd.prog 137 = some (.agg #[(.int .i8 0), (.int .u32 0), (.int .i64 0)]) := by kernel_rfl
theorem of137_0 : offT Tryd.prog 137 0 = some 0 := by kernel_rfl
theorem of137_1 : offT Tryd.prog 137 1 = some 1 := by kernel_rfl
theorem of137_2 : offT Tryd.prog 137 2 = some 2 := by kernel_rfl
theorem ag138 : aggT Tryd.prog 138 2 = true := by kernel_rfl
theorem ze138 : zeroT Tryd.prog 138 = some (.agg #[(.int .u32 0), (.int .u32 0)]) := by kernel_rfl
theorem of138_0 : offT Tryd.prog 138 0 = some 0 := by kernel_rfl
theorem of138_1 : offT Tryd.prog 138 1 = some 1 := by kernel_rfl
theorem ag139 : aggT Tryd.prog 139 2 = true := by kernel_rfl
theorem ze139 : zeroT Tryd.prog 139 = some (.agg #[(.int .u32 0), (.int .u32 0)]) := by kernel_rfl
theorem of139_0 : offT Tryd.prog 139 0 = some 0 := by kernel_rfl
theorem of139_1 : offT Tryd.prog 139 1 = some 1 := by kernel_rfl
theorem ag140 : aggT Tryd.prog 140 16 = true := by kernel_rfl
theorem ze140 : zeroT Tryd.prog 140 = some (.agg #[(.int .u32 0), (.int .u32 0), (.int .i8 0), (.int .u32 0), (.int .i64 0), (.int .i8 0), (.string ByteArray.empty), (.slice none 0 0), (.slice none 0 0), (.int .i32 0), (.bool false), (.bool false), (.int .i64 0), (.int .i32 0), (.slice none 0 0), (.slice none 0 0)]) := by kernel_rfl
theorem of140_0 : offT Tryd.prog 140 0 = some 0 := by kernel_rfl
theorem of140_1 : offT Tryd.prog 140 1 = some 2 := by kernel_rfl
theorem of140_2 : offT Tryd.prog 140 2 = some 5 := by kernel_rfl
theorem ag141 : aggT Tryd.prog 141 16 = true := by kernel_rfl
theorem ze141 : zeroT Tryd.prog 141 = some (.agg #[(.int .u32 0), (.int .u32 0), (.int .i8 0), (.int .u32 0), (.int .i64 0), (.int .i8 0), (.string ByteArray.empty), (.slice none 0 0), (.slice none 0 0), (.int .i32 0), (.bool false), (.bool false), (.int .i64 0), (.int .i32 0), (.slice none 0 0), (.slice none 0 0)]) := by kernel_rfl
theorem of141_0 : offT Tryd.prog 141 0 = some 0 := by kernel_rfl
theorem of141_1 : offT Tryd.prog 141 1 = some 2 := by kernel_rfl
theorem of141_2 : offT Tryd.prog 141 2 = some 5 := by kernel_rfl
theorem fu142 : isFuncT Tryd.prog 142 = true := by kernel_rfl
theorem one142 : oneT Tryd.prog 142 = true := by kernel_rfl
theorem ze142 : zeroT Tryd.prog 142 = some .nilFunc := by kernel_rfl
theorem sl143 : isSliceT Tryd.prog 143 = true := by kernel_rfl
theorem one143 : oneT Tryd.prog 143 = true := by kernel_rfl
theorem el143 : El Tryd.prog 143 147 19 192 (.agg #[(.int .i64 0), (.string ByteArray.empty), (.slice none 0 0), (.slice none 0 0), (.int .u32 0), (.int .u32 0), (.int .u32 0), (.int .u32 0), (.int .u32 0), (.int .u32 0), (.int .i32 0), (.int .i32 0), (.int .i32 0), (.int .i64 0), (.int .i64 0), (.int .i64 0), (.slice none 0 0), (.int .i64 0), (.slice none 0 0)]) := ⟨Tryd.underlying143, by kernel_rfl, by kernel_rfl, by decide⟩
theorem ze143 : zeroT Tryd.prog 143 = some (.slice none 0 0) := by kernel_rfl
theorem ag144 : aggT Tryd.prog 144 12 = true := by kernel_rfl
theorem ze144 : zeroT Tryd.prog 144 = some (.agg #[(.int .u32 0), (.int .u32 0), (.int .u32 0), (.int .u32 0), (.int .u32 0), (.int .u32 0), (.int .i32 0), (.int .i32 0), (.int .i32 0), (.int .i64 0), (.int .i64 0), (.int .i64 0)]) := by kernel_rfl
theorem of144_0 : offT Tryd.prog 144 0 = some 0 := by kernel_rfl
theorem of144_1 : offT Tryd.prog 144 1 = some 2 := by kernel_rfl
theorem of144_2 : offT Tryd.prog 144 2 = some 4 := by kernel_rfl
theorem of144_3 : offT Tryd.prog 144 3 = some 6 := by kernel_rfl
theorem of144_4 : offT Tryd.prog 144 4 = some 7 := by kernel_rfl
theorem of144_5 : offT Tryd.prog 144 5 = some 8 := by kernel_rfl
theorem of144_6 : offT Tryd.prog 144 6 = some 9 := by kernel_rfl
theorem of144_7 : offT Tryd.prog 144 7 = some 10 := by kernel_rfl
theorem of144_8 : offT Tryd.prog 144 8 = some 11 := by kernel_rfl
theorem ag145 : aggT Tryd.prog 145 12 = true := by kernel_rfl
theorem ze145 : zeroT Tryd.prog 145 = some (.agg #[(.int .u32 0), (.int .u32 0), (.int .u32 0), (.int .u32 0), (.int .u32 0), (.int .u32 0), (.int .i32 0), (.int .i32 0), (.int .i32 0), (.int .i64 0), (.int .i64 0), (.int .i64 0)]) := by kernel_rfl
theorem of145_0 : offT Tryd.prog 145 0 = some 0 := by kernel_rfl
theorem of145_1 : offT Tryd.prog 145 1 = some 2 := by kernel_rfl
theorem of145_2 : offT Tryd.prog 145 2 = some 4 := by kernel_rfl
theorem of145_3 : offT Tryd.prog 145 3 = some 6 := by kernel_rfl
theorem of145_4 : offT Tryd.prog 145 4 = some 7 := by kernel_rfl
theorem of145_5 : offT Tryd.prog 145 5 = some 8 := by kernel_rfl
theorem of145_6 : offT Tryd.prog 145 6 = some 9 := by kernel_rfl
theorem of145_7 : offT Tryd.prog 145 7 = some 10 := by kernel_rfl
theorem of145_8 : offT Tryd.prog 145 8 = some 11 := by kernel_rfl
theorem ag146 : aggT Tryd.prog 146 19 = true := by kernel_rfl
theorem ze146 : zeroT Tryd.prog 146 = some (.agg #[(.int .i64 0), (.string ByteArray.empty), (.slice none 0 0), (.slice none 0 0), (.int .u32 0), (.int .u32 0), (.int .u32 0), (.int .u32 0), (.int .u32 0), (.int .u32 0), (.int .i32 0), (.int .i32 0), (.int .i32 0), (.int .i64 0), (.int .i64 0), (.int .i64 0), (.slice none 0 0), (.int .i64 0), (.slice none 0 0)]) := by kernel_rfl
theorem of146_0 : offT Tryd.prog 146 0 = some 0 := by kernel_rfl
theorem of146_1 : offT Tryd.prog 146 1 = some 1 := by kernel_rfl
theorem of146_2 : offT Tryd.prog 146 2 = some 2 := by kernel_rfl
theorem of146_3 : offT Tryd.prog 146 3 = some 3 := by kernel_rfl
theorem of146_4 : offT Tryd.prog 146 4 = some 4 := by kernel_rfl
theorem of146_5 : offT Tryd.prog 146 5 = some 16 := by kernel_rfl
theorem of146_6 : offT Tryd.prog 146 6 = some 17 := by kernel_rfl
theorem of146_7 : offT Tryd.prog 146 7 = some 18 := by kernel_rfl
theorem ag147 : aggT Tryd.prog 147 19 = true := by kernel_rfl
theorem ze147 : zeroT Tryd.prog 147 = some (.agg #[(.int .i64 0), (.string ByteArray.empty), (.slice none 0 0), (.slice none 0 0), (.int .u32 0), (.int .u32 0), (.int .u32 0), (.int .u32 0), (.int .u32 0), (.int .u32 0), (.int .i32 0), (.int .i32 0), (.int .i32 0), (.int .i64 0), (.int .i64 0), (.int .i64 0), (.slice none 0 0), (.int .i64 0), (.slice none 0 0)]) := by kernel_rfl
theorem of147_0 : offT Tryd.prog 147 0 = some 0 := by kernel_rfl
theorem of147_1 : offT Tryd.prog 147 1 = some 1 := by kernel_rfl
theorem of147_2 : offT Tryd.prog 147 2 = some 2 := by kernel_rfl
theorem of147_3 : offT Tryd.prog 147 3 = some 3 := by kernel_rfl
theorem of147_4 : offT Tryd.prog 147 4 = some 4 := by kernel_rfl
theorem of147_5 : offT Tryd.prog 147 5 = some 16 := by kernel_rfl
theorem of147_6 : offT Tryd.prog 147 6 = some 17 := by kernel_rfl
theorem of147_7 : offT Tryd.prog 147 7 = some 18 := by kernel_rfl
theorem fu148 : isFuncT Tryd.prog 148 = true := by kernel_rfl
theorem one148 : oneT Tryd.prog 148 = true := by kernel_rfl
theorem ze148 : zeroT Tryd.prog 148 = some .nilFunc := by kernel_rfl
theorem sl149 : isSliceT Tryd.prog 149 = true := by kernel_rfl
theorem one149 : oneT Tryd.prog 149 = true := by kernel_rfl
theorem el149 : El Tryd.prog 149 151 16 136 (.agg #[(.string ByteArray.empty), (.slice none 0 0), (.slice none 0 0), (.int .u32 0), (.int .u32 0), (.int .u32 0), (.int .u32 0), (.int .u32 0), (.int .u32 0), (.int .i32 0), (.int .i32 0), (.int .i32 0), (.int .i64 0), (.int .i64 0), (.int .i64 0), (.int .i32 0)]) := ⟨Tryd.underlying149, by kernel_rfl, by kernel_rfl, by decide⟩
theorem ze149 : zeroT Tryd.prog 149 = some (.slice none 0 0) := by kernel_rfl
theorem ag150 : aggT Tryd.prog 150 16 = true := by kernel_rfl
theorem ze150 : zeroT Tryd.prog 150 = some (.agg #[(.string ByteArray.empty), (.slice none 0 0), (.slice none 0 0), (.int .u32 0), (.int .u32 0), (.int .u32 0), (.int .u32 0), (.int .u32 0), (.int .u32 0), (.int .i32 0), (.int .i32 0), (.int .i32 0), (.int .i64 0), (.int .i64 0), (.int .i64 0), (.int .i32 0)]) := by kernel_rfl
theorem of150_0 : offT Tryd.prog 150 0 = some 0 := by kernel_rfl
theorem of150_1 : offT Tryd.prog 150 1 = some 1 := by kernel_rfl
theorem of150_2 : offT Tryd.prog 150 2 = some 2 := by kernel_rfl
theorem of150_3 : offT Tryd.prog 150 3 = some 3 := by kernel_rfl
theorem of150_4 : offT Tryd.prog 150 4 = some 15 := by kernel_rfl
theorem ag151 : aggT Tryd.prog 151 16 = true := by kernel_rfl
theorem ze151 : zeroT Tryd.prog 151 = some (.agg #[(.string ByteArray.empty), (.slice none 0 0), (.slice none 0 0), (.int .u32 0), (.int .u32 0), (.int .u32 0), (.int .u32 0), (.int .u32 0), (.int .u32 0), (.int .i32 0), (.int .i32 0), (.int .i32 0), (.int .i64 0), (.int .i64 0), (.int .i64 0), (.int .i32 0)]) := by kernel_rfl
theorem of151_0 : offT Tryd.prog 151 0 = some 0 := by kernel_rfl
theorem of151_1 : offT Tryd.prog 151 1 = some 1 := by kernel_rfl
theorem of151_2 : offT Tryd.prog 151 2 = some 2 := by kernel_rfl
theorem of151_3 : offT Tryd.prog 151 3 = some 3 := by kernel_rfl
theorem of151_4 : offT Tryd.prog 151 4 = some 15 := by kernel_rfl
theorem fu152 : isFuncT Tryd.prog 152 = true := by kernel_rfl
theorem one152 : oneT Tryd.prog 152 = true := by kernel_rfl
theorem ze152 : zeroT Tryd.prog 152 = some .nilFunc := by kernel_rfl
theorem sl153 : isSliceT Tryd.prog 153 = true := by kernel_rfl
theorem one153 : oneT Tryd.prog 153 = true := by kernel_rfl
theorem el153 : El Tryd.prog 153 155 2 16 (.agg #[(.int .i64 0), (.int .i32 0)]) := ⟨Tryd.underlying153, by kernel_rfl, by kernel_rfl, by decide⟩
theorem ze153 : zeroT Tryd.prog 153 = some (.slice none 0 0) := by kernel_rfl
theorem ag154 : aggT Tryd.prog 154 2 = true := by kernel_rfl
theorem ze154 : zeroT Tryd.prog 154 = some (.agg #[(.int .i64 0), (.int .i32 0)]) := by kernel_rfl
theorem of154_0 : offT Tryd.prog 154 0 = some 0 := by kernel_rfl
theorem of154_1 : offT Tryd.prog 154 1 = some 1 := by kernel_rfl
theorem ag155 : aggT Tryd.prog 155 2 = true := by kernel_rfl
theorem ze155 : zeroT Tryd.prog 155 = some (.agg #[(.int .i64 0), (.int .i32 0)]) := by kernel_rfl
theorem of155_0 : offT Tryd.prog 155 0 = some 0 := by kernel_rfl
theorem of155_1 : offT Tryd.prog 155 1 = some 1 := by kernel_rfl
theorem fu156 : isFuncT Tryd.prog 156 = true := by kernel_rfl
theorem one156 : oneT Tryd.prog 156 = true := by kernel_rfl
theorem ze156 : zeroT Tryd.prog 156 = some .nilFunc := by kernel_rfl
theorem sl157 : isSliceT Tryd.prog 157 = true := by kernel_rfl
theorem one157 : oneT Tryd.prog 157 = true := by kernel_rfl
theorem el157 : El Tryd.prog 157 159 2 24 (.agg #[(.int .i8 0), (.string ByteArray.empty)]) := ⟨Tryd.underlying157, by kernel_rfl, by kernel_rfl, by decide⟩
theorem ze157 : zeroT Tryd.prog 157 = some (.slice none 0 0) := by kernel_rfl
theorem ag158 : aggT Tryd.prog 158 2 = true := by kernel_rfl
theorem ze158 : zeroT Tryd.prog 158 = some (.agg #[(.int .i8 0), (.string ByteArray.empty)]) := by kernel_rfl
theorem of158_0 : offT Tryd.prog 158 0 = some 0 := by kernel_rfl
theorem of158_1 : offT Tryd.prog 158 1 = some 1 := by kernel_rfl
theorem ag159 : aggT Tryd.prog 159 2 = true := by kernel_rfl
theorem ze159 : zeroT Tryd.prog 159 = some (.agg #[(.int .i8 0), (.string ByteArray.empty)]) := by kernel_rfl
theorem of159_0 : offT Tryd.prog 159 0 = some 0 := by kernel_rfl
theorem of159_1 : offT Tryd.prog 159 1 = some 1 := by kernel_rfl
theorem fu160 : isFuncT Tryd.prog 160 = true := by kernel_rfl
theorem one160 : oneT Tryd.prog 160 = true := by kernel_rfl
theorem ze160 : zeroT Tryd.prog 160 = some .nilFunc := by kernel_rfl
theorem sl161 : isSliceT Tryd.prog 161 = true := by kernel_rfl
theorem one161 : oneT Tryd.prog 161 = true := by kernel_rfl
theorem el161 : El Tryd.prog 161 163 3 48 (.agg #[(.string ByteArray.empty), (.slice none 0 0), (.int .i64 0)]) := ⟨Tryd.underlying161, by kernel_rfl, by kernel_rfl, by decide⟩
theorem ze161 : zeroT Tryd.prog 161 = some (.slice none 0 0) := by kernel_rfl
theorem ag162 : aggT Tryd.prog 162 3 = true := by kernel_rfl
theorem ze162 : zeroT Tryd.prog 162 = some (.agg #[(.string ByteArray.empty), (.slice none 0 0), (.int .i64 0)]) := by kernel_rfl
theorem of162_0 : offT Tryd.prog 162 0 = some 0 := by kernel_rfl
theorem of162_1 : offT Tryd.prog 162 1 = some 1 := by kernel_rfl
theorem of162_2 : offT Tryd.prog 162 2 = some 2 := by kernel_rfl
theorem ag163 : aggT Tryd.prog 163 3 = true := by kernel_rfl
theorem ze163 : zeroT Tryd.prog 163 = some (.agg #[(.string ByteArray.empty), (.slice none 0 0), (.int .i64 0)]) := by kernel_rfl
theorem of163_0 : offT Tryd.prog 163 0 = some 0 := by kernel_rfl
theorem of163_1 : offT Tryd.prog 163 1 = some 1 := by kernel_rfl
theorem of163_2 : offT Tryd.prog 163 2 = some 2 := by kernel_rfl
theorem fu164 : isFuncT Tryd.prog 164 = true := by kernel_rfl
theorem one164 : oneT Tryd.prog 164 = true := by kernel_rfl
theorem ze164 : zeroT Tryd.prog 164 = some .nilFunc := by kernel_rfl
theorem sl165 : isSliceT Tryd.prog 165 = true := by kernel_rfl
theorem one165 : oneT Tryd.prog 165 = true := by kernel_rfl
theorem el165 : El Tryd.prog 165 169 32 264 (.agg #[(.int .i8 0), (.int .u32 0), (.int .u32 0), (.int .u32 0), (.int .u32 0), (.int .i64 0), (.int .u32 0), (.int .u32 0), (.int .u32 0), (.int .u32 0), (.int .u32 0), (.int .u32 0), (.bool false), (.bool false), (.int .u32 0), (.int .u32 0), (.int .i8 0), (.int .u32 0), (.int .i64 0), (.int .i8 0), (.string ByteArray.empty), (.slice none 0 0), (.slice none 0 0), (.int .i32 0), (.bool false), (.bool false), (.int .i64 0), (.int .i32 0), (.slice none 0 0), (.slice none 0 0), (.slice none 0 0), (.int .i64 0)]) := ⟨Tryd.underlying165, by kernel_rfl, by kernel_rfl, by decide⟩
theorem ze165 : zeroT Tryd.prog 165 = some (.slice none 0 0) := by kernel_rfl
theorem ag166 : aggT Tryd.prog 166 2 = true := by kernel_rfl
theorem ze166 : zeroT Tryd.prog 166 = some (.agg #[(.int .u32 0), (.int .u32 0)]) := by kernel_rfl
theorem of166_0 : offT Tryd.prog 166 0 = some 0 := by kernel_rfl
theorem of166_1 : offT Tryd.prog 166 1 = some 1 := by kernel_rfl
theorem ag167 : aggT Tryd.prog 167 2 = true := by kernel_rfl
theorem ze167 : zeroT Tryd.prog 167 = some (.agg #[(.int .u32 0), (.int .u32 0)]) := by kernel_rfl
theorem of167_0 : offT Tryd.prog 167 0 = some 0 := by kernel_rfl
theorem of167_1 : offT Tryd.prog 167 1 = some 1 := by kernel_rfl
theorem ag168 : aggT Tryd.prog 168 32 = true := by kernel_rfl
theorem ze168 : zeroT Tryd.prog 168 = some (.agg #[(.int .i8 0), (.int .u32 0), (.int .u32 0), (.int .u32 0), (.int .u32 0), (.int .i64 0), (.int .u32 0), (.int .u32 0), (.int .u32 0), (.int .u32 0), (.int .u32 0), (.int .u32 0), (.bool false), (.bool false), (.int .u32 0), (.int .u32 0), (.int .i8 0), (.int .u32 0), (.int .i64 0), (.int .i8 0), (.string ByteArray.empty), (.slice none 0 0), (.slice none 0 0), (.int .i32 0), (.bool false), (.bool false), (.int .i64 0), (.int .i32 0), (.slice none 0 0), (.slice none 0 0), (.slice none 0 0), (.int .i64 0)]) := by kernel_rfl
theorem of168_0 : offT Tryd.prog 168 0 = some 0 := by kernel_rfl
theorem of168_1 : offT Tryd.prog 168 1 = some 1 := by kernel_rfl
theorem of168_2 : offT Tryd.prog 168 2 = some 3 := by kernel_rfl
theorem of168_3 : offT Tryd.prog 168 3 = some 5 := by kernel_rfl
theorem of168_4 : offT Tryd.prog 168 4 = some 6 := by kernel_rfl
theorem of168_5 : offT Tryd.prog 168 5 = some 7 := by kernel_rfl
theorem of168_6 : offT Tryd.prog 168 6 = some 8 := by kernel_rfl
theorem of168_7 : offT Tryd.prog 168 7 = some 10 := by kernel_rfl
theorem of168_8 : offT Tryd.prog 168 8 = some 12 := by kernel_rfl
theorem of168_9 : offT Tryd.prog 168 9 = some 13 := by kernel_rfl
theorem of168_10 : offT Tryd.prog 168 10 = some 14 := by kernel_rfl
theorem of168_11 : offT Tryd.prog 168 11 = some 30 := by kernel_rfl
theorem of168_12 : offT Tryd.prog 168 12 = some 31 := by kernel_rfl
theorem ag169 : aggT Tryd.prog 169 32 = true := by kernel_rfl
theorem ze169 : zeroT Tryd.prog 169 = some (.agg #[(.int .i8 0), (.int .u32 0), (.int .u32 0), (.int .u32 0), (.int .u32 0), (.int .i64 0), (.int .u32 0), (.int .u32 0), (.int .u32 0), (.int .u32 0), (.int .u32 0), (.int .u32 0), (.bool false), (.bool false), (.int .u32 0), (.int .u32 0), (.int .i8 0), (.int .u32 0), (.int .i64 0), (.int .i8 0), (.string ByteArray.empty), (.slice none 0 0), (.slice none 0 0), (.int .i32 0), (.bool false), (.bool false), (.int .i64 0), (.int .i32 0), (.slice none 0 0), (.slice none 0 0), (.slice none 0 0), (.int .i64 0)]) := by kernel_rfl
theorem of169_0 : offT Tryd.prog 169 0 = some 0 := by kernel_rfl
theorem of169_1 : offT Tryd.prog 169 1 = some 1 := by kernel_rfl
theorem of169_2 : offT Tryd.prog 169 2 = some 3 := by kernel_rfl
theorem of169_3 : offT Tryd.prog 169 3 = some 5 := by kernel_rfl
theorem of169_4 : offT Tryd.prog 169 4 = some 6 := by kernel_rfl
theorem of169_5 : offT Tryd.prog 169 5 = some 7 := by kernel_rfl
theorem of169_6 : offT Tryd.prog 169 6 = some 8 := by kernel_rfl
theorem of169_7 : offT Tryd.prog 169 7 = some 10 := by kernel_rfl
theorem of169_8 : offT Tryd.prog 169 8 = some 12 := by kernel_rfl
theorem of169_9 : offT Tryd.prog 169 9 = some 13 := by kernel_rfl
theorem of169_10 : offT Tryd.prog 169 10 = some 14 := by kernel_rfl
theorem of169_11 : offT Tryd.prog 169 11 = some 30 := by kernel_rfl
theorem of169_12 : offT Tryd.prog 169 12 = some 31 := by kernel_rfl
theorem fu170 : isFuncT Tryd.prog 170 = true := by kernel_rfl
theorem one170 : oneT Tryd.prog 170 = true := by kernel_rfl
theorem ze170 : zeroT Tryd.prog 170 = some .nilFunc := by kernel_rfl
theorem sl171 : isSliceT Tryd.prog 171 = true := by kernel_rfl
theorem one171 : oneT Tryd.prog 171 = true := by kernel_rfl
theorem el171 : El Tryd.prog 171 173 4 40 (.agg #[(.int .i8 0), (.int .i8 0), (.slice none 0 0), (.bool false)]) := ⟨Tryd.underlying171, by kernel_rfl, by kernel_rfl, by decide⟩
theorem ze171 : zeroT Tryd.prog 171 = some (.slice none 0 0) := by kernel_rfl
theorem ag172 : aggT Tryd.prog 172 4 = true := by kernel_rfl
theorem ze172 : zeroT Tryd.prog 172 = some (.agg #[(.int .i8 0), (.int .i8 0), (.slice none 0 0), (.bool false)]) := by kernel_rfl
theorem of172_0 : offT Tryd.prog 172 0 = some 0 := by kernel_rfl
theorem of172_1 : offT Tryd.prog 172 1 = some 1 := by kernel_rfl
theorem of172_2 : offT Tryd.prog 172 2 = some 2 := by kernel_rfl
theorem of172_3 : offT Tryd.prog 172 3 = some 3 := by kernel_rfl
theorem ag173 : aggT Tryd.prog 173 4 = true := by kernel_rfl
theorem ze173 : zeroT Tryd.prog 173 = some (.agg #[(.int .i8 0), (.int .i8 0), (.slice none 0 0), (.bool false)]) := by kernel_rfl
theorem of173_0 : offT Tryd.prog 173 0 = some 0 := by kernel_rfl
theorem of173_1 : offT Tryd.prog 173 1 = some 1 := by kernel_rfl
theorem of173_2 : offT Tryd.prog 173 2 = some 2 := by kernel_rfl
theorem of173_3 : offT Tryd.prog 173 3 = some 3 := by kernel_rfl
theorem fu174 : isFuncT Tryd.prog 174 = true := by kernel_rfl
theorem one174 : oneT Tryd.prog 174 = true := by kernel_rfl
theorem ze174 : zeroT Tryd.prog 174 = some .nilFunc := by kernel_rfl
theorem sl175 : isSliceT Tryd.prog 175 = true := by kernel_rfl
theorem one175 : oneT Tryd.prog 175 = true := by kernel_rfl
theorem el175 : El Tryd.prog 175 177 3 32 (.agg #[(.int .i64 0), (.int .i8 0), (.string ByteArray.empty)]) := ⟨Tryd.underlying175, by kernel_rfl, by kernel_rfl, by decide⟩
theorem ze175 : zeroT Tryd.prog 175 = some (.slice none 0 0) := by kernel_rfl
theorem ag176 : aggT Tryd.prog 176 3 = true := by kernel_rfl
theorem ze176 : zeroT Tryd.prog 176 = some (.agg #[(.int .i64 0), (.int .i8 0), (.string ByteArray.empty)]) := by kernel_rfl
theorem of176_0 : offT Tryd.prog 176 0 = some 0 := by kernel_rfl
theorem of176_1 : offT Tryd.prog 176 1 = some 1 := by kernel_rfl
theorem of176_2 : offT Tryd.prog 176 2 = some 2 := by kernel_rfl
theorem ag177 : aggT Tryd.prog 177 3 = true := by kernel_rfl
theorem ze177 : zeroT Tryd.prog 177 = some (.agg #[(.int .i64 0), (.int .i8 0), (.string ByteArray.empty)]) := by kernel_rfl
theorem of177_0 : offT Tryd.prog 177 0 = some 0 := by kernel_rfl
theorem of177_1 : offT Tryd.prog 177 1 = some 1 := by kernel_rfl
theorem of177_2 : offT Tryd.prog 177 2 = some 2 := by kernel_rfl
theorem fu178 : isFuncT Tryd.prog 178 = true := by kernel_rfl
theorem one178 : oneT Tryd.prog 178 = true := by kernel_rfl
theorem ze178 : zeroT Tryd.prog 178 = some .nilFunc := by kernel_rfl
theorem sl179 : isSliceT Tryd.prog 179 = true := by kernel_rfl
theorem one179 : oneT Tryd.prog 179 = true := by kernel_rfl
theorem el179 : El Tryd.prog 179 181 5 56 (.agg #[(.int .i64 0), (.int .i8 0), (.string ByteArray.empty), (.int .i8 0), (.string ByteArray.empty)]) := ⟨Tryd.underlying179, by kernel_rfl, by kernel_rfl, by decide⟩
theorem ze179 : zeroT Tryd.prog 179 = some (.slice none 0 0) := by kernel_rfl
theorem ag180 : aggT Tryd.prog 180 5 = true := by kernel_rfl
theorem ze180 : zeroT Tryd.prog 180 = some (.agg #[(.int .i64 0), (.int .i8 0), (.string ByteArray.empty), (.int .i8 0), (.string ByteArray.empty)]) := by kernel_rfl
theorem of180_0 : offT Tryd.prog 180 0 = some 0 := by kernel_rfl
theorem of180_1 : offT Tryd.prog 180 1 = some 3 := by kernel_rfl
theorem ag181 : aggT Tryd.prog 181 5 = true := by kernel_rfl
theorem ze181 : zeroT Tryd.prog 181 = some (.agg #[(.int .i64 0), (.int .i8 0), (.string ByteArray.empty), (.int .i8 0), (.string ByteArray.empty)]) := by kernel_rfl
theorem of181_0 : offT Tryd.prog 181 0 = some 0 := by kernel_rfl
theorem of181_1 : offT Tryd.prog 181 1 = some 3 := by kernel_rfl
theorem fu182 : isFuncT Tryd.prog 182 = true := by kernel_rfl
theorem one182 : oneT Tryd.prog 182 = true := by kernel_rfl
theorem ze182 : zeroT Tryd.prog 182 = some .nilFunc := by kernel_rfl
theorem sl183 : isSliceT Tryd.prog 183 = true := by kernel_rfl
theorem one183 : oneT Tryd.prog 183 = true := by kernel_rfl
theorem el183 : El Tryd.prog 183 185 52 488 (.agg #[(.int .i8 0), (.int .i8 0), (.int .i8 0), (.int .u32 0), (.int .u32 0), (.int .u32 0), (.int .i8 0), (.int .i64 0), (.int .u32 0), (.int .u32 0), (.int .i8 0), (.int .u32 0), (.int .i64 0), (.int .i8 0), (.string ByteArray.empty), (.slice none 0 0), (.slice none 0 0), (.int .i32 0), (.bool false), (.bool false), (.int .i64 0), (.int .i32 0), (.slice none 0 0), (.slice none 0 0), (.int .i64 0), (.string ByteArray.empty), (.slice none 0 0), (.slice none 0 0), (.int .u32 0), (.int .u32 0), (.int .u32 0), (.int .u32 0), (.int .u32 0), (.int .u32 0), (.int .i32 0), (.int .i32 0), (.int .i32 0), (.int .i64 0), (.int .i64 0), (.int .i64 0), (.slice none 0 0), (.int .i64 0), (.slice none 0 0), (.int .i64 0), (.int .i8 0), (.string ByteArray.empty), (.int .i8 0), (.string ByteArray.empty), (.int .i64 0), (.int .u32 0), (.int .u32 0), (.slice none 0 0)]) := ⟨Tryd.underlying183, by kernel_rfl, by kernel_rfl, by decide⟩
theorem ze183 : zeroT Tryd.prog 183 = some (.slice none 0 0) := by kernel_rfl
theorem ag184 : aggT Tryd.prog 184 52 = true := by kernel_rfl
theorem ze184 : zeroT Tryd.prog 184 = some (.agg #[(.int .i8 0), (.int .i8 0), (.int .i8 0), (.int .u32 0), (.int .u32 0), (.int .u32 0), (.int .i8 0), (.int .i64 0), (.int .u32 0), (.int .u32 0), (.int .i8 0), (.int .u32 0), (.int .i64 0), (.int .i8 0), (.string ByteArray.empty), (.slice none 0 0), (.slice none 0 0), (.int .i32 0), (.bool false), (.bool false), (.int .i64 0), (.int .i32 0), (.slice none 0 0), (.slice none 0 0), (.int .i64 0), (.string ByteArray.empty), (.slice none 0 0), (.slice none 0 0), (.int .u32 0), (.int .u32 0), (.int .u32 0), (.int .u32 0), (.int .u32 0), (.int .u32 0), (.int .i32 0), (.int .i32 0), (.int .i32 0), (.int .i64 0), (.int .i64 0), (.int .i64 0), (.slice none 0 0), (.int .i64 0), (.slice none 0 0), (.int .i64 0), (.int .i8 0), (.string ByteArray.empty), (.int .i8 0), (.string ByteArray.empty), (.int .i64 0), (.int .u32 0), (.int .u32 0), (.slice none 0 0)]) := by kernel_rfl
theorem of184_0 : offT Tryd.prog 184 0 = some 0 := by kernel_rfl
theorem of184_1 : offT Tryd.prog 184 1 = some 1 := by kernel_rfl
theorem of184_2 : offT Tryd.prog 184 2 = some 2 := by kernel_rfl
theorem of184_3 : offT Tryd.prog 184 3 = some 3 := by kernel_rfl
theorem of184_4 : offT Tryd.prog 184 4 = some 4 := by kernel_rfl
theorem of184_5 : offT Tryd.prog 184 5 = some 6 := by kernel_rfl
theorem of184_6 : offT Tryd.prog 184 6 = some 7 := by kernel_rfl
theorem of184_7 : offT Tryd.prog 184 7 = some 8 := by kernel_rfl
theorem of184_8 : offT Tryd.prog 184 8 = some 24 := by kernel_rfl
theorem of184_9 : offT Tryd.prog 184 9 = some 43 := by kernel_rfl
theorem of184_10 : offT Tryd.prog 184 10 = some 48 := by kernel_rfl
theorem of184_11 : offT Tryd.prog 184 11 = some 49 := by kernel_rfl
theorem of184_12 : offT Tryd.prog 184 12 = some 51 := by kernel_rfl
theorem ag185 : aggT Tryd.prog 185 52 = true := by kernel_rfl
theorem ze185 : zeroT Tryd.prog 185 = some (.agg #[(.int .i8 0), (.int .i8 0), (.int .i8 0), (.int .u32 0), (.int .u32 0), (.int .u32 0), (.int .i8 0), (.int .i64 0), (.int .u32 0), (.int .u32 0), (.int .i8 0), (.int .u32 0), (.int .i64 0), (.int .i8 0), (.string ByteArray.empty), (.slice none 0 0), (.slice none 0 0), (.int .i32 0), (.bool false), (.bool false), (.int .i64 0), (.int .i32 0), (.slice none 0 0), (.slice none 0 0), (.int .i64 0), (.string ByteArray.empty), (.slice none 0 0), (.slice none 0 0), (.int .u32 0), (.int .u32 0), (.int .u32 0), (.int .u32 0), (.int .u32 0), (.int .u32 0), (.int .i32 0), (.int .i32 0), (.int .i32 0), (.int .i64 0), (.int .i64 0), (.int .i64 0), (.slice none 0 0), (.int .i64 0), (.slice none 0 0), (.int .i64 0), (.int .i8 0), (.string ByteArray.empty), (.int .i8 0), (.string ByteArray.empty), (.int .i64 0), (.int .u32 0), (.int .u32 0), (.slice none 0 0)]) := by kernel_rfl
theorem of185_0 : offT Tryd.prog 185 0 = some 0 := by kernel_rfl
theorem of185_1 : offT Tryd.prog 185 1 = some 1 := by kernel_rfl
theorem of185_2 : offT Tryd.prog 185 2 = some 2 := by kernel_rfl
theorem of185_3 : offT Tryd.prog 185 3 = some 3 := by kernel_rfl
theorem of185_4 : offT Tryd.prog 185 4 = some 4 := by kernel_rfl
theorem of185_5 : offT Tryd.prog 185 5 = some 6 := by kernel_rfl
theorem of185_6 : offT Tryd.prog 185 6 = some 7 := by kernel_rfl
theorem of185_7 : offT Tryd.prog 185 7 = some 8 := by kernel_rfl
theorem of185_8 : offT Tryd.prog 185 8 = some 24 := by kernel_rfl
theorem of185_9 : offT Tryd.prog 185 9 = some 43 := by kernel_rfl
theorem of185_10 : offT Tryd.prog 185 10 = some 48 := by kernel_rfl
theorem of185_11 : offT Tryd.prog 185 11 = some 49 := by kernel_rfl
theorem of185_12 : offT Tryd.prog 185 12 = some 51 := by kernel_rfl
theorem fu186 : isFuncT Tryd.prog 186 = true := by kernel_rfl
theorem one186 : oneT Tryd.prog 186 = true := by kernel_rfl
theorem ze186 : zeroT Tryd.prog 186 = some .nilFunc := by kernel_rfl
theorem sl187 : isSliceT Tryd.prog 187 = true := by kernel_rfl
theorem one187 : oneT Tryd.prog 187 = true := by kernel_rfl
theorem el187 : El Tryd.prog 187 189 2 32 (.agg #[(.int .i8 0), (.slice none 0 0)]) := ⟨Tryd.underlying187, by kernel_rfl, by kernel_rfl, by decide⟩
theorem ze187 : zeroT Tryd.prog 187 = some (.slice none 0 0) := by kernel_rfl
theorem ag188 : aggT Tryd.prog 188 2 = true := by kernel_rfl
theorem ze188 : zeroT Tryd.prog 188 = some (.agg #[(.int .i8 0), (.slice none 0 0)]) := by kernel_rfl
theorem of188_0 : offT Tryd.prog 188 0 = some 0 := by kernel_rfl
theorem of188_1 : offT Tryd.prog 188 1 = some 1 := by kernel_rfl
theorem ag189 : aggT Tryd.prog 189 2 = true := by kernel_rfl
theorem ze189 : zeroT Tryd.prog 189 = some (.agg #[(.int .i8 0), (.slice none 0 0)]) := by kernel_rfl
theorem of189_0 : offT Tryd.prog 189 0 = some 0 := by kernel_rfl
theorem of189_1 : offT Tryd.prog 189 1 = some 1 := by kernel_rfl
theorem fu190 : isFuncT Tryd.prog 190 = true := by kernel_rfl
theorem one190 : oneT Tryd.prog 190 = true := by kernel_rfl
theorem ze190 : zeroT Tryd.prog 190 = some .nilFunc := by kernel_rfl
theorem sl191 : isSliceT Tryd.prog 191 = true := by kernel_rfl
theorem one191 : oneT Tryd.prog 191 = true := by kernel_rfl
theorem el191 : El Tryd.prog 191 193 19 208 (.agg #[(.int .i8 0), (.int .i8 0), (.int .i8 0), (.int .i64 0), (.int .i64 0), (.int .u8 0), (.slice none 0 0), (.int .i8 0), (.string ByteArray.empty), (.slice none 0 0), (.slice none 0 0), (.int .i32 0), (.bool false), (.bool false), (.int .i64 0), (.int .i32 0), (.slice none 0 0), (.slice none 0 0), (.int .i8 0)]) := ⟨Tryd.underlying191, by kernel_rfl, by kernel_rfl, by decide⟩
theorem ze191 : zeroT Tryd.prog 191 = some (.slice none 0 0) := by kernel_rfl
theorem ag192 : aggT Tryd.prog 192 19 = true := by kernel_rfl
theorem ze192 : zeroT Tryd.prog 192 = some (.agg #[(.int .i8 0), (.int .i8 0), (.int .i8 0), (.int .i64 0), (.int .i64 0), (.int .u8 0), (.slice none 0 0), (.int .i8 0), (.string ByteArray.empty), (.slice none 0 0), (.slice none 0 0), (.int .i32 0), (.bool false), (.bool false), (.int .i64 0), (.int .i32 0), (.slice none 0 0), (.slice none 0 0), (.int .i8 0)]) := by kernel_rfl
theorem of192_0 : offT Tryd.prog 192 0 = some 0 := by kernel_rfl
theorem of192_1 : offT Tryd.prog 192 1 = some 1 := by kernel_rfl
theorem of192_2 : offT Tryd.prog 192 2 = some 2 := by kernel_rfl
theorem of192_3 : offT Tryd.prog 192 3 = some 3 := by kernel_rfl
theorem of192_4 : offT Tryd.prog 192 4 = some 4 := by kernel_rfl
theorem of192_5 : offT Tryd.prog 192 5 = some 5 := by kernel_rfl
theorem of192_6 : offT Tryd.prog 192 6 = some 6 := by kernel_rfl
theorem of192_7 : offT Tryd.prog 192 7 = some 7 := by kernel_rfl
theorem of192_8 : offT Tryd.prog 192 8 = some 18 := by kernel_rfl
theorem ag193 : aggT Tryd.prog 193 19 = true := by kernel_rfl
theorem ze193 : zeroT Tryd.prog 193 = some (.agg #[(.int .i8 0), (.int .i8 0), (.int .i8 0), (.int .i64 0), (.int .i64 0), (.int .u8 0), (.slice none 0 0), (.int .i8 0), (.string ByteArray.empty), (.slice none 0 0), (.slice none 0 0), (.int .i32 0), (.bool false), (.bool false), (.int .i64 0), (.int .i32 0), (.slice none 0 0), (.slice none 0 0), (.int .i8 0)]) := by kernel_rfl
theorem of193_0 : offT Tryd.prog 193 0 = some 0 := by kernel_rfl
theorem of193_1 : offT Tryd.prog 193 1 = some 1 := by kernel_rfl
theorem of193_2 : offT Tryd.prog 193 2 = some 2 := by kernel_rfl
theorem of193_3 : offT Tryd.prog 193 3 = some 3 := by kernel_rfl
theorem of193_4 : offT Tryd.prog 193 4 = some 4 := by kernel_rfl
theorem of193_5 : offT Tryd.prog 193 5 = some 5 := by kernel_rfl
theorem of193_6 : offT Tryd.prog 193 6 = some 6 := by kernel_rfl
theorem of193_7 : offT Tryd.prog 193 7 = some 7 := by kernel_rfl
theorem of193_8 : offT Tryd.prog 193 8 = some 18 := by kernel_rfl
theorem fu194 : isFuncT Tryd.prog 194 = true := by kernel_rfl
theorem one194 : oneT Tryd.prog 194 = true := by kernel_rfl
theorem ze194 : zeroT Tryd.prog 194 = some .nilFunc := by kernel_rfl
theorem fu195 : isFuncT Tryd.prog 195 = true := by kernel_rfl
theorem one195 : oneT Tryd.prog 195 = true := by kernel_rfl
theorem ze195 : zeroT Tryd.prog 195 = some .nilFunc := by kernel_rfl
theorem fu197 : isFuncT Tryd.prog 197 = true := by kernel_rfl
theorem one197 : oneT Tryd.prog 197 = true := by kernel_rfl
theorem ze197 : zeroT Tryd.prog 197 = some .nilFunc := by kernel_rfl
theorem fu198 : isFuncT Tryd.prog 198 = true := by kernel_rfl
theorem one198 : oneT Tryd.prog 198 = true := by kernel_rfl
theorem ze198 : zeroT Tryd.prog 198 = some .nilFunc := by kernel_rfl
theorem ag199 : aggT Tryd.prog 199 24 = true := by kernel_rfl
theorem ze199 : zeroT Tryd.prog 199 = some (.agg #[(.int .u8 0), (.int .u8 0), (.int .u8 0), (.int .u8 0), (.int .u8 0), (.int .u8 0), (.int .u8 0), (.int .u8 0), (.int .u8 0), (.int .u8 0), (.int .u8 0), (.int .u8 0), (.int .u8 0), (.int .u8 0), (.int .u8 0), (.int .u8 0), (.int .u8 0), (.int .u8 0), (.int .u8 0), (.int .u8 0), (.int .u8 0), (.int .u8 0), (.int .u8 0), (.int .u8 0)]) := by kernel_rfl
theorem fu200 : isFuncT Tryd.prog 200 = true := by kernel_rfl
theorem one200 : oneT Tryd.prog 200 = true := by kernel_rfl
theorem ze200 : zeroT Tryd.prog 200 = some .nilFunc := by kernel_rfl
theorem fu201 : isFuncT Tryd.prog 201 = true := by kernel_rfl
theorem one201 : oneT Tryd.prog 201 = true := by kernel_rfl
theorem ze201 : zeroT Tryd.prog 201 = some .nilFunc := by kernel_rfl
theorem fu203 : isFuncT Tryd.prog 203 = true := by kernel_rfl
theorem one203 : oneT Tryd.prog 203 = true := by kernel_rfl
theorem ze203 : zeroT Tryd.prog 203 = some .nilFunc := by kernel_rfl
theorem fu204 : isFuncT Tryd.prog 204 = true := by kernel_rfl
theorem one204 : oneT Tryd.prog 204 = true := by kernel_rfl
theorem ze204 : zeroT Tryd.prog 204 = some .nilFunc := by kernel_rfl
theorem ag205 : aggT Tryd.prog 205 20 = true := by kernel_rfl
theorem ze205 : zeroT Tryd.prog 205 = some (.agg #[(.int .u64 0), (.int .u64 0), (.int .u64 0), (.int .u64 0), (.int .u64 0), (.int .u64 0), (.int .u64 0), (.int .u64 0), (.int .u64 0), (.int .u64 0), (.int .u64 0), (.int .u64 0), (.int .u64 0), (.int .u64 0), (.int .u64 0), (.int .u64 0), (.int .u64 0), (.int .u64 0), (.int .u64 0), (.int .u64 0)]) := by kernel_rfl
theorem ag206 : aggT Tryd.prog 206 65 = true := by kernel_rfl
theorem ze206 : zeroT Tryd.prog 206 = some (.agg #[(.int .u8 0), (.int .u8 0), (.int .u8 0), (.int .u8 0), (.int .u8 0), (.int .u8 0), (.int .u8 0), (.int .u8 0), (.int .u8 0), (.int .u8 0), (.int .u8 0), (.int .u8 0), (.int .u8 0), (.int .u8 0), (.int .u8 0), (.int .u8 0), (.int .u8 0), (.int .u8 0), (.int .u8 0), (.int .u8 0), (.int .u8 0), (.int .u8 0), (.int .u8 0), (.int .u8 0), (.int .u8 0), (.int .u8 0), (.int .u8 0), (.int .u8 0), (.int .u8 0), (.int .u8 0), (.int .u8 0), (.int .u8 0), (.int .u8 0), (.int .u8 0), (.int .u8 0), (.int .u8 0), (.int .u8 0), (.int .u8 0), (.int .u8 0), (.int .u8 0), (.int .u8 0), (.int .u8 0), (.int .u8 0), (.int .u8 0), (.int .u8 0), (.int .u8 0), (.int .u8 0), (.int .u8 0), (.int .u8 0), (.int .u8 0), (.int .u8 0), (.int .u8 0), (.int .u8 0), (.int .u8 0), (.int .u8 0), (.int .u8 0), (.int .u8 0), (.int .u8 0), (.int .u8 0), (.int .u8 0), (.int .u8 0), (.int .u8 0), (.int .u8 0), (.int .u8 0), (.int .u8 0)]) := by kernel_rfl
theorem fu207 : isFuncT Tryd.prog 207 = true := by kernel_rfl
theorem one207 : oneT Tryd.prog 207 = true := by kernel_rfl
theorem ze207 : zeroT Tryd.prog 207 = some .nilFunc := by kernel_rfl
theorem fu208 : isFuncT Tryd.prog 208 = true := by kernel_rfl
theorem one208 : oneT Tryd.prog 208 = true := by kernel_rfl
theorem ze208 : zeroT Tryd.prog 208 = some .nilFunc := by kernel_rfl
theorem fu209 : isFuncT Tryd.prog 209 = true := by kernel_rfl
theorem one209 : oneT Tryd.prog 209 = true := by kernel_rfl
theorem ze209 : zeroT Tryd.prog 209 = some .nilFunc := by kernel_rfl
theorem ag210 : aggT Tryd.prog 210 32 = true := by kernel_rfl
theorem ze210 : zeroT Tryd.prog 210 = some (.agg #[(.int .u8 0), (.int .u8 0), (.int .u8 0), (.int .u8 0), (.int .u8 0), (.int .u8 0), (.int .u8 0), (.int .u8 0), (.int .u8 0), (.int .u8 0), (.int .u8 0), (.int .u8 0), (.int .u8 0), (.int .u8 0), (.int .u8 0), (.int .u8 0), (.int .u8 0), (.int .u8 0), (.int .u8 0), (.int .u8 0), (.int .u8 0), (.int .u8 0), (.int .u8 0), (.int .u8 0), (.int .u8 0), (.int .u8 0), (.int .u8 0), (.int .u8 0), (.int .u8 0), (.int .u8 0), (.int .u8 0), (.int .u8 0)]) := by kernel_rfl
theorem ag211 : aggT Tryd.prog 211 64 = true := by kernel_rfl
theorem ze211 : zeroT Tryd.prog 211 = some (.agg #[(.int .u8 0), (.int .u8 0), (.int .u8 0), (.int .u8 0), (.int .u8 0), (.int .u8 0), (.int .u8 0), (.int .u8 0), (.int .u8 0), (.int .u8 0), (.int .u8 0), (.int .u8 0), (.int .u8 0), (.int .u8 0), (.int .u8 0), (.int .u8 0), (.int .u8 0), (.int .u8 0), (.int .u8 0), (.int .u8 0), (.int .u8 0), (.int .u8 0), (.int .u8 0), (.int .u8 0), (.int .u8 0), (.int .u8 0), (.int .u8 0), (.int .u8 0), (.int .u8 0), (.int .u8 0), (.int .u8 0), (.int .u8 0), (.int .u8 0), (.int .u8 0), (.int .u8 0), (.int .u8 0), (.int .u8 0), (.int .u8 0), (.int .u8 0), (.int .u8 0), (.int .u8 0), (.int .u8 0), (.int .u8 0), (.int .u8 0), (.int .u8 0), (.int .u8 0), (.int .u8 0), (.int .u8 0), (.int .u8 0), (.int .u8 0), (.int .u8 0), (.int .u8 0), (.int .u8 0), (.int .u8 0), (.int .u8 0), (.int .u8 0), (.int .u8 0), (.int .u8 0), (.int .u8 0), (.int .u8 0), (.int .u8 0), (.int .u8 0), (.int .u8 0), (.int .u8 0)]) := by kernel_rfl
theorem fu212 : isFuncT Tryd.prog 212 = true := by kernel_rfl
theorem one212 : oneT Tryd.prog 212 = true := by kernel_rfl
theorem ze212 : zeroT Tryd.prog 212 = some .nilFunc := by kernel_rfl
theorem ag213 : aggT Tryd.prog 213 4 = true := by kernel_rfl
theorem ze213 : zeroT Tryd.prog 213 = some (.agg #[(.pointer none), (.pointer none), (.pointer none), (.string ByteArray.empty)]) := by kernel_rfl
theorem of213_0 : offT Tryd.prog 213 0 = some 0 := by kernel_rfl
theorem of213_1 : offT Tryd.prog 213 1 = some 1 := by kernel_rfl
theorem of213_2 : offT Tryd.prog 213 2 = some 2 := by kernel_rfl
theorem of213_3 : offT Tryd.prog 213 3 = some 3 := by kernel_rfl
theorem ag214 : aggT Tryd.prog 214 4 = true := by kernel_rfl
theorem ze214 : zeroT Tryd.prog 214 = some (.agg #[(.pointer none), (.pointer none), (.pointer none), (.string ByteArray.empty)]) := by kernel_rfl
theorem of214_0 : offT Tryd.prog 214 0 = some 0 := by kernel_rfl
theorem of214_1 : offT Tryd.prog 214 1 = some 1 := by kernel_rfl
theorem of214_2 : offT Tryd.prog 214 2 = some 2 := by kernel_rfl
theorem of214_3 : offT Tryd.prog 214 3 = some 3 := by kernel_rfl
theorem it218 : intT Tryd.prog 218 = some .u8 := by kernel_rfl
theorem one218 : oneT Tryd.prog 218 = true := by kernel_rfl
theorem ze218 : zeroT Tryd.prog 218 = some (.int .u8 0) := by kernel_rfl
theorem it219 : intT Tryd.prog 219 = some .u8 := by kernel_rfl
theorem one219 : oneT Tryd.prog 219 = true := by kernel_rfl
theorem ze219 : zeroT Tryd.prog 219 = some (.int .u8 0) := by kernel_rfl
theorem fu220 : isFuncT Tryd.prog 220 = true := by kernel_rfl
theorem one220 : oneT Tryd.prog 220 = true := by kernel_rfl
theorem ze220 : zeroT Tryd.prog 220 = some .nilFunc := by kernel_rfl
theorem pt221 : isPtrT Tryd.prog 221 = true := by kernel_rfl
theorem one221 : oneT Tryd.prog 221 = true := by kernel_rfl
theorem ze221 : zeroT Tryd.prog 221 = some (.pointer none) := by kernel_rfl
theorem it222 : intT Tryd.prog 222 = some .i32 := by kernel_rfl
theorem one222 : oneT Tryd.prog 222 = true := by kernel_rfl
theorem ze222 : zeroT Tryd.prog 222 = some (.int .i32 0) := by kernel_rfl
theorem it223 : intT Tryd.prog 223 = some .i32 := by kernel_rfl
theorem one223 : oneT Tryd.prog 223 = true := by kernel_rfl
theorem ze223 : zeroT Tryd.prog 223 = some (.int .i32 0) := by kernel_rfl
theorem ag224 : aggT Tryd.prog 224 11 = true := by kernel_rfl
theorem ze224 : zeroT Tryd.prog 224 = some (.agg #[(.int .u64 0), (.int .u64 0), (.int .u32 0), (.int .u8 0), (.int .u8 0), (.int .u8 0), (.int .u8 0), .nilFunc, (.pointer none), (.int .i32 0), (.int .i32 0)]) := by kernel_rfl
theorem of224_0 : offT Tryd.prog 224 0 = some 0 := by kernel_rfl
theorem of224_1 : offT Tryd.prog 224 1 = some 1 := by kernel_rfl
theorem of224_2 : offT Tryd.prog 224 2 = some 2 := by kernel_rfl
theorem of224_3 : offT Tryd.prog 224 3 = some 3 := by kernel_rfl
theorem of224_4 : offT Tryd.prog 224 4 = some 4 := by kernel_rfl
theorem of224_5 : offT Tryd.prog 224 5 = some 5 := by kernel_rfl
theorem of224_6 : offT Tryd.prog 224 6 = some 6 := by kernel_rfl
theorem of224_7 : offT Tryd.prog 224 7 = some 7 := by kernel_rfl
theorem of224_8 : offT Tryd.prog 224 8 = some 8 := by kernel_rfl
theorem of224_9 : offT Tryd.prog 224 9 = some 9 := by kernel_rfl
theorem of224_10 : offT Tryd.prog 224 10 = some 10 := by kernel_rfl
theorem ag225 : aggT Tryd.prog 225 11 = true := by kernel_rfl
theorem ze225 : zeroT Tryd.prog 225 = some (.agg #[(.int .u64 0), (.int .u64 0), (.int .u32 0), (.int .u8 0), (.int .u8 0), (.int .u8 0), (.int .u8 0), .nilFunc, (.pointer none), (.int .i32 0), (.int .i32 0)]) := by kernel_rfl
theorem of225_0 : offT Tryd.prog 225 0 = some 0 := by kernel_rfl
theorem of225_1 : offT Tryd.prog 225 1 = some 1 := by kernel_rfl
theorem of225_2 : offT Tryd.prog 225 2 = some 2 := by kernel_rfl
theorem of225_3 : offT Tryd.prog 225 3 = some 3 := by kernel_rfl
theorem of225_4 : offT Tryd.prog 225 4 = some 4 := by kernel_rfl
theorem of225_5 : offT Tryd.prog 225 5 = some 5 := by kernel_rfl
theorem of225_6 : offT Tryd.prog 225 6 = some 6 := by kernel_rfl
theorem of225_7 : offT Tryd.prog 225 7 = some 7 := by kernel_rfl
theorem of225_8 : offT Tryd.prog 225 8 = some 8 := by kernel_rfl
theorem of225_9 : offT Tryd.prog 225 9 = some 9 := by kernel_rfl
theorem of225_10 : offT Tryd.prog 225 10 = some 10 := by kernel_rfl
theorem fu226 : isFuncT Tryd.prog 226 = true := by kernel_rfl
theorem one226 : oneT Tryd.prog 226 = true := by kernel_rfl
theorem ze226 : zeroT Tryd.prog 226 = some .nilFunc := by kernel_rfl
theorem one227 : oneT Tryd.prog 227 = true := by kernel_rfl
theorem ln_22_3 (a : Option Addr) (n c : Nat) (Z : List PanicEntry → World → Prop) (w : World) (kk : Value → World → Prop) : run1 Tryd.prog Z (Builtin.len_ #[22] 3 #[.slice a n c]) w kk = kk (.int .i64 n) w := r1_eq fun w => run_lenS sl22 _ rfl _ a n c w
theorem ln_22_3p (a : Option Addr) (n c : Nat) (kv : Value → Prop) : Pure1 Tryd.prog (Builtin.len_ #[22] 3 #[.slice a n c]) kv = kv (.int .i64 n) := rp_eq fun w => run_lenS sl22 _ rfl _ a n c w
theorem cv_3_21 (q : IntKind) (n : Int) (Z : List PanicEntry → World → Prop) (w : World) (kk : Value → World → Prop) : run1 Tryd.prog Z (convert 3 21 (.int q n)) w kk = kk (.int .i32 (IntKind.i32.wrap n)) w := r1_eq fun w => run_conv_int (by kernel_rfl) it21 q n w
theorem cv_3_21p (q : IntKind) (n : Int) (kv : Value → Prop) : Pure1 Tryd.prog (convert 3 21 (.int q n)) kv = kv (.int .i32 (IntKind.i32.wrap n)) := rp_eq fun w => run_conv_int (by kernel_rfl) it21 q n w
theorem eqlp_31 (cx cy : Bool) (a : Addr) (Z : List PanicEntry → World → Prop) (w : World) (kk : Value → World → Prop) : run1 Tryd.prog Z (eqOp .eql 31 cx cy (.pointer (some a)) (.pointer none)) w kk = kk (.bool false) w := r1_eq fun w => run_eql_ptr_nil pt31 cx cy a w
theorem eqlp_31p (cx cy : Bool) (a : Addr) (kv : Value → Prop) : Pure1 Tryd.prog (eqOp .eql 31 cx cy (.pointer (some a)) (.pointer none)) kv = kv (.bool false) := rp_eq fun w => run_eql_ptr_nil pt31 cx cy a w
theorem eqln_31 (cx cy : Bool) (Z : List PanicEntry → World → Prop) (w : World) (kk : Value → World → Prop) : run1 Tryd.prog Z (eqOp .eql 31 cx cy (.pointer none) (.pointer none)) w kk = kk (.bool true) w := r1_eq fun w => run_eqlNN pt31 cx cy w
theorem eqln_31p (cx cy : Bool) (kv : Value → Prop) : Pure1 Tryd.prog (eqOp .eql 31 cx cy (.pointer none) (.pointer none)) kv = kv (.bool true) := rp_eq fun w => run_eqlNN pt31 cx cy w
theorem ln_34_3 (a : Option Addr) (n c : Nat) (Z : List PanicEntry → World → Prop) (w : World) (kk : Value → World → Prop) : run1 Tryd.prog Z (Builtin.len_ #[34] 3 #[.slice a n c]) w kk = kk (.int .i64 n) w := r1_eq fun w => run_lenS sl34 _ rfl _ a n c w
theorem ln_34_3p (a : Option Addr) (n c : Nat) (kv : Value → Prop) : Pure1 Tryd.prog (Builtin.len_ #[34] 3 #[.slice a n c]) kv = kv (.int .i64 n) := rp_eq fun w => run_lenS sl34 _ rfl _ a n c w
theorem ln_25_3 (a : Option Addr) (n c : Nat) (Z : List PanicEntry → World → Prop) (w : World) (kk : Value → World → Prop) : run1 Tryd.prog Z (Builtin.len_ #[25] 3 #[.slice a n c]) w kk = kk (.int .i64 n) w := r1_eq fun w => run_lenS sl25 _ rfl _ a n c w
theorem ln_25_3p (a : Option Addr) (n c : Nat) (kv : Value → Prop) : Pure1 Tryd.prog (Builtin.len_ #[25] 3 #[.slice a n c]) kv = kv (.int .i64 n) := rp_eq fun w => run_lenS sl25 _ rfl _ a n c w
theorem fa_50_2 (b i : Nat) (Z : List PanicEntry → World → Prop) (w : World) (kk : Value → World → Prop) : run1 Tryd.prog Z (Instr.fieldAt 50 (.pointer (some ⟨b, i, none⟩)) 2) w kk = kk (.pointer (some ⟨b, i + 2, none⟩)) w := r1_eq fun w => run_fieldAt of50_2 b i w
theorem fa_50_2p (b i : Nat) (kv : Value → Prop) : Pure1 Tryd.prog (Instr.fieldAt 50 (.pointer (some ⟨b, i, none⟩)) 2) kv = kv (.pointer (some ⟨b, i + 2, none⟩)) := rp_eq fun w => run_fieldAt of50_2 b i w
theorem eqlp_24 (cx cy : Bool) (a : Addr) (Z : List PanicEntry → World → Prop) (w : World) (kk : Value → World → Prop) : run1 Tryd.prog Z (eqOp .eql 24 cx cy (.pointer (some a)) (.pointer none)) w kk = kk (.bool false) w := r1_eq fun w => run_eql_ptr_nil pt24 cx cy a w
theorem eqlp_24p (cx cy : Bool) (a : Addr) (kv : Value → Prop) : Pure1 Tryd.prog (eqOp .eql 24 cx cy (.pointer (some a)) (.pointer none)) kv = kv (.bool false) := rp_eq fun w => run_eql_ptr_nil pt24 cx cy a w
theorem eqln_24 (cx cy : Bool) (Z : List PanicEntry → World → Prop) (w : World) (kk : Value → World → Prop) : run1 Tryd.prog Z (eqOp .eql 24 cx cy (.pointer none) (.pointer none)) w kk = kk (.bool true) w := r1_eq fun w => run_eqlNN pt24 cx cy w
theorem eqln_24p (cx cy : Bool) (kv : Value → Prop) : Pure1 Tryd.prog (eqOp .eql 24 cx cy (.pointer none) (.pointer none)) kv = kv (.bool true) := rp_eq fun w => run_eqlNN pt24 cx cy w
theorem eqlf_83 (cx cy : Bool) (f : Fn) (a b : Array Value) (Z : List PanicEntry → World → Prop) (w : World) (kk : Value → World → Prop) : run1 Tryd.prog Z (eqOp .eql 83 cx cy (.func f a b) .nilFunc) w kk = kk (.bool false) w := r1_eq fun w => run_eql_func fu83 cx cy f a b w
theorem eqlf_83p (cx cy : Bool) (f : Fn) (a b : Array Value) (kv : Value → Prop) : Pure1 Tryd.prog (eqOp .eql 83 cx cy (.func f a b) .nilFunc) kv = kv (.bool false) := rp_eq fun w => run_eql_func fu83 cx cy f a b w
theorem eqlf0_83 (cx cy : Bool) (Z : List PanicEntry → World → Prop) (w : World) (kk : Value → World → Prop) : run1 Tryd.prog Z (eqOp .eql 83 cx cy .nilFunc .nilFunc) w kk = kk (.bool true) w := r1_eq fun w => run_eql_func0 fu83 cx cy w
theorem eqlf0_83p (cx cy : Bool) (kv : Value → Prop) : Pure1 Tryd.prog (eqOp .eql 83 cx cy .nilFunc .nilFunc) kv = kv (.bool true) := rp_eq fun w => run_eql_func0 fu83 cx cy w
theorem cv_21_2 (q : IntKind) (n : Int) (Z : List PanicEntry → World → Prop) (w : World) (kk : Value → World → Prop) : run1 Tryd.prog Z (convert 21 2 (.int q n)) w kk = kk (.int .i64 (IntKind.i64.wrap n)) w := r1_eq fun w => run_conv_int (by kernel_rfl) it2 q n w
theorem cv_21_2p (q : IntKind) (n : Int) (kv : Value → Prop) : Pure1 Tryd.prog (convert 21 2 (.int q n)) kv = kv (.int .i64 (IntKind.i64.wrap n)) := rp_eq fun w => run_conv_int (by kernel_rfl) it2 q n w
theorem cv_2_85 (q : IntKind) (n : Int) (Z : List PanicEntry → World → Prop) (w : World) (kk : Value → World → Prop) : run1 Tryd.prog Z (convert 2 85 (.int q n)) w kk = kk (.int .u64 (IntKind.u64.wrap n)) w := r1_eq fun w => run_conv_int (by kernel_rfl) it85 q n w
theorem cv_2_85p (q : IntKind) (n : Int) (kv : Value → Prop) : Pure1 Tryd.prog (convert 2 85 (.int q n)) kv = kv (.int .u64 (IntKind.u64.wrap n)) := rp_eq fun w => run_conv_int (by kernel_rfl) it85 q n w
theorem cv_21_3 (q : IntKind) (n : Int) (Z : List PanicEntry → World → Prop) (w : World) (kk : Value → World → Prop) : run1 Tryd.prog Z (convert 21 3 (.int q n)) w kk = kk (.int .i64 (IntKind.i64.wrap n)) w := r1_eq fun w => run_conv_int (by kernel_rfl) it3 q n w
theorem cv_21_3p (q : IntKind) (n : Int) (kv : Value → Prop) : Pure1 Tryd.prog (convert 21 3 (.int q n)) kv = kv (.int .i64 (IntKind.i64.wrap n)) := rp_eq fun w => run_conv_int (by kernel_rfl) it3 q n w
theorem fa_87_1 (b i : Nat) (Z : List PanicEntry → World → Prop) (w : World) (kk : Value → World → Prop) : run1 Tryd.prog Z (Instr.fieldAt 87 (.pointer (some ⟨b, i, none⟩)) 1) w kk = kk (.pointer (some ⟨b, i + 1, none⟩)) w := r1_eq fun w => run_fieldAt of87_1 b i w
theorem fa_87_1p (b i : Nat) (kv : Value → Prop) : Pure1 Tryd.prog (Instr.fieldAt 87 (.pointer (some ⟨b, i, none⟩)) 1) kv = kv (.pointer (some ⟨b, i + 1, none⟩)) := rp_eq fun w => run_fieldAt of87_1 b i w
theorem eqlf_88 (cx cy : Bool) (f : Fn) (a b : Array Value) (Z : List PanicEntry → World → Prop) (w : World) (kk : Value → World → Prop) : run1 Tryd.prog Z (eqOp .eql 88 cx cy (.func f a b) .nilFunc) w kk = kk (.bool false) w := r1_eq fun w => run_eql_func fu88 cx cy f a b w
theorem eqlf_88p (cx cy : Bool) (f : Fn) (a b : Array Value) (kv : Value → Prop) : Pure1 Tryd.prog (eqOp .eql 88 cx cy (.func f a b) .nilFunc) kv = kv (.bool false) := rp_eq fun w => run_eql_func fu88 cx cy f a b w
theorem eqlf0_88 (cx cy : Bool) (Z : List PanicEntry → World → Prop) (w : World) (kk : Value → World → Prop) : run1 Tryd.prog Z (eqOp .eql 88 cx cy .nilFunc .nilFunc) w kk = kk (.bool true) w := r1_eq fun w => run_eql_func0 fu88 cx cy w
theorem eqlf0_88p (cx cy : Bool) (kv : Value → Prop) : Pure1 Tryd.prog (eqOp .eql 88 cx cy .nilFunc .nilFunc) kv = kv (.bool true) := rp_eq fun w => run_eql_func0 fu88 cx cy w
theorem fa_87_2 (b i : Nat) (Z : List PanicEntry → World → Prop) (w : World) (kk : Value → World → Prop) : run1 Tryd.prog Z (Instr.fieldAt 87 (.pointer (some ⟨b, i, none⟩)) 2) w kk = kk (.pointer (some ⟨b, i + 2, none⟩)) w := r1_eq fun w => run_fieldAt of87_2 b i w
theorem fa_87_2p (b i : Nat) (kv : Value → Prop) : Pure1 Tryd.prog (Instr.fieldAt 87 (.pointer (some ⟨b, i, none⟩)) 2) kv = kv (.pointer (some ⟨b, i + 2, none⟩)) := rp_eq fun w => run_fieldAt of87_2 b i w
theorem fa_27_0 (b i : Nat) (Z : List PanicEntry → World → Prop) (w : World) (kk : Value → World → Prop) : run1 Tryd.prog Z (Instr.fieldAt 27 (.pointer (some ⟨b, i, none⟩)) 0) w kk = kk (.pointer (some ⟨b, i + 0, none⟩)) w := r1_eq fun w => run_fieldAt of27_0 b i w
theorem fa_27_0p (b i : Nat) (kv : Value → Prop) : Pure1 Tryd.prog (Instr.fieldAt 27 (.pointer (some ⟨b, i, none⟩)) 0) kv = kv (.pointer (some ⟨b, i + 0, none⟩)) := rp_eq fun w => run_fieldAt of27_0 b i w
theorem eqlf_45 (cx cy : Bool) (f : Fn) (a b : Array Value) (Z : List PanicEntry → World → Prop) (w : World) (kk : Value → World → Prop) : run1 Tryd.prog Z (eqOp .eql 45 cx cy (.func f a b) .nilFunc) w kk = kk (.bool false) w := r1_eq fun w => run_eql_func fu45 cx cy f a b w
theorem eqlf_45p (cx cy : Bool) (f : Fn) (a b : Array Value) (kv : Value → Prop) : Pure1 Tryd.prog (eqOp .eql 45 cx cy (.func f a b) .nilFunc) kv = kv (.bool false) := rp_eq fun w => run_eql_func fu45 cx cy f a b w
theorem eqlf0_45 (cx cy : Bool) (Z : List PanicEntry → World → Prop) (w : World) (kk : Value → World → Prop) : run1 Tryd.prog Z (eqOp .eql 45 cx cy .nilFunc .nilFunc) w kk = kk (.bool true) w := r1_eq fun w => run_eql_func0 fu45 cx cy w
theorem eqlf0_45p (cx cy : Bool) (kv : Value → Prop) : Pure1 Tryd.prog (eqOp .eql 45 cx cy .nilFunc .nilFunc) kv = kv (.bool true) := rp_eq fun w => run_eql_func0 fu45 cx cy w
theorem fa_50_1 (b i : Nat) (Z : List PanicEntry → World → Prop) (w : World) (kk : Value → World → Prop) : run1 Tryd.prog Z (Instr.fieldAt 50 (.pointer (some ⟨b, i, none⟩)) 1) w kk = kk (.pointer (some ⟨b, i + 1, none⟩)) w := r1_eq fun w => run_fieldAt of50_1 b i w
theorem fa_50_1p (b i : Nat) (kv : Value → Prop) : Pure1 Tryd.prog (Instr.fieldAt 50 (.pointer (some ⟨b, i, none⟩)) 1) kv = kv (.pointer (some ⟨b, i + 1, none⟩)) := rp_eq fun w => run_fieldAt of50_1 b i w
theorem fa_50_0 (b i : Nat) (Z : List PanicEntry → World → Prop) (w : World) (kk : Value → World → Prop) : run1 Tryd.prog Z (Instr.fieldAt 50 (.pointer (some ⟨b, i, none⟩)) 0) w kk = kk (.pointer (some ⟨b, i + 0, none⟩)) w := r1_eq fun w => run_fieldAt of50_0 b i w
theorem fa_50_0p (b i : Nat) (kv : Value → Prop) : Pure1 Tryd.prog (Instr.fieldAt 50 (.pointer (some ⟨b, i, none⟩)) 0) kv = kv (.pointer (some ⟨b, i + 0, none⟩)) := rp_eq fun w => run_fieldAt of50_0 b i w
theorem fa_76_2 (b i : Nat) (Z : List PanicEntry → World → Prop) (w : World) (kk : Value → World → Prop) : run1 Tryd.prog Z (Instr.fieldAt 76 (.pointer (some ⟨b, i, none⟩)) 2) w kk = kk (.pointer (some ⟨b, i + 2, none⟩)) w := r1_eq fun w => run_fieldAt of76_2 b i w
theorem fa_76_2p (b i : Nat) (kv : Value → Prop) : Pure1 Tryd.prog (Instr.fieldAt 76 (.pointer (some ⟨b, i, none⟩)) 2) kv = kv (.pointer (some ⟨b, i + 2, none⟩)) := rp_eq fun w => run_fieldAt of76_2 b i w
theorem ln_56_3 (a : Option Addr) (n c : Nat) (Z : List PanicEntry → World → Prop) (w : World) (kk : Value → World → Prop) : run1 Tryd.prog Z (Builtin.len_ #[56] 3 #[.slice a n c]) w kk = kk (.int .i64 n) w := r1_eq fun w => run_lenS sl56 _ rfl _ a n c w
theorem ln_56_3p (a : Option Addr) (n c : Nat) (kv : Value → Prop) : Pure1 Tryd.prog (Builtin.len_ #[56] 3 #[.slice a n c]) kv = kv (.int .i64 n) := rp_eq fun w => run_lenS sl56 _ rfl _ a n c w
theorem fa_76_0 (b i : Nat) (Z : List PanicEntry → World → Prop) (w : World) (kk : Value → World → Prop) : run1 Tryd.prog Z (Instr.fieldAt 76 (.pointer (some ⟨b, i, none⟩)) 0) w kk = kk (.pointer (some ⟨b, i + 0, none⟩)) w := r1_eq fun w => run_fieldAt of76_0 b i w
theorem fa_76_0p (b i : Nat) (kv : Value → Prop) : Pure1 Tryd.prog (Instr.fieldAt 76 (.pointer (some ⟨b, i, none⟩)) 0) kv = kv (.pointer (some ⟨b, i + 0, none⟩)) := rp_eq fun w => run_fieldAt of76_0 b i w
theorem fa_76_1 (b i : Nat) (Z : List PanicEntry → World → Prop) (w : World) (kk : Value → World → Prop) : run1 Tryd.prog Z (Instr.fieldAt 76 (.pointer (some ⟨b, i, none⟩)) 1) w kk = kk (.pointer (some ⟨b, i + 1, none⟩)) w := r1_eq fun w => run_fieldAt of76_1 b i w
theorem fa_76_1p (b i : Nat) (kv : Value → Prop) : Pure1 Tryd.prog (Instr.fieldAt 76 (.pointer (some ⟨b, i, none⟩)) 1) kv = kv (.pointer (some ⟨b, i + 1, none⟩)) := rp_eq fun w => run_fieldAt of76_1 b i w
theorem fa_76_3 (b i : Nat) (Z : List PanicEntry → World → Prop) (w : World) (kk : Value → World → Prop) : run1 Tryd.prog Z (Instr.fieldAt 76 (.pointer (some ⟨b, i, none⟩)) 3) w kk = kk (.pointer (some ⟨b, i + 3, none⟩)) w := r1_eq fun w => run_fieldAt of76_3 b i w
theorem fa_76_3p (b i : Nat) (kv : Value → Prop) : Pure1 Tryd.prog (Instr.fieldAt 76 (.pointer (some ⟨b, i, none⟩)) 3) kv = kv (.pointer (some ⟨b, i + 3, none⟩)) := rp_eq fun w => run_fieldAt of76_3 b i w
theorem fa_76_4 (b i : Nat) (Z : List PanicEntry → World → Prop) (w : World) (kk : Value → World → Prop) : run1 Tryd.prog Z (Instr.fieldAt 76 (.pointer (some ⟨b, i, none⟩)) 4) w kk = kk (.pointer (some ⟨b, i + 4, none⟩)) w := r1_eq fun w => run_fieldAt of76_4 b i w
theorem fa_76_4p (b i : Nat) (kv : Value → Prop) : Pure1 Tryd.prog (Instr.fieldAt 76 (.pointer (some ⟨b, i, none⟩)) 4) kv = kv (.pointer (some ⟨b, i + 4, none⟩)) := rp_eq fun w => run_fieldAt of76_4 b i w
theorem fa_76_5 (b i : Nat) (Z : List PanicEntry → World → Prop) (w : World) (kk : Value → World → Prop) : run1 Tryd.prog Z (Instr.fieldAt 76 (.pointer (some ⟨b, i, none⟩)) 5) w kk = kk (.pointer (some ⟨b, i + 5, none⟩)) w := r1_eq fun w => run_fieldAt of76_5 b i w
theorem fa_76_5p (b i : Nat) (kv : Value → Prop) : Pure1 Tryd.prog (Instr.fieldAt 76 (.pointer (some ⟨b, i, none⟩)) 5) kv = kv (.pointer (some ⟨b, i + 5, none⟩)) := rp_eq fun w => run_fieldAt of76_5 b i w
theorem fa_76_6 (b i : Nat) (Z : List PanicEntry → World → Prop) (w : World) (kk : Value → World → Prop) : run1 Tryd.prog Z (Instr.fieldAt 76 (.pointer (some ⟨b, i, none⟩)) 6) w kk = kk (.pointer (some ⟨b, i + 6, none⟩)) w := r1_eq fun w => run_fieldAt of76_6 b i w
theorem fa_76_6p (b i : Nat) (kv : Value → Prop) : Pure1 Tryd.prog (Instr.fieldAt 76 (.pointer (some ⟨b, i, none⟩)) 6) kv = kv (.pointer (some ⟨b, i + 6, none⟩)) := rp_eq fun w => run_fieldAt of76_6 b i w
theorem fa_76_7 (b i : Nat) (Z : List PanicEntry → World → Prop) (w : World) (kk : Value → World → Prop) : run1 Tryd.prog Z (Instr.fieldAt 76 (.pointer (some ⟨b, i, none⟩)) 7) w kk = kk (.pointer (some ⟨b, i + 7, none⟩)) w := r1_eq fun w => run_fieldAt of76_7 b i w
theorem fa_76_7p (b i : Nat) (kv : Value → Prop) : Pure1 Tryd.prog (Instr.fieldAt 76 (.pointer (some ⟨b, i, none⟩)) 7) kv = kv (.pointer (some ⟨b, i + 7, none⟩)) := rp_eq fun w => run_fieldAt of76_7 b i w
theorem fa_76_8 (b i : Nat) (Z : List PanicEntry → World → Prop) (w : World) (kk : Value → World → Prop) : run1 Tryd.prog Z (Instr.fieldAt 76 (.pointer (some ⟨b, i, none⟩)) 8) w kk = kk (.pointer (some ⟨b, i + 8, none⟩)) w := r1_eq fun w => run_fieldAt of76_8 b i w
theorem fa_76_8p (b i : Nat) (kv : Value → Prop) : Pure1 Tryd.prog (Instr.fieldAt 76 (.pointer (some ⟨b, i, none⟩)) 8) kv = kv (.pointer (some ⟨b, i + 8, none⟩)) := rp_eq fun w => run_fieldAt of76_8 b i w
theorem fa_76_9 (b i : Nat) (Z : List PanicEntry → World → Prop) (w : World) (kk : Value → World → Prop) : run1 Tryd.prog Z (Instr.fieldAt 76 (.pointer (some ⟨b, i, none⟩)) 9) w kk = kk (.pointer (some ⟨b, i + 9, none⟩)) w := r1_eq fun w => run_fieldAt of76_9 b i w
theorem fa_76_9p (b i : Nat) (kv : Value → Prop) : Pure1 Tryd.prog (Instr.fieldAt 76 (.pointer (some ⟨b, i, none⟩)) 9) kv = kv (.pointer (some ⟨b, i + 9, none⟩)) := rp_eq fun w => run_fieldAt of76_9 b i w
theorem fa_76_10 (b i : Nat) (Z : List PanicEntry → World → Prop) (w : World) (kk : Value → World → Prop) : run1 Tryd.prog Z (Instr.fieldAt 76 (.pointer (some ⟨b, i, none⟩)) 10) w kk = kk (.pointer (some ⟨b, i + 10, none⟩)) w := r1_eq fun w => run_fieldAt of76_10 b i w
theorem fa_76_10p (b i : Nat) (kv : Value → Prop) : Pure1 Tryd.prog (Instr.fieldAt 76 (.pointer (some ⟨b, i, none⟩)) 10) kv = kv (.pointer (some ⟨b, i + 10, none⟩)) := rp_eq fun w => run_fieldAt of76_10 b i w
theorem fa_76_11 (b i : Nat) (Z : List PanicEntry → World → Prop) (w : World) (kk : Value → World → Prop) : run1 Tryd.prog Z (Instr.fieldAt 76 (.pointer (some ⟨b, i, none⟩)) 11) w kk = kk (.pointer (some ⟨b, i + 11, none⟩)) w := r1_eq fun w => run_fieldAt of76_11 b i w
theorem fa_76_11p (b i : Nat) (kv : Value → Prop) : Pure1 Tryd.prog (Instr.fieldAt 76 (.pointer (some ⟨b, i, none⟩)) 11) kv = kv (.pointer (some ⟨b, i + 11, none⟩)) := rp_eq fun w => run_fieldAt of76_11 b i w
theorem fa_76_12 (b i : Nat) (Z : List PanicEntry → World → Prop) (w : World) (kk : Value → World → Prop) : run1 Tryd.prog Z (Instr.fieldAt 76 (.pointer (some ⟨b, i, none⟩)) 12) w kk = kk (.pointer (some ⟨b, i + 12, none⟩)) w := r1_eq fun w => run_fieldAt of76_12 b i w
theorem fa_76_12p (b i : Nat) (kv : Value → Prop) : Pure1 Tryd.prog (Instr.fieldAt 76 (.pointer (some ⟨b, i, none⟩)) 12) kv = kv (.pointer (some ⟨b, i + 12, none⟩)) := rp_eq fun w => run_fieldAt of76_12 b i w
theorem fa_76_13 (b i : Nat) (Z : List PanicEntry → World → Prop) (w : World) (kk : Value → World → Prop) : run1 Tryd.prog Z (Instr.fieldAt 76 (.pointer (some ⟨b, i, none⟩)) 13) w kk = kk (.pointer (some ⟨b, i + 13, none⟩)) w := r1_eq fun w => run_fieldAt of76_13 b i w
theorem fa_76_13p (b i : Nat) (kv : Value → Prop) : Pure1 Tryd.prog (Instr.fieldAt 76 (.pointer (some ⟨b, i, none⟩)) 13) kv = kv (.pointer (some ⟨b, i + 13, none⟩)) := rp_eq fun w => run_fieldAt of76_13 b i w
theorem fa_76_14 (b i : Nat) (Z : List PanicEntry → World → Prop) (w : World) (kk : Value → World → Prop) : run1 Tryd.prog Z (Instr.fieldAt 76 (.pointer (some ⟨b, i, none⟩)) 14) w kk = kk (.pointer (some ⟨b, i + 14, none⟩)) w := r1_eq fun w => run_fieldAt of76_14 b i w
theorem fa_76_14p (b i : Nat) (kv : Value → Prop) : Pure1 Tryd.prog (Instr.fieldAt 76 (.pointer (some ⟨b, i, none⟩)) 14) kv = kv (.pointer (some ⟨b, i + 14, none⟩)) := rp_eq fun w => run_fieldAt of76_14 b i w
theorem fa_76_15 (b i : Nat) (Z : List PanicEntry → World → Prop) (w : World) (kk : Value → World → Prop) : run1 Tryd.prog Z (Instr.fieldAt 76 (.pointer (some ⟨b, i, none⟩)) 15) w kk = kk (.pointer (some ⟨b, i + 15, none⟩)) w := r1_eq fun w => run_fieldAt of76_15 b i w
theorem fa_76_15p (b i : Nat) (kv : Value → Prop) : Pure1 Tryd.prog (Instr.fieldAt 76 (.pointer (some ⟨b, i, none⟩)) 15) kv = kv (.pointer (some ⟨b, i + 15, none⟩)) := rp_eq fun w => run_fieldAt of76_15 b i w
theorem fa_76_16 (b i : Nat) (Z : List PanicEntry → World → Prop) (w : World) (kk : Value → World → Prop) : run1 Tryd.prog Z (Instr.fieldAt 76 (.pointer (some ⟨b, i, none⟩)) 16) w kk = kk (.pointer (some ⟨b, i + 16, none⟩)) w := r1_eq fun w => run_fieldAt of76_16 b i w
theorem fa_76_16p (b i : Nat) (kv : Value → Prop) : Pure1 Tryd.prog (Instr.fieldAt 76 (.pointer (some ⟨b, i, none⟩)) 16) kv = kv (.pointer (some ⟨b, i + 16, none⟩)) := rp_eq fun w => run_fieldAt of76_16 b i w
theorem fa_76_17 (b i : Nat) (Z : List PanicEntry → World → Prop) (w : World) (kk : Value → World → Prop) : run1 Tryd.prog Z (Instr.fieldAt 76 (.pointer (some ⟨b, i, none⟩)) 17) w kk = kk (.pointer (some ⟨b, i + 17, none⟩)) w := r1_eq fun w => run_fieldAt of76_17 b i w
theorem fa_76_17p (b i : Nat) (kv : Value → Prop) : Pure1 Tryd.prog (Instr.fieldAt 76 (.pointer (some ⟨b, i, none⟩)) 17) kv = kv (.pointer (some ⟨b, i + 17, none⟩)) := rp_eq fun w => run_fieldAt of76_17 b i w
theorem fa_76_18 (b i : Nat) (Z : List PanicEntry → World → Prop) (w : World) (kk : Value → World → Prop) : run1 Tryd.prog Z (Instr.fieldAt 76 (.pointer (some ⟨b, i, none⟩)) 18) w kk = kk (.pointer (some ⟨b, i + 18, none⟩)) w := r1_eq fun w => run_fieldAt of76_18 b i w
theorem fa_76_18p (b i : Nat) (kv : Value → Prop) : Pure1 Tryd.prog (Instr.fieldAt 76 (.pointer (some ⟨b, i, none⟩)) 18) kv = kv (.pointer (some ⟨b, i + 18, none⟩)) := rp_eq fun w => run_fieldAt of76_18 b i w
theorem fa_76_19 (b i : Nat) (Z : List PanicEntry → World → Prop) (w : World) (kk : Value → World → Prop) : run1 Tryd.prog Z (Instr.fieldAt 76 (.pointer (some ⟨b, i, none⟩)) 19) w kk = kk (.pointer (some ⟨b, i + 19, none⟩)) w := r1_eq fun w => run_fieldAt of76_19 b i w
theorem fa_76_19p (b i : Nat) (kv : Value → Prop) : Pure1 Tryd.prog (Instr.fieldAt 76 (.pointer (some ⟨b, i, none⟩)) 19) kv = kv (.pointer (some ⟨b, i + 19, none⟩)) := rp_eq fun w => run_fieldAt of76_19 b i w
theorem fa_76_20 (b i : Nat) (Z : List PanicEntry → World → Prop) (w : World) (kk : Value → World → Prop) : run1 Tryd.prog Z (Instr.fieldAt 76 (.pointer (some ⟨b, i, none⟩)) 20) w kk = kk (.pointer (some ⟨b, i + 20, none⟩)) w := r1_eq fun w => run_fieldAt of76_20 b i w
theorem fa_76_20p (b i : Nat) (kv : Value → Prop) : Pure1 Tryd.prog (Instr.fieldAt 76 (.pointer (some ⟨b, i, none⟩)) 20) kv = kv (.pointer (some ⟨b, i + 20, none⟩)) := rp_eq fun w => run_fieldAt of76_20 b i w
theorem cv_21_85 (q : IntKind) (n : Int) (Z : List PanicEntry → World → Prop) (w : World) (kk : Value → World → Prop) : run1 Tryd.prog Z (convert 21 85 (.int q n)) w kk = kk (.int .u64 (IntKind.u64.wrap n)) w := r1_eq fun w => run_conv_int (by kernel_rfl) it85 q n w
theorem cv_21_85p (q : IntKind) (n : Int) (kv : Value → Prop) : Pure1 Tryd.prog (convert 21 85 (.int q n)) kv = kv (.int .u64 (IntKind.u64.wrap n)) := rp_eq fun w => run_conv_int (by kernel_rfl) it85 q n w
theorem cv_85_21 (q : IntKind) (n : Int) (Z : List PanicEntry → World → Prop) (w : World) (kk : Value → World → Prop) : run1 Tryd.prog Z (convert 85 21 (.int q n)) w kk = kk (.int .i32 (IntKind.i32.wrap n)) w := r1_eq fun w => run_conv_int (by kernel_rfl) it21 q n w
theorem cv_85_21p (q : IntKind) (n : Int) (kv : Value → Prop) : Pure1 Tryd.prog (convert 85 21 (.int q n)) kv = kv (.int .i32 (IntKind.i32.wrap n)) := rp_eq fun w => run_conv_int (by kernel_rfl) it21 q n w
theorem cv_5_81 (q : IntKind) (n : Int) (Z : List PanicEntry → World → Prop) (w : World) (kk : Value → World → Prop) : run1 Tryd.prog Z (convert 5 81 (.int q n)) w kk = kk (.int .u32 (IntKind.u32.wrap n)) w := r1_eq fun w => run_conv_int (by kernel_rfl) it81 q n w
theorem cv_5_81p (q : IntKind) (n : Int) (kv : Value → Prop) : Pure1 Tryd.prog (convert 5 81 (.int q n)) kv = kv (.int .u32 (IntKind.u32.wrap n)) := rp_eq fun w => run_conv_int (by kernel_rfl) it81 q n w
theorem cv_85_5 (q : IntKind) (n : Int) (Z : List PanicEntry → World → Prop) (w : World) (kk : Value → World → Prop) : run1 Tryd.prog Z (convert 85 5 (.int q n)) w kk = kk (.int .u8 (IntKind.u8.wrap n)) w := r1_eq fun w => run_conv_int (by kernel_rfl) it5 q n w
theorem cv_85_5p (q : IntKind) (n : Int) (kv : Value → Prop) : Pure1 Tryd.prog (convert 85 5 (.int q n)) kv = kv (.int .u8 (IntKind.u8.wrap n)) := rp_eq fun w => run_conv_int (by kernel_rfl) it5 q n w
theorem fa_87_0 (b i : Nat) (Z : List PanicEntry → World → Prop) (w : World) (kk : Value → World → Prop) : run1 Tryd.prog Z (Instr.fieldAt 87 (.pointer (some ⟨b, i, none⟩)) 0) w kk = kk (.pointer (some ⟨b, i + 0, none⟩)) w := r1_eq fun w => run_fieldAt of87_0 b i w
theorem fa_87_0p (b i : Nat) (kv : Value → Prop) : Pure1 Tryd.prog (Instr.fieldAt 87 (.pointer (some ⟨b, i, none⟩)) 0) kv = kv (.pointer (some ⟨b, i + 0, none⟩)) := rp_eq fun w => run_fieldAt of87_0 b i w
theorem cv_85_2 (q : IntKind) (n : Int) (Z : List PanicEntry → World → Prop) (w : World) (kk : Value → World → Prop) : run1 Tryd.prog Z (convert 85 2 (.int q n)) w kk = kk (.int .i64 (IntKind.i64.wrap n)) w := r1_eq fun w => run_conv_int (by kernel_rfl) it2 q n w
theorem cv_85_2p (q : IntKind) (n : Int) (kv : Value → Prop) : Pure1 Tryd.prog (convert 85 2 (.int q n)) kv = kv (.int .i64 (IntKind.i64.wrap n)) := rp_eq fun w => run_conv_int (by kernel_rfl) it2 q n w
theorem cv_2_21 (q : IntKind) (n : Int) (Z : List PanicEntry → World → Prop) (w : World) (kk : Value → World → Prop) : run1 Tryd.prog Z (convert 2 21 (.int q n)) w kk = kk (.int .i32 (IntKind.i32.wrap n)) w := r1_eq fun w => run_conv_int (by kernel_rfl) it21 q n w
theorem cv_2_21p (q : IntKind) (n : Int) (kv : Value → Prop) : Pure1 Tryd.prog (convert 2 21 (.int q n)) kv = kv (.int .i32 (IntKind.i32.wrap n)) := rp_eq fun w => run_conv_int (by kernel_rfl) it21 q n w
theorem ln_54_3 (a : Option Addr) (n c : Nat) (Z : List PanicEntry → World → Prop) (w : World) (kk : Value → World → Prop) : run1 Tryd.prog Z (Builtin.len_ #[54] 3 #[.slice a n c]) w kk = kk (.int .i64 n) w := r1_eq fun w => run_lenS sl54 _ rfl _ a n c w
theorem ln_54_3p (a : Option Addr) (n c : Nat) (kv : Value → Prop) : Pure1 Tryd.prog (Builtin.len_ #[54] 3 #[.slice a n c]) kv = kv (.int .i64 n) := rp_eq fun w => run_lenS sl54 _ rfl _ a n c w
theorem cv_3_5 (q : IntKind) (n : Int) (Z : List PanicEntry → World → Prop) (w : World) (kk : Value → World → Prop) : run1 Tryd.prog Z (convert 3 5 (.int q n)) w kk = kk (.int .u8 (IntKind.u8.wrap n)) w := r1_eq fun w => run_conv_int (by kernel_rfl) it5 q n w
theorem cv_3_5p (q : IntKind) (n : Int) (kv : Value → Prop) : Pure1 Tryd.prog (convert 3 5 (.int q n)) kv = kv (.int .u8 (IntKind.u8.wrap n)) := rp_eq fun w => run_conv_int (by kernel_rfl) it5 q n w
theorem ln_55_3 (a : Option Addr) (n c : Nat) (Z : List PanicEntry → World → Prop) (w : World) (kk : Value → World → Prop) : run1 Tryd.prog Z (Builtin.len_ #[55] 3 #[.slice a n c]) w kk = kk (.int .i64 n) w := r1_eq fun w => run_lenS sl55 _ rfl _ a n c w
theorem ln_55_3p (a : Option Addr) (n c : Nat) (kv : Value → Prop) : Pure1 Tryd.prog (Builtin.len_ #[55] 3 #[.slice a n c]) kv = kv (.int .i64 n) := rp_eq fun w => run_lenS sl55 _ rfl _ a n c w
theorem ln_119_3 (a : Option Addr) (n c : Nat) (Z : List PanicEntry → World → Prop) (w : World) (kk : Value → World → Prop) : run1 Tryd.prog Z (Builtin.len_ #[119] 3 #[.slice a n c]) w kk = kk (.int .i64 n) w := r1_eq fun w => run_lenS sl119 _ rfl _ a n c w
theorem ln_119_3p (a : Option Addr) (n c : Nat) (kv : Value → Prop) : Pure1 Tryd.prog (Builtin.len_ #[119] 3 #[.slice a n c]) kv = kv (.int .i64 n) := rp_eq fun w => run_lenS sl119 _ rfl _ a n c w
theorem ln_57_3 (a : Option Addr) (n c : Nat) (Z : List PanicEntry → World → Prop) (w : World) (kk : Value → World → Prop) : run1 Tryd.prog Z (Builtin.len_ #[57] 3 #[.slice a n c]) w kk = kk (.int .i64 n) w := r1_eq fun w => run_lenS sl57 _ rfl _ a n c w
theorem ln_57_3p (a : Option Addr) (n c : Nat) (kv : Value → Prop) : Pure1 Tryd.prog (Builtin.len_ #[57] 3 #[.slice a n c]) kv = kv (.int .i64 n) := rp_eq fun w => run_lenS sl57 _ rfl _ a n c w
theorem ln_58_3 (a : Option Addr) (n c : Nat) (Z : List PanicEntry → World → Prop) (w : World) (kk : Value → World → Prop) : run1 Tryd.prog Z (Builtin.len_ #[58] 3 #[.slice a n c]) w kk = kk (.int .i64 n) w := r1_eq fun w => run_lenS sl58 _ rfl _ a n c w
theorem ln_58_3p (a : Option Addr) (n c : Nat) (kv : Value → Prop) : Pure1 Tryd.prog (Builtin.len_ #[58] 3 #[.slice a n c]) kv = kv (.int .i64 n) := rp_eq fun w => run_lenS sl58 _ rfl _ a n c w
theorem ln_123_3 (a : Option Addr) (n c : Nat) (Z : List PanicEntry → World → Prop) (w : World) (kk : Value → World → Prop) : run1 Tryd.prog Z (Builtin.len_ #[123] 3 #[.slice a n c]) w kk = kk (.int .i64 n) w := r1_eq fun w => run_lenS sl123 _ rfl _ a n c w
theorem ln_123_3p (a : Option Addr) (n c : Nat) (kv : Value → Prop) : Pure1 Tryd.prog (Builtin.len_ #[123] 3 #[.slice a n c]) kv = kv (.int .i64 n) := rp_eq fun w => run_lenS sl123 _ rfl _ a n c w
theorem ln_59_3 (a : Option Addr) (n c : Nat) (Z : List PanicEntry → World → Prop) (w : World) (kk : Value → World → Prop) : run1 Tryd.prog Z (Builtin.len_ #[59] 3 #[.slice a n c]) w kk = kk (.int .i64 n) w := r1_eq fun w => run_lenS sl59 _ rfl _ a n c w
theorem ln_59_3p (a : Option Addr) (n c : Nat) (kv : Value → Prop) : Pure1 Tryd.prog (Builtin.len_ #[59] 3 #[.slice a n c]) kv = kv (.int .i64 n) := rp_eq fun w => run_lenS sl59 _ rfl _ a n c w
theorem ln_127_3 (a : Option Addr) (n c : Nat) (Z : List PanicEntry → World → Prop) (w : World) (kk : Value → World → Prop) : run1 Tryd.prog Z (Builtin.len_ #[127] 3 #[.slice a n c]) w kk = kk (.int .i64 n) w := r1_eq fun w => run_lenS sl127 _ rfl _ a n c w
theorem ln_127_3p (a : Option Addr) (n c : Nat) (kv : Value → Prop) : Pure1 Tryd.prog (Builtin.len_ #[127] 3 #[.slice a n c]) kv = kv (.int .i64 n) := rp_eq fun w => run_lenS sl127 _ rfl _ a n c w
theorem ln_60_3 (a : Option Addr) (n c : Nat) (Z : List PanicEntry → World → Prop) (w : World) (kk : Value → World → Prop) : run1 Tryd.prog Z (Builtin.len_ #[60] 3 #[.slice a n c]) w kk = kk (.int .i64 n) w := r1_eq fun w => run_lenS sl60 _ rfl _ a n c w
theorem ln_60_3p (a : Option Addr) (n c : Nat) (kv : Value → Prop) : Pure1 Tryd.prog (Builtin.len_ #[60] 3 #[.slice a n c]) kv = kv (.int .i64 n) := rp_eq fun w => run_lenS sl60 _ rfl _ a n c w
theorem ln_131_3 (a : Option Addr) (n c : Nat) (Z : List PanicEntry → World → Prop) (w : World) (kk : Value → World → Prop) : run1 Tryd.prog Z (Builtin.len_ #[131] 3 #[.slice a n c]) w kk = kk (.int .i64 n) w := r1_eq fun w => run_lenS sl131 _ rfl _ a n c w
theorem ln_131_3p (a : Option Addr) (n c : Nat) (kv : Value → Prop) : Pure1 Tryd.prog (Builtin.len_ #[131] 3 #[.slice a n c]) kv = kv (.int .i64 n) := rp_eq fun w => run_lenS sl131 _ rfl _ a n c w
theorem ln_61_3 (a : Option Addr) (n c : Nat) (Z : List PanicEntry → World → Prop) (w : World) (kk : Value → World → Prop) : run1 Tryd.prog Z (Builtin.len_ #[61] 3 #[.slice a n c]) w kk = kk (.int .i64 n) w := r1_eq fun w => run_lenS sl61 _ rfl _ a n c w
theorem ln_61_3p (a : Option Addr) (n c : Nat) (kv : Value → Prop) : Pure1 Tryd.prog (Builtin.len_ #[61] 3 #[.slice a n c]) kv = kv (.int .i64 n) := rp_eq fun w => run_lenS sl61 _ rfl _ a n c w
theorem ln_135_3 (a : Option Addr) (n c : Nat) (Z : List PanicEntry → World → Prop) (w : World) (kk : Value → World → Prop) : run1 Tryd.prog Z (Builtin.len_ #[135] 3 #[.slice a n c]) w kk = kk (.int .i64 n) w := r1_eq fun w => run_lenS sl135 _ rfl _ a n c w
theorem ln_135_3p (a : Option Addr) (n c : Nat) (kv : Value → Prop) : Pure1 Tryd.prog (Builtin.len_ #[135] 3 #[.slice a n c]) kv = kv (.int .i64 n) := rp_eq fun w => run_lenS sl135 _ rfl _ a n c w
theorem ln_62_3 (a : Option Addr) (n c : Nat) (Z : List PanicEntry → World → Prop) (w : World) (kk : Value → World → Prop) : run1 Tryd.prog Z (Builtin.len_ #[62] 3 #[.slice a n c]) w kk = kk (.int .i64 n) w := r1_eq fun w => run_lenS sl62 _ rfl _ a n c w
theorem ln_62_3p (a : Option Addr) (n c : Nat) (kv : Value → Prop) : Pure1 Tryd.prog (Builtin.len_ #[62] 3 #[.slice a n c]) kv = kv (.int .i64 n) := rp_eq fun w => run_lenS sl62 _ rfl _ a n c w
theorem ln_143_3 (a : Option Addr) (n c : Nat) (Z : List PanicEntry → World → Prop) (w : World) (kk : Value → World → Prop) : run1 Tryd.prog Z (Builtin.len_ #[143] 3 #[.slice a n c]) w kk = kk (.int .i64 n) w := r1_eq fun w => run_lenS sl143 _ rfl _ a n c w
theorem ln_143_3p (a : Option Addr) (n c : Nat) (kv : Value → Prop) : Pure1 Tryd.prog (Builtin.len_ #[143] 3 #[.slice a n c]) kv = kv (.int .i64 n) := rp_eq fun w => run_lenS sl143 _ rfl _ a n c w
theorem ln_63_3 (a : Option Addr) (n c : Nat) (Z : List PanicEntry → World → Prop) (w : World) (kk : Value → World → Prop) : run1 Tryd.prog Z (Builtin.len_ #[63] 3 #[.slice a n c]) w kk = kk (.int .i64 n) w := r1_eq fun w => run_lenS sl63 _ rfl _ a n c w
theorem ln_63_3p (a : Option Addr) (n c : Nat) (kv : Value → Prop) : Pure1 Tryd.prog (Builtin.len_ #[63] 3 #[.slice a n c]) kv = kv (.int .i64 n) := rp_eq fun w => run_lenS sl63 _ rfl _ a n c w
theorem ln_149_3 (a : Option Addr) (n c : Nat) (Z : List PanicEntry → World → Prop) (w : World) (kk : Value → World → Prop) : run1 Tryd.prog Z (Builtin.len_ #[149] 3 #[.slice a n c]) w kk = kk (.int .i64 n) w := r1_eq fun w => run_lenS sl149 _ rfl _ a n c w
theorem ln_149_3p (a : Option Addr) (n c : Nat) (kv : Value → Prop) : Pure1 Tryd.prog (Builtin.len_ #[149] 3 #[.slice a n c]) kv = kv (.int .i64 n) := rp_eq fun w => run_lenS sl149 _ rfl _ a n c w
theorem ln_64_3 (a : Option Addr) (n c : Nat) (Z : List PanicEntry → World → Prop) (w : World) (kk : Value → World → Prop) : run1 Tryd.prog Z (Builtin.len_ #[64] 3 #[.slice a n c]) w kk = kk (.int .i64 n) w := r1_eq fun w => run_lenS sl64 _ rfl _ a n c w
theorem ln_64_3p (a : Option Addr) (n c : Nat) (kv : Value → Prop) : Pure1 Tryd.prog (Builtin.len_ #[64] 3 #[.slice a n c]) kv = kv (.int .i64 n) := rp_eq fun w => run_lenS sl64 _ rfl _ a n c w
theorem ln_153_3 (a : Option Addr) (n c : Nat) (Z : List PanicEntry → World → Prop) (w : World) (kk : Value → World → Prop) : run1 Tryd.prog Z (Builtin.len_ #[153] 3 #[.slice a n c]) w kk = kk (.int .i64 n) w := r1_eq fun w => run_lenS sl153 _ rfl _ a n c w
theorem ln_153_3p (a : Option Addr) (n c : Nat) (kv : Value → Prop) : Pure1 Tryd.prog (Builtin.len_ #[153] 3 #[.slice a n c]) kv = kv (.int .i64 n) := rp_eq fun w => run_lenS sl153 _ rfl _ a n c w
theorem ln_65_3 (a : Option Addr) (n c : Nat) (Z : List PanicEntry → World → Prop) (w : World) (kk : Value → World → Prop) : run1 Tryd.prog Z (Builtin.len_ #[65] 3 #[.slice a n c]) w kk = kk (.int .i64 n) w := r1_eq fun w => run_lenS sl65 _ rfl _ a n c w
theorem ln_65_3p (a : Option Addr) (n c : Nat) (kv : Value → Prop) : Pure1 Tryd.prog (Builtin.len_ #[65] 3 #[.slice a n c]) kv = kv (.int .i64 n) := rp_eq fun w => run_lenS sl65 _ rfl _ a n c w
theorem ln_157_3 (a : Option Addr) (n c : Nat) (Z : List PanicEntry → World → Prop) (w : World) (kk : Value → World → Prop) : run1 Tryd.prog Z (Builtin.len_ #[157] 3 #[.slice a n c]) w kk = kk (.int .i64 n) w := r1_eq fun w => run_lenS sl157 _ rfl _ a n c w
theorem ln_157_3p (a : Option Addr) (n c : Nat) (kv : Value → Prop) : Pure1 Tryd.prog (Builtin.len_ #[157] 3 #[.slice a n c]) kv = kv (.int .i64 n) := rp_eq fun w => run_lenS sl157 _ rfl _ a n c w
theorem ln_66_3 (a : Option Addr) (n c : Nat) (Z : List PanicEntry → World → Prop) (w : World) (kk : Value → World → Prop) : run1 Tryd.prog Z (Builtin.len_ #[66] 3 #[.slice a n c]) w kk = kk (.int .i64 n) w := r1_eq fun w => run_lenS sl66 _ rfl _ a n c w
theorem ln_66_3p (a : Option Addr) (n c : Nat) (kv : Value → Prop) : Pure1 Tryd.prog (Builtin.len_ #[66] 3 #[.slice a n c]) kv = kv (.int .i64 n) := rp_eq fun w => run_lenS sl66 _ rfl _ a n c w
theorem ln_161_3 (a : Option Addr) (n c : Nat) (Z : List PanicEntry → World → Prop) (w : World) (kk : Value → World → Prop) : run1 Tryd.prog Z (Builtin.len_ #[161] 3 #[.slice a n c]) w kk = kk (.int .i64 n) w := r1_eq fun w => run_lenS sl161 _ rfl _ a n c w
theorem ln_161_3p (a : Option Addr) (n c : Nat) (kv : Value → Prop) : Pure1 Tryd.prog (Builtin.len_ #[161] 3 #[.slice a n c]) kv = kv (.int .i64 n) := rp_eq fun w => run_lenS sl161 _ rfl _ a n c w
theorem ln_67_3 (a : Option Addr) (n c : Nat) (Z : List PanicEntry → World → Prop) (w : World) (kk : Value → World → Prop) : run1 Tryd.prog Z (Builtin.len_ #[67] 3 #[.slice a n c]) w kk = kk (.int .i64 n) w := r1_eq fun w => run_lenS sl67 _ rfl _ a n c w
theorem ln_67_3p (a : Option Addr) (n c : Nat) (kv : Value → Prop) : Pure1 Tryd.prog (Builtin.len_ #[67] 3 #[.slice a n c]) kv = kv (.int .i64 n) := rp_eq fun w => run_lenS sl67 _ rfl _ a n c w
theorem ln_165_3 (a : Option Addr) (n c : Nat) (Z : List PanicEntry → World → Prop) (w : World) (kk : Value → World → Prop) : run1 Tryd.prog Z (Builtin.len_ #[165] 3 #[.slice a n c]) w kk = kk (.int .i64 n) w := r1_eq fun w => run_lenS sl165 _ rfl _ a n c w
theorem ln_165_3p (a : Option Addr) (n c : Nat) (kv : Value → Prop) : Pure1 Tryd.prog (Builtin.len_ #[165] 3 #[.slice a n c]) kv = kv (.int .i64 n) := rp_eq fun w => run_lenS sl165 _ rfl _ a n c w
theorem ln_68_3 (a : Option Addr) (n c : Nat) (Z : List PanicEntry → World → Prop) (w : World) (kk : Value → World → Prop) : run1 Tryd.prog Z (Builtin.len_ #[68] 3 #[.slice a n c]) w kk = kk (.int .i64 n) w := r1_eq fun w => run_lenS sl68 _ rfl _ a n c w
theorem ln_68_3p (a : Option Addr) (n c : Nat) (kv : Value → Prop) : Pure1 Tryd.prog (Builtin.len_ #[68] 3 #[.slice a n c]) kv = kv (.int .i64 n) := rp_eq fun w => run_lenS sl68 _ rfl _ a n c w
theorem ln_171_3 (a : Option Addr) (n c : Nat) (Z : List PanicEntry → World → Prop) (w : World) (kk : Value → World → Prop) : run1 Tryd.prog Z (Builtin.len_ #[171] 3 #[.slice a n c]) w kk = kk (.int .i64 n) w := r1_eq fun w => run_lenS sl171 _ rfl _ a n c w
theorem ln_171_3p (a : Option Addr) (n c : Nat) (kv : Value → Prop) : Pure1 Tryd.prog (Builtin.len_ #[171] 3 #[.slice a n c]) kv = kv (.int .i64 n) := rp_eq fun w => run_lenS sl171 _ rfl _ a n c w
theorem ln_69_3 (a : Option Addr) (n c : Nat) (Z : List PanicEntry → World → Prop) (w : World) (kk : Value → World → Prop) : run1 Tryd.prog Z (Builtin.len_ #[69] 3 #[.slice a n c]) w kk = kk (.int .i64 n) w := r1_eq fun w => run_lenS sl69 _ rfl _ a n c w
theorem ln_69_3p (a : Option Addr) (n c : Nat) (kv : Value → Prop) : Pure1 Tryd.prog (Builtin.len_ #[69] 3 #[.slice a n c]) kv = kv (.int .i64 n) := rp_eq fun w => run_lenS sl69 _ rfl _ a n c w
theorem ln_175_3 (a : Option Addr) (n c : Nat) (Z : List PanicEntry → World → Prop) (w : World) (kk : Value → World → Prop) : run1 Tryd.prog Z (Builtin.len_ #[175] 3 #[.slice a n c]) w kk = kk (.int .i64 n) w := r1_eq fun w => run_lenS sl175 _ rfl _ a n c w
theorem ln_175_3p (a : Option Addr) (n c : Nat) (kv : Value → Prop) : Pure1 Tryd.prog (Builtin.len_ #[175] 3 #[.slice a n c]) kv = kv (.int .i64 n) := rp_eq fun w => run_lenS sl175 _ rfl _ a n c w
theorem ln_70_3 (a : Option Addr) (n c : Nat) (Z : List PanicEntry → World → Prop) (w : World) (kk : Value → World → Prop) : run1 Tryd.prog Z (Builtin.len_ #[70] 3 #[.slice a n c]) w kk = kk (.int .i64 n) w := r1_eq fun w => run_lenS sl70 _ rfl _ a n c w
theorem ln_70_3p (a : Option Addr) (n c : Nat) (kv : Value → Prop) : Pure1 Tryd.prog (Builtin.len_ #[70] 3 #[.slice a n c]) kv = kv (.int .i64 n) := rp_eq fun w => run_lenS sl70 _ rfl _ a n c w
theorem ln_179_3 (a : Option Addr) (n c : Nat) (Z : List PanicEntry → World → Prop) (w : World) (kk : Value → World → Prop) : run1 Tryd.prog Z (Builtin.len_ #[179] 3 #[.slice a n c]) w kk = kk (.int .i64 n) w := r1_eq fun w => run_lenS sl179 _ rfl _ a n c w
theorem ln_179_3p (a : Option Addr) (n c : Nat) (kv : Value → Prop) : Pure1 Tryd.prog (Builtin.len_ #[179] 3 #[.slice a n c]) kv = kv (.int .i64 n) := rp_eq fun w => run_lenS sl179 _ rfl _ a n c w
theorem ln_71_3 (a : Option Addr) (n c : Nat) (Z : List PanicEntry → World → Prop) (w : World) (kk : Value → World → Prop) : run1 Tryd.prog Z (Builtin.len_ #[71] 3 #[.slice a n c]) w kk = kk (.int .i64 n) w := r1_eq fun w => run_lenS sl71 _ rfl _ a n c w
theorem ln_71_3p (a : Option Addr) (n c : Nat) (kv : Value → Prop) : Pure1 Tryd.prog (Builtin.len_ #[71] 3 #[.slice a n c]) kv = kv (.int .i64 n) := rp_eq fun w => run_lenS sl71 _ rfl _ a n c w
theorem ln_183_3 (a : Option Addr) (n c : Nat) (Z : List PanicEntry → World → Prop) (w : World) (kk : Value → World → Prop) : run1 Tryd.prog Z (Builtin.len_ #[183] 3 #[.slice a n c]) w kk = kk (.int .i64 n) w := r1_eq fun w => run_lenS sl183 _ rfl _ a n c w
theorem ln_183_3p (a : Option Addr) (n c : Nat) (kv : Value → Prop) : Pure1 Tryd.prog (Builtin.len_ #[183] 3 #[.slice a n c]) kv = kv (.int .i64 n) := rp_eq fun w => run_lenS sl183 _ rfl _ a n c w
theorem ln_72_3 (a : Option Addr) (n c : Nat) (Z : List PanicEntry → World → Prop) (w : World) (kk : Value → World → Prop) : run1 Tryd.prog Z (Builtin.len_ #[72] 3 #[.slice a n c]) w kk = kk (.int .i64 n) w := r1_eq fun w => run_lenS sl72 _ rfl _ a n c w
theorem ln_72_3p (a : Option Addr) (n c : Nat) (kv : Value → Prop) : Pure1 Tryd.prog (Builtin.len_ #[72] 3 #[.slice a n c]) kv = kv (.int .i64 n) := rp_eq fun w => run_lenS sl72 _ rfl _ a n c w
theorem ln_187_3 (a : Option Addr) (n c : Nat) (Z : List PanicEntry → World → Prop) (w : World) (kk : Value → World → Prop) : run1 Tryd.prog Z (Builtin.len_ #[187] 3 #[.slice a n c]) w kk = kk (.int .i64 n) w := r1_eq fun w => run_lenS sl187 _ rfl _ a n c w
theorem ln_187_3p (a : Option Addr) (n c : Nat) (kv : Value → Prop) : Pure1 Tryd.prog (Builtin.len_ #[187] 3 #[.slice a n c]) kv = kv (.int .i64 n) := rp_eq fun w => run_lenS sl187 _ rfl _ a n c w
theorem ln_73_3 (a : Option Addr) (n c : Nat) (Z : List PanicEntry → World → Prop) (w : World) (kk : Value → World → Prop) : run1 Tryd.prog Z (Builtin.len_ #[73] 3 #[.slice a n c]) w kk = kk (.int .i64 n) w := r1_eq fun w => run_lenS sl73 _ rfl _ a n c w
theorem ln_73_3p (a : Option Addr) (n c : Nat) (kv : Value → Prop) : Pure1 Tryd.prog (Builtin.len_ #[73] 3 #[.slice a n c]) kv = kv (.int .i64 n) := rp_eq fun w => run_lenS sl73 _ rfl _ a n c w
theorem ln_191_3 (a : Option Addr) (n c : Nat) (Z : List PanicEntry → World → Prop) (w : World) (kk : Value → World → Prop) : run1 Tryd.prog Z (Builtin.len_ #[191] 3 #[.slice a n c]) w kk = kk (.int .i64 n) w := r1_eq fun w => run_lenS sl191 _ rfl _ a n c w
theorem ln_191_3p (a : Option Addr) (n c : Nat) (kv : Value → Prop) : Pure1 Tryd.prog (Builtin.len_ #[191] 3 #[.slice a n c]) kv = kv (.int .i64 n) := rp_eq fun w => run_lenS sl191 _ rfl _ a n c w
theorem ln_74_3 (a : Option Addr) (n c : Nat) (Z : List PanicEntry → World → Prop) (w : World) (kk : Value → World → Prop) : run1 Tryd.prog Z (Builtin.len_ #[74] 3 #[.slice a n c]) w kk = kk (.int .i64 n) w := r1_eq fun w => run_lenS sl74 _ rfl _ a n c w
theorem ln_74_3p (a : Option Addr) (n c : Nat) (kv : Value → Prop) : Pure1 Tryd.prog (Builtin.len_ #[74] 3 #[.slice a n c]) kv = kv (.int .i64 n) := rp_eq fun w => run_lenS sl74 _ rfl _ a n c w
theorem cv_5_85 (q : IntKind) (n : Int) (Z : List PanicEntry → World → Prop) (w : World) (kk : Value → World → Prop) : run1 Tryd.prog Z (convert 5 85 (.int q n)) w kk = kk (.int .u64 (IntKind.u64.wrap n)) w := r1_eq fun w => run_conv_int (by kernel_rfl) it85 q n w
theorem cv_5_85p (q : IntKind) (n : Int) (kv : Value → Prop) : Pure1 Tryd.prog (convert 5 85 (.int q n)) kv = kv (.int .u64 (IntKind.u64.wrap n)) := rp_eq fun w => run_conv_int (by kernel_rfl) it85 q n w
theorem fa_125_1 (b i : Nat) (Z : List PanicEntry → World → Prop) (w : World) (kk : Value → World → Prop) : run1 Tryd.prog Z (Instr.fieldAt 125 (.pointer (some ⟨b, i, none⟩)) 1) w kk = kk (.pointer (some ⟨b, i + 1, none⟩)) w := r1_eq fun w => run_fieldAt of125_1 b i w
theorem fa_125_1p (b i : Nat) (kv : Value → Prop) : Pure1 Tryd.prog (Instr.fieldAt 125 (.pointer (some ⟨b, i, none⟩)) 1) kv = kv (.pointer (some ⟨b, i + 1, none⟩)) := rp_eq fun w => run_fieldAt of125_1 b i w
theorem fa_129_1 (b i : Nat) (Z : List PanicEntry → World → Prop) (w : World) (kk : Value → World → Prop) : run1 Tryd.prog Z (Instr.fieldAt 129 (.pointer (some ⟨b, i, none⟩)) 1) w kk = kk (.pointer (some ⟨b, i + 1, none⟩)) w := r1_eq fun w => run_fieldAt of129_1 b i w
theorem fa_129_1p (b i : Nat) (kv : Value → Prop) : Pure1 Tryd.prog (Instr.fieldAt 129 (.pointer (some ⟨b, i, none⟩)) 1) kv = kv (.pointer (some ⟨b, i + 1, none⟩)) := rp_eq fun w => run_fieldAt of129_1 b i w
theorem fa_133_7 (b i : Nat) (Z : List PanicEntry → World → Prop) (w : World) (kk : Value → World → Prop) : run1 Tryd.prog Z (Instr.fieldAt 133 (.pointer (some ⟨b, i, none⟩)) 7) w kk = kk (.pointer (some ⟨b, i + 7, none⟩)) w := r1_eq fun w => run_fieldAt of133_7 b i w
theorem fa_133_7p (b i : Nat) (kv : Value → Prop) : Pure1 Tryd.prog (Instr.fieldAt 133 (.pointer (some ⟨b, i, none⟩)) 7) kv = kv (.pointer (some ⟨b, i + 7, none⟩)) := rp_eq fun w => run_fieldAt of133_7 b i w
theorem fa_141_1 (b i : Nat) (Z : List PanicEntry → World → Prop) (w : World) (kk : Value → World → Prop) : run1 Tryd.prog Z (Instr.fieldAt 141 (.pointer (some ⟨b, i, none⟩)) 1) w kk = kk (.pointer (some ⟨b, i + 2, none⟩)) w := r1_eq fun w => run_fieldAt of141_1 b i w
theorem fa_141_1p (b i : Nat) (kv : Value → Prop) : Pure1 Tryd.prog (Instr.fieldAt 141 (.pointer (some ⟨b, i, none⟩)) 1) kv = kv (.pointer (some ⟨b, i + 2, none⟩)) := rp_eq fun w => run_fieldAt of141_1 b i w
theorem fa_137_2 (b i : Nat) (Z : List PanicEntry → World → Prop) (w : World) (kk : Value → World → Prop) : run1 Tryd.prog Z (Instr.fieldAt 137 (.pointer (some ⟨b, i, none⟩)) 2) w kk = kk (.pointer (some ⟨b, i + 2, none⟩)) w := r1_eq fun w => run_fieldAt of137_2 b i w
theorem fa_137_2p (b i : Nat) (kv : Value → Prop) : Pure1 Tryd.prog (Instr.fieldAt 137 (.pointer (some ⟨b, i, none⟩)) 2) kv = kv (.pointer (some ⟨b, i + 2, none⟩)) := rp_eq fun w => run_fieldAt of137_2 b i w
theorem fa_147_6 (b i : Nat) (Z : List PanicEntry → World → Prop) (w : World) (kk : Value → World → Prop) : run1 Tryd.prog Z (Instr.fieldAt 147 (.pointer (some ⟨b, i, none⟩)) 6) w kk = kk (.pointer (some ⟨b, i + 17, none⟩)) w := r1_eq fun w => run_fieldAt of147_6 b i w
theorem fa_147_6p (b i : Nat) (kv : Value → Prop) : Pure1 Tryd.prog (Instr.fieldAt 147 (.pointer (some ⟨b, i, none⟩)) 6) kv = kv (.pointer (some ⟨b, i + 17, none⟩)) := rp_eq fun w => run_fieldAt of147_6 b i w
theorem fa_151_0 (b i : Nat) (Z : List PanicEntry → World → Prop) (w : World) (kk : Value → World → Prop) : run1 Tryd.prog Z (Instr.fieldAt 151 (.pointer (some ⟨b, i, none⟩)) 0) w kk = kk (.pointer (some ⟨b, i + 0, none⟩)) w := r1_eq fun w => run_fieldAt of151_0 b i w
theorem fa_151_0p (b i : Nat) (kv : Value → Prop) : Pure1 Tryd.prog (Instr.fieldAt 151 (.pointer (some ⟨b, i, none⟩)) 0) kv = kv (.pointer (some ⟨b, i + 0, none⟩)) := rp_eq fun w => run_fieldAt of151_0 b i w
theorem fa_155_0 (b i : Nat) (Z : List PanicEntry → World → Prop) (w : World) (kk : Value → World → Prop) : run1 Tryd.prog Z (Instr.fieldAt 155 (.pointer (some ⟨b, i, none⟩)) 0) w kk = kk (.pointer (some ⟨b, i + 0, none⟩)) w := r1_eq fun w => run_fieldAt of155_0 b i w
theorem fa_155_0p (b i : Nat) (kv : Value → Prop) : Pure1 Tryd.prog (Instr.fieldAt 155 (.pointer (some ⟨b, i, none⟩)) 0) kv = kv (.pointer (some ⟨b, i + 0, none⟩)) := rp_eq fun w => run_fieldAt of155_0 b i w
theorem fa_159_1 (b i : Nat) (Z : List PanicEntry → World → Prop) (w : World) (kk : Value → World → Prop) : run1 Tryd.prog Z (Instr.fieldAt 159 (.pointer (some ⟨b, i, none⟩)) 1) w kk = kk (.pointer (some ⟨b, i + 1, none⟩)) w := r1_eq fun w => run_fieldAt of159_1 b i w
theorem fa_159_1p (b i : Nat) (kv : Value → Prop) : Pure1 Tryd.prog (Instr.fieldAt 159 (.pointer (some ⟨b, i, none⟩)) 1) kv = kv (.pointer (some ⟨b, i + 1, none⟩)) := rp_eq fun w => run_fieldAt of159_1 b i w
theorem fa_163_0 (b i : Nat) (Z : List PanicEntry → World → Prop) (w : World) (kk : Value → World → Prop) : run1 Tryd.prog Z (Instr.fieldAt 163 (.pointer (some ⟨b, i, none⟩)) 0) w kk = kk (.pointer (some ⟨b, i + 0, none⟩)) w := r1_eq fun w => run_fieldAt of163_0 b i w
theorem fa_163_0p (b i : Nat) (kv : Value → Prop) : Pure1 Tryd.prog (Instr.fieldAt 163 (.pointer (some ⟨b, i, none⟩)) 0) kv = kv (.pointer (some ⟨b, i + 0, none⟩)) := rp_eq fun w => run_fieldAt of163_0 b i w
theorem fa_169_3 (b i : Nat) (Z : List PanicEntry → World → Prop) (w : World) (kk : Value → World → Prop) : run1 Tryd.prog Z (Instr.fieldAt 169 (.pointer (some ⟨b, i, none⟩)) 3) w kk = kk (.pointer (some ⟨b, i + 5, none⟩)) w := r1_eq fun w => run_fieldAt of169_3 b i w
theorem fa_169_3p (b i : Nat) (kv : Value → Prop) : Pure1 Tryd.prog (Instr.fieldAt 169 (.pointer (some ⟨b, i, none⟩)) 3) kv = kv (.pointer (some ⟨b, i + 5, none⟩)) := rp_eq fun w => run_fieldAt of169_3 b i w
theorem fa_173_2 (b i : Nat) (Z : List PanicEntry → World → Prop) (w : World) (kk : Value → World → Prop) : run1 Tryd.prog Z (Instr.fieldAt 173 (.pointer (some ⟨b, i, none⟩)) 2) w kk = kk (.pointer (some ⟨b, i + 2, none⟩)) w := r1_eq fun w => run_fieldAt of173_2 b i w
theorem fa_173_2p (b i : Nat) (kv : Value → Prop) : Pure1 Tryd.prog (Instr.fieldAt 173 (.pointer (some ⟨b, i, none⟩)) 2) kv = kv (.pointer (some ⟨b, i + 2, none⟩)) := rp_eq fun w => run_fieldAt of173_2 b i w
theorem fa_177_0 (b i : Nat) (Z : List PanicEntry → World → Prop) (w : World) (kk : Value → World → Prop) : run1 Tryd.prog Z (Instr.fieldAt 177 (.pointer (some ⟨b, i, none⟩)) 0) w kk = kk (.pointer (some ⟨b, i + 0, none⟩)) w := r1_eq fun w => run_fieldAt of177_0 b i w
theorem fa_177_0p (b i : Nat) (kv : Value → Prop) : Pure1 Tryd.prog (Instr.fieldAt 177 (.pointer (some ⟨b, i, none⟩)) 0) kv = kv (.pointer (some ⟨b, i + 0, none⟩)) := rp_eq fun w => run_fieldAt of177_0 b i w
theorem fa_181_0 (b i : Nat) (Z : List PanicEntry → World → Prop) (w : World) (kk : Value → World → Prop) : run1 Tryd.prog Z (Instr.fieldAt 181 (.pointer (some ⟨b, i, none⟩)) 0) w kk = kk (.pointer (some ⟨b, i + 0, none⟩)) w := r1_eq fun w => run_fieldAt of181_0 b i w
theorem fa_181_0p (b i : Nat) (kv : Value → Prop) : Pure1 Tryd.prog (Instr.fieldAt 181 (.pointer (some ⟨b, i, none⟩)) 0) kv = kv (.pointer (some ⟨b, i + 0, none⟩)) := rp_eq fun w => run_fieldAt of181_0 b i w
theorem fa_185_6 (b i : Nat) (Z : List PanicEntry → World → Prop) (w : World) (kk : Value → World → Prop) : run1 Tryd.prog Z (Instr.fieldAt 185 (.pointer (some ⟨b, i, none⟩)) 6) w kk = kk (.pointer (some ⟨b, i + 7, none⟩)) w := r1_eq fun w => run_fieldAt of185_6 b i w
theorem fa_185_6p (b i : Nat) (kv : Value → Prop) : Pure1 Tryd.prog (Instr.fieldAt 185 (.pointer (some ⟨b, i, none⟩)) 6) kv = kv (.pointer (some ⟨b, i + 7, none⟩)) := rp_eq fun w => run_fieldAt of185_6 b i w
theorem fa_189_1 (b i : Nat) (Z : List PanicEntry → World → Prop) (w : World) (kk : Value → World → Prop) : run1 Tryd.prog Z (Instr.fieldAt 189 (.pointer (some ⟨b, i, none⟩)) 1) w kk = kk (.pointer (some ⟨b, i + 1, none⟩)) w := r1_eq fun w => run_fieldAt of189_1 b i w
theorem fa_189_1p (b i : Nat) (kv : Value → Prop) : Pure1 Tryd.prog (Instr.fieldAt 189 (.pointer (some ⟨b, i, none⟩)) 1) kv = kv (.pointer (some ⟨b, i + 1, none⟩)) := rp_eq fun w => run_fieldAt of189_1 b i w
theorem fa_193_4 (b i : Nat) (Z : List PanicEntry → World → Prop) (w : World) (kk : Value → World → Prop) : run1 Tryd.prog Z (Instr.fieldAt 193 (.pointer (some ⟨b, i, none⟩)) 4) w kk = kk (.pointer (some ⟨b, i + 4, none⟩)) w := r1_eq fun w => run_fieldAt of193_4 b i w
theorem fa_193_4p (b i : Nat) (kv : Value → Prop) : Pure1 Tryd.prog (Instr.fieldAt 193 (.pointer (some ⟨b, i, none⟩)) 4) kv = kv (.pointer (some ⟨b, i + 4, none⟩)) := rp_eq fun w => run_fieldAt of193_4 b i w
theorem cv_85_81 (q : IntKind) (n : Int) (Z : List PanicEntry → World → Prop) (w : World) (kk : Value → World → Prop) : run1 Tryd.prog Z (convert 85 81 (.int q n)) w kk = kk (.int .u32 (IntKind.u32.wrap n)) w := r1_eq fun w => run_conv_int (by kernel_rfl) it81 q n w
theorem cv_85_81p (q : IntKind) (n : Int) (kv : Value → Prop) : Pure1 Tryd.prog (convert 85 81 (.int q n)) kv = kv (.int .u32 (IntKind.u32.wrap n)) := rp_eq fun w => run_conv_int (by kernel_rfl) it81 q n w
theorem cv_81_5 (q : IntKind) (n : Int) (Z : List PanicEntry → World → Prop) (w : World) (kk : Value → World → Prop) : run1 Tryd.prog Z (convert 81 5 (.int q n)) w kk = kk (.int .u8 (IntKind.u8.wrap n)) w := r1_eq fun w => run_conv_int (by kernel_rfl) it5 q n w
theorem cv_81_5p (q : IntKind) (n : Int) (kv : Value → Prop) : Pure1 Tryd.prog (convert 81 5 (.int q n)) kv = kv (.int .u8 (IntKind.u8.wrap n)) := rp_eq fun w => run_conv_int (by kernel_rfl) it5 q n w
theorem cv_3_115 (q : IntKind) (n : Int) (Z : List PanicEntry → World → Prop) (w : World) (kk : Value → World → Prop) : run1 Tryd.prog Z (convert 3 115 (.int q n)) w kk = kk (.int .u64 (IntKind.u64.wrap n)) w := r1_eq fun w => run_conv_int (by kernel_rfl) it115 q n w
theorem cv_3_115p (q : IntKind) (n : Int) (kv : Value → Prop) : Pure1 Tryd.prog (convert 3 115 (.int q n)) kv = kv (.int .u64 (IntKind.u64.wrap n)) := rp_eq fun w => run_conv_int (by kernel_rfl) it115 q n w
theorem cv_3_85 (q : IntKind) (n : Int) (Z : List PanicEntry → World → Prop) (w : World) (kk : Value → World → Prop) : run1 Tryd.prog Z (convert 3 85 (.int q n)) w kk = kk (.int .u64 (IntKind.u64.wrap n)) w := r1_eq fun w => run_conv_int (by kernel_rfl) it85 q n w
theorem cv_3_85p (q : IntKind) (n : Int) (kv : Value → Prop) : Pure1 Tryd.prog (convert 3 85 (.int q n)) kv = kv (.int .u64 (IntKind.u64.wrap n)) := rp_eq fun w => run_conv_int (by kernel_rfl) it85 q n w
theorem cv_5_3 (q : IntKind) (n : Int) (Z : List PanicEntry → World → Prop) (w : World) (kk : Value → World → Prop) : run1 Tryd.prog Z (convert 5 3 (.int q n)) w kk = kk (.int .i64 (IntKind.i64.wrap n)) w := r1_eq fun w => run_conv_int (by kernel_rfl) it3 q n w
theorem cv_5_3p (q : IntKind) (n : Int) (kv : Value → Prop) : Pure1 Tryd.prog (convert 5 3 (.int q n)) kv = kv (.int .i64 (IntKind.i64.wrap n)) := rp_eq fun w => run_conv_int (by kernel_rfl) it3 q n w
theorem cv_115_81 (q : IntKind) (n : Int) (Z : List PanicEntry → World → Prop) (w : World) (kk : Value → World → Prop) : run1 Tryd.prog Z (convert 115 81 (.int q n)) w kk = kk (.int .u32 (IntKind.u32.wrap n)) w := r1_eq fun w => run_conv_int (by kernel_rfl) it81 q n w
theorem cv_115_81p (q : IntKind) (n : Int) (kv : Value → Prop) : Pure1 Tryd.prog (convert 115 81 (.int q n)) kv = kv (.int .u32 (IntKind.u32.wrap n)) := rp_eq fun w => run_conv_int (by kernel_rfl) it81 q n w
theorem o_add (t : TypeId) (k : IntKind) (x y : Int) (Z : List PanicEntry → World → Prop) (w : World) (kk : Value → World → Prop) : run1 Tryd.prog Z (binOp .add t (.int k x) (.int k y)) w kk = kk (.int k (k.wrap (x + y))) w := r1_eq fun w => run_add _ w t k x y
theorem o_addp (t : TypeId) (k : IntKind) (x y : Int) (kv : Value → Prop) : Pure1 Tryd.prog (binOp .add t (.int k x) (.int k y)) kv = kv (.int k (k.wrap (x + y))) := rp_eq fun w => run_add _ w t k x y
theorem o_sub (t : TypeId) (k : IntKind) (x y : Int) (Z : List PanicEntry → World → Prop) (w : World) (kk : Value → World → Prop) : run1 Tryd.prog Z (binOp .sub t (.int k x) (.int k y)) w kk = kk (.int k (k.wrap (x - y))) w := r1_eq fun w => run_sub _ w t k x y
theorem o_subp (t : TypeId) (k : IntKind) (x y : Int) (kv : Value → Prop) : Pure1 Tryd.prog (binOp .sub t (.int k x) (.int k y)) kv = kv (.int k (k.wrap (x - y))) := rp_eq fun w => run_sub _ w t k x y
theorem o_mul (t : TypeId) (k : IntKind) (x y : Int) (Z : List PanicEntry → World → Prop) (w : World) (kk : Value → World → Prop) : run1 Tryd.prog Z (binOp .mul t (.int k x) (.int k y)) w kk = kk (.int k (k.wrap (x * y))) w := r1_eq fun w => run_mul _ w t k x y
theorem o_mulp (t : TypeId) (k : IntKind) (x y : Int) (kv : Value → Prop) : Pure1 Tryd.prog (binOp .mul t (.int k x) (.int k y)) kv = kv (.int k (k.wrap (x * y))) := rp_eq fun w => run_mul _ w t k x y
theorem o_lss (t : TypeId) (k : IntKind) (x y : Int) (Z : List PanicEntry → World → Prop) (w : World) (kk : Value → World → Prop) : run1 Tryd.prog Z (binOp .lss t (.int k x) (.int k y)) w kk = kk (.bool (decide (x < y))) w := r1_eq fun w => run_lss _ w t k x y
theorem o_lssp (t : TypeId) (k : IntKind) (x y : Int) (kv : Value → Prop) : Pure1 Tryd.prog (binOp .lss t (.int k x) (.int k y)) kv = kv (.bool (decide (x < y))) := rp_eq fun w => run_lss _ w t k x y
theorem o_leq (t : TypeId) (k : IntKind) (x y : Int) (Z : List PanicEntry → World → Prop) (w : World) (kk : Value → World → Prop) : run1 Tryd.prog Z (binOp .leq t (.int k x) (.int k y)) w kk = kk (.bool (decide (x ≤ y))) w := r1_eq fun w => run_leq _ w t k x y
theorem o_leqp (t : TypeId) (k : IntKind) (x y : Int) (kv : Value → Prop) : Pure1 Tryd.prog (binOp .leq t (.int k x) (.int k y)) kv = kv (.bool (decide (x ≤ y))) := rp_eq fun w => run_leq _ w t k x y
theorem o_gtr (t : TypeId) (k : IntKind) (x y : Int) (Z : List PanicEntry → World → Prop) (w : World) (kk : Value → World → Prop) : run1 Tryd.prog Z (binOp .gtr t (.int k x) (.int k y)) w kk = kk (.bool (decide (y < x))) w := r1_eq fun w => run_gtr _ w t k x y
theorem o_gtrp (t : TypeId) (k : IntKind) (x y : Int) (kv : Value → Prop) : Pure1 Tryd.prog (binOp .gtr t (.int k x) (.int k y)) kv = kv (.bool (decide (y < x))) := rp_eq fun w => run_gtr _ w t k x y
theorem o_geq (t : TypeId) (k : IntKind) (x y : Int) (Z : List PanicEntry → World → Prop) (w : World) (kk : Value → World → Prop) : run1 Tryd.prog Z (binOp .geq t (.int k x) (.int k y)) w kk = kk (.bool (decide (y ≤ x))) w := r1_eq fun w => run_geq _ w t k x y
theorem o_geqp (t : TypeId) (k : IntKind) (x y : Int) (kv : Value → Prop) : Pure1 Tryd.prog (binOp .geq t (.int k x) (.int k y)) kv = kv (.bool (decide (y ≤ x))) := rp_eq fun w => run_geq _ w t k x y
theorem o_eql (t : TypeId) (cx cy : Bool) (k : IntKind) (x y : Int) (Z : List PanicEntry → World → Prop) (w : World) (kk : Value → World → Prop) : run1 Tryd.prog Z (eqOp .eql t cx cy (.int k x) (.int k y)) w kk = kk (.bool (x == y)) w := r1_eq fun w => run_eql_int _ w t cx cy k x y
theorem o_eqlp (t : TypeId) (cx cy : Bool) (k : IntKind) (x y : Int) (kv : Value → Prop) : Pure1 Tryd.prog (eqOp .eql t cx cy (.int k x) (.int k y)) kv = kv (.bool (x == y)) := rp_eq fun w => run_eql_int _ w t cx cy k x y
theorem o_neq (t : TypeId) (cx cy : Bool) (k : IntKind) (x y : Int) (Z : List PanicEntry → World → Prop) (w : World) (kk : Value → World → Prop) : run1 Tryd.prog Z (eqOp .neq t cx cy (.int k x) (.int k y)) w kk = kk (.bool (x != y)) w := r1_eq fun w => run_neq_int _ w t cx cy k x y
theorem o_neqp (t : TypeId) (cx cy : Bool) (k : IntKind) (x y : Int) (kv : Value → Prop) : Pure1 Tryd.prog (eqOp .neq t cx cy (.int k x) (.int k y)) kv = kv (.bool (x != y)) := rp_eq fun w => run_neq_int _ w t cx cy k x y
theorem os_eql (t : TypeId) (cx cy : Bool) (a b : ByteArray) (Z : List PanicEntry → World → Prop) (w : World) (kk : Value → World → Prop) : run1 Tryd.prog Z (eqOp .eql t cx cy (.string a) (.string b)) w kk = kk (.bool ((a.toList == b.toList))) w := r1_eq fun w => run_eql_str t cx cy a b w
theorem os_eqlp (t : TypeId) (cx cy : Bool) (a b : ByteArray) (kv : Value → Prop) : Pure1 Tryd.prog (eqOp .eql t cx cy (.string a) (.string b)) kv = kv (.bool ((a.toList == b.toList))) := rp_eq fun w => run_eql_str t cx cy a b w
theorem os_neq (t : TypeId) (cx cy : Bool) (a b : ByteArray) (Z : List PanicEntry → World → Prop) (w : World) (kk : Value → World → Prop) : run1 Tryd.prog Z (eqOp .neq t cx cy (.string a) (.string b)) w kk = kk (.bool (!(a.toList == b.toList))) w := r1_eq fun w => run_neq_str t cx cy a b w
theorem os_neqp (t : TypeId) (cx cy : Bool) (a b : ByteArray) (kv : Value → Prop) : Pure1 Tryd.prog (eqOp .neq t cx cy (.string a) (.string b)) kv = kv (.bool (!(a.toList == b.toList))) := rp_eq fun w => run_neq_str t cx cy a b w
theorem o_and (t : TypeId) (k : IntKind) (x y : Int) (Z : List PanicEntry → World → Prop) (w : World) (kk : Value → World → Prop) : run1 Tryd.prog Z (binOp .and t (.int k x) (.int k y)) w kk = kk (.int k (k.wrap (BitVec.ofInt k.bits x &&& BitVec.ofInt k.bits y).toNat)) w := r1_eq fun w => run_and _ w t k x y
theorem o_andp (t : TypeId) (k : IntKind) (x y : Int) (kv : Value → Prop) : Pure1 Tryd.prog (binOp .and t (.int k x) (.int k y)) kv = kv (.int k (k.wrap (BitVec.ofInt k.bits x &&& BitVec.ofInt k.bits y).toNat)) := rp_eq fun w => run_and _ w t k x y
theorem o_or (t : TypeId) (k : IntKind) (x y : Int) (Z : List PanicEntry → World → Prop) (w : World) (kk : Value → World → Prop) : run1 Tryd.prog Z (binOp .or t (.int k x) (.int k y)) w kk = kk (.int k (k.wrap (BitVec.ofInt k.bits x ||| BitVec.ofInt k.bits y).toNat)) w := r1_eq fun w => run_or _ w t k x y
theorem o_orp (t : TypeId) (k : IntKind) (x y : Int) (kv : Value → Prop) : Pure1 Tryd.prog (binOp .or t (.int k x) (.int k y)) kv = kv (.int k (k.wrap (BitVec.ofInt k.bits x ||| BitVec.ofInt k.bits y).toNat)) := rp_eq fun w => run_or _ w t k x y
theorem o_xor (t : TypeId) (k : IntKind) (x y : Int) (Z : List PanicEntry → World → Prop) (w : World) (kk : Value → World → Prop) : run1 Tryd.prog Z (binOp .xor t (.int k x) (.int k y)) w kk = kk (.int k (k.wrap (BitVec.ofInt k.bits x ^^^ BitVec.ofInt k.bits y).toNat)) w := r1_eq fun w => run_xor _ w t k x y
theorem o_xorp (t : TypeId) (k : IntKind) (x y : Int) (kv : Value → Prop) : Pure1 Tryd.prog (binOp .xor t (.int k x) (.int k y)) kv = kv (.int k (k.wrap (BitVec.ofInt k.bits x ^^^ BitVec.ofInt k.bits y).toNat)) := rp_eq fun w => run_xor _ w t k x y
theorem o_not (b : Bool) (Z : List PanicEntry → World → Prop) (w : World) (kk : Value → World → Prop) : run1 Tryd.prog Z (Op.unary .not (.bool b)) w kk = kk (.bool !b) w := r1_eq fun w => run_not _ w b
theorem o_notp (b : Bool) (kv : Value → Prop) : Pure1 Tryd.prog (Op.unary .not (.bool b)) kv = kv (.bool !b) := rp_eq fun w => run_not _ w b
theorem o_pickT (x y : Value) (Z : List PanicEntry → World → Prop) (w : World) (kk : Value → World → Prop) : run1 Tryd.prog Z (pickV (.bool true) x y) w kk = kk x w := r1_eq fun w => run_pick _ w true x y
theorem o_pickTp (x y : Value) (kv : Value → Prop) : Pure1 Tryd.prog (pickV (.bool true) x y) kv = kv x := rp_eq fun w => run_pick _ w true x y
theorem o_pickF (x y : Value) (Z : List PanicEntry → World → Prop) (w : World) (kk : Value → World → Prop) : run1 Tryd.prog Z (pickV (.bool false) x y) w kk = kk y w := r1_eq fun w => run_pick _ w false x y
theorem o_pickFp (x y : Value) (kv : Value → Prop) : Pure1 Tryd.prog (pickV (.bool false) x y) kv = kv y := rp_eq fun w => run_pick _ w false x y
theorem o_ext1_0 (v0 : Value) (Z : List PanicEntry → World → Prop) (w : World) (kk : Value → World → Prop) : run1 Tryd.prog Z (Instr.extract (.tuple #[v0]) 0) w kk = kk v0 w := r1_eq fun w => run_extract _ w _ 0 _ rfl
theorem o_ext1_0p (v0 : Value) (kv : Value → Prop) : Pure1 Tryd.prog (Instr.extract (.tuple #[v0]) 0) kv = kv v0 := rp_eq fun w => run_extract _ w _ 0 _ rfl
theorem o_ext2_0 (v0 v1 : Value) (Z : List PanicEntry → World → Prop) (w : World) (kk : Value → World → Prop) : run1 Tryd.prog Z (Instr.extract (.tuple #[v0, v1]) 0) w kk = kk v0 w := r1_eq fun w => run_extract _ w _ 0 _ rfl
theorem o_ext2_0p (v0 v1 : Value) (kv : Value → Prop) : Pure1 Tryd.prog (Instr.extract (.tuple #[v0, v1]) 0) kv = kv v0 := rp_eq fun w => run_extract _ w _ 0 _ rfl
theorem o_ext2_1 (v0 v1 : Value) (Z : List PanicEntry → World → Prop) (w : World) (kk : Value → World → Prop) : run1 Tryd.prog Z (Instr.extract (.tuple #[v0, v1]) 1) w kk = kk v1 w := r1_eq fun w => run_extract _ w _ 1 _ rfl
theorem o_ext2_1p (v0 v1 : Value) (kv : Value → Prop) : Pure1 Tryd.prog (Instr.extract (.tuple #[v0, v1]) 1) kv = kv v1 := rp_eq fun w => run_extract _ w _ 1 _ rfl
theorem o_ext3_0 (v0 v1 v2 : Value) (Z : List PanicEntry → World → Prop) (w : World) (kk : Value → World → Prop) : run1 Tryd.prog Z (Instr.extract (.tuple #[v0, v1, v2]) 0) w kk = kk v0 w := r1_eq fun w => run_extract _ w _ 0 _ rfl
theorem o_ext3_0p (v0 v1 v2 : Value) (kv : Value → Prop) : Pure1 Tryd.prog (Instr.extract (.tuple #[v0, v1, v2]) 0) kv = kv v0 := rp_eq fun w => run_extract _ w _ 0 _ rfl
theorem o_ext3_1 (v0 v1 v2 : Value) (Z : List PanicEntry → World → Prop) (w : World) (kk : Value → World → Prop) : run1 Tryd.prog Z (Instr.extract (.tuple #[v0, v1, v2]) 1) w kk = kk v1 w := r1_eq fun w => run_extract _ w _ 1 _ rfl
theorem o_ext3_1p (v0 v1 v2 : Value) (kv : Value → Prop) : Pure1 Tryd.prog (Instr.extract (.tuple #[v0, v1, v2]) 1) kv = kv v1 := rp_eq fun w => run_extract _ w _ 1 _ rfl
theorem o_ext3_2 (v0 v1 v2 : Value) (Z : List PanicEntry → World → Prop) (w : World) (kk : Value → World → Prop) : run1 Tryd.prog Z (Instr.extract (.tuple #[v0, v1, v2]) 2) w kk = kk v2 w := r1_eq fun w => run_extract _ w _ 2 _ rfl
theorem o_ext3_2p (v0 v1 v2 : Value) (kv : Value → Prop) : Pure1 Tryd.prog (Instr.extract (.tuple #[v0, v1, v2]) 2) kv = kv v2 := rp_eq fun w => run_extract _ w _ 2 _ rfl
theorem o_ext4_0 (v0 v1 v2 v3 : Value) (Z : List PanicEntry → World → Prop) (w : World) (kk : Value → World → Prop) : run1 Tryd.prog Z (Instr.extract (.tuple #[v0, v1, v2, v3]) 0) w kk = kk v0 w := r1_eq fun w => run_extract _ w _ 0 _ rfl
theorem o_ext4_0p (v0 v1 v2 v3 : Value) (kv : Value → Prop) : Pure1 Tryd.prog (Instr.extract (.tuple #[v0, v1, v2, v3]) 0) kv = kv v0 := rp_eq fun w => run_extract _ w _ 0 _ rfl
theorem o_ext4_1 (v0 v1 v2 v3 : Value) (Z : List PanicEntry → World → Prop) (w : World) (kk : Value → World → Prop) : run1 Tryd.prog Z (Instr.extract (.tuple #[v0, v1, v2, v3]) 1) w kk = kk v1 w := r1_eq fun w => run_extract _ w _ 1 _ rfl
theorem o_ext4_1p (v0 v1 v2 v3 : Value) (kv : Value → Prop) : Pure1 Tryd.prog (Instr.extract (.tuple #[v0, v1, v2, v3]) 1) kv = kv v1 := rp_eq fun w => run_extract _ w _ 1 _ rfl
theorem o_ext4_2 (v0 v1 v2 v3 : Value) (Z : List PanicEntry → World → Prop) (w : World) (kk : Value → World → Prop) : run1 Tryd.prog Z (Instr.extract (.tuple #[v0, v1, v2, v3]) 2) w kk = kk v2 w := r1_eq fun w => run_extract _ w _ 2 _ rfl
theorem o_ext4_2p (v0 v1 v2 v3 : Value) (kv : Value → Prop) : Pure1 Tryd.prog (Instr.extract (.tuple #[v0, v1, v2, v3]) 2) kv = kv v2 := rp_eq fun w => run_extract _ w _ 2 _ rfl
theorem o_ext4_3 (v0 v1 v2 v3 : Value) (Z : List PanicEntry → World → Prop) (w : World) (kk : Value → World → Prop) : run1 Tryd.prog Z (Instr.extract (.tuple #[v0, v1, v2, v3]) 3) w kk = kk v3 w := r1_eq fun w => run_extract _ w _ 3 _ rfl
theorem o_ext4_3p (v0 v1 v2 v3 : Value) (kv : Value → Prop) : Pure1 Tryd.prog (Instr.extract (.tuple #[v0, v1, v2, v3]) 3) kv = kv v3 := rp_eq fun w => run_extract _ w _ 3 _ rfl
theorem o_ext5_0 (v0 v1 v2 v3 v4 : Value) (Z : List PanicEntry → World → Prop) (w : World) (kk : Value → World → Prop) : run1 Tryd.prog Z (Instr.extract (.tuple #[v0, v1, v2, v3, v4]) 0) w kk = kk v0 w := r1_eq fun w => run_extract _ w _ 0 _ rfl
theorem o_ext5_0p (v0 v1 v2 v3 v4 : Value) (kv : Value → Prop) : Pure1 Tryd.prog (Instr.extract (.tuple #[v0, v1, v2, v3, v4]) 0) kv = kv v0 := rp_eq fun w => run_extract _ w _ 0 _ rfl
theorem o_ext5_1 (v0 v1 v2 v3 v4 : Value) (Z : List PanicEntry → World → Prop) (w : World) (kk : Value → World → Prop) : run1 Tryd.prog Z (Instr.extract (.tuple #[v0, v1, v2, v3, v4]) 1) w kk = kk v1 w := r1_eq fun w => run_extract _ w _ 1 _ rfl
theorem o_ext5_1p (v0 v1 v2 v3 v4 : Value) (kv : Value → Prop) : Pure1 Tryd.prog (Instr.extract (.tuple #[v0, v1, v2, v3, v4]) 1) kv = kv v1 := rp_eq fun w => run_extract _ w _ 1 _ rfl
theorem o_ext5_2 (v0 v1 v2 v3 v4 : Value) (Z : List PanicEntry → World → Prop) (w : World) (kk : Value → World → Prop) : run1 Tryd.prog Z (Instr.extract (.tuple #[v0, v1, v2, v3, v4]) 2) w kk = kk v2 w := r1_eq fun w => run_extract _ w _ 2 _ rfl
theorem o_ext5_2p (v0 v1 v2 v3 v4 : Value) (kv : Value → Prop) : Pure1 Tryd.prog (Instr.extract (.tuple #[v0, v1, v2, v3, v4]) 2) kv = kv v2 := rp_eq fun w => run_extract _ w _ 2 _ rfl
theorem o_ext5_3 (v0 v1 v2 v3 v4 : Value) (Z : List PanicEntry → World → Prop) (w : World) (kk : Value → World → Prop) : run1 Tryd.prog Z (Instr.extract (.tuple #[v0, v1, v2, v3, v4]) 3) w kk = kk v3 w := r1_eq fun w => run_extract _ w _ 3 _ rfl
theorem o_ext5_3p (v0 v1 v2 v3 v4 : Value) (kv : Value → Prop) : Pure1 Tryd.prog (Instr.extract (.tuple #[v0, v1, v2, v3, v4]) 3) kv = kv v3 := rp_eq fun w => run_extract _ w _ 3 _ rfl
theorem o_ext5_4 (v0 v1 v2 v3 v4 : Value) (Z : List PanicEntry → World → Prop) (w : World) (kk : Value → World → Prop) : run1 Tryd.prog Z (Instr.extract (.tuple #[v0, v1, v2, v3, v4]) 4) w kk = kk v4 w := r1_eq fun w => run_extract _ w _ 4 _ rfl
theorem o_ext5_4p (v0 v1 v2 v3 v4 : Value) (kv : Value → Prop) : Pure1 Tryd.prog (Instr.extract (.tuple #[v0, v1, v2, v3, v4]) 4) kv = kv v4 := rp_eq fun w => run_extract _ w _ 4 _ rfl
theorem o_max (ts : Array TypeId) (t : TypeId) (k k' : IntKind) (x y : Int) (Z : List PanicEntry → World → Prop) (w : World) (kk : Value → World → Prop) : run1 Tryd.prog Z (Builtin.max_ ts t #[.int k x, .int k' y]) w kk = kk (.int k (max x y)) w := r1_eq fun w => run_maxV ts t k k' x y w
theorem o_maxp (ts : Array TypeId) (t : TypeId) (k k' : IntKind) (x y : Int) (kv : Value → Prop) : Pure1 Tryd.prog (Builtin.max_ ts t #[.int k x, .int k' y]) kv = kv (.int k (max x y)) := rp_eq fun w => run_maxV ts t k k' x y w
theorem o_min (ts : Array TypeId) (t : TypeId) (k k' : IntKind) (x y : Int) (Z : List PanicEntry → World → Prop) (w : World) (kk : Value → World → Prop) : run1 Tryd.prog Z (Builtin.min_ ts t #[.int k x, .int k' y]) w kk = kk (.int k (min x y)) w := r1_eq fun w => run_minV ts t k k' x y w
theorem o_minp (ts : Array TypeId) (t : TypeId) (k k' : IntKind) (x y : Int) (kv : Value → Prop) : Pure1 Tryd.prog (Builtin.min_ ts t #[.int k x, .int k' y]) kv = kv (.int k (min x y)) := rp_eq fun w => run_minV ts t k k' x y w
theorem o_fn (fn : Fn) (a b : Array Value) (Z : List PanicEntry → World → Prop) (w : World) (kk : Value → World → Prop) : run1 Tryd.prog Z (Instr.makeFunc fn a b) w kk = kk (.func fn a b) w := r1_eq fun w => run_makeFunc _ w fn a b
theorem o_fnp (fn : Fn) (a b : Array Value) (kv : Value → Prop) : Pure1 Tryd.prog (Instr.makeFunc fn a b) kv = kv (.func fn a b) := rp_eq fun w => run_makeFunc _ w fn a b
theorem o_chk (a : Addr) (Z : List PanicEntry → World → Prop) (w : World) (kk : Value → World → Prop) : runX Tryd.prog Z (nilChk (.pointer (some a))) w kk = kk (.pointer (some a)) w := rX_eq fun w => run_nilChk _ w a
theorem o_chkp (a : Addr) (kv : Value → Prop) : PureV Tryd.prog (nilChk (.pointer (some a))) kv = kv (.pointer (some a)) := rpV_eq fun w => run_nilChk _ w a
end Go.Proofs.YtklojohafbmonaaDoor
