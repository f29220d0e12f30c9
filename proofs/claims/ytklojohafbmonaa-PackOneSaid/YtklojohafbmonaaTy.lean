import Derived.Test.YtklojohafbmonaaShOpen
import Derived.Test.YtklojohafbmonaaProg
set_option linter.unusedVariables false
namespace Go.Proofs.Ytklojohafbmonaa
open Go.Sh
theorem fu1 : isFuncT Try.prog 1 = true := by kernel_rfl
theorem one1 : oneT Try.prog 1 = true := by kernel_rfl
theorem ze1 : zeroT Try.prog 1 = some .nilFunc := by kernel_rfl
theorem it2 : intT Try.prog 2 = some .i64 := by kernel_rfl
theorem one2 : oneT Try.prog 2 = true := by kernel_rfl
theorem ze2 : zeroT Try.prog 2 = some (.int .i64 0) := by kernel_rfl
theorem it3 : intT Try.prog 3 = some .i64 := by kernel_rfl
theorem one3 : oneT Try.prog 3 = true := by kernel_rfl
theorem ze3 : zeroT Try.prog 3 = some (.int .i64 0) := by kernel_rfl
theorem bo4 : isBoolT Try.prog 4 = true := by kernel_rfl
theorem one4 : oneT Try.prog 4 = true := by kernel_rfl
theorem ze4 : zeroT Try.prog 4 = some (.bool false) := by kernel_rfl
theorem it5 : intT Try.prog 5 = some .u8 := by kernel_rfl
theorem one5 : oneT Try.prog 5 = true := by kernel_rfl
theorem ze5 : zeroT Try.prog 5 = some (.int .u8 0) := by kernel_rfl
theorem it6 : intT Try.prog 6 = some .u8 := by kernel_rfl
theorem one6 : oneT Try.prog 6 = true := by kernel_rfl
theorem ze6 : zeroT Try.prog 6 = some (.int .u8 0) := by kernel_rfl
theorem ag7 : aggT Try.prog 7 4 = true := by kernel_rfl
theorem ze7 : zeroT Try.prog 7 = some (.agg #[(.int .i64 0), (.int .i64 0), (.bool false), (.int .u8 0)]) := by kernel_rfl
theorem of7_0 : offT Try.prog 7 0 = some 0 := by kernel_rfl
theorem of7_1 : offT Try.prog 7 1 = some 1 := by kernel_rfl
theorem of7_2 : offT Try.prog 7 2 = some 2 := by kernel_rfl
theorem of7_3 : offT Try.prog 7 3 = some 3 := by kernel_rfl
theorem ag8 : aggT Try.prog 8 4 = true := by kernel_rfl
theorem ze8 : zeroT Try.prog 8 = some (.agg #[(.int .i64 0), (.int .i64 0), (.bool false), (.int .u8 0)]) := by kernel_rfl
theorem of8_0 : offT Try.prog 8 0 = some 0 := by kernel_rfl
theorem of8_1 : offT Try.prog 8 1 = some 1 := by kernel_rfl
theorem of8_2 : offT Try.prog 8 2 = some 2 := by kernel_rfl
theorem of8_3 : offT Try.prog 8 3 = some 3 := by kernel_rfl
theorem st9 : isStrT Try.prog 9 = true := by kernel_rfl
theorem one9 : oneT Try.prog 9 = true := by kernel_rfl
theorem ze9 : zeroT Try.prog 9 = some (.string ByteArray.empty) := by kernel_rfl
theorem st10 : isStrT Try.prog 10 = true := by kernel_rfl
theorem one10 : oneT Try.prog 10 = true := by kernel_rfl
theorem ze10 : zeroT Try.prog 10 = some (.string ByteArray.empty) := by kernel_rfl
theorem st11 : isStrT Try.prog 11 = true := by kernel_rfl
theorem one11 : oneT Try.prog 11 = true := by kernel_rfl
theorem ze11 : zeroT Try.prog 11 = some (.string ByteArray.empty) := by kernel_rfl
theorem it12 : intT Try.prog 12 = some .u64 := by kernel_rfl
theorem one12 : oneT Try.prog 12 = true := by kernel_rfl
theorem ze12 : zeroT Try.prog 12 = some (.int .u64 0) := by kernel_rfl
theorem ag13 : aggT Try.prog 13 2 = true := by kernel_rfl
theorem ze13 : zeroT Try.prog 13 = some (.agg #[(.string ByteArray.empty), (.int .u64 0)]) := by kernel_rfl
theorem of13_0 : offT Try.prog 13 0 = some 0 := by kernel_rfl
theorem of13_1 : offT Try.prog 13 1 = some 1 := by kernel_rfl
theorem ag14 : aggT Try.prog 14 2 = true := by kernel_rfl
theorem ze14 : zeroT Try.prog 14 = some (.agg #[(.string ByteArray.empty), (.int .u64 0)]) := by kernel_rfl
theorem of14_0 : offT Try.prog 14 0 = some 0 := by kernel_rfl
theorem of14_1 : offT Try.prog 14 1 = some 1 := by kernel_rfl
theorem pt15 : isPtrT Try.prog 15 = true := by kernel_rfl
theorem one15 : oneT Try.prog 15 = true := by kernel_rfl
theorem ze15 : zeroT Try.prog 15 = some (.pointer none) := by kernel_rfl
theorem pt16 : isPtrT Try.prog 16 = true := by kernel_rfl
theorem one16 : oneT Try.prog 16 = true := by kernel_rfl
theorem ze16 : zeroT Try.prog 16 = some (.pointer none) := by kernel_rfl
theorem pt17 : isPtrT Try.prog 17 = true := by kernel_rfl
theorem one17 : oneT Try.prog 17 = true := by kernel_rfl
theorem ze17 : zeroT Try.prog 17 = some (.pointer none) := by kernel_rfl
theorem ag18 : aggT Try.prog 18 1 = true := by kernel_rfl
theorem ze18 : zeroT Try.prog 18 = some (.agg #[(.pointer none)]) := by kernel_rfl
theorem of18_0 : offT Try.prog 18 0 = some 0 := by kernel_rfl
theorem ag19 : aggT Try.prog 19 1 = true := by kernel_rfl
theorem ze19 : zeroT Try.prog 19 = some (.agg #[(.pointer none)]) := by kernel_rfl
theorem of19_0 : offT Try.prog 19 0 = some 0 := by kernel_rfl
theorem one20 : oneT Try.prog 20 = true := by kernel_rfl
theorem ze20 : zeroT Try.prog 20 = some .nilIface := by kernel_rfl
theorem it21 : intT Try.prog 21 = some .i32 := by kernel_rfl
theorem one21 : oneT Try.prog 21 = true := by kernel_rfl
theorem ze21 : zeroT Try.prog 21 = some (.int .i32 0) := by kernel_rfl
theorem sl22 : isSliceT Try.prog 22 = true := by kernel_rfl
theorem one22 : oneT Try.prog 22 = true := by kernel_rfl
theorem el22 : El Try.prog 22 5 1 1 (.int .u8 0) := ⟨Try.underlying22, by kernel_rfl, by kernel_rfl, by decide⟩
theorem ze22 : zeroT Try.prog 22 = some (.slice none 0 0) := by kernel_rfl
theorem fu23 : isFuncT Try.prog 23 = true := by kernel_rfl
theorem one23 : oneT Try.prog 23 = true := by kernel_rfl
theorem ze23 : zeroT Try.prog 23 = some .nilFunc := by kernel_rfl
theorem fu24 : isFuncT Try.prog 24 = true := by kernel_rfl
theorem one24 : oneT Try.prog 24 = true := by kernel_rfl
theorem ze24 : zeroT Try.prog 24 = some .nilFunc := by kernel_rfl
theorem it25 : intT Try.prog 25 = some .u32 := by kernel_rfl
theorem one25 : oneT Try.prog 25 = true := by kernel_rfl
theorem ze25 : zeroT Try.prog 25 = some (.int .u32 0) := by kernel_rfl
theorem fu26 : isFuncT Try.prog 26 = true := by kernel_rfl
theorem one26 : oneT Try.prog 26 = true := by kernel_rfl
theorem ze26 : zeroT Try.prog 26 = some .nilFunc := by kernel_rfl
theorem fu27 : isFuncT Try.prog 27 = true := by kernel_rfl
theorem one27 : oneT Try.prog 27 = true := by kernel_rfl
theorem ze27 : zeroT Try.prog 27 = some .nilFunc := by kernel_rfl
theorem fu28 : isFuncT Try.prog 28 = true := by kernel_rfl
theorem one28 : oneT Try.prog 28 = true := by kernel_rfl
theorem ze28 : zeroT Try.prog 28 = some .nilFunc := by kernel_rfl
theorem fu29 : isFuncT Try.prog 29 = true := by kernel_rfl
theorem one29 : oneT Try.prog 29 = true := by kernel_rfl
theorem ze29 : zeroT Try.prog 29 = some .nilFunc := by kernel_rfl
theorem sl30 : isSliceT Try.prog 30 = true := by kernel_rfl
theorem one30 : oneT Try.prog 30 = true := by kernel_rfl
theorem el30 : El Try.prog 30 2 1 8 (.int .i64 0) := ⟨Try.underlying30, by kernel_rfl, by kernel_rfl, by decide⟩
theorem ze30 : zeroT Try.prog 30 = some (.slice none 0 0) := by kernel_rfl
theorem pt31 : isPtrT Try.prog 31 = true := by kernel_rfl
theorem one31 : oneT Try.prog 31 = true := by kernel_rfl
theorem ze31 : zeroT Try.prog 31 = some (.pointer none) := by kernel_rfl
theorem ag32 : aggT Try.prog 32 1 = true := by kernel_rfl
theorem ze32 : zeroT Try.prog 32 = some (.agg #[(.slice none 0 0)]) := by kernel_rfl
theorem of32_0 : offT Try.prog 32 0 = some 0 := by kernel_rfl
theorem ag33 : aggT Try.prog 33 1 = true := by kernel_rfl
theorem ze33 : zeroT Try.prog 33 = some (.agg #[(.slice none 0 0)]) := by kernel_rfl
theorem of33_0 : offT Try.prog 33 0 = some 0 := by kernel_rfl
theorem fu34 : isFuncT Try.prog 34 = true := by kernel_rfl
theorem one34 : oneT Try.prog 34 = true := by kernel_rfl
theorem ze34 : zeroT Try.prog 34 = some .nilFunc := by kernel_rfl
theorem fu35 : isFuncT Try.prog 35 = true := by kernel_rfl
theorem one35 : oneT Try.prog 35 = true := by kernel_rfl
theorem ze35 : zeroT Try.prog 35 = some .nilFunc := by kernel_rfl
theorem fu36 : isFuncT Try.prog 36 = true := by kernel_rfl
theorem one36 : oneT Try.prog 36 = true := by kernel_rfl
theorem ze36 : zeroT Try.prog 36 = some .nilFunc := by kernel_rfl
theorem fu37 : isFuncT Try.prog 37 = true := by kernel_rfl
theorem one37 : oneT Try.prog 37 = true := by kernel_rfl
theorem ze37 : zeroT Try.prog 37 = some .nilFunc := by kernel_rfl
theorem fu38 : isFuncT Try.prog 38 = true := by kernel_rfl
theorem one38 : oneT Try.prog 38 = true := by kernel_rfl
theorem ze38 : zeroT Try.prog 38 = some .nilFunc := by kernel_rfl
theorem fu39 : isFuncT Try.prog 39 = true := by kernel_rfl
theorem one39 : oneT Try.prog 39 = true := by kernel_rfl
theorem ze39 : zeroT Try.prog 39 = some .nilFunc := by kernel_rfl
theorem fu40 : isFuncT Try.prog 40 = true := by kernel_rfl
theorem one40 : oneT Try.prog 40 = true := by kernel_rfl
theorem ze40 : zeroT Try.prog 40 = some .nilFunc := by kernel_rfl
theorem fu41 : isFuncT Try.prog 41 = true := by kernel_rfl
theorem one41 : oneT Try.prog 41 = true := by kernel_rfl
theorem ze41 : zeroT Try.prog 41 = some .nilFunc := by kernel_rfl
theorem sl42 : isSliceT Try.prog 42 = true := by kernel_rfl
theorem one42 : oneT Try.prog 42 = true := by kernel_rfl
theorem el42 : El Try.prog 42 46 6 72 (.agg #[(.int .i64 0), (.int .i64 0), (.int .i64 0), (.float .f64 0), (.string ByteArray.empty), (.slice none 0 0)]) := ⟨Try.underlying42, by kernel_rfl, by kernel_rfl, by decide⟩
theorem ze42 : zeroT Try.prog 42 = some (.slice none 0 0) := by kernel_rfl
theorem fu43 : isFuncT Try.prog 43 = true := by kernel_rfl
theorem one43 : oneT Try.prog 43 = true := by kernel_rfl
theorem ze43 : zeroT Try.prog 43 = some .nilFunc := by kernel_rfl
theorem one44 : oneT Try.prog 44 = true := by kernel_rfl
theorem ze44 : zeroT Try.prog 44 = some (.float .f64 0) := by kernel_rfl
theorem ag45 : aggT Try.prog 45 6 = true := by kernel_rfl
theorem ze45 : zeroT Try.prog 45 = some (.agg #[(.int .i64 0), (.int .i64 0), (.int .i64 0), (.float .f64 0), (.string ByteArray.empty), (.slice none 0 0)]) := by kernel_rfl
theorem of45_0 : offT Try.prog 45 0 = some 0 := by kernel_rfl
theorem of45_1 : offT Try.prog 45 1 = some 1 := by kernel_rfl
theorem of45_2 : offT Try.prog 45 2 = some 2 := by kernel_rfl
theorem of45_3 : offT Try.prog 45 3 = some 3 := by kernel_rfl
theorem of45_4 : offT Try.prog 45 4 = some 4 := by kernel_rfl
theorem of45_5 : offT Try.prog 45 5 = some 5 := by kernel_rfl
theorem ag46 : aggT Try.prog 46 6 = true := by kernel_rfl
theorem ze46 : zeroT Try.prog 46 = some (.agg #[(.int .i64 0), (.int .i64 0), (.int .i64 0), (.float .f64 0), (.string ByteArray.empty), (.slice none 0 0)]) := by kernel_rfl
theorem of46_0 : offT Try.prog 46 0 = some 0 := by kernel_rfl
theorem of46_1 : offT Try.prog 46 1 = some 1 := by kernel_rfl
theorem of46_2 : offT Try.prog 46 2 = some 2 := by kernel_rfl
theorem of46_3 : offT Try.prog 46 3 = some 3 := by kernel_rfl
theorem of46_4 : offT Try.prog 46 4 = some 4 := by kernel_rfl
theorem of46_5 : offT Try.prog 46 5 = some 5 := by kernel_rfl
theorem fu48 : isFuncT Try.prog 48 = true := by kernel_rfl
theorem one48 : oneT Try.prog 48 = true := by kernel_rfl
theorem ze48 : zeroT Try.prog 48 = some .nilFunc := by kernel_rfl
theorem pt49 : isPtrT Try.prog 49 = true := by kernel_rfl
theorem one49 : oneT Try.prog 49 = true := by kernel_rfl
theorem ze49 : zeroT Try.prog 49 = some (.pointer none) := by kernel_rfl
theorem fu50 : isFuncT Try.prog 50 = true := by kernel_rfl
theorem one50 : oneT Try.prog 50 = true := by kernel_rfl
theorem ze50 : zeroT Try.prog 50 = some .nilFunc := by kernel_rfl
theorem it51 : intT Try.prog 51 = some .i64 := by kernel_rfl
theorem one51 : oneT Try.prog 51 = true := by kernel_rfl
theorem ze51 : zeroT Try.prog 51 = some (.int .i64 0) := by kernel_rfl
theorem ag52 : aggT Try.prog 52 2 = true := by kernel_rfl
theorem ze52 : zeroT Try.prog 52 = some (.agg #[(.int .i64 0), (.int .i64 0)]) := by kernel_rfl
theorem ag53 : aggT Try.prog 53 7 = true := by kernel_rfl
theorem ze53 : zeroT Try.prog 53 = some (.agg #[(.bool false), (.int .i64 0), (.float .f64 0), (.string ByteArray.empty), (.slice none 0 0), (.int .i64 0), (.int .i64 0)]) := by kernel_rfl
theorem of53_0 : offT Try.prog 53 0 = some 0 := by kernel_rfl
theorem of53_1 : offT Try.prog 53 1 = some 1 := by kernel_rfl
theorem of53_2 : offT Try.prog 53 2 = some 2 := by kernel_rfl
theorem of53_3 : offT Try.prog 53 3 = some 3 := by kernel_rfl
theorem of53_4 : offT Try.prog 53 4 = some 4 := by kernel_rfl
theorem of53_5 : offT Try.prog 53 5 = some 5 := by kernel_rfl
theorem ag54 : aggT Try.prog 54 7 = true := by kernel_rfl
theorem ze54 : zeroT Try.prog 54 = some (.agg #[(.bool false), (.int .i64 0), (.float .f64 0), (.string ByteArray.empty), (.slice none 0 0), (.int .i64 0), (.int .i64 0)]) := by kernel_rfl
theorem of54_0 : offT Try.prog 54 0 = some 0 := by kernel_rfl
theorem of54_1 : offT Try.prog 54 1 = some 1 := by kernel_rfl
theorem of54_2 : offT Try.prog 54 2 = some 2 := by kernel_rfl
theorem of54_3 : offT Try.prog 54 3 = some 3 := by kernel_rfl
theorem of54_4 : offT Try.prog 54 4 = some 4 := by kernel_rfl
theorem of54_5 : offT Try.prog 54 5 = some 5 := by kernel_rfl
theorem fu55 : isFuncT Try.prog 55 = true := by kernel_rfl
theorem one55 : oneT Try.prog 55 = true := by kernel_rfl
theorem ze55 : zeroT Try.prog 55 = some .nilFunc := by kernel_rfl
theorem fu56 : isFuncT Try.prog 56 = true := by kernel_rfl
theorem one56 : oneT Try.prog 56 = true := by kernel_rfl
theorem ze56 : zeroT Try.prog 56 = some .nilFunc := by kernel_rfl
theorem fu57 : isFuncT Try.prog 57 = true := by kernel_rfl
theorem one57 : oneT Try.prog 57 = true := by kernel_rfl
theorem ze57 : zeroT Try.prog 57 = some .nilFunc := by kernel_rfl
theorem fu58 : isFuncT Try.prog 58 = true := by kernel_rfl
theorem one58 : oneT Try.prog 58 = true := by kernel_rfl
theorem ze58 : zeroT Try.prog 58 = some .nilFunc := by kernel_rfl
theorem sl59 : isSliceT Try.prog 59 = true := by kernel_rfl
theorem one59 : oneT Try.prog 59 = true := by kernel_rfl
theorem el59 : El Try.prog 59 3 1 8 (.int .i64 0) := ⟨Try.underlying59, by kernel_rfl, by kernel_rfl, by decide⟩
theorem ze59 : zeroT Try.prog 59 = some (.slice none 0 0) := by kernel_rfl
theorem fu60 : isFuncT Try.prog 60 = true := by kernel_rfl
theorem one60 : oneT Try.prog 60 = true := by kernel_rfl
theorem ze60 : zeroT Try.prog 60 = some .nilFunc := by kernel_rfl
theorem fu61 : isFuncT Try.prog 61 = true := by kernel_rfl
theorem one61 : oneT Try.prog 61 = true := by kernel_rfl
theorem ze61 : zeroT Try.prog 61 = some .nilFunc := by kernel_rfl
theorem fu62 : isFuncT Try.prog 62 = true := by kernel_rfl
theorem one62 : oneT Try.prog 62 = true := by kernel_rfl
theorem ze62 : zeroT Try.prog 62 = some .nilFunc := by kernel_rfl
theorem fu63 : isFuncT Try.prog 63 = true := by kernel_rfl
theorem one63 : oneT Try.prog 63 = true := by kernel_rfl
theorem ze63 : zeroT Try.prog 63 = some .nilFunc := by kernel_rfl
theorem fu64 : isFuncT Try.prog 64 = true := by kernel_rfl
theorem one64 : oneT Try.prog 64 = true := by kernel_rfl
theorem ze64 : zeroT Try.prog 64 = some .nilFunc := by kernel_rfl
theorem fu65 : isFuncT Try.prog 65 = true := by kernel_rfl
theorem one65 : oneT Try.prog 65 = true := by kernel_rfl
theorem ze65 : zeroT Try.prog 65 = some .nilFunc := by kernel_rfl
theorem it66 : intT Try.prog 66 = some .u64 := by kernel_rfl
theorem one66 : oneT Try.prog 66 = true := by kernel_rfl
theorem ze66 : zeroT Try.prog 66 = some (.int .u64 0) := by kernel_rfl
theorem fu67 : isFuncT Try.prog 67 = true := by kernel_rfl
theorem one67 : oneT Try.prog 67 = true := by kernel_rfl
theorem ze67 : zeroT Try.prog 67 = some .nilFunc := by kernel_rfl
theorem fu68 : isFuncT Try.prog 68 = true := by kernel_rfl
theorem one68 : oneT Try.prog 68 = true := by kernel_rfl
theorem ze68 : zeroT Try.prog 68 = some .nilFunc := by kernel_rfl
theorem it69 : intT Try.prog 69 = some .u64 := by kernel_rfl
theorem one69 : oneT Try.prog 69 = true := by kernel_rfl
theorem ze69 : zeroT Try.prog 69 = some (.int .u64 0) := by kernel_rfl
theorem fu70 : isFuncT Try.prog 70 = true := by kernel_rfl
theorem one70 : oneT Try.prog 70 = true := by kernel_rfl
theorem ze70 : zeroT Try.prog 70 = some .nilFunc := by kernel_rfl
theorem fu71 : isFuncT Try.prog 71 = true := by kernel_rfl
theorem one71 : oneT Try.prog 71 = true := by kernel_rfl
theorem ze71 : zeroT Try.prog 71 = some .nilFunc := by kernel_rfl
theorem fu72 : isFuncT Try.prog 72 = true := by kernel_rfl
theorem one72 : oneT Try.prog 72 = true := by kernel_rfl
theorem ze72 : zeroT Try.prog 72 = some .nilFunc := by kernel_rfl
theorem it73 : intT Try.prog 73 = some .i8 := by kernel_rfl
theorem one73 : oneT Try.prog 73 = true := by kernel_rfl
theorem ze73 : zeroT Try.prog 73 = some (.int .i8 0) := by kernel_rfl
theorem fu74 : isFuncT Try.prog 74 = true := by kernel_rfl
theorem one74 : oneT Try.prog 74 = true := by kernel_rfl
theorem ze74 : zeroT Try.prog 74 = some .nilFunc := by kernel_rfl
theorem fu75 : isFuncT Try.prog 75 = true := by kernel_rfl
theorem one75 : oneT Try.prog 75 = true := by kernel_rfl
theorem ze75 : zeroT Try.prog 75 = some .nilFunc := by kernel_rfl
theorem fu76 : isFuncT Try.prog 76 = true := by kernel_rfl
theorem one76 : oneT Try.prog 76 = true := by kernel_rfl
theorem ze76 : zeroT Try.prog 76 = some .nilFunc := by kernel_rfl
theorem fu77 : isFuncT Try.prog 77 = true := by kernel_rfl
theorem one77 : oneT Try.prog 77 = true := by kernel_rfl
theorem ze77 : zeroT Try.prog 77 = some .nilFunc := by kernel_rfl
theorem fu78 : isFuncT Try.prog 78 = true := by kernel_rfl
theorem one78 : oneT Try.prog 78 = true := by kernel_rfl
theorem ze78 : zeroT Try.prog 78 = some .nilFunc := by kernel_rfl
theorem fu79 : isFuncT Try.prog 79 = true := by kernel_rfl
theorem one79 : oneT Try.prog 79 = true := by kernel_rfl
theorem ze79 : zeroT Try.prog 79 = some .nilFunc := by kernel_rfl
theorem fu80 : isFuncT Try.prog 80 = true := by kernel_rfl
theorem one80 : oneT Try.prog 80 = true := by kernel_rfl
theorem ze80 : zeroT Try.prog 80 = some .nilFunc := by kernel_rfl
theorem ag81 : aggT Try.prog 81 3 = true := by kernel_rfl
theorem ze81 : zeroT Try.prog 81 = some (.agg #[(.bool false), (.slice none 0 0), (.int .i64 0)]) := by kernel_rfl
theorem of81_0 : offT Try.prog 81 0 = some 0 := by kernel_rfl
theorem of81_1 : offT Try.prog 81 1 = some 1 := by kernel_rfl
theorem of81_2 : offT Try.prog 81 2 = some 2 := by kernel_rfl
theorem ag82 : aggT Try.prog 82 3 = true := by kernel_rfl
theorem ze82 : zeroT Try.prog 82 = some (.agg #[(.bool false), (.slice none 0 0), (.int .i64 0)]) := by kernel_rfl
theorem of82_0 : offT Try.prog 82 0 = some 0 := by kernel_rfl
theorem of82_1 : offT Try.prog 82 1 = some 1 := by kernel_rfl
theorem of82_2 : offT Try.prog 82 2 = some 2 := by kernel_rfl
theorem fu83 : isFuncT Try.prog 83 = true := by kernel_rfl
theorem one83 : oneT Try.prog 83 = true := by kernel_rfl
theorem ze83 : zeroT Try.prog 83 = some .nilFunc := by kernel_rfl
theorem fu84 : isFuncT Try.prog 84 = true := by kernel_rfl
theorem one84 : oneT Try.prog 84 = true := by kernel_rfl
theorem ze84 : zeroT Try.prog 84 = some .nilFunc := by kernel_rfl
theorem fu85 : isFuncT Try.prog 85 = true := by kernel_rfl
theorem one85 : oneT Try.prog 85 = true := by kernel_rfl
theorem ze85 : zeroT Try.prog 85 = some .nilFunc := by kernel_rfl
theorem fu86 : isFuncT Try.prog 86 = true := by kernel_rfl
theorem one86 : oneT Try.prog 86 = true := by kernel_rfl
theorem ze86 : zeroT Try.prog 86 = some .nilFunc := by kernel_rfl
theorem fu87 : isFuncT Try.prog 87 = true := by kernel_rfl
theorem one87 : oneT Try.prog 87 = true := by kernel_rfl
theorem ze87 : zeroT Try.prog 87 = some .nilFunc := by kernel_rfl
theorem fu88 : isFuncT Try.prog 88 = true := by kernel_rfl
theorem one88 : oneT Try.prog 88 = true := by kernel_rfl
theorem ze88 : zeroT Try.prog 88 = some .nilFunc := by kernel_rfl
theorem fu89 : isFuncT Try.prog 89 = true := by kernel_rfl
theorem one89 : oneT Try.prog 89 = true := by kernel_rfl
theorem ze89 : zeroT Try.prog 89 = some .nilFunc := by kernel_rfl
theorem fu90 : isFuncT Try.prog 90 = true := by kernel_rfl
theorem one90 : oneT Try.prog 90 = true := by kernel_rfl
theorem ze90 : zeroT Try.prog 90 = some .nilFunc := by kernel_rfl
theorem fu91 : isFuncT Try.prog 91 = true := by kernel_rfl
theorem one91 : oneT Try.prog 91 = true := by kernel_rfl
theorem ze91 : zeroT Try.prog 91 = some .nilFunc := by kernel_rfl
theorem fu92 : isFuncT Try.prog 92 = true := by kernel_rfl
theorem one92 : oneT Try.prog 92 = true := by kernel_rfl
theorem ze92 : zeroT Try.prog 92 = some .nilFunc := by kernel_rfl
theorem fu93 : isFuncT Try.prog 93 = true := by kernel_rfl
theorem one93 : oneT Try.prog 93 = true := by kernel_rfl
theorem ze93 : zeroT Try.prog 93 = some .nilFunc := by kernel_rfl
theorem fu94 : isFuncT Try.prog 94 = true := by kernel_rfl
theorem one94 : oneT Try.prog 94 = true := by kernel_rfl
theorem ze94 : zeroT Try.prog 94 = some .nilFunc := by kernel_rfl
theorem fu95 : isFuncT Try.prog 95 = true := by kernel_rfl
theorem one95 : oneT Try.prog 95 = true := by kernel_rfl
theorem ze95 : zeroT Try.prog 95 = some .nilFunc := by kernel_rfl
theorem fu96 : isFuncT Try.prog 96 = true := by kernel_rfl
theorem one96 : oneT Try.prog 96 = true := by kernel_rfl
theorem ze96 : zeroT Try.prog 96 = some .nilFunc := by kernel_rfl
theorem fu97 : isFuncT Try.prog 97 = true := by kernel_rfl
theorem one97 : oneT Try.prog 97 = true := by kernel_rfl
theorem ze97 : zeroT Try.prog 97 = some .nilFunc := by kernel_rfl
theorem ag98 : aggT Try.prog 98 4 = true := by kernel_rfl
theorem ze98 : zeroT Try.prog 98 = some (.agg #[(.pointer none), (.pointer none), (.pointer none), (.string ByteArray.empty)]) := by kernel_rfl
theorem of98_0 : offT Try.prog 98 0 = some 0 := by kernel_rfl
theorem of98_1 : offT Try.prog 98 1 = some 1 := by kernel_rfl
theorem of98_2 : offT Try.prog 98 2 = some 2 := by kernel_rfl
theorem of98_3 : offT Try.prog 98 3 = some 3 := by kernel_rfl
theorem ag99 : aggT Try.prog 99 4 = true := by kernel_rfl
theorem ze99 : zeroT Try.prog 99 = some (.agg #[(.pointer none), (.pointer none), (.pointer none), (.string ByteArray.empty)]) := by kernel_rfl
theorem of99_0 : offT Try.prog 99 0 = some 0 := by kernel_rfl
theorem of99_1 : offT Try.prog 99 1 = some 1 := by kernel_rfl
theorem of99_2 : offT Try.prog 99 2 = some 2 := by kernel_rfl
theorem of99_3 : offT Try.prog 99 3 = some 3 := by kernel_rfl
theorem it103 : intT Try.prog 103 = some .u8 := by kernel_rfl
theorem one103 : oneT Try.prog 103 = true := by kernel_rfl
theorem ze103 : zeroT Try.prog 103 = some (.int .u8 0) := by kernel_rfl
theorem it104 : intT Try.prog 104 = some .u8 := by kernel_rfl
theorem one104 : oneT Try.prog 104 = true := by kernel_rfl
theorem ze104 : zeroT Try.prog 104 = some (.int .u8 0) := by kernel_rfl
theorem fu105 : isFuncT Try.prog 105 = true := by kernel_rfl
theorem one105 : oneT Try.prog 105 = true := by kernel_rfl
theorem ze105 : zeroT Try.prog 105 = some .nilFunc := by kernel_rfl
theorem pt106 : isPtrT Try.prog 106 = true := by kernel_rfl
theorem one106 : oneT Try.prog 106 = true := by kernel_rfl
theorem ze106 : zeroT Try.prog 106 = some (.pointer none) := by kernel_rfl
theorem it107 : intT Try.prog 107 = some .i32 := by kernel_rfl
theorem one107 : oneT Try.prog 107 = true := by kernel_rfl
theorem ze107 : zeroT Try.prog 107 = some (.int .i32 0) := by kernel_rfl
theorem it108 : intT Try.prog 108 = some .i32 := by kernel_rfl
theorem one108 : oneT Try.prog 108 = true := by kernel_rfl
theorem ze108 : zeroT Try.prog 108 = some (.int .i32 0) := by kernel_rfl
theorem ag109 : aggT Try.prog 109 11 = true := by kernel_rfl
theorem ze109 : zeroT Try.prog 109 = some (.agg #[(.int .u64 0), (.int .u64 0), (.int .u32 0), (.int .u8 0), (.int .u8 0), (.int .u8 0), (.int .u8 0), .nilFunc, (.pointer none), (.int .i32 0), (.int .i32 0)]) := by kernel_rfl
theorem of109_0 : offT Try.prog 109 0 = some 0 := by kernel_rfl
theorem of109_1 : offT Try.prog 109 1 = some 1 := by kernel_rfl
theorem of109_2 : offT Try.prog 109 2 = some 2 := by kernel_rfl
theorem of109_3 : offT Try.prog 109 3 = some 3 := by kernel_rfl
theorem of109_4 : offT Try.prog 109 4 = some 4 := by kernel_rfl
theorem of109_5 : offT Try.prog 109 5 = some 5 := by kernel_rfl
theorem of109_6 : offT Try.prog 109 6 = some 6 := by kernel_rfl
theorem of109_7 : offT Try.prog 109 7 = some 7 := by kernel_rfl
theorem of109_8 : offT Try.prog 109 8 = some 8 := by kernel_rfl
theorem of109_9 : offT Try.prog 109 9 = some 9 := by kernel_rfl
theorem of109_10 : offT Try.prog 109 10 = some 10 := by kernel_rfl
theorem ag110 : aggT Try.prog 110 11 = true := by kernel_rfl
theorem ze110 : zeroT Try.prog 110 = some (.agg #[(.int .u64 0), (.int .u64 0), (.int .u32 0), (.int .u8 0), (.int .u8 0), (.int .u8 0), (.int .u8 0), .nilFunc, (.pointer none), (.int .i32 0), (.int .i32 0)]) := by kernel_rfl
theorem of110_0 : offT Try.prog 110 0 = some 0 := by kernel_rfl
theorem of110_1 : offT Try.prog 110 1 = some 1 := by kernel_rfl
theorem of110_2 : offT Try.prog 110 2 = some 2 := by kernel_rfl
theorem of110_3 : offT Try.prog 110 3 = some 3 := by kernel_rfl
theorem of110_4 : offT Try.prog 110 4 = some 4 := by kernel_rfl
theorem of110_5 : offT Try.prog 110 5 = some 5 := by kernel_rfl
theorem of110_6 : offT Try.prog 110 6 = some 6 := by kernel_rfl
theorem of110_7 : offT Try.prog 110 7 = some 7 := by kernel_rfl
theorem of110_8 : offT Try.prog 110 8 = some 8 := by kernel_rfl
theorem of110_9 : offT Try.prog 110 9 = some 9 := by kernel_rfl
theorem of110_10 : offT Try.prog 110 10 = some 10 := by kernel_rfl
theorem one111 : oneT Try.prog 111 = true := by kernel_rfl
theorem ln_22_3 (a : Option Addr) (n c : Nat) (Z : List PanicEntry → World → Prop) (w : World) (kk : Value → World → Prop) : run1 Try.prog Z (Builtin.len_ #[22] 3 #[.slice a n c]) w kk = kk (.int .i64 n) w := r1_eq fun w => run_lenS sl22 _ rfl _ a n c w
theorem ln_22_3p (a : Option Addr) (n c : Nat) (kv : Value → Prop) : Pure1 Try.prog (Builtin.len_ #[22] 3 #[.slice a n c]) kv = kv (.int .i64 n) := rp_eq fun w => run_lenS sl22 _ rfl _ a n c w
theorem ln_30_3 (a : Option Addr) (n c : Nat) (Z : List PanicEntry → World → Prop) (w : World) (kk : Value → World → Prop) : run1 Try.prog Z (Builtin.len_ #[30] 3 #[.slice a n c]) w kk = kk (.int .i64 n) w := r1_eq fun w => run_lenS sl30 _ rfl _ a n c w
theorem ln_30_3p (a : Option Addr) (n c : Nat) (kv : Value → Prop) : Pure1 Try.prog (Builtin.len_ #[30] 3 #[.slice a n c]) kv = kv (.int .i64 n) := rp_eq fun w => run_lenS sl30 _ rfl _ a n c w
theorem cv_3_21 (q : IntKind) (n : Int) (Z : List PanicEntry → World → Prop) (w : World) (kk : Value → World → Prop) : run1 Try.prog Z (convert 3 21 (.int q n)) w kk = kk (.int .i32 (IntKind.i32.wrap n)) w := r1_eq fun w => run_conv_int (by kernel_rfl) it21 q n w
theorem cv_3_21p (q : IntKind) (n : Int) (kv : Value → Prop) : Pure1 Try.prog (convert 3 21 (.int q n)) kv = kv (.int .i32 (IntKind.i32.wrap n)) := rp_eq fun w => run_conv_int (by kernel_rfl) it21 q n w
theorem ln_42_3 (a : Option Addr) (n c : Nat) (Z : List PanicEntry → World → Prop) (w : World) (kk : Value → World → Prop) : run1 Try.prog Z (Builtin.len_ #[42] 3 #[.slice a n c]) w kk = kk (.int .i64 n) w := r1_eq fun w => run_lenS sl42 _ rfl _ a n c w
theorem ln_42_3p (a : Option Addr) (n c : Nat) (kv : Value → Prop) : Pure1 Try.prog (Builtin.len_ #[42] 3 #[.slice a n c]) kv = kv (.int .i64 n) := rp_eq fun w => run_lenS sl42 _ rfl _ a n c w
theorem fa_46_0 (b i : Nat) (Z : List PanicEntry → World → Prop) (w : World) (kk : Value → World → Prop) : run1 Try.prog Z (Instr.fieldAt 46 (.pointer (some ⟨b, i, none⟩)) 0) w kk = kk (.pointer (some ⟨b, i + 0, none⟩)) w := r1_eq fun w => run_fieldAt of46_0 b i w
theorem fa_46_0p (b i : Nat) (kv : Value → Prop) : Pure1 Try.prog (Instr.fieldAt 46 (.pointer (some ⟨b, i, none⟩)) 0) kv = kv (.pointer (some ⟨b, i + 0, none⟩)) := rp_eq fun w => run_fieldAt of46_0 b i w
theorem fa_46_5 (b i : Nat) (Z : List PanicEntry → World → Prop) (w : World) (kk : Value → World → Prop) : run1 Try.prog Z (Instr.fieldAt 46 (.pointer (some ⟨b, i, none⟩)) 5) w kk = kk (.pointer (some ⟨b, i + 5, none⟩)) w := r1_eq fun w => run_fieldAt of46_5 b i w
theorem fa_46_5p (b i : Nat) (kv : Value → Prop) : Pure1 Try.prog (Instr.fieldAt 46 (.pointer (some ⟨b, i, none⟩)) 5) kv = kv (.pointer (some ⟨b, i + 5, none⟩)) := rp_eq fun w => run_fieldAt of46_5 b i w
theorem eqlp_49 (cx cy : Bool) (a : Addr) (Z : List PanicEntry → World → Prop) (w : World) (kk : Value → World → Prop) : run1 Try.prog Z (eqOp .eql 49 cx cy (.pointer (some a)) (.pointer none)) w kk = kk (.bool false) w := r1_eq fun w => run_eql_ptr_nil pt49 cx cy a w
theorem eqlp_49p (cx cy : Bool) (a : Addr) (kv : Value → Prop) : Pure1 Try.prog (eqOp .eql 49 cx cy (.pointer (some a)) (.pointer none)) kv = kv (.bool false) := rp_eq fun w => run_eql_ptr_nil pt49 cx cy a w
theorem eqln_49 (cx cy : Bool) (Z : List PanicEntry → World → Prop) (w : World) (kk : Value → World → Prop) : run1 Try.prog Z (eqOp .eql 49 cx cy (.pointer none) (.pointer none)) w kk = kk (.bool true) w := r1_eq fun w => run_eqlNN pt49 cx cy w
theorem eqln_49p (cx cy : Bool) (kv : Value → Prop) : Pure1 Try.prog (eqOp .eql 49 cx cy (.pointer none) (.pointer none)) kv = kv (.bool true) := rp_eq fun w => run_eqlNN pt49 cx cy w
theorem fa_46_2 (b i : Nat) (Z : List PanicEntry → World → Prop) (w : World) (kk : Value → World → Prop) : run1 Try.prog Z (Instr.fieldAt 46 (.pointer (some ⟨b, i, none⟩)) 2) w kk = kk (.pointer (some ⟨b, i + 2, none⟩)) w := r1_eq fun w => run_fieldAt of46_2 b i w
theorem fa_46_2p (b i : Nat) (kv : Value → Prop) : Pure1 Try.prog (Instr.fieldAt 46 (.pointer (some ⟨b, i, none⟩)) 2) kv = kv (.pointer (some ⟨b, i + 2, none⟩)) := rp_eq fun w => run_fieldAt of46_2 b i w
theorem fa_46_4 (b i : Nat) (Z : List PanicEntry → World → Prop) (w : World) (kk : Value → World → Prop) : run1 Try.prog Z (Instr.fieldAt 46 (.pointer (some ⟨b, i, none⟩)) 4) w kk = kk (.pointer (some ⟨b, i + 4, none⟩)) w := r1_eq fun w => run_fieldAt of46_4 b i w
theorem fa_46_4p (b i : Nat) (kv : Value → Prop) : Pure1 Try.prog (Instr.fieldAt 46 (.pointer (some ⟨b, i, none⟩)) 4) kv = kv (.pointer (some ⟨b, i + 4, none⟩)) := rp_eq fun w => run_fieldAt of46_4 b i w
theorem ln_9_3 (s : ByteArray) (Z : List PanicEntry → World → Prop) (w : World) (kk : Value → World → Prop) : run1 Try.prog Z (Builtin.len_ #[9] 3 #[.string s]) w kk = kk (.int .i64 s.size) w := r1_eq fun w => run_lenStr st9 _ rfl _ s w
theorem ln_9_3p (s : ByteArray) (kv : Value → Prop) : Pure1 Try.prog (Builtin.len_ #[9] 3 #[.string s]) kv = kv (.int .i64 s.size) := rp_eq fun w => run_lenStr st9 _ rfl _ s w
theorem ln_59_3 (a : Option Addr) (n c : Nat) (Z : List PanicEntry → World → Prop) (w : World) (kk : Value → World → Prop) : run1 Try.prog Z (Builtin.len_ #[59] 3 #[.slice a n c]) w kk = kk (.int .i64 n) w := r1_eq fun w => run_lenS sl59 _ rfl _ a n c w
theorem ln_59_3p (a : Option Addr) (n c : Nat) (kv : Value → Prop) : Pure1 Try.prog (Builtin.len_ #[59] 3 #[.slice a n c]) kv = kv (.int .i64 n) := rp_eq fun w => run_lenS sl59 _ rfl _ a n c w
theorem fa_54_1 (b i : Nat) (Z : List PanicEntry → World → Prop) (w : World) (kk : Value → World → Prop) : run1 Try.prog Z (Instr.fieldAt 54 (.pointer (some ⟨b, i, none⟩)) 1) w kk = kk (.pointer (some ⟨b, i + 1, none⟩)) w := r1_eq fun w => run_fieldAt of54_1 b i w
theorem fa_54_1p (b i : Nat) (kv : Value → Prop) : Pure1 Try.prog (Instr.fieldAt 54 (.pointer (some ⟨b, i, none⟩)) 1) kv = kv (.pointer (some ⟨b, i + 1, none⟩)) := rp_eq fun w => run_fieldAt of54_1 b i w
theorem fa_54_0 (b i : Nat) (Z : List PanicEntry → World → Prop) (w : World) (kk : Value → World → Prop) : run1 Try.prog Z (Instr.fieldAt 54 (.pointer (some ⟨b, i, none⟩)) 0) w kk = kk (.pointer (some ⟨b, i + 0, none⟩)) w := r1_eq fun w => run_fieldAt of54_0 b i w
theorem fa_54_0p (b i : Nat) (kv : Value → Prop) : Pure1 Try.prog (Instr.fieldAt 54 (.pointer (some ⟨b, i, none⟩)) 0) kv = kv (.pointer (some ⟨b, i + 0, none⟩)) := rp_eq fun w => run_fieldAt of54_0 b i w
theorem fa_54_2 (b i : Nat) (Z : List PanicEntry → World → Prop) (w : World) (kk : Value → World → Prop) : run1 Try.prog Z (Instr.fieldAt 54 (.pointer (some ⟨b, i, none⟩)) 2) w kk = kk (.pointer (some ⟨b, i + 2, none⟩)) w := r1_eq fun w => run_fieldAt of54_2 b i w
theorem fa_54_2p (b i : Nat) (kv : Value → Prop) : Pure1 Try.prog (Instr.fieldAt 54 (.pointer (some ⟨b, i, none⟩)) 2) kv = kv (.pointer (some ⟨b, i + 2, none⟩)) := rp_eq fun w => run_fieldAt of54_2 b i w
theorem fa_54_3 (b i : Nat) (Z : List PanicEntry → World → Prop) (w : World) (kk : Value → World → Prop) : run1 Try.prog Z (Instr.fieldAt 54 (.pointer (some ⟨b, i, none⟩)) 3) w kk = kk (.pointer (some ⟨b, i + 3, none⟩)) w := r1_eq fun w => run_fieldAt of54_3 b i w
theorem fa_54_3p (b i : Nat) (kv : Value → Prop) : Pure1 Try.prog (Instr.fieldAt 54 (.pointer (some ⟨b, i, none⟩)) 3) kv = kv (.pointer (some ⟨b, i + 3, none⟩)) := rp_eq fun w => run_fieldAt of54_3 b i w
theorem fa_54_4 (b i : Nat) (Z : List PanicEntry → World → Prop) (w : World) (kk : Value → World → Prop) : run1 Try.prog Z (Instr.fieldAt 54 (.pointer (some ⟨b, i, none⟩)) 4) w kk = kk (.pointer (some ⟨b, i + 4, none⟩)) w := r1_eq fun w => run_fieldAt of54_4 b i w
theorem fa_54_4p (b i : Nat) (kv : Value → Prop) : Pure1 Try.prog (Instr.fieldAt 54 (.pointer (some ⟨b, i, none⟩)) 4) kv = kv (.pointer (some ⟨b, i + 4, none⟩)) := rp_eq fun w => run_fieldAt of54_4 b i w
theorem fa_46_3 (b i : Nat) (Z : List PanicEntry → World → Prop) (w : World) (kk : Value → World → Prop) : run1 Try.prog Z (Instr.fieldAt 46 (.pointer (some ⟨b, i, none⟩)) 3) w kk = kk (.pointer (some ⟨b, i + 3, none⟩)) w := r1_eq fun w => run_fieldAt of46_3 b i w
theorem fa_46_3p (b i : Nat) (kv : Value → Prop) : Pure1 Try.prog (Instr.fieldAt 46 (.pointer (some ⟨b, i, none⟩)) 3) kv = kv (.pointer (some ⟨b, i + 3, none⟩)) := rp_eq fun w => run_fieldAt of46_3 b i w
theorem cv_3_5 (q : IntKind) (n : Int) (Z : List PanicEntry → World → Prop) (w : World) (kk : Value → World → Prop) : run1 Try.prog Z (convert 3 5 (.int q n)) w kk = kk (.int .u8 (IntKind.u8.wrap n)) w := r1_eq fun w => run_conv_int (by kernel_rfl) it5 q n w
theorem cv_3_5p (q : IntKind) (n : Int) (kv : Value → Prop) : Pure1 Try.prog (convert 3 5 (.int q n)) kv = kv (.int .u8 (IntKind.u8.wrap n)) := rp_eq fun w => run_conv_int (by kernel_rfl) it5 q n w
theorem cv_5_25 (q : IntKind) (n : Int) (Z : List PanicEntry → World → Prop) (w : World) (kk : Value → World → Prop) : run1 Try.prog Z (convert 5 25 (.int q n)) w kk = kk (.int .u32 (IntKind.u32.wrap n)) w := r1_eq fun w => run_conv_int (by kernel_rfl) it25 q n w
theorem cv_5_25p (q : IntKind) (n : Int) (kv : Value → Prop) : Pure1 Try.prog (convert 5 25 (.int q n)) kv = kv (.int .u32 (IntKind.u32.wrap n)) := rp_eq fun w => run_conv_int (by kernel_rfl) it25 q n w
theorem cv_5_3 (q : IntKind) (n : Int) (Z : List PanicEntry → World → Prop) (w : World) (kk : Value → World → Prop) : run1 Try.prog Z (convert 5 3 (.int q n)) w kk = kk (.int .i64 (IntKind.i64.wrap n)) w := r1_eq fun w => run_conv_int (by kernel_rfl) it3 q n w
theorem cv_5_3p (q : IntKind) (n : Int) (kv : Value → Prop) : Pure1 Try.prog (convert 5 3 (.int q n)) kv = kv (.int .i64 (IntKind.i64.wrap n)) := rp_eq fun w => run_conv_int (by kernel_rfl) it3 q n w
theorem cv_3_25 (q : IntKind) (n : Int) (Z : List PanicEntry → World → Prop) (w : World) (kk : Value → World → Prop) : run1 Try.prog Z (convert 3 25 (.int q n)) w kk = kk (.int .u32 (IntKind.u32.wrap n)) w := r1_eq fun w => run_conv_int (by kernel_rfl) it25 q n w
theorem cv_3_25p (q : IntKind) (n : Int) (kv : Value → Prop) : Pure1 Try.prog (convert 3 25 (.int q n)) kv = kv (.int .u32 (IntKind.u32.wrap n)) := rp_eq fun w => run_conv_int (by kernel_rfl) it25 q n w
theorem neqp_31 (cx cy : Bool) (a : Addr) (Z : List PanicEntry → World → Prop) (w : World) (kk : Value → World → Prop) : run1 Try.prog Z (eqOp .neq 31 cx cy (.pointer (some a)) (.pointer none)) w kk = kk (.bool true) w := r1_eq fun w => run_neq_ptr_nil pt31 cx cy a w
theorem neqp_31p (cx cy : Bool) (a : Addr) (kv : Value → Prop) : Pure1 Try.prog (eqOp .neq 31 cx cy (.pointer (some a)) (.pointer none)) kv = kv (.bool true) := rp_eq fun w => run_neq_ptr_nil pt31 cx cy a w
theorem neqn_31 (cx cy : Bool) (Z : List PanicEntry → World → Prop) (w : World) (kk : Value → World → Prop) : run1 Try.prog Z (eqOp .neq 31 cx cy (.pointer none) (.pointer none)) w kk = kk (.bool false) w := r1_eq fun w => run_neqNN pt31 cx cy w
theorem neqn_31p (cx cy : Bool) (kv : Value → Prop) : Pure1 Try.prog (eqOp .neq 31 cx cy (.pointer none) (.pointer none)) kv = kv (.bool false) := rp_eq fun w => run_neqNN pt31 cx cy w
theorem fa_33_0 (b i : Nat) (Z : List PanicEntry → World → Prop) (w : World) (kk : Value → World → Prop) : run1 Try.prog Z (Instr.fieldAt 33 (.pointer (some ⟨b, i, none⟩)) 0) w kk = kk (.pointer (some ⟨b, i + 0, none⟩)) w := r1_eq fun w => run_fieldAt of33_0 b i w
theorem fa_33_0p (b i : Nat) (kv : Value → Prop) : Pure1 Try.prog (Instr.fieldAt 33 (.pointer (some ⟨b, i, none⟩)) 0) kv = kv (.pointer (some ⟨b, i + 0, none⟩)) := rp_eq fun w => run_fieldAt of33_0 b i w
theorem eqlp_31 (cx cy : Bool) (a : Addr) (Z : List PanicEntry → World → Prop) (w : World) (kk : Value → World → Prop) : run1 Try.prog Z (eqOp .eql 31 cx cy (.pointer (some a)) (.pointer none)) w kk = kk (.bool false) w := r1_eq fun w => run_eql_ptr_nil pt31 cx cy a w
theorem eqlp_31p (cx cy : Bool) (a : Addr) (kv : Value → Prop) : Pure1 Try.prog (eqOp .eql 31 cx cy (.pointer (some a)) (.pointer none)) kv = kv (.bool false) := rp_eq fun w => run_eql_ptr_nil pt31 cx cy a w
theorem eqln_31 (cx cy : Bool) (Z : List PanicEntry → World → Prop) (w : World) (kk : Value → World → Prop) : run1 Try.prog Z (eqOp .eql 31 cx cy (.pointer none) (.pointer none)) w kk = kk (.bool true) w := r1_eq fun w => run_eqlNN pt31 cx cy w
theorem eqln_31p (cx cy : Bool) (kv : Value → Prop) : Pure1 Try.prog (eqOp .eql 31 cx cy (.pointer none) (.pointer none)) kv = kv (.bool true) := rp_eq fun w => run_eqlNN pt31 cx cy w
theorem eqlf_36 (cx cy : Bool) (f : Fn) (a b : Array Value) (Z : List PanicEntry → World → Prop) (w : World) (kk : Value → World → Prop) : run1 Try.prog Z (eqOp .eql 36 cx cy (.func f a b) .nilFunc) w kk = kk (.bool false) w := r1_eq fun w => run_eql_func fu36 cx cy f a b w
theorem eqlf_36p (cx cy : Bool) (f : Fn) (a b : Array Value) (kv : Value → Prop) : Pure1 Try.prog (eqOp .eql 36 cx cy (.func f a b) .nilFunc) kv = kv (.bool false) := rp_eq fun w => run_eql_func fu36 cx cy f a b w
theorem eqlf0_36 (cx cy : Bool) (Z : List PanicEntry → World → Prop) (w : World) (kk : Value → World → Prop) : run1 Try.prog Z (eqOp .eql 36 cx cy .nilFunc .nilFunc) w kk = kk (.bool true) w := r1_eq fun w => run_eql_func0 fu36 cx cy w
theorem eqlf0_36p (cx cy : Bool) (kv : Value → Prop) : Pure1 Try.prog (eqOp .eql 36 cx cy .nilFunc .nilFunc) kv = kv (.bool true) := rp_eq fun w => run_eql_func0 fu36 cx cy w
theorem cv_21_2 (q : IntKind) (n : Int) (Z : List PanicEntry → World → Prop) (w : World) (kk : Value → World → Prop) : run1 Try.prog Z (convert 21 2 (.int q n)) w kk = kk (.int .i64 (IntKind.i64.wrap n)) w := r1_eq fun w => run_conv_int (by kernel_rfl) it2 q n w
theorem cv_21_2p (q : IntKind) (n : Int) (kv : Value → Prop) : Pure1 Try.prog (convert 21 2 (.int q n)) kv = kv (.int .i64 (IntKind.i64.wrap n)) := rp_eq fun w => run_conv_int (by kernel_rfl) it2 q n w
theorem cv_2_69 (q : IntKind) (n : Int) (Z : List PanicEntry → World → Prop) (w : World) (kk : Value → World → Prop) : run1 Try.prog Z (convert 2 69 (.int q n)) w kk = kk (.int .u64 (IntKind.u64.wrap n)) w := r1_eq fun w => run_conv_int (by kernel_rfl) it69 q n w
theorem cv_2_69p (q : IntKind) (n : Int) (kv : Value → Prop) : Pure1 Try.prog (convert 2 69 (.int q n)) kv = kv (.int .u64 (IntKind.u64.wrap n)) := rp_eq fun w => run_conv_int (by kernel_rfl) it69 q n w
theorem cv_2_73 (q : IntKind) (n : Int) (Z : List PanicEntry → World → Prop) (w : World) (kk : Value → World → Prop) : run1 Try.prog Z (convert 2 73 (.int q n)) w kk = kk (.int .i8 (IntKind.i8.wrap n)) w := r1_eq fun w => run_conv_int (by kernel_rfl) it73 q n w
theorem cv_2_73p (q : IntKind) (n : Int) (kv : Value → Prop) : Pure1 Try.prog (convert 2 73 (.int q n)) kv = kv (.int .i8 (IntKind.i8.wrap n)) := rp_eq fun w => run_conv_int (by kernel_rfl) it73 q n w
theorem cv_2_21 (q : IntKind) (n : Int) (Z : List PanicEntry → World → Prop) (w : World) (kk : Value → World → Prop) : run1 Try.prog Z (convert 2 21 (.int q n)) w kk = kk (.int .i32 (IntKind.i32.wrap n)) w := r1_eq fun w => run_conv_int (by kernel_rfl) it21 q n w
theorem cv_2_21p (q : IntKind) (n : Int) (kv : Value → Prop) : Pure1 Try.prog (convert 2 21 (.int q n)) kv = kv (.int .i32 (IntKind.i32.wrap n)) := rp_eq fun w => run_conv_int (by kernel_rfl) it21 q n w
theorem cv_2_25 (q : IntKind) (n : Int) (Z : List PanicEntry → World → Prop) (w : World) (kk : Value → World → Prop) : run1 Try.prog Z (convert 2 25 (.int q n)) w kk = kk (.int .u32 (IntKind.u32.wrap n)) w := r1_eq fun w => run_conv_int (by kernel_rfl) it25 q n w
theorem cv_2_25p (q : IntKind) (n : Int) (kv : Value → Prop) : Pure1 Try.prog (convert 2 25 (.int q n)) kv = kv (.int .u32 (IntKind.u32.wrap n)) := rp_eq fun w => run_conv_int (by kernel_rfl) it25 q n w
theorem cv_73_2 (q : IntKind) (n : Int) (Z : List PanicEntry → World → Prop) (w : World) (kk : Value → World → Prop) : run1 Try.prog Z (convert 73 2 (.int q n)) w kk = kk (.int .i64 (IntKind.i64.wrap n)) w := r1_eq fun w => run_conv_int (by kernel_rfl) it2 q n w
theorem cv_73_2p (q : IntKind) (n : Int) (kv : Value → Prop) : Pure1 Try.prog (convert 73 2 (.int q n)) kv = kv (.int .i64 (IntKind.i64.wrap n)) := rp_eq fun w => run_conv_int (by kernel_rfl) it2 q n w
theorem cv_25_2 (q : IntKind) (n : Int) (Z : List PanicEntry → World → Prop) (w : World) (kk : Value → World → Prop) : run1 Try.prog Z (convert 25 2 (.int q n)) w kk = kk (.int .i64 (IntKind.i64.wrap n)) w := r1_eq fun w => run_conv_int (by kernel_rfl) it2 q n w
theorem cv_25_2p (q : IntKind) (n : Int) (kv : Value → Prop) : Pure1 Try.prog (convert 25 2 (.int q n)) kv = kv (.int .i64 (IntKind.i64.wrap n)) := rp_eq fun w => run_conv_int (by kernel_rfl) it2 q n w
theorem eqlb_4 (cx cy a b : Bool) (Z : List PanicEntry → World → Prop) (w : World) (kk : Value → World → Prop) : run1 Try.prog Z (eqOp .eql 4 cx cy (.bool a) (.bool b)) w kk = kk (.bool (a == b)) w := r1_eq fun w => run_eql_boolV bo4 cx cy a b w
theorem eqlb_4p (cx cy a b : Bool) (kv : Value → Prop) : Pure1 Try.prog (eqOp .eql 4 cx cy (.bool a) (.bool b)) kv = kv (.bool (a == b)) := rp_eq fun w => run_eql_boolV bo4 cx cy a b w
theorem fa_82_1 (b i : Nat) (Z : List PanicEntry → World → Prop) (w : World) (kk : Value → World → Prop) : run1 Try.prog Z (Instr.fieldAt 82 (.pointer (some ⟨b, i, none⟩)) 1) w kk = kk (.pointer (some ⟨b, i + 1, none⟩)) w := r1_eq fun w => run_fieldAt of82_1 b i w
theorem fa_82_1p (b i : Nat) (kv : Value → Prop) : Pure1 Try.prog (Instr.fieldAt 82 (.pointer (some ⟨b, i, none⟩)) 1) kv = kv (.pointer (some ⟨b, i + 1, none⟩)) := rp_eq fun w => run_fieldAt of82_1 b i w
theorem fa_82_2 (b i : Nat) (Z : List PanicEntry → World → Prop) (w : World) (kk : Value → World → Prop) : run1 Try.prog Z (Instr.fieldAt 82 (.pointer (some ⟨b, i, none⟩)) 2) w kk = kk (.pointer (some ⟨b, i + 2, none⟩)) w := r1_eq fun w => run_fieldAt of82_2 b i w
theorem fa_82_2p (b i : Nat) (kv : Value → Prop) : Pure1 Try.prog (Instr.fieldAt 82 (.pointer (some ⟨b, i, none⟩)) 2) kv = kv (.pointer (some ⟨b, i + 2, none⟩)) := rp_eq fun w => run_fieldAt of82_2 b i w
theorem fa_54_5 (b i : Nat) (Z : List PanicEntry → World → Prop) (w : World) (kk : Value → World → Prop) : run1 Try.prog Z (Instr.fieldAt 54 (.pointer (some ⟨b, i, none⟩)) 5) w kk = kk (.pointer (some ⟨b, i + 5, none⟩)) w := r1_eq fun w => run_fieldAt of54_5 b i w
theorem fa_54_5p (b i : Nat) (kv : Value → Prop) : Pure1 Try.prog (Instr.fieldAt 54 (.pointer (some ⟨b, i, none⟩)) 5) kv = kv (.pointer (some ⟨b, i + 5, none⟩)) := rp_eq fun w => run_fieldAt of54_5 b i w
theorem cv_21_69 (q : IntKind) (n : Int) (Z : List PanicEntry → World → Prop) (w : World) (kk : Value → World → Prop) : run1 Try.prog Z (convert 21 69 (.int q n)) w kk = kk (.int .u64 (IntKind.u64.wrap n)) w := r1_eq fun w => run_conv_int (by kernel_rfl) it69 q n w
theorem cv_21_69p (q : IntKind) (n : Int) (kv : Value → Prop) : Pure1 Try.prog (convert 21 69 (.int q n)) kv = kv (.int .u64 (IntKind.u64.wrap n)) := rp_eq fun w => run_conv_int (by kernel_rfl) it69 q n w
theorem cv_69_21 (q : IntKind) (n : Int) (Z : List PanicEntry → World → Prop) (w : World) (kk : Value → World → Prop) : run1 Try.prog Z (convert 69 21 (.int q n)) w kk = kk (.int .i32 (IntKind.i32.wrap n)) w := r1_eq fun w => run_conv_int (by kernel_rfl) it21 q n w
theorem cv_69_21p (q : IntKind) (n : Int) (kv : Value → Prop) : Pure1 Try.prog (convert 69 21 (.int q n)) kv = kv (.int .i32 (IntKind.i32.wrap n)) := rp_eq fun w => run_conv_int (by kernel_rfl) it21 q n w
theorem cv_69_5 (q : IntKind) (n : Int) (Z : List PanicEntry → World → Prop) (w : World) (kk : Value → World → Prop) : run1 Try.prog Z (convert 69 5 (.int q n)) w kk = kk (.int .u8 (IntKind.u8.wrap n)) w := r1_eq fun w => run_conv_int (by kernel_rfl) it5 q n w
theorem cv_69_5p (q : IntKind) (n : Int) (kv : Value → Prop) : Pure1 Try.prog (convert 69 5 (.int q n)) kv = kv (.int .u8 (IntKind.u8.wrap n)) := rp_eq fun w => run_conv_int (by kernel_rfl) it5 q n w
theorem cv_73_69 (q : IntKind) (n : Int) (Z : List PanicEntry → World → Prop) (w : World) (kk : Value → World → Prop) : run1 Try.prog Z (convert 73 69 (.int q n)) w kk = kk (.int .u64 (IntKind.u64.wrap n)) w := r1_eq fun w => run_conv_int (by kernel_rfl) it69 q n w
theorem cv_73_69p (q : IntKind) (n : Int) (kv : Value → Prop) : Pure1 Try.prog (convert 73 69 (.int q n)) kv = kv (.int .u64 (IntKind.u64.wrap n)) := rp_eq fun w => run_conv_int (by kernel_rfl) it69 q n w
theorem cv_73_3 (q : IntKind) (n : Int) (Z : List PanicEntry → World → Prop) (w : World) (kk : Value → World → Prop) : run1 Try.prog Z (convert 73 3 (.int q n)) w kk = kk (.int .i64 (IntKind.i64.wrap n)) w := r1_eq fun w => run_conv_int (by kernel_rfl) it3 q n w
theorem cv_73_3p (q : IntKind) (n : Int) (kv : Value → Prop) : Pure1 Try.prog (convert 73 3 (.int q n)) kv = kv (.int .i64 (IntKind.i64.wrap n)) := rp_eq fun w => run_conv_int (by kernel_rfl) it3 q n w
theorem cv_25_69 (q : IntKind) (n : Int) (Z : List PanicEntry → World → Prop) (w : World) (kk : Value → World → Prop) : run1 Try.prog Z (convert 25 69 (.int q n)) w kk = kk (.int .u64 (IntKind.u64.wrap n)) w := r1_eq fun w => run_conv_int (by kernel_rfl) it69 q n w
theorem cv_25_69p (q : IntKind) (n : Int) (kv : Value → Prop) : Pure1 Try.prog (convert 25 69 (.int q n)) kv = kv (.int .u64 (IntKind.u64.wrap n)) := rp_eq fun w => run_conv_int (by kernel_rfl) it69 q n w
theorem cv_69_73 (q : IntKind) (n : Int) (Z : List PanicEntry → World → Prop) (w : World) (kk : Value → World → Prop) : run1 Try.prog Z (convert 69 73 (.int q n)) w kk = kk (.int .i8 (IntKind.i8.wrap n)) w := r1_eq fun w => run_conv_int (by kernel_rfl) it73 q n w
theorem cv_69_73p (q : IntKind) (n : Int) (kv : Value → Prop) : Pure1 Try.prog (convert 69 73 (.int q n)) kv = kv (.int .i8 (IntKind.i8.wrap n)) := rp_eq fun w => run_conv_int (by kernel_rfl) it73 q n w
theorem cv_69_25 (q : IntKind) (n : Int) (Z : List PanicEntry → World → Prop) (w : World) (kk : Value → World → Prop) : run1 Try.prog Z (convert 69 25 (.int q n)) w kk = kk (.int .u32 (IntKind.u32.wrap n)) w := r1_eq fun w => run_conv_int (by kernel_rfl) it25 q n w
theorem cv_69_25p (q : IntKind) (n : Int) (kv : Value → Prop) : Pure1 Try.prog (convert 69 25 (.int q n)) kv = kv (.int .u32 (IntKind.u32.wrap n)) := rp_eq fun w => run_conv_int (by kernel_rfl) it25 q n w
theorem cv_69_2 (q : IntKind) (n : Int) (Z : List PanicEntry → World → Prop) (w : World) (kk : Value → World → Prop) : run1 Try.prog Z (convert 69 2 (.int q n)) w kk = kk (.int .i64 (IntKind.i64.wrap n)) w := r1_eq fun w => run_conv_int (by kernel_rfl) it2 q n w
theorem cv_69_2p (q : IntKind) (n : Int) (kv : Value → Prop) : Pure1 Try.prog (convert 69 2 (.int q n)) kv = kv (.int .i64 (IntKind.i64.wrap n)) := rp_eq fun w => run_conv_int (by kernel_rfl) it2 q n w
theorem fa_82_0 (b i : Nat) (Z : List PanicEntry → World → Prop) (w : World) (kk : Value → World → Prop) : run1 Try.prog Z (Instr.fieldAt 82 (.pointer (some ⟨b, i, none⟩)) 0) w kk = kk (.pointer (some ⟨b, i + 0, none⟩)) w := r1_eq fun w => run_fieldAt of82_0 b i w
theorem fa_82_0p (b i : Nat) (kv : Value → Prop) : Pure1 Try.prog (Instr.fieldAt 82 (.pointer (some ⟨b, i, none⟩)) 0) kv = kv (.pointer (some ⟨b, i + 0, none⟩)) := rp_eq fun w => run_fieldAt of82_0 b i w
theorem cv_5_69 (q : IntKind) (n : Int) (Z : List PanicEntry → World → Prop) (w : World) (kk : Value → World → Prop) : run1 Try.prog Z (convert 5 69 (.int q n)) w kk = kk (.int .u64 (IntKind.u64.wrap n)) w := r1_eq fun w => run_conv_int (by kernel_rfl) it69 q n w
theorem cv_5_69p (q : IntKind) (n : Int) (kv : Value → Prop) : Pure1 Try.prog (convert 5 69 (.int q n)) kv = kv (.int .u64 (IntKind.u64.wrap n)) := rp_eq fun w => run_conv_int (by kernel_rfl) it69 q n w
theorem cv_3_69 (q : IntKind) (n : Int) (Z : List PanicEntry → World → Prop) (w : World) (kk : Value → World → Prop) : run1 Try.prog Z (convert 3 69 (.int q n)) w kk = kk (.int .u64 (IntKind.u64.wrap n)) w := r1_eq fun w => run_conv_int (by kernel_rfl) it69 q n w
theorem cv_3_69p (q : IntKind) (n : Int) (kv : Value → Prop) : Pure1 Try.prog (convert 3 69 (.int q n)) kv = kv (.int .u64 (IntKind.u64.wrap n)) := rp_eq fun w => run_conv_int (by kernel_rfl) it69 q n w
theorem cv_21_3 (q : IntKind) (n : Int) (Z : List PanicEntry → World → Prop) (w : World) (kk : Value → World → Prop) : run1 Try.prog Z (convert 21 3 (.int q n)) w kk = kk (.int .i64 (IntKind.i64.wrap n)) w := r1_eq fun w => run_conv_int (by kernel_rfl) it3 q n w
theorem cv_21_3p (q : IntKind) (n : Int) (kv : Value → Prop) : Pure1 Try.prog (convert 21 3 (.int q n)) kv = kv (.int .i64 (IntKind.i64.wrap n)) := rp_eq fun w => run_conv_int (by kernel_rfl) it3 q n w
theorem o_add (t : TypeId) (k : IntKind) (x y : Int) (Z : List PanicEntry → World → Prop) (w : World) (kk : Value → World → Prop) : run1 Try.prog Z (binOp .add t (.int k x) (.int k y)) w kk = kk (.int k (k.wrap (x + y))) w := r1_eq fun w => run_add _ w t k x y
theorem o_addp (t : TypeId) (k : IntKind) (x y : Int) (kv : Value → Prop) : Pure1 Try.prog (binOp .add t (.int k x) (.int k y)) kv = kv (.int k (k.wrap (x + y))) := rp_eq fun w => run_add _ w t k x y
theorem o_sub (t : TypeId) (k : IntKind) (x y : Int) (Z : List PanicEntry → World → Prop) (w : World) (kk : Value → World → Prop) : run1 Try.prog Z (binOp .sub t (.int k x) (.int k y)) w kk = kk (.int k (k.wrap (x - y))) w := r1_eq fun w => run_sub _ w t k x y
theorem o_subp (t : TypeId) (k : IntKind) (x y : Int) (kv : Value → Prop) : Pure1 Try.prog (binOp .sub t (.int k x) (.int k y)) kv = kv (.int k (k.wrap (x - y))) := rp_eq fun w => run_sub _ w t k x y
theorem o_mul (t : TypeId) (k : IntKind) (x y : Int) (Z : List PanicEntry → World → Prop) (w : World) (kk : Value → World → Prop) : run1 Try.prog Z (binOp .mul t (.int k x) (.int k y)) w kk = kk (.int k (k.wrap (x * y))) w := r1_eq fun w => run_mul _ w t k x y
theorem o_mulp (t : TypeId) (k : IntKind) (x y : Int) (kv : Value → Prop) : Pure1 Try.prog (binOp .mul t (.int k x) (.int k y)) kv = kv (.int k (k.wrap (x * y))) := rp_eq fun w => run_mul _ w t k x y
theorem o_lss (t : TypeId) (k : IntKind) (x y : Int) (Z : List PanicEntry → World → Prop) (w : World) (kk : Value → World → Prop) : run1 Try.prog Z (binOp .lss t (.int k x) (.int k y)) w kk = kk (.bool (decide (x < y))) w := r1_eq fun w => run_lss _ w t k x y
theorem o_lssp (t : TypeId) (k : IntKind) (x y : Int) (kv : Value → Prop) : Pure1 Try.prog (binOp .lss t (.int k x) (.int k y)) kv = kv (.bool (decide (x < y))) := rp_eq fun w => run_lss _ w t k x y
theorem o_leq (t : TypeId) (k : IntKind) (x y : Int) (Z : List PanicEntry → World → Prop) (w : World) (kk : Value → World → Prop) : run1 Try.prog Z (binOp .leq t (.int k x) (.int k y)) w kk = kk (.bool (decide (x ≤ y))) w := r1_eq fun w => run_leq _ w t k x y
theorem o_leqp (t : TypeId) (k : IntKind) (x y : Int) (kv : Value → Prop) : Pure1 Try.prog (binOp .leq t (.int k x) (.int k y)) kv = kv (.bool (decide (x ≤ y))) := rp_eq fun w => run_leq _ w t k x y
theorem o_gtr (t : TypeId) (k : IntKind) (x y : Int) (Z : List PanicEntry → World → Prop) (w : World) (kk : Value → World → Prop) : run1 Try.prog Z (binOp .gtr t (.int k x) (.int k y)) w kk = kk (.bool (decide (y < x))) w := r1_eq fun w => run_gtr _ w t k x y
theorem o_gtrp (t : TypeId) (k : IntKind) (x y : Int) (kv : Value → Prop) : Pure1 Try.prog (binOp .gtr t (.int k x) (.int k y)) kv = kv (.bool (decide (y < x))) := rp_eq fun w => run_gtr _ w t k x y
theorem o_geq (t : TypeId) (k : IntKind) (x y : Int) (Z : List PanicEntry → World → Prop) (w : World) (kk : Value → World → Prop) : run1 Try.prog Z (binOp .geq t (.int k x) (.int k y)) w kk = kk (.bool (decide (y ≤ x))) w := r1_eq fun w => run_geq _ w t k x y
theorem o_geqp (t : TypeId) (k : IntKind) (x y : Int) (kv : Value → Prop) : Pure1 Try.prog (binOp .geq t (.int k x) (.int k y)) kv = kv (.bool (decide (y ≤ x))) := rp_eq fun w => run_geq _ w t k x y
theorem o_eql (t : TypeId) (cx cy : Bool) (k : IntKind) (x y : Int) (Z : List PanicEntry → World → Prop) (w : World) (kk : Value → World → Prop) : run1 Try.prog Z (eqOp .eql t cx cy (.int k x) (.int k y)) w kk = kk (.bool (x == y)) w := r1_eq fun w => run_eql_int _ w t cx cy k x y
theorem o_eqlp (t : TypeId) (cx cy : Bool) (k : IntKind) (x y : Int) (kv : Value → Prop) : Pure1 Try.prog (eqOp .eql t cx cy (.int k x) (.int k y)) kv = kv (.bool (x == y)) := rp_eq fun w => run_eql_int _ w t cx cy k x y
theorem o_neq (t : TypeId) (cx cy : Bool) (k : IntKind) (x y : Int) (Z : List PanicEntry → World → Prop) (w : World) (kk : Value → World → Prop) : run1 Try.prog Z (eqOp .neq t cx cy (.int k x) (.int k y)) w kk = kk (.bool (x != y)) w := r1_eq fun w => run_neq_int _ w t cx cy k x y
theorem o_neqp (t : TypeId) (cx cy : Bool) (k : IntKind) (x y : Int) (kv : Value → Prop) : Pure1 Try.prog (eqOp .neq t cx cy (.int k x) (.int k y)) kv = kv (.bool (x != y)) := rp_eq fun w => run_neq_int _ w t cx cy k x y
theorem os_eql (t : TypeId) (cx cy : Bool) (a b : ByteArray) (Z : List PanicEntry → World → Prop) (w : World) (kk : Value → World → Prop) : run1 Try.prog Z (eqOp .eql t cx cy (.string a) (.string b)) w kk = kk (.bool ((a.toList == b.toList))) w := r1_eq fun w => run_eql_str t cx cy a b w
theorem os_eqlp (t : TypeId) (cx cy : Bool) (a b : ByteArray) (kv : Value → Prop) : Pure1 Try.prog (eqOp .eql t cx cy (.string a) (.string b)) kv = kv (.bool ((a.toList == b.toList))) := rp_eq fun w => run_eql_str t cx cy a b w
theorem os_neq (t : TypeId) (cx cy : Bool) (a b : ByteArray) (Z : List PanicEntry → World → Prop) (w : World) (kk : Value → World → Prop) : run1 Try.prog Z (eqOp .neq t cx cy (.string a) (.string b)) w kk = kk (.bool (!(a.toList == b.toList))) w := r1_eq fun w => run_neq_str t cx cy a b w
theorem os_neqp (t : TypeId) (cx cy : Bool) (a b : ByteArray) (kv : Value → Prop) : Pure1 Try.prog (eqOp .neq t cx cy (.string a) (.string b)) kv = kv (.bool (!(a.toList == b.toList))) := rp_eq fun w => run_neq_str t cx cy a b w
theorem o_and (t : TypeId) (k : IntKind) (x y : Int) (Z : List PanicEntry → World → Prop) (w : World) (kk : Value → World → Prop) : run1 Try.prog Z (binOp .and t (.int k x) (.int k y)) w kk = kk (.int k (k.wrap (BitVec.ofInt k.bits x &&& BitVec.ofInt k.bits y).toNat)) w := r1_eq fun w => run_and _ w t k x y
theorem o_andp (t : TypeId) (k : IntKind) (x y : Int) (kv : Value → Prop) : Pure1 Try.prog (binOp .and t (.int k x) (.int k y)) kv = kv (.int k (k.wrap (BitVec.ofInt k.bits x &&& BitVec.ofInt k.bits y).toNat)) := rp_eq fun w => run_and _ w t k x y
theorem o_or (t : TypeId) (k : IntKind) (x y : Int) (Z : List PanicEntry → World → Prop) (w : World) (kk : Value → World → Prop) : run1 Try.prog Z (binOp .or t (.int k x) (.int k y)) w kk = kk (.int k (k.wrap (BitVec.ofInt k.bits x ||| BitVec.ofInt k.bits y).toNat)) w := r1_eq fun w => run_or _ w t k x y
theorem o_orp (t : TypeId) (k : IntKind) (x y : Int) (kv : Value → Prop) : Pure1 Try.prog (binOp .or t (.int k x) (.int k y)) kv = kv (.int k (k.wrap (BitVec.ofInt k.bits x ||| BitVec.ofInt k.bits y).toNat)) := rp_eq fun w => run_or _ w t k x y
theorem o_xor (t : TypeId) (k : IntKind) (x y : Int) (Z : List PanicEntry → World → Prop) (w : World) (kk : Value → World → Prop) : run1 Try.prog Z (binOp .xor t (.int k x) (.int k y)) w kk = kk (.int k (k.wrap (BitVec.ofInt k.bits x ^^^ BitVec.ofInt k.bits y).toNat)) w := r1_eq fun w => run_xor _ w t k x y
theorem o_xorp (t : TypeId) (k : IntKind) (x y : Int) (kv : Value → Prop) : Pure1 Try.prog (binOp .xor t (.int k x) (.int k y)) kv = kv (.int k (k.wrap (BitVec.ofInt k.bits x ^^^ BitVec.ofInt k.bits y).toNat)) := rp_eq fun w => run_xor _ w t k x y
theorem o_not (b : Bool) (Z : List PanicEntry → World → Prop) (w : World) (kk : Value → World → Prop) : run1 Try.prog Z (Op.unary .not (.bool b)) w kk = kk (.bool !b) w := r1_eq fun w => run_not _ w b
theorem o_notp (b : Bool) (kv : Value → Prop) : Pure1 Try.prog (Op.unary .not (.bool b)) kv = kv (.bool !b) := rp_eq fun w => run_not _ w b
theorem o_pickT (x y : Value) (Z : List PanicEntry → World → Prop) (w : World) (kk : Value → World → Prop) : run1 Try.prog Z (pickV (.bool true) x y) w kk = kk x w := r1_eq fun w => run_pick _ w true x y
theorem o_pickTp (x y : Value) (kv : Value → Prop) : Pure1 Try.prog (pickV (.bool true) x y) kv = kv x := rp_eq fun w => run_pick _ w true x y
theorem o_pickF (x y : Value) (Z : List PanicEntry → World → Prop) (w : World) (kk : Value → World → Prop) : run1 Try.prog Z (pickV (.bool false) x y) w kk = kk y w := r1_eq fun w => run_pick _ w false x y
theorem o_pickFp (x y : Value) (kv : Value → Prop) : Pure1 Try.prog (pickV (.bool false) x y) kv = kv y := rp_eq fun w => run_pick _ w false x y
theorem o_ext1_0 (v0 : Value) (Z : List PanicEntry → World → Prop) (w : World) (kk : Value → World → Prop) : run1 Try.prog Z (Instr.extract (.tuple #[v0]) 0) w kk = kk v0 w := r1_eq fun w => run_extract _ w _ 0 _ rfl
theorem o_ext1_0p (v0 : Value) (kv : Value → Prop) : Pure1 Try.prog (Instr.extract (.tuple #[v0]) 0) kv = kv v0 := rp_eq fun w => run_extract _ w _ 0 _ rfl
theorem o_ext2_0 (v0 v1 : Value) (Z : List PanicEntry → World → Prop) (w : World) (kk : Value → World → Prop) : run1 Try.prog Z (Instr.extract (.tuple #[v0, v1]) 0) w kk = kk v0 w := r1_eq fun w => run_extract _ w _ 0 _ rfl
theorem o_ext2_0p (v0 v1 : Value) (kv : Value → Prop) : Pure1 Try.prog (Instr.extract (.tuple #[v0, v1]) 0) kv = kv v0 := rp_eq fun w => run_extract _ w _ 0 _ rfl
theorem o_ext2_1 (v0 v1 : Value) (Z : List PanicEntry → World → Prop) (w : World) (kk : Value → World → Prop) : run1 Try.prog Z (Instr.extract (.tuple #[v0, v1]) 1) w kk = kk v1 w := r1_eq fun w => run_extract _ w _ 1 _ rfl
theorem o_ext2_1p (v0 v1 : Value) (kv : Value → Prop) : Pure1 Try.prog (Instr.extract (.tuple #[v0, v1]) 1) kv = kv v1 := rp_eq fun w => run_extract _ w _ 1 _ rfl
theorem o_ext3_0 (v0 v1 v2 : Value) (Z : List PanicEntry → World → Prop) (w : World) (kk : Value → World → Prop) : run1 Try.prog Z (Instr.extract (.tuple #[v0, v1, v2]) 0) w kk = kk v0 w := r1_eq fun w => run_extract _ w _ 0 _ rfl
theorem o_ext3_0p (v0 v1 v2 : Value) (kv : Value → Prop) : Pure1 Try.prog (Instr.extract (.tuple #[v0, v1, v2]) 0) kv = kv v0 := rp_eq fun w => run_extract _ w _ 0 _ rfl
theorem o_ext3_1 (v0 v1 v2 : Value) (Z : List PanicEntry → World → Prop) (w : World) (kk : Value → World → Prop) : run1 Try.prog Z (Instr.extract (.tuple #[v0, v1, v2]) 1) w kk = kk v1 w := r1_eq fun w => run_extract _ w _ 1 _ rfl
theorem o_ext3_1p (v0 v1 v2 : Value) (kv : Value → Prop) : Pure1 Try.prog (Instr.extract (.tuple #[v0, v1, v2]) 1) kv = kv v1 := rp_eq fun w => run_extract _ w _ 1 _ rfl
theorem o_ext3_2 (v0 v1 v2 : Value) (Z : List PanicEntry → World → Prop) (w : World) (kk : Value → World → Prop) : run1 Try.prog Z (Instr.extract (.tuple #[v0, v1, v2]) 2) w kk = kk v2 w := r1_eq fun w => run_extract _ w _ 2 _ rfl
theorem o_ext3_2p (v0 v1 v2 : Value) (kv : Value → Prop) : Pure1 Try.prog (Instr.extract (.tuple #[v0, v1, v2]) 2) kv = kv v2 := rp_eq fun w => run_extract _ w _ 2 _ rfl
theorem o_ext4_0 (v0 v1 v2 v3 : Value) (Z : List PanicEntry → World → Prop) (w : World) (kk : Value → World → Prop) : run1 Try.prog Z (Instr.extract (.tuple #[v0, v1, v2, v3]) 0) w kk = kk v0 w := r1_eq fun w => run_extract _ w _ 0 _ rfl
theorem o_ext4_0p (v0 v1 v2 v3 : Value) (kv : Value → Prop) : Pure1 Try.prog (Instr.extract (.tuple #[v0, v1, v2, v3]) 0) kv = kv v0 := rp_eq fun w => run_extract _ w _ 0 _ rfl
theorem o_ext4_1 (v0 v1 v2 v3 : Value) (Z : List PanicEntry → World → Prop) (w : World) (kk : Value → World → Prop) : run1 Try.prog Z (Instr.extract (.tuple #[v0, v1, v2, v3]) 1) w kk = kk v1 w := r1_eq fun w => run_extract _ w _ 1 _ rfl
theorem o_ext4_1p (v0 v1 v2 v3 : Value) (kv : Value → Prop) : Pure1 Try.prog (Instr.extract (.tuple #[v0, v1, v2, v3]) 1) kv = kv v1 := rp_eq fun w => run_extract _ w _ 1 _ rfl
theorem o_ext4_2 (v0 v1 v2 v3 : Value) (Z : List PanicEntry → World → Prop) (w : World) (kk : Value → World → Prop) : run1 Try.prog Z (Instr.extract (.tuple #[v0, v1, v2, v3]) 2) w kk = kk v2 w := r1_eq fun w => run_extract _ w _ 2 _ rfl
theorem o_ext4_2p (v0 v1 v2 v3 : Value) (kv : Value → Prop) : Pure1 Try.prog (Instr.extract (.tuple #[v0, v1, v2, v3]) 2) kv = kv v2 := rp_eq fun w => run_extract _ w _ 2 _ rfl
theorem o_ext4_3 (v0 v1 v2 v3 : Value) (Z : List PanicEntry → World → Prop) (w : World) (kk : Value → World → Prop) : run1 Try.prog Z (Instr.extract (.tuple #[v0, v1, v2, v3]) 3) w kk = kk v3 w := r1_eq fun w => run_extract _ w _ 3 _ rfl
theorem o_ext4_3p (v0 v1 v2 v3 : Value) (kv : Value → Prop) : Pure1 Try.prog (Instr.extract (.tuple #[v0, v1, v2, v3]) 3) kv = kv v3 := rp_eq fun w => run_extract _ w _ 3 _ rfl
theorem o_ext5_0 (v0 v1 v2 v3 v4 : Value) (Z : List PanicEntry → World → Prop) (w : World) (kk : Value → World → Prop) : run1 Try.prog Z (Instr.extract (.tuple #[v0, v1, v2, v3, v4]) 0) w kk = kk v0 w := r1_eq fun w => run_extract _ w _ 0 _ rfl
theorem o_ext5_0p (v0 v1 v2 v3 v4 : Value) (kv : Value → Prop) : Pure1 Try.prog (Instr.extract (.tuple #[v0, v1, v2, v3, v4]) 0) kv = kv v0 := rp_eq fun w => run_extract _ w _ 0 _ rfl
theorem o_ext5_1 (v0 v1 v2 v3 v4 : Value) (Z : List PanicEntry → World → Prop) (w : World) (kk : Value → World → Prop) : run1 Try.prog Z (Instr.extract (.tuple #[v0, v1, v2, v3, v4]) 1) w kk = kk v1 w := r1_eq fun w => run_extract _ w _ 1 _ rfl
theorem o_ext5_1p (v0 v1 v2 v3 v4 : Value) (kv : Value → Prop) : Pure1 Try.prog (Instr.extract (.tuple #[v0, v1, v2, v3, v4]) 1) kv = kv v1 := rp_eq fun w => run_extract _ w _ 1 _ rfl
theorem o_ext5_2 (v0 v1 v2 v3 v4 : Value) (Z : List PanicEntry → World → Prop) (w : World) (kk : Value → World → Prop) : run1 Try.prog Z (Instr.extract (.tuple #[v0, v1, v2, v3, v4]) 2) w kk = kk v2 w := r1_eq fun w => run_extract _ w _ 2 _ rfl
theorem o_ext5_2p (v0 v1 v2 v3 v4 : Value) (kv : Value → Prop) : Pure1 Try.prog (Instr.extract (.tuple #[v0, v1, v2, v3, v4]) 2) kv = kv v2 := rp_eq fun w => run_extract _ w _ 2 _ rfl
theorem o_ext5_3 (v0 v1 v2 v3 v4 : Value) (Z : List PanicEntry → World → Prop) (w : World) (kk : Value → World → Prop) : run1 Try.prog Z (Instr.extract (.tuple #[v0, v1, v2, v3, v4]) 3) w kk = kk v3 w := r1_eq fun w => run_extract _ w _ 3 _ rfl
theorem o_ext5_3p (v0 v1 v2 v3 v4 : Value) (kv : Value → Prop) : Pure1 Try.prog (Instr.extract (.tuple #[v0, v1, v2, v3, v4]) 3) kv = kv v3 := rp_eq fun w => run_extract _ w _ 3 _ rfl
theorem o_ext5_4 (v0 v1 v2 v3 v4 : Value) (Z : List PanicEntry → World → Prop) (w : World) (kk : Value → World → Prop) : run1 Try.prog Z (Instr.extract (.tuple #[v0, v1, v2, v3, v4]) 4) w kk = kk v4 w := r1_eq fun w => run_extract _ w _ 4 _ rfl
theorem o_ext5_4p (v0 v1 v2 v3 v4 : Value) (kv : Value → Prop) : Pure1 Try.prog (Instr.extract (.tuple #[v0, v1, v2, v3, v4]) 4) kv = kv v4 := rp_eq fun w => run_extract _ w _ 4 _ rfl
theorem o_max (ts : Array TypeId) (t : TypeId) (k k' : IntKind) (x y : Int) (Z : List PanicEntry → World → Prop) (w : World) (kk : Value → World → Prop) : run1 Try.prog Z (Builtin.max_ ts t #[.int k x, .int k' y]) w kk = kk (.int k (max x y)) w := r1_eq fun w => run_maxV ts t k k' x y w
theorem o_maxp (ts : Array TypeId) (t : TypeId) (k k' : IntKind) (x y : Int) (kv : Value → Prop) : Pure1 Try.prog (Builtin.max_ ts t #[.int k x, .int k' y]) kv = kv (.int k (max x y)) := rp_eq fun w => run_maxV ts t k k' x y w
theorem o_min (ts : Array TypeId) (t : TypeId) (k k' : IntKind) (x y : Int) (Z : List PanicEntry → World → Prop) (w : World) (kk : Value → World → Prop) : run1 Try.prog Z (Builtin.min_ ts t #[.int k x, .int k' y]) w kk = kk (.int k (min x y)) w := r1_eq fun w => run_minV ts t k k' x y w
theorem o_minp (ts : Array TypeId) (t : TypeId) (k k' : IntKind) (x y : Int) (kv : Value → Prop) : Pure1 Try.prog (Builtin.min_ ts t #[.int k x, .int k' y]) kv = kv (.int k (min x y)) := rp_eq fun w => run_minV ts t k k' x y w
theorem o_fn (fn : Fn) (a b : Array Value) (Z : List PanicEntry → World → Prop) (w : World) (kk : Value → World → Prop) : run1 Try.prog Z (Instr.makeFunc fn a b) w kk = kk (.func fn a b) w := r1_eq fun w => run_makeFunc _ w fn a b
theorem o_fnp (fn : Fn) (a b : Array Value) (kv : Value → Prop) : Pure1 Try.prog (Instr.makeFunc fn a b) kv = kv (.func fn a b) := rp_eq fun w => run_makeFunc _ w fn a b
theorem o_chk (a : Addr) (Z : List PanicEntry → World → Prop) (w : World) (kk : Value → World → Prop) : runX Try.prog Z (nilChk (.pointer (some a))) w kk = kk (.pointer (some a)) w := rX_eq fun w => run_nilChk _ w a
theorem o_chkp (a : Addr) (kv : Value → Prop) : PureV Try.prog (nilChk (.pointer (some a))) kv = kv (.pointer (some a)) := rpV_eq fun w => run_nilChk _ w a
end Go.Proofs.Ytklojohafbmonaa
