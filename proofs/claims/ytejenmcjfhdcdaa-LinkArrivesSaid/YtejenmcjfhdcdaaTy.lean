import Derived.Test.YtejenmcjfhdcdaaShOpen
import Derived.Test.YtejenmcjfhdcdaaProg
set_option linter.unusedVariables false
namespace Go.Proofs.Ytejenmcjfhdcdaa
open Go.Sh
theorem fu1 : isFuncT Try.prog 1 = true := by kernel_rfl
theorem one1 : oneT Try.prog 1 = true := by kernel_rfl
theorem ze1 : zeroT Try.prog 1 = some .nilFunc := by kernel_rfl
theorem it2 : intT Try.prog 2 = some .i64 := by kernel_rfl
theorem one2 : oneT Try.prog 2 = true := by kernel_rfl
theorem ze2 : zeroT Try.prog 2 = some (.int .i64 0) := by kernel_rfl
theorem it3 : intT Try.prog 3 = some .i64 := by kernel_rfl
theorem one3 : oneT Try.prog 3 = true := by kernel_rfl
theorem ze3 : zeroT Try.prog 3 = some (.int .i64 0) := by kernel_rfl
theorem bo4 : isBoolT Try.prog 4 = true := by kernel_rfl
theorem one4 : oneT Try.prog 4 = true := by kernel_rfl
theorem ze4 : zeroT Try.prog 4 = some (.bool false) := by kernel_rfl
theorem it5 : intT Try.prog 5 = some .u8 := by kernel_rfl
theorem one5 : oneT Try.prog 5 = true := by kernel_rfl
theorem ze5 : zeroT Try.prog 5 = some (.int .u8 0) := by kernel_rfl
theorem it6 : intT Try.prog 6 = some .u8 := by kernel_rfl
theorem one6 : oneT Try.prog 6 = true := by kernel_rfl
theorem ze6 : zeroT Try.prog 6 = some (.int .u8 0) := by kernel_rfl
theorem ag7 : aggT Try.prog 7 4 = true := by kernel_rfl
theorem ze7 : zeroT Try.prog 7 = some (.agg #[(.int .i64 0), (.int .i64 0), (.bool false), (.int .u8 0)]) := by kernel_rfl
theorem of7_0 : offT Try.prog 7 0 = some 0 := by kernel_rfl
theorem of7_1 : offT Try.prog 7 1 = some 1 := by kernel_rfl
theorem of7_2 : offT Try.prog 7 2 = some 2 := by kernel_rfl
theorem of7_3 : offT Try.prog 7 3 = some 3 := by kernel_rfl
theorem ag8 : aggT Try.prog 8 4 = true := by kernel_rfl
theorem ze8 : zeroT Try.prog 8 = some (.agg #[(.int .i64 0), (.int .i64 0), (.bool false), (.int .u8 0)]) := by kernel_rfl
theorem of8_0 : offT Try.prog 8 0 = some 0 := by kernel_rfl
theorem of8_1 : offT Try.prog 8 1 = some 1 := by kernel_rfl
theorem of8_2 : offT Try.prog 8 2 = some 2 := by kernel_rfl
theorem of8_3 : offT Try.prog 8 3 = some 3 := by kernel_rfl
theorem st9 : isStrT Try.prog 9 = true := by kernel_rfl
theorem one9 : oneT Try.prog 9 = true := by kernel_rfl
theorem ze9 : zeroT Try.prog 9 = some (.string ByteArray.empty) := by kernel_rfl
theorem st10 : isStrT Try.prog 10 = true := by kernel_rfl
theorem one10 : oneT Try.prog 10 = true := by kernel_rfl
theorem ze10 : zeroT Try.prog 10 = some (.string ByteArray.empty) := by kernel_rfl
theorem st11 : isStrT Try.prog 11 = true := by kernel_rfl
theorem one11 : oneT Try.prog 11 = true := by kernel_rfl
theorem ze11 : zeroT Try.prog 11 = some (.string ByteArray.empty) := by kernel_rfl
theorem it12 : intT Try.prog 12 = some .u64 := by kernel_rfl
theorem one12 : oneT Try.prog 12 = true := by kernel_rfl
theorem ze12 : zeroT Try.prog 12 = some (.int .u64 0) := by kernel_rfl
theorem ag13 : aggT Try.prog 13 2 = true := by kernel_rfl
theorem ze13 : zeroT Try.prog 13 = some (.agg #[(.string ByteArray.empty), (.int .u64 0)]) := by kernel_rfl
theorem of13_0 : offT Try.prog 13 0 = some 0 := by kernel_rfl
theorem of13_1 : offT Try.prog 13 1 = some 1 := by kernel_rfl
theorem ag14 : aggT Try.prog 14 2 = true := by kernel_rfl
theorem ze14 : zeroT Try.prog 14 = some (.agg #[(.string ByteArray.empty), (.int .u64 0)]) := by kernel_rfl
theorem of14_0 : offT Try.prog 14 0 = some 0 := by kernel_rfl
theorem of14_1 : offT Try.prog 14 1 = some 1 := by kernel_rfl
theorem pt15 : isPtrT Try.prog 15 = true := by kernel_rfl
theorem one15 : oneT Try.prog 15 = true := by kernel_rfl
theorem ze15 : zeroT Try.prog 15 = some (.pointer none) := by kernel_rfl
theorem pt16 : isPtrT Try.prog 16 = true := by kernel_rfl
theorem one16 : oneT Try.prog 16 = true := by kernel_rfl
theorem ze16 : zeroT Try.prog 16 = some (.pointer none) := by kernel_rfl
theorem pt17 : isPtrT Try.prog 17 = true := by kernel_rfl
theorem one17 : oneT Try.prog 17 = true := by kernel_rfl
theorem ze17 : zeroT Try.prog 17 = some (.pointer none) := by kernel_rfl
theorem ag18 : aggT Try.prog 18 1 = true := by kernel_rfl
theorem ze18 : zeroT Try.prog 18 = some (.agg #[(.pointer none)]) := by kernel_rfl
theorem of18_0 : offT Try.prog 18 0 = some 0 := by kernel_rfl
theorem ag19 : aggT Try.prog 19 1 = true := by kernel_rfl
theorem ze19 : zeroT Try.prog 19 = some (.agg #[(.pointer none)]) := by kernel_rfl
theorem of19_0 : offT Try.prog 19 0 = some 0 := by kernel_rfl
theorem one20 : oneT Try.prog 20 = true := by kernel_rfl
theorem ze20 : zeroT Try.prog 20 = some .nilIface := by kernel_rfl
theorem it21 : intT Try.prog 21 = some .i32 := by kernel_rfl
theorem one21 : oneT Try.prog 21 = true := by kernel_rfl
theorem ze21 : zeroT Try.prog 21 = some (.int .i32 0) := by kernel_rfl
theorem sl22 : isSliceT Try.prog 22 = true := by kernel_rfl
theorem one22 : oneT Try.prog 22 = true := by kernel_rfl
theorem el22 : El Try.prog 22 25 1 24 (.slice none 0 0) := ⟨Try.underlying22, by kernel_rfl, by kernel_rfl, by decide⟩
theorem ze22 : zeroT Try.prog 22 = some (.slice none 0 0) := by kernel_rfl
theorem sl23 : isSliceT Try.prog 23 = true := by kernel_rfl
theorem one23 : oneT Try.prog 23 = true := by kernel_rfl
theorem el23 : El Try.prog 23 3 1 8 (.int .i64 0) := ⟨Try.underlying23, by kernel_rfl, by kernel_rfl, by decide⟩
theorem ze23 : zeroT Try.prog 23 = some (.slice none 0 0) := by kernel_rfl
theorem fu24 : isFuncT Try.prog 24 = true := by kernel_rfl
theorem one24 : oneT Try.prog 24 = true := by kernel_rfl
theorem ze24 : zeroT Try.prog 24 = some .nilFunc := by kernel_rfl
theorem sl25 : isSliceT Try.prog 25 = true := by kernel_rfl
theorem one25 : oneT Try.prog 25 = true := by kernel_rfl
theorem el25 : El Try.prog 25 5 1 1 (.int .u8 0) := ⟨Try.underlying25, by kernel_rfl, by kernel_rfl, by decide⟩
theorem ze25 : zeroT Try.prog 25 = some (.slice none 0 0) := by kernel_rfl
theorem pt26 : isPtrT Try.prog 26 = true := by kernel_rfl
theorem one26 : oneT Try.prog 26 = true := by kernel_rfl
theorem ze26 : zeroT Try.prog 26 = some (.pointer none) := by kernel_rfl
theorem it27 : intT Try.prog 27 = some .i64 := by kernel_rfl
theorem one27 : oneT Try.prog 27 = true := by kernel_rfl
theorem ze27 : zeroT Try.prog 27 = some (.int .i64 0) := by kernel_rfl
theorem fu29 : isFuncT Try.prog 29 = true := by kernel_rfl
theorem one29 : oneT Try.prog 29 = true := by kernel_rfl
theorem ze29 : zeroT Try.prog 29 = some .nilFunc := by kernel_rfl
theorem fu30 : isFuncT Try.prog 30 = true := by kernel_rfl
theorem one30 : oneT Try.prog 30 = true := by kernel_rfl
theorem ze30 : zeroT Try.prog 30 = some .nilFunc := by kernel_rfl
theorem it31 : intT Try.prog 31 = some .i8 := by kernel_rfl
theorem one31 : oneT Try.prog 31 = true := by kernel_rfl
theorem ze31 : zeroT Try.prog 31 = some (.int .i8 0) := by kernel_rfl
theorem fu32 : isFuncT Try.prog 32 = true := by kernel_rfl
theorem one32 : oneT Try.prog 32 = true := by kernel_rfl
theorem ze32 : zeroT Try.prog 32 = some .nilFunc := by kernel_rfl
theorem ag33 : aggT Try.prog 33 4 = true := by kernel_rfl
theorem ze33 : zeroT Try.prog 33 = some (.agg #[(.int .i8 0), (.int .i8 0), (.slice none 0 0), (.bool false)]) := by kernel_rfl
theorem of33_0 : offT Try.prog 33 0 = some 0 := by kernel_rfl
theorem of33_1 : offT Try.prog 33 1 = some 1 := by kernel_rfl
theorem of33_2 : offT Try.prog 33 2 = some 2 := by kernel_rfl
theorem of33_3 : offT Try.prog 33 3 = some 3 := by kernel_rfl
theorem ag34 : aggT Try.prog 34 4 = true := by kernel_rfl
theorem ze34 : zeroT Try.prog 34 = some (.agg #[(.int .i8 0), (.int .i8 0), (.slice none 0 0), (.bool false)]) := by kernel_rfl
theorem of34_0 : offT Try.prog 34 0 = some 0 := by kernel_rfl
theorem of34_1 : offT Try.prog 34 1 = some 1 := by kernel_rfl
theorem of34_2 : offT Try.prog 34 2 = some 2 := by kernel_rfl
theorem of34_3 : offT Try.prog 34 3 = some 3 := by kernel_rfl
theorem fu36 : isFuncT Try.prog 36 = true := by kernel_rfl
theorem one36 : oneT Try.prog 36 = true := by kernel_rfl
theorem ze36 : zeroT Try.prog 36 = some .nilFunc := by kernel_rfl
theorem fu37 : isFuncT Try.prog 37 = true := by kernel_rfl
theorem one37 : oneT Try.prog 37 = true := by kernel_rfl
theorem ze37 : zeroT Try.prog 37 = some .nilFunc := by kernel_rfl
theorem fu38 : isFuncT Try.prog 38 = true := by kernel_rfl
theorem one38 : oneT Try.prog 38 = true := by kernel_rfl
theorem ze38 : zeroT Try.prog 38 = some .nilFunc := by kernel_rfl
theorem fu39 : isFuncT Try.prog 39 = true := by kernel_rfl
theorem one39 : oneT Try.prog 39 = true := by kernel_rfl
theorem ze39 : zeroT Try.prog 39 = some .nilFunc := by kernel_rfl
theorem sl40 : isSliceT Try.prog 40 = true := by kernel_rfl
theorem one40 : oneT Try.prog 40 = true := by kernel_rfl
theorem el40 : El Try.prog 40 43 8 72 (.agg #[(.int .i64 0), (.int .i64 0), (.int .i8 0), (.int .i8 0), (.slice none 0 0), (.int .i64 0), (.int .i64 0), (.int .u8 0)]) := ⟨Try.underlying40, by kernel_rfl, by kernel_rfl, by decide⟩
theorem ze40 : zeroT Try.prog 40 = some (.slice none 0 0) := by kernel_rfl
theorem fu41 : isFuncT Try.prog 41 = true := by kernel_rfl
theorem one41 : oneT Try.prog 41 = true := by kernel_rfl
theorem ze41 : zeroT Try.prog 41 = some .nilFunc := by kernel_rfl
theorem ag42 : aggT Try.prog 42 8 = true := by kernel_rfl
theorem ze42 : zeroT Try.prog 42 = some (.agg #[(.int .i64 0), (.int .i64 0), (.int .i8 0), (.int .i8 0), (.slice none 0 0), (.int .i64 0), (.int .i64 0), (.int .u8 0)]) := by kernel_rfl
theorem of42_0 : offT Try.prog 42 0 = some 0 := by kernel_rfl
theorem of42_1 : offT Try.prog 42 1 = some 1 := by kernel_rfl
theorem of42_2 : offT Try.prog 42 2 = some 2 := by kernel_rfl
theorem of42_3 : offT Try.prog 42 3 = some 3 := by kernel_rfl
theorem of42_4 : offT Try.prog 42 4 = some 4 := by kernel_rfl
theorem of42_5 : offT Try.prog 42 5 = some 5 := by kernel_rfl
theorem of42_6 : offT Try.prog 42 6 = some 6 := by kernel_rfl
theorem of42_7 : offT Try.prog 42 7 = some 7 := by kernel_rfl
theorem ag43 : aggT Try.prog 43 8 = true := by kernel_rfl
theorem ze43 : zeroT Try.prog 43 = some (.agg #[(.int .i64 0), (.int .i64 0), (.int .i8 0), (.int .i8 0), (.slice none 0 0), (.int .i64 0), (.int .i64 0), (.int .u8 0)]) := by kernel_rfl
theorem of43_0 : offT Try.prog 43 0 = some 0 := by kernel_rfl
theorem of43_1 : offT Try.prog 43 1 = some 1 := by kernel_rfl
theorem of43_2 : offT Try.prog 43 2 = some 2 := by kernel_rfl
theorem of43_3 : offT Try.prog 43 3 = some 3 := by kernel_rfl
theorem of43_4 : offT Try.prog 43 4 = some 4 := by kernel_rfl
theorem of43_5 : offT Try.prog 43 5 = some 5 := by kernel_rfl
theorem of43_6 : offT Try.prog 43 6 = some 6 := by kernel_rfl
theorem of43_7 : offT Try.prog 43 7 = some 7 := by kernel_rfl
theorem fu44 : isFuncT Try.prog 44 = true := by kernel_rfl
theorem one44 : oneT Try.prog 44 = true := by kernel_rfl
theorem ze44 : zeroT Try.prog 44 = some .nilFunc := by kernel_rfl
theorem fu45 : isFuncT Try.prog 45 = true := by kernel_rfl
theorem one45 : oneT Try.prog 45 = true := by kernel_rfl
theorem ze45 : zeroT Try.prog 45 = some .nilFunc := by kernel_rfl
theorem fu46 : isFuncT Try.prog 46 = true := by kernel_rfl
theorem one46 : oneT Try.prog 46 = true := by kernel_rfl
theorem ze46 : zeroT Try.prog 46 = some .nilFunc := by kernel_rfl
theorem fu47 : isFuncT Try.prog 47 = true := by kernel_rfl
theorem one47 : oneT Try.prog 47 = true := by kernel_rfl
theorem ze47 : zeroT Try.prog 47 = some .nilFunc := by kernel_rfl
theorem fu48 : isFuncT Try.prog 48 = true := by kernel_rfl
theorem one48 : oneT Try.prog 48 = true := by kernel_rfl
theorem ze48 : zeroT Try.prog 48 = some .nilFunc := by kernel_rfl
theorem sl49 : isSliceT Try.prog 49 = true := by kernel_rfl
theorem one49 : oneT Try.prog 49 = true := by kernel_rfl
theorem el49 : El Try.prog 49 34 4 40 (.agg #[(.int .i8 0), (.int .i8 0), (.slice none 0 0), (.bool false)]) := ⟨Try.underlying49, by kernel_rfl, by kernel_rfl, by decide⟩
theorem ze49 : zeroT Try.prog 49 = some (.slice none 0 0) := by kernel_rfl
theorem ag50 : aggT Try.prog 50 2 = true := by kernel_rfl
theorem ze50 : zeroT Try.prog 50 = some (.agg #[(.int .i64 0), (.slice none 0 0)]) := by kernel_rfl
theorem of50_0 : offT Try.prog 50 0 = some 0 := by kernel_rfl
theorem of50_1 : offT Try.prog 50 1 = some 1 := by kernel_rfl
theorem ag51 : aggT Try.prog 51 2 = true := by kernel_rfl
theorem ze51 : zeroT Try.prog 51 = some (.agg #[(.int .i64 0), (.slice none 0 0)]) := by kernel_rfl
theorem of51_0 : offT Try.prog 51 0 = some 0 := by kernel_rfl
theorem of51_1 : offT Try.prog 51 1 = some 1 := by kernel_rfl
theorem fu52 : isFuncT Try.prog 52 = true := by kernel_rfl
theorem one52 : oneT Try.prog 52 = true := by kernel_rfl
theorem ze52 : zeroT Try.prog 52 = some .nilFunc := by kernel_rfl
theorem fu53 : isFuncT Try.prog 53 = true := by kernel_rfl
theorem one53 : oneT Try.prog 53 = true := by kernel_rfl
theorem ze53 : zeroT Try.prog 53 = some .nilFunc := by kernel_rfl
theorem fu54 : isFuncT Try.prog 54 = true := by kernel_rfl
theorem one54 : oneT Try.prog 54 = true := by kernel_rfl
theorem ze54 : zeroT Try.prog 54 = some .nilFunc := by kernel_rfl
theorem fu55 : isFuncT Try.prog 55 = true := by kernel_rfl
theorem one55 : oneT Try.prog 55 = true := by kernel_rfl
theorem ze55 : zeroT Try.prog 55 = some .nilFunc := by kernel_rfl
theorem pt56 : isPtrT Try.prog 56 = true := by kernel_rfl
theorem one56 : oneT Try.prog 56 = true := by kernel_rfl
theorem ze56 : zeroT Try.prog 56 = some (.pointer none) := by kernel_rfl
theorem fu57 : isFuncT Try.prog 57 = true := by kernel_rfl
theorem one57 : oneT Try.prog 57 = true := by kernel_rfl
theorem ze57 : zeroT Try.prog 57 = some .nilFunc := by kernel_rfl
theorem fu58 : isFuncT Try.prog 58 = true := by kernel_rfl
theorem one58 : oneT Try.prog 58 = true := by kernel_rfl
theorem ze58 : zeroT Try.prog 58 = some .nilFunc := by kernel_rfl
theorem fu59 : isFuncT Try.prog 59 = true := by kernel_rfl
theorem one59 : oneT Try.prog 59 = true := by kernel_rfl
theorem ze59 : zeroT Try.prog 59 = some .nilFunc := by kernel_rfl
theorem fu60 : isFuncT Try.prog 60 = true := by kernel_rfl
theorem one60 : oneT Try.prog 60 = true := by kernel_rfl
theorem ze60 : zeroT Try.prog 60 = some .nilFunc := by kernel_rfl
theorem ag61 : aggT Try.prog 61 4 = true := by kernel_rfl
theorem ze61 : zeroT Try.prog 61 = some (.agg #[(.pointer none), (.pointer none), (.pointer none), (.string ByteArray.empty)]) := by kernel_rfl
theorem of61_0 : offT Try.prog 61 0 = some 0 := by kernel_rfl
theorem of61_1 : offT Try.prog 61 1 = some 1 := by kernel_rfl
theorem of61_2 : offT Try.prog 61 2 = some 2 := by kernel_rfl
theorem of61_3 : offT Try.prog 61 3 = some 3 := by kernel_rfl
theorem ag62 : aggT Try.prog 62 4 = true := by kernel_rfl
theorem ze62 : zeroT Try.prog 62 = some (.agg #[(.pointer none), (.pointer none), (.pointer none), (.string ByteArray.empty)]) := by kernel_rfl
theorem of62_0 : offT Try.prog 62 0 = some 0 := by kernel_rfl
theorem of62_1 : offT Try.prog 62 1 = some 1 := by kernel_rfl
theorem of62_2 : offT Try.prog 62 2 = some 2 := by kernel_rfl
theorem of62_3 : offT Try.prog 62 3 = some 3 := by kernel_rfl
theorem it66 : intT Try.prog 66 = some .u32 := by kernel_rfl
theorem one66 : oneT Try.prog 66 = true := by kernel_rfl
theorem ze66 : zeroT Try.prog 66 = some (.int .u32 0) := by kernel_rfl
theorem it67 : intT Try.prog 67 = some .u8 := by kernel_rfl
theorem one67 : oneT Try.prog 67 = true := by kernel_rfl
theorem ze67 : zeroT Try.prog 67 = some (.int .u8 0) := by kernel_rfl
theorem it68 : intT Try.prog 68 = some .u8 := by kernel_rfl
theorem one68 : oneT Try.prog 68 = true := by kernel_rfl
theorem ze68 : zeroT Try.prog 68 = some (.int .u8 0) := by kernel_rfl
theorem fu69 : isFuncT Try.prog 69 = true := by kernel_rfl
theorem one69 : oneT Try.prog 69 = true := by kernel_rfl
theorem ze69 : zeroT Try.prog 69 = some .nilFunc := by kernel_rfl
theorem pt70 : isPtrT Try.prog 70 = true := by kernel_rfl
theorem one70 : oneT Try.prog 70 = true := by kernel_rfl
theorem ze70 : zeroT Try.prog 70 = some (.pointer none) := by kernel_rfl
theorem it71 : intT Try.prog 71 = some .i32 := by kernel_rfl
theorem one71 : oneT Try.prog 71 = true := by kernel_rfl
theorem ze71 : zeroT Try.prog 71 = some (.int .i32 0) := by kernel_rfl
theorem it72 : intT Try.prog 72 = some .i32 := by kernel_rfl
theorem one72 : oneT Try.prog 72 = true := by kernel_rfl
theorem ze72 : zeroT Try.prog 72 = some (.int .i32 0) := by kernel_rfl
theorem ag73 : aggT Try.prog 73 11 = true := by kernel_rfl
theorem ze73 : zeroT Try.prog 73 = some (.agg #[(.int .u64 0), (.int .u64 0), (.int .u32 0), (.int .u8 0), (.int .u8 0), (.int .u8 0), (.int .u8 0), .nilFunc, (.pointer none), (.int .i32 0), (.int .i32 0)]) := by kernel_rfl
theorem of73_0 : offT Try.prog 73 0 = some 0 := by kernel_rfl
theorem of73_1 : offT Try.prog 73 1 = some 1 := by kernel_rfl
theorem of73_2 : offT Try.prog 73 2 = some 2 := by kernel_rfl
theorem of73_3 : offT Try.prog 73 3 = some 3 := by kernel_rfl
theorem of73_4 : offT Try.prog 73 4 = some 4 := by kernel_rfl
theorem of73_5 : offT Try.prog 73 5 = some 5 := by kernel_rfl
theorem of73_6 : offT Try.prog 73 6 = some 6 := by kernel_rfl
theorem of73_7 : offT Try.prog 73 7 = some 7 := by kernel_rfl
theorem of73_8 : offT Try.prog 73 8 = some 8 := by kernel_rfl
theorem of73_9 : offT Try.prog 73 9 = some 9 := by kernel_rfl
theorem of73_10 : offT Try.prog 73 10 = some 10 := by kernel_rfl
theorem ag74 : aggT Try.prog 74 11 = true := by kernel_rfl
theorem ze74 : zeroT Try.prog 74 = some (.agg #[(.int .u64 0), (.int .u64 0), (.int .u32 0), (.int .u8 0), (.int .u8 0), (.int .u8 0), (.int .u8 0), .nilFunc, (.pointer none), (.int .i32 0), (.int .i32 0)]) := by kernel_rfl
theorem of74_0 : offT Try.prog 74 0 = some 0 := by kernel_rfl
theorem of74_1 : offT Try.prog 74 1 = some 1 := by kernel_rfl
theorem of74_2 : offT Try.prog 74 2 = some 2 := by kernel_rfl
theorem of74_3 : offT Try.prog 74 3 = some 3 := by kernel_rfl
theorem of74_4 : offT Try.prog 74 4 = some 4 := by kernel_rfl
theorem of74_5 : offT Try.prog 74 5 = some 5 := by kernel_rfl
theorem of74_6 : offT Try.prog 74 6 = some 6 := by kernel_rfl
theorem of74_7 : offT Try.prog 74 7 = some 7 := by kernel_rfl
theorem of74_8 : offT Try.prog 74 8 = some 8 := by kernel_rfl
theorem of74_9 : offT Try.prog 74 9 = some 9 := by kernel_rfl
theorem of74_10 : offT Try.prog 74 10 = some 10 := by kernel_rfl
theorem one75 : oneT Try.prog 75 = true := by kernel_rfl
theorem ln_22_3 (a : Option Addr) (n c : Nat) (Z : List PanicEntry → World → Prop) (w : World) (kk : Value → World → Prop) : run1 Try.prog Z (Builtin.len_ #[22] 3 #[.slice a n c]) w kk = kk (.int .i64 n) w := r1_eq fun w => run_lenS sl22 _ rfl _ a n c w
theorem ln_22_3p (a : Option Addr) (n c : Nat) (kv : Value → Prop) : Pure1 Try.prog (Builtin.len_ #[22] 3 #[.slice a n c]) kv = kv (.int .i64 n) := rp_eq fun w => run_lenS sl22 _ rfl _ a n c w
theorem ln_25_3 (a : Option Addr) (n c : Nat) (Z : List PanicEntry → World → Prop) (w : World) (kk : Value → World → Prop) : run1 Try.prog Z (Builtin.len_ #[25] 3 #[.slice a n c]) w kk = kk (.int .i64 n) w := r1_eq fun w => run_lenS sl25 _ rfl _ a n c w
theorem ln_25_3p (a : Option Addr) (n c : Nat) (kv : Value → Prop) : Pure1 Try.prog (Builtin.len_ #[25] 3 #[.slice a n c]) kv = kv (.int .i64 n) := rp_eq fun w => run_lenS sl25 _ rfl _ a n c w
theorem eqlp_26 (cx cy : Bool) (a : Addr) (Z : List PanicEntry → World → Prop) (w : World) (kk : Value → World → Prop) : run1 Try.prog Z (eqOp .eql 26 cx cy (.pointer (some a)) (.pointer none)) w kk = kk (.bool false) w := r1_eq fun w => run_eql_ptr_nil pt26 cx cy a w
theorem eqlp_26p (cx cy : Bool) (a : Addr) (kv : Value → Prop) : Pure1 Try.prog (eqOp .eql 26 cx cy (.pointer (some a)) (.pointer none)) kv = kv (.bool false) := rp_eq fun w => run_eql_ptr_nil pt26 cx cy a w
theorem eqln_26 (cx cy : Bool) (Z : List PanicEntry → World → Prop) (w : World) (kk : Value → World → Prop) : run1 Try.prog Z (eqOp .eql 26 cx cy (.pointer none) (.pointer none)) w kk = kk (.bool true) w := r1_eq fun w => run_eqlNN pt26 cx cy w
theorem eqln_26p (cx cy : Bool) (kv : Value → Prop) : Pure1 Try.prog (eqOp .eql 26 cx cy (.pointer none) (.pointer none)) kv = kv (.bool true) := rp_eq fun w => run_eqlNN pt26 cx cy w
theorem ln_23_3 (a : Option Addr) (n c : Nat) (Z : List PanicEntry → World → Prop) (w : World) (kk : Value → World → Prop) : run1 Try.prog Z (Builtin.len_ #[23] 3 #[.slice a n c]) w kk = kk (.int .i64 n) w := r1_eq fun w => run_lenS sl23 _ rfl _ a n c w
theorem ln_23_3p (a : Option Addr) (n c : Nat) (kv : Value → Prop) : Pure1 Try.prog (Builtin.len_ #[23] 3 #[.slice a n c]) kv = kv (.int .i64 n) := rp_eq fun w => run_lenS sl23 _ rfl _ a n c w
theorem fa_34_2 (b i : Nat) (Z : List PanicEntry → World → Prop) (w : World) (kk : Value → World → Prop) : run1 Try.prog Z (Instr.fieldAt 34 (.pointer (some ⟨b, i, none⟩)) 2) w kk = kk (.pointer (some ⟨b, i + 2, none⟩)) w := r1_eq fun w => run_fieldAt of34_2 b i w
theorem fa_34_2p (b i : Nat) (kv : Value → Prop) : Pure1 Try.prog (Instr.fieldAt 34 (.pointer (some ⟨b, i, none⟩)) 2) kv = kv (.pointer (some ⟨b, i + 2, none⟩)) := rp_eq fun w => run_fieldAt of34_2 b i w
theorem fa_34_3 (b i : Nat) (Z : List PanicEntry → World → Prop) (w : World) (kk : Value → World → Prop) : run1 Try.prog Z (Instr.fieldAt 34 (.pointer (some ⟨b, i, none⟩)) 3) w kk = kk (.pointer (some ⟨b, i + 3, none⟩)) w := r1_eq fun w => run_fieldAt of34_3 b i w
theorem fa_34_3p (b i : Nat) (kv : Value → Prop) : Pure1 Try.prog (Instr.fieldAt 34 (.pointer (some ⟨b, i, none⟩)) 3) kv = kv (.pointer (some ⟨b, i + 3, none⟩)) := rp_eq fun w => run_fieldAt of34_3 b i w
theorem ln_40_3 (a : Option Addr) (n c : Nat) (Z : List PanicEntry → World → Prop) (w : World) (kk : Value → World → Prop) : run1 Try.prog Z (Builtin.len_ #[40] 3 #[.slice a n c]) w kk = kk (.int .i64 n) w := r1_eq fun w => run_lenS sl40 _ rfl _ a n c w
theorem ln_40_3p (a : Option Addr) (n c : Nat) (kv : Value → Prop) : Pure1 Try.prog (Builtin.len_ #[40] 3 #[.slice a n c]) kv = kv (.int .i64 n) := rp_eq fun w => run_lenS sl40 _ rfl _ a n c w
theorem fa_43_0 (b i : Nat) (Z : List PanicEntry → World → Prop) (w : World) (kk : Value → World → Prop) : run1 Try.prog Z (Instr.fieldAt 43 (.pointer (some ⟨b, i, none⟩)) 0) w kk = kk (.pointer (some ⟨b, i + 0, none⟩)) w := r1_eq fun w => run_fieldAt of43_0 b i w
theorem fa_43_0p (b i : Nat) (kv : Value → Prop) : Pure1 Try.prog (Instr.fieldAt 43 (.pointer (some ⟨b, i, none⟩)) 0) kv = kv (.pointer (some ⟨b, i + 0, none⟩)) := rp_eq fun w => run_fieldAt of43_0 b i w
theorem fa_43_2 (b i : Nat) (Z : List PanicEntry → World → Prop) (w : World) (kk : Value → World → Prop) : run1 Try.prog Z (Instr.fieldAt 43 (.pointer (some ⟨b, i, none⟩)) 2) w kk = kk (.pointer (some ⟨b, i + 2, none⟩)) w := r1_eq fun w => run_fieldAt of43_2 b i w
theorem fa_43_2p (b i : Nat) (kv : Value → Prop) : Pure1 Try.prog (Instr.fieldAt 43 (.pointer (some ⟨b, i, none⟩)) 2) kv = kv (.pointer (some ⟨b, i + 2, none⟩)) := rp_eq fun w => run_fieldAt of43_2 b i w
theorem fa_43_3 (b i : Nat) (Z : List PanicEntry → World → Prop) (w : World) (kk : Value → World → Prop) : run1 Try.prog Z (Instr.fieldAt 43 (.pointer (some ⟨b, i, none⟩)) 3) w kk = kk (.pointer (some ⟨b, i + 3, none⟩)) w := r1_eq fun w => run_fieldAt of43_3 b i w
theorem fa_43_3p (b i : Nat) (kv : Value → Prop) : Pure1 Try.prog (Instr.fieldAt 43 (.pointer (some ⟨b, i, none⟩)) 3) kv = kv (.pointer (some ⟨b, i + 3, none⟩)) := rp_eq fun w => run_fieldAt of43_3 b i w
theorem fa_43_4 (b i : Nat) (Z : List PanicEntry → World → Prop) (w : World) (kk : Value → World → Prop) : run1 Try.prog Z (Instr.fieldAt 43 (.pointer (some ⟨b, i, none⟩)) 4) w kk = kk (.pointer (some ⟨b, i + 4, none⟩)) w := r1_eq fun w => run_fieldAt of43_4 b i w
theorem fa_43_4p (b i : Nat) (kv : Value → Prop) : Pure1 Try.prog (Instr.fieldAt 43 (.pointer (some ⟨b, i, none⟩)) 4) kv = kv (.pointer (some ⟨b, i + 4, none⟩)) := rp_eq fun w => run_fieldAt of43_4 b i w
theorem fa_43_5 (b i : Nat) (Z : List PanicEntry → World → Prop) (w : World) (kk : Value → World → Prop) : run1 Try.prog Z (Instr.fieldAt 43 (.pointer (some ⟨b, i, none⟩)) 5) w kk = kk (.pointer (some ⟨b, i + 5, none⟩)) w := r1_eq fun w => run_fieldAt of43_5 b i w
theorem fa_43_5p (b i : Nat) (kv : Value → Prop) : Pure1 Try.prog (Instr.fieldAt 43 (.pointer (some ⟨b, i, none⟩)) 5) kv = kv (.pointer (some ⟨b, i + 5, none⟩)) := rp_eq fun w => run_fieldAt of43_5 b i w
theorem fa_43_6 (b i : Nat) (Z : List PanicEntry → World → Prop) (w : World) (kk : Value → World → Prop) : run1 Try.prog Z (Instr.fieldAt 43 (.pointer (some ⟨b, i, none⟩)) 6) w kk = kk (.pointer (some ⟨b, i + 6, none⟩)) w := r1_eq fun w => run_fieldAt of43_6 b i w
theorem fa_43_6p (b i : Nat) (kv : Value → Prop) : Pure1 Try.prog (Instr.fieldAt 43 (.pointer (some ⟨b, i, none⟩)) 6) kv = kv (.pointer (some ⟨b, i + 6, none⟩)) := rp_eq fun w => run_fieldAt of43_6 b i w
theorem fa_43_7 (b i : Nat) (Z : List PanicEntry → World → Prop) (w : World) (kk : Value → World → Prop) : run1 Try.prog Z (Instr.fieldAt 43 (.pointer (some ⟨b, i, none⟩)) 7) w kk = kk (.pointer (some ⟨b, i + 7, none⟩)) w := r1_eq fun w => run_fieldAt of43_7 b i w
theorem fa_43_7p (b i : Nat) (kv : Value → Prop) : Pure1 Try.prog (Instr.fieldAt 43 (.pointer (some ⟨b, i, none⟩)) 7) kv = kv (.pointer (some ⟨b, i + 7, none⟩)) := rp_eq fun w => run_fieldAt of43_7 b i w
theorem fa_34_0 (b i : Nat) (Z : List PanicEntry → World → Prop) (w : World) (kk : Value → World → Prop) : run1 Try.prog Z (Instr.fieldAt 34 (.pointer (some ⟨b, i, none⟩)) 0) w kk = kk (.pointer (some ⟨b, i + 0, none⟩)) w := r1_eq fun w => run_fieldAt of34_0 b i w
theorem fa_34_0p (b i : Nat) (kv : Value → Prop) : Pure1 Try.prog (Instr.fieldAt 34 (.pointer (some ⟨b, i, none⟩)) 0) kv = kv (.pointer (some ⟨b, i + 0, none⟩)) := rp_eq fun w => run_fieldAt of34_0 b i w
theorem fa_34_1 (b i : Nat) (Z : List PanicEntry → World → Prop) (w : World) (kk : Value → World → Prop) : run1 Try.prog Z (Instr.fieldAt 34 (.pointer (some ⟨b, i, none⟩)) 1) w kk = kk (.pointer (some ⟨b, i + 1, none⟩)) w := r1_eq fun w => run_fieldAt of34_1 b i w
theorem fa_34_1p (b i : Nat) (kv : Value → Prop) : Pure1 Try.prog (Instr.fieldAt 34 (.pointer (some ⟨b, i, none⟩)) 1) kv = kv (.pointer (some ⟨b, i + 1, none⟩)) := rp_eq fun w => run_fieldAt of34_1 b i w
theorem fa_51_1 (b i : Nat) (Z : List PanicEntry → World → Prop) (w : World) (kk : Value → World → Prop) : run1 Try.prog Z (Instr.fieldAt 51 (.pointer (some ⟨b, i, none⟩)) 1) w kk = kk (.pointer (some ⟨b, i + 1, none⟩)) w := r1_eq fun w => run_fieldAt of51_1 b i w
theorem fa_51_1p (b i : Nat) (kv : Value → Prop) : Pure1 Try.prog (Instr.fieldAt 51 (.pointer (some ⟨b, i, none⟩)) 1) kv = kv (.pointer (some ⟨b, i + 1, none⟩)) := rp_eq fun w => run_fieldAt of51_1 b i w
theorem ln_49_3 (a : Option Addr) (n c : Nat) (Z : List PanicEntry → World → Prop) (w : World) (kk : Value → World → Prop) : run1 Try.prog Z (Builtin.len_ #[49] 3 #[.slice a n c]) w kk = kk (.int .i64 n) w := r1_eq fun w => run_lenS sl49 _ rfl _ a n c w
theorem ln_49_3p (a : Option Addr) (n c : Nat) (kv : Value → Prop) : Pure1 Try.prog (Builtin.len_ #[49] 3 #[.slice a n c]) kv = kv (.int .i64 n) := rp_eq fun w => run_lenS sl49 _ rfl _ a n c w
theorem fa_51_0 (b i : Nat) (Z : List PanicEntry → World → Prop) (w : World) (kk : Value → World → Prop) : run1 Try.prog Z (Instr.fieldAt 51 (.pointer (some ⟨b, i, none⟩)) 0) w kk = kk (.pointer (some ⟨b, i + 0, none⟩)) w := r1_eq fun w => run_fieldAt of51_0 b i w
theorem fa_51_0p (b i : Nat) (kv : Value → Prop) : Pure1 Try.prog (Instr.fieldAt 51 (.pointer (some ⟨b, i, none⟩)) 0) kv = kv (.pointer (some ⟨b, i + 0, none⟩)) := rp_eq fun w => run_fieldAt of51_0 b i w
theorem cv_31_3 (q : IntKind) (n : Int) (Z : List PanicEntry → World → Prop) (w : World) (kk : Value → World → Prop) : run1 Try.prog Z (convert 31 3 (.int q n)) w kk = kk (.int .i64 (IntKind.i64.wrap n)) w := r1_eq fun w => run_conv_int (by kernel_rfl) it3 q n w
theorem cv_31_3p (q : IntKind) (n : Int) (kv : Value → Prop) : Pure1 Try.prog (convert 31 3 (.int q n)) kv = kv (.int .i64 (IntKind.i64.wrap n)) := rp_eq fun w => run_conv_int (by kernel_rfl) it3 q n w
theorem neqb_4 (cx cy a b : Bool) (Z : List PanicEntry → World → Prop) (w : World) (kk : Value → World → Prop) : run1 Try.prog Z (eqOp .neq 4 cx cy (.bool a) (.bool b)) w kk = kk (.bool (a != b)) w := r1_eq fun w => run_neq_boolV bo4 cx cy a b w
theorem neqb_4p (cx cy a b : Bool) (kv : Value → Prop) : Pure1 Try.prog (eqOp .neq 4 cx cy (.bool a) (.bool b)) kv = kv (.bool (a != b)) := rp_eq fun w => run_neq_boolV bo4 cx cy a b w
theorem o_add (t : TypeId) (k : IntKind) (x y : Int) (Z : List PanicEntry → World → Prop) (w : World) (kk : Value → World → Prop) : run1 Try.prog Z (binOp .add t (.int k x) (.int k y)) w kk = kk (.int k (k.wrap (x + y))) w := r1_eq fun w => run_add _ w t k x y
theorem o_addp (t : TypeId) (k : IntKind) (x y : Int) (kv : Value → Prop) : Pure1 Try.prog (binOp .add t (.int k x) (.int k y)) kv = kv (.int k (k.wrap (x + y))) := rp_eq fun w => run_add _ w t k x y
theorem o_sub (t : TypeId) (k : IntKind) (x y : Int) (Z : List PanicEntry → World → Prop) (w : World) (kk : Value → World → Prop) : run1 Try.prog Z (binOp .sub t (.int k x) (.int k y)) w kk = kk (.int k (k.wrap (x - y))) w := r1_eq fun w => run_sub _ w t k x y
theorem o_subp (t : TypeId) (k : IntKind) (x y : Int) (kv : Value → Prop) : Pure1 Try.prog (binOp .sub t (.int k x) (.int k y)) kv = kv (.int k (k.wrap (x - y))) := rp_eq fun w => run_sub _ w t k x y
theorem o_mul (t : TypeId) (k : IntKind) (x y : Int) (Z : List PanicEntry → World → Prop) (w : World) (kk : Value → World → Prop) : run1 Try.prog Z (binOp .mul t (.int k x) (.int k y)) w kk = kk (.int k (k.wrap (x * y))) w := r1_eq fun w => run_mul _ w t k x y
theorem o_mulp (t : TypeId) (k : IntKind) (x y : Int) (kv : Value → Prop) : Pure1 Try.prog (binOp .mul t (.int k x) (.int k y)) kv = kv (.int k (k.wrap (x * y))) := rp_eq fun w => run_mul _ w t k x y
theorem o_lss (t : TypeId) (k : IntKind) (x y : Int) (Z : List PanicEntry → World → Prop) (w : World) (kk : Value → World → Prop) : run1 Try.prog Z (binOp .lss t (.int k x) (.int k y)) w kk = kk (.bool (decide (x < y))) w := r1_eq fun w => run_lss _ w t k x y
theorem o_lssp (t : TypeId) (k : IntKind) (x y : Int) (kv : Value → Prop) : Pure1 Try.prog (binOp .lss t (.int k x) (.int k y)) kv = kv (.bool (decide (x < y))) := rp_eq fun w => run_lss _ w t k x y
theorem o_leq (t : TypeId) (k : IntKind) (x y : Int) (Z : List PanicEntry → World → Prop) (w : World) (kk : Value → World → Prop) : run1 Try.prog Z (binOp .leq t (.int k x) (.int k y)) w kk = kk (.bool (decide (x ≤ y))) w := r1_eq fun w => run_leq _ w t k x y
theorem o_leqp (t : TypeId) (k : IntKind) (x y : Int) (kv : Value → Prop) : Pure1 Try.prog (binOp .leq t (.int k x) (.int k y)) kv = kv (.bool (decide (x ≤ y))) := rp_eq fun w => run_leq _ w t k x y
theorem o_gtr (t : TypeId) (k : IntKind) (x y : Int) (Z : List PanicEntry → World → Prop) (w : World) (kk : Value → World → Prop) : run1 Try.prog Z (binOp .gtr t (.int k x) (.int k y)) w kk = kk (.bool (decide (y < x))) w := r1_eq fun w => run_gtr _ w t k x y
theorem o_gtrp (t : TypeId) (k : IntKind) (x y : Int) (kv : Value → Prop) : Pure1 Try.prog (binOp .gtr t (.int k x) (.int k y)) kv = kv (.bool (decide (y < x))) := rp_eq fun w => run_gtr _ w t k x y
theorem o_geq (t : TypeId) (k : IntKind) (x y : Int) (Z : List PanicEntry → World → Prop) (w : World) (kk : Value → World → Prop) : run1 Try.prog Z (binOp .geq t (.int k x) (.int k y)) w kk = kk (.bool (decide (y ≤ x))) w := r1_eq fun w => run_geq _ w t k x y
theorem o_geqp (t : TypeId) (k : IntKind) (x y : Int) (kv : Value → Prop) : Pure1 Try.prog (binOp .geq t (.int k x) (.int k y)) kv = kv (.bool (decide (y ≤ x))) := rp_eq fun w => run_geq _ w t k x y
theorem o_eql (t : TypeId) (cx cy : Bool) (k : IntKind) (x y : Int) (Z : List PanicEntry → World → Prop) (w : World) (kk : Value → World → Prop) : run1 Try.prog Z (eqOp .eql t cx cy (.int k x) (.int k y)) w kk = kk (.bool (x == y)) w := r1_eq fun w => run_eql_int _ w t cx cy k x y
theorem o_eqlp (t : TypeId) (cx cy : Bool) (k : IntKind) (x y : Int) (kv : Value → Prop) : Pure1 Try.prog (eqOp .eql t cx cy (.int k x) (.int k y)) kv = kv (.bool (x == y)) := rp_eq fun w => run_eql_int _ w t cx cy k x y
theorem o_neq (t : TypeId) (cx cy : Bool) (k : IntKind) (x y : Int) (Z : List PanicEntry → World → Prop) (w : World) (kk : Value → World → Prop) : run1 Try.prog Z (eqOp .neq t cx cy (.int k x) (.int k y)) w kk = kk (.bool (x != y)) w := r1_eq fun w => run_neq_int _ w t cx cy k x y
theorem o_neqp (t : TypeId) (cx cy : Bool) (k : IntKind) (x y : Int) (kv : Value → Prop) : Pure1 Try.prog (eqOp .neq t cx cy (.int k x) (.int k y)) kv = kv (.bool (x != y)) := rp_eq fun w => run_neq_int _ w t cx cy k x y
theorem os_eql (t : TypeId) (cx cy : Bool) (a b : ByteArray) (Z : List PanicEntry → World → Prop) (w : World) (kk : Value → World → Prop) : run1 Try.prog Z (eqOp .eql t cx cy (.string a) (.string b)) w kk = kk (.bool ((a.toList == b.toList))) w := r1_eq fun w => run_eql_str t cx cy a b w
theorem os_eqlp (t : TypeId) (cx cy : Bool) (a b : ByteArray) (kv : Value → Prop) : Pure1 Try.prog (eqOp .eql t cx cy (.string a) (.string b)) kv = kv (.bool ((a.toList == b.toList))) := rp_eq fun w => run_eql_str t cx cy a b w
theorem os_neq (t : TypeId) (cx cy : Bool) (a b : ByteArray) (Z : List PanicEntry → World → Prop) (w : World) (kk : Value → World → Prop) : run1 Try.prog Z (eqOp .neq t cx cy (.string a) (.string b)) w kk = kk (.bool (!(a.toList == b.toList))) w := r1_eq fun w => run_neq_str t cx cy a b w
theorem os_neqp (t : TypeId) (cx cy : Bool) (a b : ByteArray) (kv : Value → Prop) : Pure1 Try.prog (eqOp .neq t cx cy (.string a) (.string b)) kv = kv (.bool (!(a.toList == b.toList))) := rp_eq fun w => run_neq_str t cx cy a b w
theorem o_and (t : TypeId) (k : IntKind) (x y : Int) (Z : List PanicEntry → World → Prop) (w : World) (kk : Value → World → Prop) : run1 Try.prog Z (binOp .and t (.int k x) (.int k y)) w kk = kk (.int k (k.wrap (BitVec.ofInt k.bits x &&& BitVec.ofInt k.bits y).toNat)) w := r1_eq fun w => run_and _ w t k x y
theorem o_andp (t : TypeId) (k : IntKind) (x y : Int) (kv : Value → Prop) : Pure1 Try.prog (binOp .and t (.int k x) (.int k y)) kv = kv (.int k (k.wrap (BitVec.ofInt k.bits x &&& BitVec.ofInt k.bits y).toNat)) := rp_eq fun w => run_and _ w t k x y
theorem o_or (t : TypeId) (k : IntKind) (x y : Int) (Z : List PanicEntry → World → Prop) (w : World) (kk : Value → World → Prop) : run1 Try.prog Z (binOp .or t (.int k x) (.int k y)) w kk = kk (.int k (k.wrap (BitVec.ofInt k.bits x ||| BitVec.ofInt k.bits y).toNat)) w := r1_eq fun w => run_or _ w t k x y
theorem o_orp (t : TypeId) (k : IntKind) (x y : Int) (kv : Value → Prop) : Pure1 Try.prog (binOp .or t (.int k x) (.int k y)) kv = kv (.int k (k.wrap (BitVec.ofInt k.bits x ||| BitVec.ofInt k.bits y).toNat)) := rp_eq fun w => run_or _ w t k x y
theorem o_xor (t : TypeId) (k : IntKind) (x y : Int) (Z : List PanicEntry → World → Prop) (w : World) (kk : Value → World → Prop) : run1 Try.prog Z (binOp .xor t (.int k x) (.int k y)) w kk = kk (.int k (k.wrap (BitVec.ofInt k.bits x ^^^ BitVec.ofInt k.bits y).toNat)) w := r1_eq fun w => run_xor _ w t k x y
theorem o_xorp (t : TypeId) (k : IntKind) (x y : Int) (kv : Value → Prop) : Pure1 Try.prog (binOp .xor t (.int k x) (.int k y)) kv = kv (.int k (k.wrap (BitVec.ofInt k.bits x ^^^ BitVec.ofInt k.bits y).toNat)) := rp_eq fun w => run_xor _ w t k x y
theorem o_not (b : Bool) (Z : List PanicEntry → World → Prop) (w : World) (kk : Value → World → Prop) : run1 Try.prog Z (Op.unary .not (.bool b)) w kk = kk (.bool !b) w := r1_eq fun w => run_not _ w b
theorem o_notp (b : Bool) (kv : Value → Prop) : Pure1 Try.prog (Op.unary .not (.bool b)) kv = kv (.bool !b) := rp_eq fun w => run_not _ w b
theorem o_pickT (x y : Value) (Z : List PanicEntry → World → Prop) (w : World) (kk : Value → World → Prop) : run1 Try.prog Z (pickV (.bool true) x y) w kk = kk x w := r1_eq fun w => run_pick _ w true x y
theorem o_pickTp (x y : Value) (kv : Value → Prop) : Pure1 Try.prog (pickV (.bool true) x y) kv = kv x := rp_eq fun w => run_pick _ w true x y
theorem o_pickF (x y : Value) (Z : List PanicEntry → World → Prop) (w : World) (kk : Value → World → Prop) : run1 Try.prog Z (pickV (.bool false) x y) w kk = kk y w := r1_eq fun w => run_pick _ w false x y
theorem o_pickFp (x y : Value) (kv : Value → Prop) : Pure1 Try.prog (pickV (.bool false) x y) kv = kv y := rp_eq fun w => run_pick _ w false x y
theorem o_ext1_0 (v0 : Value) (Z : List PanicEntry → World → Prop) (w : World) (kk : Value → World → Prop) : run1 Try.prog Z (Instr.extract (.tuple #[v0]) 0) w kk = kk v0 w := r1_eq fun w => run_extract _ w _ 0 _ rfl
theorem o_ext1_0p (v0 : Value) (kv : Value → Prop) : Pure1 Try.prog (Instr.extract (.tuple #[v0]) 0) kv = kv v0 := rp_eq fun w => run_extract _ w _ 0 _ rfl
theorem o_ext2_0 (v0 v1 : Value) (Z : List PanicEntry → World → Prop) (w : World) (kk : Value → World → Prop) : run1 Try.prog Z (Instr.extract (.tuple #[v0, v1]) 0) w kk = kk v0 w := r1_eq fun w => run_extract _ w _ 0 _ rfl
theorem o_ext2_0p (v0 v1 : Value) (kv : Value → Prop) : Pure1 Try.prog (Instr.extract (.tuple #[v0, v1]) 0) kv = kv v0 := rp_eq fun w => run_extract _ w _ 0 _ rfl
theorem o_ext2_1 (v0 v1 : Value) (Z : List PanicEntry → World → Prop) (w : World) (kk : Value → World → Prop) : run1 Try.prog Z (Instr.extract (.tuple #[v0, v1]) 1) w kk = kk v1 w := r1_eq fun w => run_extract _ w _ 1 _ rfl
theorem o_ext2_1p (v0 v1 : Value) (kv : Value → Prop) : Pure1 Try.prog (Instr.extract (.tuple #[v0, v1]) 1) kv = kv v1 := rp_eq fun w => run_extract _ w _ 1 _ rfl
theorem o_ext3_0 (v0 v1 v2 : Value) (Z : List PanicEntry → World → Prop) (w : World) (kk : Value → World → Prop) : run1 Try.prog Z (Instr.extract (.tuple #[v0, v1, v2]) 0) w kk = kk v0 w := r1_eq fun w => run_extract _ w _ 0 _ rfl
theorem o_ext3_0p (v0 v1 v2 : Value) (kv : Value → Prop) : Pure1 Try.prog (Instr.extract (.tuple #[v0, v1, v2]) 0) kv = kv v0 := rp_eq fun w => run_extract _ w _ 0 _ rfl
theorem o_ext3_1 (v0 v1 v2 : Value) (Z : List PanicEntry → World → Prop) (w : World) (kk : Value → World → Prop) : run1 Try.prog Z (Instr.extract (.tuple #[v0, v1, v2]) 1) w kk = kk v1 w := r1_eq fun w => run_extract _ w _ 1 _ rfl
theorem o_ext3_1p (v0 v1 v2 : Value) (kv : Value → Prop) : Pure1 Try.prog (Instr.extract (.tuple #[v0, v1, v2]) 1) kv = kv v1 := rp_eq fun w => run_extract _ w _ 1 _ rfl
theorem o_ext3_2 (v0 v1 v2 : Value) (Z : List PanicEntry → World → Prop) (w : World) (kk : Value → World → Prop) : run1 Try.prog Z (Instr.extract (.tuple #[v0, v1, v2]) 2) w kk = kk v2 w := r1_eq fun w => run_extract _ w _ 2 _ rfl
theorem o_ext3_2p (v0 v1 v2 : Value) (kv : Value → Prop) : Pure1 Try.prog (Instr.extract (.tuple #[v0, v1, v2]) 2) kv = kv v2 := rp_eq fun w => run_extract _ w _ 2 _ rfl
theorem o_ext4_0 (v0 v1 v2 v3 : Value) (Z : List PanicEntry → World → Prop) (w : World) (kk : Value → World → Prop) : run1 Try.prog Z (Instr.extract (.tuple #[v0, v1, v2, v3]) 0) w kk = kk v0 w := r1_eq fun w => run_extract _ w _ 0 _ rfl
theorem o_ext4_0p (v0 v1 v2 v3 : Value) (kv : Value → Prop) : Pure1 Try.prog (Instr.extract (.tuple #[v0, v1, v2, v3]) 0) kv = kv v0 := rp_eq fun w => run_extract _ w _ 0 _ rfl
theorem o_ext4_1 (v0 v1 v2 v3 : Value) (Z : List PanicEntry → World → Prop) (w : World) (kk : Value → World → Prop) : run1 Try.prog Z (Instr.extract (.tuple #[v0, v1, v2, v3]) 1) w kk = kk v1 w := r1_eq fun w => run_extract _ w _ 1 _ rfl
theorem o_ext4_1p (v0 v1 v2 v3 : Value) (kv : Value → Prop) : Pure1 Try.prog (Instr.extract (.tuple #[v0, v1, v2, v3]) 1) kv = kv v1 := rp_eq fun w => run_extract _ w _ 1 _ rfl
theorem o_ext4_2 (v0 v1 v2 v3 : Value) (Z : List PanicEntry → World → Prop) (w : World) (kk : Value → World → Prop) : run1 Try.prog Z (Instr.extract (.tuple #[v0, v1, v2, v3]) 2) w kk = kk v2 w := r1_eq fun w => run_extract _ w _ 2 _ rfl
theorem o_ext4_2p (v0 v1 v2 v3 : Value) (kv : Value → Prop) : Pure1 Try.prog (Instr.extract (.tuple #[v0, v1, v2, v3]) 2) kv = kv v2 := rp_eq fun w => run_extract _ w _ 2 _ rfl
theorem o_ext4_3 (v0 v1 v2 v3 : Value) (Z : List PanicEntry → World → Prop) (w : World) (kk : Value → World → Prop) : run1 Try.prog Z (Instr.extract (.tuple #[v0, v1, v2, v3]) 3) w kk = kk v3 w := r1_eq fun w => run_extract _ w _ 3 _ rfl
theorem o_ext4_3p (v0 v1 v2 v3 : Value) (kv : Value → Prop) : Pure1 Try.prog (Instr.extract (.tuple #[v0, v1, v2, v3]) 3) kv = kv v3 := rp_eq fun w => run_extract _ w _ 3 _ rfl
theorem o_ext5_0 (v0 v1 v2 v3 v4 : Value) (Z : List PanicEntry → World → Prop) (w : World) (kk : Value → World → Prop) : run1 Try.prog Z (Instr.extract (.tuple #[v0, v1, v2, v3, v4]) 0) w kk = kk v0 w := r1_eq fun w => run_extract _ w _ 0 _ rfl
theorem o_ext5_0p (v0 v1 v2 v3 v4 : Value) (kv : Value → Prop) : Pure1 Try.prog (Instr.extract (.tuple #[v0, v1, v2, v3, v4]) 0) kv = kv v0 := rp_eq fun w => run_extract _ w _ 0 _ rfl
theorem o_ext5_1 (v0 v1 v2 v3 v4 : Value) (Z : List PanicEntry → World → Prop) (w : World) (kk : Value → World → Prop) : run1 Try.prog Z (Instr.extract (.tuple #[v0, v1, v2, v3, v4]) 1) w kk = kk v1 w := r1_eq fun w => run_extract _ w _ 1 _ rfl
theorem o_ext5_1p (v0 v1 v2 v3 v4 : Value) (kv : Value → Prop) : Pure1 Try.prog (Instr.extract (.tuple #[v0, v1, v2, v3, v4]) 1) kv = kv v1 := rp_eq fun w => run_extract _ w _ 1 _ rfl
theorem o_ext5_2 (v0 v1 v2 v3 v4 : Value) (Z : List PanicEntry → World → Prop) (w : World) (kk : Value → World → Prop) : run1 Try.prog Z (Instr.extract (.tuple #[v0, v1, v2, v3, v4]) 2) w kk = kk v2 w := r1_eq fun w => run_extract _ w _ 2 _ rfl
theorem o_ext5_2p (v0 v1 v2 v3 v4 : Value) (kv : Value → Prop) : Pure1 Try.prog (Instr.extract (.tuple #[v0, v1, v2, v3, v4]) 2) kv = kv v2 := rp_eq fun w => run_extract _ w _ 2 _ rfl
theorem o_ext5_3 (v0 v1 v2 v3 v4 : Value) (Z : List PanicEntry → World → Prop) (w : World) (kk : Value → World → Prop) : run1 Try.prog Z (Instr.extract (.tuple #[v0, v1, v2, v3, v4]) 3) w kk = kk v3 w := r1_eq fun w => run_extract _ w _ 3 _ rfl
theorem o_ext5_3p (v0 v1 v2 v3 v4 : Value) (kv : Value → Prop) : Pure1 Try.prog (Instr.extract (.tuple #[v0, v1, v2, v3, v4]) 3) kv = kv v3 := rp_eq fun w => run_extract _ w _ 3 _ rfl
theorem o_ext5_4 (v0 v1 v2 v3 v4 : Value) (Z : List PanicEntry → World → Prop) (w : World) (kk : Value → World → Prop) : run1 Try.prog Z (Instr.extract (.tuple #[v0, v1, v2, v3, v4]) 4) w kk = kk v4 w := r1_eq fun w => run_extract _ w _ 4 _ rfl
theorem o_ext5_4p (v0 v1 v2 v3 v4 : Value) (kv : Value → Prop) : Pure1 Try.prog (Instr.extract (.tuple #[v0, v1, v2, v3, v4]) 4) kv = kv v4 := rp_eq fun w => run_extract _ w _ 4 _ rfl
theorem o_max (ts : Array TypeId) (t : TypeId) (k k' : IntKind) (x y : Int) (Z : List PanicEntry → World → Prop) (w : World) (kk : Value → World → Prop) : run1 Try.prog Z (Builtin.max_ ts t #[.int k x, .int k' y]) w kk = kk (.int k (max x y)) w := r1_eq fun w => run_maxV ts t k k' x y w
theorem o_maxp (ts : Array TypeId) (t : TypeId) (k k' : IntKind) (x y : Int) (kv : Value → Prop) : Pure1 Try.prog (Builtin.max_ ts t #[.int k x, .int k' y]) kv = kv (.int k (max x y)) := rp_eq fun w => run_maxV ts t k k' x y w
theorem o_min (ts : Array TypeId) (t : TypeId) (k k' : IntKind) (x y : Int) (Z : List PanicEntry → World → Prop) (w : World) (kk : Value → World → Prop) : run1 Try.prog Z (Builtin.min_ ts t #[.int k x, .int k' y]) w kk = kk (.int k (min x y)) w := r1_eq fun w => run_minV ts t k k' x y w
theorem o_minp (ts : Array TypeId) (t : TypeId) (k k' : IntKind) (x y : Int) (kv : Value → Prop) : Pure1 Try.prog (Builtin.min_ ts t #[.int k x, .int k' y]) kv = kv (.int k (min x y)) := rp_eq fun w => run_minV ts t k k' x y w
theorem o_fn (fn : Fn) (a b : Array Value) (Z : List PanicEntry → World → Prop) (w : World) (kk : Value → World → Prop) : run1 Try.prog Z (Instr.makeFunc fn a b) w kk = kk (.func fn a b) w := r1_eq fun w => run_makeFunc _ w fn a b
theorem o_fnp (fn : Fn) (a b : Array Value) (kv : Value → Prop) : Pure1 Try.prog (Instr.makeFunc fn a b) kv = kv (.func fn a b) := rp_eq fun w => run_makeFunc _ w fn a b
theorem o_chk (a : Addr) (Z : List PanicEntry → World → Prop) (w : World) (kk : Value → World → Prop) : runX Try.prog Z (nilChk (.pointer (some a))) w kk = kk (.pointer (some a)) w := rX_eq fun w => run_nilChk _ w a
theorem o_chkp (a : Addr) (kv : Value → Prop) : PureV Try.prog (nilChk (.pointer (some a))) kv = kv (.pointer (some a)) := rpV_eq fun w => run_nilChk _ w a
end Go.Proofs.Ytejenmcjfhdcdaa
