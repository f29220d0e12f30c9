import Derived.Test.YtpdehbbkpekoiaaGreatDoorShOpen
import Derived.Test.YtpdehbbkpekoiaaGreatDoorProg
set_option linter.unusedVariables false
namespace Go.Proofs.YtpdehbbkpekoiaaGreatDoor
open Go.Sh
theorem it2 : intT Tryz.prog 2 = some .i64 := by kernel_rfl
theorem one2 : oneT Tryz.prog 2 = true := by kernel_rfl
theorem it3 : intT Tryz.prog 3 = some .i64 := by kernel_rfl
theorem one3 : oneT Tryz.prog 3 = true := by kernel_rfl
theorem bo4 : isBoolT Tryz.prog 4 = true := by kernel_rfl
theorem one4 : oneT Tryz.prog 4 = true := by kernel_rfl
theorem it5 : intT Tryz.prog 5 = some .u8 := by kernel_rfl
theorem one5 : oneT Tryz.prog 5 = true := by kernel_rfl
theorem st9 : isStrT Tryz.prog 9 = true := by kernel_rfl
theorem one9 : oneT Tryz.prog 9 = true := by kernel_rfl
theorem it21 : intT Tryz.prog 21 = some .i32 := by kernel_rfl
theorem one21 : oneT Tryz.prog 21 = true := by kernel_rfl
theorem it22 : intT Tryz.prog 22 = some .u32 := by kernel_rfl
theorem one22 : oneT Tryz.prog 22 = true := by kernel_rfl
theorem ag24 : aggT Tryz.prog 24 2 = true := by kernel_rfl
theorem ze24 : zeroT Tryz.prog 24 = some (.agg #[(.int .u32 0), (.int .u32 0)]) := by kernel_rfl
theorem of24_0 : offT Tryz.prog 24 0 = some 0 := by kernel_rfl
theorem of24_1 : offT Tryz.prog 24 1 = some 1 := by kernel_rfl
theorem it25 : intT Tryz.prog 25 = some .i8 := by kernel_rfl
theorem one25 : oneT Tryz.prog 25 = true := by kernel_rfl
theorem ag27 : aggT Tryz.prog 27 3 = true := by kernel_rfl
theorem of27_0 : offT Tryz.prog 27 0 = some 0 := by kernel_rfl
theorem of27_1 : offT Tryz.prog 27 1 = some 1 := by kernel_rfl
theorem of27_2 : offT Tryz.prog 27 2 = some 2 := by kernel_rfl
theorem sl28 : isSliceT Tryz.prog 28 = true := by kernel_rfl
theorem one28 : oneT Tryz.prog 28 = true := by kernel_rfl
theorem el28 : El Tryz.prog 28 5 1 1 (.int .u8 0) := ⟨Tryz.underlying28, by kernel_rfl, by kernel_rfl, by decide⟩
theorem sl29 : isSliceT Tryz.prog 29 = true := by kernel_rfl
theorem one29 : oneT Tryz.prog 29 = true := by kernel_rfl
theorem el29 : El Tryz.prog 29 122 3 40 (.agg #[(.int .i8 0), (.string ByteArray.empty), (.string ByteArray.empty)]) := ⟨Tryz.underlying29, by kernel_rfl, by kernel_rfl, by decide⟩
theorem sl30 : isSliceT Tryz.prog 30 = true := by kernel_rfl
theorem one30 : oneT Tryz.prog 30 = true := by kernel_rfl
theorem el30 : El Tryz.prog 30 120 2 32 (.agg #[(.string ByteArray.empty), (.string ByteArray.empty)]) := ⟨Tryz.underlying30, by kernel_rfl, by kernel_rfl, by decide⟩
theorem sl31 : isSliceT Tryz.prog 31 = true := by kernel_rfl
theorem one31 : oneT Tryz.prog 31 = true := by kernel_rfl
theorem el31 : El Tryz.prog 31 33 11 144 (.agg #[(.int .i8 0), (.string ByteArray.empty), (.slice none 0 0), (.slice none 0 0), (.int .i32 0), (.bool false), (.bool false), (.int .i64 0), (.int .i32 0), (.slice none 0 0), (.slice none 0 0)]) := ⟨Tryz.underlying31, by kernel_rfl, by kernel_rfl, by decide⟩
theorem ag33 : aggT Tryz.prog 33 11 = true := by kernel_rfl
theorem ze33 : zeroT Tryz.prog 33 = some (.agg #[(.int .i8 0), (.string ByteArray.empty), (.slice none 0 0), (.slice none 0 0), (.int .i32 0), (.bool false), (.bool false), (.int .i64 0), (.int .i32 0), (.slice none 0 0), (.slice none 0 0)]) := by kernel_rfl
theorem of33_0 : offT Tryz.prog 33 0 = some 0 := by kernel_rfl
theorem of33_1 : offT Tryz.prog 33 1 = some 1 := by kernel_rfl
theorem of33_2 : offT Tryz.prog 33 2 = some 2 := by kernel_rfl
theorem of33_3 : offT Tryz.prog 33 3 = some 3 := by kernel_rfl
theorem of33_4 : offT Tryz.prog 33 4 = some 4 := by kernel_rfl
theorem of33_5 : offT Tryz.prog 33 5 = some 5 := by kernel_rfl
theorem of33_6 : offT Tryz.prog 33 6 = some 6 := by kernel_rfl
theorem of33_7 : offT Tryz.prog 33 7 = some 7 := by kernel_rfl
theorem of33_8 : offT Tryz.prog 33 8 = some 8 := by kernel_rfl
theorem of33_9 : offT Tryz.prog 33 9 = some 9 := by kernel_rfl
theorem of33_10 : offT Tryz.prog 33 10 = some 10 := by kernel_rfl
theorem ag35 : aggT Tryz.prog 35 16 = true := by kernel_rfl
theorem ze35 : zeroT Tryz.prog 35 = some (.agg #[(.int .u32 0), (.int .u32 0), (.int .i8 0), (.int .u32 0), (.int .i64 0), (.int .i8 0), (.string ByteArray.empty), (.slice none 0 0), (.slice none 0 0), (.int .i32 0), (.bool false), (.bool false), (.int .i64 0), (.int .i32 0), (.slice none 0 0), (.slice none 0 0)]) := by kernel_rfl
theorem of35_0 : offT Tryz.prog 35 0 = some 0 := by kernel_rfl
theorem of35_1 : offT Tryz.prog 35 1 = some 2 := by kernel_rfl
theorem of35_2 : offT Tryz.prog 35 2 = some 5 := by kernel_rfl
theorem one39 : oneT Tryz.prog 39 = true := by kernel_rfl
theorem sl45 : isSliceT Tryz.prog 45 = true := by kernel_rfl
theorem one45 : oneT Tryz.prog 45 = true := by kernel_rfl
theorem el45 : El Tryz.prog 45 28 1 24 (.slice none 0 0) := ⟨Tryz.underlying45, by kernel_rfl, by kernel_rfl, by decide⟩
theorem sl46 : isSliceT Tryz.prog 46 = true := by kernel_rfl
theorem one46 : oneT Tryz.prog 46 = true := by kernel_rfl
theorem sl47 : isSliceT Tryz.prog 47 = true := by kernel_rfl
theorem one47 : oneT Tryz.prog 47 = true := by kernel_rfl
theorem sl48 : isSliceT Tryz.prog 48 = true := by kernel_rfl
theorem one48 : oneT Tryz.prog 48 = true := by kernel_rfl
theorem sl49 : isSliceT Tryz.prog 49 = true := by kernel_rfl
theorem one49 : oneT Tryz.prog 49 = true := by kernel_rfl
theorem el49 : El Tryz.prog 49 30 1 24 (.slice none 0 0) := ⟨Tryz.underlying49, by kernel_rfl, by kernel_rfl, by decide⟩
theorem sl50 : isSliceT Tryz.prog 50 = true := by kernel_rfl
theorem one50 : oneT Tryz.prog 50 = true := by kernel_rfl
theorem el50 : El Tryz.prog 50 29 1 24 (.slice none 0 0) := ⟨Tryz.underlying50, by kernel_rfl, by kernel_rfl, by decide⟩
theorem sl51 : isSliceT Tryz.prog 51 = true := by kernel_rfl
theorem one51 : oneT Tryz.prog 51 = true := by kernel_rfl
theorem el51 : El Tryz.prog 51 31 1 24 (.slice none 0 0) := ⟨Tryz.underlying51, by kernel_rfl, by kernel_rfl, by decide⟩
theorem sl52 : isSliceT Tryz.prog 52 = true := by kernel_rfl
theorem one52 : oneT Tryz.prog 52 = true := by kernel_rfl
theorem sl53 : isSliceT Tryz.prog 53 = true := by kernel_rfl
theorem one53 : oneT Tryz.prog 53 = true := by kernel_rfl
theorem sl54 : isSliceT Tryz.prog 54 = true := by kernel_rfl
theorem one54 : oneT Tryz.prog 54 = true := by kernel_rfl
theorem sl55 : isSliceT Tryz.prog 55 = true := by kernel_rfl
theorem one55 : oneT Tryz.prog 55 = true := by kernel_rfl
theorem sl56 : isSliceT Tryz.prog 56 = true := by kernel_rfl
theorem one56 : oneT Tryz.prog 56 = true := by kernel_rfl
theorem sl57 : isSliceT Tryz.prog 57 = true := by kernel_rfl
theorem one57 : oneT Tryz.prog 57 = true := by kernel_rfl
theorem sl58 : isSliceT Tryz.prog 58 = true := by kernel_rfl
theorem one58 : oneT Tryz.prog 58 = true := by kernel_rfl
theorem sl59 : isSliceT Tryz.prog 59 = true := by kernel_rfl
theorem one59 : oneT Tryz.prog 59 = true := by kernel_rfl
theorem sl60 : isSliceT Tryz.prog 60 = true := by kernel_rfl
theorem one60 : oneT Tryz.prog 60 = true := by kernel_rfl
theorem sl61 : isSliceT Tryz.prog 61 = true := by kernel_rfl
theorem one61 : oneT Tryz.prog 61 = true := by kernel_rfl
theorem sl62 : isSliceT Tryz.prog 62 = true := by kernel_rfl
theorem one62 : oneT Tryz.prog 62 = true := by kernel_rfl
theorem sl63 : isSliceT Tryz.prog 63 = true := by kernel_rfl
theorem one63 : oneT Tryz.prog 63 = true := by kernel_rfl
theorem sl64 : isSliceT Tryz.prog 64 = true := by kernel_rfl
theorem one64 : oneT Tryz.prog 64 = true := by kernel_rfl
theorem sl65 : isSliceT Tryz.prog 65 = true := by kernel_rfl
theorem one65 : oneT Tryz.prog 65 = true := by kernel_rfl
theorem of67_0 : offT Tryz.prog 67 0 = some 0 := by kernel_rfl
theorem of67_1 : offT Tryz.prog 67 1 = some 1 := by kernel_rfl
theorem of67_2 : offT Tryz.prog 67 2 = some 2 := by kernel_rfl
theorem of67_3 : offT Tryz.prog 67 3 = some 3 := by kernel_rfl
theorem of67_4 : offT Tryz.prog 67 4 = some 4 := by kernel_rfl
theorem of67_5 : offT Tryz.prog 67 5 = some 5 := by kernel_rfl
theorem of67_6 : offT Tryz.prog 67 6 = some 6 := by kernel_rfl
theorem of67_7 : offT Tryz.prog 67 7 = some 7 := by kernel_rfl
theorem of67_8 : offT Tryz.prog 67 8 = some 8 := by kernel_rfl
theorem of67_9 : offT Tryz.prog 67 9 = some 9 := by kernel_rfl
theorem of67_10 : offT Tryz.prog 67 10 = some 10 := by kernel_rfl
theorem of67_11 : offT Tryz.prog 67 11 = some 11 := by kernel_rfl
theorem of67_12 : offT Tryz.prog 67 12 = some 12 := by kernel_rfl
theorem of67_13 : offT Tryz.prog 67 13 = some 13 := by kernel_rfl
theorem of67_14 : offT Tryz.prog 67 14 = some 14 := by kernel_rfl
theorem of67_15 : offT Tryz.prog 67 15 = some 15 := by kernel_rfl
theorem of67_16 : offT Tryz.prog 67 16 = some 16 := by kernel_rfl
theorem of67_17 : offT Tryz.prog 67 17 = some 17 := by kernel_rfl
theorem of67_18 : offT Tryz.prog 67 18 = some 18 := by kernel_rfl
theorem of67_19 : offT Tryz.prog 67 19 = some 19 := by kernel_rfl
theorem of67_20 : offT Tryz.prog 67 20 = some 20 := by kernel_rfl
theorem pt79 : isPtrT Tryz.prog 79 = true := by kernel_rfl
theorem of81_0 : offT Tryz.prog 81 0 = some 0 := by kernel_rfl
theorem ag86 : aggT Tryz.prog 86 1 = true := by kernel_rfl
theorem of86_0 : offT Tryz.prog 86 0 = some 0 := by kernel_rfl
theorem fu87 : isFuncT Tryz.prog 87 = true := by kernel_rfl
theorem ag120 : aggT Tryz.prog 120 2 = true := by kernel_rfl
theorem ze120 : zeroT Tryz.prog 120 = some (.agg #[(.string ByteArray.empty), (.string ByteArray.empty)]) := by kernel_rfl
theorem of120_0 : offT Tryz.prog 120 0 = some 0 := by kernel_rfl
theorem of120_1 : offT Tryz.prog 120 1 = some 1 := by kernel_rfl
theorem ag122 : aggT Tryz.prog 122 3 = true := by kernel_rfl
theorem ze122 : zeroT Tryz.prog 122 = some (.agg #[(.int .i8 0), (.string ByteArray.empty), (.string ByteArray.empty)]) := by kernel_rfl
theorem of122_0 : offT Tryz.prog 122 0 = some 0 := by kernel_rfl
theorem of122_1 : offT Tryz.prog 122 1 = some 1 := by kernel_rfl
theorem pt123 : isPtrT Tryz.prog 123 = true := by kernel_rfl
theorem fu128 : isFuncT Tryz.prog 128 = true := by kernel_rfl
theorem it142 : intT Tryz.prog 142 = some .u64 := by kernel_rfl
theorem one143 : oneT Tryz.prog 143 = true := by kernel_rfl
theorem ze143 : zeroT Tryz.prog 143 = some (.int .u64 0) := by kernel_rfl
theorem fu147 : isFuncT Tryz.prog 147 = true := by kernel_rfl
theorem fu151 : isFuncT Tryz.prog 151 = true := by kernel_rfl
theorem of227_0 : offT Tryz.prog 227 0 = some 0 := by kernel_rfl
theorem of227_1 : offT Tryz.prog 227 1 = some 1 := by kernel_rfl
theorem of227_2 : offT Tryz.prog 227 2 = some 2 := by kernel_rfl
theorem fu233 : isFuncT Tryz.prog 233 = true := by kernel_rfl
theorem fu236 : isFuncT Tryz.prog 236 = true := by kernel_rfl
theorem of239_0 : offT Tryz.prog 239 0 = some 0 := by kernel_rfl
theorem of239_1 : offT Tryz.prog 239 1 = some 1 := by kernel_rfl
theorem of239_2 : offT Tryz.prog 239 2 = some 2 := by kernel_rfl
theorem fa_35_2 (b i : Nat) (Z : List PanicEntry → World → Prop) (w : World) (kk : Value → World → Prop) : run1 Tryz.prog Z (Instr.fieldAt 35 (.pointer (some ⟨b, i, none⟩)) 2) w kk = kk (.pointer (some ⟨b, i + 5, none⟩)) w := r1_eq fun w => run_fieldAt of35_2 b i w
theorem ln_28_3 (a : Option Addr) (n c : Nat) (Z : List PanicEntry → World → Prop) (w : World) (kk : Value → World → Prop) : run1 Tryz.prog Z (Builtin.len_ #[28] 3 #[.slice a n c]) w kk = kk (.int .i64 n) w := r1_eq fun w => run_lenS sl28 _ rfl _ a n c w
theorem fa_35_0 (b i : Nat) (Z : List PanicEntry → World → Prop) (w : World) (kk : Value → World → Prop) : run1 Tryz.prog Z (Instr.fieldAt 35 (.pointer (some ⟨b, i, none⟩)) 0) w kk = kk (.pointer (some ⟨b, i + 0, none⟩)) w := r1_eq fun w => run_fieldAt of35_0 b i w
theorem fa_24_0 (b i : Nat) (Z : List PanicEntry → World → Prop) (w : World) (kk : Value → World → Prop) : run1 Tryz.prog Z (Instr.fieldAt 24 (.pointer (some ⟨b, i, none⟩)) 0) w kk = kk (.pointer (some ⟨b, i + 0, none⟩)) w := r1_eq fun w => run_fieldAt of24_0 b i w
theorem fa_24_1 (b i : Nat) (Z : List PanicEntry → World → Prop) (w : World) (kk : Value → World → Prop) : run1 Tryz.prog Z (Instr.fieldAt 24 (.pointer (some ⟨b, i, none⟩)) 1) w kk = kk (.pointer (some ⟨b, i + 1, none⟩)) w := r1_eq fun w => run_fieldAt of24_1 b i w
theorem fa_35_1 (b i : Nat) (Z : List PanicEntry → World → Prop) (w : World) (kk : Value → World → Prop) : run1 Tryz.prog Z (Instr.fieldAt 35 (.pointer (some ⟨b, i, none⟩)) 1) w kk = kk (.pointer (some ⟨b, i + 2, none⟩)) w := r1_eq fun w => run_fieldAt of35_1 b i w
theorem fa_27_0 (b i : Nat) (Z : List PanicEntry → World → Prop) (w : World) (kk : Value → World → Prop) : run1 Tryz.prog Z (Instr.fieldAt 27 (.pointer (some ⟨b, i, none⟩)) 0) w kk = kk (.pointer (some ⟨b, i + 0, none⟩)) w := r1_eq fun w => run_fieldAt of27_0 b i w
theorem fa_27_1 (b i : Nat) (Z : List PanicEntry → World → Prop) (w : World) (kk : Value → World → Prop) : run1 Tryz.prog Z (Instr.fieldAt 27 (.pointer (some ⟨b, i, none⟩)) 1) w kk = kk (.pointer (some ⟨b, i + 1, none⟩)) w := r1_eq fun w => run_fieldAt of27_1 b i w
theorem fa_27_2 (b i : Nat) (Z : List PanicEntry → World → Prop) (w : World) (kk : Value → World → Prop) : run1 Tryz.prog Z (Instr.fieldAt 27 (.pointer (some ⟨b, i, none⟩)) 2) w kk = kk (.pointer (some ⟨b, i + 2, none⟩)) w := r1_eq fun w => run_fieldAt of27_2 b i w
theorem fa_33_2 (b i : Nat) (Z : List PanicEntry → World → Prop) (w : World) (kk : Value → World → Prop) : run1 Tryz.prog Z (Instr.fieldAt 33 (.pointer (some ⟨b, i, none⟩)) 2) w kk = kk (.pointer (some ⟨b, i + 2, none⟩)) w := r1_eq fun w => run_fieldAt of33_2 b i w
theorem fa_33_3 (b i : Nat) (Z : List PanicEntry → World → Prop) (w : World) (kk : Value → World → Prop) : run1 Tryz.prog Z (Instr.fieldAt 33 (.pointer (some ⟨b, i, none⟩)) 3) w kk = kk (.pointer (some ⟨b, i + 3, none⟩)) w := r1_eq fun w => run_fieldAt of33_3 b i w
theorem fa_33_3p (b i : Nat) (kv : Value → Prop) : Pure1 Tryz.prog (Instr.fieldAt 33 (.pointer (some ⟨b, i, none⟩)) 3) kv = kv (.pointer (some ⟨b, i + 3, none⟩)) := rp_eq fun w => run_fieldAt of33_3 b i w
theorem fa_33_9 (b i : Nat) (Z : List PanicEntry → World → Prop) (w : World) (kk : Value → World → Prop) : run1 Tryz.prog Z (Instr.fieldAt 33 (.pointer (some ⟨b, i, none⟩)) 9) w kk = kk (.pointer (some ⟨b, i + 9, none⟩)) w := r1_eq fun w => run_fieldAt of33_9 b i w
theorem fa_33_9p (b i : Nat) (kv : Value → Prop) : Pure1 Tryz.prog (Instr.fieldAt 33 (.pointer (some ⟨b, i, none⟩)) 9) kv = kv (.pointer (some ⟨b, i + 9, none⟩)) := rp_eq fun w => run_fieldAt of33_9 b i w
theorem fa_33_10 (b i : Nat) (Z : List PanicEntry → World → Prop) (w : World) (kk : Value → World → Prop) : run1 Tryz.prog Z (Instr.fieldAt 33 (.pointer (some ⟨b, i, none⟩)) 10) w kk = kk (.pointer (some ⟨b, i + 10, none⟩)) w := r1_eq fun w => run_fieldAt of33_10 b i w
theorem fa_33_10p (b i : Nat) (kv : Value → Prop) : Pure1 Tryz.prog (Instr.fieldAt 33 (.pointer (some ⟨b, i, none⟩)) 10) kv = kv (.pointer (some ⟨b, i + 10, none⟩)) := rp_eq fun w => run_fieldAt of33_10 b i w
theorem fa_67_0 (b i : Nat) (Z : List PanicEntry → World → Prop) (w : World) (kk : Value → World → Prop) : run1 Tryz.prog Z (Instr.fieldAt 67 (.pointer (some ⟨b, i, none⟩)) 0) w kk = kk (.pointer (some ⟨b, i + 0, none⟩)) w := r1_eq fun w => run_fieldAt of67_0 b i w
theorem ln_45_3 (a : Option Addr) (n c : Nat) (Z : List PanicEntry → World → Prop) (w : World) (kk : Value → World → Prop) : run1 Tryz.prog Z (Builtin.len_ #[45] 3 #[.slice a n c]) w kk = kk (.int .i64 n) w := r1_eq fun w => run_lenS sl45 _ rfl _ a n c w
theorem fa_67_1 (b i : Nat) (Z : List PanicEntry → World → Prop) (w : World) (kk : Value → World → Prop) : run1 Tryz.prog Z (Instr.fieldAt 67 (.pointer (some ⟨b, i, none⟩)) 1) w kk = kk (.pointer (some ⟨b, i + 1, none⟩)) w := r1_eq fun w => run_fieldAt of67_1 b i w
theorem fa_67_2 (b i : Nat) (Z : List PanicEntry → World → Prop) (w : World) (kk : Value → World → Prop) : run1 Tryz.prog Z (Instr.fieldAt 67 (.pointer (some ⟨b, i, none⟩)) 2) w kk = kk (.pointer (some ⟨b, i + 2, none⟩)) w := r1_eq fun w => run_fieldAt of67_2 b i w
theorem fa_67_3 (b i : Nat) (Z : List PanicEntry → World → Prop) (w : World) (kk : Value → World → Prop) : run1 Tryz.prog Z (Instr.fieldAt 67 (.pointer (some ⟨b, i, none⟩)) 3) w kk = kk (.pointer (some ⟨b, i + 3, none⟩)) w := r1_eq fun w => run_fieldAt of67_3 b i w
theorem fa_67_4 (b i : Nat) (Z : List PanicEntry → World → Prop) (w : World) (kk : Value → World → Prop) : run1 Tryz.prog Z (Instr.fieldAt 67 (.pointer (some ⟨b, i, none⟩)) 4) w kk = kk (.pointer (some ⟨b, i + 4, none⟩)) w := r1_eq fun w => run_fieldAt of67_4 b i w
theorem fa_67_5 (b i : Nat) (Z : List PanicEntry → World → Prop) (w : World) (kk : Value → World → Prop) : run1 Tryz.prog Z (Instr.fieldAt 67 (.pointer (some ⟨b, i, none⟩)) 5) w kk = kk (.pointer (some ⟨b, i + 5, none⟩)) w := r1_eq fun w => run_fieldAt of67_5 b i w
theorem fa_67_6 (b i : Nat) (Z : List PanicEntry → World → Prop) (w : World) (kk : Value → World → Prop) : run1 Tryz.prog Z (Instr.fieldAt 67 (.pointer (some ⟨b, i, none⟩)) 6) w kk = kk (.pointer (some ⟨b, i + 6, none⟩)) w := r1_eq fun w => run_fieldAt of67_6 b i w
theorem fa_67_7 (b i : Nat) (Z : List PanicEntry → World → Prop) (w : World) (kk : Value → World → Prop) : run1 Tryz.prog Z (Instr.fieldAt 67 (.pointer (some ⟨b, i, none⟩)) 7) w kk = kk (.pointer (some ⟨b, i + 7, none⟩)) w := r1_eq fun w => run_fieldAt of67_7 b i w
theorem fa_67_8 (b i : Nat) (Z : List PanicEntry → World → Prop) (w : World) (kk : Value → World → Prop) : run1 Tryz.prog Z (Instr.fieldAt 67 (.pointer (some ⟨b, i, none⟩)) 8) w kk = kk (.pointer (some ⟨b, i + 8, none⟩)) w := r1_eq fun w => run_fieldAt of67_8 b i w
theorem fa_67_9 (b i : Nat) (Z : List PanicEntry → World → Prop) (w : World) (kk : Value → World → Prop) : run1 Tryz.prog Z (Instr.fieldAt 67 (.pointer (some ⟨b, i, none⟩)) 9) w kk = kk (.pointer (some ⟨b, i + 9, none⟩)) w := r1_eq fun w => run_fieldAt of67_9 b i w
theorem fa_67_10 (b i : Nat) (Z : List PanicEntry → World → Prop) (w : World) (kk : Value → World → Prop) : run1 Tryz.prog Z (Instr.fieldAt 67 (.pointer (some ⟨b, i, none⟩)) 10) w kk = kk (.pointer (some ⟨b, i + 10, none⟩)) w := r1_eq fun w => run_fieldAt of67_10 b i w
theorem fa_67_11 (b i : Nat) (Z : List PanicEntry → World → Prop) (w : World) (kk : Value → World → Prop) : run1 Tryz.prog Z (Instr.fieldAt 67 (.pointer (some ⟨b, i, none⟩)) 11) w kk = kk (.pointer (some ⟨b, i + 11, none⟩)) w := r1_eq fun w => run_fieldAt of67_11 b i w
theorem fa_67_12 (b i : Nat) (Z : List PanicEntry → World → Prop) (w : World) (kk : Value → World → Prop) : run1 Tryz.prog Z (Instr.fieldAt 67 (.pointer (some ⟨b, i, none⟩)) 12) w kk = kk (.pointer (some ⟨b, i + 12, none⟩)) w := r1_eq fun w => run_fieldAt of67_12 b i w
theorem fa_67_13 (b i : Nat) (Z : List PanicEntry → World → Prop) (w : World) (kk : Value → World → Prop) : run1 Tryz.prog Z (Instr.fieldAt 67 (.pointer (some ⟨b, i, none⟩)) 13) w kk = kk (.pointer (some ⟨b, i + 13, none⟩)) w := r1_eq fun w => run_fieldAt of67_13 b i w
theorem fa_67_14 (b i : Nat) (Z : List PanicEntry → World → Prop) (w : World) (kk : Value → World → Prop) : run1 Tryz.prog Z (Instr.fieldAt 67 (.pointer (some ⟨b, i, none⟩)) 14) w kk = kk (.pointer (some ⟨b, i + 14, none⟩)) w := r1_eq fun w => run_fieldAt of67_14 b i w
theorem fa_67_15 (b i : Nat) (Z : List PanicEntry → World → Prop) (w : World) (kk : Value → World → Prop) : run1 Tryz.prog Z (Instr.fieldAt 67 (.pointer (some ⟨b, i, none⟩)) 15) w kk = kk (.pointer (some ⟨b, i + 15, none⟩)) w := r1_eq fun w => run_fieldAt of67_15 b i w
theorem fa_67_16 (b i : Nat) (Z : List PanicEntry → World → Prop) (w : World) (kk : Value → World → Prop) : run1 Tryz.prog Z (Instr.fieldAt 67 (.pointer (some ⟨b, i, none⟩)) 16) w kk = kk (.pointer (some ⟨b, i + 16, none⟩)) w := r1_eq fun w => run_fieldAt of67_16 b i w
theorem fa_67_17 (b i : Nat) (Z : List PanicEntry → World → Prop) (w : World) (kk : Value → World → Prop) : run1 Tryz.prog Z (Instr.fieldAt 67 (.pointer (some ⟨b, i, none⟩)) 17) w kk = kk (.pointer (some ⟨b, i + 17, none⟩)) w := r1_eq fun w => run_fieldAt of67_17 b i w
theorem fa_67_18 (b i : Nat) (Z : List PanicEntry → World → Prop) (w : World) (kk : Value → World → Prop) : run1 Tryz.prog Z (Instr.fieldAt 67 (.pointer (some ⟨b, i, none⟩)) 18) w kk = kk (.pointer (some ⟨b, i + 18, none⟩)) w := r1_eq fun w => run_fieldAt of67_18 b i w
theorem fa_67_19 (b i : Nat) (Z : List PanicEntry → World → Prop) (w : World) (kk : Value → World → Prop) : run1 Tryz.prog Z (Instr.fieldAt 67 (.pointer (some ⟨b, i, none⟩)) 19) w kk = kk (.pointer (some ⟨b, i + 19, none⟩)) w := r1_eq fun w => run_fieldAt of67_19 b i w
theorem fa_67_20 (b i : Nat) (Z : List PanicEntry → World → Prop) (w : World) (kk : Value → World → Prop) : run1 Tryz.prog Z (Instr.fieldAt 67 (.pointer (some ⟨b, i, none⟩)) 20) w kk = kk (.pointer (some ⟨b, i + 20, none⟩)) w := r1_eq fun w => run_fieldAt of67_20 b i w
theorem ln_29_3 (a : Option Addr) (n c : Nat) (Z : List PanicEntry → World → Prop) (w : World) (kk : Value → World → Prop) : run1 Tryz.prog Z (Builtin.len_ #[29] 3 #[.slice a n c]) w kk = kk (.int .i64 n) w := r1_eq fun w => run_lenS sl29 _ rfl _ a n c w
theorem fa_122_0 (b i : Nat) (Z : List PanicEntry → World → Prop) (w : World) (kk : Value → World → Prop) : run1 Tryz.prog Z (Instr.fieldAt 122 (.pointer (some ⟨b, i, none⟩)) 0) w kk = kk (.pointer (some ⟨b, i + 0, none⟩)) w := r1_eq fun w => run_fieldAt of122_0 b i w
theorem ln_30_3 (a : Option Addr) (n c : Nat) (Z : List PanicEntry → World → Prop) (w : World) (kk : Value → World → Prop) : run1 Tryz.prog Z (Builtin.len_ #[30] 3 #[.slice a n c]) w kk = kk (.int .i64 n) w := r1_eq fun w => run_lenS sl30 _ rfl _ a n c w
theorem fa_120_1 (b i : Nat) (Z : List PanicEntry → World → Prop) (w : World) (kk : Value → World → Prop) : run1 Tryz.prog Z (Instr.fieldAt 120 (.pointer (some ⟨b, i, none⟩)) 1) w kk = kk (.pointer (some ⟨b, i + 1, none⟩)) w := r1_eq fun w => run_fieldAt of120_1 b i w
theorem fa_120_1p (b i : Nat) (kv : Value → Prop) : Pure1 Tryz.prog (Instr.fieldAt 120 (.pointer (some ⟨b, i, none⟩)) 1) kv = kv (.pointer (some ⟨b, i + 1, none⟩)) := rp_eq fun w => run_fieldAt of120_1 b i w
theorem ln_31_3 (a : Option Addr) (n c : Nat) (Z : List PanicEntry → World → Prop) (w : World) (kk : Value → World → Prop) : run1 Tryz.prog Z (Builtin.len_ #[31] 3 #[.slice a n c]) w kk = kk (.int .i64 n) w := r1_eq fun w => run_lenS sl31 _ rfl _ a n c w
theorem fa_33_1 (b i : Nat) (Z : List PanicEntry → World → Prop) (w : World) (kk : Value → World → Prop) : run1 Tryz.prog Z (Instr.fieldAt 33 (.pointer (some ⟨b, i, none⟩)) 1) w kk = kk (.pointer (some ⟨b, i + 1, none⟩)) w := r1_eq fun w => run_fieldAt of33_1 b i w
theorem cv_3_5 (q : IntKind) (n : Int) (Z : List PanicEntry → World → Prop) (w : World) (kk : Value → World → Prop) : run1 Tryz.prog Z (convert 3 5 (.int q n)) w kk = kk (.int .u8 (IntKind.u8.wrap n)) w := r1_eq fun w => run_conv_int (by kernel_rfl) it5 q n w
theorem cv_3_5p (q : IntKind) (n : Int) (kv : Value → Prop) : Pure1 Tryz.prog (convert 3 5 (.int q n)) kv = kv (.int .u8 (IntKind.u8.wrap n)) := rp_eq fun w => run_conv_int (by kernel_rfl) it5 q n w
theorem fa_33_0 (b i : Nat) (Z : List PanicEntry → World → Prop) (w : World) (kk : Value → World → Prop) : run1 Tryz.prog Z (Instr.fieldAt 33 (.pointer (some ⟨b, i, none⟩)) 0) w kk = kk (.pointer (some ⟨b, i + 0, none⟩)) w := r1_eq fun w => run_fieldAt of33_0 b i w
theorem cv_22_142 (q : IntKind) (n : Int) (Z : List PanicEntry → World → Prop) (w : World) (kk : Value → World → Prop) : run1 Tryz.prog Z (convert 22 142 (.int q n)) w kk = kk (.int .u64 (IntKind.u64.wrap n)) w := r1_eq fun w => run_conv_int (by kernel_rfl) it142 q n w
theorem cv_25_142 (q : IntKind) (n : Int) (Z : List PanicEntry → World → Prop) (w : World) (kk : Value → World → Prop) : run1 Tryz.prog Z (convert 25 142 (.int q n)) w kk = kk (.int .u64 (IntKind.u64.wrap n)) w := r1_eq fun w => run_conv_int (by kernel_rfl) it142 q n w
theorem cv_2_142 (q : IntKind) (n : Int) (Z : List PanicEntry → World → Prop) (w : World) (kk : Value → World → Prop) : run1 Tryz.prog Z (convert 2 142 (.int q n)) w kk = kk (.int .u64 (IntKind.u64.wrap n)) w := r1_eq fun w => run_conv_int (by kernel_rfl) it142 q n w
theorem fa_33_4 (b i : Nat) (Z : List PanicEntry → World → Prop) (w : World) (kk : Value → World → Prop) : run1 Tryz.prog Z (Instr.fieldAt 33 (.pointer (some ⟨b, i, none⟩)) 4) w kk = kk (.pointer (some ⟨b, i + 4, none⟩)) w := r1_eq fun w => run_fieldAt of33_4 b i w
theorem fa_33_5 (b i : Nat) (Z : List PanicEntry → World → Prop) (w : World) (kk : Value → World → Prop) : run1 Tryz.prog Z (Instr.fieldAt 33 (.pointer (some ⟨b, i, none⟩)) 5) w kk = kk (.pointer (some ⟨b, i + 5, none⟩)) w := r1_eq fun w => run_fieldAt of33_5 b i w
theorem fa_33_6 (b i : Nat) (Z : List PanicEntry → World → Prop) (w : World) (kk : Value → World → Prop) : run1 Tryz.prog Z (Instr.fieldAt 33 (.pointer (some ⟨b, i, none⟩)) 6) w kk = kk (.pointer (some ⟨b, i + 6, none⟩)) w := r1_eq fun w => run_fieldAt of33_6 b i w
theorem fa_33_7 (b i : Nat) (Z : List PanicEntry → World → Prop) (w : World) (kk : Value → World → Prop) : run1 Tryz.prog Z (Instr.fieldAt 33 (.pointer (some ⟨b, i, none⟩)) 7) w kk = kk (.pointer (some ⟨b, i + 7, none⟩)) w := r1_eq fun w => run_fieldAt of33_7 b i w
theorem fa_33_8 (b i : Nat) (Z : List PanicEntry → World → Prop) (w : World) (kk : Value → World → Prop) : run1 Tryz.prog Z (Instr.fieldAt 33 (.pointer (some ⟨b, i, none⟩)) 8) w kk = kk (.pointer (some ⟨b, i + 8, none⟩)) w := r1_eq fun w => run_fieldAt of33_8 b i w
theorem eqlp_79 (cx cy : Bool) (a : Addr) (Z : List PanicEntry → World → Prop) (w : World) (kk : Value → World → Prop) : run1 Tryz.prog Z (eqOp .eql 79 cx cy (.pointer (some a)) (.pointer none)) w kk = kk (.bool false) w := r1_eq fun w => run_eql_ptr_nil pt79 cx cy a w
theorem fa_81_0 (b i : Nat) (Z : List PanicEntry → World → Prop) (w : World) (kk : Value → World → Prop) : run1 Tryz.prog Z (Instr.fieldAt 81 (.pointer (some ⟨b, i, none⟩)) 0) w kk = kk (.pointer (some ⟨b, i + 0, none⟩)) w := r1_eq fun w => run_fieldAt of81_0 b i w
theorem fa_81_0p (b i : Nat) (kv : Value → Prop) : Pure1 Tryz.prog (Instr.fieldAt 81 (.pointer (some ⟨b, i, none⟩)) 0) kv = kv (.pointer (some ⟨b, i + 0, none⟩)) := rp_eq fun w => run_fieldAt of81_0 b i w
theorem cv_22_2 (q : IntKind) (n : Int) (Z : List PanicEntry → World → Prop) (w : World) (kk : Value → World → Prop) : run1 Tryz.prog Z (convert 22 2 (.int q n)) w kk = kk (.int .i64 (IntKind.i64.wrap n)) w := r1_eq fun w => run_conv_int (by kernel_rfl) it2 q n w
theorem ln_9_3 (s : ByteArray) (Z : List PanicEntry → World → Prop) (w : World) (kk : Value → World → Prop) : run1 Tryz.prog Z (Builtin.len_ #[9] 3 #[.string s]) w kk = kk (.int .i64 s.size) w := r1_eq fun w => run_lenStr st9 _ rfl _ s w
theorem cv_3_21 (q : IntKind) (n : Int) (Z : List PanicEntry → World → Prop) (w : World) (kk : Value → World → Prop) : run1 Tryz.prog Z (convert 3 21 (.int q n)) w kk = kk (.int .i32 (IntKind.i32.wrap n)) w := r1_eq fun w => run_conv_int (by kernel_rfl) it21 q n w
theorem fa_122_1 (b i : Nat) (Z : List PanicEntry → World → Prop) (w : World) (kk : Value → World → Prop) : run1 Tryz.prog Z (Instr.fieldAt 122 (.pointer (some ⟨b, i, none⟩)) 1) w kk = kk (.pointer (some ⟨b, i + 1, none⟩)) w := r1_eq fun w => run_fieldAt of122_1 b i w
theorem fa_122_1p (b i : Nat) (kv : Value → Prop) : Pure1 Tryz.prog (Instr.fieldAt 122 (.pointer (some ⟨b, i, none⟩)) 1) kv = kv (.pointer (some ⟨b, i + 1, none⟩)) := rp_eq fun w => run_fieldAt of122_1 b i w
theorem ln_46_3 (a : Option Addr) (n c : Nat) (Z : List PanicEntry → World → Prop) (w : World) (kk : Value → World → Prop) : run1 Tryz.prog Z (Builtin.len_ #[46] 3 #[.slice a n c]) w kk = kk (.int .i64 n) w := r1_eq fun w => run_lenS sl46 _ rfl _ a n c w
theorem ln_47_3 (a : Option Addr) (n c : Nat) (Z : List PanicEntry → World → Prop) (w : World) (kk : Value → World → Prop) : run1 Tryz.prog Z (Builtin.len_ #[47] 3 #[.slice a n c]) w kk = kk (.int .i64 n) w := r1_eq fun w => run_lenS sl47 _ rfl _ a n c w
theorem ln_48_3 (a : Option Addr) (n c : Nat) (Z : List PanicEntry → World → Prop) (w : World) (kk : Value → World → Prop) : run1 Tryz.prog Z (Builtin.len_ #[48] 3 #[.slice a n c]) w kk = kk (.int .i64 n) w := r1_eq fun w => run_lenS sl48 _ rfl _ a n c w
theorem ln_49_3 (a : Option Addr) (n c : Nat) (Z : List PanicEntry → World → Prop) (w : World) (kk : Value → World → Prop) : run1 Tryz.prog Z (Builtin.len_ #[49] 3 #[.slice a n c]) w kk = kk (.int .i64 n) w := r1_eq fun w => run_lenS sl49 _ rfl _ a n c w
theorem ln_50_3 (a : Option Addr) (n c : Nat) (Z : List PanicEntry → World → Prop) (w : World) (kk : Value → World → Prop) : run1 Tryz.prog Z (Builtin.len_ #[50] 3 #[.slice a n c]) w kk = kk (.int .i64 n) w := r1_eq fun w => run_lenS sl50 _ rfl _ a n c w
theorem ln_51_3 (a : Option Addr) (n c : Nat) (Z : List PanicEntry → World → Prop) (w : World) (kk : Value → World → Prop) : run1 Tryz.prog Z (Builtin.len_ #[51] 3 #[.slice a n c]) w kk = kk (.int .i64 n) w := r1_eq fun w => run_lenS sl51 _ rfl _ a n c w
theorem ln_52_3 (a : Option Addr) (n c : Nat) (Z : List PanicEntry → World → Prop) (w : World) (kk : Value → World → Prop) : run1 Tryz.prog Z (Builtin.len_ #[52] 3 #[.slice a n c]) w kk = kk (.int .i64 n) w := r1_eq fun w => run_lenS sl52 _ rfl _ a n c w
theorem ln_53_3 (a : Option Addr) (n c : Nat) (Z : List PanicEntry → World → Prop) (w : World) (kk : Value → World → Prop) : run1 Tryz.prog Z (Builtin.len_ #[53] 3 #[.slice a n c]) w kk = kk (.int .i64 n) w := r1_eq fun w => run_lenS sl53 _ rfl _ a n c w
theorem ln_54_3 (a : Option Addr) (n c : Nat) (Z : List PanicEntry → World → Prop) (w : World) (kk : Value → World → Prop) : run1 Tryz.prog Z (Builtin.len_ #[54] 3 #[.slice a n c]) w kk = kk (.int .i64 n) w := r1_eq fun w => run_lenS sl54 _ rfl _ a n c w
theorem ln_55_3 (a : Option Addr) (n c : Nat) (Z : List PanicEntry → World → Prop) (w : World) (kk : Value → World → Prop) : run1 Tryz.prog Z (Builtin.len_ #[55] 3 #[.slice a n c]) w kk = kk (.int .i64 n) w := r1_eq fun w => run_lenS sl55 _ rfl _ a n c w
theorem ln_56_3 (a : Option Addr) (n c : Nat) (Z : List PanicEntry → World → Prop) (w : World) (kk : Value → World → Prop) : run1 Tryz.prog Z (Builtin.len_ #[56] 3 #[.slice a n c]) w kk = kk (.int .i64 n) w := r1_eq fun w => run_lenS sl56 _ rfl _ a n c w
theorem ln_57_3 (a : Option Addr) (n c : Nat) (Z : List PanicEntry → World → Prop) (w : World) (kk : Value → World → Prop) : run1 Tryz.prog Z (Builtin.len_ #[57] 3 #[.slice a n c]) w kk = kk (.int .i64 n) w := r1_eq fun w => run_lenS sl57 _ rfl _ a n c w
theorem ln_58_3 (a : Option Addr) (n c : Nat) (Z : List PanicEntry → World → Prop) (w : World) (kk : Value → World → Prop) : run1 Tryz.prog Z (Builtin.len_ #[58] 3 #[.slice a n c]) w kk = kk (.int .i64 n) w := r1_eq fun w => run_lenS sl58 _ rfl _ a n c w
theorem ln_59_3 (a : Option Addr) (n c : Nat) (Z : List PanicEntry → World → Prop) (w : World) (kk : Value → World → Prop) : run1 Tryz.prog Z (Builtin.len_ #[59] 3 #[.slice a n c]) w kk = kk (.int .i64 n) w := r1_eq fun w => run_lenS sl59 _ rfl _ a n c w
theorem ln_60_3 (a : Option Addr) (n c : Nat) (Z : List PanicEntry → World → Prop) (w : World) (kk : Value → World → Prop) : run1 Tryz.prog Z (Builtin.len_ #[60] 3 #[.slice a n c]) w kk = kk (.int .i64 n) w := r1_eq fun w => run_lenS sl60 _ rfl _ a n c w
theorem ln_61_3 (a : Option Addr) (n c : Nat) (Z : List PanicEntry → World → Prop) (w : World) (kk : Value → World → Prop) : run1 Tryz.prog Z (Builtin.len_ #[61] 3 #[.slice a n c]) w kk = kk (.int .i64 n) w := r1_eq fun w => run_lenS sl61 _ rfl _ a n c w
theorem ln_62_3 (a : Option Addr) (n c : Nat) (Z : List PanicEntry → World → Prop) (w : World) (kk : Value → World → Prop) : run1 Tryz.prog Z (Builtin.len_ #[62] 3 #[.slice a n c]) w kk = kk (.int .i64 n) w := r1_eq fun w => run_lenS sl62 _ rfl _ a n c w
theorem ln_63_3 (a : Option Addr) (n c : Nat) (Z : List PanicEntry → World → Prop) (w : World) (kk : Value → World → Prop) : run1 Tryz.prog Z (Builtin.len_ #[63] 3 #[.slice a n c]) w kk = kk (.int .i64 n) w := r1_eq fun w => run_lenS sl63 _ rfl _ a n c w
theorem ln_64_3 (a : Option Addr) (n c : Nat) (Z : List PanicEntry → World → Prop) (w : World) (kk : Value → World → Prop) : run1 Tryz.prog Z (Builtin.len_ #[64] 3 #[.slice a n c]) w kk = kk (.int .i64 n) w := r1_eq fun w => run_lenS sl64 _ rfl _ a n c w
theorem ln_65_3 (a : Option Addr) (n c : Nat) (Z : List PanicEntry → World → Prop) (w : World) (kk : Value → World → Prop) : run1 Tryz.prog Z (Builtin.len_ #[65] 3 #[.slice a n c]) w kk = kk (.int .i64 n) w := r1_eq fun w => run_lenS sl65 _ rfl _ a n c w
theorem cv_142_22 (q : IntKind) (n : Int) (Z : List PanicEntry → World → Prop) (w : World) (kk : Value → World → Prop) : run1 Tryz.prog Z (convert 142 22 (.int q n)) w kk = kk (.int .u32 (IntKind.u32.wrap n)) w := r1_eq fun w => run_conv_int (by kernel_rfl) it22 q n w
theorem cv_142_25 (q : IntKind) (n : Int) (Z : List PanicEntry → World → Prop) (w : World) (kk : Value → World → Prop) : run1 Tryz.prog Z (convert 142 25 (.int q n)) w kk = kk (.int .i8 (IntKind.i8.wrap n)) w := r1_eq fun w => run_conv_int (by kernel_rfl) it25 q n w
theorem cv_142_2 (q : IntKind) (n : Int) (Z : List PanicEntry → World → Prop) (w : World) (kk : Value → World → Prop) : run1 Tryz.prog Z (convert 142 2 (.int q n)) w kk = kk (.int .i64 (IntKind.i64.wrap n)) w := r1_eq fun w => run_conv_int (by kernel_rfl) it2 q n w
theorem fa_86_0 (b i : Nat) (Z : List PanicEntry → World → Prop) (w : World) (kk : Value → World → Prop) : run1 Tryz.prog Z (Instr.fieldAt 86 (.pointer (some ⟨b, i, none⟩)) 0) w kk = kk (.pointer (some ⟨b, i + 0, none⟩)) w := r1_eq fun w => run_fieldAt of86_0 b i w
theorem fa_227_1 (b i : Nat) (Z : List PanicEntry → World → Prop) (w : World) (kk : Value → World → Prop) : run1 Tryz.prog Z (Instr.fieldAt 227 (.pointer (some ⟨b, i, none⟩)) 1) w kk = kk (.pointer (some ⟨b, i + 1, none⟩)) w := r1_eq fun w => run_fieldAt of227_1 b i w
theorem cv_142_3 (q : IntKind) (n : Int) (Z : List PanicEntry → World → Prop) (w : World) (kk : Value → World → Prop) : run1 Tryz.prog Z (convert 142 3 (.int q n)) w kk = kk (.int .i64 (IntKind.i64.wrap n)) w := r1_eq fun w => run_conv_int (by kernel_rfl) it3 q n w
theorem cv_3_25 (q : IntKind) (n : Int) (Z : List PanicEntry → World → Prop) (w : World) (kk : Value → World → Prop) : run1 Tryz.prog Z (convert 3 25 (.int q n)) w kk = kk (.int .i8 (IntKind.i8.wrap n)) w := r1_eq fun w => run_conv_int (by kernel_rfl) it25 q n w
theorem fa_239_2 (b i : Nat) (Z : List PanicEntry → World → Prop) (w : World) (kk : Value → World → Prop) : run1 Tryz.prog Z (Instr.fieldAt 239 (.pointer (some ⟨b, i, none⟩)) 2) w kk = kk (.pointer (some ⟨b, i + 2, none⟩)) w := r1_eq fun w => run_fieldAt of239_2 b i w
theorem fa_239_2p (b i : Nat) (kv : Value → Prop) : Pure1 Tryz.prog (Instr.fieldAt 239 (.pointer (some ⟨b, i, none⟩)) 2) kv = kv (.pointer (some ⟨b, i + 2, none⟩)) := rp_eq fun w => run_fieldAt of239_2 b i w
theorem fa_239_1 (b i : Nat) (Z : List PanicEntry → World → Prop) (w : World) (kk : Value → World → Prop) : run1 Tryz.prog Z (Instr.fieldAt 239 (.pointer (some ⟨b, i, none⟩)) 1) w kk = kk (.pointer (some ⟨b, i + 1, none⟩)) w := r1_eq fun w => run_fieldAt of239_1 b i w
theorem fa_239_1p (b i : Nat) (kv : Value → Prop) : Pure1 Tryz.prog (Instr.fieldAt 239 (.pointer (some ⟨b, i, none⟩)) 1) kv = kv (.pointer (some ⟨b, i + 1, none⟩)) := rp_eq fun w => run_fieldAt of239_1 b i w
theorem fa_239_0p (b i : Nat) (kv : Value → Prop) : Pure1 Tryz.prog (Instr.fieldAt 239 (.pointer (some ⟨b, i, none⟩)) 0) kv = kv (.pointer (some ⟨b, i + 0, none⟩)) := rp_eq fun w => run_fieldAt of239_0 b i w
theorem cv_142_5p (q : IntKind) (n : Int) (kv : Value → Prop) : Pure1 Tryz.prog (convert 142 5 (.int q n)) kv = kv (.int .u8 (IntKind.u8.wrap n)) := rp_eq fun w => run_conv_int (by kernel_rfl) it5 q n w
theorem eqlf_147 (cx cy : Bool) (f : Fn) (a b : Array Value) (Z : List PanicEntry → World → Prop) (w : World) (kk : Value → World → Prop) : run1 Tryz.prog Z (eqOp .eql 147 cx cy (.func f a b) .nilFunc) w kk = kk (.bool false) w := r1_eq fun w => run_eql_func fu147 cx cy f a b w
theorem cv_21_142 (q : IntKind) (n : Int) (Z : List PanicEntry → World → Prop) (w : World) (kk : Value → World → Prop) : run1 Tryz.prog Z (convert 21 142 (.int q n)) w kk = kk (.int .u64 (IntKind.u64.wrap n)) w := r1_eq fun w => run_conv_int (by kernel_rfl) it142 q n w
theorem eqlf_151 (cx cy : Bool) (f : Fn) (a b : Array Value) (Z : List PanicEntry → World → Prop) (w : World) (kk : Value → World → Prop) : run1 Tryz.prog Z (eqOp .eql 151 cx cy (.func f a b) .nilFunc) w kk = kk (.bool false) w := r1_eq fun w => run_eql_func fu151 cx cy f a b w
theorem fa_120_0 (b i : Nat) (Z : List PanicEntry → World → Prop) (w : World) (kk : Value → World → Prop) : run1 Tryz.prog Z (Instr.fieldAt 120 (.pointer (some ⟨b, i, none⟩)) 0) w kk = kk (.pointer (some ⟨b, i + 0, none⟩)) w := r1_eq fun w => run_fieldAt of120_0 b i w
theorem eqlf_87 (cx cy : Bool) (f : Fn) (a b : Array Value) (Z : List PanicEntry → World → Prop) (w : World) (kk : Value → World → Prop) : run1 Tryz.prog Z (eqOp .eql 87 cx cy (.func f a b) .nilFunc) w kk = kk (.bool false) w := r1_eq fun w => run_eql_func fu87 cx cy f a b w
theorem cv_5_142 (q : IntKind) (n : Int) (Z : List PanicEntry → World → Prop) (w : World) (kk : Value → World → Prop) : run1 Tryz.prog Z (convert 5 142 (.int q n)) w kk = kk (.int .u64 (IntKind.u64.wrap n)) w := r1_eq fun w => run_conv_int (by kernel_rfl) it142 q n w
theorem cv_5_142p (q : IntKind) (n : Int) (kv : Value → Prop) : Pure1 Tryz.prog (convert 5 142 (.int q n)) kv = kv (.int .u64 (IntKind.u64.wrap n)) := rp_eq fun w => run_conv_int (by kernel_rfl) it142 q n w
theorem fa_227_2 (b i : Nat) (Z : List PanicEntry → World → Prop) (w : World) (kk : Value → World → Prop) : run1 Tryz.prog Z (Instr.fieldAt 227 (.pointer (some ⟨b, i, none⟩)) 2) w kk = kk (.pointer (some ⟨b, i + 2, none⟩)) w := r1_eq fun w => run_fieldAt of227_2 b i w
theorem cv_21_3 (q : IntKind) (n : Int) (Z : List PanicEntry → World → Prop) (w : World) (kk : Value → World → Prop) : run1 Tryz.prog Z (convert 21 3 (.int q n)) w kk = kk (.int .i64 (IntKind.i64.wrap n)) w := r1_eq fun w => run_conv_int (by kernel_rfl) it3 q n w
theorem eqlf_233 (cx cy : Bool) (f : Fn) (a b : Array Value) (Z : List PanicEntry → World → Prop) (w : World) (kk : Value → World → Prop) : run1 Tryz.prog Z (eqOp .eql 233 cx cy (.func f a b) .nilFunc) w kk = kk (.bool false) w := r1_eq fun w => run_eql_func fu233 cx cy f a b w
theorem cv_142_21 (q : IntKind) (n : Int) (Z : List PanicEntry → World → Prop) (w : World) (kk : Value → World → Prop) : run1 Tryz.prog Z (convert 142 21 (.int q n)) w kk = kk (.int .i32 (IntKind.i32.wrap n)) w := r1_eq fun w => run_conv_int (by kernel_rfl) it21 q n w
theorem eqlf_236 (cx cy : Bool) (f : Fn) (a b : Array Value) (Z : List PanicEntry → World → Prop) (w : World) (kk : Value → World → Prop) : run1 Tryz.prog Z (eqOp .eql 236 cx cy (.func f a b) .nilFunc) w kk = kk (.bool false) w := r1_eq fun w => run_eql_func fu236 cx cy f a b w
theorem eqlf_128 (cx cy : Bool) (f : Fn) (a b : Array Value) (Z : List PanicEntry → World → Prop) (w : World) (kk : Value → World → Prop) : run1 Tryz.prog Z (eqOp .eql 128 cx cy (.func f a b) .nilFunc) w kk = kk (.bool false) w := r1_eq fun w => run_eql_func fu128 cx cy f a b w
theorem cv_2_21 (q : IntKind) (n : Int) (Z : List PanicEntry → World → Prop) (w : World) (kk : Value → World → Prop) : run1 Tryz.prog Z (convert 2 21 (.int q n)) w kk = kk (.int .i32 (IntKind.i32.wrap n)) w := r1_eq fun w => run_conv_int (by kernel_rfl) it21 q n w
theorem neqp_79 (cx cy : Bool) (a : Addr) (Z : List PanicEntry → World → Prop) (w : World) (kk : Value → World → Prop) : run1 Tryz.prog Z (eqOp .neq 79 cx cy (.pointer (some a)) (.pointer none)) w kk = kk (.bool true) w := r1_eq fun w => run_neq_ptr_nil pt79 cx cy a w
theorem eqlp_123 (cx cy : Bool) (a : Addr) (Z : List PanicEntry → World → Prop) (w : World) (kk : Value → World → Prop) : run1 Tryz.prog Z (eqOp .eql 123 cx cy (.pointer (some a)) (.pointer none)) w kk = kk (.bool false) w := r1_eq fun w => run_eql_ptr_nil pt123 cx cy a w
theorem fa_227_0 (b i : Nat) (Z : List PanicEntry → World → Prop) (w : World) (kk : Value → World → Prop) : run1 Tryz.prog Z (Instr.fieldAt 227 (.pointer (some ⟨b, i, none⟩)) 0) w kk = kk (.pointer (some ⟨b, i + 0, none⟩)) w := r1_eq fun w => run_fieldAt of227_0 b i w
theorem o_add (t : TypeId) (k : IntKind) (x y : Int) (Z : List PanicEntry → World → Prop) (w : World) (kk : Value → World → Prop) : run1 Tryz.prog Z (binOp .add t (.int k x) (.int k y)) w kk = kk (.int k (k.wrap (x + y))) w := r1_eq fun w => run_add _ w t k x y
theorem o_addp (t : TypeId) (k : IntKind) (x y : Int) (kv : Value → Prop) : Pure1 Tryz.prog (binOp .add t (.int k x) (.int k y)) kv = kv (.int k (k.wrap (x + y))) := rp_eq fun w => run_add _ w t k x y
theorem o_sub (t : TypeId) (k : IntKind) (x y : Int) (Z : List PanicEntry → World → Prop) (w : World) (kk : Value → World → Prop) : run1 Tryz.prog Z (binOp .sub t (.int k x) (.int k y)) w kk = kk (.int k (k.wrap (x - y))) w := r1_eq fun w => run_sub _ w t k x y
theorem o_subp (t : TypeId) (k : IntKind) (x y : Int) (kv : Value → Prop) : Pure1 Tryz.prog (binOp .sub t (.int k x) (.int k y)) kv = kv (.int k (k.wrap (x - y))) := rp_eq fun w => run_sub _ w t k x y
theorem o_mul (t : TypeId) (k : IntKind) (x y : Int) (Z : List PanicEntry → World → Prop) (w : World) (kk : Value → World → Prop) : run1 Tryz.prog Z (binOp .mul t (.int k x) (.int k y)) w kk = kk (.int k (k.wrap (x * y))) w := r1_eq fun w => run_mul _ w t k x y
theorem o_mulp (t : TypeId) (k : IntKind) (x y : Int) (kv : Value → Prop) : Pure1 Tryz.prog (binOp .mul t (.int k x) (.int k y)) kv = kv (.int k (k.wrap (x * y))) := rp_eq fun w => run_mul _ w t k x y
theorem o_lss (t : TypeId) (k : IntKind) (x y : Int) (Z : List PanicEntry → World → Prop) (w : World) (kk : Value → World → Prop) : run1 Tryz.prog Z (binOp .lss t (.int k x) (.int k y)) w kk = kk (.bool (decide (x < y))) w := r1_eq fun w => run_lss _ w t k x y
theorem o_lssp (t : TypeId) (k : IntKind) (x y : Int) (kv : Value → Prop) : Pure1 Tryz.prog (binOp .lss t (.int k x) (.int k y)) kv = kv (.bool (decide (x < y))) := rp_eq fun w => run_lss _ w t k x y
theorem o_leq (t : TypeId) (k : IntKind) (x y : Int) (Z : List PanicEntry → World → Prop) (w : World) (kk : Value → World → Prop) : run1 Tryz.prog Z (binOp .leq t (.int k x) (.int k y)) w kk = kk (.bool (decide (x ≤ y))) w := r1_eq fun w => run_leq _ w t k x y
theorem o_gtr (t : TypeId) (k : IntKind) (x y : Int) (Z : List PanicEntry → World → Prop) (w : World) (kk : Value → World → Prop) : run1 Tryz.prog Z (binOp .gtr t (.int k x) (.int k y)) w kk = kk (.bool (decide (y < x))) w := r1_eq fun w => run_gtr _ w t k x y
theorem o_gtrp (t : TypeId) (k : IntKind) (x y : Int) (kv : Value → Prop) : Pure1 Tryz.prog (binOp .gtr t (.int k x) (.int k y)) kv = kv (.bool (decide (y < x))) := rp_eq fun w => run_gtr _ w t k x y
theorem o_geq (t : TypeId) (k : IntKind) (x y : Int) (Z : List PanicEntry → World → Prop) (w : World) (kk : Value → World → Prop) : run1 Tryz.prog Z (binOp .geq t (.int k x) (.int k y)) w kk = kk (.bool (decide (y ≤ x))) w := r1_eq fun w => run_geq _ w t k x y
theorem o_geqp (t : TypeId) (k : IntKind) (x y : Int) (kv : Value → Prop) : Pure1 Tryz.prog (binOp .geq t (.int k x) (.int k y)) kv = kv (.bool (decide (y ≤ x))) := rp_eq fun w => run_geq _ w t k x y
theorem o_eql (t : TypeId) (cx cy : Bool) (k : IntKind) (x y : Int) (Z : List PanicEntry → World → Prop) (w : World) (kk : Value → World → Prop) : run1 Tryz.prog Z (eqOp .eql t cx cy (.int k x) (.int k y)) w kk = kk (.bool (x == y)) w := r1_eq fun w => run_eql_int _ w t cx cy k x y
theorem o_eqlp (t : TypeId) (cx cy : Bool) (k : IntKind) (x y : Int) (kv : Value → Prop) : Pure1 Tryz.prog (eqOp .eql t cx cy (.int k x) (.int k y)) kv = kv (.bool (x == y)) := rp_eq fun w => run_eql_int _ w t cx cy k x y
theorem o_neq (t : TypeId) (cx cy : Bool) (k : IntKind) (x y : Int) (Z : List PanicEntry → World → Prop) (w : World) (kk : Value → World → Prop) : run1 Tryz.prog Z (eqOp .neq t cx cy (.int k x) (.int k y)) w kk = kk (.bool (x != y)) w := r1_eq fun w => run_neq_int _ w t cx cy k x y
theorem o_neqp (t : TypeId) (cx cy : Bool) (k : IntKind) (x y : Int) (kv : Value → Prop) : Pure1 Tryz.prog (eqOp .neq t cx cy (.int k x) (.int k y)) kv = kv (.bool (x != y)) := rp_eq fun w => run_neq_int _ w t cx cy k x y
theorem os_eqlp (t : TypeId) (cx cy : Bool) (a b : ByteArray) (kv : Value → Prop) : Pure1 Tryz.prog (eqOp .eql t cx cy (.string a) (.string b)) kv = kv (.bool ((a.toList == b.toList))) := rp_eq fun w => run_eql_str t cx cy a b w
theorem o_and (t : TypeId) (k : IntKind) (x y : Int) (Z : List PanicEntry → World → Prop) (w : World) (kk : Value → World → Prop) : run1 Tryz.prog Z (binOp .and t (.int k x) (.int k y)) w kk = kk (.int k (k.wrap (BitVec.ofInt k.bits x &&& BitVec.ofInt k.bits y).toNat)) w := r1_eq fun w => run_and _ w t k x y
theorem o_or (t : TypeId) (k : IntKind) (x y : Int) (Z : List PanicEntry → World → Prop) (w : World) (kk : Value → World → Prop) : run1 Tryz.prog Z (binOp .or t (.int k x) (.int k y)) w kk = kk (.int k (k.wrap (BitVec.ofInt k.bits x ||| BitVec.ofInt k.bits y).toNat)) w := r1_eq fun w => run_or _ w t k x y
theorem o_not (b : Bool) (Z : List PanicEntry → World → Prop) (w : World) (kk : Value → World → Prop) : run1 Tryz.prog Z (Op.unary .not (.bool b)) w kk = kk (.bool !b) w := r1_eq fun w => run_not _ w b
theorem o_notp (b : Bool) (kv : Value → Prop) : Pure1 Tryz.prog (Op.unary .not (.bool b)) kv = kv (.bool !b) := rp_eq fun w => run_not _ w b
theorem o_pickT (x y : Value) (Z : List PanicEntry → World → Prop) (w : World) (kk : Value → World → Prop) : run1 Tryz.prog Z (pickV (.bool true) x y) w kk = kk x w := r1_eq fun w => run_pick _ w true x y
theorem o_pickTp (x y : Value) (kv : Value → Prop) : Pure1 Tryz.prog (pickV (.bool true) x y) kv = kv x := rp_eq fun w => run_pick _ w true x y
theorem o_pickF (x y : Value) (Z : List PanicEntry → World → Prop) (w : World) (kk : Value → World → Prop) : run1 Tryz.prog Z (pickV (.bool false) x y) w kk = kk y w := r1_eq fun w => run_pick _ w false x y
theorem o_pickFp (x y : Value) (kv : Value → Prop) : Pure1 Tryz.prog (pickV (.bool false) x y) kv = kv y := rp_eq fun w => run_pick _ w false x y
theorem o_ext2_0 (v0 v1 : Value) (Z : List PanicEntry → World → Prop) (w : World) (kk : Value → World → Prop) : run1 Tryz.prog Z (Instr.extract (.tuple #[v0, v1]) 0) w kk = kk v0 w := r1_eq fun w => run_extract _ w _ 0 _ rfl
theorem o_ext2_1 (v0 v1 : Value) (Z : List PanicEntry → World → Prop) (w : World) (kk : Value → World → Prop) : run1 Tryz.prog Z (Instr.extract (.tuple #[v0, v1]) 1) w kk = kk v1 w := r1_eq fun w => run_extract _ w _ 1 _ rfl
theorem o_fn (fn : Fn) (a b : Array Value) (Z : List PanicEntry → World → Prop) (w : World) (kk : Value → World → Prop) : run1 Tryz.prog Z (Instr.makeFunc fn a b) w kk = kk (.func fn a b) w := r1_eq fun w => run_makeFunc _ w fn a b
theorem o_chk (a : Addr) (Z : List PanicEntry → World → Prop) (w : World) (kk : Value → World → Prop) : runX Tryz.prog Z (nilChk (.pointer (some a))) w kk = kk (.pointer (some a)) w := rX_eq fun w => run_nilChk _ w a
theorem o_chkp (a : Addr) (kv : Value → Prop) : PureV Tryz.prog (nilChk (.pointer (some a))) kv = kv (.pointer (some a)) := rpV_eq fun w => run_nilChk _ w a
end Go.Proofs.YtpdehbbkpekoiaaGreatDoor
