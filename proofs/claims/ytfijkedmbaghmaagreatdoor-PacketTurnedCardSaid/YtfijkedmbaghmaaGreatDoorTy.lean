import Derived.Test.YtfijkedmbaghmaaGreatDoorShOpen
import Derived.Test.YtfijkedmbaghmaaGreatDoorProg
set_option linter.unusedVariables false
namespace Go.Proofs.YtfijkedmbaghmaaGreatDoor
open Go.Sh
theorem it2 : intT Tryz.prog 2 = some .i64 := by kernel_rfl
theorem one2 : oneT Tryz.prog 2 = true := by kernel_rfl
theorem it3 : intT Tryz.prog 3 = some .i64 := by kernel_rfl
theorem one3 : oneT Tryz.prog 3 = true := by kernel_rfl
theorem bo4 : isBoolT Tryz.prog 4 = true := by kernel_rfl
theorem one4 : oneT Tryz.prog 4 = true := by kernel_rfl
theorem it5 : intT Tryz.prog 5 = some .u8 := by kernel_rfl
theorem one5 : oneT Tryz.prog 5 = true := by kernel_rfl
theorem st9 : isStrT Tryz.prog 9 = true := by kernel_rfl
theorem one9 : oneT Tryz.prog 9 = true := by kernel_rfl
theorem it21 : intT Tryz.prog 21 = some .i32 := by kernel_rfl
theorem one21 : oneT Tryz.prog 21 = true := by kernel_rfl
theorem it22 : intT Tryz.prog 22 = some .i8 := by kernel_rfl
theorem one22 : oneT Tryz.prog 22 = true := by kernel_rfl
theorem it23 : intT Tryz.prog 23 = some .u32 := by kernel_rfl
theorem one23 : oneT Tryz.prog 23 = true := by kernel_rfl
theorem ag25 : aggT Tryz.prog 25 2 = true := by kernel_rfl
theorem ze25 : zeroT Tryz.prog 25 = some (.agg #[(.int .u32 0), (.int .u32 0)]) := by kernel_rfl
theorem of25_0 : offT Tryz.prog 25 0 = some 0 := by kernel_rfl
theorem of25_1 : offT Tryz.prog 25 1 = some 1 := by kernel_rfl
theorem ag27 : aggT Tryz.prog 27 2 = true := by kernel_rfl
theorem ze27 : zeroT Tryz.prog 27 = some (.agg #[(.int .u32 0), (.int .u32 0)]) := by kernel_rfl
theorem of27_0 : offT Tryz.prog 27 0 = some 0 := by kernel_rfl
theorem of27_1 : offT Tryz.prog 27 1 = some 1 := by kernel_rfl
theorem ag29 : aggT Tryz.prog 29 3 = true := by kernel_rfl
theorem of29_0 : offT Tryz.prog 29 0 = some 0 := by kernel_rfl
theorem of29_1 : offT Tryz.prog 29 1 = some 1 := by kernel_rfl
theorem of29_2 : offT Tryz.prog 29 2 = some 2 := by kernel_rfl
theorem sl30 : isSliceT Tryz.prog 30 = true := by kernel_rfl
theorem one30 : oneT Tryz.prog 30 = true := by kernel_rfl
theorem el30 : El Tryz.prog 30 5 1 1 (.int .u8 0) := ⟨Tryz.underlying30, by kernel_rfl, by kernel_rfl, by decide⟩
theorem sl31 : isSliceT Tryz.prog 31 = true := by kernel_rfl
theorem one31 : oneT Tryz.prog 31 = true := by kernel_rfl
theorem el31 : El Tryz.prog 31 178 3 40 (.agg #[(.int .i8 0), (.string ByteArray.empty), (.string ByteArray.empty)]) := ⟨Tryz.underlying31, by kernel_rfl, by kernel_rfl, by decide⟩
theorem sl32 : isSliceT Tryz.prog 32 = true := by kernel_rfl
theorem one32 : oneT Tryz.prog 32 = true := by kernel_rfl
theorem el32 : El Tryz.prog 32 175 2 32 (.agg #[(.string ByteArray.empty), (.string ByteArray.empty)]) := ⟨Tryz.underlying32, by kernel_rfl, by kernel_rfl, by decide⟩
theorem sl33 : isSliceT Tryz.prog 33 = true := by kernel_rfl
theorem one33 : oneT Tryz.prog 33 = true := by kernel_rfl
theorem el33 : El Tryz.prog 33 35 11 144 (.agg #[(.int .i8 0), (.string ByteArray.empty), (.slice none 0 0), (.slice none 0 0), (.int .i32 0), (.bool false), (.bool false), (.int .i64 0), (.int .i32 0), (.slice none 0 0), (.slice none 0 0)]) := ⟨Tryz.underlying33, by kernel_rfl, by kernel_rfl, by decide⟩
theorem ag35 : aggT Tryz.prog 35 11 = true := by kernel_rfl
theorem ze35 : zeroT Tryz.prog 35 = some (.agg #[(.int .i8 0), (.string ByteArray.empty), (.slice none 0 0), (.slice none 0 0), (.int .i32 0), (.bool false), (.bool false), (.int .i64 0), (.int .i32 0), (.slice none 0 0), (.slice none 0 0)]) := by kernel_rfl
theorem of35_0 : offT Tryz.prog 35 0 = some 0 := by kernel_rfl
theorem of35_1 : offT Tryz.prog 35 1 = some 1 := by kernel_rfl
theorem of35_2 : offT Tryz.prog 35 2 = some 2 := by kernel_rfl
theorem of35_3 : offT Tryz.prog 35 3 = some 3 := by kernel_rfl
theorem of35_4 : offT Tryz.prog 35 4 = some 4 := by kernel_rfl
theorem of35_5 : offT Tryz.prog 35 5 = some 5 := by kernel_rfl
theorem of35_6 : offT Tryz.prog 35 6 = some 6 := by kernel_rfl
theorem of35_7 : offT Tryz.prog 35 7 = some 7 := by kernel_rfl
theorem of35_8 : offT Tryz.prog 35 8 = some 8 := by kernel_rfl
theorem of35_9 : offT Tryz.prog 35 9 = some 9 := by kernel_rfl
theorem of35_10 : offT Tryz.prog 35 10 = some 10 := by kernel_rfl
theorem ag37 : aggT Tryz.prog 37 16 = true := by kernel_rfl
theorem ze37 : zeroT Tryz.prog 37 = some (.agg #[(.int .u32 0), (.int .u32 0), (.int .i8 0), (.int .u32 0), (.int .i64 0), (.int .i8 0), (.string ByteArray.empty), (.slice none 0 0), (.slice none 0 0), (.int .i32 0), (.bool false), (.bool false), (.int .i64 0), (.int .i32 0), (.slice none 0 0), (.slice none 0 0)]) := by kernel_rfl
theorem of37_0 : offT Tryz.prog 37 0 = some 0 := by kernel_rfl
theorem of37_1 : offT Tryz.prog 37 1 = some 2 := by kernel_rfl
theorem of37_2 : offT Tryz.prog 37 2 = some 5 := by kernel_rfl
theorem ag39 : aggT Tryz.prog 39 32 = true := by kernel_rfl
theorem ze39 : zeroT Tryz.prog 39 = some (.agg #[(.int .i8 0), (.int .u32 0), (.int .u32 0), (.int .u32 0), (.int .u32 0), (.int .i64 0), (.int .u32 0), (.int .u32 0), (.int .u32 0), (.int .u32 0), (.int .u32 0), (.int .u32 0), (.bool false), (.bool false), (.int .u32 0), (.int .u32 0), (.int .i8 0), (.int .u32 0), (.int .i64 0), (.int .i8 0), (.string ByteArray.empty), (.slice none 0 0), (.slice none 0 0), (.int .i32 0), (.bool false), (.bool false), (.int .i64 0), (.int .i32 0), (.slice none 0 0), (.slice none 0 0), (.slice none 0 0), (.int .i64 0)]) := by kernel_rfl
theorem of39_0 : offT Tryz.prog 39 0 = some 0 := by kernel_rfl
theorem of39_1 : offT Tryz.prog 39 1 = some 1 := by kernel_rfl
theorem of39_2 : offT Tryz.prog 39 2 = some 3 := by kernel_rfl
theorem of39_3 : offT Tryz.prog 39 3 = some 5 := by kernel_rfl
theorem of39_4 : offT Tryz.prog 39 4 = some 6 := by kernel_rfl
theorem of39_5 : offT Tryz.prog 39 5 = some 7 := by kernel_rfl
theorem of39_6 : offT Tryz.prog 39 6 = some 8 := by kernel_rfl
theorem of39_7 : offT Tryz.prog 39 7 = some 10 := by kernel_rfl
theorem of39_8 : offT Tryz.prog 39 8 = some 12 := by kernel_rfl
theorem of39_9 : offT Tryz.prog 39 9 = some 13 := by kernel_rfl
theorem of39_10 : offT Tryz.prog 39 10 = some 14 := by kernel_rfl
theorem of39_11 : offT Tryz.prog 39 11 = some 30 := by kernel_rfl
theorem of39_12 : offT Tryz.prog 39 12 = some 31 := by kernel_rfl
theorem one43 : oneT Tryz.prog 43 = true := by kernel_rfl
theorem ze43 : zeroT Tryz.prog 43 = some (.int .i64 0) := by kernel_rfl
theorem pt86 : isPtrT Tryz.prog 86 = true := by kernel_rfl
theorem of88_0 : offT Tryz.prog 88 0 = some 0 := by kernel_rfl
theorem sl90 : isSliceT Tryz.prog 90 = true := by kernel_rfl
theorem el90 : El Tryz.prog 90 96 4 32 (.agg #[(.int .i64 0), .nilFunc, .nilFunc, .nilFunc]) := ⟨Tryz.underlying90, by kernel_rfl, by kernel_rfl, by decide⟩
theorem one92 : oneT Tryz.prog 92 = true := by kernel_rfl
theorem one93 : oneT Tryz.prog 93 = true := by kernel_rfl
theorem one94 : oneT Tryz.prog 94 = true := by kernel_rfl
theorem ag96 : aggT Tryz.prog 96 4 = true := by kernel_rfl
theorem ze96 : zeroT Tryz.prog 96 = some (.agg #[(.int .i64 0), .nilFunc, .nilFunc, .nilFunc]) := by kernel_rfl
theorem of96_0 : offT Tryz.prog 96 0 = some 0 := by kernel_rfl
theorem of96_1 : offT Tryz.prog 96 1 = some 1 := by kernel_rfl
theorem of96_2 : offT Tryz.prog 96 2 = some 2 := by kernel_rfl
theorem of96_3 : offT Tryz.prog 96 3 = some 3 := by kernel_rfl
theorem pt136 : isPtrT Tryz.prog 136 = true := by kernel_rfl
theorem it147 : intT Tryz.prog 147 = some .u64 := by kernel_rfl
theorem one155 : oneT Tryz.prog 155 = true := by kernel_rfl
theorem ze155 : zeroT Tryz.prog 155 = some (.int .u64 0) := by kernel_rfl
theorem ag157 : aggT Tryz.prog 157 14 = true := by kernel_rfl
theorem ze157 : zeroT Tryz.prog 157 = some (.agg #[(.int .u32 0), (.int .u32 0), (.int .u32 0), (.int .u32 0), (.int .i64 0), (.int .i64 0), (.int .u32 0), (.int .u32 0), (.int .u32 0), (.int .u32 0), (.int .u32 0), (.int .u32 0), (.bool false), (.bool false)]) := by kernel_rfl
theorem of157_0 : offT Tryz.prog 157 0 = some 0 := by kernel_rfl
theorem of157_1 : offT Tryz.prog 157 1 = some 2 := by kernel_rfl
theorem of157_2 : offT Tryz.prog 157 2 = some 4 := by kernel_rfl
theorem of157_3 : offT Tryz.prog 157 3 = some 5 := by kernel_rfl
theorem of157_4 : offT Tryz.prog 157 4 = some 6 := by kernel_rfl
theorem of157_5 : offT Tryz.prog 157 5 = some 7 := by kernel_rfl
theorem of157_6 : offT Tryz.prog 157 6 = some 8 := by kernel_rfl
theorem of157_7 : offT Tryz.prog 157 7 = some 10 := by kernel_rfl
theorem of157_8 : offT Tryz.prog 157 8 = some 12 := by kernel_rfl
theorem of157_9 : offT Tryz.prog 157 9 = some 13 := by kernel_rfl
theorem sl168 : isSliceT Tryz.prog 168 = true := by kernel_rfl
theorem el168 : El Tryz.prog 168 3 1 8 (.int .i64 0) := ⟨Tryz.underlying168, by kernel_rfl, by kernel_rfl, by decide⟩
theorem ag175 : aggT Tryz.prog 175 2 = true := by kernel_rfl
theorem ze175 : zeroT Tryz.prog 175 = some (.agg #[(.string ByteArray.empty), (.string ByteArray.empty)]) := by kernel_rfl
theorem of175_0 : offT Tryz.prog 175 0 = some 0 := by kernel_rfl
theorem of175_1 : offT Tryz.prog 175 1 = some 1 := by kernel_rfl
theorem ag178 : aggT Tryz.prog 178 3 = true := by kernel_rfl
theorem ze178 : zeroT Tryz.prog 178 = some (.agg #[(.int .i8 0), (.string ByteArray.empty), (.string ByteArray.empty)]) := by kernel_rfl
theorem of178_0 : offT Tryz.prog 178 0 = some 0 := by kernel_rfl
theorem of178_1 : offT Tryz.prog 178 1 = some 1 := by kernel_rfl
theorem of239_0 : offT Tryz.prog 239 0 = some 0 := by kernel_rfl
theorem of239_1 : offT Tryz.prog 239 1 = some 1 := by kernel_rfl
theorem of239_2 : offT Tryz.prog 239 2 = some 2 := by kernel_rfl
theorem ag267 : aggT Tryz.prog 267 1 = true := by kernel_rfl
theorem of267_0 : offT Tryz.prog 267 0 = some 0 := by kernel_rfl
theorem fu268 : isFuncT Tryz.prog 268 = true := by kernel_rfl
theorem fu269 : isFuncT Tryz.prog 269 = true := by kernel_rfl
theorem fu282 : isFuncT Tryz.prog 282 = true := by kernel_rfl
theorem fu284 : isFuncT Tryz.prog 284 = true := by kernel_rfl
theorem fu288 : isFuncT Tryz.prog 288 = true := by kernel_rfl
theorem fu290 : isFuncT Tryz.prog 290 = true := by kernel_rfl
theorem fa_39_11 (b i : Nat) (Z : List PanicEntry → World → Prop) (w : World) (kk : Value → World → Prop) : run1 Tryz.prog Z (Instr.fieldAt 39 (.pointer (some ⟨b, i, none⟩)) 11) w kk = kk (.pointer (some ⟨b, i + 30, none⟩)) w := r1_eq fun w => run_fieldAt of39_11 b i w
theorem fa_39_11p (b i : Nat) (kv : Value → Prop) : Pure1 Tryz.prog (Instr.fieldAt 39 (.pointer (some ⟨b, i, none⟩)) 11) kv = kv (.pointer (some ⟨b, i + 30, none⟩)) := rp_eq fun w => run_fieldAt of39_11 b i w
theorem ln_30_3 (a : Option Addr) (n c : Nat) (Z : List PanicEntry → World → Prop) (w : World) (kk : Value → World → Prop) : run1 Tryz.prog Z (Builtin.len_ #[30] 3 #[.slice a n c]) w kk = kk (.int .i64 n) w := r1_eq fun w => run_lenS sl30 _ rfl _ a n c w
theorem ln_30_3p (a : Option Addr) (n c : Nat) (kv : Value → Prop) : Pure1 Tryz.prog (Builtin.len_ #[30] 3 #[.slice a n c]) kv = kv (.int .i64 n) := rp_eq fun w => run_lenS sl30 _ rfl _ a n c w
theorem fa_39_10 (b i : Nat) (Z : List PanicEntry → World → Prop) (w : World) (kk : Value → World → Prop) : run1 Tryz.prog Z (Instr.fieldAt 39 (.pointer (some ⟨b, i, none⟩)) 10) w kk = kk (.pointer (some ⟨b, i + 14, none⟩)) w := r1_eq fun w => run_fieldAt of39_10 b i w
theorem fa_39_10p (b i : Nat) (kv : Value → Prop) : Pure1 Tryz.prog (Instr.fieldAt 39 (.pointer (some ⟨b, i, none⟩)) 10) kv = kv (.pointer (some ⟨b, i + 14, none⟩)) := rp_eq fun w => run_fieldAt of39_10 b i w
theorem fa_37_2 (b i : Nat) (Z : List PanicEntry → World → Prop) (w : World) (kk : Value → World → Prop) : run1 Tryz.prog Z (Instr.fieldAt 37 (.pointer (some ⟨b, i, none⟩)) 2) w kk = kk (.pointer (some ⟨b, i + 5, none⟩)) w := r1_eq fun w => run_fieldAt of37_2 b i w
theorem fa_35_2 (b i : Nat) (Z : List PanicEntry → World → Prop) (w : World) (kk : Value → World → Prop) : run1 Tryz.prog Z (Instr.fieldAt 35 (.pointer (some ⟨b, i, none⟩)) 2) w kk = kk (.pointer (some ⟨b, i + 2, none⟩)) w := r1_eq fun w => run_fieldAt of35_2 b i w
theorem neqb_4 (cx cy a b : Bool) (Z : List PanicEntry → World → Prop) (w : World) (kk : Value → World → Prop) : run1 Tryz.prog Z (eqOp .neq 4 cx cy (.bool a) (.bool b)) w kk = kk (.bool (a != b)) w := r1_eq fun w => run_neq_boolV bo4 cx cy a b w
theorem fa_39_0 (b i : Nat) (Z : List PanicEntry → World → Prop) (w : World) (kk : Value → World → Prop) : run1 Tryz.prog Z (Instr.fieldAt 39 (.pointer (some ⟨b, i, none⟩)) 0) w kk = kk (.pointer (some ⟨b, i + 0, none⟩)) w := r1_eq fun w => run_fieldAt of39_0 b i w
theorem ln_90_3 (a : Option Addr) (n c : Nat) (Z : List PanicEntry → World → Prop) (w : World) (kk : Value → World → Prop) : run1 Tryz.prog Z (Builtin.len_ #[90] 3 #[.slice a n c]) w kk = kk (.int .i64 n) w := r1_eq fun w => run_lenS sl90 _ rfl _ a n c w
theorem fa_96_0 (b i : Nat) (Z : List PanicEntry → World → Prop) (w : World) (kk : Value → World → Prop) : run1 Tryz.prog Z (Instr.fieldAt 96 (.pointer (some ⟨b, i, none⟩)) 0) w kk = kk (.pointer (some ⟨b, i + 0, none⟩)) w := r1_eq fun w => run_fieldAt of96_0 b i w
theorem fa_96_1 (b i : Nat) (Z : List PanicEntry → World → Prop) (w : World) (kk : Value → World → Prop) : run1 Tryz.prog Z (Instr.fieldAt 96 (.pointer (some ⟨b, i, none⟩)) 1) w kk = kk (.pointer (some ⟨b, i + 1, none⟩)) w := r1_eq fun w => run_fieldAt of96_1 b i w
theorem fa_96_3 (b i : Nat) (Z : List PanicEntry → World → Prop) (w : World) (kk : Value → World → Prop) : run1 Tryz.prog Z (Instr.fieldAt 96 (.pointer (some ⟨b, i, none⟩)) 3) w kk = kk (.pointer (some ⟨b, i + 3, none⟩)) w := r1_eq fun w => run_fieldAt of96_3 b i w
theorem fa_39_1 (b i : Nat) (Z : List PanicEntry → World → Prop) (w : World) (kk : Value → World → Prop) : run1 Tryz.prog Z (Instr.fieldAt 39 (.pointer (some ⟨b, i, none⟩)) 1) w kk = kk (.pointer (some ⟨b, i + 1, none⟩)) w := r1_eq fun w => run_fieldAt of39_1 b i w
theorem fa_39_1p (b i : Nat) (kv : Value → Prop) : Pure1 Tryz.prog (Instr.fieldAt 39 (.pointer (some ⟨b, i, none⟩)) 1) kv = kv (.pointer (some ⟨b, i + 1, none⟩)) := rp_eq fun w => run_fieldAt of39_1 b i w
theorem fa_39_2 (b i : Nat) (Z : List PanicEntry → World → Prop) (w : World) (kk : Value → World → Prop) : run1 Tryz.prog Z (Instr.fieldAt 39 (.pointer (some ⟨b, i, none⟩)) 2) w kk = kk (.pointer (some ⟨b, i + 3, none⟩)) w := r1_eq fun w => run_fieldAt of39_2 b i w
theorem fa_39_2p (b i : Nat) (kv : Value → Prop) : Pure1 Tryz.prog (Instr.fieldAt 39 (.pointer (some ⟨b, i, none⟩)) 2) kv = kv (.pointer (some ⟨b, i + 3, none⟩)) := rp_eq fun w => run_fieldAt of39_2 b i w
theorem fa_39_6 (b i : Nat) (Z : List PanicEntry → World → Prop) (w : World) (kk : Value → World → Prop) : run1 Tryz.prog Z (Instr.fieldAt 39 (.pointer (some ⟨b, i, none⟩)) 6) w kk = kk (.pointer (some ⟨b, i + 8, none⟩)) w := r1_eq fun w => run_fieldAt of39_6 b i w
theorem fa_39_6p (b i : Nat) (kv : Value → Prop) : Pure1 Tryz.prog (Instr.fieldAt 39 (.pointer (some ⟨b, i, none⟩)) 6) kv = kv (.pointer (some ⟨b, i + 8, none⟩)) := rp_eq fun w => run_fieldAt of39_6 b i w
theorem fa_39_7 (b i : Nat) (Z : List PanicEntry → World → Prop) (w : World) (kk : Value → World → Prop) : run1 Tryz.prog Z (Instr.fieldAt 39 (.pointer (some ⟨b, i, none⟩)) 7) w kk = kk (.pointer (some ⟨b, i + 10, none⟩)) w := r1_eq fun w => run_fieldAt of39_7 b i w
theorem fa_39_7p (b i : Nat) (kv : Value → Prop) : Pure1 Tryz.prog (Instr.fieldAt 39 (.pointer (some ⟨b, i, none⟩)) 7) kv = kv (.pointer (some ⟨b, i + 10, none⟩)) := rp_eq fun w => run_fieldAt of39_7 b i w
theorem fa_39_3 (b i : Nat) (Z : List PanicEntry → World → Prop) (w : World) (kk : Value → World → Prop) : run1 Tryz.prog Z (Instr.fieldAt 39 (.pointer (some ⟨b, i, none⟩)) 3) w kk = kk (.pointer (some ⟨b, i + 5, none⟩)) w := r1_eq fun w => run_fieldAt of39_3 b i w
theorem fa_39_4 (b i : Nat) (Z : List PanicEntry → World → Prop) (w : World) (kk : Value → World → Prop) : run1 Tryz.prog Z (Instr.fieldAt 39 (.pointer (some ⟨b, i, none⟩)) 4) w kk = kk (.pointer (some ⟨b, i + 6, none⟩)) w := r1_eq fun w => run_fieldAt of39_4 b i w
theorem fa_39_5 (b i : Nat) (Z : List PanicEntry → World → Prop) (w : World) (kk : Value → World → Prop) : run1 Tryz.prog Z (Instr.fieldAt 39 (.pointer (some ⟨b, i, none⟩)) 5) w kk = kk (.pointer (some ⟨b, i + 7, none⟩)) w := r1_eq fun w => run_fieldAt of39_5 b i w
theorem fa_39_8 (b i : Nat) (Z : List PanicEntry → World → Prop) (w : World) (kk : Value → World → Prop) : run1 Tryz.prog Z (Instr.fieldAt 39 (.pointer (some ⟨b, i, none⟩)) 8) w kk = kk (.pointer (some ⟨b, i + 12, none⟩)) w := r1_eq fun w => run_fieldAt of39_8 b i w
theorem fa_39_9 (b i : Nat) (Z : List PanicEntry → World → Prop) (w : World) (kk : Value → World → Prop) : run1 Tryz.prog Z (Instr.fieldAt 39 (.pointer (some ⟨b, i, none⟩)) 9) w kk = kk (.pointer (some ⟨b, i + 13, none⟩)) w := r1_eq fun w => run_fieldAt of39_9 b i w
theorem fa_39_12 (b i : Nat) (Z : List PanicEntry → World → Prop) (w : World) (kk : Value → World → Prop) : run1 Tryz.prog Z (Instr.fieldAt 39 (.pointer (some ⟨b, i, none⟩)) 12) w kk = kk (.pointer (some ⟨b, i + 31, none⟩)) w := r1_eq fun w => run_fieldAt of39_12 b i w
theorem fa_39_12p (b i : Nat) (kv : Value → Prop) : Pure1 Tryz.prog (Instr.fieldAt 39 (.pointer (some ⟨b, i, none⟩)) 12) kv = kv (.pointer (some ⟨b, i + 31, none⟩)) := rp_eq fun w => run_fieldAt of39_12 b i w
theorem fa_27_1 (b i : Nat) (Z : List PanicEntry → World → Prop) (w : World) (kk : Value → World → Prop) : run1 Tryz.prog Z (Instr.fieldAt 27 (.pointer (some ⟨b, i, none⟩)) 1) w kk = kk (.pointer (some ⟨b, i + 1, none⟩)) w := r1_eq fun w => run_fieldAt of27_1 b i w
theorem fa_27_1p (b i : Nat) (kv : Value → Prop) : Pure1 Tryz.prog (Instr.fieldAt 27 (.pointer (some ⟨b, i, none⟩)) 1) kv = kv (.pointer (some ⟨b, i + 1, none⟩)) := rp_eq fun w => run_fieldAt of27_1 b i w
theorem fa_37_0 (b i : Nat) (Z : List PanicEntry → World → Prop) (w : World) (kk : Value → World → Prop) : run1 Tryz.prog Z (Instr.fieldAt 37 (.pointer (some ⟨b, i, none⟩)) 0) w kk = kk (.pointer (some ⟨b, i + 0, none⟩)) w := r1_eq fun w => run_fieldAt of37_0 b i w
theorem fa_37_0p (b i : Nat) (kv : Value → Prop) : Pure1 Tryz.prog (Instr.fieldAt 37 (.pointer (some ⟨b, i, none⟩)) 0) kv = kv (.pointer (some ⟨b, i + 0, none⟩)) := rp_eq fun w => run_fieldAt of37_0 b i w
theorem fa_37_1 (b i : Nat) (Z : List PanicEntry → World → Prop) (w : World) (kk : Value → World → Prop) : run1 Tryz.prog Z (Instr.fieldAt 37 (.pointer (some ⟨b, i, none⟩)) 1) w kk = kk (.pointer (some ⟨b, i + 2, none⟩)) w := r1_eq fun w => run_fieldAt of37_1 b i w
theorem fa_29_2 (b i : Nat) (Z : List PanicEntry → World → Prop) (w : World) (kk : Value → World → Prop) : run1 Tryz.prog Z (Instr.fieldAt 29 (.pointer (some ⟨b, i, none⟩)) 2) w kk = kk (.pointer (some ⟨b, i + 2, none⟩)) w := r1_eq fun w => run_fieldAt of29_2 b i w
theorem fa_96_2 (b i : Nat) (Z : List PanicEntry → World → Prop) (w : World) (kk : Value → World → Prop) : run1 Tryz.prog Z (Instr.fieldAt 96 (.pointer (some ⟨b, i, none⟩)) 2) w kk = kk (.pointer (some ⟨b, i + 2, none⟩)) w := r1_eq fun w => run_fieldAt of96_2 b i w
theorem ln_9_3 (s : ByteArray) (Z : List PanicEntry → World → Prop) (w : World) (kk : Value → World → Prop) : run1 Tryz.prog Z (Builtin.len_ #[9] 3 #[.string s]) w kk = kk (.int .i64 s.size) w := r1_eq fun w => run_lenStr st9 _ rfl _ s w
theorem cv_22_147 (q : IntKind) (n : Int) (Z : List PanicEntry → World → Prop) (w : World) (kk : Value → World → Prop) : run1 Tryz.prog Z (convert 22 147 (.int q n)) w kk = kk (.int .u64 (IntKind.u64.wrap n)) w := r1_eq fun w => run_conv_int (by kernel_rfl) it147 q n w
theorem eqlp_86 (cx cy : Bool) (a : Addr) (Z : List PanicEntry → World → Prop) (w : World) (kk : Value → World → Prop) : run1 Tryz.prog Z (eqOp .eql 86 cx cy (.pointer (some a)) (.pointer none)) w kk = kk (.bool false) w := r1_eq fun w => run_eql_ptr_nil pt86 cx cy a w
theorem fa_88_0 (b i : Nat) (Z : List PanicEntry → World → Prop) (w : World) (kk : Value → World → Prop) : run1 Tryz.prog Z (Instr.fieldAt 88 (.pointer (some ⟨b, i, none⟩)) 0) w kk = kk (.pointer (some ⟨b, i + 0, none⟩)) w := r1_eq fun w => run_fieldAt of88_0 b i w
theorem fa_88_0p (b i : Nat) (kv : Value → Prop) : Pure1 Tryz.prog (Instr.fieldAt 88 (.pointer (some ⟨b, i, none⟩)) 0) kv = kv (.pointer (some ⟨b, i + 0, none⟩)) := rp_eq fun w => run_fieldAt of88_0 b i w
theorem cv_23_147 (q : IntKind) (n : Int) (Z : List PanicEntry → World → Prop) (w : World) (kk : Value → World → Prop) : run1 Tryz.prog Z (convert 23 147 (.int q n)) w kk = kk (.int .u64 (IntKind.u64.wrap n)) w := r1_eq fun w => run_conv_int (by kernel_rfl) it147 q n w
theorem cv_5_23 (q : IntKind) (n : Int) (Z : List PanicEntry → World → Prop) (w : World) (kk : Value → World → Prop) : run1 Tryz.prog Z (convert 5 23 (.int q n)) w kk = kk (.int .u32 (IntKind.u32.wrap n)) w := r1_eq fun w => run_conv_int (by kernel_rfl) it23 q n w
theorem neqp_86 (cx cy : Bool) (a : Addr) (Z : List PanicEntry → World → Prop) (w : World) (kk : Value → World → Prop) : run1 Tryz.prog Z (eqOp .neq 86 cx cy (.pointer (some a)) (.pointer none)) w kk = kk (.bool true) w := r1_eq fun w => run_neq_ptr_nil pt86 cx cy a w
theorem fa_25_0 (b i : Nat) (Z : List PanicEntry → World → Prop) (w : World) (kk : Value → World → Prop) : run1 Tryz.prog Z (Instr.fieldAt 25 (.pointer (some ⟨b, i, none⟩)) 0) w kk = kk (.pointer (some ⟨b, i + 0, none⟩)) w := r1_eq fun w => run_fieldAt of25_0 b i w
theorem fa_25_1 (b i : Nat) (Z : List PanicEntry → World → Prop) (w : World) (kk : Value → World → Prop) : run1 Tryz.prog Z (Instr.fieldAt 25 (.pointer (some ⟨b, i, none⟩)) 1) w kk = kk (.pointer (some ⟨b, i + 1, none⟩)) w := r1_eq fun w => run_fieldAt of25_1 b i w
theorem fa_27_0 (b i : Nat) (Z : List PanicEntry → World → Prop) (w : World) (kk : Value → World → Prop) : run1 Tryz.prog Z (Instr.fieldAt 27 (.pointer (some ⟨b, i, none⟩)) 0) w kk = kk (.pointer (some ⟨b, i + 0, none⟩)) w := r1_eq fun w => run_fieldAt of27_0 b i w
theorem fa_27_0p (b i : Nat) (kv : Value → Prop) : Pure1 Tryz.prog (Instr.fieldAt 27 (.pointer (some ⟨b, i, none⟩)) 0) kv = kv (.pointer (some ⟨b, i + 0, none⟩)) := rp_eq fun w => run_fieldAt of27_0 b i w
theorem cv_23_2 (q : IntKind) (n : Int) (Z : List PanicEntry → World → Prop) (w : World) (kk : Value → World → Prop) : run1 Tryz.prog Z (convert 23 2 (.int q n)) w kk = kk (.int .i64 (IntKind.i64.wrap n)) w := r1_eq fun w => run_conv_int (by kernel_rfl) it2 q n w
theorem fa_29_0 (b i : Nat) (Z : List PanicEntry → World → Prop) (w : World) (kk : Value → World → Prop) : run1 Tryz.prog Z (Instr.fieldAt 29 (.pointer (some ⟨b, i, none⟩)) 0) w kk = kk (.pointer (some ⟨b, i + 0, none⟩)) w := r1_eq fun w => run_fieldAt of29_0 b i w
theorem fa_35_0 (b i : Nat) (Z : List PanicEntry → World → Prop) (w : World) (kk : Value → World → Prop) : run1 Tryz.prog Z (Instr.fieldAt 35 (.pointer (some ⟨b, i, none⟩)) 0) w kk = kk (.pointer (some ⟨b, i + 0, none⟩)) w := r1_eq fun w => run_fieldAt of35_0 b i w
theorem fa_35_3 (b i : Nat) (Z : List PanicEntry → World → Prop) (w : World) (kk : Value → World → Prop) : run1 Tryz.prog Z (Instr.fieldAt 35 (.pointer (some ⟨b, i, none⟩)) 3) w kk = kk (.pointer (some ⟨b, i + 3, none⟩)) w := r1_eq fun w => run_fieldAt of35_3 b i w
theorem fa_35_9 (b i : Nat) (Z : List PanicEntry → World → Prop) (w : World) (kk : Value → World → Prop) : run1 Tryz.prog Z (Instr.fieldAt 35 (.pointer (some ⟨b, i, none⟩)) 9) w kk = kk (.pointer (some ⟨b, i + 9, none⟩)) w := r1_eq fun w => run_fieldAt of35_9 b i w
theorem fa_35_10 (b i : Nat) (Z : List PanicEntry → World → Prop) (w : World) (kk : Value → World → Prop) : run1 Tryz.prog Z (Instr.fieldAt 35 (.pointer (some ⟨b, i, none⟩)) 10) w kk = kk (.pointer (some ⟨b, i + 10, none⟩)) w := r1_eq fun w => run_fieldAt of35_10 b i w
theorem fa_35_10p (b i : Nat) (kv : Value → Prop) : Pure1 Tryz.prog (Instr.fieldAt 35 (.pointer (some ⟨b, i, none⟩)) 10) kv = kv (.pointer (some ⟨b, i + 10, none⟩)) := rp_eq fun w => run_fieldAt of35_10 b i w
theorem ln_168_3 (a : Option Addr) (n c : Nat) (Z : List PanicEntry → World → Prop) (w : World) (kk : Value → World → Prop) : run1 Tryz.prog Z (Builtin.len_ #[168] 3 #[.slice a n c]) w kk = kk (.int .i64 n) w := r1_eq fun w => run_lenS sl168 _ rfl _ a n c w
theorem ln_32_3 (a : Option Addr) (n c : Nat) (Z : List PanicEntry → World → Prop) (w : World) (kk : Value → World → Prop) : run1 Tryz.prog Z (Builtin.len_ #[32] 3 #[.slice a n c]) w kk = kk (.int .i64 n) w := r1_eq fun w => run_lenS sl32 _ rfl _ a n c w
theorem ln_31_3 (a : Option Addr) (n c : Nat) (Z : List PanicEntry → World → Prop) (w : World) (kk : Value → World → Prop) : run1 Tryz.prog Z (Builtin.len_ #[31] 3 #[.slice a n c]) w kk = kk (.int .i64 n) w := r1_eq fun w => run_lenS sl31 _ rfl _ a n c w
theorem ln_33_3 (a : Option Addr) (n c : Nat) (Z : List PanicEntry → World → Prop) (w : World) (kk : Value → World → Prop) : run1 Tryz.prog Z (Builtin.len_ #[33] 3 #[.slice a n c]) w kk = kk (.int .i64 n) w := r1_eq fun w => run_lenS sl33 _ rfl _ a n c w
theorem cv_147_23 (q : IntKind) (n : Int) (Z : List PanicEntry → World → Prop) (w : World) (kk : Value → World → Prop) : run1 Tryz.prog Z (convert 147 23 (.int q n)) w kk = kk (.int .u32 (IntKind.u32.wrap n)) w := r1_eq fun w => run_conv_int (by kernel_rfl) it23 q n w
theorem fa_239_2 (b i : Nat) (Z : List PanicEntry → World → Prop) (w : World) (kk : Value → World → Prop) : run1 Tryz.prog Z (Instr.fieldAt 239 (.pointer (some ⟨b, i, none⟩)) 2) w kk = kk (.pointer (some ⟨b, i + 2, none⟩)) w := r1_eq fun w => run_fieldAt of239_2 b i w
theorem cv_147_22 (q : IntKind) (n : Int) (Z : List PanicEntry → World → Prop) (w : World) (kk : Value → World → Prop) : run1 Tryz.prog Z (convert 147 22 (.int q n)) w kk = kk (.int .i8 (IntKind.i8.wrap n)) w := r1_eq fun w => run_conv_int (by kernel_rfl) it22 q n w
theorem fa_239_1 (b i : Nat) (Z : List PanicEntry → World → Prop) (w : World) (kk : Value → World → Prop) : run1 Tryz.prog Z (Instr.fieldAt 239 (.pointer (some ⟨b, i, none⟩)) 1) w kk = kk (.pointer (some ⟨b, i + 1, none⟩)) w := r1_eq fun w => run_fieldAt of239_1 b i w
theorem cv_147_5p (q : IntKind) (n : Int) (kv : Value → Prop) : Pure1 Tryz.prog (convert 147 5 (.int q n)) kv = kv (.int .u8 (IntKind.u8.wrap n)) := rp_eq fun w => run_conv_int (by kernel_rfl) it5 q n w
theorem cv_3_21 (q : IntKind) (n : Int) (Z : List PanicEntry → World → Prop) (w : World) (kk : Value → World → Prop) : run1 Tryz.prog Z (convert 3 21 (.int q n)) w kk = kk (.int .i32 (IntKind.i32.wrap n)) w := r1_eq fun w => run_conv_int (by kernel_rfl) it21 q n w
theorem cv_2_147 (q : IntKind) (n : Int) (Z : List PanicEntry → World → Prop) (w : World) (kk : Value → World → Prop) : run1 Tryz.prog Z (convert 2 147 (.int q n)) w kk = kk (.int .u64 (IntKind.u64.wrap n)) w := r1_eq fun w => run_conv_int (by kernel_rfl) it147 q n w
theorem cv_147_2 (q : IntKind) (n : Int) (Z : List PanicEntry → World → Prop) (w : World) (kk : Value → World → Prop) : run1 Tryz.prog Z (convert 147 2 (.int q n)) w kk = kk (.int .i64 (IntKind.i64.wrap n)) w := r1_eq fun w => run_conv_int (by kernel_rfl) it2 q n w
theorem fa_157_0 (b i : Nat) (Z : List PanicEntry → World → Prop) (w : World) (kk : Value → World → Prop) : run1 Tryz.prog Z (Instr.fieldAt 157 (.pointer (some ⟨b, i, none⟩)) 0) w kk = kk (.pointer (some ⟨b, i + 0, none⟩)) w := r1_eq fun w => run_fieldAt of157_0 b i w
theorem fa_157_1 (b i : Nat) (Z : List PanicEntry → World → Prop) (w : World) (kk : Value → World → Prop) : run1 Tryz.prog Z (Instr.fieldAt 157 (.pointer (some ⟨b, i, none⟩)) 1) w kk = kk (.pointer (some ⟨b, i + 2, none⟩)) w := r1_eq fun w => run_fieldAt of157_1 b i w
theorem fa_157_2 (b i : Nat) (Z : List PanicEntry → World → Prop) (w : World) (kk : Value → World → Prop) : run1 Tryz.prog Z (Instr.fieldAt 157 (.pointer (some ⟨b, i, none⟩)) 2) w kk = kk (.pointer (some ⟨b, i + 4, none⟩)) w := r1_eq fun w => run_fieldAt of157_2 b i w
theorem fa_157_3 (b i : Nat) (Z : List PanicEntry → World → Prop) (w : World) (kk : Value → World → Prop) : run1 Tryz.prog Z (Instr.fieldAt 157 (.pointer (some ⟨b, i, none⟩)) 3) w kk = kk (.pointer (some ⟨b, i + 5, none⟩)) w := r1_eq fun w => run_fieldAt of157_3 b i w
theorem fa_157_4 (b i : Nat) (Z : List PanicEntry → World → Prop) (w : World) (kk : Value → World → Prop) : run1 Tryz.prog Z (Instr.fieldAt 157 (.pointer (some ⟨b, i, none⟩)) 4) w kk = kk (.pointer (some ⟨b, i + 6, none⟩)) w := r1_eq fun w => run_fieldAt of157_4 b i w
theorem fa_157_5 (b i : Nat) (Z : List PanicEntry → World → Prop) (w : World) (kk : Value → World → Prop) : run1 Tryz.prog Z (Instr.fieldAt 157 (.pointer (some ⟨b, i, none⟩)) 5) w kk = kk (.pointer (some ⟨b, i + 7, none⟩)) w := r1_eq fun w => run_fieldAt of157_5 b i w
theorem fa_157_6 (b i : Nat) (Z : List PanicEntry → World → Prop) (w : World) (kk : Value → World → Prop) : run1 Tryz.prog Z (Instr.fieldAt 157 (.pointer (some ⟨b, i, none⟩)) 6) w kk = kk (.pointer (some ⟨b, i + 8, none⟩)) w := r1_eq fun w => run_fieldAt of157_6 b i w
theorem fa_157_7 (b i : Nat) (Z : List PanicEntry → World → Prop) (w : World) (kk : Value → World → Prop) : run1 Tryz.prog Z (Instr.fieldAt 157 (.pointer (some ⟨b, i, none⟩)) 7) w kk = kk (.pointer (some ⟨b, i + 10, none⟩)) w := r1_eq fun w => run_fieldAt of157_7 b i w
theorem fa_157_8 (b i : Nat) (Z : List PanicEntry → World → Prop) (w : World) (kk : Value → World → Prop) : run1 Tryz.prog Z (Instr.fieldAt 157 (.pointer (some ⟨b, i, none⟩)) 8) w kk = kk (.pointer (some ⟨b, i + 12, none⟩)) w := r1_eq fun w => run_fieldAt of157_8 b i w
theorem fa_157_9 (b i : Nat) (Z : List PanicEntry → World → Prop) (w : World) (kk : Value → World → Prop) : run1 Tryz.prog Z (Instr.fieldAt 157 (.pointer (some ⟨b, i, none⟩)) 9) w kk = kk (.pointer (some ⟨b, i + 13, none⟩)) w := r1_eq fun w => run_fieldAt of157_9 b i w
theorem fa_35_1 (b i : Nat) (Z : List PanicEntry → World → Prop) (w : World) (kk : Value → World → Prop) : run1 Tryz.prog Z (Instr.fieldAt 35 (.pointer (some ⟨b, i, none⟩)) 1) w kk = kk (.pointer (some ⟨b, i + 1, none⟩)) w := r1_eq fun w => run_fieldAt of35_1 b i w
theorem fa_35_4 (b i : Nat) (Z : List PanicEntry → World → Prop) (w : World) (kk : Value → World → Prop) : run1 Tryz.prog Z (Instr.fieldAt 35 (.pointer (some ⟨b, i, none⟩)) 4) w kk = kk (.pointer (some ⟨b, i + 4, none⟩)) w := r1_eq fun w => run_fieldAt of35_4 b i w
theorem fa_35_5 (b i : Nat) (Z : List PanicEntry → World → Prop) (w : World) (kk : Value → World → Prop) : run1 Tryz.prog Z (Instr.fieldAt 35 (.pointer (some ⟨b, i, none⟩)) 5) w kk = kk (.pointer (some ⟨b, i + 5, none⟩)) w := r1_eq fun w => run_fieldAt of35_5 b i w
theorem fa_35_6 (b i : Nat) (Z : List PanicEntry → World → Prop) (w : World) (kk : Value → World → Prop) : run1 Tryz.prog Z (Instr.fieldAt 35 (.pointer (some ⟨b, i, none⟩)) 6) w kk = kk (.pointer (some ⟨b, i + 6, none⟩)) w := r1_eq fun w => run_fieldAt of35_6 b i w
theorem fa_35_7 (b i : Nat) (Z : List PanicEntry → World → Prop) (w : World) (kk : Value → World → Prop) : run1 Tryz.prog Z (Instr.fieldAt 35 (.pointer (some ⟨b, i, none⟩)) 7) w kk = kk (.pointer (some ⟨b, i + 7, none⟩)) w := r1_eq fun w => run_fieldAt of35_7 b i w
theorem fa_35_8 (b i : Nat) (Z : List PanicEntry → World → Prop) (w : World) (kk : Value → World → Prop) : run1 Tryz.prog Z (Instr.fieldAt 35 (.pointer (some ⟨b, i, none⟩)) 8) w kk = kk (.pointer (some ⟨b, i + 8, none⟩)) w := r1_eq fun w => run_fieldAt of35_8 b i w
theorem fa_178_1 (b i : Nat) (Z : List PanicEntry → World → Prop) (w : World) (kk : Value → World → Prop) : run1 Tryz.prog Z (Instr.fieldAt 178 (.pointer (some ⟨b, i, none⟩)) 1) w kk = kk (.pointer (some ⟨b, i + 1, none⟩)) w := r1_eq fun w => run_fieldAt of178_1 b i w
theorem fa_175_1 (b i : Nat) (Z : List PanicEntry → World → Prop) (w : World) (kk : Value → World → Prop) : run1 Tryz.prog Z (Instr.fieldAt 175 (.pointer (some ⟨b, i, none⟩)) 1) w kk = kk (.pointer (some ⟨b, i + 1, none⟩)) w := r1_eq fun w => run_fieldAt of175_1 b i w
theorem cv_5_147 (q : IntKind) (n : Int) (Z : List PanicEntry → World → Prop) (w : World) (kk : Value → World → Prop) : run1 Tryz.prog Z (convert 5 147 (.int q n)) w kk = kk (.int .u64 (IntKind.u64.wrap n)) w := r1_eq fun w => run_conv_int (by kernel_rfl) it147 q n w
theorem eqlp_136 (cx cy : Bool) (a : Addr) (Z : List PanicEntry → World → Prop) (w : World) (kk : Value → World → Prop) : run1 Tryz.prog Z (eqOp .eql 136 cx cy (.pointer (some a)) (.pointer none)) w kk = kk (.bool false) w := r1_eq fun w => run_eql_ptr_nil pt136 cx cy a w
theorem fa_239_0 (b i : Nat) (Z : List PanicEntry → World → Prop) (w : World) (kk : Value → World → Prop) : run1 Tryz.prog Z (Instr.fieldAt 239 (.pointer (some ⟨b, i, none⟩)) 0) w kk = kk (.pointer (some ⟨b, i + 0, none⟩)) w := r1_eq fun w => run_fieldAt of239_0 b i w
theorem fa_29_1 (b i : Nat) (Z : List PanicEntry → World → Prop) (w : World) (kk : Value → World → Prop) : run1 Tryz.prog Z (Instr.fieldAt 29 (.pointer (some ⟨b, i, none⟩)) 1) w kk = kk (.pointer (some ⟨b, i + 1, none⟩)) w := r1_eq fun w => run_fieldAt of29_1 b i w
theorem cv_21_147 (q : IntKind) (n : Int) (Z : List PanicEntry → World → Prop) (w : World) (kk : Value → World → Prop) : run1 Tryz.prog Z (convert 21 147 (.int q n)) w kk = kk (.int .u64 (IntKind.u64.wrap n)) w := r1_eq fun w => run_conv_int (by kernel_rfl) it147 q n w
theorem cv_21_3 (q : IntKind) (n : Int) (Z : List PanicEntry → World → Prop) (w : World) (kk : Value → World → Prop) : run1 Tryz.prog Z (convert 21 3 (.int q n)) w kk = kk (.int .i64 (IntKind.i64.wrap n)) w := r1_eq fun w => run_conv_int (by kernel_rfl) it3 q n w
theorem fa_178_0 (b i : Nat) (Z : List PanicEntry → World → Prop) (w : World) (kk : Value → World → Prop) : run1 Tryz.prog Z (Instr.fieldAt 178 (.pointer (some ⟨b, i, none⟩)) 0) w kk = kk (.pointer (some ⟨b, i + 0, none⟩)) w := r1_eq fun w => run_fieldAt of178_0 b i w
theorem fa_267_0 (b i : Nat) (Z : List PanicEntry → World → Prop) (w : World) (kk : Value → World → Prop) : run1 Tryz.prog Z (Instr.fieldAt 267 (.pointer (some ⟨b, i, none⟩)) 0) w kk = kk (.pointer (some ⟨b, i + 0, none⟩)) w := r1_eq fun w => run_fieldAt of267_0 b i w
theorem cv_147_21 (q : IntKind) (n : Int) (Z : List PanicEntry → World → Prop) (w : World) (kk : Value → World → Prop) : run1 Tryz.prog Z (convert 147 21 (.int q n)) w kk = kk (.int .i32 (IntKind.i32.wrap n)) w := r1_eq fun w => run_conv_int (by kernel_rfl) it21 q n w
theorem fa_175_0 (b i : Nat) (Z : List PanicEntry → World → Prop) (w : World) (kk : Value → World → Prop) : run1 Tryz.prog Z (Instr.fieldAt 175 (.pointer (some ⟨b, i, none⟩)) 0) w kk = kk (.pointer (some ⟨b, i + 0, none⟩)) w := r1_eq fun w => run_fieldAt of175_0 b i w
theorem eqlf_282 (cx cy : Bool) (f : Fn) (a b : Array Value) (Z : List PanicEntry → World → Prop) (w : World) (kk : Value → World → Prop) : run1 Tryz.prog Z (eqOp .eql 282 cx cy (.func f a b) .nilFunc) w kk = kk (.bool false) w := r1_eq fun w => run_eql_func fu282 cx cy f a b w
theorem eqlf_284 (cx cy : Bool) (f : Fn) (a b : Array Value) (Z : List PanicEntry → World → Prop) (w : World) (kk : Value → World → Prop) : run1 Tryz.prog Z (eqOp .eql 284 cx cy (.func f a b) .nilFunc) w kk = kk (.bool false) w := r1_eq fun w => run_eql_func fu284 cx cy f a b w
theorem eqlf_268 (cx cy : Bool) (f : Fn) (a b : Array Value) (Z : List PanicEntry → World → Prop) (w : World) (kk : Value → World → Prop) : run1 Tryz.prog Z (eqOp .eql 268 cx cy (.func f a b) .nilFunc) w kk = kk (.bool false) w := r1_eq fun w => run_eql_func fu268 cx cy f a b w
theorem eqlf_288 (cx cy : Bool) (f : Fn) (a b : Array Value) (Z : List PanicEntry → World → Prop) (w : World) (kk : Value → World → Prop) : run1 Tryz.prog Z (eqOp .eql 288 cx cy (.func f a b) .nilFunc) w kk = kk (.bool false) w := r1_eq fun w => run_eql_func fu288 cx cy f a b w
theorem eqlf_290 (cx cy : Bool) (f : Fn) (a b : Array Value) (Z : List PanicEntry → World → Prop) (w : World) (kk : Value → World → Prop) : run1 Tryz.prog Z (eqOp .eql 290 cx cy (.func f a b) .nilFunc) w kk = kk (.bool false) w := r1_eq fun w => run_eql_func fu290 cx cy f a b w
theorem eqlf_269 (cx cy : Bool) (f : Fn) (a b : Array Value) (Z : List PanicEntry → World → Prop) (w : World) (kk : Value → World → Prop) : run1 Tryz.prog Z (eqOp .eql 269 cx cy (.func f a b) .nilFunc) w kk = kk (.bool false) w := r1_eq fun w => run_eql_func fu269 cx cy f a b w
theorem o_add (t : TypeId) (k : IntKind) (x y : Int) (Z : List PanicEntry → World → Prop) (w : World) (kk : Value → World → Prop) : run1 Tryz.prog Z (binOp .add t (.int k x) (.int k y)) w kk = kk (.int k (k.wrap (x + y))) w := r1_eq fun w => run_add _ w t k x y
theorem o_sub (t : TypeId) (k : IntKind) (x y : Int) (Z : List PanicEntry → World → Prop) (w : World) (kk : Value → World → Prop) : run1 Tryz.prog Z (binOp .sub t (.int k x) (.int k y)) w kk = kk (.int k (k.wrap (x - y))) w := r1_eq fun w => run_sub _ w t k x y
theorem o_mulp (t : TypeId) (k : IntKind) (x y : Int) (kv : Value → Prop) : Pure1 Tryz.prog (binOp .mul t (.int k x) (.int k y)) kv = kv (.int k (k.wrap (x * y))) := rp_eq fun w => run_mul _ w t k x y
theorem o_lss (t : TypeId) (k : IntKind) (x y : Int) (Z : List PanicEntry → World → Prop) (w : World) (kk : Value → World → Prop) : run1 Tryz.prog Z (binOp .lss t (.int k x) (.int k y)) w kk = kk (.bool (decide (x < y))) w := r1_eq fun w => run_lss _ w t k x y
theorem o_lssp (t : TypeId) (k : IntKind) (x y : Int) (kv : Value → Prop) : Pure1 Tryz.prog (binOp .lss t (.int k x) (.int k y)) kv = kv (.bool (decide (x < y))) := rp_eq fun w => run_lss _ w t k x y
theorem o_leq (t : TypeId) (k : IntKind) (x y : Int) (Z : List PanicEntry → World → Prop) (w : World) (kk : Value → World → Prop) : run1 Tryz.prog Z (binOp .leq t (.int k x) (.int k y)) w kk = kk (.bool (decide (x ≤ y))) w := r1_eq fun w => run_leq _ w t k x y
theorem o_gtr (t : TypeId) (k : IntKind) (x y : Int) (Z : List PanicEntry → World → Prop) (w : World) (kk : Value → World → Prop) : run1 Tryz.prog Z (binOp .gtr t (.int k x) (.int k y)) w kk = kk (.bool (decide (y < x))) w := r1_eq fun w => run_gtr _ w t k x y
theorem o_gtrp (t : TypeId) (k : IntKind) (x y : Int) (kv : Value → Prop) : Pure1 Tryz.prog (binOp .gtr t (.int k x) (.int k y)) kv = kv (.bool (decide (y < x))) := rp_eq fun w => run_gtr _ w t k x y
theorem o_geq (t : TypeId) (k : IntKind) (x y : Int) (Z : List PanicEntry → World → Prop) (w : World) (kk : Value → World → Prop) : run1 Tryz.prog Z (binOp .geq t (.int k x) (.int k y)) w kk = kk (.bool (decide (y ≤ x))) w := r1_eq fun w => run_geq _ w t k x y
theorem o_eql (t : TypeId) (cx cy : Bool) (k : IntKind) (x y : Int) (Z : List PanicEntry → World → Prop) (w : World) (kk : Value → World → Prop) : run1 Tryz.prog Z (eqOp .eql t cx cy (.int k x) (.int k y)) w kk = kk (.bool (x == y)) w := r1_eq fun w => run_eql_int _ w t cx cy k x y
theorem o_neq (t : TypeId) (cx cy : Bool) (k : IntKind) (x y : Int) (Z : List PanicEntry → World → Prop) (w : World) (kk : Value → World → Prop) : run1 Tryz.prog Z (eqOp .neq t cx cy (.int k x) (.int k y)) w kk = kk (.bool (x != y)) w := r1_eq fun w => run_neq_int _ w t cx cy k x y
theorem o_neqp (t : TypeId) (cx cy : Bool) (k : IntKind) (x y : Int) (kv : Value → Prop) : Pure1 Tryz.prog (eqOp .neq t cx cy (.int k x) (.int k y)) kv = kv (.bool (x != y)) := rp_eq fun w => run_neq_int _ w t cx cy k x y
theorem os_eql (t : TypeId) (cx cy : Bool) (a b : ByteArray) (Z : List PanicEntry → World → Prop) (w : World) (kk : Value → World → Prop) : run1 Tryz.prog Z (eqOp .eql t cx cy (.string a) (.string b)) w kk = kk (.bool ((a.toList == b.toList))) w := r1_eq fun w => run_eql_str t cx cy a b w
theorem o_and (t : TypeId) (k : IntKind) (x y : Int) (Z : List PanicEntry → World → Prop) (w : World) (kk : Value → World → Prop) : run1 Tryz.prog Z (binOp .and t (.int k x) (.int k y)) w kk = kk (.int k (k.wrap (BitVec.ofInt k.bits x &&& BitVec.ofInt k.bits y).toNat)) w := r1_eq fun w => run_and _ w t k x y
theorem o_or (t : TypeId) (k : IntKind) (x y : Int) (Z : List PanicEntry → World → Prop) (w : World) (kk : Value → World → Prop) : run1 Tryz.prog Z (binOp .or t (.int k x) (.int k y)) w kk = kk (.int k (k.wrap (BitVec.ofInt k.bits x ||| BitVec.ofInt k.bits y).toNat)) w := r1_eq fun w => run_or _ w t k x y
theorem o_xor (t : TypeId) (k : IntKind) (x y : Int) (Z : List PanicEntry → World → Prop) (w : World) (kk : Value → World → Prop) : run1 Tryz.prog Z (binOp .xor t (.int k x) (.int k y)) w kk = kk (.int k (k.wrap (BitVec.ofInt k.bits x ^^^ BitVec.ofInt k.bits y).toNat)) w := r1_eq fun w => run_xor _ w t k x y
theorem o_not (b : Bool) (Z : List PanicEntry → World → Prop) (w : World) (kk : Value → World → Prop) : run1 Tryz.prog Z (Op.unary .not (.bool b)) w kk = kk (.bool !b) w := r1_eq fun w => run_not _ w b
theorem o_notp (b : Bool) (kv : Value → Prop) : Pure1 Tryz.prog (Op.unary .not (.bool b)) kv = kv (.bool !b) := rp_eq fun w => run_not _ w b
theorem o_pickT (x y : Value) (Z : List PanicEntry → World → Prop) (w : World) (kk : Value → World → Prop) : run1 Tryz.prog Z (pickV (.bool true) x y) w kk = kk x w := r1_eq fun w => run_pick _ w true x y
theorem o_pickTp (x y : Value) (kv : Value → Prop) : Pure1 Tryz.prog (pickV (.bool true) x y) kv = kv x := rp_eq fun w => run_pick _ w true x y
theorem o_pickF (x y : Value) (Z : List PanicEntry → World → Prop) (w : World) (kk : Value → World → Prop) : run1 Tryz.prog Z (pickV (.bool false) x y) w kk = kk y w := r1_eq fun w => run_pick _ w false x y
theorem o_pickFp (x y : Value) (kv : Value → Prop) : Pure1 Tryz.prog (pickV (.bool false) x y) kv = kv y := rp_eq fun w => run_pick _ w false x y
theorem o_ext2_0 (v0 v1 : Value) (Z : List PanicEntry → World → Prop) (w : World) (kk : Value → World → Prop) : run1 Tryz.prog Z (Instr.extract (.tuple #[v0, v1]) 0) w kk = kk v0 w := r1_eq fun w => run_extract _ w _ 0 _ rfl
theorem o_ext2_1 (v0 v1 : Value) (Z : List PanicEntry → World → Prop) (w : World) (kk : Value → World → Prop) : run1 Tryz.prog Z (Instr.extract (.tuple #[v0, v1]) 1) w kk = kk v1 w := r1_eq fun w => run_extract _ w _ 1 _ rfl
theorem o_fn (fn : Fn) (a b : Array Value) (Z : List PanicEntry → World → Prop) (w : World) (kk : Value → World → Prop) : run1 Tryz.prog Z (Instr.makeFunc fn a b) w kk = kk (.func fn a b) w := r1_eq fun w => run_makeFunc _ w fn a b
theorem o_chk (a : Addr) (Z : List PanicEntry → World → Prop) (w : World) (kk : Value → World → Prop) : runX Tryz.prog Z (nilChk (.pointer (some a))) w kk = kk (.pointer (some a)) w := rX_eq fun w => run_nilChk _ w a
theorem o_chkp (a : Addr) (kv : Value → Prop) : PureV Tryz.prog (nilChk (.pointer (some a))) kv = kv (.pointer (some a)) := rpV_eq fun w => run_nilChk _ w a
end Go.Proofs.YtfijkedmbaghmaaGreatDoor
