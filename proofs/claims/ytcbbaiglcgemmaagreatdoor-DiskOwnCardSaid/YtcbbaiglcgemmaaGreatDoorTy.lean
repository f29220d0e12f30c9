import Derived.Test.YtcbbaiglcgemmaaGreatDoorShOpen
import Derived.Test.YtcbbaiglcgemmaaGreatDoorProg
set_option linter.unusedVariables false
namespace Go.Proofs.YtcbbaiglcgemmaaGreatDoor
open Go.Sh
theorem one3 : oneT Tryz.prog 3 = true := by kernel_rfl
theorem bo4 : isBoolT Tryz.prog 4 = true := by kernel_rfl
theorem one4 : oneT Tryz.prog 4 = true := by kernel_rfl
theorem it5 : intT Tryz.prog 5 = some .u8 := by kernel_rfl
theorem one5 : oneT Tryz.prog 5 = true := by kernel_rfl
theorem st9 : isStrT Tryz.prog 9 = true := by kernel_rfl
theorem one9 : oneT Tryz.prog 9 = true := by kernel_rfl
theorem sl22 : isSliceT Tryz.prog 22 = true := by kernel_rfl
theorem one22 : oneT Tryz.prog 22 = true := by kernel_rfl
theorem el22 : El Tryz.prog 22 71 3 48 (.agg #[(.string ByteArray.empty), (.slice none 0 0), (.int .i64 0)]) := ⟨Tryz.underlying22, by kernel_rfl, by kernel_rfl, by decide⟩
theorem pt24 : isPtrT Tryz.prog 24 = true := by kernel_rfl
theorem pt28 : isPtrT Tryz.prog 28 = true := by kernel_rfl
theorem sl33 : isSliceT Tryz.prog 33 = true := by kernel_rfl
theorem one33 : oneT Tryz.prog 33 = true := by kernel_rfl
theorem el33 : El Tryz.prog 33 58 1 24 (.slice none 0 0) := ⟨Tryz.underlying33, by kernel_rfl, by kernel_rfl, by decide⟩
theorem sl34 : isSliceT Tryz.prog 34 = true := by kernel_rfl
theorem one34 : oneT Tryz.prog 34 = true := by kernel_rfl
theorem sl35 : isSliceT Tryz.prog 35 = true := by kernel_rfl
theorem one35 : oneT Tryz.prog 35 = true := by kernel_rfl
theorem el35 : El Tryz.prog 35 56 1 24 (.slice none 0 0) := ⟨Tryz.underlying35, by kernel_rfl, by kernel_rfl, by decide⟩
theorem sl36 : isSliceT Tryz.prog 36 = true := by kernel_rfl
theorem one36 : oneT Tryz.prog 36 = true := by kernel_rfl
theorem sl37 : isSliceT Tryz.prog 37 = true := by kernel_rfl
theorem one37 : oneT Tryz.prog 37 = true := by kernel_rfl
theorem sl38 : isSliceT Tryz.prog 38 = true := by kernel_rfl
theorem one38 : oneT Tryz.prog 38 = true := by kernel_rfl
theorem sl39 : isSliceT Tryz.prog 39 = true := by kernel_rfl
theorem one39 : oneT Tryz.prog 39 = true := by kernel_rfl
theorem sl40 : isSliceT Tryz.prog 40 = true := by kernel_rfl
theorem one40 : oneT Tryz.prog 40 = true := by kernel_rfl
theorem sl41 : isSliceT Tryz.prog 41 = true := by kernel_rfl
theorem one41 : oneT Tryz.prog 41 = true := by kernel_rfl
theorem sl42 : isSliceT Tryz.prog 42 = true := by kernel_rfl
theorem one42 : oneT Tryz.prog 42 = true := by kernel_rfl
theorem sl43 : isSliceT Tryz.prog 43 = true := by kernel_rfl
theorem one43 : oneT Tryz.prog 43 = true := by kernel_rfl
theorem sl44 : isSliceT Tryz.prog 44 = true := by kernel_rfl
theorem one44 : oneT Tryz.prog 44 = true := by kernel_rfl
theorem sl45 : isSliceT Tryz.prog 45 = true := by kernel_rfl
theorem one45 : oneT Tryz.prog 45 = true := by kernel_rfl
theorem el45 : El Tryz.prog 45 22 1 24 (.slice none 0 0) := ⟨Tryz.underlying45, by kernel_rfl, by kernel_rfl, by decide⟩
theorem sl46 : isSliceT Tryz.prog 46 = true := by kernel_rfl
theorem one46 : oneT Tryz.prog 46 = true := by kernel_rfl
theorem sl47 : isSliceT Tryz.prog 47 = true := by kernel_rfl
theorem one47 : oneT Tryz.prog 47 = true := by kernel_rfl
theorem sl48 : isSliceT Tryz.prog 48 = true := by kernel_rfl
theorem one48 : oneT Tryz.prog 48 = true := by kernel_rfl
theorem sl49 : isSliceT Tryz.prog 49 = true := by kernel_rfl
theorem one49 : oneT Tryz.prog 49 = true := by kernel_rfl
theorem sl50 : isSliceT Tryz.prog 50 = true := by kernel_rfl
theorem one50 : oneT Tryz.prog 50 = true := by kernel_rfl
theorem sl51 : isSliceT Tryz.prog 51 = true := by kernel_rfl
theorem one51 : oneT Tryz.prog 51 = true := by kernel_rfl
theorem sl52 : isSliceT Tryz.prog 52 = true := by kernel_rfl
theorem one52 : oneT Tryz.prog 52 = true := by kernel_rfl
theorem sl53 : isSliceT Tryz.prog 53 = true := by kernel_rfl
theorem one53 : oneT Tryz.prog 53 = true := by kernel_rfl
theorem of55_0 : offT Tryz.prog 55 0 = some 0 := by kernel_rfl
theorem of55_1 : offT Tryz.prog 55 1 = some 1 := by kernel_rfl
theorem of55_2 : offT Tryz.prog 55 2 = some 2 := by kernel_rfl
theorem of55_3 : offT Tryz.prog 55 3 = some 3 := by kernel_rfl
theorem of55_4 : offT Tryz.prog 55 4 = some 4 := by kernel_rfl
theorem of55_5 : offT Tryz.prog 55 5 = some 5 := by kernel_rfl
theorem of55_6 : offT Tryz.prog 55 6 = some 6 := by kernel_rfl
theorem of55_7 : offT Tryz.prog 55 7 = some 7 := by kernel_rfl
theorem of55_8 : offT Tryz.prog 55 8 = some 8 := by kernel_rfl
theorem of55_9 : offT Tryz.prog 55 9 = some 9 := by kernel_rfl
theorem of55_10 : offT Tryz.prog 55 10 = some 10 := by kernel_rfl
theorem of55_11 : offT Tryz.prog 55 11 = some 11 := by kernel_rfl
theorem of55_12 : offT Tryz.prog 55 12 = some 12 := by kernel_rfl
theorem of55_13 : offT Tryz.prog 55 13 = some 13 := by kernel_rfl
theorem of55_14 : offT Tryz.prog 55 14 = some 14 := by kernel_rfl
theorem of55_15 : offT Tryz.prog 55 15 = some 15 := by kernel_rfl
theorem of55_16 : offT Tryz.prog 55 16 = some 16 := by kernel_rfl
theorem of55_17 : offT Tryz.prog 55 17 = some 17 := by kernel_rfl
theorem of55_18 : offT Tryz.prog 55 18 = some 18 := by kernel_rfl
theorem of55_19 : offT Tryz.prog 55 19 = some 19 := by kernel_rfl
theorem of55_20 : offT Tryz.prog 55 20 = some 20 := by kernel_rfl
theorem sl56 : isSliceT Tryz.prog 56 = true := by kernel_rfl
theorem one56 : oneT Tryz.prog 56 = true := by kernel_rfl
theorem el56 : El Tryz.prog 56 9 1 16 (.string ByteArray.empty) := ⟨Tryz.underlying56, by kernel_rfl, by kernel_rfl, by decide⟩
theorem sl58 : isSliceT Tryz.prog 58 = true := by kernel_rfl
theorem one58 : oneT Tryz.prog 58 = true := by kernel_rfl
theorem el58 : El Tryz.prog 58 5 1 1 (.int .u8 0) := ⟨Tryz.underlying58, by kernel_rfl, by kernel_rfl, by decide⟩
theorem ag71 : aggT Tryz.prog 71 3 = true := by kernel_rfl
theorem ze71 : zeroT Tryz.prog 71 = some (.agg #[(.string ByteArray.empty), (.slice none 0 0), (.int .i64 0)]) := by kernel_rfl
theorem of71_0 : offT Tryz.prog 71 0 = some 0 := by kernel_rfl
theorem of71_1 : offT Tryz.prog 71 1 = some 1 := by kernel_rfl
theorem of71_2 : offT Tryz.prog 71 2 = some 2 := by kernel_rfl
theorem sl75 : isSliceT Tryz.prog 75 = true := by kernel_rfl
theorem one75 : oneT Tryz.prog 75 = true := by kernel_rfl
theorem el75 : El Tryz.prog 75 83 3 48 (.agg #[(.string ByteArray.empty), (.slice none 0 0), (.int .i64 0)]) := ⟨Tryz.underlying75, by kernel_rfl, by kernel_rfl, by decide⟩
theorem of77_0 : offT Tryz.prog 77 0 = some 0 := by kernel_rfl
theorem of77_1 : offT Tryz.prog 77 1 = some 1 := by kernel_rfl
theorem of79_0 : offT Tryz.prog 79 0 = some 0 := by kernel_rfl
theorem of79_1 : offT Tryz.prog 79 1 = some 2 := by kernel_rfl
theorem of79_2 : offT Tryz.prog 79 2 = some 3 := by kernel_rfl
theorem of79_3 : offT Tryz.prog 79 3 = some 4 := by kernel_rfl
theorem of79_4 : offT Tryz.prog 79 4 = some 5 := by kernel_rfl
theorem of79_5 : offT Tryz.prog 79 5 = some 6 := by kernel_rfl
theorem of79_6 : offT Tryz.prog 79 6 = some 7 := by kernel_rfl
theorem ag83 : aggT Tryz.prog 83 3 = true := by kernel_rfl
theorem ze83 : zeroT Tryz.prog 83 = some (.agg #[(.string ByteArray.empty), (.slice none 0 0), (.int .i64 0)]) := by kernel_rfl
theorem of83_0 : offT Tryz.prog 83 0 = some 0 := by kernel_rfl
theorem of83_1 : offT Tryz.prog 83 1 = some 1 := by kernel_rfl
theorem of83_2 : offT Tryz.prog 83 2 = some 2 := by kernel_rfl
theorem of87_1 : offT Tryz.prog 87 1 = some 1 := by kernel_rfl
theorem of87_2 : offT Tryz.prog 87 2 = some 2 := by kernel_rfl
theorem of87_5 : offT Tryz.prog 87 5 = some 5 := by kernel_rfl
theorem sl121 : isSliceT Tryz.prog 121 = true := by kernel_rfl
theorem el121 : El Tryz.prog 121 3 1 8 (.int .i64 0) := ⟨Tryz.underlying121, by kernel_rfl, by kernel_rfl, by decide⟩
theorem eqlp_24 (cx cy : Bool) (a : Addr) (Z : List PanicEntry → World → Prop) (w : World) (kk : Value → World → Prop) : run1 Tryz.prog Z (eqOp .eql 24 cx cy (.pointer (some a)) (.pointer none)) w kk = kk (.bool false) w := r1_eq fun w => run_eql_ptr_nil pt24 cx cy a w
theorem eqln_24 (cx cy : Bool) (Z : List PanicEntry → World → Prop) (w : World) (kk : Value → World → Prop) : run1 Tryz.prog Z (eqOp .eql 24 cx cy (.pointer none) (.pointer none)) w kk = kk (.bool true) w := r1_eq fun w => run_eqlNN pt24 cx cy w
theorem eqlp_28 (cx cy : Bool) (a : Addr) (Z : List PanicEntry → World → Prop) (w : World) (kk : Value → World → Prop) : run1 Tryz.prog Z (eqOp .eql 28 cx cy (.pointer (some a)) (.pointer none)) w kk = kk (.bool false) w := r1_eq fun w => run_eql_ptr_nil pt28 cx cy a w
theorem eqln_28 (cx cy : Bool) (Z : List PanicEntry → World → Prop) (w : World) (kk : Value → World → Prop) : run1 Tryz.prog Z (eqOp .eql 28 cx cy (.pointer none) (.pointer none)) w kk = kk (.bool true) w := r1_eq fun w => run_eqlNN pt28 cx cy w
theorem neqb_4 (cx cy a b : Bool) (Z : List PanicEntry → World → Prop) (w : World) (kk : Value → World → Prop) : run1 Tryz.prog Z (eqOp .neq 4 cx cy (.bool a) (.bool b)) w kk = kk (.bool (a != b)) w := r1_eq fun w => run_neq_boolV bo4 cx cy a b w
theorem ln_56_3 (a : Option Addr) (n c : Nat) (Z : List PanicEntry → World → Prop) (w : World) (kk : Value → World → Prop) : run1 Tryz.prog Z (Builtin.len_ #[56] 3 #[.slice a n c]) w kk = kk (.int .i64 n) w := r1_eq fun w => run_lenS sl56 _ rfl _ a n c w
theorem ln_22_3 (a : Option Addr) (n c : Nat) (Z : List PanicEntry → World → Prop) (w : World) (kk : Value → World → Prop) : run1 Tryz.prog Z (Builtin.len_ #[22] 3 #[.slice a n c]) w kk = kk (.int .i64 n) w := r1_eq fun w => run_lenS sl22 _ rfl _ a n c w
theorem fa_71_1 (b i : Nat) (Z : List PanicEntry → World → Prop) (w : World) (kk : Value → World → Prop) : run1 Tryz.prog Z (Instr.fieldAt 71 (.pointer (some ⟨b, i, none⟩)) 1) w kk = kk (.pointer (some ⟨b, i + 1, none⟩)) w := r1_eq fun w => run_fieldAt of71_1 b i w
theorem fa_71_1p (b i : Nat) (kv : Value → Prop) : Pure1 Tryz.prog (Instr.fieldAt 71 (.pointer (some ⟨b, i, none⟩)) 1) kv = kv (.pointer (some ⟨b, i + 1, none⟩)) := rp_eq fun w => run_fieldAt of71_1 b i w
theorem ln_58_3 (a : Option Addr) (n c : Nat) (Z : List PanicEntry → World → Prop) (w : World) (kk : Value → World → Prop) : run1 Tryz.prog Z (Builtin.len_ #[58] 3 #[.slice a n c]) w kk = kk (.int .i64 n) w := r1_eq fun w => run_lenS sl58 _ rfl _ a n c w
theorem ln_58_3p (a : Option Addr) (n c : Nat) (kv : Value → Prop) : Pure1 Tryz.prog (Builtin.len_ #[58] 3 #[.slice a n c]) kv = kv (.int .i64 n) := rp_eq fun w => run_lenS sl58 _ rfl _ a n c w
theorem fa_71_0 (b i : Nat) (Z : List PanicEntry → World → Prop) (w : World) (kk : Value → World → Prop) : run1 Tryz.prog Z (Instr.fieldAt 71 (.pointer (some ⟨b, i, none⟩)) 0) w kk = kk (.pointer (some ⟨b, i + 0, none⟩)) w := r1_eq fun w => run_fieldAt of71_0 b i w
theorem fa_71_0p (b i : Nat) (kv : Value → Prop) : Pure1 Tryz.prog (Instr.fieldAt 71 (.pointer (some ⟨b, i, none⟩)) 0) kv = kv (.pointer (some ⟨b, i + 0, none⟩)) := rp_eq fun w => run_fieldAt of71_0 b i w
theorem ln_9_3 (s : ByteArray) (Z : List PanicEntry → World → Prop) (w : World) (kk : Value → World → Prop) : run1 Tryz.prog Z (Builtin.len_ #[9] 3 #[.string s]) w kk = kk (.int .i64 s.size) w := r1_eq fun w => run_lenStr st9 _ rfl _ s w
theorem fa_79_0 (b i : Nat) (Z : List PanicEntry → World → Prop) (w : World) (kk : Value → World → Prop) : run1 Tryz.prog Z (Instr.fieldAt 79 (.pointer (some ⟨b, i, none⟩)) 0) w kk = kk (.pointer (some ⟨b, i + 0, none⟩)) w := r1_eq fun w => run_fieldAt of79_0 b i w
theorem fa_79_0p (b i : Nat) (kv : Value → Prop) : Pure1 Tryz.prog (Instr.fieldAt 79 (.pointer (some ⟨b, i, none⟩)) 0) kv = kv (.pointer (some ⟨b, i + 0, none⟩)) := rp_eq fun w => run_fieldAt of79_0 b i w
theorem fa_71_2 (b i : Nat) (Z : List PanicEntry → World → Prop) (w : World) (kk : Value → World → Prop) : run1 Tryz.prog Z (Instr.fieldAt 71 (.pointer (some ⟨b, i, none⟩)) 2) w kk = kk (.pointer (some ⟨b, i + 2, none⟩)) w := r1_eq fun w => run_fieldAt of71_2 b i w
theorem fa_71_2p (b i : Nat) (kv : Value → Prop) : Pure1 Tryz.prog (Instr.fieldAt 71 (.pointer (some ⟨b, i, none⟩)) 2) kv = kv (.pointer (some ⟨b, i + 2, none⟩)) := rp_eq fun w => run_fieldAt of71_2 b i w
theorem fa_77_1 (b i : Nat) (Z : List PanicEntry → World → Prop) (w : World) (kk : Value → World → Prop) : run1 Tryz.prog Z (Instr.fieldAt 77 (.pointer (some ⟨b, i, none⟩)) 1) w kk = kk (.pointer (some ⟨b, i + 1, none⟩)) w := r1_eq fun w => run_fieldAt of77_1 b i w
theorem fa_77_1p (b i : Nat) (kv : Value → Prop) : Pure1 Tryz.prog (Instr.fieldAt 77 (.pointer (some ⟨b, i, none⟩)) 1) kv = kv (.pointer (some ⟨b, i + 1, none⟩)) := rp_eq fun w => run_fieldAt of77_1 b i w
theorem fa_77_0 (b i : Nat) (Z : List PanicEntry → World → Prop) (w : World) (kk : Value → World → Prop) : run1 Tryz.prog Z (Instr.fieldAt 77 (.pointer (some ⟨b, i, none⟩)) 0) w kk = kk (.pointer (some ⟨b, i + 0, none⟩)) w := r1_eq fun w => run_fieldAt of77_0 b i w
theorem fa_77_0p (b i : Nat) (kv : Value → Prop) : Pure1 Tryz.prog (Instr.fieldAt 77 (.pointer (some ⟨b, i, none⟩)) 0) kv = kv (.pointer (some ⟨b, i + 0, none⟩)) := rp_eq fun w => run_fieldAt of77_0 b i w
theorem fa_83_1 (b i : Nat) (Z : List PanicEntry → World → Prop) (w : World) (kk : Value → World → Prop) : run1 Tryz.prog Z (Instr.fieldAt 83 (.pointer (some ⟨b, i, none⟩)) 1) w kk = kk (.pointer (some ⟨b, i + 1, none⟩)) w := r1_eq fun w => run_fieldAt of83_1 b i w
theorem fa_83_1p (b i : Nat) (kv : Value → Prop) : Pure1 Tryz.prog (Instr.fieldAt 83 (.pointer (some ⟨b, i, none⟩)) 1) kv = kv (.pointer (some ⟨b, i + 1, none⟩)) := rp_eq fun w => run_fieldAt of83_1 b i w
theorem fa_83_2 (b i : Nat) (Z : List PanicEntry → World → Prop) (w : World) (kk : Value → World → Prop) : run1 Tryz.prog Z (Instr.fieldAt 83 (.pointer (some ⟨b, i, none⟩)) 2) w kk = kk (.pointer (some ⟨b, i + 2, none⟩)) w := r1_eq fun w => run_fieldAt of83_2 b i w
theorem fa_83_2p (b i : Nat) (kv : Value → Prop) : Pure1 Tryz.prog (Instr.fieldAt 83 (.pointer (some ⟨b, i, none⟩)) 2) kv = kv (.pointer (some ⟨b, i + 2, none⟩)) := rp_eq fun w => run_fieldAt of83_2 b i w
theorem fa_87_1 (b i : Nat) (Z : List PanicEntry → World → Prop) (w : World) (kk : Value → World → Prop) : run1 Tryz.prog Z (Instr.fieldAt 87 (.pointer (some ⟨b, i, none⟩)) 1) w kk = kk (.pointer (some ⟨b, i + 1, none⟩)) w := r1_eq fun w => run_fieldAt of87_1 b i w
theorem fa_87_1p (b i : Nat) (kv : Value → Prop) : Pure1 Tryz.prog (Instr.fieldAt 87 (.pointer (some ⟨b, i, none⟩)) 1) kv = kv (.pointer (some ⟨b, i + 1, none⟩)) := rp_eq fun w => run_fieldAt of87_1 b i w
theorem fa_55_0 (b i : Nat) (Z : List PanicEntry → World → Prop) (w : World) (kk : Value → World → Prop) : run1 Tryz.prog Z (Instr.fieldAt 55 (.pointer (some ⟨b, i, none⟩)) 0) w kk = kk (.pointer (some ⟨b, i + 0, none⟩)) w := r1_eq fun w => run_fieldAt of55_0 b i w
theorem ln_33_3 (a : Option Addr) (n c : Nat) (Z : List PanicEntry → World → Prop) (w : World) (kk : Value → World → Prop) : run1 Tryz.prog Z (Builtin.len_ #[33] 3 #[.slice a n c]) w kk = kk (.int .i64 n) w := r1_eq fun w => run_lenS sl33 _ rfl _ a n c w
theorem fa_55_2 (b i : Nat) (Z : List PanicEntry → World → Prop) (w : World) (kk : Value → World → Prop) : run1 Tryz.prog Z (Instr.fieldAt 55 (.pointer (some ⟨b, i, none⟩)) 2) w kk = kk (.pointer (some ⟨b, i + 2, none⟩)) w := r1_eq fun w => run_fieldAt of55_2 b i w
theorem ln_35_3 (a : Option Addr) (n c : Nat) (Z : List PanicEntry → World → Prop) (w : World) (kk : Value → World → Prop) : run1 Tryz.prog Z (Builtin.len_ #[35] 3 #[.slice a n c]) w kk = kk (.int .i64 n) w := r1_eq fun w => run_lenS sl35 _ rfl _ a n c w
theorem ln_75_3 (a : Option Addr) (n c : Nat) (Z : List PanicEntry → World → Prop) (w : World) (kk : Value → World → Prop) : run1 Tryz.prog Z (Builtin.len_ #[75] 3 #[.slice a n c]) w kk = kk (.int .i64 n) w := r1_eq fun w => run_lenS sl75 _ rfl _ a n c w
theorem ln_75_3p (a : Option Addr) (n c : Nat) (kv : Value → Prop) : Pure1 Tryz.prog (Builtin.len_ #[75] 3 #[.slice a n c]) kv = kv (.int .i64 n) := rp_eq fun w => run_lenS sl75 _ rfl _ a n c w
theorem fa_83_0 (b i : Nat) (Z : List PanicEntry → World → Prop) (w : World) (kk : Value → World → Prop) : run1 Tryz.prog Z (Instr.fieldAt 83 (.pointer (some ⟨b, i, none⟩)) 0) w kk = kk (.pointer (some ⟨b, i + 0, none⟩)) w := r1_eq fun w => run_fieldAt of83_0 b i w
theorem fa_83_0p (b i : Nat) (kv : Value → Prop) : Pure1 Tryz.prog (Instr.fieldAt 83 (.pointer (some ⟨b, i, none⟩)) 0) kv = kv (.pointer (some ⟨b, i + 0, none⟩)) := rp_eq fun w => run_fieldAt of83_0 b i w
theorem fa_55_12 (b i : Nat) (Z : List PanicEntry → World → Prop) (w : World) (kk : Value → World → Prop) : run1 Tryz.prog Z (Instr.fieldAt 55 (.pointer (some ⟨b, i, none⟩)) 12) w kk = kk (.pointer (some ⟨b, i + 12, none⟩)) w := r1_eq fun w => run_fieldAt of55_12 b i w
theorem ln_45_3 (a : Option Addr) (n c : Nat) (Z : List PanicEntry → World → Prop) (w : World) (kk : Value → World → Prop) : run1 Tryz.prog Z (Builtin.len_ #[45] 3 #[.slice a n c]) w kk = kk (.int .i64 n) w := r1_eq fun w => run_lenS sl45 _ rfl _ a n c w
theorem fa_55_1 (b i : Nat) (Z : List PanicEntry → World → Prop) (w : World) (kk : Value → World → Prop) : run1 Tryz.prog Z (Instr.fieldAt 55 (.pointer (some ⟨b, i, none⟩)) 1) w kk = kk (.pointer (some ⟨b, i + 1, none⟩)) w := r1_eq fun w => run_fieldAt of55_1 b i w
theorem fa_55_3 (b i : Nat) (Z : List PanicEntry → World → Prop) (w : World) (kk : Value → World → Prop) : run1 Tryz.prog Z (Instr.fieldAt 55 (.pointer (some ⟨b, i, none⟩)) 3) w kk = kk (.pointer (some ⟨b, i + 3, none⟩)) w := r1_eq fun w => run_fieldAt of55_3 b i w
theorem fa_55_4 (b i : Nat) (Z : List PanicEntry → World → Prop) (w : World) (kk : Value → World → Prop) : run1 Tryz.prog Z (Instr.fieldAt 55 (.pointer (some ⟨b, i, none⟩)) 4) w kk = kk (.pointer (some ⟨b, i + 4, none⟩)) w := r1_eq fun w => run_fieldAt of55_4 b i w
theorem fa_55_5 (b i : Nat) (Z : List PanicEntry → World → Prop) (w : World) (kk : Value → World → Prop) : run1 Tryz.prog Z (Instr.fieldAt 55 (.pointer (some ⟨b, i, none⟩)) 5) w kk = kk (.pointer (some ⟨b, i + 5, none⟩)) w := r1_eq fun w => run_fieldAt of55_5 b i w
theorem fa_55_6 (b i : Nat) (Z : List PanicEntry → World → Prop) (w : World) (kk : Value → World → Prop) : run1 Tryz.prog Z (Instr.fieldAt 55 (.pointer (some ⟨b, i, none⟩)) 6) w kk = kk (.pointer (some ⟨b, i + 6, none⟩)) w := r1_eq fun w => run_fieldAt of55_6 b i w
theorem fa_55_7 (b i : Nat) (Z : List PanicEntry → World → Prop) (w : World) (kk : Value → World → Prop) : run1 Tryz.prog Z (Instr.fieldAt 55 (.pointer (some ⟨b, i, none⟩)) 7) w kk = kk (.pointer (some ⟨b, i + 7, none⟩)) w := r1_eq fun w => run_fieldAt of55_7 b i w
theorem fa_55_8 (b i : Nat) (Z : List PanicEntry → World → Prop) (w : World) (kk : Value → World → Prop) : run1 Tryz.prog Z (Instr.fieldAt 55 (.pointer (some ⟨b, i, none⟩)) 8) w kk = kk (.pointer (some ⟨b, i + 8, none⟩)) w := r1_eq fun w => run_fieldAt of55_8 b i w
theorem fa_55_9 (b i : Nat) (Z : List PanicEntry → World → Prop) (w : World) (kk : Value → World → Prop) : run1 Tryz.prog Z (Instr.fieldAt 55 (.pointer (some ⟨b, i, none⟩)) 9) w kk = kk (.pointer (some ⟨b, i + 9, none⟩)) w := r1_eq fun w => run_fieldAt of55_9 b i w
theorem fa_55_10 (b i : Nat) (Z : List PanicEntry → World → Prop) (w : World) (kk : Value → World → Prop) : run1 Tryz.prog Z (Instr.fieldAt 55 (.pointer (some ⟨b, i, none⟩)) 10) w kk = kk (.pointer (some ⟨b, i + 10, none⟩)) w := r1_eq fun w => run_fieldAt of55_10 b i w
theorem fa_55_11 (b i : Nat) (Z : List PanicEntry → World → Prop) (w : World) (kk : Value → World → Prop) : run1 Tryz.prog Z (Instr.fieldAt 55 (.pointer (some ⟨b, i, none⟩)) 11) w kk = kk (.pointer (some ⟨b, i + 11, none⟩)) w := r1_eq fun w => run_fieldAt of55_11 b i w
theorem fa_55_13 (b i : Nat) (Z : List PanicEntry → World → Prop) (w : World) (kk : Value → World → Prop) : run1 Tryz.prog Z (Instr.fieldAt 55 (.pointer (some ⟨b, i, none⟩)) 13) w kk = kk (.pointer (some ⟨b, i + 13, none⟩)) w := r1_eq fun w => run_fieldAt of55_13 b i w
theorem fa_55_14 (b i : Nat) (Z : List PanicEntry → World → Prop) (w : World) (kk : Value → World → Prop) : run1 Tryz.prog Z (Instr.fieldAt 55 (.pointer (some ⟨b, i, none⟩)) 14) w kk = kk (.pointer (some ⟨b, i + 14, none⟩)) w := r1_eq fun w => run_fieldAt of55_14 b i w
theorem fa_55_15 (b i : Nat) (Z : List PanicEntry → World → Prop) (w : World) (kk : Value → World → Prop) : run1 Tryz.prog Z (Instr.fieldAt 55 (.pointer (some ⟨b, i, none⟩)) 15) w kk = kk (.pointer (some ⟨b, i + 15, none⟩)) w := r1_eq fun w => run_fieldAt of55_15 b i w
theorem fa_55_16 (b i : Nat) (Z : List PanicEntry → World → Prop) (w : World) (kk : Value → World → Prop) : run1 Tryz.prog Z (Instr.fieldAt 55 (.pointer (some ⟨b, i, none⟩)) 16) w kk = kk (.pointer (some ⟨b, i + 16, none⟩)) w := r1_eq fun w => run_fieldAt of55_16 b i w
theorem fa_55_17 (b i : Nat) (Z : List PanicEntry → World → Prop) (w : World) (kk : Value → World → Prop) : run1 Tryz.prog Z (Instr.fieldAt 55 (.pointer (some ⟨b, i, none⟩)) 17) w kk = kk (.pointer (some ⟨b, i + 17, none⟩)) w := r1_eq fun w => run_fieldAt of55_17 b i w
theorem fa_55_18 (b i : Nat) (Z : List PanicEntry → World → Prop) (w : World) (kk : Value → World → Prop) : run1 Tryz.prog Z (Instr.fieldAt 55 (.pointer (some ⟨b, i, none⟩)) 18) w kk = kk (.pointer (some ⟨b, i + 18, none⟩)) w := r1_eq fun w => run_fieldAt of55_18 b i w
theorem fa_55_19 (b i : Nat) (Z : List PanicEntry → World → Prop) (w : World) (kk : Value → World → Prop) : run1 Tryz.prog Z (Instr.fieldAt 55 (.pointer (some ⟨b, i, none⟩)) 19) w kk = kk (.pointer (some ⟨b, i + 19, none⟩)) w := r1_eq fun w => run_fieldAt of55_19 b i w
theorem fa_55_20 (b i : Nat) (Z : List PanicEntry → World → Prop) (w : World) (kk : Value → World → Prop) : run1 Tryz.prog Z (Instr.fieldAt 55 (.pointer (some ⟨b, i, none⟩)) 20) w kk = kk (.pointer (some ⟨b, i + 20, none⟩)) w := r1_eq fun w => run_fieldAt of55_20 b i w
theorem fa_87_2 (b i : Nat) (Z : List PanicEntry → World → Prop) (w : World) (kk : Value → World → Prop) : run1 Tryz.prog Z (Instr.fieldAt 87 (.pointer (some ⟨b, i, none⟩)) 2) w kk = kk (.pointer (some ⟨b, i + 2, none⟩)) w := r1_eq fun w => run_fieldAt of87_2 b i w
theorem eqlb_4 (cx cy a b : Bool) (Z : List PanicEntry → World → Prop) (w : World) (kk : Value → World → Prop) : run1 Tryz.prog Z (eqOp .eql 4 cx cy (.bool a) (.bool b)) w kk = kk (.bool (a == b)) w := r1_eq fun w => run_eql_boolV bo4 cx cy a b w
theorem fa_87_5 (b i : Nat) (Z : List PanicEntry → World → Prop) (w : World) (kk : Value → World → Prop) : run1 Tryz.prog Z (Instr.fieldAt 87 (.pointer (some ⟨b, i, none⟩)) 5) w kk = kk (.pointer (some ⟨b, i + 5, none⟩)) w := r1_eq fun w => run_fieldAt of87_5 b i w
theorem fa_79_2p (b i : Nat) (kv : Value → Prop) : Pure1 Tryz.prog (Instr.fieldAt 79 (.pointer (some ⟨b, i, none⟩)) 2) kv = kv (.pointer (some ⟨b, i + 3, none⟩)) := rp_eq fun w => run_fieldAt of79_2 b i w
theorem fa_79_3 (b i : Nat) (Z : List PanicEntry → World → Prop) (w : World) (kk : Value → World → Prop) : run1 Tryz.prog Z (Instr.fieldAt 79 (.pointer (some ⟨b, i, none⟩)) 3) w kk = kk (.pointer (some ⟨b, i + 4, none⟩)) w := r1_eq fun w => run_fieldAt of79_3 b i w
theorem fa_79_4 (b i : Nat) (Z : List PanicEntry → World → Prop) (w : World) (kk : Value → World → Prop) : run1 Tryz.prog Z (Instr.fieldAt 79 (.pointer (some ⟨b, i, none⟩)) 4) w kk = kk (.pointer (some ⟨b, i + 5, none⟩)) w := r1_eq fun w => run_fieldAt of79_4 b i w
theorem ln_121_3 (a : Option Addr) (n c : Nat) (Z : List PanicEntry → World → Prop) (w : World) (kk : Value → World → Prop) : run1 Tryz.prog Z (Builtin.len_ #[121] 3 #[.slice a n c]) w kk = kk (.int .i64 n) w := r1_eq fun w => run_lenS sl121 _ rfl _ a n c w
theorem fa_79_1 (b i : Nat) (Z : List PanicEntry → World → Prop) (w : World) (kk : Value → World → Prop) : run1 Tryz.prog Z (Instr.fieldAt 79 (.pointer (some ⟨b, i, none⟩)) 1) w kk = kk (.pointer (some ⟨b, i + 2, none⟩)) w := r1_eq fun w => run_fieldAt of79_1 b i w
theorem cv_3_5 (q : IntKind) (n : Int) (Z : List PanicEntry → World → Prop) (w : World) (kk : Value → World → Prop) : run1 Tryz.prog Z (convert 3 5 (.int q n)) w kk = kk (.int .u8 (IntKind.u8.wrap n)) w := r1_eq fun w => run_conv_int (by kernel_rfl) it5 q n w
theorem cv_3_5p (q : IntKind) (n : Int) (kv : Value → Prop) : Pure1 Tryz.prog (convert 3 5 (.int q n)) kv = kv (.int .u8 (IntKind.u8.wrap n)) := rp_eq fun w => run_conv_int (by kernel_rfl) it5 q n w
theorem ln_34_3 (a : Option Addr) (n c : Nat) (Z : List PanicEntry → World → Prop) (w : World) (kk : Value → World → Prop) : run1 Tryz.prog Z (Builtin.len_ #[34] 3 #[.slice a n c]) w kk = kk (.int .i64 n) w := r1_eq fun w => run_lenS sl34 _ rfl _ a n c w
theorem ln_36_3 (a : Option Addr) (n c : Nat) (Z : List PanicEntry → World → Prop) (w : World) (kk : Value → World → Prop) : run1 Tryz.prog Z (Builtin.len_ #[36] 3 #[.slice a n c]) w kk = kk (.int .i64 n) w := r1_eq fun w => run_lenS sl36 _ rfl _ a n c w
theorem ln_37_3 (a : Option Addr) (n c : Nat) (Z : List PanicEntry → World → Prop) (w : World) (kk : Value → World → Prop) : run1 Tryz.prog Z (Builtin.len_ #[37] 3 #[.slice a n c]) w kk = kk (.int .i64 n) w := r1_eq fun w => run_lenS sl37 _ rfl _ a n c w
theorem ln_38_3 (a : Option Addr) (n c : Nat) (Z : List PanicEntry → World → Prop) (w : World) (kk : Value → World → Prop) : run1 Tryz.prog Z (Builtin.len_ #[38] 3 #[.slice a n c]) w kk = kk (.int .i64 n) w := r1_eq fun w => run_lenS sl38 _ rfl _ a n c w
theorem ln_39_3 (a : Option Addr) (n c : Nat) (Z : List PanicEntry → World → Prop) (w : World) (kk : Value → World → Prop) : run1 Tryz.prog Z (Builtin.len_ #[39] 3 #[.slice a n c]) w kk = kk (.int .i64 n) w := r1_eq fun w => run_lenS sl39 _ rfl _ a n c w
theorem ln_40_3 (a : Option Addr) (n c : Nat) (Z : List PanicEntry → World → Prop) (w : World) (kk : Value → World → Prop) : run1 Tryz.prog Z (Builtin.len_ #[40] 3 #[.slice a n c]) w kk = kk (.int .i64 n) w := r1_eq fun w => run_lenS sl40 _ rfl _ a n c w
theorem ln_41_3 (a : Option Addr) (n c : Nat) (Z : List PanicEntry → World → Prop) (w : World) (kk : Value → World → Prop) : run1 Tryz.prog Z (Builtin.len_ #[41] 3 #[.slice a n c]) w kk = kk (.int .i64 n) w := r1_eq fun w => run_lenS sl41 _ rfl _ a n c w
theorem ln_42_3 (a : Option Addr) (n c : Nat) (Z : List PanicEntry → World → Prop) (w : World) (kk : Value → World → Prop) : run1 Tryz.prog Z (Builtin.len_ #[42] 3 #[.slice a n c]) w kk = kk (.int .i64 n) w := r1_eq fun w => run_lenS sl42 _ rfl _ a n c w
theorem ln_43_3 (a : Option Addr) (n c : Nat) (Z : List PanicEntry → World → Prop) (w : World) (kk : Value → World → Prop) : run1 Tryz.prog Z (Builtin.len_ #[43] 3 #[.slice a n c]) w kk = kk (.int .i64 n) w := r1_eq fun w => run_lenS sl43 _ rfl _ a n c w
theorem ln_44_3 (a : Option Addr) (n c : Nat) (Z : List PanicEntry → World → Prop) (w : World) (kk : Value → World → Prop) : run1 Tryz.prog Z (Builtin.len_ #[44] 3 #[.slice a n c]) w kk = kk (.int .i64 n) w := r1_eq fun w => run_lenS sl44 _ rfl _ a n c w
theorem ln_46_3 (a : Option Addr) (n c : Nat) (Z : List PanicEntry → World → Prop) (w : World) (kk : Value → World → Prop) : run1 Tryz.prog Z (Builtin.len_ #[46] 3 #[.slice a n c]) w kk = kk (.int .i64 n) w := r1_eq fun w => run_lenS sl46 _ rfl _ a n c w
theorem ln_47_3 (a : Option Addr) (n c : Nat) (Z : List PanicEntry → World → Prop) (w : World) (kk : Value → World → Prop) : run1 Tryz.prog Z (Builtin.len_ #[47] 3 #[.slice a n c]) w kk = kk (.int .i64 n) w := r1_eq fun w => run_lenS sl47 _ rfl _ a n c w
theorem ln_48_3 (a : Option Addr) (n c : Nat) (Z : List PanicEntry → World → Prop) (w : World) (kk : Value → World → Prop) : run1 Tryz.prog Z (Builtin.len_ #[48] 3 #[.slice a n c]) w kk = kk (.int .i64 n) w := r1_eq fun w => run_lenS sl48 _ rfl _ a n c w
theorem ln_49_3 (a : Option Addr) (n c : Nat) (Z : List PanicEntry → World → Prop) (w : World) (kk : Value → World → Prop) : run1 Tryz.prog Z (Builtin.len_ #[49] 3 #[.slice a n c]) w kk = kk (.int .i64 n) w := r1_eq fun w => run_lenS sl49 _ rfl _ a n c w
theorem ln_50_3 (a : Option Addr) (n c : Nat) (Z : List PanicEntry → World → Prop) (w : World) (kk : Value → World → Prop) : run1 Tryz.prog Z (Builtin.len_ #[50] 3 #[.slice a n c]) w kk = kk (.int .i64 n) w := r1_eq fun w => run_lenS sl50 _ rfl _ a n c w
theorem ln_51_3 (a : Option Addr) (n c : Nat) (Z : List PanicEntry → World → Prop) (w : World) (kk : Value → World → Prop) : run1 Tryz.prog Z (Builtin.len_ #[51] 3 #[.slice a n c]) w kk = kk (.int .i64 n) w := r1_eq fun w => run_lenS sl51 _ rfl _ a n c w
theorem ln_52_3 (a : Option Addr) (n c : Nat) (Z : List PanicEntry → World → Prop) (w : World) (kk : Value → World → Prop) : run1 Tryz.prog Z (Builtin.len_ #[52] 3 #[.slice a n c]) w kk = kk (.int .i64 n) w := r1_eq fun w => run_lenS sl52 _ rfl _ a n c w
theorem ln_53_3 (a : Option Addr) (n c : Nat) (Z : List PanicEntry → World → Prop) (w : World) (kk : Value → World → Prop) : run1 Tryz.prog Z (Builtin.len_ #[53] 3 #[.slice a n c]) w kk = kk (.int .i64 n) w := r1_eq fun w => run_lenS sl53 _ rfl _ a n c w
theorem fa_79_6 (b i : Nat) (Z : List PanicEntry → World → Prop) (w : World) (kk : Value → World → Prop) : run1 Tryz.prog Z (Instr.fieldAt 79 (.pointer (some ⟨b, i, none⟩)) 6) w kk = kk (.pointer (some ⟨b, i + 7, none⟩)) w := r1_eq fun w => run_fieldAt of79_6 b i w
theorem fa_79_5 (b i : Nat) (Z : List PanicEntry → World → Prop) (w : World) (kk : Value → World → Prop) : run1 Tryz.prog Z (Instr.fieldAt 79 (.pointer (some ⟨b, i, none⟩)) 5) w kk = kk (.pointer (some ⟨b, i + 6, none⟩)) w := r1_eq fun w => run_fieldAt of79_5 b i w
theorem o_add (t : TypeId) (k : IntKind) (x y : Int) (Z : List PanicEntry → World → Prop) (w : World) (kk : Value → World → Prop) : run1 Tryz.prog Z (binOp .add t (.int k x) (.int k y)) w kk = kk (.int k (k.wrap (x + y))) w := r1_eq fun w => run_add _ w t k x y
theorem o_addp (t : TypeId) (k : IntKind) (x y : Int) (kv : Value → Prop) : Pure1 Tryz.prog (binOp .add t (.int k x) (.int k y)) kv = kv (.int k (k.wrap (x + y))) := rp_eq fun w => run_add _ w t k x y
theorem o_sub (t : TypeId) (k : IntKind) (x y : Int) (Z : List PanicEntry → World → Prop) (w : World) (kk : Value → World → Prop) : run1 Tryz.prog Z (binOp .sub t (.int k x) (.int k y)) w kk = kk (.int k (k.wrap (x - y))) w := r1_eq fun w => run_sub _ w t k x y
theorem o_subp (t : TypeId) (k : IntKind) (x y : Int) (kv : Value → Prop) : Pure1 Tryz.prog (binOp .sub t (.int k x) (.int k y)) kv = kv (.int k (k.wrap (x - y))) := rp_eq fun w => run_sub _ w t k x y
theorem o_mul (t : TypeId) (k : IntKind) (x y : Int) (Z : List PanicEntry → World → Prop) (w : World) (kk : Value → World → Prop) : run1 Tryz.prog Z (binOp .mul t (.int k x) (.int k y)) w kk = kk (.int k (k.wrap (x * y))) w := r1_eq fun w => run_mul _ w t k x y
theorem o_lss (t : TypeId) (k : IntKind) (x y : Int) (Z : List PanicEntry → World → Prop) (w : World) (kk : Value → World → Prop) : run1 Tryz.prog Z (binOp .lss t (.int k x) (.int k y)) w kk = kk (.bool (decide (x < y))) w := r1_eq fun w => run_lss _ w t k x y
theorem o_lssp (t : TypeId) (k : IntKind) (x y : Int) (kv : Value → Prop) : Pure1 Tryz.prog (binOp .lss t (.int k x) (.int k y)) kv = kv (.bool (decide (x < y))) := rp_eq fun w => run_lss _ w t k x y
theorem o_leq (t : TypeId) (k : IntKind) (x y : Int) (Z : List PanicEntry → World → Prop) (w : World) (kk : Value → World → Prop) : run1 Tryz.prog Z (binOp .leq t (.int k x) (.int k y)) w kk = kk (.bool (decide (x ≤ y))) w := r1_eq fun w => run_leq _ w t k x y
theorem o_gtr (t : TypeId) (k : IntKind) (x y : Int) (Z : List PanicEntry → World → Prop) (w : World) (kk : Value → World → Prop) : run1 Tryz.prog Z (binOp .gtr t (.int k x) (.int k y)) w kk = kk (.bool (decide (y < x))) w := r1_eq fun w => run_gtr _ w t k x y
theorem o_gtrp (t : TypeId) (k : IntKind) (x y : Int) (kv : Value → Prop) : Pure1 Tryz.prog (binOp .gtr t (.int k x) (.int k y)) kv = kv (.bool (decide (y < x))) := rp_eq fun w => run_gtr _ w t k x y
theorem o_geq (t : TypeId) (k : IntKind) (x y : Int) (Z : List PanicEntry → World → Prop) (w : World) (kk : Value → World → Prop) : run1 Tryz.prog Z (binOp .geq t (.int k x) (.int k y)) w kk = kk (.bool (decide (y ≤ x))) w := r1_eq fun w => run_geq _ w t k x y
theorem o_geqp (t : TypeId) (k : IntKind) (x y : Int) (kv : Value → Prop) : Pure1 Tryz.prog (binOp .geq t (.int k x) (.int k y)) kv = kv (.bool (decide (y ≤ x))) := rp_eq fun w => run_geq _ w t k x y
theorem o_eql (t : TypeId) (cx cy : Bool) (k : IntKind) (x y : Int) (Z : List PanicEntry → World → Prop) (w : World) (kk : Value → World → Prop) : run1 Tryz.prog Z (eqOp .eql t cx cy (.int k x) (.int k y)) w kk = kk (.bool (x == y)) w := r1_eq fun w => run_eql_int _ w t cx cy k x y
theorem o_neq (t : TypeId) (cx cy : Bool) (k : IntKind) (x y : Int) (Z : List PanicEntry → World → Prop) (w : World) (kk : Value → World → Prop) : run1 Tryz.prog Z (eqOp .neq t cx cy (.int k x) (.int k y)) w kk = kk (.bool (x != y)) w := r1_eq fun w => run_neq_int _ w t cx cy k x y
theorem o_neqp (t : TypeId) (cx cy : Bool) (k : IntKind) (x y : Int) (kv : Value → Prop) : Pure1 Tryz.prog (eqOp .neq t cx cy (.int k x) (.int k y)) kv = kv (.bool (x != y)) := rp_eq fun w => run_neq_int _ w t cx cy k x y
theorem os_eqlp (t : TypeId) (cx cy : Bool) (a b : ByteArray) (kv : Value → Prop) : Pure1 Tryz.prog (eqOp .eql t cx cy (.string a) (.string b)) kv = kv (.bool ((a.toList == b.toList))) := rp_eq fun w => run_eql_str t cx cy a b w
theorem o_not (b : Bool) (Z : List PanicEntry → World → Prop) (w : World) (kk : Value → World → Prop) : run1 Tryz.prog Z (Op.unary .not (.bool b)) w kk = kk (.bool !b) w := r1_eq fun w => run_not _ w b
theorem o_notp (b : Bool) (kv : Value → Prop) : Pure1 Tryz.prog (Op.unary .not (.bool b)) kv = kv (.bool !b) := rp_eq fun w => run_not _ w b
theorem o_pickT (x y : Value) (Z : List PanicEntry → World → Prop) (w : World) (kk : Value → World → Prop) : run1 Tryz.prog Z (pickV (.bool true) x y) w kk = kk x w := r1_eq fun w => run_pick _ w true x y
theorem o_pickTp (x y : Value) (kv : Value → Prop) : Pure1 Tryz.prog (pickV (.bool true) x y) kv = kv x := rp_eq fun w => run_pick _ w true x y
theorem o_pickF (x y : Value) (Z : List PanicEntry → World → Prop) (w : World) (kk : Value → World → Prop) : run1 Tryz.prog Z (pickV (.bool false) x y) w kk = kk y w := r1_eq fun w => run_pick _ w false x y
theorem o_pickFp (x y : Value) (kv : Value → Prop) : Pure1 Tryz.prog (pickV (.bool false) x y) kv = kv y := rp_eq fun w => run_pick _ w false x y
theorem o_ext2_0 (v0 v1 : Value) (Z : List PanicEntry → World → Prop) (w : World) (kk : Value → World → Prop) : run1 Tryz.prog Z (Instr.extract (.tuple #[v0, v1]) 0) w kk = kk v0 w := r1_eq fun w => run_extract _ w _ 0 _ rfl
theorem o_ext2_0p (v0 v1 : Value) (kv : Value → Prop) : Pure1 Tryz.prog (Instr.extract (.tuple #[v0, v1]) 0) kv = kv v0 := rp_eq fun w => run_extract _ w _ 0 _ rfl
theorem o_ext2_1 (v0 v1 : Value) (Z : List PanicEntry → World → Prop) (w : World) (kk : Value → World → Prop) : run1 Tryz.prog Z (Instr.extract (.tuple #[v0, v1]) 1) w kk = kk v1 w := r1_eq fun w => run_extract _ w _ 1 _ rfl
theorem o_ext2_1p (v0 v1 : Value) (kv : Value → Prop) : Pure1 Tryz.prog (Instr.extract (.tuple #[v0, v1]) 1) kv = kv v1 := rp_eq fun w => run_extract _ w _ 1 _ rfl
theorem o_chk (a : Addr) (Z : List PanicEntry → World → Prop) (w : World) (kk : Value → World → Prop) : runX Tryz.prog Z (nilChk (.pointer (some a))) w kk = kk (.pointer (some a)) w := rX_eq fun w => run_nilChk _ w a
theorem o_chkp (a : Addr) (kv : Value → Prop) : PureV Tryz.prog (nilChk (.pointer (some a))) kv = kv (.pointer (some a)) := rpV_eq fun w => run_nilChk _ w a
end Go.Proofs.YtcbbaiglcgemmaaGreatDoor
