import Derived.Test.YtbccccpdnaeomaaGreatDoorShOpen
import Derived.Test.YtbccccpdnaeomaaGreatDoorProg
set_option linter.unusedVariables false
namespace Go.Proofs.YtbccccpdnaeomaaGreatDoor
open Go.Sh
theorem it2 : intT Tryz.prog 2 = some .i64 := by kernel_rfl
theorem one2 : oneT Tryz.prog 2 = true := by kernel_rfl
theorem it3 : intT Tryz.prog 3 = some .i64 := by kernel_rfl
theorem one3 : oneT Tryz.prog 3 = true := by kernel_rfl
theorem ze3 : zeroT Tryz.prog 3 = some (.int .i64 0) := by kernel_rfl
theorem one4 : oneT Tryz.prog 4 = true := by kernel_rfl
theorem ze4 : zeroT Tryz.prog 4 = some (.bool false) := by kernel_rfl
theorem it5 : intT Tryz.prog 5 = some .u8 := by kernel_rfl
theorem one5 : oneT Tryz.prog 5 = true := by kernel_rfl
theorem st9 : isStrT Tryz.prog 9 = true := by kernel_rfl
theorem one9 : oneT Tryz.prog 9 = true := by kernel_rfl
theorem it21 : intT Tryz.prog 21 = some .i32 := by kernel_rfl
theorem one21 : oneT Tryz.prog 21 = true := by kernel_rfl
theorem pt24 : isPtrT Tryz.prog 24 = true := by kernel_rfl
theorem one24 : oneT Tryz.prog 24 = true := by kernel_rfl
theorem one25 : oneT Tryz.prog 25 = true := by kernel_rfl
theorem ze25 : zeroT Tryz.prog 25 = some (.int .i64 0) := by kernel_rfl
theorem sl30 : isSliceT Tryz.prog 30 = true := by kernel_rfl
theorem one30 : oneT Tryz.prog 30 = true := by kernel_rfl
theorem el30 : El Tryz.prog 30 60 16 168 (.agg #[(.int .u32 0), (.int .u32 0), (.int .i8 0), (.int .u32 0), (.int .i64 0), (.int .i8 0), (.string ByteArray.empty), (.slice none 0 0), (.slice none 0 0), (.int .i32 0), (.bool false), (.bool false), (.int .i64 0), (.int .i32 0), (.slice none 0 0), (.slice none 0 0)]) := ⟨Tryz.underlying30, by kernel_rfl, by kernel_rfl, by decide⟩
theorem pt32 : isPtrT Tryz.prog 32 = true := by kernel_rfl
theorem one32 : oneT Tryz.prog 32 = true := by kernel_rfl
theorem sl34 : isSliceT Tryz.prog 34 = true := by kernel_rfl
theorem one34 : oneT Tryz.prog 34 = true := by kernel_rfl
theorem el34 : El Tryz.prog 34 9 1 16 (.string ByteArray.empty) := ⟨Tryz.underlying34, by kernel_rfl, by kernel_rfl, by decide⟩
theorem it35 : intT Tryz.prog 35 = some .u32 := by kernel_rfl
theorem one35 : oneT Tryz.prog 35 = true := by kernel_rfl
theorem ag37 : aggT Tryz.prog 37 2 = true := by kernel_rfl
theorem ze37 : zeroT Tryz.prog 37 = some (.agg #[(.int .u32 0), (.int .u32 0)]) := by kernel_rfl
theorem of37_0 : offT Tryz.prog 37 0 = some 0 := by kernel_rfl
theorem of37_1 : offT Tryz.prog 37 1 = some 1 := by kernel_rfl
theorem of39_0 : offT Tryz.prog 39 0 = some 0 := by kernel_rfl
theorem of39_1 : offT Tryz.prog 39 1 = some 1 := by kernel_rfl
theorem of39_2 : offT Tryz.prog 39 2 = some 2 := by kernel_rfl
theorem of39_3 : offT Tryz.prog 39 3 = some 3 := by kernel_rfl
theorem of39_4 : offT Tryz.prog 39 4 = some 4 := by kernel_rfl
theorem of39_5 : offT Tryz.prog 39 5 = some 5 := by kernel_rfl
theorem of39_6 : offT Tryz.prog 39 6 = some 7 := by kernel_rfl
theorem sl43 : isSliceT Tryz.prog 43 = true := by kernel_rfl
theorem one43 : oneT Tryz.prog 43 = true := by kernel_rfl
theorem el43 : El Tryz.prog 43 71 3 48 (.agg #[(.string ByteArray.empty), (.slice none 0 0), (.int .i64 0)]) := ⟨Tryz.underlying43, by kernel_rfl, by kernel_rfl, by decide⟩
theorem of45_0 : offT Tryz.prog 45 0 = some 0 := by kernel_rfl
theorem of45_1 : offT Tryz.prog 45 1 = some 1 := by kernel_rfl
theorem of47_0 : offT Tryz.prog 47 0 = some 0 := by kernel_rfl
theorem of47_1 : offT Tryz.prog 47 1 = some 2 := by kernel_rfl
theorem of47_2 : offT Tryz.prog 47 2 = some 3 := by kernel_rfl
theorem of47_3 : offT Tryz.prog 47 3 = some 4 := by kernel_rfl
theorem of47_4 : offT Tryz.prog 47 4 = some 5 := by kernel_rfl
theorem of47_5 : offT Tryz.prog 47 5 = some 6 := by kernel_rfl
theorem of47_6 : offT Tryz.prog 47 6 = some 7 := by kernel_rfl
theorem it50 : intT Tryz.prog 50 = some .i8 := by kernel_rfl
theorem one50 : oneT Tryz.prog 50 = true := by kernel_rfl
theorem of52_0 : offT Tryz.prog 52 0 = some 0 := by kernel_rfl
theorem of52_1 : offT Tryz.prog 52 1 = some 1 := by kernel_rfl
theorem of52_2 : offT Tryz.prog 52 2 = some 2 := by kernel_rfl
theorem sl53 : isSliceT Tryz.prog 53 = true := by kernel_rfl
theorem one53 : oneT Tryz.prog 53 = true := by kernel_rfl
theorem el53 : El Tryz.prog 53 5 1 1 (.int .u8 0) := ⟨Tryz.underlying53, by kernel_rfl, by kernel_rfl, by decide⟩
theorem sl54 : isSliceT Tryz.prog 54 = true := by kernel_rfl
theorem one54 : oneT Tryz.prog 54 = true := by kernel_rfl
theorem el54 : El Tryz.prog 54 146 3 40 (.agg #[(.int .i8 0), (.string ByteArray.empty), (.string ByteArray.empty)]) := ⟨Tryz.underlying54, by kernel_rfl, by kernel_rfl, by decide⟩
theorem sl55 : isSliceT Tryz.prog 55 = true := by kernel_rfl
theorem one55 : oneT Tryz.prog 55 = true := by kernel_rfl
theorem el55 : El Tryz.prog 55 144 2 32 (.agg #[(.string ByteArray.empty), (.string ByteArray.empty)]) := ⟨Tryz.underlying55, by kernel_rfl, by kernel_rfl, by decide⟩
theorem sl56 : isSliceT Tryz.prog 56 = true := by kernel_rfl
theorem one56 : oneT Tryz.prog 56 = true := by kernel_rfl
theorem el56 : El Tryz.prog 56 58 11 144 (.agg #[(.int .i8 0), (.string ByteArray.empty), (.slice none 0 0), (.slice none 0 0), (.int .i32 0), (.bool false), (.bool false), (.int .i64 0), (.int .i32 0), (.slice none 0 0), (.slice none 0 0)]) := ⟨Tryz.underlying56, by kernel_rfl, by kernel_rfl, by decide⟩
theorem ag58 : aggT Tryz.prog 58 11 = true := by kernel_rfl
theorem ze58 : zeroT Tryz.prog 58 = some (.agg #[(.int .i8 0), (.string ByteArray.empty), (.slice none 0 0), (.slice none 0 0), (.int .i32 0), (.bool false), (.bool false), (.int .i64 0), (.int .i32 0), (.slice none 0 0), (.slice none 0 0)]) := by kernel_rfl
theorem of58_0 : offT Tryz.prog 58 0 = some 0 := by kernel_rfl
theorem of58_1 : offT Tryz.prog 58 1 = some 1 := by kernel_rfl
theorem of58_2 : offT Tryz.prog 58 2 = some 2 := by kernel_rfl
theorem of58_3 : offT Tryz.prog 58 3 = some 3 := by kernel_rfl
theorem of58_4 : offT Tryz.prog 58 4 = some 4 := by kernel_rfl
theorem of58_5 : offT Tryz.prog 58 5 = some 5 := by kernel_rfl
theorem of58_6 : offT Tryz.prog 58 6 = some 6 := by kernel_rfl
theorem of58_7 : offT Tryz.prog 58 7 = some 7 := by kernel_rfl
theorem of58_8 : offT Tryz.prog 58 8 = some 8 := by kernel_rfl
theorem of58_9 : offT Tryz.prog 58 9 = some 9 := by kernel_rfl
theorem of58_10 : offT Tryz.prog 58 10 = some 10 := by kernel_rfl
theorem ag60 : aggT Tryz.prog 60 16 = true := by kernel_rfl
theorem ze60 : zeroT Tryz.prog 60 = some (.agg #[(.int .u32 0), (.int .u32 0), (.int .i8 0), (.int .u32 0), (.int .i64 0), (.int .i8 0), (.string ByteArray.empty), (.slice none 0 0), (.slice none 0 0), (.int .i32 0), (.bool false), (.bool false), (.int .i64 0), (.int .i32 0), (.slice none 0 0), (.slice none 0 0)]) := by kernel_rfl
theorem of60_0 : offT Tryz.prog 60 0 = some 0 := by kernel_rfl
theorem of60_1 : offT Tryz.prog 60 1 = some 2 := by kernel_rfl
theorem of60_2 : offT Tryz.prog 60 2 = some 5 := by kernel_rfl
theorem ag71 : aggT Tryz.prog 71 3 = true := by kernel_rfl
theorem ze71 : zeroT Tryz.prog 71 = some (.agg #[(.string ByteArray.empty), (.slice none 0 0), (.int .i64 0)]) := by kernel_rfl
theorem of71_0 : offT Tryz.prog 71 0 = some 0 := by kernel_rfl
theorem of71_1 : offT Tryz.prog 71 1 = some 1 := by kernel_rfl
theorem of71_2 : offT Tryz.prog 71 2 = some 2 := by kernel_rfl
theorem sl80 : isSliceT Tryz.prog 80 = true := by kernel_rfl
theorem el80 : El Tryz.prog 80 3 1 8 (.int .i64 0) := ⟨Tryz.underlying80, by kernel_rfl, by kernel_rfl, by decide⟩
theorem it115 : intT Tryz.prog 115 = some .u64 := by kernel_rfl
theorem one130 : oneT Tryz.prog 130 = true := by kernel_rfl
theorem ze130 : zeroT Tryz.prog 130 = some (.int .u64 0) := by kernel_rfl
theorem one133 : oneT Tryz.prog 133 = true := by kernel_rfl
theorem pt134 : isPtrT Tryz.prog 134 = true := by kernel_rfl
theorem ag140 : aggT Tryz.prog 140 1 = true := by kernel_rfl
theorem of140_0 : offT Tryz.prog 140 0 = some 0 := by kernel_rfl
theorem fu141 : isFuncT Tryz.prog 141 = true := by kernel_rfl
theorem ag144 : aggT Tryz.prog 144 2 = true := by kernel_rfl
theorem ze144 : zeroT Tryz.prog 144 = some (.agg #[(.string ByteArray.empty), (.string ByteArray.empty)]) := by kernel_rfl
theorem of144_0 : offT Tryz.prog 144 0 = some 0 := by kernel_rfl
theorem of144_1 : offT Tryz.prog 144 1 = some 1 := by kernel_rfl
theorem ag146 : aggT Tryz.prog 146 3 = true := by kernel_rfl
theorem ze146 : zeroT Tryz.prog 146 = some (.agg #[(.int .i8 0), (.string ByteArray.empty), (.string ByteArray.empty)]) := by kernel_rfl
theorem of146_0 : offT Tryz.prog 146 0 = some 0 := by kernel_rfl
theorem of146_1 : offT Tryz.prog 146 1 = some 1 := by kernel_rfl
theorem ze151 : zeroT Tryz.prog 151 = some (.agg #[(.int .u8 0), (.int .u8 0), (.int .u8 0), (.int .u8 0), (.int .u8 0), (.int .u8 0), (.int .u8 0), (.int .u8 0), (.int .u8 0), (.int .u8 0), (.int .u8 0), (.int .u8 0), (.int .u8 0), (.int .u8 0), (.int .u8 0), (.int .u8 0), (.int .u8 0), (.int .u8 0), (.int .u8 0), (.int .u8 0), (.int .u8 0), (.int .u8 0), (.int .u8 0), (.int .u8 0), (.int .u8 0), (.int .u8 0), (.int .u8 0), (.int .u8 0), (.int .u8 0), (.int .u8 0), (.int .u8 0), (.int .u8 0), (.int .u8 0), (.int .u8 0), (.int .u8 0), (.int .u8 0), (.int .u8 0), (.int .u8 0), (.int .u8 0), (.int .u8 0), (.int .u8 0), (.int .u8 0), (.int .u8 0), (.int .u8 0), (.int .u8 0), (.int .u8 0), (.int .u8 0), (.int .u8 0), (.int .u8 0), (.int .u8 0), (.int .u8 0), (.int .u8 0), (.int .u8 0), (.int .u8 0), (.int .u8 0), (.int .u8 0), (.int .u8 0), (.int .u8 0), (.int .u8 0), (.int .u8 0), (.int .u8 0), (.int .u8 0), (.int .u8 0), (.int .u8 0), (.int .u8 0)]) := by kernel_rfl
theorem pt171 : isPtrT Tryz.prog 171 = true := by kernel_rfl
theorem of173_0 : offT Tryz.prog 173 0 = some 0 := by kernel_rfl
theorem fu177 : isFuncT Tryz.prog 177 = true := by kernel_rfl
theorem ag179 : aggT Tryz.prog 179 4 = true := by kernel_rfl
theorem ze179 : zeroT Tryz.prog 179 = some (.agg #[(.int .u8 0), (.int .u8 0), (.int .u8 0), (.int .u8 0)]) := by kernel_rfl
theorem of183_0 : offT Tryz.prog 183 0 = some 0 := by kernel_rfl
theorem of183_1 : offT Tryz.prog 183 1 = some 1 := by kernel_rfl
theorem of183_2 : offT Tryz.prog 183 2 = some 2 := by kernel_rfl
theorem fu189 : isFuncT Tryz.prog 189 = true := by kernel_rfl
theorem fu192 : isFuncT Tryz.prog 192 = true := by kernel_rfl
theorem fu214 : isFuncT Tryz.prog 214 = true := by kernel_rfl
theorem fu218 : isFuncT Tryz.prog 218 = true := by kernel_rfl
theorem eqlp_32 (cx cy : Bool) (a : Addr) (Z : List PanicEntry → World → Prop) (w : World) (kk : Value → World → Prop) : run1 Tryz.prog Z (eqOp .eql 32 cx cy (.pointer (some a)) (.pointer none)) w kk = kk (.bool false) w := r1_eq fun w => run_eql_ptr_nil pt32 cx cy a w
theorem eqln_32 (cx cy : Bool) (Z : List PanicEntry → World → Prop) (w : World) (kk : Value → World → Prop) : run1 Tryz.prog Z (eqOp .eql 32 cx cy (.pointer none) (.pointer none)) w kk = kk (.bool true) w := r1_eq fun w => run_eqlNN pt32 cx cy w
theorem eqlp_24 (cx cy : Bool) (a : Addr) (Z : List PanicEntry → World → Prop) (w : World) (kk : Value → World → Prop) : run1 Tryz.prog Z (eqOp .eql 24 cx cy (.pointer (some a)) (.pointer none)) w kk = kk (.bool false) w := r1_eq fun w => run_eql_ptr_nil pt24 cx cy a w
theorem eqln_24 (cx cy : Bool) (Z : List PanicEntry → World → Prop) (w : World) (kk : Value → World → Prop) : run1 Tryz.prog Z (eqOp .eql 24 cx cy (.pointer none) (.pointer none)) w kk = kk (.bool true) w := r1_eq fun w => run_eqlNN pt24 cx cy w
theorem ln_30_3 (a : Option Addr) (n c : Nat) (Z : List PanicEntry → World → Prop) (w : World) (kk : Value → World → Prop) : run1 Tryz.prog Z (Builtin.len_ #[30] 3 #[.slice a n c]) w kk = kk (.int .i64 n) w := r1_eq fun w => run_lenS sl30 _ rfl _ a n c w
theorem ln_30_3p (a : Option Addr) (n c : Nat) (kv : Value → Prop) : Pure1 Tryz.prog (Builtin.len_ #[30] 3 #[.slice a n c]) kv = kv (.int .i64 n) := rp_eq fun w => run_lenS sl30 _ rfl _ a n c w
theorem fa_60_0 (b i : Nat) (Z : List PanicEntry → World → Prop) (w : World) (kk : Value → World → Prop) : run1 Tryz.prog Z (Instr.fieldAt 60 (.pointer (some ⟨b, i, none⟩)) 0) w kk = kk (.pointer (some ⟨b, i + 0, none⟩)) w := r1_eq fun w => run_fieldAt of60_0 b i w
theorem fa_37_1 (b i : Nat) (Z : List PanicEntry → World → Prop) (w : World) (kk : Value → World → Prop) : run1 Tryz.prog Z (Instr.fieldAt 37 (.pointer (some ⟨b, i, none⟩)) 1) w kk = kk (.pointer (some ⟨b, i + 1, none⟩)) w := r1_eq fun w => run_fieldAt of37_1 b i w
theorem fa_37_1p (b i : Nat) (kv : Value → Prop) : Pure1 Tryz.prog (Instr.fieldAt 37 (.pointer (some ⟨b, i, none⟩)) 1) kv = kv (.pointer (some ⟨b, i + 1, none⟩)) := rp_eq fun w => run_fieldAt of37_1 b i w
theorem ln_34_3 (a : Option Addr) (n c : Nat) (Z : List PanicEntry → World → Prop) (w : World) (kk : Value → World → Prop) : run1 Tryz.prog Z (Builtin.len_ #[34] 3 #[.slice a n c]) w kk = kk (.int .i64 n) w := r1_eq fun w => run_lenS sl34 _ rfl _ a n c w
theorem ln_34_3p (a : Option Addr) (n c : Nat) (kv : Value → Prop) : Pure1 Tryz.prog (Builtin.len_ #[34] 3 #[.slice a n c]) kv = kv (.int .i64 n) := rp_eq fun w => run_lenS sl34 _ rfl _ a n c w
theorem fa_47_0 (b i : Nat) (Z : List PanicEntry → World → Prop) (w : World) (kk : Value → World → Prop) : run1 Tryz.prog Z (Instr.fieldAt 47 (.pointer (some ⟨b, i, none⟩)) 0) w kk = kk (.pointer (some ⟨b, i + 0, none⟩)) w := r1_eq fun w => run_fieldAt of47_0 b i w
theorem fa_47_0p (b i : Nat) (kv : Value → Prop) : Pure1 Tryz.prog (Instr.fieldAt 47 (.pointer (some ⟨b, i, none⟩)) 0) kv = kv (.pointer (some ⟨b, i + 0, none⟩)) := rp_eq fun w => run_fieldAt of47_0 b i w
theorem fa_45_0 (b i : Nat) (Z : List PanicEntry → World → Prop) (w : World) (kk : Value → World → Prop) : run1 Tryz.prog Z (Instr.fieldAt 45 (.pointer (some ⟨b, i, none⟩)) 0) w kk = kk (.pointer (some ⟨b, i + 0, none⟩)) w := r1_eq fun w => run_fieldAt of45_0 b i w
theorem fa_45_0p (b i : Nat) (kv : Value → Prop) : Pure1 Tryz.prog (Instr.fieldAt 45 (.pointer (some ⟨b, i, none⟩)) 0) kv = kv (.pointer (some ⟨b, i + 0, none⟩)) := rp_eq fun w => run_fieldAt of45_0 b i w
theorem ln_43_3 (a : Option Addr) (n c : Nat) (Z : List PanicEntry → World → Prop) (w : World) (kk : Value → World → Prop) : run1 Tryz.prog Z (Builtin.len_ #[43] 3 #[.slice a n c]) w kk = kk (.int .i64 n) w := r1_eq fun w => run_lenS sl43 _ rfl _ a n c w
theorem ln_43_3p (a : Option Addr) (n c : Nat) (kv : Value → Prop) : Pure1 Tryz.prog (Builtin.len_ #[43] 3 #[.slice a n c]) kv = kv (.int .i64 n) := rp_eq fun w => run_lenS sl43 _ rfl _ a n c w
theorem ln_53_3 (a : Option Addr) (n c : Nat) (Z : List PanicEntry → World → Prop) (w : World) (kk : Value → World → Prop) : run1 Tryz.prog Z (Builtin.len_ #[53] 3 #[.slice a n c]) w kk = kk (.int .i64 n) w := r1_eq fun w => run_lenS sl53 _ rfl _ a n c w
theorem ln_53_3p (a : Option Addr) (n c : Nat) (kv : Value → Prop) : Pure1 Tryz.prog (Builtin.len_ #[53] 3 #[.slice a n c]) kv = kv (.int .i64 n) := rp_eq fun w => run_lenS sl53 _ rfl _ a n c w
theorem fa_47_2p (b i : Nat) (kv : Value → Prop) : Pure1 Tryz.prog (Instr.fieldAt 47 (.pointer (some ⟨b, i, none⟩)) 2) kv = kv (.pointer (some ⟨b, i + 3, none⟩)) := rp_eq fun w => run_fieldAt of47_2 b i w
theorem fa_45_1 (b i : Nat) (Z : List PanicEntry → World → Prop) (w : World) (kk : Value → World → Prop) : run1 Tryz.prog Z (Instr.fieldAt 45 (.pointer (some ⟨b, i, none⟩)) 1) w kk = kk (.pointer (some ⟨b, i + 1, none⟩)) w := r1_eq fun w => run_fieldAt of45_1 b i w
theorem fa_45_1p (b i : Nat) (kv : Value → Prop) : Pure1 Tryz.prog (Instr.fieldAt 45 (.pointer (some ⟨b, i, none⟩)) 1) kv = kv (.pointer (some ⟨b, i + 1, none⟩)) := rp_eq fun w => run_fieldAt of45_1 b i w
theorem fa_71_1 (b i : Nat) (Z : List PanicEntry → World → Prop) (w : World) (kk : Value → World → Prop) : run1 Tryz.prog Z (Instr.fieldAt 71 (.pointer (some ⟨b, i, none⟩)) 1) w kk = kk (.pointer (some ⟨b, i + 1, none⟩)) w := r1_eq fun w => run_fieldAt of71_1 b i w
theorem fa_71_1p (b i : Nat) (kv : Value → Prop) : Pure1 Tryz.prog (Instr.fieldAt 71 (.pointer (some ⟨b, i, none⟩)) 1) kv = kv (.pointer (some ⟨b, i + 1, none⟩)) := rp_eq fun w => run_fieldAt of71_1 b i w
theorem fa_60_2 (b i : Nat) (Z : List PanicEntry → World → Prop) (w : World) (kk : Value → World → Prop) : run1 Tryz.prog Z (Instr.fieldAt 60 (.pointer (some ⟨b, i, none⟩)) 2) w kk = kk (.pointer (some ⟨b, i + 5, none⟩)) w := r1_eq fun w => run_fieldAt of60_2 b i w
theorem ln_80_3 (a : Option Addr) (n c : Nat) (Z : List PanicEntry → World → Prop) (w : World) (kk : Value → World → Prop) : run1 Tryz.prog Z (Builtin.len_ #[80] 3 #[.slice a n c]) w kk = kk (.int .i64 n) w := r1_eq fun w => run_lenS sl80 _ rfl _ a n c w
theorem fa_39_5 (b i : Nat) (Z : List PanicEntry → World → Prop) (w : World) (kk : Value → World → Prop) : run1 Tryz.prog Z (Instr.fieldAt 39 (.pointer (some ⟨b, i, none⟩)) 5) w kk = kk (.pointer (some ⟨b, i + 5, none⟩)) w := r1_eq fun w => run_fieldAt of39_5 b i w
theorem fa_39_5p (b i : Nat) (kv : Value → Prop) : Pure1 Tryz.prog (Instr.fieldAt 39 (.pointer (some ⟨b, i, none⟩)) 5) kv = kv (.pointer (some ⟨b, i + 5, none⟩)) := rp_eq fun w => run_fieldAt of39_5 b i w
theorem fa_39_3 (b i : Nat) (Z : List PanicEntry → World → Prop) (w : World) (kk : Value → World → Prop) : run1 Tryz.prog Z (Instr.fieldAt 39 (.pointer (some ⟨b, i, none⟩)) 3) w kk = kk (.pointer (some ⟨b, i + 3, none⟩)) w := r1_eq fun w => run_fieldAt of39_3 b i w
theorem fa_39_3p (b i : Nat) (kv : Value → Prop) : Pure1 Tryz.prog (Instr.fieldAt 39 (.pointer (some ⟨b, i, none⟩)) 3) kv = kv (.pointer (some ⟨b, i + 3, none⟩)) := rp_eq fun w => run_fieldAt of39_3 b i w
theorem fa_39_4 (b i : Nat) (Z : List PanicEntry → World → Prop) (w : World) (kk : Value → World → Prop) : run1 Tryz.prog Z (Instr.fieldAt 39 (.pointer (some ⟨b, i, none⟩)) 4) w kk = kk (.pointer (some ⟨b, i + 4, none⟩)) w := r1_eq fun w => run_fieldAt of39_4 b i w
theorem fa_39_4p (b i : Nat) (kv : Value → Prop) : Pure1 Tryz.prog (Instr.fieldAt 39 (.pointer (some ⟨b, i, none⟩)) 4) kv = kv (.pointer (some ⟨b, i + 4, none⟩)) := rp_eq fun w => run_fieldAt of39_4 b i w
theorem fa_39_2p (b i : Nat) (kv : Value → Prop) : Pure1 Tryz.prog (Instr.fieldAt 39 (.pointer (some ⟨b, i, none⟩)) 2) kv = kv (.pointer (some ⟨b, i + 2, none⟩)) := rp_eq fun w => run_fieldAt of39_2 b i w
theorem fa_39_1p (b i : Nat) (kv : Value → Prop) : Pure1 Tryz.prog (Instr.fieldAt 39 (.pointer (some ⟨b, i, none⟩)) 1) kv = kv (.pointer (some ⟨b, i + 1, none⟩)) := rp_eq fun w => run_fieldAt of39_1 b i w
theorem fa_39_6 (b i : Nat) (Z : List PanicEntry → World → Prop) (w : World) (kk : Value → World → Prop) : run1 Tryz.prog Z (Instr.fieldAt 39 (.pointer (some ⟨b, i, none⟩)) 6) w kk = kk (.pointer (some ⟨b, i + 7, none⟩)) w := r1_eq fun w => run_fieldAt of39_6 b i w
theorem fa_39_6p (b i : Nat) (kv : Value → Prop) : Pure1 Tryz.prog (Instr.fieldAt 39 (.pointer (some ⟨b, i, none⟩)) 6) kv = kv (.pointer (some ⟨b, i + 7, none⟩)) := rp_eq fun w => run_fieldAt of39_6 b i w
theorem fa_47_3 (b i : Nat) (Z : List PanicEntry → World → Prop) (w : World) (kk : Value → World → Prop) : run1 Tryz.prog Z (Instr.fieldAt 47 (.pointer (some ⟨b, i, none⟩)) 3) w kk = kk (.pointer (some ⟨b, i + 4, none⟩)) w := r1_eq fun w => run_fieldAt of47_3 b i w
theorem fa_71_0 (b i : Nat) (Z : List PanicEntry → World → Prop) (w : World) (kk : Value → World → Prop) : run1 Tryz.prog Z (Instr.fieldAt 71 (.pointer (some ⟨b, i, none⟩)) 0) w kk = kk (.pointer (some ⟨b, i + 0, none⟩)) w := r1_eq fun w => run_fieldAt of71_0 b i w
theorem fa_71_0p (b i : Nat) (kv : Value → Prop) : Pure1 Tryz.prog (Instr.fieldAt 71 (.pointer (some ⟨b, i, none⟩)) 0) kv = kv (.pointer (some ⟨b, i + 0, none⟩)) := rp_eq fun w => run_fieldAt of71_0 b i w
theorem fa_47_4 (b i : Nat) (Z : List PanicEntry → World → Prop) (w : World) (kk : Value → World → Prop) : run1 Tryz.prog Z (Instr.fieldAt 47 (.pointer (some ⟨b, i, none⟩)) 4) w kk = kk (.pointer (some ⟨b, i + 5, none⟩)) w := r1_eq fun w => run_fieldAt of47_4 b i w
theorem fa_47_5 (b i : Nat) (Z : List PanicEntry → World → Prop) (w : World) (kk : Value → World → Prop) : run1 Tryz.prog Z (Instr.fieldAt 47 (.pointer (some ⟨b, i, none⟩)) 5) w kk = kk (.pointer (some ⟨b, i + 6, none⟩)) w := r1_eq fun w => run_fieldAt of47_5 b i w
theorem fa_47_6 (b i : Nat) (Z : List PanicEntry → World → Prop) (w : World) (kk : Value → World → Prop) : run1 Tryz.prog Z (Instr.fieldAt 47 (.pointer (some ⟨b, i, none⟩)) 6) w kk = kk (.pointer (some ⟨b, i + 7, none⟩)) w := r1_eq fun w => run_fieldAt of47_6 b i w
theorem fa_39_0 (b i : Nat) (Z : List PanicEntry → World → Prop) (w : World) (kk : Value → World → Prop) : run1 Tryz.prog Z (Instr.fieldAt 39 (.pointer (some ⟨b, i, none⟩)) 0) w kk = kk (.pointer (some ⟨b, i + 0, none⟩)) w := r1_eq fun w => run_fieldAt of39_0 b i w
theorem fa_39_0p (b i : Nat) (kv : Value → Prop) : Pure1 Tryz.prog (Instr.fieldAt 39 (.pointer (some ⟨b, i, none⟩)) 0) kv = kv (.pointer (some ⟨b, i + 0, none⟩)) := rp_eq fun w => run_fieldAt of39_0 b i w
theorem fa_71_2 (b i : Nat) (Z : List PanicEntry → World → Prop) (w : World) (kk : Value → World → Prop) : run1 Tryz.prog Z (Instr.fieldAt 71 (.pointer (some ⟨b, i, none⟩)) 2) w kk = kk (.pointer (some ⟨b, i + 2, none⟩)) w := r1_eq fun w => run_fieldAt of71_2 b i w
theorem fa_71_2p (b i : Nat) (kv : Value → Prop) : Pure1 Tryz.prog (Instr.fieldAt 71 (.pointer (some ⟨b, i, none⟩)) 2) kv = kv (.pointer (some ⟨b, i + 2, none⟩)) := rp_eq fun w => run_fieldAt of71_2 b i w
theorem cv_2_115 (q : IntKind) (n : Int) (Z : List PanicEntry → World → Prop) (w : World) (kk : Value → World → Prop) : run1 Tryz.prog Z (convert 2 115 (.int q n)) w kk = kk (.int .u64 (IntKind.u64.wrap n)) w := r1_eq fun w => run_conv_int (by kernel_rfl) it115 q n w
theorem fa_47_1 (b i : Nat) (Z : List PanicEntry → World → Prop) (w : World) (kk : Value → World → Prop) : run1 Tryz.prog Z (Instr.fieldAt 47 (.pointer (some ⟨b, i, none⟩)) 1) w kk = kk (.pointer (some ⟨b, i + 2, none⟩)) w := r1_eq fun w => run_fieldAt of47_1 b i w
theorem ln_9_3 (s : ByteArray) (Z : List PanicEntry → World → Prop) (w : World) (kk : Value → World → Prop) : run1 Tryz.prog Z (Builtin.len_ #[9] 3 #[.string s]) w kk = kk (.int .i64 s.size) w := r1_eq fun w => run_lenStr st9 _ rfl _ s w
theorem fa_58_2 (b i : Nat) (Z : List PanicEntry → World → Prop) (w : World) (kk : Value → World → Prop) : run1 Tryz.prog Z (Instr.fieldAt 58 (.pointer (some ⟨b, i, none⟩)) 2) w kk = kk (.pointer (some ⟨b, i + 2, none⟩)) w := r1_eq fun w => run_fieldAt of58_2 b i w
theorem fa_58_2p (b i : Nat) (kv : Value → Prop) : Pure1 Tryz.prog (Instr.fieldAt 58 (.pointer (some ⟨b, i, none⟩)) 2) kv = kv (.pointer (some ⟨b, i + 2, none⟩)) := rp_eq fun w => run_fieldAt of58_2 b i w
theorem fa_58_3 (b i : Nat) (Z : List PanicEntry → World → Prop) (w : World) (kk : Value → World → Prop) : run1 Tryz.prog Z (Instr.fieldAt 58 (.pointer (some ⟨b, i, none⟩)) 3) w kk = kk (.pointer (some ⟨b, i + 3, none⟩)) w := r1_eq fun w => run_fieldAt of58_3 b i w
theorem fa_58_3p (b i : Nat) (kv : Value → Prop) : Pure1 Tryz.prog (Instr.fieldAt 58 (.pointer (some ⟨b, i, none⟩)) 3) kv = kv (.pointer (some ⟨b, i + 3, none⟩)) := rp_eq fun w => run_fieldAt of58_3 b i w
theorem ln_54_3 (a : Option Addr) (n c : Nat) (Z : List PanicEntry → World → Prop) (w : World) (kk : Value → World → Prop) : run1 Tryz.prog Z (Builtin.len_ #[54] 3 #[.slice a n c]) w kk = kk (.int .i64 n) w := r1_eq fun w => run_lenS sl54 _ rfl _ a n c w
theorem fa_58_9 (b i : Nat) (Z : List PanicEntry → World → Prop) (w : World) (kk : Value → World → Prop) : run1 Tryz.prog Z (Instr.fieldAt 58 (.pointer (some ⟨b, i, none⟩)) 9) w kk = kk (.pointer (some ⟨b, i + 9, none⟩)) w := r1_eq fun w => run_fieldAt of58_9 b i w
theorem fa_58_9p (b i : Nat) (kv : Value → Prop) : Pure1 Tryz.prog (Instr.fieldAt 58 (.pointer (some ⟨b, i, none⟩)) 9) kv = kv (.pointer (some ⟨b, i + 9, none⟩)) := rp_eq fun w => run_fieldAt of58_9 b i w
theorem ln_55_3 (a : Option Addr) (n c : Nat) (Z : List PanicEntry → World → Prop) (w : World) (kk : Value → World → Prop) : run1 Tryz.prog Z (Builtin.len_ #[55] 3 #[.slice a n c]) w kk = kk (.int .i64 n) w := r1_eq fun w => run_lenS sl55 _ rfl _ a n c w
theorem fa_58_10 (b i : Nat) (Z : List PanicEntry → World → Prop) (w : World) (kk : Value → World → Prop) : run1 Tryz.prog Z (Instr.fieldAt 58 (.pointer (some ⟨b, i, none⟩)) 10) w kk = kk (.pointer (some ⟨b, i + 10, none⟩)) w := r1_eq fun w => run_fieldAt of58_10 b i w
theorem fa_58_10p (b i : Nat) (kv : Value → Prop) : Pure1 Tryz.prog (Instr.fieldAt 58 (.pointer (some ⟨b, i, none⟩)) 10) kv = kv (.pointer (some ⟨b, i + 10, none⟩)) := rp_eq fun w => run_fieldAt of58_10 b i w
theorem ln_56_3 (a : Option Addr) (n c : Nat) (Z : List PanicEntry → World → Prop) (w : World) (kk : Value → World → Prop) : run1 Tryz.prog Z (Builtin.len_ #[56] 3 #[.slice a n c]) w kk = kk (.int .i64 n) w := r1_eq fun w => run_lenS sl56 _ rfl _ a n c w
theorem fa_37_0 (b i : Nat) (Z : List PanicEntry → World → Prop) (w : World) (kk : Value → World → Prop) : run1 Tryz.prog Z (Instr.fieldAt 37 (.pointer (some ⟨b, i, none⟩)) 0) w kk = kk (.pointer (some ⟨b, i + 0, none⟩)) w := r1_eq fun w => run_fieldAt of37_0 b i w
theorem fa_37_0p (b i : Nat) (kv : Value → Prop) : Pure1 Tryz.prog (Instr.fieldAt 37 (.pointer (some ⟨b, i, none⟩)) 0) kv = kv (.pointer (some ⟨b, i + 0, none⟩)) := rp_eq fun w => run_fieldAt of37_0 b i w
theorem fa_60_1 (b i : Nat) (Z : List PanicEntry → World → Prop) (w : World) (kk : Value → World → Prop) : run1 Tryz.prog Z (Instr.fieldAt 60 (.pointer (some ⟨b, i, none⟩)) 1) w kk = kk (.pointer (some ⟨b, i + 2, none⟩)) w := r1_eq fun w => run_fieldAt of60_1 b i w
theorem fa_52_0 (b i : Nat) (Z : List PanicEntry → World → Prop) (w : World) (kk : Value → World → Prop) : run1 Tryz.prog Z (Instr.fieldAt 52 (.pointer (some ⟨b, i, none⟩)) 0) w kk = kk (.pointer (some ⟨b, i + 0, none⟩)) w := r1_eq fun w => run_fieldAt of52_0 b i w
theorem fa_52_2 (b i : Nat) (Z : List PanicEntry → World → Prop) (w : World) (kk : Value → World → Prop) : run1 Tryz.prog Z (Instr.fieldAt 52 (.pointer (some ⟨b, i, none⟩)) 2) w kk = kk (.pointer (some ⟨b, i + 2, none⟩)) w := r1_eq fun w => run_fieldAt of52_2 b i w
theorem fa_58_0 (b i : Nat) (Z : List PanicEntry → World → Prop) (w : World) (kk : Value → World → Prop) : run1 Tryz.prog Z (Instr.fieldAt 58 (.pointer (some ⟨b, i, none⟩)) 0) w kk = kk (.pointer (some ⟨b, i + 0, none⟩)) w := r1_eq fun w => run_fieldAt of58_0 b i w
theorem fa_52_1 (b i : Nat) (Z : List PanicEntry → World → Prop) (w : World) (kk : Value → World → Prop) : run1 Tryz.prog Z (Instr.fieldAt 52 (.pointer (some ⟨b, i, none⟩)) 1) w kk = kk (.pointer (some ⟨b, i + 1, none⟩)) w := r1_eq fun w => run_fieldAt of52_1 b i w
theorem cv_115_35 (q : IntKind) (n : Int) (Z : List PanicEntry → World → Prop) (w : World) (kk : Value → World → Prop) : run1 Tryz.prog Z (convert 115 35 (.int q n)) w kk = kk (.int .u32 (IntKind.u32.wrap n)) w := r1_eq fun w => run_conv_int (by kernel_rfl) it35 q n w
theorem cv_35_5 (q : IntKind) (n : Int) (Z : List PanicEntry → World → Prop) (w : World) (kk : Value → World → Prop) : run1 Tryz.prog Z (convert 35 5 (.int q n)) w kk = kk (.int .u8 (IntKind.u8.wrap n)) w := r1_eq fun w => run_conv_int (by kernel_rfl) it5 q n w
theorem cv_3_115 (q : IntKind) (n : Int) (Z : List PanicEntry → World → Prop) (w : World) (kk : Value → World → Prop) : run1 Tryz.prog Z (convert 3 115 (.int q n)) w kk = kk (.int .u64 (IntKind.u64.wrap n)) w := r1_eq fun w => run_conv_int (by kernel_rfl) it115 q n w
theorem cv_115_2 (q : IntKind) (n : Int) (Z : List PanicEntry → World → Prop) (w : World) (kk : Value → World → Prop) : run1 Tryz.prog Z (convert 115 2 (.int q n)) w kk = kk (.int .i64 (IntKind.i64.wrap n)) w := r1_eq fun w => run_conv_int (by kernel_rfl) it2 q n w
theorem cv_130_35 (q : IntKind) (n : Int) (Z : List PanicEntry → World → Prop) (w : World) (kk : Value → World → Prop) : run1 Tryz.prog Z (convert 130 35 (.int q n)) w kk = kk (.int .u32 (IntKind.u32.wrap n)) w := r1_eq fun w => run_conv_int (by kernel_rfl) it35 q n w
theorem cv_3_35 (q : IntKind) (n : Int) (Z : List PanicEntry → World → Prop) (w : World) (kk : Value → World → Prop) : run1 Tryz.prog Z (convert 3 35 (.int q n)) w kk = kk (.int .u32 (IntKind.u32.wrap n)) w := r1_eq fun w => run_conv_int (by kernel_rfl) it35 q n w
theorem cv_115_50 (q : IntKind) (n : Int) (Z : List PanicEntry → World → Prop) (w : World) (kk : Value → World → Prop) : run1 Tryz.prog Z (convert 115 50 (.int q n)) w kk = kk (.int .i8 (IntKind.i8.wrap n)) w := r1_eq fun w => run_conv_int (by kernel_rfl) it50 q n w
theorem fa_140_0 (b i : Nat) (Z : List PanicEntry → World → Prop) (w : World) (kk : Value → World → Prop) : run1 Tryz.prog Z (Instr.fieldAt 140 (.pointer (some ⟨b, i, none⟩)) 0) w kk = kk (.pointer (some ⟨b, i + 0, none⟩)) w := r1_eq fun w => run_fieldAt of140_0 b i w
theorem fa_58_1 (b i : Nat) (Z : List PanicEntry → World → Prop) (w : World) (kk : Value → World → Prop) : run1 Tryz.prog Z (Instr.fieldAt 58 (.pointer (some ⟨b, i, none⟩)) 1) w kk = kk (.pointer (some ⟨b, i + 1, none⟩)) w := r1_eq fun w => run_fieldAt of58_1 b i w
theorem fa_58_4 (b i : Nat) (Z : List PanicEntry → World → Prop) (w : World) (kk : Value → World → Prop) : run1 Tryz.prog Z (Instr.fieldAt 58 (.pointer (some ⟨b, i, none⟩)) 4) w kk = kk (.pointer (some ⟨b, i + 4, none⟩)) w := r1_eq fun w => run_fieldAt of58_4 b i w
theorem fa_58_5 (b i : Nat) (Z : List PanicEntry → World → Prop) (w : World) (kk : Value → World → Prop) : run1 Tryz.prog Z (Instr.fieldAt 58 (.pointer (some ⟨b, i, none⟩)) 5) w kk = kk (.pointer (some ⟨b, i + 5, none⟩)) w := r1_eq fun w => run_fieldAt of58_5 b i w
theorem fa_58_6 (b i : Nat) (Z : List PanicEntry → World → Prop) (w : World) (kk : Value → World → Prop) : run1 Tryz.prog Z (Instr.fieldAt 58 (.pointer (some ⟨b, i, none⟩)) 6) w kk = kk (.pointer (some ⟨b, i + 6, none⟩)) w := r1_eq fun w => run_fieldAt of58_6 b i w
theorem fa_58_7 (b i : Nat) (Z : List PanicEntry → World → Prop) (w : World) (kk : Value → World → Prop) : run1 Tryz.prog Z (Instr.fieldAt 58 (.pointer (some ⟨b, i, none⟩)) 7) w kk = kk (.pointer (some ⟨b, i + 7, none⟩)) w := r1_eq fun w => run_fieldAt of58_7 b i w
theorem fa_58_8 (b i : Nat) (Z : List PanicEntry → World → Prop) (w : World) (kk : Value → World → Prop) : run1 Tryz.prog Z (Instr.fieldAt 58 (.pointer (some ⟨b, i, none⟩)) 8) w kk = kk (.pointer (some ⟨b, i + 8, none⟩)) w := r1_eq fun w => run_fieldAt of58_8 b i w
theorem fa_183_1 (b i : Nat) (Z : List PanicEntry → World → Prop) (w : World) (kk : Value → World → Prop) : run1 Tryz.prog Z (Instr.fieldAt 183 (.pointer (some ⟨b, i, none⟩)) 1) w kk = kk (.pointer (some ⟨b, i + 1, none⟩)) w := r1_eq fun w => run_fieldAt of183_1 b i w
theorem cv_115_5p (q : IntKind) (n : Int) (kv : Value → Prop) : Pure1 Tryz.prog (convert 115 5 (.int q n)) kv = kv (.int .u8 (IntKind.u8.wrap n)) := rp_eq fun w => run_conv_int (by kernel_rfl) it5 q n w
theorem cv_5_3 (q : IntKind) (n : Int) (Z : List PanicEntry → World → Prop) (w : World) (kk : Value → World → Prop) : run1 Tryz.prog Z (convert 5 3 (.int q n)) w kk = kk (.int .i64 (IntKind.i64.wrap n)) w := r1_eq fun w => run_conv_int (by kernel_rfl) it3 q n w
theorem fa_146_1 (b i : Nat) (Z : List PanicEntry → World → Prop) (w : World) (kk : Value → World → Prop) : run1 Tryz.prog Z (Instr.fieldAt 146 (.pointer (some ⟨b, i, none⟩)) 1) w kk = kk (.pointer (some ⟨b, i + 1, none⟩)) w := r1_eq fun w => run_fieldAt of146_1 b i w
theorem cv_3_5 (q : IntKind) (n : Int) (Z : List PanicEntry → World → Prop) (w : World) (kk : Value → World → Prop) : run1 Tryz.prog Z (convert 3 5 (.int q n)) w kk = kk (.int .u8 (IntKind.u8.wrap n)) w := r1_eq fun w => run_conv_int (by kernel_rfl) it5 q n w
theorem cv_5_115 (q : IntKind) (n : Int) (Z : List PanicEntry → World → Prop) (w : World) (kk : Value → World → Prop) : run1 Tryz.prog Z (convert 5 115 (.int q n)) w kk = kk (.int .u64 (IntKind.u64.wrap n)) w := r1_eq fun w => run_conv_int (by kernel_rfl) it115 q n w
theorem cv_35_115 (q : IntKind) (n : Int) (Z : List PanicEntry → World → Prop) (w : World) (kk : Value → World → Prop) : run1 Tryz.prog Z (convert 35 115 (.int q n)) w kk = kk (.int .u64 (IntKind.u64.wrap n)) w := r1_eq fun w => run_conv_int (by kernel_rfl) it115 q n w
theorem cv_50_115 (q : IntKind) (n : Int) (Z : List PanicEntry → World → Prop) (w : World) (kk : Value → World → Prop) : run1 Tryz.prog Z (convert 50 115 (.int q n)) w kk = kk (.int .u64 (IntKind.u64.wrap n)) w := r1_eq fun w => run_conv_int (by kernel_rfl) it115 q n w
theorem eqlp_171 (cx cy : Bool) (a : Addr) (Z : List PanicEntry → World → Prop) (w : World) (kk : Value → World → Prop) : run1 Tryz.prog Z (eqOp .eql 171 cx cy (.pointer (some a)) (.pointer none)) w kk = kk (.bool false) w := r1_eq fun w => run_eql_ptr_nil pt171 cx cy a w
theorem fa_173_0 (b i : Nat) (Z : List PanicEntry → World → Prop) (w : World) (kk : Value → World → Prop) : run1 Tryz.prog Z (Instr.fieldAt 173 (.pointer (some ⟨b, i, none⟩)) 0) w kk = kk (.pointer (some ⟨b, i + 0, none⟩)) w := r1_eq fun w => run_fieldAt of173_0 b i w
theorem fa_173_0p (b i : Nat) (kv : Value → Prop) : Pure1 Tryz.prog (Instr.fieldAt 173 (.pointer (some ⟨b, i, none⟩)) 0) kv = kv (.pointer (some ⟨b, i + 0, none⟩)) := rp_eq fun w => run_fieldAt of173_0 b i w
theorem cv_5_35 (q : IntKind) (n : Int) (Z : List PanicEntry → World → Prop) (w : World) (kk : Value → World → Prop) : run1 Tryz.prog Z (convert 5 35 (.int q n)) w kk = kk (.int .u32 (IntKind.u32.wrap n)) w := r1_eq fun w => run_conv_int (by kernel_rfl) it35 q n w
theorem neqs_53 (cx cy : Bool) (a : Option Addr) (n c : Nat) (Z : List PanicEntry → World → Prop) (w : World) (kk : Value → World → Prop) : run1 Tryz.prog Z (eqOp .neq 53 cx cy (.slice a n c) (.slice none 0 0)) w kk = kk (.bool !a.isNone) w := r1_eq fun w => run_neq_slice_nil' sl53 cx cy a n c w
theorem fa_183_2 (b i : Nat) (Z : List PanicEntry → World → Prop) (w : World) (kk : Value → World → Prop) : run1 Tryz.prog Z (Instr.fieldAt 183 (.pointer (some ⟨b, i, none⟩)) 2) w kk = kk (.pointer (some ⟨b, i + 2, none⟩)) w := r1_eq fun w => run_fieldAt of183_2 b i w
theorem cv_21_3 (q : IntKind) (n : Int) (Z : List PanicEntry → World → Prop) (w : World) (kk : Value → World → Prop) : run1 Tryz.prog Z (convert 21 3 (.int q n)) w kk = kk (.int .i64 (IntKind.i64.wrap n)) w := r1_eq fun w => run_conv_int (by kernel_rfl) it3 q n w
theorem eqlf_189 (cx cy : Bool) (f : Fn) (a b : Array Value) (Z : List PanicEntry → World → Prop) (w : World) (kk : Value → World → Prop) : run1 Tryz.prog Z (eqOp .eql 189 cx cy (.func f a b) .nilFunc) w kk = kk (.bool false) w := r1_eq fun w => run_eql_func fu189 cx cy f a b w
theorem cv_115_21 (q : IntKind) (n : Int) (Z : List PanicEntry → World → Prop) (w : World) (kk : Value → World → Prop) : run1 Tryz.prog Z (convert 115 21 (.int q n)) w kk = kk (.int .i32 (IntKind.i32.wrap n)) w := r1_eq fun w => run_conv_int (by kernel_rfl) it21 q n w
theorem eqlf_192 (cx cy : Bool) (f : Fn) (a b : Array Value) (Z : List PanicEntry → World → Prop) (w : World) (kk : Value → World → Prop) : run1 Tryz.prog Z (eqOp .eql 192 cx cy (.func f a b) .nilFunc) w kk = kk (.bool false) w := r1_eq fun w => run_eql_func fu192 cx cy f a b w
theorem eqlf_141 (cx cy : Bool) (f : Fn) (a b : Array Value) (Z : List PanicEntry → World → Prop) (w : World) (kk : Value → World → Prop) : run1 Tryz.prog Z (eqOp .eql 141 cx cy (.func f a b) .nilFunc) w kk = kk (.bool false) w := r1_eq fun w => run_eql_func fu141 cx cy f a b w
theorem fa_144_0 (b i : Nat) (Z : List PanicEntry → World → Prop) (w : World) (kk : Value → World → Prop) : run1 Tryz.prog Z (Instr.fieldAt 144 (.pointer (some ⟨b, i, none⟩)) 0) w kk = kk (.pointer (some ⟨b, i + 0, none⟩)) w := r1_eq fun w => run_fieldAt of144_0 b i w
theorem fa_144_1 (b i : Nat) (Z : List PanicEntry → World → Prop) (w : World) (kk : Value → World → Prop) : run1 Tryz.prog Z (Instr.fieldAt 144 (.pointer (some ⟨b, i, none⟩)) 1) w kk = kk (.pointer (some ⟨b, i + 1, none⟩)) w := r1_eq fun w => run_fieldAt of144_1 b i w
theorem cv_3_21 (q : IntKind) (n : Int) (Z : List PanicEntry → World → Prop) (w : World) (kk : Value → World → Prop) : run1 Tryz.prog Z (convert 3 21 (.int q n)) w kk = kk (.int .i32 (IntKind.i32.wrap n)) w := r1_eq fun w => run_conv_int (by kernel_rfl) it21 q n w
theorem eqlf_214 (cx cy : Bool) (f : Fn) (a b : Array Value) (Z : List PanicEntry → World → Prop) (w : World) (kk : Value → World → Prop) : run1 Tryz.prog Z (eqOp .eql 214 cx cy (.func f a b) .nilFunc) w kk = kk (.bool false) w := r1_eq fun w => run_eql_func fu214 cx cy f a b w
theorem fa_146_0 (b i : Nat) (Z : List PanicEntry → World → Prop) (w : World) (kk : Value → World → Prop) : run1 Tryz.prog Z (Instr.fieldAt 146 (.pointer (some ⟨b, i, none⟩)) 0) w kk = kk (.pointer (some ⟨b, i + 0, none⟩)) w := r1_eq fun w => run_fieldAt of146_0 b i w
theorem cv_21_115 (q : IntKind) (n : Int) (Z : List PanicEntry → World → Prop) (w : World) (kk : Value → World → Prop) : run1 Tryz.prog Z (convert 21 115 (.int q n)) w kk = kk (.int .u64 (IntKind.u64.wrap n)) w := r1_eq fun w => run_conv_int (by kernel_rfl) it115 q n w
theorem eqlf_218 (cx cy : Bool) (f : Fn) (a b : Array Value) (Z : List PanicEntry → World → Prop) (w : World) (kk : Value → World → Prop) : run1 Tryz.prog Z (eqOp .eql 218 cx cy (.func f a b) .nilFunc) w kk = kk (.bool false) w := r1_eq fun w => run_eql_func fu218 cx cy f a b w
theorem eqlf_177 (cx cy : Bool) (f : Fn) (a b : Array Value) (Z : List PanicEntry → World → Prop) (w : World) (kk : Value → World → Prop) : run1 Tryz.prog Z (eqOp .eql 177 cx cy (.func f a b) .nilFunc) w kk = kk (.bool false) w := r1_eq fun w => run_eql_func fu177 cx cy f a b w
theorem eqlp_134 (cx cy : Bool) (a : Addr) (Z : List PanicEntry → World → Prop) (w : World) (kk : Value → World → Prop) : run1 Tryz.prog Z (eqOp .eql 134 cx cy (.pointer (some a)) (.pointer none)) w kk = kk (.bool false) w := r1_eq fun w => run_eql_ptr_nil pt134 cx cy a w
theorem fa_183_0 (b i : Nat) (Z : List PanicEntry → World → Prop) (w : World) (kk : Value → World → Prop) : run1 Tryz.prog Z (Instr.fieldAt 183 (.pointer (some ⟨b, i, none⟩)) 0) w kk = kk (.pointer (some ⟨b, i + 0, none⟩)) w := r1_eq fun w => run_fieldAt of183_0 b i w
theorem neqp_171 (cx cy : Bool) (a : Addr) (Z : List PanicEntry → World → Prop) (w : World) (kk : Value → World → Prop) : run1 Tryz.prog Z (eqOp .neq 171 cx cy (.pointer (some a)) (.pointer none)) w kk = kk (.bool true) w := r1_eq fun w => run_neq_ptr_nil pt171 cx cy a w
theorem o_add (t : TypeId) (k : IntKind) (x y : Int) (Z : List PanicEntry → World → Prop) (w : World) (kk : Value → World → Prop) : run1 Tryz.prog Z (binOp .add t (.int k x) (.int k y)) w kk = kk (.int k (k.wrap (x + y))) w := r1_eq fun w => run_add _ w t k x y
theorem o_addp (t : TypeId) (k : IntKind) (x y : Int) (kv : Value → Prop) : Pure1 Tryz.prog (binOp .add t (.int k x) (.int k y)) kv = kv (.int k (k.wrap (x + y))) := rp_eq fun w => run_add _ w t k x y
theorem o_sub (t : TypeId) (k : IntKind) (x y : Int) (Z : List PanicEntry → World → Prop) (w : World) (kk : Value → World → Prop) : run1 Tryz.prog Z (binOp .sub t (.int k x) (.int k y)) w kk = kk (.int k (k.wrap (x - y))) w := r1_eq fun w => run_sub _ w t k x y
theorem o_subp (t : TypeId) (k : IntKind) (x y : Int) (kv : Value → Prop) : Pure1 Tryz.prog (binOp .sub t (.int k x) (.int k y)) kv = kv (.int k (k.wrap (x - y))) := rp_eq fun w => run_sub _ w t k x y
theorem o_mul (t : TypeId) (k : IntKind) (x y : Int) (Z : List PanicEntry → World → Prop) (w : World) (kk : Value → World → Prop) : run1 Tryz.prog Z (binOp .mul t (.int k x) (.int k y)) w kk = kk (.int k (k.wrap (x * y))) w := r1_eq fun w => run_mul _ w t k x y
theorem o_mulp (t : TypeId) (k : IntKind) (x y : Int) (kv : Value → Prop) : Pure1 Tryz.prog (binOp .mul t (.int k x) (.int k y)) kv = kv (.int k (k.wrap (x * y))) := rp_eq fun w => run_mul _ w t k x y
theorem o_lss (t : TypeId) (k : IntKind) (x y : Int) (Z : List PanicEntry → World → Prop) (w : World) (kk : Value → World → Prop) : run1 Tryz.prog Z (binOp .lss t (.int k x) (.int k y)) w kk = kk (.bool (decide (x < y))) w := r1_eq fun w => run_lss _ w t k x y
theorem o_lssp (t : TypeId) (k : IntKind) (x y : Int) (kv : Value → Prop) : Pure1 Tryz.prog (binOp .lss t (.int k x) (.int k y)) kv = kv (.bool (decide (x < y))) := rp_eq fun w => run_lss _ w t k x y
theorem o_leq (t : TypeId) (k : IntKind) (x y : Int) (Z : List PanicEntry → World → Prop) (w : World) (kk : Value → World → Prop) : run1 Tryz.prog Z (binOp .leq t (.int k x) (.int k y)) w kk = kk (.bool (decide (x ≤ y))) w := r1_eq fun w => run_leq _ w t k x y
theorem o_gtr (t : TypeId) (k : IntKind) (x y : Int) (Z : List PanicEntry → World → Prop) (w : World) (kk : Value → World → Prop) : run1 Tryz.prog Z (binOp .gtr t (.int k x) (.int k y)) w kk = kk (.bool (decide (y < x))) w := r1_eq fun w => run_gtr _ w t k x y
theorem o_gtrp (t : TypeId) (k : IntKind) (x y : Int) (kv : Value → Prop) : Pure1 Tryz.prog (binOp .gtr t (.int k x) (.int k y)) kv = kv (.bool (decide (y < x))) := rp_eq fun w => run_gtr _ w t k x y
theorem o_geq (t : TypeId) (k : IntKind) (x y : Int) (Z : List PanicEntry → World → Prop) (w : World) (kk : Value → World → Prop) : run1 Tryz.prog Z (binOp .geq t (.int k x) (.int k y)) w kk = kk (.bool (decide (y ≤ x))) w := r1_eq fun w => run_geq _ w t k x y
theorem o_geqp (t : TypeId) (k : IntKind) (x y : Int) (kv : Value → Prop) : Pure1 Tryz.prog (binOp .geq t (.int k x) (.int k y)) kv = kv (.bool (decide (y ≤ x))) := rp_eq fun w => run_geq _ w t k x y
theorem o_eql (t : TypeId) (cx cy : Bool) (k : IntKind) (x y : Int) (Z : List PanicEntry → World → Prop) (w : World) (kk : Value → World → Prop) : run1 Tryz.prog Z (eqOp .eql t cx cy (.int k x) (.int k y)) w kk = kk (.bool (x == y)) w := r1_eq fun w => run_eql_int _ w t cx cy k x y
theorem o_neq (t : TypeId) (cx cy : Bool) (k : IntKind) (x y : Int) (Z : List PanicEntry → World → Prop) (w : World) (kk : Value → World → Prop) : run1 Tryz.prog Z (eqOp .neq t cx cy (.int k x) (.int k y)) w kk = kk (.bool (x != y)) w := r1_eq fun w => run_neq_int _ w t cx cy k x y
theorem o_neqp (t : TypeId) (cx cy : Bool) (k : IntKind) (x y : Int) (kv : Value → Prop) : Pure1 Tryz.prog (eqOp .neq t cx cy (.int k x) (.int k y)) kv = kv (.bool (x != y)) := rp_eq fun w => run_neq_int _ w t cx cy k x y
theorem os_eql (t : TypeId) (cx cy : Bool) (a b : ByteArray) (Z : List PanicEntry → World → Prop) (w : World) (kk : Value → World → Prop) : run1 Tryz.prog Z (eqOp .eql t cx cy (.string a) (.string b)) w kk = kk (.bool ((a.toList == b.toList))) w := r1_eq fun w => run_eql_str t cx cy a b w
theorem o_and (t : TypeId) (k : IntKind) (x y : Int) (Z : List PanicEntry → World → Prop) (w : World) (kk : Value → World → Prop) : run1 Tryz.prog Z (binOp .and t (.int k x) (.int k y)) w kk = kk (.int k (k.wrap (BitVec.ofInt k.bits x &&& BitVec.ofInt k.bits y).toNat)) w := r1_eq fun w => run_and _ w t k x y
theorem o_or (t : TypeId) (k : IntKind) (x y : Int) (Z : List PanicEntry → World → Prop) (w : World) (kk : Value → World → Prop) : run1 Tryz.prog Z (binOp .or t (.int k x) (.int k y)) w kk = kk (.int k (k.wrap (BitVec.ofInt k.bits x ||| BitVec.ofInt k.bits y).toNat)) w := r1_eq fun w => run_or _ w t k x y
theorem o_not (b : Bool) (Z : List PanicEntry → World → Prop) (w : World) (kk : Value → World → Prop) : run1 Tryz.prog Z (Op.unary .not (.bool b)) w kk = kk (.bool !b) w := r1_eq fun w => run_not _ w b
theorem o_notp (b : Bool) (kv : Value → Prop) : Pure1 Tryz.prog (Op.unary .not (.bool b)) kv = kv (.bool !b) := rp_eq fun w => run_not _ w b
theorem o_pickT (x y : Value) (Z : List PanicEntry → World → Prop) (w : World) (kk : Value → World → Prop) : run1 Tryz.prog Z (pickV (.bool true) x y) w kk = kk x w := r1_eq fun w => run_pick _ w true x y
theorem o_pickTp (x y : Value) (kv : Value → Prop) : Pure1 Tryz.prog (pickV (.bool true) x y) kv = kv x := rp_eq fun w => run_pick _ w true x y
theorem o_pickF (x y : Value) (Z : List PanicEntry → World → Prop) (w : World) (kk : Value → World → Prop) : run1 Tryz.prog Z (pickV (.bool false) x y) w kk = kk y w := r1_eq fun w => run_pick _ w false x y
theorem o_pickFp (x y : Value) (kv : Value → Prop) : Pure1 Tryz.prog (pickV (.bool false) x y) kv = kv y := rp_eq fun w => run_pick _ w false x y
theorem o_ext2_0 (v0 v1 : Value) (Z : List PanicEntry → World → Prop) (w : World) (kk : Value → World → Prop) : run1 Tryz.prog Z (Instr.extract (.tuple #[v0, v1]) 0) w kk = kk v0 w := r1_eq fun w => run_extract _ w _ 0 _ rfl
theorem o_ext2_1 (v0 v1 : Value) (Z : List PanicEntry → World → Prop) (w : World) (kk : Value → World → Prop) : run1 Tryz.prog Z (Instr.extract (.tuple #[v0, v1]) 1) w kk = kk v1 w := r1_eq fun w => run_extract _ w _ 1 _ rfl
theorem o_min (ts : Array TypeId) (t : TypeId) (k k' : IntKind) (x y : Int) (Z : List PanicEntry → World → Prop) (w : World) (kk : Value → World → Prop) : run1 Tryz.prog Z (Builtin.min_ ts t #[.int k x, .int k' y]) w kk = kk (.int k (min x y)) w := r1_eq fun w => run_minV ts t k k' x y w
theorem o_fn (fn : Fn) (a b : Array Value) (Z : List PanicEntry → World → Prop) (w : World) (kk : Value → World → Prop) : run1 Tryz.prog Z (Instr.makeFunc fn a b) w kk = kk (.func fn a b) w := r1_eq fun w => run_makeFunc _ w fn a b
theorem o_chk (a : Addr) (Z : List PanicEntry → World → Prop) (w : World) (kk : Value → World → Prop) : runX Tryz.prog Z (nilChk (.pointer (some a))) w kk = kk (.pointer (some a)) w := rX_eq fun w => run_nilChk _ w a
theorem o_chkp (a : Addr) (kv : Value → Prop) : PureV Tryz.prog (nilChk (.pointer (some a))) kv = kv (.pointer (some a)) := rpV_eq fun w => run_nilChk _ w a
end Go.Proofs.YtbccccpdnaeomaaGreatDoor
