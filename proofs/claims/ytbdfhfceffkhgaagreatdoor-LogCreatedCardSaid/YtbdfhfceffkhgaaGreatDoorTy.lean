import Derived.Test.YtbdfhfceffkhgaaGreatDoorShOpen
import Derived.Test.YtbdfhfceffkhgaaGreatDoorProg
set_option linter.unusedVariables false
namespace Go.Proofs.YtbdfhfceffkhgaaGreatDoor
open Go.Sh
open Tryz renaming prog → π
theorem it2:intT π 2=some .i64:=by kernel_rfl
theorem one2:oneT π 2=true:=by kernel_rfl
theorem it3:intT π 3=some .i64:=by kernel_rfl
theorem one3:oneT π 3=true:=by kernel_rfl
theorem ze3:zeroT π 3=some (.int .i64 0):=by kernel_rfl
theorem bo4:isBoolT π 4=true:=by kernel_rfl
theorem one4:oneT π 4=true:=by kernel_rfl
theorem ze4:zeroT π 4=some (.bool false):=by kernel_rfl
theorem it5:intT π 5=some .u8:=by kernel_rfl
theorem one5:oneT π 5=true:=by kernel_rfl
theorem st9:isStrT π 9=true:=by kernel_rfl
theorem one9:oneT π 9=true:=by kernel_rfl
theorem it21:intT π 21=some .i32:=by kernel_rfl
theorem one21:oneT π 21=true:=by kernel_rfl
theorem sl22:isSliceT π 22=true:=by kernel_rfl
theorem one22:oneT π 22=true:=by kernel_rfl
theorem el22:El π 22 50 16 168 (.agg #[(.int .u32 0),(.int .u32 0),(.int .i8 0),(.int .u32 0),(.int .i64 0),(.int .i8 0),(.string ByteArray.empty),(.slice none 0 0),(.slice none 0 0),(.int .i32 0),(.bool false),(.bool false),(.int .i64 0),(.int .i32 0),(.slice none 0 0),(.slice none 0 0)]):=⟨Tryz.underlying22,by kernel_rfl,by kernel_rfl,by decide⟩
theorem sl23:isSliceT π 23=true:=by kernel_rfl
theorem one23:oneT π 23=true:=by kernel_rfl
theorem el23:El π 23 3 1 8 (.int .i64 0):=⟨Tryz.underlying23,by kernel_rfl,by kernel_rfl,by decide⟩
theorem of25_0:offT π 25 0=some 0:=by kernel_rfl
theorem of25_2:offT π 25 2=some 2:=by kernel_rfl
theorem of25_3:offT π 25 3=some 3:=by kernel_rfl
theorem of25_4:offT π 25 4=some 4:=by kernel_rfl
theorem pt29:isPtrT π 29=true:=by kernel_rfl
theorem one29:oneT π 29=true:=by kernel_rfl
theorem one30:oneT π 30=true:=by kernel_rfl
theorem ze30:zeroT π 30=some (.int .i64 0):=by kernel_rfl
theorem pt33:isPtrT π 33=true:=by kernel_rfl
theorem one33:oneT π 33=true:=by kernel_rfl
theorem it37:intT π 37=some .u32:=by kernel_rfl
theorem one37:oneT π 37=true:=by kernel_rfl
theorem ag39:aggT π 39 2=true:=by kernel_rfl
theorem ze39:zeroT π 39=some (.agg #[(.int .u32 0),(.int .u32 0)]):=by kernel_rfl
theorem of39_0:offT π 39 0=some 0:=by kernel_rfl
theorem of39_1:offT π 39 1=some 1:=by kernel_rfl
theorem it40:intT π 40=some .i8:=by kernel_rfl
theorem one40:oneT π 40=true:=by kernel_rfl
theorem ag42:aggT π 42 3=true:=by kernel_rfl
theorem of42_0:offT π 42 0=some 0:=by kernel_rfl
theorem of42_1:offT π 42 1=some 1:=by kernel_rfl
theorem of42_2:offT π 42 2=some 2:=by kernel_rfl
theorem sl43:isSliceT π 43=true:=by kernel_rfl
theorem one43:oneT π 43=true:=by kernel_rfl
theorem el43:El π 43 5 1 1 (.int .u8 0):=⟨Tryz.underlying43,by kernel_rfl,by kernel_rfl,by decide⟩
theorem sl44:isSliceT π 44=true:=by kernel_rfl
theorem one44:oneT π 44=true:=by kernel_rfl
theorem el44:El π 44 140 3 40 (.agg #[(.int .i8 0),(.string ByteArray.empty),(.string ByteArray.empty)]):=⟨Tryz.underlying44,by kernel_rfl,by kernel_rfl,by decide⟩
theorem sl45:isSliceT π 45=true:=by kernel_rfl
theorem one45:oneT π 45=true:=by kernel_rfl
theorem el45:El π 45 138 2 32 (.agg #[(.string ByteArray.empty),(.string ByteArray.empty)]):=⟨Tryz.underlying45,by kernel_rfl,by kernel_rfl,by decide⟩
theorem sl46:isSliceT π 46=true:=by kernel_rfl
theorem one46:oneT π 46=true:=by kernel_rfl
theorem el46:El π 46 48 11 144 (.agg #[(.int .i8 0),(.string ByteArray.empty),(.slice none 0 0),(.slice none 0 0),(.int .i32 0),(.bool false),(.bool false),(.int .i64 0),(.int .i32 0),(.slice none 0 0),(.slice none 0 0)]):=⟨Tryz.underlying46,by kernel_rfl,by kernel_rfl,by decide⟩
theorem ag48:aggT π 48 11=true:=by kernel_rfl
theorem ze48:zeroT π 48=some (.agg #[(.int .i8 0),(.string ByteArray.empty),(.slice none 0 0),(.slice none 0 0),(.int .i32 0),(.bool false),(.bool false),(.int .i64 0),(.int .i32 0),(.slice none 0 0),(.slice none 0 0)]):=by kernel_rfl
theorem of48_0:offT π 48 0=some 0:=by kernel_rfl
theorem of48_1:offT π 48 1=some 1:=by kernel_rfl
theorem of48_2:offT π 48 2=some 2:=by kernel_rfl
theorem of48_3:offT π 48 3=some 3:=by kernel_rfl
theorem of48_4:offT π 48 4=some 4:=by kernel_rfl
theorem of48_5:offT π 48 5=some 5:=by kernel_rfl
theorem of48_6:offT π 48 6=some 6:=by kernel_rfl
theorem of48_7:offT π 48 7=some 7:=by kernel_rfl
theorem of48_8:offT π 48 8=some 8:=by kernel_rfl
theorem of48_9:offT π 48 9=some 9:=by kernel_rfl
theorem of48_10:offT π 48 10=some 10:=by kernel_rfl
theorem ag50:aggT π 50 16=true:=by kernel_rfl
theorem ze50:zeroT π 50=some (.agg #[(.int .u32 0),(.int .u32 0),(.int .i8 0),(.int .u32 0),(.int .i64 0),(.int .i8 0),(.string ByteArray.empty),(.slice none 0 0),(.slice none 0 0),(.int .i32 0),(.bool false),(.bool false),(.int .i64 0),(.int .i32 0),(.slice none 0 0),(.slice none 0 0)]):=by kernel_rfl
theorem of50_0:offT π 50 0=some 0:=by kernel_rfl
theorem of50_1:offT π 50 1=some 2:=by kernel_rfl
theorem of50_2:offT π 50 2=some 5:=by kernel_rfl
theorem el56:El π 56 94 3 48 (.agg #[(.string ByteArray.empty),(.slice none 0 0),(.int .i64 0)]):=⟨Tryz.underlying56,by kernel_rfl,by kernel_rfl,by decide⟩
theorem sl66:isSliceT π 66=true:=by kernel_rfl
theorem one66:oneT π 66=true:=by kernel_rfl
theorem el66:El π 66 9 1 16 (.string ByteArray.empty):=⟨Tryz.underlying66,by kernel_rfl,by kernel_rfl,by decide⟩
theorem sl72:isSliceT π 72=true:=by kernel_rfl
theorem one72:oneT π 72=true:=by kernel_rfl
theorem el72:El π 72 97 3 48 (.agg #[(.string ByteArray.empty),(.slice none 0 0),(.int .i64 0)]):=⟨Tryz.underlying72,by kernel_rfl,by kernel_rfl,by decide⟩
theorem of74_0:offT π 74 0=some 0:=by kernel_rfl
theorem of74_1:offT π 74 1=some 1:=by kernel_rfl
theorem of76_0:offT π 76 0=some 0:=by kernel_rfl
theorem of76_1:offT π 76 1=some 2:=by kernel_rfl
theorem of76_2:offT π 76 2=some 3:=by kernel_rfl
theorem of76_3:offT π 76 3=some 4:=by kernel_rfl
theorem of76_4:offT π 76 4=some 5:=by kernel_rfl
theorem of76_5:offT π 76 5=some 6:=by kernel_rfl
theorem of76_6:offT π 76 6=some 7:=by kernel_rfl
theorem of85_0:offT π 85 0=some 0:=by kernel_rfl
theorem of85_1:offT π 85 1=some 1:=by kernel_rfl
theorem of85_2:offT π 85 2=some 2:=by kernel_rfl
theorem of85_3:offT π 85 3=some 3:=by kernel_rfl
theorem of85_4:offT π 85 4=some 4:=by kernel_rfl
theorem of85_5:offT π 85 5=some 5:=by kernel_rfl
theorem of85_6:offT π 85 6=some 7:=by kernel_rfl
theorem ag97:aggT π 97 3=true:=by kernel_rfl
theorem ze97:zeroT π 97=some (.agg #[(.string ByteArray.empty),(.slice none 0 0),(.int .i64 0)]):=by kernel_rfl
theorem of97_0:offT π 97 0=some 0:=by kernel_rfl
theorem of97_1:offT π 97 1=some 1:=by kernel_rfl
theorem of97_2:offT π 97 2=some 2:=by kernel_rfl
theorem one131:oneT π 131=true:=by kernel_rfl
theorem ze131:zeroT π 131=some (.int .u64 0):=by kernel_rfl
theorem ag138:aggT π 138 2=true:=by kernel_rfl
theorem ze138:zeroT π 138=some (.agg #[(.string ByteArray.empty),(.string ByteArray.empty)]):=by kernel_rfl
theorem of138_0:offT π 138 0=some 0:=by kernel_rfl
theorem of138_1:offT π 138 1=some 1:=by kernel_rfl
theorem ag140:aggT π 140 3=true:=by kernel_rfl
theorem ze140:zeroT π 140=some (.agg #[(.int .i8 0),(.string ByteArray.empty),(.string ByteArray.empty)]):=by kernel_rfl
theorem of140_0:offT π 140 0=some 0:=by kernel_rfl
theorem of140_1:offT π 140 1=some 1:=by kernel_rfl
theorem one141:oneT π 141=true:=by kernel_rfl
theorem pt142:isPtrT π 142=true:=by kernel_rfl
theorem ag148:aggT π 148 1=true:=by kernel_rfl
theorem of148_0:offT π 148 0=some 0:=by kernel_rfl
theorem fu149:isFuncT π 149=true:=by kernel_rfl
theorem it162:intT π 162=some .u64:=by kernel_rfl
theorem pt181:isPtrT π 181=true:=by kernel_rfl
theorem of183_0:offT π 183 0=some 0:=by kernel_rfl
theorem fu187:isFuncT π 187=true:=by kernel_rfl
theorem ag189:aggT π 189 4=true:=by kernel_rfl
theorem ze189:zeroT π 189=some (.agg #[(.int .u8 0),(.int .u8 0),(.int .u8 0),(.int .u8 0)]):=by kernel_rfl
theorem of198_0:offT π 198 0=some 0:=by kernel_rfl
theorem of198_1:offT π 198 1=some 1:=by kernel_rfl
theorem of198_2:offT π 198 2=some 2:=by kernel_rfl
theorem fu204:isFuncT π 204=true:=by kernel_rfl
theorem fu207:isFuncT π 207=true:=by kernel_rfl
theorem fu231:isFuncT π 231=true:=by kernel_rfl
theorem fu235:isFuncT π 235=true:=by kernel_rfl
theorem ze240:zeroT π 240=some (.agg #[(.int .u8 0),(.int .u8 0),(.int .u8 0),(.int .u8 0),(.int .u8 0),(.int .u8 0),(.int .u8 0),(.int .u8 0),(.int .u8 0),(.int .u8 0),(.int .u8 0),(.int .u8 0),(.int .u8 0),(.int .u8 0),(.int .u8 0),(.int .u8 0),(.int .u8 0),(.int .u8 0),(.int .u8 0),(.int .u8 0),(.int .u8 0),(.int .u8 0),(.int .u8 0),(.int .u8 0),(.int .u8 0),(.int .u8 0),(.int .u8 0),(.int .u8 0),(.int .u8 0),(.int .u8 0),(.int .u8 0),(.int .u8 0),(.int .u8 0),(.int .u8 0),(.int .u8 0),(.int .u8 0),(.int .u8 0),(.int .u8 0),(.int .u8 0),(.int .u8 0),(.int .u8 0),(.int .u8 0),(.int .u8 0),(.int .u8 0),(.int .u8 0),(.int .u8 0),(.int .u8 0),(.int .u8 0),(.int .u8 0),(.int .u8 0),(.int .u8 0),(.int .u8 0),(.int .u8 0),(.int .u8 0),(.int .u8 0),(.int .u8 0),(.int .u8 0),(.int .u8 0),(.int .u8 0),(.int .u8 0),(.int .u8 0),(.int .u8 0),(.int .u8 0),(.int .u8 0),(.int .u8 0)]):=by kernel_rfl
theorem fa_25_0 (b i:Nat) (Z:PZ) (w:World) (kk:PQ):rN π Z (Instr.fieldAt 25 (.pointer (some ⟨b,i,none⟩)) 0) w kk=kk (.pointer (some ⟨b,i+0,none⟩)) w:=r1_eq fun w=>run_fieldAt of25_0 b i w
theorem fa_25_0p (b i:Nat) (kv:Value→Prop):pU π (Instr.fieldAt 25 (.pointer (some ⟨b,i,none⟩)) 0) kv=kv (.pointer (some ⟨b,i+0,none⟩)):=rp_eq fun w=>run_fieldAt of25_0 b i w
theorem ln_22_3 (a:Option Addr) (n c:Nat) (Z:PZ) (w:World) (kk:PQ):rN π Z (Builtin.len_ #[22] 3 #[.slice a n c]) w kk=kk (.int .i64 n) w:=r1_eq fun w=>run_lenS sl22 _ rfl _ a n c w
theorem ln_22_3p (a:Option Addr) (n c:Nat) (kv:Value→Prop):pU π (Builtin.len_ #[22] 3 #[.slice a n c]) kv=kv (.int .i64 n):=rp_eq fun w=>run_lenS sl22 _ rfl _ a n c w
theorem fa_25_2 (b i:Nat) (Z:PZ) (w:World) (kk:PQ):rN π Z (Instr.fieldAt 25 (.pointer (some ⟨b,i,none⟩)) 2) w kk=kk (.pointer (some ⟨b,i+2,none⟩)) w:=r1_eq fun w=>run_fieldAt of25_2 b i w
theorem fa_25_2p (b i:Nat) (kv:Value→Prop):pU π (Instr.fieldAt 25 (.pointer (some ⟨b,i,none⟩)) 2) kv=kv (.pointer (some ⟨b,i+2,none⟩)):=rp_eq fun w=>run_fieldAt of25_2 b i w
theorem eqlp_33 (cx cy:Bool) (a:Addr) (Z:PZ) (w:World) (kk:PQ):rN π Z (eqOp .eql 33 cx cy (.pointer (some a)) (.pointer none)) w kk=kk (.bool false) w:=r1_eq fun w=>run_eql_ptr_nil pt33 cx cy a w
theorem fa_50_2 (b i:Nat) (Z:PZ) (w:World) (kk:PQ):rN π Z (Instr.fieldAt 50 (.pointer (some ⟨b,i,none⟩)) 2) w kk=kk (.pointer (some ⟨b,i+5,none⟩)) w:=r1_eq fun w=>run_fieldAt of50_2 b i w
theorem fa_50_0 (b i:Nat) (Z:PZ) (w:World) (kk:PQ):rN π Z (Instr.fieldAt 50 (.pointer (some ⟨b,i,none⟩)) 0) w kk=kk (.pointer (some ⟨b,i+0,none⟩)) w:=r1_eq fun w=>run_fieldAt of50_0 b i w
theorem fa_50_0p (b i:Nat) (kv:Value→Prop):pU π (Instr.fieldAt 50 (.pointer (some ⟨b,i,none⟩)) 0) kv=kv (.pointer (some ⟨b,i+0,none⟩)):=rp_eq fun w=>run_fieldAt of50_0 b i w
theorem fa_39_1 (b i:Nat) (Z:PZ) (w:World) (kk:PQ):rN π Z (Instr.fieldAt 39 (.pointer (some ⟨b,i,none⟩)) 1) w kk=kk (.pointer (some ⟨b,i+1,none⟩)) w:=r1_eq fun w=>run_fieldAt of39_1 b i w
theorem fa_39_1p (b i:Nat) (kv:Value→Prop):pU π (Instr.fieldAt 39 (.pointer (some ⟨b,i,none⟩)) 1) kv=kv (.pointer (some ⟨b,i+1,none⟩)):=rp_eq fun w=>run_fieldAt of39_1 b i w
theorem fa_25_3 (b i:Nat) (Z:PZ) (w:World) (kk:PQ):rN π Z (Instr.fieldAt 25 (.pointer (some ⟨b,i,none⟩)) 3) w kk=kk (.pointer (some ⟨b,i+3,none⟩)) w:=r1_eq fun w=>run_fieldAt of25_3 b i w
theorem fa_25_4 (b i:Nat) (Z:PZ) (w:World) (kk:PQ):rN π Z (Instr.fieldAt 25 (.pointer (some ⟨b,i,none⟩)) 4) w kk=kk (.pointer (some ⟨b,i+4,none⟩)) w:=r1_eq fun w=>run_fieldAt of25_4 b i w
theorem ln_66_3 (a:Option Addr) (n c:Nat) (Z:PZ) (w:World) (kk:PQ):rN π Z (Builtin.len_ #[66] 3 #[.slice a n c]) w kk=kk (.int .i64 n) w:=r1_eq fun w=>run_lenS sl66 _ rfl _ a n c w
theorem ln_66_3p (a:Option Addr) (n c:Nat) (kv:Value→Prop):pU π (Builtin.len_ #[66] 3 #[.slice a n c]) kv=kv (.int .i64 n):=rp_eq fun w=>run_lenS sl66 _ rfl _ a n c w
theorem eqlp_29 (cx cy:Bool) (a:Addr) (Z:PZ) (w:World) (kk:PQ):rN π Z (eqOp .eql 29 cx cy (.pointer (some a)) (.pointer none)) w kk=kk (.bool false) w:=r1_eq fun w=>run_eql_ptr_nil pt29 cx cy a w
theorem ln_23_3 (a:Option Addr) (n c:Nat) (Z:PZ) (w:World) (kk:PQ):rN π Z (Builtin.len_ #[23] 3 #[.slice a n c]) w kk=kk (.int .i64 n) w:=r1_eq fun w=>run_lenS sl23 _ rfl _ a n c w
theorem fa_85_5 (b i:Nat) (Z:PZ) (w:World) (kk:PQ):rN π Z (Instr.fieldAt 85 (.pointer (some ⟨b,i,none⟩)) 5) w kk=kk (.pointer (some ⟨b,i+5,none⟩)) w:=r1_eq fun w=>run_fieldAt of85_5 b i w
theorem fa_85_5p (b i:Nat) (kv:Value→Prop):pU π (Instr.fieldAt 85 (.pointer (some ⟨b,i,none⟩)) 5) kv=kv (.pointer (some ⟨b,i+5,none⟩)):=rp_eq fun w=>run_fieldAt of85_5 b i w
theorem fa_85_4 (b i:Nat) (Z:PZ) (w:World) (kk:PQ):rN π Z (Instr.fieldAt 85 (.pointer (some ⟨b,i,none⟩)) 4) w kk=kk (.pointer (some ⟨b,i+4,none⟩)) w:=r1_eq fun w=>run_fieldAt of85_4 b i w
theorem fa_85_4p (b i:Nat) (kv:Value→Prop):pU π (Instr.fieldAt 85 (.pointer (some ⟨b,i,none⟩)) 4) kv=kv (.pointer (some ⟨b,i+4,none⟩)):=rp_eq fun w=>run_fieldAt of85_4 b i w
theorem fa_85_2p (b i:Nat) (kv:Value→Prop):pU π (Instr.fieldAt 85 (.pointer (some ⟨b,i,none⟩)) 2) kv=kv (.pointer (some ⟨b,i+2,none⟩)):=rp_eq fun w=>run_fieldAt of85_2 b i w
theorem fa_85_1p (b i:Nat) (kv:Value→Prop):pU π (Instr.fieldAt 85 (.pointer (some ⟨b,i,none⟩)) 1) kv=kv (.pointer (some ⟨b,i+1,none⟩)):=rp_eq fun w=>run_fieldAt of85_1 b i w
theorem fa_85_3 (b i:Nat) (Z:PZ) (w:World) (kk:PQ):rN π Z (Instr.fieldAt 85 (.pointer (some ⟨b,i,none⟩)) 3) w kk=kk (.pointer (some ⟨b,i+3,none⟩)) w:=r1_eq fun w=>run_fieldAt of85_3 b i w
theorem fa_85_3p (b i:Nat) (kv:Value→Prop):pU π (Instr.fieldAt 85 (.pointer (some ⟨b,i,none⟩)) 3) kv=kv (.pointer (some ⟨b,i+3,none⟩)):=rp_eq fun w=>run_fieldAt of85_3 b i w
theorem ln_43_3 (a:Option Addr) (n c:Nat) (Z:PZ) (w:World) (kk:PQ):rN π Z (Builtin.len_ #[43] 3 #[.slice a n c]) w kk=kk (.int .i64 n) w:=r1_eq fun w=>run_lenS sl43 _ rfl _ a n c w
theorem ln_43_3p (a:Option Addr) (n c:Nat) (kv:Value→Prop):pU π (Builtin.len_ #[43] 3 #[.slice a n c]) kv=kv (.int .i64 n):=rp_eq fun w=>run_lenS sl43 _ rfl _ a n c w
theorem fa_85_6 (b i:Nat) (Z:PZ) (w:World) (kk:PQ):rN π Z (Instr.fieldAt 85 (.pointer (some ⟨b,i,none⟩)) 6) w kk=kk (.pointer (some ⟨b,i+7,none⟩)) w:=r1_eq fun w=>run_fieldAt of85_6 b i w
theorem fa_85_6p (b i:Nat) (kv:Value→Prop):pU π (Instr.fieldAt 85 (.pointer (some ⟨b,i,none⟩)) 6) kv=kv (.pointer (some ⟨b,i+7,none⟩)):=rp_eq fun w=>run_fieldAt of85_6 b i w
theorem fa_76_0 (b i:Nat) (Z:PZ) (w:World) (kk:PQ):rN π Z (Instr.fieldAt 76 (.pointer (some ⟨b,i,none⟩)) 0) w kk=kk (.pointer (some ⟨b,i+0,none⟩)) w:=r1_eq fun w=>run_fieldAt of76_0 b i w
theorem fa_76_0p (b i:Nat) (kv:Value→Prop):pU π (Instr.fieldAt 76 (.pointer (some ⟨b,i,none⟩)) 0) kv=kv (.pointer (some ⟨b,i+0,none⟩)):=rp_eq fun w=>run_fieldAt of76_0 b i w
theorem fa_74_0 (b i:Nat) (Z:PZ) (w:World) (kk:PQ):rN π Z (Instr.fieldAt 74 (.pointer (some ⟨b,i,none⟩)) 0) w kk=kk (.pointer (some ⟨b,i+0,none⟩)) w:=r1_eq fun w=>run_fieldAt of74_0 b i w
theorem fa_74_0p (b i:Nat) (kv:Value→Prop):pU π (Instr.fieldAt 74 (.pointer (some ⟨b,i,none⟩)) 0) kv=kv (.pointer (some ⟨b,i+0,none⟩)):=rp_eq fun w=>run_fieldAt of74_0 b i w
theorem ln_72_3 (a:Option Addr) (n c:Nat) (Z:PZ) (w:World) (kk:PQ):rN π Z (Builtin.len_ #[72] 3 #[.slice a n c]) w kk=kk (.int .i64 n) w:=r1_eq fun w=>run_lenS sl72 _ rfl _ a n c w
theorem ln_72_3p (a:Option Addr) (n c:Nat) (kv:Value→Prop):pU π (Builtin.len_ #[72] 3 #[.slice a n c]) kv=kv (.int .i64 n):=rp_eq fun w=>run_lenS sl72 _ rfl _ a n c w
theorem fa_97_0 (b i:Nat) (Z:PZ) (w:World) (kk:PQ):rN π Z (Instr.fieldAt 97 (.pointer (some ⟨b,i,none⟩)) 0) w kk=kk (.pointer (some ⟨b,i+0,none⟩)) w:=r1_eq fun w=>run_fieldAt of97_0 b i w
theorem fa_97_0p (b i:Nat) (kv:Value→Prop):pU π (Instr.fieldAt 97 (.pointer (some ⟨b,i,none⟩)) 0) kv=kv (.pointer (some ⟨b,i+0,none⟩)):=rp_eq fun w=>run_fieldAt of97_0 b i w
theorem fa_97_1 (b i:Nat) (Z:PZ) (w:World) (kk:PQ):rN π Z (Instr.fieldAt 97 (.pointer (some ⟨b,i,none⟩)) 1) w kk=kk (.pointer (some ⟨b,i+1,none⟩)) w:=r1_eq fun w=>run_fieldAt of97_1 b i w
theorem fa_97_1p (b i:Nat) (kv:Value→Prop):pU π (Instr.fieldAt 97 (.pointer (some ⟨b,i,none⟩)) 1) kv=kv (.pointer (some ⟨b,i+1,none⟩)):=rp_eq fun w=>run_fieldAt of97_1 b i w
theorem fa_97_2 (b i:Nat) (Z:PZ) (w:World) (kk:PQ):rN π Z (Instr.fieldAt 97 (.pointer (some ⟨b,i,none⟩)) 2) w kk=kk (.pointer (some ⟨b,i+2,none⟩)) w:=r1_eq fun w=>run_fieldAt of97_2 b i w
theorem fa_97_2p (b i:Nat) (kv:Value→Prop):pU π (Instr.fieldAt 97 (.pointer (some ⟨b,i,none⟩)) 2) kv=kv (.pointer (some ⟨b,i+2,none⟩)):=rp_eq fun w=>run_fieldAt of97_2 b i w
theorem fa_76_6 (b i:Nat) (Z:PZ) (w:World) (kk:PQ):rN π Z (Instr.fieldAt 76 (.pointer (some ⟨b,i,none⟩)) 6) w kk=kk (.pointer (some ⟨b,i+7,none⟩)) w:=r1_eq fun w=>run_fieldAt of76_6 b i w
theorem fa_39_0 (b i:Nat) (Z:PZ) (w:World) (kk:PQ):rN π Z (Instr.fieldAt 39 (.pointer (some ⟨b,i,none⟩)) 0) w kk=kk (.pointer (some ⟨b,i+0,none⟩)) w:=r1_eq fun w=>run_fieldAt of39_0 b i w
theorem fa_39_0p (b i:Nat) (kv:Value→Prop):pU π (Instr.fieldAt 39 (.pointer (some ⟨b,i,none⟩)) 0) kv=kv (.pointer (some ⟨b,i+0,none⟩)):=rp_eq fun w=>run_fieldAt of39_0 b i w
theorem cv_37_2 (q:IntKind) (n:Int) (Z:PZ) (w:World) (kk:PQ):rN π Z (convert 37 2 (.int q n)) w kk=kk (.int .i64 (IntKind.i64.wrap n)) w:=r1_eq fun w=>run_conv_int (by kernel_rfl) it2 q n w
theorem fa_50_1 (b i:Nat) (Z:PZ) (w:World) (kk:PQ):rN π Z (Instr.fieldAt 50 (.pointer (some ⟨b,i,none⟩)) 1) w kk=kk (.pointer (some ⟨b,i+2,none⟩)) w:=r1_eq fun w=>run_fieldAt of50_1 b i w
theorem fa_42_0 (b i:Nat) (Z:PZ) (w:World) (kk:PQ):rN π Z (Instr.fieldAt 42 (.pointer (some ⟨b,i,none⟩)) 0) w kk=kk (.pointer (some ⟨b,i+0,none⟩)) w:=r1_eq fun w=>run_fieldAt of42_0 b i w
theorem fa_42_2 (b i:Nat) (Z:PZ) (w:World) (kk:PQ):rN π Z (Instr.fieldAt 42 (.pointer (some ⟨b,i,none⟩)) 2) w kk=kk (.pointer (some ⟨b,i+2,none⟩)) w:=r1_eq fun w=>run_fieldAt of42_2 b i w
theorem fa_48_0 (b i:Nat) (Z:PZ) (w:World) (kk:PQ):rN π Z (Instr.fieldAt 48 (.pointer (some ⟨b,i,none⟩)) 0) w kk=kk (.pointer (some ⟨b,i+0,none⟩)) w:=r1_eq fun w=>run_fieldAt of48_0 b i w
theorem fa_76_3 (b i:Nat) (Z:PZ) (w:World) (kk:PQ):rN π Z (Instr.fieldAt 76 (.pointer (some ⟨b,i,none⟩)) 3) w kk=kk (.pointer (some ⟨b,i+4,none⟩)) w:=r1_eq fun w=>run_fieldAt of76_3 b i w
theorem fa_76_4 (b i:Nat) (Z:PZ) (w:World) (kk:PQ):rN π Z (Instr.fieldAt 76 (.pointer (some ⟨b,i,none⟩)) 4) w kk=kk (.pointer (some ⟨b,i+5,none⟩)) w:=r1_eq fun w=>run_fieldAt of76_4 b i w
theorem fa_76_5 (b i:Nat) (Z:PZ) (w:World) (kk:PQ):rN π Z (Instr.fieldAt 76 (.pointer (some ⟨b,i,none⟩)) 5) w kk=kk (.pointer (some ⟨b,i+6,none⟩)) w:=r1_eq fun w=>run_fieldAt of76_5 b i w
theorem fa_74_1 (b i:Nat) (Z:PZ) (w:World) (kk:PQ):rN π Z (Instr.fieldAt 74 (.pointer (some ⟨b,i,none⟩)) 1) w kk=kk (.pointer (some ⟨b,i+1,none⟩)) w:=r1_eq fun w=>run_fieldAt of74_1 b i w
theorem fa_74_1p (b i:Nat) (kv:Value→Prop):pU π (Instr.fieldAt 74 (.pointer (some ⟨b,i,none⟩)) 1) kv=kv (.pointer (some ⟨b,i+1,none⟩)):=rp_eq fun w=>run_fieldAt of74_1 b i w
theorem fa_85_0 (b i:Nat) (Z:PZ) (w:World) (kk:PQ):rN π Z (Instr.fieldAt 85 (.pointer (some ⟨b,i,none⟩)) 0) w kk=kk (.pointer (some ⟨b,i+0,none⟩)) w:=r1_eq fun w=>run_fieldAt of85_0 b i w
theorem fa_85_0p (b i:Nat) (kv:Value→Prop):pU π (Instr.fieldAt 85 (.pointer (some ⟨b,i,none⟩)) 0) kv=kv (.pointer (some ⟨b,i+0,none⟩)):=rp_eq fun w=>run_fieldAt of85_0 b i w
theorem fa_48_2 (b i:Nat) (Z:PZ) (w:World) (kk:PQ):rN π Z (Instr.fieldAt 48 (.pointer (some ⟨b,i,none⟩)) 2) w kk=kk (.pointer (some ⟨b,i+2,none⟩)) w:=r1_eq fun w=>run_fieldAt of48_2 b i w
theorem fa_48_2p (b i:Nat) (kv:Value→Prop):pU π (Instr.fieldAt 48 (.pointer (some ⟨b,i,none⟩)) 2) kv=kv (.pointer (some ⟨b,i+2,none⟩)):=rp_eq fun w=>run_fieldAt of48_2 b i w
theorem fa_48_3 (b i:Nat) (Z:PZ) (w:World) (kk:PQ):rN π Z (Instr.fieldAt 48 (.pointer (some ⟨b,i,none⟩)) 3) w kk=kk (.pointer (some ⟨b,i+3,none⟩)) w:=r1_eq fun w=>run_fieldAt of48_3 b i w
theorem fa_48_3p (b i:Nat) (kv:Value→Prop):pU π (Instr.fieldAt 48 (.pointer (some ⟨b,i,none⟩)) 3) kv=kv (.pointer (some ⟨b,i+3,none⟩)):=rp_eq fun w=>run_fieldAt of48_3 b i w
theorem fa_48_9 (b i:Nat) (Z:PZ) (w:World) (kk:PQ):rN π Z (Instr.fieldAt 48 (.pointer (some ⟨b,i,none⟩)) 9) w kk=kk (.pointer (some ⟨b,i+9,none⟩)) w:=r1_eq fun w=>run_fieldAt of48_9 b i w
theorem fa_48_9p (b i:Nat) (kv:Value→Prop):pU π (Instr.fieldAt 48 (.pointer (some ⟨b,i,none⟩)) 9) kv=kv (.pointer (some ⟨b,i+9,none⟩)):=rp_eq fun w=>run_fieldAt of48_9 b i w
theorem fa_48_10 (b i:Nat) (Z:PZ) (w:World) (kk:PQ):rN π Z (Instr.fieldAt 48 (.pointer (some ⟨b,i,none⟩)) 10) w kk=kk (.pointer (some ⟨b,i+10,none⟩)) w:=r1_eq fun w=>run_fieldAt of48_10 b i w
theorem fa_48_10p (b i:Nat) (kv:Value→Prop):pU π (Instr.fieldAt 48 (.pointer (some ⟨b,i,none⟩)) 10) kv=kv (.pointer (some ⟨b,i+10,none⟩)):=rp_eq fun w=>run_fieldAt of48_10 b i w
theorem ln_46_3 (a:Option Addr) (n c:Nat) (Z:PZ) (w:World) (kk:PQ):rN π Z (Builtin.len_ #[46] 3 #[.slice a n c]) w kk=kk (.int .i64 n) w:=r1_eq fun w=>run_lenS sl46 _ rfl _ a n c w
theorem fa_76_1 (b i:Nat) (Z:PZ) (w:World) (kk:PQ):rN π Z (Instr.fieldAt 76 (.pointer (some ⟨b,i,none⟩)) 1) w kk=kk (.pointer (some ⟨b,i+2,none⟩)) w:=r1_eq fun w=>run_fieldAt of76_1 b i w
theorem fa_48_7 (b i:Nat) (Z:PZ) (w:World) (kk:PQ):rN π Z (Instr.fieldAt 48 (.pointer (some ⟨b,i,none⟩)) 7) w kk=kk (.pointer (some ⟨b,i+7,none⟩)) w:=r1_eq fun w=>run_fieldAt of48_7 b i w
theorem ln_45_3 (a:Option Addr) (n c:Nat) (Z:PZ) (w:World) (kk:PQ):rN π Z (Builtin.len_ #[45] 3 #[.slice a n c]) w kk=kk (.int .i64 n) w:=r1_eq fun w=>run_lenS sl45 _ rfl _ a n c w
theorem ln_44_3 (a:Option Addr) (n c:Nat) (Z:PZ) (w:World) (kk:PQ):rN π Z (Builtin.len_ #[44] 3 #[.slice a n c]) w kk=kk (.int .i64 n) w:=r1_eq fun w=>run_lenS sl44 _ rfl _ a n c w
theorem fa_76_2p (b i:Nat) (kv:Value→Prop):pU π (Instr.fieldAt 76 (.pointer (some ⟨b,i,none⟩)) 2) kv=kv (.pointer (some ⟨b,i+3,none⟩)):=rp_eq fun w=>run_fieldAt of76_2 b i w
theorem fa_42_1 (b i:Nat) (Z:PZ) (w:World) (kk:PQ):rN π Z (Instr.fieldAt 42 (.pointer (some ⟨b,i,none⟩)) 1) w kk=kk (.pointer (some ⟨b,i+1,none⟩)) w:=r1_eq fun w=>run_fieldAt of42_1 b i w
theorem fa_48_1 (b i:Nat) (Z:PZ) (w:World) (kk:PQ):rN π Z (Instr.fieldAt 48 (.pointer (some ⟨b,i,none⟩)) 1) w kk=kk (.pointer (some ⟨b,i+1,none⟩)) w:=r1_eq fun w=>run_fieldAt of48_1 b i w
theorem fa_48_4 (b i:Nat) (Z:PZ) (w:World) (kk:PQ):rN π Z (Instr.fieldAt 48 (.pointer (some ⟨b,i,none⟩)) 4) w kk=kk (.pointer (some ⟨b,i+4,none⟩)) w:=r1_eq fun w=>run_fieldAt of48_4 b i w
theorem fa_48_5 (b i:Nat) (Z:PZ) (w:World) (kk:PQ):rN π Z (Instr.fieldAt 48 (.pointer (some ⟨b,i,none⟩)) 5) w kk=kk (.pointer (some ⟨b,i+5,none⟩)) w:=r1_eq fun w=>run_fieldAt of48_5 b i w
theorem fa_48_6 (b i:Nat) (Z:PZ) (w:World) (kk:PQ):rN π Z (Instr.fieldAt 48 (.pointer (some ⟨b,i,none⟩)) 6) w kk=kk (.pointer (some ⟨b,i+6,none⟩)) w:=r1_eq fun w=>run_fieldAt of48_6 b i w
theorem fa_48_8 (b i:Nat) (Z:PZ) (w:World) (kk:PQ):rN π Z (Instr.fieldAt 48 (.pointer (some ⟨b,i,none⟩)) 8) w kk=kk (.pointer (some ⟨b,i+8,none⟩)) w:=r1_eq fun w=>run_fieldAt of48_8 b i w
theorem ln_9_3 (s:ByteArray) (Z:PZ) (w:World) (kk:PQ):rN π Z (Builtin.len_ #[9] 3 #[.string s]) w kk=kk (.int .i64 s.size) w:=r1_eq fun w=>run_lenStr st9 _ rfl _ s w
theorem cv_162_2 (q:IntKind) (n:Int) (Z:PZ) (w:World) (kk:PQ):rN π Z (convert 162 2 (.int q n)) w kk=kk (.int .i64 (IntKind.i64.wrap n)) w:=r1_eq fun w=>run_conv_int (by kernel_rfl) it2 q n w
theorem cv_131_37 (q:IntKind) (n:Int) (Z:PZ) (w:World) (kk:PQ):rN π Z (convert 131 37 (.int q n)) w kk=kk (.int .u32 (IntKind.u32.wrap n)) w:=r1_eq fun w=>run_conv_int (by kernel_rfl) it37 q n w
theorem cv_3_37 (q:IntKind) (n:Int) (Z:PZ) (w:World) (kk:PQ):rN π Z (convert 3 37 (.int q n)) w kk=kk (.int .u32 (IntKind.u32.wrap n)) w:=r1_eq fun w=>run_conv_int (by kernel_rfl) it37 q n w
theorem cv_2_162 (q:IntKind) (n:Int) (Z:PZ) (w:World) (kk:PQ):rN π Z (convert 2 162 (.int q n)) w kk=kk (.int .u64 (IntKind.u64.wrap n)) w:=r1_eq fun w=>run_conv_int (by kernel_rfl) it162 q n w
theorem cv_162_37 (q:IntKind) (n:Int) (Z:PZ) (w:World) (kk:PQ):rN π Z (convert 162 37 (.int q n)) w kk=kk (.int .u32 (IntKind.u32.wrap n)) w:=r1_eq fun w=>run_conv_int (by kernel_rfl) it37 q n w
theorem cv_162_40 (q:IntKind) (n:Int) (Z:PZ) (w:World) (kk:PQ):rN π Z (convert 162 40 (.int q n)) w kk=kk (.int .i8 (IntKind.i8.wrap n)) w:=r1_eq fun w=>run_conv_int (by kernel_rfl) it40 q n w
theorem fa_148_0 (b i:Nat) (Z:PZ) (w:World) (kk:PQ):rN π Z (Instr.fieldAt 148 (.pointer (some ⟨b,i,none⟩)) 0) w kk=kk (.pointer (some ⟨b,i+0,none⟩)) w:=r1_eq fun w=>run_fieldAt of148_0 b i w
theorem fa_198_1 (b i:Nat) (Z:PZ) (w:World) (kk:PQ):rN π Z (Instr.fieldAt 198 (.pointer (some ⟨b,i,none⟩)) 1) w kk=kk (.pointer (some ⟨b,i+1,none⟩)) w:=r1_eq fun w=>run_fieldAt of198_1 b i w
theorem fa_140_1 (b i:Nat) (Z:PZ) (w:World) (kk:PQ):rN π Z (Instr.fieldAt 140 (.pointer (some ⟨b,i,none⟩)) 1) w kk=kk (.pointer (some ⟨b,i+1,none⟩)) w:=r1_eq fun w=>run_fieldAt of140_1 b i w
theorem fa_138_0 (b i:Nat) (Z:PZ) (w:World) (kk:PQ):rN π Z (Instr.fieldAt 138 (.pointer (some ⟨b,i,none⟩)) 0) w kk=kk (.pointer (some ⟨b,i+0,none⟩)) w:=r1_eq fun w=>run_fieldAt of138_0 b i w
theorem fa_138_1 (b i:Nat) (Z:PZ) (w:World) (kk:PQ):rN π Z (Instr.fieldAt 138 (.pointer (some ⟨b,i,none⟩)) 1) w kk=kk (.pointer (some ⟨b,i+1,none⟩)) w:=r1_eq fun w=>run_fieldAt of138_1 b i w
theorem cv_3_162 (q:IntKind) (n:Int) (Z:PZ) (w:World) (kk:PQ):rN π Z (convert 3 162 (.int q n)) w kk=kk (.int .u64 (IntKind.u64.wrap n)) w:=r1_eq fun w=>run_conv_int (by kernel_rfl) it162 q n w
theorem cv_3_5 (q:IntKind) (n:Int) (Z:PZ) (w:World) (kk:PQ):rN π Z (convert 3 5 (.int q n)) w kk=kk (.int .u8 (IntKind.u8.wrap n)) w:=r1_eq fun w=>run_conv_int (by kernel_rfl) it5 q n w
theorem cv_5_162 (q:IntKind) (n:Int) (Z:PZ) (w:World) (kk:PQ):rN π Z (convert 5 162 (.int q n)) w kk=kk (.int .u64 (IntKind.u64.wrap n)) w:=r1_eq fun w=>run_conv_int (by kernel_rfl) it162 q n w
theorem cv_37_5 (q:IntKind) (n:Int) (Z:PZ) (w:World) (kk:PQ):rN π Z (convert 37 5 (.int q n)) w kk=kk (.int .u8 (IntKind.u8.wrap n)) w:=r1_eq fun w=>run_conv_int (by kernel_rfl) it5 q n w
theorem cv_5_3 (q:IntKind) (n:Int) (Z:PZ) (w:World) (kk:PQ):rN π Z (convert 5 3 (.int q n)) w kk=kk (.int .i64 (IntKind.i64.wrap n)) w:=r1_eq fun w=>run_conv_int (by kernel_rfl) it3 q n w
theorem cv_162_5p (q:IntKind) (n:Int) (kv:Value→Prop):pU π (convert 162 5 (.int q n)) kv=kv (.int .u8 (IntKind.u8.wrap n)):=rp_eq fun w=>run_conv_int (by kernel_rfl) it5 q n w
theorem cv_37_162 (q:IntKind) (n:Int) (Z:PZ) (w:World) (kk:PQ):rN π Z (convert 37 162 (.int q n)) w kk=kk (.int .u64 (IntKind.u64.wrap n)) w:=r1_eq fun w=>run_conv_int (by kernel_rfl) it162 q n w
theorem cv_40_162 (q:IntKind) (n:Int) (Z:PZ) (w:World) (kk:PQ):rN π Z (convert 40 162 (.int q n)) w kk=kk (.int .u64 (IntKind.u64.wrap n)) w:=r1_eq fun w=>run_conv_int (by kernel_rfl) it162 q n w
theorem eqlp_181 (cx cy:Bool) (a:Addr) (Z:PZ) (w:World) (kk:PQ):rN π Z (eqOp .eql 181 cx cy (.pointer (some a)) (.pointer none)) w kk=kk (.bool false) w:=r1_eq fun w=>run_eql_ptr_nil pt181 cx cy a w
theorem fa_183_0 (b i:Nat) (Z:PZ) (w:World) (kk:PQ):rN π Z (Instr.fieldAt 183 (.pointer (some ⟨b,i,none⟩)) 0) w kk=kk (.pointer (some ⟨b,i+0,none⟩)) w:=r1_eq fun w=>run_fieldAt of183_0 b i w
theorem fa_183_0p (b i:Nat) (kv:Value→Prop):pU π (Instr.fieldAt 183 (.pointer (some ⟨b,i,none⟩)) 0) kv=kv (.pointer (some ⟨b,i+0,none⟩)):=rp_eq fun w=>run_fieldAt of183_0 b i w
theorem cv_5_37 (q:IntKind) (n:Int) (Z:PZ) (w:World) (kk:PQ):rN π Z (convert 5 37 (.int q n)) w kk=kk (.int .u32 (IntKind.u32.wrap n)) w:=r1_eq fun w=>run_conv_int (by kernel_rfl) it37 q n w
theorem neqs_43 (cx cy:Bool) (a:Option Addr) (n c:Nat) (Z:PZ) (w:World) (kk:PQ):rN π Z (eqOp .neq 43 cx cy (.slice a n c) (.slice none 0 0)) w kk=kk (.bool !a.isNone) w:=r1_eq fun w=>run_neq_slice_nil' sl43 cx cy a n c w
theorem fa_198_2 (b i:Nat) (Z:PZ) (w:World) (kk:PQ):rN π Z (Instr.fieldAt 198 (.pointer (some ⟨b,i,none⟩)) 2) w kk=kk (.pointer (some ⟨b,i+2,none⟩)) w:=r1_eq fun w=>run_fieldAt of198_2 b i w
theorem cv_21_3 (q:IntKind) (n:Int) (Z:PZ) (w:World) (kk:PQ):rN π Z (convert 21 3 (.int q n)) w kk=kk (.int .i64 (IntKind.i64.wrap n)) w:=r1_eq fun w=>run_conv_int (by kernel_rfl) it3 q n w
theorem eqlf_204 (cx cy:Bool) (f:Fn) (a b:Array Value) (Z:PZ) (w:World) (kk:PQ):rN π Z (eqOp .eql 204 cx cy (.func f a b) .nilFunc) w kk=kk (.bool false) w:=r1_eq fun w=>run_eql_func fu204 cx cy f a b w
theorem cv_162_21 (q:IntKind) (n:Int) (Z:PZ) (w:World) (kk:PQ):rN π Z (convert 162 21 (.int q n)) w kk=kk (.int .i32 (IntKind.i32.wrap n)) w:=r1_eq fun w=>run_conv_int (by kernel_rfl) it21 q n w
theorem eqlf_207 (cx cy:Bool) (f:Fn) (a b:Array Value) (Z:PZ) (w:World) (kk:PQ):rN π Z (eqOp .eql 207 cx cy (.func f a b) .nilFunc) w kk=kk (.bool false) w:=r1_eq fun w=>run_eql_func fu207 cx cy f a b w
theorem eqlf_149 (cx cy:Bool) (f:Fn) (a b:Array Value) (Z:PZ) (w:World) (kk:PQ):rN π Z (eqOp .eql 149 cx cy (.func f a b) .nilFunc) w kk=kk (.bool false) w:=r1_eq fun w=>run_eql_func fu149 cx cy f a b w
theorem cv_3_21 (q:IntKind) (n:Int) (Z:PZ) (w:World) (kk:PQ):rN π Z (convert 3 21 (.int q n)) w kk=kk (.int .i32 (IntKind.i32.wrap n)) w:=r1_eq fun w=>run_conv_int (by kernel_rfl) it21 q n w
theorem eqlf_231 (cx cy:Bool) (f:Fn) (a b:Array Value) (Z:PZ) (w:World) (kk:PQ):rN π Z (eqOp .eql 231 cx cy (.func f a b) .nilFunc) w kk=kk (.bool false) w:=r1_eq fun w=>run_eql_func fu231 cx cy f a b w
theorem fa_140_0 (b i:Nat) (Z:PZ) (w:World) (kk:PQ):rN π Z (Instr.fieldAt 140 (.pointer (some ⟨b,i,none⟩)) 0) w kk=kk (.pointer (some ⟨b,i+0,none⟩)) w:=r1_eq fun w=>run_fieldAt of140_0 b i w
theorem cv_21_162 (q:IntKind) (n:Int) (Z:PZ) (w:World) (kk:PQ):rN π Z (convert 21 162 (.int q n)) w kk=kk (.int .u64 (IntKind.u64.wrap n)) w:=r1_eq fun w=>run_conv_int (by kernel_rfl) it162 q n w
theorem eqlf_235 (cx cy:Bool) (f:Fn) (a b:Array Value) (Z:PZ) (w:World) (kk:PQ):rN π Z (eqOp .eql 235 cx cy (.func f a b) .nilFunc) w kk=kk (.bool false) w:=r1_eq fun w=>run_eql_func fu235 cx cy f a b w
theorem eqlf_187 (cx cy:Bool) (f:Fn) (a b:Array Value) (Z:PZ) (w:World) (kk:PQ):rN π Z (eqOp .eql 187 cx cy (.func f a b) .nilFunc) w kk=kk (.bool false) w:=r1_eq fun w=>run_eql_func fu187 cx cy f a b w
theorem eqlp_142 (cx cy:Bool) (a:Addr) (Z:PZ) (w:World) (kk:PQ):rN π Z (eqOp .eql 142 cx cy (.pointer (some a)) (.pointer none)) w kk=kk (.bool false) w:=r1_eq fun w=>run_eql_ptr_nil pt142 cx cy a w
theorem fa_198_0 (b i:Nat) (Z:PZ) (w:World) (kk:PQ):rN π Z (Instr.fieldAt 198 (.pointer (some ⟨b,i,none⟩)) 0) w kk=kk (.pointer (some ⟨b,i+0,none⟩)) w:=r1_eq fun w=>run_fieldAt of198_0 b i w
theorem neqp_181 (cx cy:Bool) (a:Addr) (Z:PZ) (w:World) (kk:PQ):rN π Z (eqOp .neq 181 cx cy (.pointer (some a)) (.pointer none)) w kk=kk (.bool true) w:=r1_eq fun w=>run_neq_ptr_nil pt181 cx cy a w
theorem o_add (t:TypeId) (k:IntKind) (x y:Int) (Z:PZ) (w:World) (kk:PQ):rN π Z (binOp .add t (.int k x) (.int k y)) w kk=kk (.int k (k.wrap (x+y))) w:=r1_eq fun w=>run_add _ w t k x y
theorem o_addp (t:TypeId) (k:IntKind) (x y:Int) (kv:Value→Prop):pU π (binOp .add t (.int k x) (.int k y)) kv=kv (.int k (k.wrap (x+y))):=rp_eq fun w=>run_add _ w t k x y
theorem o_sub (t:TypeId) (k:IntKind) (x y:Int) (Z:PZ) (w:World) (kk:PQ):rN π Z (binOp .sub t (.int k x) (.int k y)) w kk=kk (.int k (k.wrap (x - y))) w:=r1_eq fun w=>run_sub _ w t k x y
theorem o_subp (t:TypeId) (k:IntKind) (x y:Int) (kv:Value→Prop):pU π (binOp .sub t (.int k x) (.int k y)) kv=kv (.int k (k.wrap (x - y))):=rp_eq fun w=>run_sub _ w t k x y
theorem o_mul (t:TypeId) (k:IntKind) (x y:Int) (Z:PZ) (w:World) (kk:PQ):rN π Z (binOp .mul t (.int k x) (.int k y)) w kk=kk (.int k (k.wrap (x * y))) w:=r1_eq fun w=>run_mul _ w t k x y
theorem o_mulp (t:TypeId) (k:IntKind) (x y:Int) (kv:Value→Prop):pU π (binOp .mul t (.int k x) (.int k y)) kv=kv (.int k (k.wrap (x * y))):=rp_eq fun w=>run_mul _ w t k x y
theorem o_lss (t:TypeId) (k:IntKind) (x y:Int) (Z:PZ) (w:World) (kk:PQ):rN π Z (binOp .lss t (.int k x) (.int k y)) w kk=kk (.bool (decide (x < y))) w:=r1_eq fun w=>run_lss _ w t k x y
theorem o_lssp (t:TypeId) (k:IntKind) (x y:Int) (kv:Value→Prop):pU π (binOp .lss t (.int k x) (.int k y)) kv=kv (.bool (decide (x < y))):=rp_eq fun w=>run_lss _ w t k x y
theorem o_leq (t:TypeId) (k:IntKind) (x y:Int) (Z:PZ) (w:World) (kk:PQ):rN π Z (binOp .leq t (.int k x) (.int k y)) w kk=kk (.bool (decide (x≤y))) w:=r1_eq fun w=>run_leq _ w t k x y
theorem o_gtr (t:TypeId) (k:IntKind) (x y:Int) (Z:PZ) (w:World) (kk:PQ):rN π Z (binOp .gtr t (.int k x) (.int k y)) w kk=kk (.bool (decide (y < x))) w:=r1_eq fun w=>run_gtr _ w t k x y
theorem o_gtrp (t:TypeId) (k:IntKind) (x y:Int) (kv:Value→Prop):pU π (binOp .gtr t (.int k x) (.int k y)) kv=kv (.bool (decide (y < x))):=rp_eq fun w=>run_gtr _ w t k x y
theorem o_geq (t:TypeId) (k:IntKind) (x y:Int) (Z:PZ) (w:World) (kk:PQ):rN π Z (binOp .geq t (.int k x) (.int k y)) w kk=kk (.bool (decide (y≤x))) w:=r1_eq fun w=>run_geq _ w t k x y
theorem o_geqp (t:TypeId) (k:IntKind) (x y:Int) (kv:Value→Prop):pU π (binOp .geq t (.int k x) (.int k y)) kv=kv (.bool (decide (y≤x))):=rp_eq fun w=>run_geq _ w t k x y
theorem o_eql (t:TypeId) (cx cy:Bool) (k:IntKind) (x y:Int) (Z:PZ) (w:World) (kk:PQ):rN π Z (eqOp .eql t cx cy (.int k x) (.int k y)) w kk=kk (.bool (x == y)) w:=r1_eq fun w=>run_eql_int _ w t cx cy k x y
theorem o_eqlp (t:TypeId) (cx cy:Bool) (k:IntKind) (x y:Int) (kv:Value→Prop):pU π (eqOp .eql t cx cy (.int k x) (.int k y)) kv=kv (.bool (x == y)):=rp_eq fun w=>run_eql_int _ w t cx cy k x y
theorem o_neq (t:TypeId) (cx cy:Bool) (k:IntKind) (x y:Int) (Z:PZ) (w:World) (kk:PQ):rN π Z (eqOp .neq t cx cy (.int k x) (.int k y)) w kk=kk (.bool (x != y)) w:=r1_eq fun w=>run_neq_int _ w t cx cy k x y
theorem o_neqp (t:TypeId) (cx cy:Bool) (k:IntKind) (x y:Int) (kv:Value→Prop):pU π (eqOp .neq t cx cy (.int k x) (.int k y)) kv=kv (.bool (x != y)):=rp_eq fun w=>run_neq_int _ w t cx cy k x y
theorem os_eql (t:TypeId) (cx cy:Bool) (a b:ByteArray) (Z:PZ) (w:World) (kk:PQ):rN π Z (eqOp .eql t cx cy (.string a) (.string b)) w kk=kk (.bool ((a.toList == b.toList))) w:=r1_eq fun w=>run_eql_str t cx cy a b w
theorem o_and (t:TypeId) (k:IntKind) (x y:Int) (Z:PZ) (w:World) (kk:PQ):rN π Z (binOp .and t (.int k x) (.int k y)) w kk=kk (.int k (k.wrap (BitVec.ofInt k.bits x &&& BitVec.ofInt k.bits y).toNat)) w:=r1_eq fun w=>run_and _ w t k x y
theorem o_or (t:TypeId) (k:IntKind) (x y:Int) (Z:PZ) (w:World) (kk:PQ):rN π Z (binOp .or t (.int k x) (.int k y)) w kk=kk (.int k (k.wrap (BitVec.ofInt k.bits x ||| BitVec.ofInt k.bits y).toNat)) w:=r1_eq fun w=>run_or _ w t k x y
theorem o_not (b:Bool) (Z:PZ) (w:World) (kk:PQ):rN π Z (Op.unary .not (.bool b)) w kk=kk (.bool !b) w:=r1_eq fun w=>run_not _ w b
theorem o_notp (b:Bool) (kv:Value→Prop):pU π (Op.unary .not (.bool b)) kv=kv (.bool !b):=rp_eq fun w=>run_not _ w b
theorem o_pickT (x y:Value) (Z:PZ) (w:World) (kk:PQ):rN π Z (pickV (.bool true) x y) w kk=kk x w:=r1_eq fun w=>run_pick _ w true x y
theorem o_pickTp (x y:Value) (kv:Value→Prop):pU π (pickV (.bool true) x y) kv=kv x:=rp_eq fun w=>run_pick _ w true x y
theorem o_pickF (x y:Value) (Z:PZ) (w:World) (kk:PQ):rN π Z (pickV (.bool false) x y) w kk=kk y w:=r1_eq fun w=>run_pick _ w false x y
theorem o_pickFp (x y:Value) (kv:Value→Prop):pU π (pickV (.bool false) x y) kv=kv y:=rp_eq fun w=>run_pick _ w false x y
theorem o_ext2_0 (v0 v1:Value) (Z:PZ) (w:World) (kk:PQ):rN π Z (Instr.extract (.tuple #[v0,v1]) 0) w kk=kk v0 w:=r1_eq fun w=>run_extract _ w _ 0 _ rfl
theorem o_ext2_0p (v0 v1:Value) (kv:Value→Prop):pU π (Instr.extract (.tuple #[v0,v1]) 0) kv=kv v0:=rp_eq fun w=>run_extract _ w _ 0 _ rfl
theorem o_ext2_1 (v0 v1:Value) (Z:PZ) (w:World) (kk:PQ):rN π Z (Instr.extract (.tuple #[v0,v1]) 1) w kk=kk v1 w:=r1_eq fun w=>run_extract _ w _ 1 _ rfl
theorem o_ext2_1p (v0 v1:Value) (kv:Value→Prop):pU π (Instr.extract (.tuple #[v0,v1]) 1) kv=kv v1:=rp_eq fun w=>run_extract _ w _ 1 _ rfl
theorem o_min (ts:Array TypeId) (t:TypeId) (k k':IntKind) (x y:Int) (Z:PZ) (w:World) (kk:PQ):rN π Z (Builtin.min_ ts t #[.int k x,.int k' y]) w kk=kk (.int k (min x y)) w:=r1_eq fun w=>run_minV ts t k k' x y w
theorem o_fn (fn:Fn) (a b:Array Value) (Z:PZ) (w:World) (kk:PQ):rN π Z (Instr.makeFunc fn a b) w kk=kk (.func fn a b) w:=r1_eq fun w=>run_makeFunc _ w fn a b
theorem o_chk (a:Addr) (Z:PZ) (w:World) (kk:PQ):runX π Z (nilChk (.pointer (some a))) w kk=kk (.pointer (some a)) w:=rX_eq fun w=>run_nilChk _ w a
theorem o_chkp (a:Addr) (kv:Value→Prop):PureV π (nilChk (.pointer (some a))) kv=kv (.pointer (some a)):=rpV_eq fun w=>run_nilChk _ w a
