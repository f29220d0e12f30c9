import Derived.Test.YtfijkedmbaghmaaGreatDoorShOpen
import Derived.Test.YtfijkedmbaghmaaGreatDoorProg
set_option linter.unusedVariables false
namespace Go.Proofs.YtfijkedmbaghmaaGreatDoor
open Go.Sh
open Tryz renaming prog → π
theorem it2:intT π 2=some .i64:=by kernel_rfl
theorem one2:oneT π 2=true:=by kernel_rfl
theorem it3:intT π 3=some .i64:=by kernel_rfl
theorem one3:oneT π 3=true:=by kernel_rfl
theorem bo4:isBoolT π 4=true:=by kernel_rfl
theorem one4:oneT π 4=true:=by kernel_rfl
theorem it5:intT π 5=some .u8:=by kernel_rfl
theorem one5:oneT π 5=true:=by kernel_rfl
theorem st9:isStrT π 9=true:=by kernel_rfl
theorem one9:oneT π 9=true:=by kernel_rfl
theorem it21:intT π 21=some .i32:=by kernel_rfl
theorem one21:oneT π 21=true:=by kernel_rfl
theorem it22:intT π 22=some .i8:=by kernel_rfl
theorem one22:oneT π 22=true:=by kernel_rfl
theorem it23:intT π 23=some .u32:=by kernel_rfl
theorem one23:oneT π 23=true:=by kernel_rfl
theorem ag25:aggT π 25 2=true:=by kernel_rfl
theorem ze25:zeroT π 25=some (.agg #[(.int .u32 0),(.int .u32 0)]):=by kernel_rfl
theorem of25_0:offT π 25 0=some 0:=by kernel_rfl
theorem of25_1:offT π 25 1=some 1:=by kernel_rfl
theorem ag27:aggT π 27 2=true:=by kernel_rfl
theorem ze27:zeroT π 27=some (.agg #[(.int .u32 0),(.int .u32 0)]):=by kernel_rfl
theorem of27_0:offT π 27 0=some 0:=by kernel_rfl
theorem of27_1:offT π 27 1=some 1:=by kernel_rfl
theorem ag29:aggT π 29 3=true:=by kernel_rfl
theorem of29_0:offT π 29 0=some 0:=by kernel_rfl
theorem of29_1:offT π 29 1=some 1:=by kernel_rfl
theorem of29_2:offT π 29 2=some 2:=by kernel_rfl
theorem sl30:isSliceT π 30=true:=by kernel_rfl
theorem one30:oneT π 30=true:=by kernel_rfl
theorem el30:El π 30 5 1 1 (.int .u8 0):=⟨Tryz.underlying30,by kernel_rfl,by kernel_rfl,by decide⟩
theorem sl31:isSliceT π 31=true:=by kernel_rfl
theorem one31:oneT π 31=true:=by kernel_rfl
theorem el31:El π 31 178 3 40 (.agg #[(.int .i8 0),(.string ByteArray.empty),(.string ByteArray.empty)]):=⟨Tryz.underlying31,by kernel_rfl,by kernel_rfl,by decide⟩
theorem sl32:isSliceT π 32=true:=by kernel_rfl
theorem one32:oneT π 32=true:=by kernel_rfl
theorem el32:El π 32 175 2 32 (.agg #[(.string ByteArray.empty),(.string ByteArray.empty)]):=⟨Tryz.underlying32,by kernel_rfl,by kernel_rfl,by decide⟩
theorem sl33:isSliceT π 33=true:=by kernel_rfl
theorem one33:oneT π 33=true:=by kernel_rfl
theorem el33:El π 33 35 11 144 (.agg #[(.int .i8 0),(.string ByteArray.empty),(.slice none 0 0),(.slice none 0 0),(.int .i32 0),(.bool false),(.bool false),(.int .i64 0),(.int .i32 0),(.slice none 0 0),(.slice none 0 0)]):=⟨Tryz.underlying33,by kernel_rfl,by kernel_rfl,by decide⟩
theorem ag35:aggT π 35 11=true:=by kernel_rfl
theorem ze35:zeroT π 35=some (.agg #[(.int .i8 0),(.string ByteArray.empty),(.slice none 0 0),(.slice none 0 0),(.int .i32 0),(.bool false),(.bool false),(.int .i64 0),(.int .i32 0),(.slice none 0 0),(.slice none 0 0)]):=by kernel_rfl
theorem of35_0:offT π 35 0=some 0:=by kernel_rfl
theorem of35_1:offT π 35 1=some 1:=by kernel_rfl
theorem of35_2:offT π 35 2=some 2:=by kernel_rfl
theorem of35_3:offT π 35 3=some 3:=by kernel_rfl
theorem of35_4:offT π 35 4=some 4:=by kernel_rfl
theorem of35_5:offT π 35 5=some 5:=by kernel_rfl
theorem of35_6:offT π 35 6=some 6:=by kernel_rfl
theorem of35_7:offT π 35 7=some 7:=by kernel_rfl
theorem of35_8:offT π 35 8=some 8:=by kernel_rfl
theorem of35_9:offT π 35 9=some 9:=by kernel_rfl
theorem of35_10:offT π 35 10=some 10:=by kernel_rfl
theorem ag37:aggT π 37 16=true:=by kernel_rfl
theorem ze37:zeroT π 37=some (.agg #[(.int .u32 0),(.int .u32 0),(.int .i8 0),(.int .u32 0),(.int .i64 0),(.int .i8 0),(.string ByteArray.empty),(.slice none 0 0),(.slice none 0 0),(.int .i32 0),(.bool false),(.bool false),(.int .i64 0),(.int .i32 0),(.slice none 0 0),(.slice none 0 0)]):=by kernel_rfl
theorem of37_0:offT π 37 0=some 0:=by kernel_rfl
theorem of37_1:offT π 37 1=some 2:=by kernel_rfl
theorem of37_2:offT π 37 2=some 5:=by kernel_rfl
theorem ag39:aggT π 39 32=true:=by kernel_rfl
theorem ze39:zeroT π 39=some (.agg #[(.int .i8 0),(.int .u32 0),(.int .u32 0),(.int .u32 0),(.int .u32 0),(.int .i64 0),(.int .u32 0),(.int .u32 0),(.int .u32 0),(.int .u32 0),(.int .u32 0),(.int .u32 0),(.bool false),(.bool false),(.int .u32 0),(.int .u32 0),(.int .i8 0),(.int .u32 0),(.int .i64 0),(.int .i8 0),(.string ByteArray.empty),(.slice none 0 0),(.slice none 0 0),(.int .i32 0),(.bool false),(.bool false),(.int .i64 0),(.int .i32 0),(.slice none 0 0),(.slice none 0 0),(.slice none 0 0),(.int .i64 0)]):=by kernel_rfl
theorem of39_0:offT π 39 0=some 0:=by kernel_rfl
theorem of39_1:offT π 39 1=some 1:=by kernel_rfl
theorem of39_2:offT π 39 2=some 3:=by kernel_rfl
theorem of39_3:offT π 39 3=some 5:=by kernel_rfl
theorem of39_4:offT π 39 4=some 6:=by kernel_rfl
theorem of39_5:offT π 39 5=some 7:=by kernel_rfl
theorem of39_6:offT π 39 6=some 8:=by kernel_rfl
theorem of39_7:offT π 39 7=some 10:=by kernel_rfl
theorem of39_8:offT π 39 8=some 12:=by kernel_rfl
theorem of39_9:offT π 39 9=some 13:=by kernel_rfl
theorem of39_10:offT π 39 10=some 14:=by kernel_rfl
theorem of39_11:offT π 39 11=some 30:=by kernel_rfl
theorem of39_12:offT π 39 12=some 31:=by kernel_rfl
theorem one43:oneT π 43=true:=by kernel_rfl
theorem ze43:zeroT π 43=some (.int .i64 0):=by kernel_rfl
theorem sl50:isSliceT π 50=true:=by kernel_rfl
theorem one50:oneT π 50=true:=by kernel_rfl
theorem el50:El π 50 30 1 24 (.slice none 0 0):=⟨Tryz.underlying50,by kernel_rfl,by kernel_rfl,by decide⟩
theorem sl51:isSliceT π 51=true:=by kernel_rfl
theorem one51:oneT π 51=true:=by kernel_rfl
theorem sl52:isSliceT π 52=true:=by kernel_rfl
theorem one52:oneT π 52=true:=by kernel_rfl
theorem sl53:isSliceT π 53=true:=by kernel_rfl
theorem one53:oneT π 53=true:=by kernel_rfl
theorem sl54:isSliceT π 54=true:=by kernel_rfl
theorem one54:oneT π 54=true:=by kernel_rfl
theorem el54:El π 54 32 1 24 (.slice none 0 0):=⟨Tryz.underlying54,by kernel_rfl,by kernel_rfl,by decide⟩
theorem sl55:isSliceT π 55=true:=by kernel_rfl
theorem one55:oneT π 55=true:=by kernel_rfl
theorem el55:El π 55 31 1 24 (.slice none 0 0):=⟨Tryz.underlying55,by kernel_rfl,by kernel_rfl,by decide⟩
theorem sl56:isSliceT π 56=true:=by kernel_rfl
theorem one56:oneT π 56=true:=by kernel_rfl
theorem el56:El π 56 33 1 24 (.slice none 0 0):=⟨Tryz.underlying56,by kernel_rfl,by kernel_rfl,by decide⟩
theorem sl57:isSliceT π 57=true:=by kernel_rfl
theorem one57:oneT π 57=true:=by kernel_rfl
theorem sl58:isSliceT π 58=true:=by kernel_rfl
theorem one58:oneT π 58=true:=by kernel_rfl
theorem sl59:isSliceT π 59=true:=by kernel_rfl
theorem one59:oneT π 59=true:=by kernel_rfl
theorem sl60:isSliceT π 60=true:=by kernel_rfl
theorem one60:oneT π 60=true:=by kernel_rfl
theorem sl61:isSliceT π 61=true:=by kernel_rfl
theorem one61:oneT π 61=true:=by kernel_rfl
theorem sl62:isSliceT π 62=true:=by kernel_rfl
theorem one62:oneT π 62=true:=by kernel_rfl
theorem sl63:isSliceT π 63=true:=by kernel_rfl
theorem one63:oneT π 63=true:=by kernel_rfl
theorem sl64:isSliceT π 64=true:=by kernel_rfl
theorem one64:oneT π 64=true:=by kernel_rfl
theorem sl65:isSliceT π 65=true:=by kernel_rfl
theorem one65:oneT π 65=true:=by kernel_rfl
theorem sl66:isSliceT π 66=true:=by kernel_rfl
theorem one66:oneT π 66=true:=by kernel_rfl
theorem sl67:isSliceT π 67=true:=by kernel_rfl
theorem one67:oneT π 67=true:=by kernel_rfl
theorem sl68:isSliceT π 68=true:=by kernel_rfl
theorem one68:oneT π 68=true:=by kernel_rfl
theorem sl69:isSliceT π 69=true:=by kernel_rfl
theorem one69:oneT π 69=true:=by kernel_rfl
theorem sl70:isSliceT π 70=true:=by kernel_rfl
theorem one70:oneT π 70=true:=by kernel_rfl
theorem of72_0:offT π 72 0=some 0:=by kernel_rfl
theorem of72_1:offT π 72 1=some 1:=by kernel_rfl
theorem of72_2:offT π 72 2=some 2:=by kernel_rfl
theorem of72_3:offT π 72 3=some 3:=by kernel_rfl
theorem of72_4:offT π 72 4=some 4:=by kernel_rfl
theorem of72_5:offT π 72 5=some 5:=by kernel_rfl
theorem of72_6:offT π 72 6=some 6:=by kernel_rfl
theorem of72_7:offT π 72 7=some 7:=by kernel_rfl
theorem of72_8:offT π 72 8=some 8:=by kernel_rfl
theorem of72_9:offT π 72 9=some 9:=by kernel_rfl
theorem of72_10:offT π 72 10=some 10:=by kernel_rfl
theorem of72_11:offT π 72 11=some 11:=by kernel_rfl
theorem of72_12:offT π 72 12=some 12:=by kernel_rfl
theorem of72_13:offT π 72 13=some 13:=by kernel_rfl
theorem of72_14:offT π 72 14=some 14:=by kernel_rfl
theorem of72_15:offT π 72 15=some 15:=by kernel_rfl
theorem of72_16:offT π 72 16=some 16:=by kernel_rfl
theorem of72_17:offT π 72 17=some 17:=by kernel_rfl
theorem of72_18:offT π 72 18=some 18:=by kernel_rfl
theorem of72_19:offT π 72 19=some 19:=by kernel_rfl
theorem of72_20:offT π 72 20=some 20:=by kernel_rfl
theorem pt86:isPtrT π 86=true:=by kernel_rfl
theorem of88_0:offT π 88 0=some 0:=by kernel_rfl
theorem sl90:isSliceT π 90=true:=by kernel_rfl
theorem el90:El π 90 96 4 32 (.agg #[(.int .i64 0),.nilFunc,.nilFunc,.nilFunc]):=⟨Tryz.underlying90,by kernel_rfl,by kernel_rfl,by decide⟩
theorem one92:oneT π 92=true:=by kernel_rfl
theorem one93:oneT π 93=true:=by kernel_rfl
theorem one94:oneT π 94=true:=by kernel_rfl
theorem ag96:aggT π 96 4=true:=by kernel_rfl
theorem ze96:zeroT π 96=some (.agg #[(.int .i64 0),.nilFunc,.nilFunc,.nilFunc]):=by kernel_rfl
theorem of96_0:offT π 96 0=some 0:=by kernel_rfl
theorem of96_1:offT π 96 1=some 1:=by kernel_rfl
theorem of96_2:offT π 96 2=some 2:=by kernel_rfl
theorem of96_3:offT π 96 3=some 3:=by kernel_rfl
theorem pt136:isPtrT π 136=true:=by kernel_rfl
theorem it147:intT π 147=some .u64:=by kernel_rfl
theorem one155:oneT π 155=true:=by kernel_rfl
theorem ze155:zeroT π 155=some (.int .u64 0):=by kernel_rfl
theorem ag157:aggT π 157 14=true:=by kernel_rfl
theorem ze157:zeroT π 157=some (.agg #[(.int .u32 0),(.int .u32 0),(.int .u32 0),(.int .u32 0),(.int .i64 0),(.int .i64 0),(.int .u32 0),(.int .u32 0),(.int .u32 0),(.int .u32 0),(.int .u32 0),(.int .u32 0),(.bool false),(.bool false)]):=by kernel_rfl
theorem of157_0:offT π 157 0=some 0:=by kernel_rfl
theorem of157_1:offT π 157 1=some 2:=by kernel_rfl
theorem of157_2:offT π 157 2=some 4:=by kernel_rfl
theorem of157_3:offT π 157 3=some 5:=by kernel_rfl
theorem of157_4:offT π 157 4=some 6:=by kernel_rfl
theorem of157_5:offT π 157 5=some 7:=by kernel_rfl
theorem of157_6:offT π 157 6=some 8:=by kernel_rfl
theorem of157_7:offT π 157 7=some 10:=by kernel_rfl
theorem of157_8:offT π 157 8=some 12:=by kernel_rfl
theorem of157_9:offT π 157 9=some 13:=by kernel_rfl
theorem sl168:isSliceT π 168=true:=by kernel_rfl
theorem el168:El π 168 3 1 8 (.int .i64 0):=⟨Tryz.underlying168,by kernel_rfl,by kernel_rfl,by decide⟩
theorem ag175:aggT π 175 2=true:=by kernel_rfl
theorem ze175:zeroT π 175=some (.agg #[(.string ByteArray.empty),(.string ByteArray.empty)]):=by kernel_rfl
theorem of175_0:offT π 175 0=some 0:=by kernel_rfl
theorem of175_1:offT π 175 1=some 1:=by kernel_rfl
theorem ag178:aggT π 178 3=true:=by kernel_rfl
theorem ze178:zeroT π 178=some (.agg #[(.int .i8 0),(.string ByteArray.empty),(.string ByteArray.empty)]):=by kernel_rfl
theorem of178_0:offT π 178 0=some 0:=by kernel_rfl
theorem of178_1:offT π 178 1=some 1:=by kernel_rfl
theorem of239_0:offT π 239 0=some 0:=by kernel_rfl
theorem of239_1:offT π 239 1=some 1:=by kernel_rfl
theorem of239_2:offT π 239 2=some 2:=by kernel_rfl
theorem ag267:aggT π 267 1=true:=by kernel_rfl
theorem of267_0:offT π 267 0=some 0:=by kernel_rfl
theorem fu268:isFuncT π 268=true:=by kernel_rfl
theorem fu269:isFuncT π 269=true:=by kernel_rfl
theorem fu282:isFuncT π 282=true:=by kernel_rfl
theorem fu284:isFuncT π 284=true:=by kernel_rfl
theorem fu288:isFuncT π 288=true:=by kernel_rfl
theorem fu290:isFuncT π 290=true:=by kernel_rfl
theorem fa_39_11 (b i:Nat) (Z:PZ) (w:World) (kk:PQ):rN π Z (Instr.fieldAt 39 (.pointer (some ⟨b,i,none⟩)) 11) w kk=kk (.pointer (some ⟨b,i+30,none⟩)) w:=r1_eq fun w=>run_fieldAt of39_11 b i w
theorem fa_39_11p (b i:Nat) (kv:Value→Prop):pU π (Instr.fieldAt 39 (.pointer (some ⟨b,i,none⟩)) 11) kv=kv (.pointer (some ⟨b,i+30,none⟩)):=rp_eq fun w=>run_fieldAt of39_11 b i w
theorem ln_30_3 (a:Option Addr) (n c:Nat) (Z:PZ) (w:World) (kk:PQ):rN π Z (Builtin.len_ #[30] 3 #[.slice a n c]) w kk=kk (.int .i64 n) w:=r1_eq fun w=>run_lenS sl30 _ rfl _ a n c w
theorem ln_30_3p (a:Option Addr) (n c:Nat) (kv:Value→Prop):pU π (Builtin.len_ #[30] 3 #[.slice a n c]) kv=kv (.int .i64 n):=rp_eq fun w=>run_lenS sl30 _ rfl _ a n c w
theorem fa_39_10 (b i:Nat) (Z:PZ) (w:World) (kk:PQ):rN π Z (Instr.fieldAt 39 (.pointer (some ⟨b,i,none⟩)) 10) w kk=kk (.pointer (some ⟨b,i+14,none⟩)) w:=r1_eq fun w=>run_fieldAt of39_10 b i w
theorem fa_39_10p (b i:Nat) (kv:Value→Prop):pU π (Instr.fieldAt 39 (.pointer (some ⟨b,i,none⟩)) 10) kv=kv (.pointer (some ⟨b,i+14,none⟩)):=rp_eq fun w=>run_fieldAt of39_10 b i w
theorem fa_37_2 (b i:Nat) (Z:PZ) (w:World) (kk:PQ):rN π Z (Instr.fieldAt 37 (.pointer (some ⟨b,i,none⟩)) 2) w kk=kk (.pointer (some ⟨b,i+5,none⟩)) w:=r1_eq fun w=>run_fieldAt of37_2 b i w
theorem fa_37_2p (b i:Nat) (kv:Value→Prop):pU π (Instr.fieldAt 37 (.pointer (some ⟨b,i,none⟩)) 2) kv=kv (.pointer (some ⟨b,i+5,none⟩)):=rp_eq fun w=>run_fieldAt of37_2 b i w
theorem fa_35_2 (b i:Nat) (Z:PZ) (w:World) (kk:PQ):rN π Z (Instr.fieldAt 35 (.pointer (some ⟨b,i,none⟩)) 2) w kk=kk (.pointer (some ⟨b,i+2,none⟩)) w:=r1_eq fun w=>run_fieldAt of35_2 b i w
theorem fa_35_2p (b i:Nat) (kv:Value→Prop):pU π (Instr.fieldAt 35 (.pointer (some ⟨b,i,none⟩)) 2) kv=kv (.pointer (some ⟨b,i+2,none⟩)):=rp_eq fun w=>run_fieldAt of35_2 b i w
theorem fa_39_0 (b i:Nat) (Z:PZ) (w:World) (kk:PQ):rN π Z (Instr.fieldAt 39 (.pointer (some ⟨b,i,none⟩)) 0) w kk=kk (.pointer (some ⟨b,i+0,none⟩)) w:=r1_eq fun w=>run_fieldAt of39_0 b i w
theorem ln_90_3 (a:Option Addr) (n c:Nat) (Z:PZ) (w:World) (kk:PQ):rN π Z (Builtin.len_ #[90] 3 #[.slice a n c]) w kk=kk (.int .i64 n) w:=r1_eq fun w=>run_lenS sl90 _ rfl _ a n c w
theorem fa_96_0 (b i:Nat) (Z:PZ) (w:World) (kk:PQ):rN π Z (Instr.fieldAt 96 (.pointer (some ⟨b,i,none⟩)) 0) w kk=kk (.pointer (some ⟨b,i+0,none⟩)) w:=r1_eq fun w=>run_fieldAt of96_0 b i w
theorem fa_96_1 (b i:Nat) (Z:PZ) (w:World) (kk:PQ):rN π Z (Instr.fieldAt 96 (.pointer (some ⟨b,i,none⟩)) 1) w kk=kk (.pointer (some ⟨b,i+1,none⟩)) w:=r1_eq fun w=>run_fieldAt of96_1 b i w
theorem fa_96_3 (b i:Nat) (Z:PZ) (w:World) (kk:PQ):rN π Z (Instr.fieldAt 96 (.pointer (some ⟨b,i,none⟩)) 3) w kk=kk (.pointer (some ⟨b,i+3,none⟩)) w:=r1_eq fun w=>run_fieldAt of96_3 b i w
theorem fa_39_1 (b i:Nat) (Z:PZ) (w:World) (kk:PQ):rN π Z (Instr.fieldAt 39 (.pointer (some ⟨b,i,none⟩)) 1) w kk=kk (.pointer (some ⟨b,i+1,none⟩)) w:=r1_eq fun w=>run_fieldAt of39_1 b i w
theorem fa_39_1p (b i:Nat) (kv:Value→Prop):pU π (Instr.fieldAt 39 (.pointer (some ⟨b,i,none⟩)) 1) kv=kv (.pointer (some ⟨b,i+1,none⟩)):=rp_eq fun w=>run_fieldAt of39_1 b i w
theorem fa_39_2 (b i:Nat) (Z:PZ) (w:World) (kk:PQ):rN π Z (Instr.fieldAt 39 (.pointer (some ⟨b,i,none⟩)) 2) w kk=kk (.pointer (some ⟨b,i+3,none⟩)) w:=r1_eq fun w=>run_fieldAt of39_2 b i w
theorem fa_39_2p (b i:Nat) (kv:Value→Prop):pU π (Instr.fieldAt 39 (.pointer (some ⟨b,i,none⟩)) 2) kv=kv (.pointer (some ⟨b,i+3,none⟩)):=rp_eq fun w=>run_fieldAt of39_2 b i w
theorem fa_39_6 (b i:Nat) (Z:PZ) (w:World) (kk:PQ):rN π Z (Instr.fieldAt 39 (.pointer (some ⟨b,i,none⟩)) 6) w kk=kk (.pointer (some ⟨b,i+8,none⟩)) w:=r1_eq fun w=>run_fieldAt of39_6 b i w
theorem fa_39_6p (b i:Nat) (kv:Value→Prop):pU π (Instr.fieldAt 39 (.pointer (some ⟨b,i,none⟩)) 6) kv=kv (.pointer (some ⟨b,i+8,none⟩)):=rp_eq fun w=>run_fieldAt of39_6 b i w
theorem fa_39_7 (b i:Nat) (Z:PZ) (w:World) (kk:PQ):rN π Z (Instr.fieldAt 39 (.pointer (some ⟨b,i,none⟩)) 7) w kk=kk (.pointer (some ⟨b,i+10,none⟩)) w:=r1_eq fun w=>run_fieldAt of39_7 b i w
theorem fa_39_7p (b i:Nat) (kv:Value→Prop):pU π (Instr.fieldAt 39 (.pointer (some ⟨b,i,none⟩)) 7) kv=kv (.pointer (some ⟨b,i+10,none⟩)):=rp_eq fun w=>run_fieldAt of39_7 b i w
theorem fa_39_3 (b i:Nat) (Z:PZ) (w:World) (kk:PQ):rN π Z (Instr.fieldAt 39 (.pointer (some ⟨b,i,none⟩)) 3) w kk=kk (.pointer (some ⟨b,i+5,none⟩)) w:=r1_eq fun w=>run_fieldAt of39_3 b i w
theorem fa_39_4 (b i:Nat) (Z:PZ) (w:World) (kk:PQ):rN π Z (Instr.fieldAt 39 (.pointer (some ⟨b,i,none⟩)) 4) w kk=kk (.pointer (some ⟨b,i+6,none⟩)) w:=r1_eq fun w=>run_fieldAt of39_4 b i w
theorem fa_39_5 (b i:Nat) (Z:PZ) (w:World) (kk:PQ):rN π Z (Instr.fieldAt 39 (.pointer (some ⟨b,i,none⟩)) 5) w kk=kk (.pointer (some ⟨b,i+7,none⟩)) w:=r1_eq fun w=>run_fieldAt of39_5 b i w
theorem fa_39_8 (b i:Nat) (Z:PZ) (w:World) (kk:PQ):rN π Z (Instr.fieldAt 39 (.pointer (some ⟨b,i,none⟩)) 8) w kk=kk (.pointer (some ⟨b,i+12,none⟩)) w:=r1_eq fun w=>run_fieldAt of39_8 b i w
theorem fa_39_9 (b i:Nat) (Z:PZ) (w:World) (kk:PQ):rN π Z (Instr.fieldAt 39 (.pointer (some ⟨b,i,none⟩)) 9) w kk=kk (.pointer (some ⟨b,i+13,none⟩)) w:=r1_eq fun w=>run_fieldAt of39_9 b i w
theorem fa_39_12 (b i:Nat) (Z:PZ) (w:World) (kk:PQ):rN π Z (Instr.fieldAt 39 (.pointer (some ⟨b,i,none⟩)) 12) w kk=kk (.pointer (some ⟨b,i+31,none⟩)) w:=r1_eq fun w=>run_fieldAt of39_12 b i w
theorem fa_39_12p (b i:Nat) (kv:Value→Prop):pU π (Instr.fieldAt 39 (.pointer (some ⟨b,i,none⟩)) 12) kv=kv (.pointer (some ⟨b,i+31,none⟩)):=rp_eq fun w=>run_fieldAt of39_12 b i w
theorem fa_27_1 (b i:Nat) (Z:PZ) (w:World) (kk:PQ):rN π Z (Instr.fieldAt 27 (.pointer (some ⟨b,i,none⟩)) 1) w kk=kk (.pointer (some ⟨b,i+1,none⟩)) w:=r1_eq fun w=>run_fieldAt of27_1 b i w
theorem fa_27_1p (b i:Nat) (kv:Value→Prop):pU π (Instr.fieldAt 27 (.pointer (some ⟨b,i,none⟩)) 1) kv=kv (.pointer (some ⟨b,i+1,none⟩)):=rp_eq fun w=>run_fieldAt of27_1 b i w
theorem fa_37_0 (b i:Nat) (Z:PZ) (w:World) (kk:PQ):rN π Z (Instr.fieldAt 37 (.pointer (some ⟨b,i,none⟩)) 0) w kk=kk (.pointer (some ⟨b,i+0,none⟩)) w:=r1_eq fun w=>run_fieldAt of37_0 b i w
theorem fa_37_0p (b i:Nat) (kv:Value→Prop):pU π (Instr.fieldAt 37 (.pointer (some ⟨b,i,none⟩)) 0) kv=kv (.pointer (some ⟨b,i+0,none⟩)):=rp_eq fun w=>run_fieldAt of37_0 b i w
theorem fa_37_1 (b i:Nat) (Z:PZ) (w:World) (kk:PQ):rN π Z (Instr.fieldAt 37 (.pointer (some ⟨b,i,none⟩)) 1) w kk=kk (.pointer (some ⟨b,i+2,none⟩)) w:=r1_eq fun w=>run_fieldAt of37_1 b i w
theorem fa_29_2 (b i:Nat) (Z:PZ) (w:World) (kk:PQ):rN π Z (Instr.fieldAt 29 (.pointer (some ⟨b,i,none⟩)) 2) w kk=kk (.pointer (some ⟨b,i+2,none⟩)) w:=r1_eq fun w=>run_fieldAt of29_2 b i w
theorem fa_72_0 (b i:Nat) (Z:PZ) (w:World) (kk:PQ):rN π Z (Instr.fieldAt 72 (.pointer (some ⟨b,i,none⟩)) 0) w kk=kk (.pointer (some ⟨b,i+0,none⟩)) w:=r1_eq fun w=>run_fieldAt of72_0 b i w
theorem ln_50_3 (a:Option Addr) (n c:Nat) (Z:PZ) (w:World) (kk:PQ):rN π Z (Builtin.len_ #[50] 3 #[.slice a n c]) w kk=kk (.int .i64 n) w:=r1_eq fun w=>run_lenS sl50 _ rfl _ a n c w
theorem fa_72_1 (b i:Nat) (Z:PZ) (w:World) (kk:PQ):rN π Z (Instr.fieldAt 72 (.pointer (some ⟨b,i,none⟩)) 1) w kk=kk (.pointer (some ⟨b,i+1,none⟩)) w:=r1_eq fun w=>run_fieldAt of72_1 b i w
theorem fa_72_2 (b i:Nat) (Z:PZ) (w:World) (kk:PQ):rN π Z (Instr.fieldAt 72 (.pointer (some ⟨b,i,none⟩)) 2) w kk=kk (.pointer (some ⟨b,i+2,none⟩)) w:=r1_eq fun w=>run_fieldAt of72_2 b i w
theorem fa_72_3 (b i:Nat) (Z:PZ) (w:World) (kk:PQ):rN π Z (Instr.fieldAt 72 (.pointer (some ⟨b,i,none⟩)) 3) w kk=kk (.pointer (some ⟨b,i+3,none⟩)) w:=r1_eq fun w=>run_fieldAt of72_3 b i w
theorem fa_72_4 (b i:Nat) (Z:PZ) (w:World) (kk:PQ):rN π Z (Instr.fieldAt 72 (.pointer (some ⟨b,i,none⟩)) 4) w kk=kk (.pointer (some ⟨b,i+4,none⟩)) w:=r1_eq fun w=>run_fieldAt of72_4 b i w
theorem fa_72_5 (b i:Nat) (Z:PZ) (w:World) (kk:PQ):rN π Z (Instr.fieldAt 72 (.pointer (some ⟨b,i,none⟩)) 5) w kk=kk (.pointer (some ⟨b,i+5,none⟩)) w:=r1_eq fun w=>run_fieldAt of72_5 b i w
theorem fa_72_6 (b i:Nat) (Z:PZ) (w:World) (kk:PQ):rN π Z (Instr.fieldAt 72 (.pointer (some ⟨b,i,none⟩)) 6) w kk=kk (.pointer (some ⟨b,i+6,none⟩)) w:=r1_eq fun w=>run_fieldAt of72_6 b i w
theorem fa_72_7 (b i:Nat) (Z:PZ) (w:World) (kk:PQ):rN π Z (Instr.fieldAt 72 (.pointer (some ⟨b,i,none⟩)) 7) w kk=kk (.pointer (some ⟨b,i+7,none⟩)) w:=r1_eq fun w=>run_fieldAt of72_7 b i w
theorem fa_72_8 (b i:Nat) (Z:PZ) (w:World) (kk:PQ):rN π Z (Instr.fieldAt 72 (.pointer (some ⟨b,i,none⟩)) 8) w kk=kk (.pointer (some ⟨b,i+8,none⟩)) w:=r1_eq fun w=>run_fieldAt of72_8 b i w
theorem fa_72_9 (b i:Nat) (Z:PZ) (w:World) (kk:PQ):rN π Z (Instr.fieldAt 72 (.pointer (some ⟨b,i,none⟩)) 9) w kk=kk (.pointer (some ⟨b,i+9,none⟩)) w:=r1_eq fun w=>run_fieldAt of72_9 b i w
theorem fa_72_10 (b i:Nat) (Z:PZ) (w:World) (kk:PQ):rN π Z (Instr.fieldAt 72 (.pointer (some ⟨b,i,none⟩)) 10) w kk=kk (.pointer (some ⟨b,i+10,none⟩)) w:=r1_eq fun w=>run_fieldAt of72_10 b i w
theorem fa_72_11 (b i:Nat) (Z:PZ) (w:World) (kk:PQ):rN π Z (Instr.fieldAt 72 (.pointer (some ⟨b,i,none⟩)) 11) w kk=kk (.pointer (some ⟨b,i+11,none⟩)) w:=r1_eq fun w=>run_fieldAt of72_11 b i w
theorem fa_72_12 (b i:Nat) (Z:PZ) (w:World) (kk:PQ):rN π Z (Instr.fieldAt 72 (.pointer (some ⟨b,i,none⟩)) 12) w kk=kk (.pointer (some ⟨b,i+12,none⟩)) w:=r1_eq fun w=>run_fieldAt of72_12 b i w
theorem fa_72_13 (b i:Nat) (Z:PZ) (w:World) (kk:PQ):rN π Z (Instr.fieldAt 72 (.pointer (some ⟨b,i,none⟩)) 13) w kk=kk (.pointer (some ⟨b,i+13,none⟩)) w:=r1_eq fun w=>run_fieldAt of72_13 b i w
theorem fa_72_14 (b i:Nat) (Z:PZ) (w:World) (kk:PQ):rN π Z (Instr.fieldAt 72 (.pointer (some ⟨b,i,none⟩)) 14) w kk=kk (.pointer (some ⟨b,i+14,none⟩)) w:=r1_eq fun w=>run_fieldAt of72_14 b i w
theorem fa_72_15 (b i:Nat) (Z:PZ) (w:World) (kk:PQ):rN π Z (Instr.fieldAt 72 (.pointer (some ⟨b,i,none⟩)) 15) w kk=kk (.pointer (some ⟨b,i+15,none⟩)) w:=r1_eq fun w=>run_fieldAt of72_15 b i w
theorem fa_72_16 (b i:Nat) (Z:PZ) (w:World) (kk:PQ):rN π Z (Instr.fieldAt 72 (.pointer (some ⟨b,i,none⟩)) 16) w kk=kk (.pointer (some ⟨b,i+16,none⟩)) w:=r1_eq fun w=>run_fieldAt of72_16 b i w
theorem fa_72_17 (b i:Nat) (Z:PZ) (w:World) (kk:PQ):rN π Z (Instr.fieldAt 72 (.pointer (some ⟨b,i,none⟩)) 17) w kk=kk (.pointer (some ⟨b,i+17,none⟩)) w:=r1_eq fun w=>run_fieldAt of72_17 b i w
theorem fa_72_18 (b i:Nat) (Z:PZ) (w:World) (kk:PQ):rN π Z (Instr.fieldAt 72 (.pointer (some ⟨b,i,none⟩)) 18) w kk=kk (.pointer (some ⟨b,i+18,none⟩)) w:=r1_eq fun w=>run_fieldAt of72_18 b i w
theorem fa_72_19 (b i:Nat) (Z:PZ) (w:World) (kk:PQ):rN π Z (Instr.fieldAt 72 (.pointer (some ⟨b,i,none⟩)) 19) w kk=kk (.pointer (some ⟨b,i+19,none⟩)) w:=r1_eq fun w=>run_fieldAt of72_19 b i w
theorem fa_72_20 (b i:Nat) (Z:PZ) (w:World) (kk:PQ):rN π Z (Instr.fieldAt 72 (.pointer (some ⟨b,i,none⟩)) 20) w kk=kk (.pointer (some ⟨b,i+20,none⟩)) w:=r1_eq fun w=>run_fieldAt of72_20 b i w
theorem fa_96_2 (b i:Nat) (Z:PZ) (w:World) (kk:PQ):rN π Z (Instr.fieldAt 96 (.pointer (some ⟨b,i,none⟩)) 2) w kk=kk (.pointer (some ⟨b,i+2,none⟩)) w:=r1_eq fun w=>run_fieldAt of96_2 b i w
theorem cv_3_5 (q:IntKind) (n:Int) (Z:PZ) (w:World) (kk:PQ):rN π Z (convert 3 5 (.int q n)) w kk=kk (.int .u8 (IntKind.u8.wrap n)) w:=r1_eq fun w=>run_conv_int (by kernel_rfl) it5 q n w
theorem cv_3_5p (q:IntKind) (n:Int) (kv:Value→Prop):pU π (convert 3 5 (.int q n)) kv=kv (.int .u8 (IntKind.u8.wrap n)):=rp_eq fun w=>run_conv_int (by kernel_rfl) it5 q n w
theorem ln_9_3 (s:ByteArray) (Z:PZ) (w:World) (kk:PQ):rN π Z (Builtin.len_ #[9] 3 #[.string s]) w kk=kk (.int .i64 s.size) w:=r1_eq fun w=>run_lenStr st9 _ rfl _ s w
theorem cv_22_147 (q:IntKind) (n:Int) (Z:PZ) (w:World) (kk:PQ):rN π Z (convert 22 147 (.int q n)) w kk=kk (.int .u64 (IntKind.u64.wrap n)) w:=r1_eq fun w=>run_conv_int (by kernel_rfl) it147 q n w
theorem eqlp_86 (cx cy:Bool) (a:Addr) (Z:PZ) (w:World) (kk:PQ):rN π Z (eqOp .eql 86 cx cy (.pointer (some a)) (.pointer none)) w kk=kk (.bool false) w:=r1_eq fun w=>run_eql_ptr_nil pt86 cx cy a w
theorem fa_88_0 (b i:Nat) (Z:PZ) (w:World) (kk:PQ):rN π Z (Instr.fieldAt 88 (.pointer (some ⟨b,i,none⟩)) 0) w kk=kk (.pointer (some ⟨b,i+0,none⟩)) w:=r1_eq fun w=>run_fieldAt of88_0 b i w
theorem fa_88_0p (b i:Nat) (kv:Value→Prop):pU π (Instr.fieldAt 88 (.pointer (some ⟨b,i,none⟩)) 0) kv=kv (.pointer (some ⟨b,i+0,none⟩)):=rp_eq fun w=>run_fieldAt of88_0 b i w
theorem cv_23_147 (q:IntKind) (n:Int) (Z:PZ) (w:World) (kk:PQ):rN π Z (convert 23 147 (.int q n)) w kk=kk (.int .u64 (IntKind.u64.wrap n)) w:=r1_eq fun w=>run_conv_int (by kernel_rfl) it147 q n w
theorem cv_5_23 (q:IntKind) (n:Int) (Z:PZ) (w:World) (kk:PQ):rN π Z (convert 5 23 (.int q n)) w kk=kk (.int .u32 (IntKind.u32.wrap n)) w:=r1_eq fun w=>run_conv_int (by kernel_rfl) it23 q n w
theorem neqp_86 (cx cy:Bool) (a:Addr) (Z:PZ) (w:World) (kk:PQ):rN π Z (eqOp .neq 86 cx cy (.pointer (some a)) (.pointer none)) w kk=kk (.bool true) w:=r1_eq fun w=>run_neq_ptr_nil pt86 cx cy a w
theorem fa_25_0 (b i:Nat) (Z:PZ) (w:World) (kk:PQ):rN π Z (Instr.fieldAt 25 (.pointer (some ⟨b,i,none⟩)) 0) w kk=kk (.pointer (some ⟨b,i+0,none⟩)) w:=r1_eq fun w=>run_fieldAt of25_0 b i w
theorem fa_25_1 (b i:Nat) (Z:PZ) (w:World) (kk:PQ):rN π Z (Instr.fieldAt 25 (.pointer (some ⟨b,i,none⟩)) 1) w kk=kk (.pointer (some ⟨b,i+1,none⟩)) w:=r1_eq fun w=>run_fieldAt of25_1 b i w
theorem fa_27_0 (b i:Nat) (Z:PZ) (w:World) (kk:PQ):rN π Z (Instr.fieldAt 27 (.pointer (some ⟨b,i,none⟩)) 0) w kk=kk (.pointer (some ⟨b,i+0,none⟩)) w:=r1_eq fun w=>run_fieldAt of27_0 b i w
theorem fa_27_0p (b i:Nat) (kv:Value→Prop):pU π (Instr.fieldAt 27 (.pointer (some ⟨b,i,none⟩)) 0) kv=kv (.pointer (some ⟨b,i+0,none⟩)):=rp_eq fun w=>run_fieldAt of27_0 b i w
theorem cv_23_2 (q:IntKind) (n:Int) (Z:PZ) (w:World) (kk:PQ):rN π Z (convert 23 2 (.int q n)) w kk=kk (.int .i64 (IntKind.i64.wrap n)) w:=r1_eq fun w=>run_conv_int (by kernel_rfl) it2 q n w
theorem fa_29_0 (b i:Nat) (Z:PZ) (w:World) (kk:PQ):rN π Z (Instr.fieldAt 29 (.pointer (some ⟨b,i,none⟩)) 0) w kk=kk (.pointer (some ⟨b,i+0,none⟩)) w:=r1_eq fun w=>run_fieldAt of29_0 b i w
theorem fa_35_0 (b i:Nat) (Z:PZ) (w:World) (kk:PQ):rN π Z (Instr.fieldAt 35 (.pointer (some ⟨b,i,none⟩)) 0) w kk=kk (.pointer (some ⟨b,i+0,none⟩)) w:=r1_eq fun w=>run_fieldAt of35_0 b i w
theorem fa_35_3 (b i:Nat) (Z:PZ) (w:World) (kk:PQ):rN π Z (Instr.fieldAt 35 (.pointer (some ⟨b,i,none⟩)) 3) w kk=kk (.pointer (some ⟨b,i+3,none⟩)) w:=r1_eq fun w=>run_fieldAt of35_3 b i w
theorem fa_35_9 (b i:Nat) (Z:PZ) (w:World) (kk:PQ):rN π Z (Instr.fieldAt 35 (.pointer (some ⟨b,i,none⟩)) 9) w kk=kk (.pointer (some ⟨b,i+9,none⟩)) w:=r1_eq fun w=>run_fieldAt of35_9 b i w
theorem fa_35_10 (b i:Nat) (Z:PZ) (w:World) (kk:PQ):rN π Z (Instr.fieldAt 35 (.pointer (some ⟨b,i,none⟩)) 10) w kk=kk (.pointer (some ⟨b,i+10,none⟩)) w:=r1_eq fun w=>run_fieldAt of35_10 b i w
theorem fa_35_10p (b i:Nat) (kv:Value→Prop):pU π (Instr.fieldAt 35 (.pointer (some ⟨b,i,none⟩)) 10) kv=kv (.pointer (some ⟨b,i+10,none⟩)):=rp_eq fun w=>run_fieldAt of35_10 b i w
theorem ln_51_3 (a:Option Addr) (n c:Nat) (Z:PZ) (w:World) (kk:PQ):rN π Z (Builtin.len_ #[51] 3 #[.slice a n c]) w kk=kk (.int .i64 n) w:=r1_eq fun w=>run_lenS sl51 _ rfl _ a n c w
theorem ln_168_3 (a:Option Addr) (n c:Nat) (Z:PZ) (w:World) (kk:PQ):rN π Z (Builtin.len_ #[168] 3 #[.slice a n c]) w kk=kk (.int .i64 n) w:=r1_eq fun w=>run_lenS sl168 _ rfl _ a n c w
theorem ln_52_3 (a:Option Addr) (n c:Nat) (Z:PZ) (w:World) (kk:PQ):rN π Z (Builtin.len_ #[52] 3 #[.slice a n c]) w kk=kk (.int .i64 n) w:=r1_eq fun w=>run_lenS sl52 _ rfl _ a n c w
theorem ln_53_3 (a:Option Addr) (n c:Nat) (Z:PZ) (w:World) (kk:PQ):rN π Z (Builtin.len_ #[53] 3 #[.slice a n c]) w kk=kk (.int .i64 n) w:=r1_eq fun w=>run_lenS sl53 _ rfl _ a n c w
theorem ln_54_3 (a:Option Addr) (n c:Nat) (Z:PZ) (w:World) (kk:PQ):rN π Z (Builtin.len_ #[54] 3 #[.slice a n c]) w kk=kk (.int .i64 n) w:=r1_eq fun w=>run_lenS sl54 _ rfl _ a n c w
theorem ln_32_3 (a:Option Addr) (n c:Nat) (Z:PZ) (w:World) (kk:PQ):rN π Z (Builtin.len_ #[32] 3 #[.slice a n c]) w kk=kk (.int .i64 n) w:=r1_eq fun w=>run_lenS sl32 _ rfl _ a n c w
theorem ln_55_3 (a:Option Addr) (n c:Nat) (Z:PZ) (w:World) (kk:PQ):rN π Z (Builtin.len_ #[55] 3 #[.slice a n c]) w kk=kk (.int .i64 n) w:=r1_eq fun w=>run_lenS sl55 _ rfl _ a n c w
theorem ln_31_3 (a:Option Addr) (n c:Nat) (Z:PZ) (w:World) (kk:PQ):rN π Z (Builtin.len_ #[31] 3 #[.slice a n c]) w kk=kk (.int .i64 n) w:=r1_eq fun w=>run_lenS sl31 _ rfl _ a n c w
theorem ln_56_3 (a:Option Addr) (n c:Nat) (Z:PZ) (w:World) (kk:PQ):rN π Z (Builtin.len_ #[56] 3 #[.slice a n c]) w kk=kk (.int .i64 n) w:=r1_eq fun w=>run_lenS sl56 _ rfl _ a n c w
theorem ln_33_3 (a:Option Addr) (n c:Nat) (Z:PZ) (w:World) (kk:PQ):rN π Z (Builtin.len_ #[33] 3 #[.slice a n c]) w kk=kk (.int .i64 n) w:=r1_eq fun w=>run_lenS sl33 _ rfl _ a n c w
theorem ln_57_3 (a:Option Addr) (n c:Nat) (Z:PZ) (w:World) (kk:PQ):rN π Z (Builtin.len_ #[57] 3 #[.slice a n c]) w kk=kk (.int .i64 n) w:=r1_eq fun w=>run_lenS sl57 _ rfl _ a n c w
theorem ln_58_3 (a:Option Addr) (n c:Nat) (Z:PZ) (w:World) (kk:PQ):rN π Z (Builtin.len_ #[58] 3 #[.slice a n c]) w kk=kk (.int .i64 n) w:=r1_eq fun w=>run_lenS sl58 _ rfl _ a n c w
theorem ln_59_3 (a:Option Addr) (n c:Nat) (Z:PZ) (w:World) (kk:PQ):rN π Z (Builtin.len_ #[59] 3 #[.slice a n c]) w kk=kk (.int .i64 n) w:=r1_eq fun w=>run_lenS sl59 _ rfl _ a n c w
theorem ln_60_3 (a:Option Addr) (n c:Nat) (Z:PZ) (w:World) (kk:PQ):rN π Z (Builtin.len_ #[60] 3 #[.slice a n c]) w kk=kk (.int .i64 n) w:=r1_eq fun w=>run_lenS sl60 _ rfl _ a n c w
theorem ln_61_3 (a:Option Addr) (n c:Nat) (Z:PZ) (w:World) (kk:PQ):rN π Z (Builtin.len_ #[61] 3 #[.slice a n c]) w kk=kk (.int .i64 n) w:=r1_eq fun w=>run_lenS sl61 _ rfl _ a n c w
theorem ln_62_3 (a:Option Addr) (n c:Nat) (Z:PZ) (w:World) (kk:PQ):rN π Z (Builtin.len_ #[62] 3 #[.slice a n c]) w kk=kk (.int .i64 n) w:=r1_eq fun w=>run_lenS sl62 _ rfl _ a n c w
theorem ln_63_3 (a:Option Addr) (n c:Nat) (Z:PZ) (w:World) (kk:PQ):rN π Z (Builtin.len_ #[63] 3 #[.slice a n c]) w kk=kk (.int .i64 n) w:=r1_eq fun w=>run_lenS sl63 _ rfl _ a n c w
theorem ln_64_3 (a:Option Addr) (n c:Nat) (Z:PZ) (w:World) (kk:PQ):rN π Z (Builtin.len_ #[64] 3 #[.slice a n c]) w kk=kk (.int .i64 n) w:=r1_eq fun w=>run_lenS sl64 _ rfl _ a n c w
theorem ln_65_3 (a:Option Addr) (n c:Nat) (Z:PZ) (w:World) (kk:PQ):rN π Z (Builtin.len_ #[65] 3 #[.slice a n c]) w kk=kk (.int .i64 n) w:=r1_eq fun w=>run_lenS sl65 _ rfl _ a n c w
theorem ln_66_3 (a:Option Addr) (n c:Nat) (Z:PZ) (w:World) (kk:PQ):rN π Z (Builtin.len_ #[66] 3 #[.slice a n c]) w kk=kk (.int .i64 n) w:=r1_eq fun w=>run_lenS sl66 _ rfl _ a n c w
theorem ln_67_3 (a:Option Addr) (n c:Nat) (Z:PZ) (w:World) (kk:PQ):rN π Z (Builtin.len_ #[67] 3 #[.slice a n c]) w kk=kk (.int .i64 n) w:=r1_eq fun w=>run_lenS sl67 _ rfl _ a n c w
theorem ln_68_3 (a:Option Addr) (n c:Nat) (Z:PZ) (w:World) (kk:PQ):rN π Z (Builtin.len_ #[68] 3 #[.slice a n c]) w kk=kk (.int .i64 n) w:=r1_eq fun w=>run_lenS sl68 _ rfl _ a n c w
theorem ln_69_3 (a:Option Addr) (n c:Nat) (Z:PZ) (w:World) (kk:PQ):rN π Z (Builtin.len_ #[69] 3 #[.slice a n c]) w kk=kk (.int .i64 n) w:=r1_eq fun w=>run_lenS sl69 _ rfl _ a n c w
theorem ln_70_3 (a:Option Addr) (n c:Nat) (Z:PZ) (w:World) (kk:PQ):rN π Z (Builtin.len_ #[70] 3 #[.slice a n c]) w kk=kk (.int .i64 n) w:=r1_eq fun w=>run_lenS sl70 _ rfl _ a n c w
theorem cv_5_3 (q:IntKind) (n:Int) (Z:PZ) (w:World) (kk:PQ):rN π Z (convert 5 3 (.int q n)) w kk=kk (.int .i64 (IntKind.i64.wrap n)) w:=r1_eq fun w=>run_conv_int (by kernel_rfl) it3 q n w
theorem cv_3_23 (q:IntKind) (n:Int) (Z:PZ) (w:World) (kk:PQ):rN π Z (convert 3 23 (.int q n)) w kk=kk (.int .u32 (IntKind.u32.wrap n)) w:=r1_eq fun w=>run_conv_int (by kernel_rfl) it23 q n w
theorem cv_147_23 (q:IntKind) (n:Int) (Z:PZ) (w:World) (kk:PQ):rN π Z (convert 147 23 (.int q n)) w kk=kk (.int .u32 (IntKind.u32.wrap n)) w:=r1_eq fun w=>run_conv_int (by kernel_rfl) it23 q n w
theorem fa_239_2 (b i:Nat) (Z:PZ) (w:World) (kk:PQ):rN π Z (Instr.fieldAt 239 (.pointer (some ⟨b,i,none⟩)) 2) w kk=kk (.pointer (some ⟨b,i+2,none⟩)) w:=r1_eq fun w=>run_fieldAt of239_2 b i w
theorem cv_147_22 (q:IntKind) (n:Int) (Z:PZ) (w:World) (kk:PQ):rN π Z (convert 147 22 (.int q n)) w kk=kk (.int .i8 (IntKind.i8.wrap n)) w:=r1_eq fun w=>run_conv_int (by kernel_rfl) it22 q n w
theorem fa_239_1 (b i:Nat) (Z:PZ) (w:World) (kk:PQ):rN π Z (Instr.fieldAt 239 (.pointer (some ⟨b,i,none⟩)) 1) w kk=kk (.pointer (some ⟨b,i+1,none⟩)) w:=r1_eq fun w=>run_fieldAt of239_1 b i w
theorem cv_22_3 (q:IntKind) (n:Int) (Z:PZ) (w:World) (kk:PQ):rN π Z (convert 22 3 (.int q n)) w kk=kk (.int .i64 (IntKind.i64.wrap n)) w:=r1_eq fun w=>run_conv_int (by kernel_rfl) it3 q n w
theorem cv_147_5 (q:IntKind) (n:Int) (Z:PZ) (w:World) (kk:PQ):rN π Z (convert 147 5 (.int q n)) w kk=kk (.int .u8 (IntKind.u8.wrap n)) w:=r1_eq fun w=>run_conv_int (by kernel_rfl) it5 q n w
theorem cv_147_5p (q:IntKind) (n:Int) (kv:Value→Prop):pU π (convert 147 5 (.int q n)) kv=kv (.int .u8 (IntKind.u8.wrap n)):=rp_eq fun w=>run_conv_int (by kernel_rfl) it5 q n w
theorem cv_3_21 (q:IntKind) (n:Int) (Z:PZ) (w:World) (kk:PQ):rN π Z (convert 3 21 (.int q n)) w kk=kk (.int .i32 (IntKind.i32.wrap n)) w:=r1_eq fun w=>run_conv_int (by kernel_rfl) it21 q n w
theorem cv_2_147 (q:IntKind) (n:Int) (Z:PZ) (w:World) (kk:PQ):rN π Z (convert 2 147 (.int q n)) w kk=kk (.int .u64 (IntKind.u64.wrap n)) w:=r1_eq fun w=>run_conv_int (by kernel_rfl) it147 q n w
theorem cv_147_2 (q:IntKind) (n:Int) (Z:PZ) (w:World) (kk:PQ):rN π Z (convert 147 2 (.int q n)) w kk=kk (.int .i64 (IntKind.i64.wrap n)) w:=r1_eq fun w=>run_conv_int (by kernel_rfl) it2 q n w
theorem fa_157_0 (b i:Nat) (Z:PZ) (w:World) (kk:PQ):rN π Z (Instr.fieldAt 157 (.pointer (some ⟨b,i,none⟩)) 0) w kk=kk (.pointer (some ⟨b,i+0,none⟩)) w:=r1_eq fun w=>run_fieldAt of157_0 b i w
theorem fa_157_1 (b i:Nat) (Z:PZ) (w:World) (kk:PQ):rN π Z (Instr.fieldAt 157 (.pointer (some ⟨b,i,none⟩)) 1) w kk=kk (.pointer (some ⟨b,i+2,none⟩)) w:=r1_eq fun w=>run_fieldAt of157_1 b i w
theorem fa_157_2 (b i:Nat) (Z:PZ) (w:World) (kk:PQ):rN π Z (Instr.fieldAt 157 (.pointer (some ⟨b,i,none⟩)) 2) w kk=kk (.pointer (some ⟨b,i+4,none⟩)) w:=r1_eq fun w=>run_fieldAt of157_2 b i w
theorem fa_157_3 (b i:Nat) (Z:PZ) (w:World) (kk:PQ):rN π Z (Instr.fieldAt 157 (.pointer (some ⟨b,i,none⟩)) 3) w kk=kk (.pointer (some ⟨b,i+5,none⟩)) w:=r1_eq fun w=>run_fieldAt of157_3 b i w
theorem fa_157_4 (b i:Nat) (Z:PZ) (w:World) (kk:PQ):rN π Z (Instr.fieldAt 157 (.pointer (some ⟨b,i,none⟩)) 4) w kk=kk (.pointer (some ⟨b,i+6,none⟩)) w:=r1_eq fun w=>run_fieldAt of157_4 b i w
theorem fa_157_5 (b i:Nat) (Z:PZ) (w:World) (kk:PQ):rN π Z (Instr.fieldAt 157 (.pointer (some ⟨b,i,none⟩)) 5) w kk=kk (.pointer (some ⟨b,i+7,none⟩)) w:=r1_eq fun w=>run_fieldAt of157_5 b i w
theorem fa_157_6 (b i:Nat) (Z:PZ) (w:World) (kk:PQ):rN π Z (Instr.fieldAt 157 (.pointer (some ⟨b,i,none⟩)) 6) w kk=kk (.pointer (some ⟨b,i+8,none⟩)) w:=r1_eq fun w=>run_fieldAt of157_6 b i w
theorem fa_157_7 (b i:Nat) (Z:PZ) (w:World) (kk:PQ):rN π Z (Instr.fieldAt 157 (.pointer (some ⟨b,i,none⟩)) 7) w kk=kk (.pointer (some ⟨b,i+10,none⟩)) w:=r1_eq fun w=>run_fieldAt of157_7 b i w
theorem fa_157_8 (b i:Nat) (Z:PZ) (w:World) (kk:PQ):rN π Z (Instr.fieldAt 157 (.pointer (some ⟨b,i,none⟩)) 8) w kk=kk (.pointer (some ⟨b,i+12,none⟩)) w:=r1_eq fun w=>run_fieldAt of157_8 b i w
theorem fa_157_9 (b i:Nat) (Z:PZ) (w:World) (kk:PQ):rN π Z (Instr.fieldAt 157 (.pointer (some ⟨b,i,none⟩)) 9) w kk=kk (.pointer (some ⟨b,i+13,none⟩)) w:=r1_eq fun w=>run_fieldAt of157_9 b i w
theorem fa_35_1 (b i:Nat) (Z:PZ) (w:World) (kk:PQ):rN π Z (Instr.fieldAt 35 (.pointer (some ⟨b,i,none⟩)) 1) w kk=kk (.pointer (some ⟨b,i+1,none⟩)) w:=r1_eq fun w=>run_fieldAt of35_1 b i w
theorem fa_35_4 (b i:Nat) (Z:PZ) (w:World) (kk:PQ):rN π Z (Instr.fieldAt 35 (.pointer (some ⟨b,i,none⟩)) 4) w kk=kk (.pointer (some ⟨b,i+4,none⟩)) w:=r1_eq fun w=>run_fieldAt of35_4 b i w
theorem fa_35_5 (b i:Nat) (Z:PZ) (w:World) (kk:PQ):rN π Z (Instr.fieldAt 35 (.pointer (some ⟨b,i,none⟩)) 5) w kk=kk (.pointer (some ⟨b,i+5,none⟩)) w:=r1_eq fun w=>run_fieldAt of35_5 b i w
theorem fa_35_6 (b i:Nat) (Z:PZ) (w:World) (kk:PQ):rN π Z (Instr.fieldAt 35 (.pointer (some ⟨b,i,none⟩)) 6) w kk=kk (.pointer (some ⟨b,i+6,none⟩)) w:=r1_eq fun w=>run_fieldAt of35_6 b i w
theorem fa_35_7 (b i:Nat) (Z:PZ) (w:World) (kk:PQ):rN π Z (Instr.fieldAt 35 (.pointer (some ⟨b,i,none⟩)) 7) w kk=kk (.pointer (some ⟨b,i+7,none⟩)) w:=r1_eq fun w=>run_fieldAt of35_7 b i w
theorem fa_35_8 (b i:Nat) (Z:PZ) (w:World) (kk:PQ):rN π Z (Instr.fieldAt 35 (.pointer (some ⟨b,i,none⟩)) 8) w kk=kk (.pointer (some ⟨b,i+8,none⟩)) w:=r1_eq fun w=>run_fieldAt of35_8 b i w
theorem fa_178_1 (b i:Nat) (Z:PZ) (w:World) (kk:PQ):rN π Z (Instr.fieldAt 178 (.pointer (some ⟨b,i,none⟩)) 1) w kk=kk (.pointer (some ⟨b,i+1,none⟩)) w:=r1_eq fun w=>run_fieldAt of178_1 b i w
theorem fa_178_1p (b i:Nat) (kv:Value→Prop):pU π (Instr.fieldAt 178 (.pointer (some ⟨b,i,none⟩)) 1) kv=kv (.pointer (some ⟨b,i+1,none⟩)):=rp_eq fun w=>run_fieldAt of178_1 b i w
theorem fa_175_1 (b i:Nat) (Z:PZ) (w:World) (kk:PQ):rN π Z (Instr.fieldAt 175 (.pointer (some ⟨b,i,none⟩)) 1) w kk=kk (.pointer (some ⟨b,i+1,none⟩)) w:=r1_eq fun w=>run_fieldAt of175_1 b i w
theorem fa_175_1p (b i:Nat) (kv:Value→Prop):pU π (Instr.fieldAt 175 (.pointer (some ⟨b,i,none⟩)) 1) kv=kv (.pointer (some ⟨b,i+1,none⟩)):=rp_eq fun w=>run_fieldAt of175_1 b i w
theorem cv_5_147 (q:IntKind) (n:Int) (Z:PZ) (w:World) (kk:PQ):rN π Z (convert 5 147 (.int q n)) w kk=kk (.int .u64 (IntKind.u64.wrap n)) w:=r1_eq fun w=>run_conv_int (by kernel_rfl) it147 q n w
theorem eqlp_136 (cx cy:Bool) (a:Addr) (Z:PZ) (w:World) (kk:PQ):rN π Z (eqOp .eql 136 cx cy (.pointer (some a)) (.pointer none)) w kk=kk (.bool false) w:=r1_eq fun w=>run_eql_ptr_nil pt136 cx cy a w
theorem fa_239_0 (b i:Nat) (Z:PZ) (w:World) (kk:PQ):rN π Z (Instr.fieldAt 239 (.pointer (some ⟨b,i,none⟩)) 0) w kk=kk (.pointer (some ⟨b,i+0,none⟩)) w:=r1_eq fun w=>run_fieldAt of239_0 b i w
theorem fa_29_1 (b i:Nat) (Z:PZ) (w:World) (kk:PQ):rN π Z (Instr.fieldAt 29 (.pointer (some ⟨b,i,none⟩)) 1) w kk=kk (.pointer (some ⟨b,i+1,none⟩)) w:=r1_eq fun w=>run_fieldAt of29_1 b i w
theorem cv_21_147 (q:IntKind) (n:Int) (Z:PZ) (w:World) (kk:PQ):rN π Z (convert 21 147 (.int q n)) w kk=kk (.int .u64 (IntKind.u64.wrap n)) w:=r1_eq fun w=>run_conv_int (by kernel_rfl) it147 q n w
theorem cv_21_3 (q:IntKind) (n:Int) (Z:PZ) (w:World) (kk:PQ):rN π Z (convert 21 3 (.int q n)) w kk=kk (.int .i64 (IntKind.i64.wrap n)) w:=r1_eq fun w=>run_conv_int (by kernel_rfl) it3 q n w
theorem fa_178_0 (b i:Nat) (Z:PZ) (w:World) (kk:PQ):rN π Z (Instr.fieldAt 178 (.pointer (some ⟨b,i,none⟩)) 0) w kk=kk (.pointer (some ⟨b,i+0,none⟩)) w:=r1_eq fun w=>run_fieldAt of178_0 b i w
theorem cv_21_2 (q:IntKind) (n:Int) (Z:PZ) (w:World) (kk:PQ):rN π Z (convert 21 2 (.int q n)) w kk=kk (.int .i64 (IntKind.i64.wrap n)) w:=r1_eq fun w=>run_conv_int (by kernel_rfl) it2 q n w
theorem fa_267_0 (b i:Nat) (Z:PZ) (w:World) (kk:PQ):rN π Z (Instr.fieldAt 267 (.pointer (some ⟨b,i,none⟩)) 0) w kk=kk (.pointer (some ⟨b,i+0,none⟩)) w:=r1_eq fun w=>run_fieldAt of267_0 b i w
theorem cv_147_21 (q:IntKind) (n:Int) (Z:PZ) (w:World) (kk:PQ):rN π Z (convert 147 21 (.int q n)) w kk=kk (.int .i32 (IntKind.i32.wrap n)) w:=r1_eq fun w=>run_conv_int (by kernel_rfl) it21 q n w
theorem fa_175_0 (b i:Nat) (Z:PZ) (w:World) (kk:PQ):rN π Z (Instr.fieldAt 175 (.pointer (some ⟨b,i,none⟩)) 0) w kk=kk (.pointer (some ⟨b,i+0,none⟩)) w:=r1_eq fun w=>run_fieldAt of175_0 b i w
theorem eqlf_282 (cx cy:Bool) (f:Fn) (a b:Array Value) (Z:PZ) (w:World) (kk:PQ):rN π Z (eqOp .eql 282 cx cy (.func f a b) .nilFunc) w kk=kk (.bool false) w:=r1_eq fun w=>run_eql_func fu282 cx cy f a b w
theorem eqlf_284 (cx cy:Bool) (f:Fn) (a b:Array Value) (Z:PZ) (w:World) (kk:PQ):rN π Z (eqOp .eql 284 cx cy (.func f a b) .nilFunc) w kk=kk (.bool false) w:=r1_eq fun w=>run_eql_func fu284 cx cy f a b w
theorem eqlf_268 (cx cy:Bool) (f:Fn) (a b:Array Value) (Z:PZ) (w:World) (kk:PQ):rN π Z (eqOp .eql 268 cx cy (.func f a b) .nilFunc) w kk=kk (.bool false) w:=r1_eq fun w=>run_eql_func fu268 cx cy f a b w
theorem eqlf_288 (cx cy:Bool) (f:Fn) (a b:Array Value) (Z:PZ) (w:World) (kk:PQ):rN π Z (eqOp .eql 288 cx cy (.func f a b) .nilFunc) w kk=kk (.bool false) w:=r1_eq fun w=>run_eql_func fu288 cx cy f a b w
theorem eqlf_290 (cx cy:Bool) (f:Fn) (a b:Array Value) (Z:PZ) (w:World) (kk:PQ):rN π Z (eqOp .eql 290 cx cy (.func f a b) .nilFunc) w kk=kk (.bool false) w:=r1_eq fun w=>run_eql_func fu290 cx cy f a b w
theorem eqlf_269 (cx cy:Bool) (f:Fn) (a b:Array Value) (Z:PZ) (w:World) (kk:PQ):rN π Z (eqOp .eql 269 cx cy (.func f a b) .nilFunc) w kk=kk (.bool false) w:=r1_eq fun w=>run_eql_func fu269 cx cy f a b w
theorem o_add (t:TypeId) (k:IntKind) (x y:Int) (Z:PZ) (w:World) (kk:PQ):rN π Z (binOp .add t (.int k x) (.int k y)) w kk=kk (.int k (k.wrap (x+y))) w:=r1_eq fun w=>run_add _ w t k x y
theorem o_addp (t:TypeId) (k:IntKind) (x y:Int) (kv:Value→Prop):pU π (binOp .add t (.int k x) (.int k y)) kv=kv (.int k (k.wrap (x+y))):=rp_eq fun w=>run_add _ w t k x y
theorem o_sub (t:TypeId) (k:IntKind) (x y:Int) (Z:PZ) (w:World) (kk:PQ):rN π Z (binOp .sub t (.int k x) (.int k y)) w kk=kk (.int k (k.wrap (x - y))) w:=r1_eq fun w=>run_sub _ w t k x y
theorem o_subp (t:TypeId) (k:IntKind) (x y:Int) (kv:Value→Prop):pU π (binOp .sub t (.int k x) (.int k y)) kv=kv (.int k (k.wrap (x - y))):=rp_eq fun w=>run_sub _ w t k x y
theorem o_mul (t:TypeId) (k:IntKind) (x y:Int) (Z:PZ) (w:World) (kk:PQ):rN π Z (binOp .mul t (.int k x) (.int k y)) w kk=kk (.int k (k.wrap (x * y))) w:=r1_eq fun w=>run_mul _ w t k x y
theorem o_mulp (t:TypeId) (k:IntKind) (x y:Int) (kv:Value→Prop):pU π (binOp .mul t (.int k x) (.int k y)) kv=kv (.int k (k.wrap (x * y))):=rp_eq fun w=>run_mul _ w t k x y
theorem o_lss (t:TypeId) (k:IntKind) (x y:Int) (Z:PZ) (w:World) (kk:PQ):rN π Z (binOp .lss t (.int k x) (.int k y)) w kk=kk (.bool (decide (x < y))) w:=r1_eq fun w=>run_lss _ w t k x y
theorem o_lssp (t:TypeId) (k:IntKind) (x y:Int) (kv:Value→Prop):pU π (binOp .lss t (.int k x) (.int k y)) kv=kv (.bool (decide (x < y))):=rp_eq fun w=>run_lss _ w t k x y
theorem o_leq (t:TypeId) (k:IntKind) (x y:Int) (Z:PZ) (w:World) (kk:PQ):rN π Z (binOp .leq t (.int k x) (.int k y)) w kk=kk (.bool (decide (x≤y))) w:=r1_eq fun w=>run_leq _ w t k x y
theorem o_gtr (t:TypeId) (k:IntKind) (x y:Int) (Z:PZ) (w:World) (kk:PQ):rN π Z (binOp .gtr t (.int k x) (.int k y)) w kk=kk (.bool (decide (y < x))) w:=r1_eq fun w=>run_gtr _ w t k x y
theorem o_gtrp (t:TypeId) (k:IntKind) (x y:Int) (kv:Value→Prop):pU π (binOp .gtr t (.int k x) (.int k y)) kv=kv (.bool (decide (y < x))):=rp_eq fun w=>run_gtr _ w t k x y
theorem o_geq (t:TypeId) (k:IntKind) (x y:Int) (Z:PZ) (w:World) (kk:PQ):rN π Z (binOp .geq t (.int k x) (.int k y)) w kk=kk (.bool (decide (y≤x))) w:=r1_eq fun w=>run_geq _ w t k x y
theorem o_geqp (t:TypeId) (k:IntKind) (x y:Int) (kv:Value→Prop):pU π (binOp .geq t (.int k x) (.int k y)) kv=kv (.bool (decide (y≤x))):=rp_eq fun w=>run_geq _ w t k x y
theorem o_eql (t:TypeId) (cx cy:Bool) (k:IntKind) (x y:Int) (Z:PZ) (w:World) (kk:PQ):rN π Z (eqOp .eql t cx cy (.int k x) (.int k y)) w kk=kk (.bool (x == y)) w:=r1_eq fun w=>run_eql_int _ w t cx cy k x y
theorem o_neq (t:TypeId) (cx cy:Bool) (k:IntKind) (x y:Int) (Z:PZ) (w:World) (kk:PQ):rN π Z (eqOp .neq t cx cy (.int k x) (.int k y)) w kk=kk (.bool (x != y)) w:=r1_eq fun w=>run_neq_int _ w t cx cy k x y
theorem o_neqp (t:TypeId) (cx cy:Bool) (k:IntKind) (x y:Int) (kv:Value→Prop):pU π (eqOp .neq t cx cy (.int k x) (.int k y)) kv=kv (.bool (x != y)):=rp_eq fun w=>run_neq_int _ w t cx cy k x y
theorem os_eql (t:TypeId) (cx cy:Bool) (a b:ByteArray) (Z:PZ) (w:World) (kk:PQ):rN π Z (eqOp .eql t cx cy (.string a) (.string b)) w kk=kk (.bool ((a.toList == b.toList))) w:=r1_eq fun w=>run_eql_str t cx cy a b w
theorem os_eqlp (t:TypeId) (cx cy:Bool) (a b:ByteArray) (kv:Value→Prop):pU π (eqOp .eql t cx cy (.string a) (.string b)) kv=kv (.bool ((a.toList == b.toList))):=rp_eq fun w=>run_eql_str t cx cy a b w
theorem o_and (t:TypeId) (k:IntKind) (x y:Int) (Z:PZ) (w:World) (kk:PQ):rN π Z (binOp .and t (.int k x) (.int k y)) w kk=kk (.int k (k.wrap (BitVec.ofInt k.bits x &&& BitVec.ofInt k.bits y).toNat)) w:=r1_eq fun w=>run_and _ w t k x y
theorem o_or (t:TypeId) (k:IntKind) (x y:Int) (Z:PZ) (w:World) (kk:PQ):rN π Z (binOp .or t (.int k x) (.int k y)) w kk=kk (.int k (k.wrap (BitVec.ofInt k.bits x ||| BitVec.ofInt k.bits y).toNat)) w:=r1_eq fun w=>run_or _ w t k x y
theorem o_not (b:Bool) (Z:PZ) (w:World) (kk:PQ):rN π Z (Op.unary .not (.bool b)) w kk=kk (.bool !b) w:=r1_eq fun w=>run_not _ w b
theorem o_notp (b:Bool) (kv:Value→Prop):pU π (Op.unary .not (.bool b)) kv=kv (.bool !b):=rp_eq fun w=>run_not _ w b
theorem o_pickT (x y:Value) (Z:PZ) (w:World) (kk:PQ):rN π Z (pickV (.bool true) x y) w kk=kk x w:=r1_eq fun w=>run_pick _ w true x y
theorem o_pickTp (x y:Value) (kv:Value→Prop):pU π (pickV (.bool true) x y) kv=kv x:=rp_eq fun w=>run_pick _ w true x y
theorem o_pickF (x y:Value) (Z:PZ) (w:World) (kk:PQ):rN π Z (pickV (.bool false) x y) w kk=kk y w:=r1_eq fun w=>run_pick _ w false x y
theorem o_pickFp (x y:Value) (kv:Value→Prop):pU π (pickV (.bool false) x y) kv=kv y:=rp_eq fun w=>run_pick _ w false x y
theorem o_ext2_0 (v0 v1:Value) (Z:PZ) (w:World) (kk:PQ):rN π Z (Instr.extract (.tuple #[v0,v1]) 0) w kk=kk v0 w:=r1_eq fun w=>run_extract _ w _ 0 _ rfl
theorem o_ext2_1 (v0 v1:Value) (Z:PZ) (w:World) (kk:PQ):rN π Z (Instr.extract (.tuple #[v0,v1]) 1) w kk=kk v1 w:=r1_eq fun w=>run_extract _ w _ 1 _ rfl
theorem o_fn (fn:Fn) (a b:Array Value) (Z:PZ) (w:World) (kk:PQ):rN π Z (Instr.makeFunc fn a b) w kk=kk (.func fn a b) w:=r1_eq fun w=>run_makeFunc _ w fn a b
theorem o_chk (a:Addr) (Z:PZ) (w:World) (kk:PQ):runX π Z (nilChk (.pointer (some a))) w kk=kk (.pointer (some a)) w:=rX_eq fun w=>run_nilChk _ w a
theorem o_chkp (a:Addr) (kv:Value→Prop):PureV π (nilChk (.pointer (some a))) kv=kv (.pointer (some a)):=rpV_eq fun w=>run_nilChk _ w a
