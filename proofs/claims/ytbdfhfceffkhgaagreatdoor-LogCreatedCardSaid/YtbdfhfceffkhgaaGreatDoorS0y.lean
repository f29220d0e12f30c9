import Derived.Test.YtbdfhfceffkhgaaGreatDoorShBase
import Derived.Test.YtbdfhfceffkhgaaGreatDoorShLoop
set_option linter.unusedVariables false
namespace Go.Proofs.YtbdfhfceffkhgaaGreatDoor
open Go.Sh
open Tryz renaming prog → π
def f46.sh (x0 x1:Value) (w:World) (Q:PQ):Prop:=
 rN π noZ (Instr.box 33 x0) w fun t1 w=>
 rN π noZ (Instr.alloc 3 true (.tuple #[])) w fun t2 w=>
 rN π noZ (Instr.alloc 4 true (.tuple #[])) w fun t3 w=>
 rO π noZ (Instr.storeAt 4 t3 (.bool true)) w fun w=>
 CallV π noZ 73 #[x1] w fun t4 w=>
 rangeV π t4 w (fun (l_5:Nat) (rc_5:LoopState→Option Code→Loop) (y_5 z_5:Value) (w:World) (k_5:PQ)=>
 w.heap[l_5]? = some (.loop (rc_5 .ready none))∧(fun w:World=>
 CallV π noZ 74 #[z_5] w fun t6 w=>
 rN π noZ (Instr.extract t6 0) w fun t7 w=>
 rN π noZ (Instr.extract t6 1) w fun t8 w=>
 rN π noZ (Instr.alloc 50 true (.tuple #[])) w fun t9 w=>
 rO π noZ (Instr.storeAt 50 t9 t7) w fun w=>
 Drawn w fun w=>
 pU π (eqOp .neq 30 false true t8 (.int .i64 0)) fun t10=>
 guardV (t10) false (fun k=>rD π (Instr.loadAt 50 t9) w k) (fun t11=>
 guardV (t10) false (fun k=>rD π (Instr.loadAt 33 t1) w k) (fun t12=>
 guardV (t10) false (fun k=>PureV π (nilChk t12) k) (fun t13=>
 guardV (t10) false (fun k=>pU π (Instr.fieldAt 85 t13 5) k) (fun t14=>
 guardV (t10) false (fun k=>rD π (Instr.loadAt 39 t14) w k) (fun t15=>
 gW (t10) false (fun k=>CallV π noZ 36 #[t11,t15] w k) (fun t16 w=>
 Still π (gSem (t10) false (nx (Instr.loadAt 33 t1))) t12 w <|
 guardV (t10) false (fun k=>pU π (eqOp .neq 30 false true t16 (.int .i64 0)) k) (fun t17=>
 pU π (pickV t10 (.bool true) t17) fun t18=>
 cV t18 (
 rO π noZ (Instr.storeAt 4 t3 (.bool false)) w fun w=>
 w.heap[l_5]? = some (.loop (rc_5 .busy none))∧k_5 (.bool false) (w.putObj l_5 (.loop (rc_5 .done (some (.exit 0)))))) (
 Drawn w fun w=>
 rD π (Instr.loadAt 33 t1) w fun t19=>
 rD π (Instr.loadAt 33 t1) w fun t20=>
 PureV π (nilChk t20) fun t21=>
 pU π (Instr.fieldAt 85 t21 6) fun t22=>
 rD π (Instr.loadAt 22 t22) w fun t23=>
 rD π (Instr.loadAt 50 t9) w fun t24=>
 rN π noZ (Instr.buildSlice 22 1 #[(0,t24)]) w fun t25 w=>
 Still π (nx (Instr.loadAt 22 t22)) t23 w <|
 Still π (nx (Instr.loadAt 33 t1)) t20 w <|
 Still π (nx (Instr.loadAt 33 t1)) t19 w <|
 rN π noZ (Builtin.append_ #[22,22] 22 #[t23,t25]) w fun t26 w=>
 Still π (nx (Instr.loadAt 33 t1)) t20 w <|
 Still π (nx (Instr.loadAt 33 t1)) t19 w <|
 PureV π (nilChk t19) fun t27=>
 pU π (Instr.fieldAt 85 t27 6) fun t28=>
 rO π noZ (Instr.storeAt 22 t28 t26) w fun w=>
 rN π noZ (Instr.loadAt 33 t1) w fun t29 w=>
 rN π noZ (Instr.fieldAt 50 t9 0) w fun t30 w=>
 rN π noZ (Instr.loadAt 39 t30) w fun t31 w=>
 runX π noZ (nilChk t29) w fun t32 w=>
 rN π noZ (Instr.fieldAt 85 t32 5) w fun t33 w=>
 rO π noZ (Instr.storeAt 39 t33 t31) w fun w=>
 rN π noZ (Instr.loadAt 33 t1) w fun t34 w=>
 runX π noZ (nilChk t34) w fun t35 w=>
 rN π noZ (Instr.fieldAt 85 t35 4) w fun t36 w=>
 rN π noZ (Instr.loadAt 3 t36) w fun t37 w=>
 rN π noZ (binOp .add 3 t37 (.int .i64 1)) w fun t38 w=>
 runX π noZ (nilChk t34) w fun t39 w=>
 rN π noZ (Instr.fieldAt 85 t39 4) w fun t40 w=>
 rO π noZ (Instr.storeAt 3 t40 t38) w fun w=>
 rO π noZ (Instr.storeAt 3 t2 y_5) w fun w=>
 w.heap[l_5]? = some (.loop (rc_5 .busy none))∧k_5 (.bool true) (w.putObj l_5 (.loop (rc_5 .ready none)))))) w)))))) (w.putObj l_5 (.loop (rc_5 .busy none))))
 (fun (D_5:Nat) (w:World)=>
 Drawn w fun w=>
 rD π (Instr.loadAt 3 t2) w fun t45=>
 rD π (Instr.loadAt 4 t3) w fun t46=>
 rO π noZ (Instr.storeAt 3 t2 t45) w fun w=>
 Still π (nx (Instr.loadAt 4 t3)) t46 w <|
 rO π noZ (Instr.storeAt 4 t3 t46) w fun w=>
 leaveD D_5 w fun w=>
 ∃r_47,(do loadVar 3 (← asAddr t2):Sem Value).run π w=.ok r_47 w ∧
 ∃r_48,(do loadVar 4 (← asAddr t3):Sem Value).run π w=.ok r_48 w ∧
 Q (Value.tuple #[r_47,r_48]) w)
 (fun (D_5:Nat) (w:World)=>
 leaveD D_5 w fun w=>
 ∃r_49,(do loadVar 3 (← asAddr t2):Sem Value).run π w=.ok r_49 w ∧
 ∃r_50,(do loadVar 4 (← asAddr t3):Sem Value).run π w=.ok r_50 w ∧
 Q (Value.tuple #[r_49,r_50]) w)
 (fun (i D_5:Nat) (w:World)=>
 bif Nat.beq i 0 then
 Drawn w fun w=>
 rD π (Instr.loadAt 3 t2) w fun t41=>
 rD π (Instr.loadAt 4 t3) w fun t42=>
 rO π noZ (Instr.storeAt 3 t2 t41) w fun w=>
 Still π (nx (Instr.loadAt 4 t3)) t42 w <|
 rO π noZ (Instr.storeAt 4 t3 t42) w fun w=>
 leaveD D_5 w fun w=>
 ∃r_43,(do loadVar 3 (← asAddr t2):Sem Value).run π w=.ok r_43 w ∧
 ∃r_44,(do loadVar 4 (← asAddr t3):Sem Value).run π w=.ok r_44 w ∧
 Q (Value.tuple #[r_43,r_44]) w
 else
 False)
def f46.an:AnG:=(.sq (.o .leaf) (.sc (.sq (.o .leaf) (.sq (.o .leaf) (.sq (.sq (.o .leaf) (.bl (.rf (.sq .leaf .leaf) (.bl (.q (.sq (.sq (.dr (pl [0,4,8,13,17,20,24,29,34,36,40] .fin)) (.cn (.sq .leaf .leaf) .leaf)) (.sq (.dr (pl [1,5,8,12,17,21,26,30,32,36,42] .fin)) (.q (.sq .leaf .leaf))))))))) (.o (.sq (.dr (pl [1,5,10,14] .fin)) .leaf)))))))
theorem f46.calls {Z:PZ} {x0 x1:Value} {w:World} {Q:PQ} (h:f46.sh x0 x1 w Q):CallV π Z 46 #[x0,x1] w Q:=
 clG follows ents Tryz.func46 f46.an [x0,x1] (by kernel_rfl) (by kernel_rfl) h

def f94.sh (x0 x1:Value) (w:World) (Q:PQ):Prop:=
 rN π noZ (Instr.box 141 x0) w fun t1 w=>
 rN π noZ (Instr.loadAt 43 x1) w fun t2 w=>
 CallV π noZ 95 #[t2] w fun t3 w=>
 rangeV π t3 w (fun (l_4:Nat) (rc_4:LoopState→Option Code→Loop) (y_4 z_4:Value) (w:World) (k_4:PQ)=>
 w.heap[l_4]? = some (.loop (rc_4 .ready none))∧(fun w:World=>
 Drawn w fun w=>
 rD π (Instr.loadAt 141 t1) w fun t5=>
 CallV π noZ 93 #[z_4] w fun t6 w=>
 Still π (nx (Instr.loadAt 141 t1)) t5 w <|
 runY π noZ (callVal t5 #[y_4,t6]) w fun t7 w=>
 pU π (Op.unary .not t7) fun t8=>
 cV t8 (
 w.heap[l_4]? = some (.loop (rc_4 .busy none))∧k_4 (.bool false) (w.putObj l_4 (.loop (rc_4 .done (some .ret))))) (
 w.heap[l_4]? = some (.loop (rc_4 .busy none))∧k_4 (.bool true) (w.putObj l_4 (.loop (rc_4 .ready none))))) (w.putObj l_4 (.loop (rc_4 .busy none))))
 (fun (D_4:Nat) (w:World)=>
 leaveD D_4 w fun w=>
 Q (Value.tuple #[]) w)
 (fun (D_4:Nat) (w:World)=>
 leaveD D_4 w fun w=>
 Q (Value.tuple #[]) w)
 (fun (i D_4:Nat) (w:World)=>
 bif Nat.beq i 0 then
 leaveD D_4 w fun w=>
 Q (Value.tuple #[]) w
 else
 False)
def f94.an:AnG:=(.sq (.o .leaf) (.sq (.o .leaf) (.bl (.rf (.sq .leaf .leaf) (.bl (.sq (.dr (pl [1,4,8,14,18,20] .fin)) (.c)))))))
theorem f94.calls {Z:PZ} {x0 x1:Value} {w:World} {Q:PQ} (h:f94.sh x0 x1 w Q):CallV π Z 94 #[x0,x1] w Q:=
 clG follows ents Tryz.func94 f94.an [x0,x1] (by kernel_rfl) (by kernel_rfl) h

def f146.sh (Z:PZ) (x0 x1:Value) (w:World) (Q:PQ):Prop:=
 rN π Z (Instr.loadAt 43 x1) w fun t1 w=>
 CallV π Z 147 #[t1] w fun t2 w=>
 ∃J_3:Nat→Value→PQ,(∃m,J_3 m (.int .i64 0) t2 w) ∧
 ∀m_3,∀t4:Value,∀t5:Value,∀w:World,J_3 m_3 t4 t5 w→Env →
 rN π Z (eqOp .neq 43 false true t5 (.slice none 0 0)) w fun t6 w=>
 cV t6 (
 rN π Z (Builtin.len_ #[43] 3 #[t5]) w fun t7 w=>
 rN π Z (binOp .add 3 (.int .i64 8) t7) w fun t8 w=>
 rN π Z (binOp .add 3 t8 (.int .i64 1)) w fun t9 w=>
 rN π Z (binOp .add 3 t4 t9) w fun t10 w=>
 runY π Z (callVal x0 #[t10,t5]) w fun t11 w=>
 rN π Z (Op.unary .not t11) w fun t12 w=>
 cV t12 (
 Q (Value.tuple #[]) w) (
 rN π Z (Instr.loadAt 43 x1) w fun t13 w=>
 rN π Z (Instr.sliceAt 43 t13 (some t10) none none) w fun t14 w=>
 CallV π Z 147 #[t14] w fun t15 w=>
 ∃n_3,n_3 < m_3∧J_3 n_3 t10 t15 w)) (
 Q (Value.tuple #[]) w)
def f146.an:An:=(.q (.q (.bl (.lp [3,4] (.sq (.q (.c)) (.sq (.bl (.q (.q (.c)))) .leaf))))))
theorem f146.calls {Z:PZ} {x0 x1:Value} {w:World} {Q:PQ} (h:f146.sh Z x0 x1 w Q):CallV π Z 146 #[x0,x1] w Q:=
 clY follows ents Tryz.func146 f146.an [x0,x1] (by kernel_rfl) (by kernel_rfl) h

