import Derived.Test.YtfijkedmbaghmaaGreatDoorShBase
set_option linter.unusedVariables false
namespace Go.Proofs.YtfijkedmbaghmaaGreatDoor
open Go.Sh
open Go.Instr (loadAt storeAt fieldAt indexAt extract)
open Tryz renaming prog → π
def f3.sh (Z:PZ) (x0 x1:Value) (w:World) (Q:PQ):Prop:=
 rN π Z (Instr.box 39 x0) w fun t1 w=>
 rN π Z (Instr.box 39 x1) w fun t2 w=>
 rN π Z (loadAt 39 t1) w fun t3 w=>
 CallV π Z 7 #[t3] w fun t4 w=>
 gW (t4) false (fun k=>rN π Z (loadAt 39 t2) w k) (fun t5 w=>
 gW (t4) false (fun k=>CallV π Z 7 #[t5] w k) (fun t6 w=>
 rN π Z (pickV t4 (.bool true) t6) w fun t7 w=>
 cV t7 (
 Q (.bool true) w) (
 CallV π Z 8 #[] w fun t8 w=>
 rN π Z (loadAt 39 t1) w fun t9 w=>
 CallV π Z 9 #[t9] w fun t10 w=>
 rN π Z (Instr.alloc 39 true (.tuple #[])) w fun t11 w=>
 rO π Z (storeAt 39 t11 t10) w fun w=>
 rN π Z (loadAt 39 t1) w fun t12 w=>
 CallV π Z 10 #[t12] w fun t13 w=>
 rN π Z (extract t13 0) w fun t14 w=>
 rN π Z (extract t13 1) w fun t15 w=>
 rN π Z (loadAt 39 t2) w fun t16 w=>
 CallV π Z 10 #[t16] w fun t17 w=>
 rN π Z (extract t17 0) w fun t18 w=>
 rN π Z (extract t17 1) w fun t19 w=>
 rN π Z (loadAt 39 t11) w fun t20 w=>
 CallV π Z 11 #[t20] w fun t21 w=>
 rN π Z (extract t21 0) w fun t22 w=>
 rN π Z (extract t21 1) w fun t23 w=>
 rN π Z (loadAt 39 t11) w fun t24 w=>
 CallV π Z 11 #[t24] w fun t25 w=>
 rN π Z (extract t25 0) w fun t26 w=>
 rN π Z (extract t25 1) w fun t27 w=>
 rN π Z (loadAt 39 t2) w fun t28 w=>
 CallV π Z 11 #[t28] w fun t29 w=>
 rN π Z (extract t29 0) w fun t30 w=>
 rN π Z (extract t29 1) w fun t31 w=>
 Drawn w fun w=>
 pU π (Op.unary .not t8) fun t32=>
 guardV (t32) false (fun k=>rD π (loadAt 39 t11) w k) (fun t33=>
 guardV (t32) false (fun k=>rD π (loadAt 39 t1) w k) (fun t34=>
 gW (t32) false (fun k=>CallV π Z 12 #[t33] w k) (fun t35 w=>
 Still π (gSem (t32) false (nx (loadAt 39 t1))) t34 w <|
 gW (t32) false (fun k=>CallV π Z 13 #[t34] w k) (fun t36 w=>
 guardV (t32) false (fun k=>pU π (eqOp .neq 43 false false t35 t36) k) (fun t37=>
 pU π (pickV t32 (.bool true) t37) fun t38=>
 guardV (t38) false (fun k=>k (t23)) (fun t39=>
 guardV (t38) false (fun k=>k (t15)) (fun t40=>
 guardV (t38) false (fun k=>pU π (eqOp .neq 43 false false t39 t40) k) (fun t41=>
 pU π (pickV t38 (.bool true) t41) fun t42=>
 guardV (t42) false (fun k=>k (t27)) (fun t43=>
 guardV (t42) false (fun k=>k (t15)) (fun t44=>
 guardV (t42) false (fun k=>pU π (eqOp .neq 43 false false t43 t44) k) (fun t45=>
 pU π (pickV t42 (.bool true) t45) fun t46=>
 guardV (t46) false (fun k=>k (t31)) (fun t47=>
 guardV (t46) false (fun k=>k (t19)) (fun t48=>
 guardV (t46) false (fun k=>pU π (eqOp .neq 43 false false t47 t48) k) (fun t49=>
 pU π (pickV t46 (.bool true) t49) fun t50=>
 guardV (t50) false (fun k=>k (t22)) (fun t51=>
 guardV (t50) false (fun k=>k (t14)) (fun t52=>
 gW (t50) false (fun k=>CallV π Z 14 #[t51,t52] w k) (fun t53 w=>
 guardV (t50) false (fun k=>pU π (Op.unary .not t53) k) (fun t54=>
 pU π (pickV t50 (.bool true) t54) fun t55=>
 guardV (t55) false (fun k=>k (t26)) (fun t56=>
 guardV (t55) false (fun k=>k (t14)) (fun t57=>
 gW (t55) false (fun k=>CallV π Z 14 #[t56,t57] w k) (fun t58 w=>
 guardV (t55) false (fun k=>pU π (Op.unary .not t58) k) (fun t59=>
 pU π (pickV t55 (.bool true) t59) fun t60=>
 guardV (t60) false (fun k=>k (t30)) (fun t61=>
 guardV (t60) false (fun k=>k (t18)) (fun t62=>
 gW (t60) false (fun k=>CallV π Z 14 #[t61,t62] w k) (fun t63 w=>
 guardV (t60) false (fun k=>pU π (Op.unary .not t63) k) (fun t64=>
 pU π (pickV t60 (.bool true) t64) fun t65=>
 cV t65 (
 Q (.bool false) w) (
 rN π Z (loadAt 39 t11) w fun t66 w=>
 rN π Z (loadAt 39 t1) w fun t67 w=>
 CallV π Z 15 #[t66,t67] w fun t68 w=>
 rN π Z (Op.unary .not t68) w fun t69 w=>
 gW (t69) false (fun k=>rN π Z (loadAt 39 t11) w k) (fun t70 w=>
 gW (t69) false (fun k=>CallV π Z 16 #[t70] w k) (fun t71 w=>
 gW (t69) false (fun k=>rN π Z (Op.unary .not t71) w k) (fun t72 w=>
 rN π Z (pickV t69 (.bool true) t72) w fun t73 w=>
 cV t73 (
 Q (.bool false) w) (
 ∃J_74:Nat→PQ,(∃m,J_74 m (.int .i64 0) w) ∧
 ∀m_74,∀t75:Value,∀w:World,J_74 m_74 t75 w→Env →
 rN π Z (fieldAt 39 t11 11) w fun t76 w=>
 rN π Z (loadAt 30 t76) w fun t77 w=>
 rN π Z (Builtin.len_ #[30] 3 #[t77]) w fun t78 w=>
 rN π Z (binOp .lss 3 t75 t78) w fun t79 w=>
 cV t79 (
 Drawn w fun w=>
 pU π (fieldAt 39 t11 11) fun t80=>
 rD π (loadAt 30 t80) w fun t81=>
 pU π (fieldAt 39 t11 11) fun t82=>
 rD π (loadAt 30 t82) w fun t83=>
 pU π (indexAt 30 t83 t75) fun t84=>
 rD π (loadAt 5 t84) w fun t85=>
 pU π (binOp .xor 5 t85 (.int .u8 85)) fun t86=>
 pU π (indexAt 30 t81 t75) fun t87=>
 rO π Z (storeAt 5 t87 t86) w fun w=>
 rN π Z (binOp .add 3 t75 (.int .i64 1)) w fun t88 w=>
 ∃n_74,n_74 < m_74∧J_74 n_74 t88 w) (
 ∃J_89:Nat→PQ,(∃m,J_89 m (.int .i64 0) w) ∧
 ∀m_89,∀t90:Value,∀w:World,J_89 m_89 t90 w→Env →
 rN π Z (fieldAt 39 t11 10) w fun t91 w=>
 rN π Z (fieldAt 37 t91 2) w fun t92 w=>
 rN π Z (fieldAt 35 t92 2) w fun t93 w=>
 rN π Z (loadAt 30 t93) w fun t94 w=>
 rN π Z (Builtin.len_ #[30] 3 #[t94]) w fun t95 w=>
 rN π Z (binOp .lss 3 t90 t95) w fun t96 w=>
 cV t96 (
 Drawn w fun w=>
 pU π (fieldAt 39 t11 10) fun t97=>
 pU π (fieldAt 37 t97 2) fun t98=>
 pU π (fieldAt 35 t98 2) fun t99=>
 rD π (loadAt 30 t99) w fun t100=>
 pU π (fieldAt 39 t11 10) fun t101=>
 pU π (fieldAt 37 t101 2) fun t102=>
 pU π (fieldAt 35 t102 2) fun t103=>
 rD π (loadAt 30 t103) w fun t104=>
 pU π (indexAt 30 t104 t90) fun t105=>
 rD π (loadAt 5 t105) w fun t106=>
 pU π (binOp .xor 5 t106 (.int .u8 85)) fun t107=>
 pU π (indexAt 30 t100 t90) fun t108=>
 rO π Z (storeAt 5 t108 t107) w fun w=>
 rN π Z (binOp .add 3 t90 (.int .i64 1)) w fun t109 w=>
 ∃n_89,n_89 < m_89∧J_89 n_89 t109 w) (
 rN π Z (loadAt 39 t11) w fun t110 w=>
 CallV π Z 17 #[t110] w fun t111 w=>
 rN π Z (Instr.alloc 39 true (.tuple #[])) w fun t112 w=>
 rO π Z (storeAt 39 t112 t111) w fun w=>
 rN π Z (loadAt 39 t11) w fun t113 w=>
 CallV π Z 11 #[t113] w fun t114 w=>
 rN π Z (extract t114 0) w fun t115 w=>
 rN π Z (extract t114 1) w fun t116 w=>
 rN π Z (loadAt 39 t112) w fun t117 w=>
 CallV π Z 10 #[t117] w fun t118 w=>
 rN π Z (extract t118 0) w fun t119 w=>
 rN π Z (extract t118 1) w fun t120 w=>
 rN π Z (eqOp .neq 43 false false t116 t120) w fun t121 w=>
 gW (t121) false (fun k=>k (t115) w) (fun t122 w=>
 gW (t121) false (fun k=>k (t119) w) (fun t123 w=>
 gW (t121) false (fun k=>CallV π Z 14 #[t122,t123] w k) (fun t124 w=>
 gW (t121) false (fun k=>rN π Z (Op.unary .not t124) w k) (fun t125 w=>
 rN π Z (pickV t121 (.bool true) t125) w fun t126 w=>
 cV t126 (
 Q (.bool false) w) (
 rN π Z (Instr.build 72 #[]) w fun t127 w=>
 rN π Z (Instr.box 72 t127) w fun t128 w=>
 CallV π Z 18 #[t128,t22] w fun t129 w=>
 CallV π Z 18 #[t128,t26] w fun t130 w=>
 CallV π Z 18 #[t128,t30] w fun t131 w=>
 CallV π Z 18 #[t128,t115] w fun t132 w=>
 rN π Z (loadAt 39 t11) w fun t133 w=>
 CallV π Z 19 #[t128,t133] w fun t134 w=>
 CallV π Z 20 #[t128] w fun t135 w=>
 Q t135 w)) w) w) w) w)))) w) w) w))) w)))) w)))) w))))))))))))) w) w)))) w) w
def f3.an:An:=(.q (.sq (.q (.cn (.sq .leaf .leaf) .leaf)) (.q (.q (.q (.q (.q (.q (.q (.sq (.sq (.dr (pl [0,4,8,13,21,18,26,28,32,36,40,44,48,52,56,60,64,68,72,76,80,84,88,92,96,100,104,110,112,116,120,124,128,134,136,140,144,148,152,158,160,164] .fin)) (.cn (.sq .leaf .leaf) .leaf)) (.sq (.q (.cn (.sq .leaf .leaf) .leaf)) (.sq (.q (.bl (.lp [17] (.sq (.q (.c)) (.sq (.bl (.dr (pl [0,5,8,12,17,20,24,29,32,36,42] .fin))) .leaf))))) (.sq (.q (.bl (.lp [18] (.sq (.q (.c)) (.sq (.bl (.dr (pl [0,4,8,13,16,20,24,28,33,36,40,45,48,52,58] .fin))) .leaf))))) (.q (.q (.q (.sq (.q (.cn (.sq .leaf .leaf) .leaf)) (.q (.q (.q (.q (.q (.q (.sq .leaf .leaf))))))))))))))))))))))))
theorem f3.calls {Z:PZ} {x0 x1:Value} {w:World} {Q:PQ} (h:f3.sh Z x0 x1 w Q):CallV π Z 3 #[x0,x1] w Q:=
 cl Tryz.func3 f3.an [x0,x1] (by kernel_rfl) (by kernel_rfl) h

def f7.sh (Z:PZ) (x0:Value) (w:World) (Q:PQ):Prop:=
 rN π Z (Instr.box 39 x0) w fun t1 w=>
 rN π Z (fieldAt 39 t1 11) w fun t2 w=>
 rN π Z (loadAt 30 t2) w fun t3 w=>
 rN π Z (Builtin.len_ #[30] 3 #[t3]) w fun t4 w=>
 rN π Z (binOp .gtr 3 t4 (.int .i64 536870911)) w fun t5 w=>
 gW (t5) false (fun k=>rN π Z (fieldAt 39 t1 10) w k) (fun t6 w=>
 gW (t5) false (fun k=>rN π Z (fieldAt 37 t6 2) w k) (fun t7 w=>
 gW (t5) false (fun k=>rN π Z (loadAt 35 t7) w k) (fun t8 w=>
 gW (t5) false (fun k=>CallV π Z 25 #[t8] w k) (fun t9 w=>
 rN π Z (pickV t5 (.bool true) t9) w fun t10 w=>
 Q t10 w) w) w) w) w
def f7.an:An:=(.q (.sq .leaf .leaf))
theorem f7.calls {Z:PZ} {x0:Value} {w:World} {Q:PQ} (h:f7.sh Z x0 w Q):CallV π Z 7 #[x0] w Q:=
 cl Tryz.func7 f7.an [x0] (by kernel_rfl) (by kernel_rfl) h

def f8.sh (Z:PZ) (w:World) (Q:PQ):Prop:=
 rN π Z (Instr.build 25 #[(0,(.int .u32 3)),(1,(.int .u32 1))]) w fun t1 w=>
 rN π Z (Instr.build 39 #[(0,(.int .i8 1)),(1,t1),(4,(.int .u32 2))]) w fun t2 w=>
 rN π Z (Instr.alloc 39 true (.tuple #[])) w fun t3 w=>
 rO π Z (storeAt 39 t3 t2) w fun w=>
 rN π Z (loadAt 39 t3) w fun t4 w=>
 CallV π Z 11 #[t4] w fun t5 w=>
 rN π Z (extract t5 0) w fun t6 w=>
 rN π Z (extract t5 1) w fun t7 w=>
 rN π Z (Instr.buildSlice 30 17 #[(0,(.int .u8 0)),(1,(.int .u8 60)),(2,(.int .u8 0)),(3,(.int .u8 8)),(4,(.int .u8 1)),(5,(.int .u8 0)),(6,(.int .u8 0)),(7,(.int .u8 0)),(8,(.int .u8 3)),(9,(.int .u8 0)),(10,(.int .u8 0)),(11,(.int .u8 0)),(12,(.int .u8 1)),(13,(.int .u8 0)),(14,(.int .u8 0)),(15,(.int .u8 0)),(16,(.int .u8 2))]) w fun t8 w=>
 CallV π Z 23 #[t8] w fun t9 w=>
 rN π Z (extract t9 0) w fun t10 w=>
 rN π Z (extract t9 1) w fun t11 w=>
 rN π Z (Instr.alloc 39 true (.tuple #[])) w fun t12 w=>
 rO π Z (storeAt 39 t12 t10) w fun w=>
 rN π Z (eqOp .eql 43 false true t7 (.int .i64 0)) w fun t13 w=>
 gW (t13) true (fun k=>k (t11) w) (fun t14 w=>
 gW (t13) true (fun k=>rN π Z (eqOp .eql 43 false true t14 (.int .i64 0)) w k) (fun t15 w=>
 rN π Z (pickV t13 t15 (.bool false)) w fun t16 w=>
 gW (t16) true (fun k=>k (t6) w) (fun t17 w=>
 gW (t16) true (fun k=>rN π Z (Builtin.len_ #[30] 3 #[t17]) w k) (fun t18 w=>
 gW (t16) true (fun k=>rN π Z (eqOp .eql 3 false true t18 (.int .i64 17)) w k) (fun t19 w=>
 rN π Z (pickV t16 t19 (.bool false)) w fun t20 w=>
 gW (t20) true (fun k=>rN π Z (loadAt 39 t3) w k) (fun t21 w=>
 gW (t20) true (fun k=>rN π Z (loadAt 39 t12) w k) (fun t22 w=>
 gW (t20) true (fun k=>CallV π Z 15 #[t21,t22] w k) (fun t23 w=>
 rN π Z (pickV t20 t23 (.bool false)) w fun t24 w=>
 Q t24 w) w) w) w) w) w) w) w) w
def f8.an:An:=(.q (.q (.q (.q (.sq .leaf .leaf)))))
theorem f8.calls {Z:PZ} {w:World} {Q:PQ} (h:f8.sh Z  w Q):CallV π Z 8 #[] w Q:=
 cl Tryz.func8 f8.an [] (by kernel_rfl) (by kernel_rfl) h

def f9.sh (Z:PZ) (x0:Value) (w:World) (Q:PQ):Prop:=
 rN π Z (Instr.box 39 x0) w fun t1 w=>
 rN π Z (Instr.alloc 39 true (.tuple #[])) w fun t2 w=>
 rN π Z (fieldAt 39 t1 11) w fun t3 w=>
 rN π Z (loadAt 30 t3) w fun t4 w=>
 CallV π Z 26 #[t4] w fun t5 w=>
 rN π Z (fieldAt 39 t1 11) w fun t6 w=>
 rO π Z (storeAt 30 t6 t5) w fun w=>
 rN π Z (fieldAt 39 t1 10) w fun t7 w=>
 rN π Z (loadAt 37 t7) w fun t8 w=>
 CallV π Z 27 #[t8] w fun t9 w=>
 rN π Z (fieldAt 39 t1 10) w fun t10 w=>
 rO π Z (storeAt 37 t10 t9) w fun w=>
 rN π Z (loadAt 39 t1) w fun t11 w=>
 rO π Z (storeAt 39 t2 t11) w fun w=>
 ∃r_12,(do loadVar 39 (← asAddr t2):Sem Value).run π w=.ok r_12 w ∧
 Q r_12 w
def f9.an:An:=(.q (.q (.q (.sq .leaf .leaf))))
theorem f9.calls {Z:PZ} {x0:Value} {w:World} {Q:PQ} (h:f9.sh Z x0 w Q):CallV π Z 9 #[x0] w Q:=
 cl Tryz.func9 f9.an [x0] (by kernel_rfl) (by kernel_rfl) h

def f10.sh (Z:PZ) (x0:Value) (w:World) (Q:PQ):Prop:=
 rN π Z (Instr.box 39 x0) w fun t1 w=>
 rN π Z (loadAt 39 t1) w fun t2 w=>
 CallV π Z 13 #[t2] w fun t3 w=>
 rN π Z (eqOp .neq 43 false true t3 (.int .i64 0)) w fun t4 w=>
 cV t4 (
 Q (Value.tuple #[(.slice none 0 0),(.int .i64 150)]) w) (
 rN π Z (loadAt 39 t1) w fun t5 w=>
 CallV π Z 28 #[t5] w fun t6 w=>
 Q (Value.tuple #[t6,(.int .i64 0)]) w)
def f10.an:An:=(.q (.sq (.q (.cn (.sq .leaf .leaf) .leaf)) (.sq .leaf .leaf)))
theorem f10.calls {Z:PZ} {x0:Value} {w:World} {Q:PQ} (h:f10.sh Z x0 w Q):CallV π Z 10 #[x0] w Q:=
 cl Tryz.func10 f10.an [x0] (by kernel_rfl) (by kernel_rfl) h

def f11.sh (Z:PZ) (x0:Value) (w:World) (Q:PQ):Prop:=
 rN π Z (Instr.box 39 x0) w fun t1 w=>
 rN π Z (loadAt 39 t1) w fun t2 w=>
 CallV π Z 12 #[t2] w fun t3 w=>
 rN π Z (eqOp .neq 43 false true t3 (.int .i64 0)) w fun t4 w=>
 cV t4 (
 Q (Value.tuple #[(.slice none 0 0),(.int .i64 150)]) w) (
 rN π Z (fieldAt 39 t1 0) w fun t5 w=>
 rN π Z (loadAt 22 t5) w fun t6 w=>
 CallV π Z 29 #[t6] w fun t7 w=>
 rN π Z (extract t7 0) w fun t8 w=>
 rN π Z (extract t7 1) w fun t9 w=>
 rN π Z (Instr.build 88 #[]) w fun t10 w=>
 rN π Z (Instr.box 88 t10) w fun t11 w=>
 rN π Z (fieldAt 39 t1 0) w fun t12 w=>
 rN π Z (loadAt 22 t12) w fun t13 w=>
 CallV π Z 30 #[t11,t13] w fun t14 w=>
 CallV π Z 31 #[] w fun t15 w=>
 rN π Z (Builtin.len_ #[90] 3 #[t15]) w fun t16 w=>
 ∃J_17:Nat→PQ,(∃m,J_17 m (.int .i64 0) w) ∧
 ∀m_17,∀t18:Value,∀w:World,J_17 m_17 t18 w→Env →
 rN π Z (binOp .lss 3 t18 t16) w fun t19 w=>
 cV t19 (
 ∀j_20:World→Prop,(∀w:World,(Env →
 rN π Z (binOp .add 3 t18 (.int .i64 1)) w fun t21 w=>
 ∃n_17,n_17 < m_17∧J_17 n_17 t21 w) →
 j_20 w) →
 rN π Z (indexAt 90 t15 t18) w fun t22 w=>
 rN π Z (loadAt 96 t22) w fun t23 w=>
 rN π Z (Instr.alloc 96 true (.tuple #[])) w fun t24 w=>
 rO π Z (storeAt 96 t24 t23) w fun w=>
 rN π Z (fieldAt 96 t24 0) w fun t25 w=>
 rN π Z (loadAt 3 t25) w fun t26 w=>
 rN π Z (binOp .and 3 t8 t26) w fun t27 w=>
 rN π Z (eqOp .neq 3 false true t27 (.int .i64 0)) w fun t28 w=>
 cV t28 (
 rN π Z (fieldAt 96 t24 1) w fun t29 w=>
 rN π Z (loadAt 92 t29) w fun t30 w=>
 runX π Z (callVal t30 #[t11,t1]) w fun t31 w=>
 j_20 w) (
 j_20 w)) (
 CallV π Z 32 #[t11] w fun t32 w=>
 rN π Z (Instr.build 88 #[]) w fun t33 w=>
 rN π Z (Instr.box 88 t33) w fun t34 w=>
 CallV π Z 34 #[t32] w fun t35 w=>
 CallV π Z 33 #[t34,t35] w fun t36 w=>
 CallV π Z 35 #[t34,t32] w fun t37 w=>
 CallV π Z 32 #[t34] w fun t38 w=>
 Q (Value.tuple #[t38,(.int .i64 0)]) w))
def f11.an:An:=(.q (.sq (.q (.cn (.sq .leaf .leaf) .leaf)) (.q (.q (.q (.sq (.q (.bl (.lp [28] (.q (.sq (.c) (.sj [] (.bl (.q (.q (.c)))) .leaf)))))) (.q (.q (.q (.q (.sq .leaf .leaf)))))))))))
theorem f11.calls {Z:PZ} {x0:Value} {w:World} {Q:PQ} (h:f11.sh Z x0 w Q):CallV π Z 11 #[x0] w Q:=
 cl Tryz.func11 f11.an [x0] (by kernel_rfl) (by kernel_rfl) h

def f12.sh (Z:PZ) (x0:Value) (w:World) (Q:PQ):Prop:=
 rN π Z (Instr.box 39 x0) w fun t1 w=>
 rN π Z (fieldAt 39 t1 0) w fun t2 w=>
 rN π Z (loadAt 22 t2) w fun t3 w=>
 CallV π Z 29 #[t3] w fun t4 w=>
 rN π Z (extract t4 0) w fun t5 w=>
 rN π Z (extract t4 1) w fun t6 w=>
 rN π Z (Op.unary .not t6) w fun t7 w=>
 gW (t7) false (fun k=>rN π Z (loadAt 39 t1) w k) (fun t8 w=>
 gW (t7) false (fun k=>k (t5) w) (fun t9 w=>
 gW (t7) false (fun k=>CallV π Z 36 #[t8,t9] w k) (fun t10 w=>
 gW (t7) false (fun k=>rN π Z (Op.unary .not t10) w k) (fun t11 w=>
 rN π Z (pickV t7 (.bool true) t11) w fun t12 w=>
 cV t12 (
 Q (.int .i64 150) w) (
 CallV π Z 31 #[] w fun t13 w=>
 rN π Z (Builtin.len_ #[90] 3 #[t13]) w fun t14 w=>
 ∃J_15:Nat→PQ,(∃m,J_15 m (.int .i64 0) w) ∧
 ∀m_15,∀t16:Value,∀w:World,J_15 m_15 t16 w→Env →
 rN π Z (binOp .lss 3 t16 t14) w fun t17 w=>
 cV t17 (
 rN π Z (indexAt 90 t13 t16) w fun t18 w=>
 rN π Z (loadAt 96 t18) w fun t19 w=>
 rN π Z (Instr.alloc 96 true (.tuple #[])) w fun t20 w=>
 rO π Z (storeAt 96 t20 t19) w fun w=>
 rN π Z (fieldAt 96 t20 0) w fun t21 w=>
 rN π Z (loadAt 3 t21) w fun t22 w=>
 rN π Z (binOp .and 3 t5 t22) w fun t23 w=>
 rN π Z (eqOp .neq 3 false true t23 (.int .i64 0)) w fun t24 w=>
 gW (t24) true (fun k=>rN π Z (fieldAt 96 t20 3) w k) (fun t25 w=>
 gW (t24) true (fun k=>rN π Z (loadAt 94 t25) w k) (fun t26 w=>
 gW (t24) true (fun k=>runX π Z (callVal t26 #[t1]) w k) (fun t27 w=>
 gW (t24) true (fun k=>rN π Z (Op.unary .not t27) w k) (fun t28 w=>
 rN π Z (pickV t24 t28 (.bool false)) w fun t29 w=>
 cV t29 (
 Q (.int .i64 150) w) (
 rN π Z (binOp .add 3 t16 (.int .i64 1)) w fun t30 w=>
 ∃n_15,n_15 < m_15∧J_15 n_15 t30 w)) w) w) w) w) (
 Q (.int .i64 0) w))) w) w) w) w
def f12.an:An:=(.q (.q (.sq (.q (.cn (.sq .leaf .leaf) .leaf)) (.sq (.q (.bl (.lp [23] (.q (.sq (.c) (.sq (.bl (.q (.q (.cn (.sq .leaf .leaf) .leaf)))) .leaf)))))) (.sq .leaf .leaf)))))
theorem f12.calls {Z:PZ} {x0:Value} {w:World} {Q:PQ} (h:f12.sh Z x0 w Q):CallV π Z 12 #[x0] w Q:=
 cl Tryz.func12 f12.an [x0] (by kernel_rfl) (by kernel_rfl) h

def f13.sh (Z:PZ) (x0:Value) (w:World) (Q:PQ):Prop:=
 rN π Z (Instr.box 39 x0) w fun t1 w=>
 rN π Z (fieldAt 39 t1 0) w fun t2 w=>
 rN π Z (loadAt 22 t2) w fun t3 w=>
 CallV π Z 37 #[t3] w fun t4 w=>
 Drawn w fun w=>
 pU π (fieldAt 39 t1 1) fun t5=>
 rD π (loadAt 25 t5) w fun t6=>
 CallV π Z 39 #[t4,(.int .u8 99)] w fun t7 w=>
 Still π (nx (loadAt 25 t5)) t6 w <|
 CallV π Z 38 #[t6,t7] w fun t8 w=>
 Drawn w fun w=>
 pU π (fieldAt 39 t1 2) fun t9=>
 rD π (loadAt 25 t9) w fun t10=>
 CallV π Z 39 #[t4,(.int .u8 108)] w fun t11 w=>
 Still π (nx (loadAt 25 t9)) t10 w <|
 CallV π Z 38 #[t10,t11] w fun t12 w=>
 Drawn w fun w=>
 pU π (fieldAt 39 t1 6) fun t13=>
 rD π (loadAt 27 t13) w fun t14=>
 CallV π Z 39 #[t4,(.int .u8 122)] w fun t15 w=>
 Still π (nx (loadAt 27 t13)) t14 w <|
 CallV π Z 40 #[t14,t15] w fun t16 w=>
 Drawn w fun w=>
 pU π (fieldAt 39 t1 7) fun t17=>
 rD π (loadAt 27 t17) w fun t18=>
 CallV π Z 39 #[t4,(.int .u8 118)] w fun t19 w=>
 Still π (nx (loadAt 27 t17)) t18 w <|
 CallV π Z 40 #[t18,t19] w fun t20 w=>
 rN π Z (eqOp .eql 9 false true t4 (.string { data:=#[] })) w fun t21 w=>
 gW (t21) false (fun k=>k (t8) w) (fun t22 w=>
 gW (t21) false (fun k=>rN π Z (Op.unary .not t22) w k) (fun t23 w=>
 rN π Z (pickV t21 (.bool true) t23) w fun t24 w=>
 gW (t24) false (fun k=>k (t12) w) (fun t25 w=>
 gW (t24) false (fun k=>rN π Z (Op.unary .not t25) w k) (fun t26 w=>
 rN π Z (pickV t24 (.bool true) t26) w fun t27 w=>
 gW (t27) false (fun k=>k (t16) w) (fun t28 w=>
 gW (t27) false (fun k=>rN π Z (Op.unary .not t28) w k) (fun t29 w=>
 rN π Z (pickV t27 (.bool true) t29) w fun t30 w=>
 gW (t30) false (fun k=>k (t20) w) (fun t31 w=>
 gW (t30) false (fun k=>rN π Z (Op.unary .not t31) w k) (fun t32 w=>
 rN π Z (pickV t30 (.bool true) t32) w fun t33 w=>
 gW (t33) false (fun k=>rN π Z (fieldAt 39 t1 3) w k) (fun t34 w=>
 gW (t33) false (fun k=>rN π Z (loadAt 2 t34) w k) (fun t35 w=>
 gW (t33) false (fun k=>rN π Z (binOp .lss 2 t35 (.int .i64 0)) w k) (fun t36 w=>
 rN π Z (pickV t33 (.bool true) t36) w fun t37 w=>
 gW (t37) false (fun k=>rN π Z (fieldAt 39 t1 3) w k) (fun t38 w=>
 gW (t37) false (fun k=>rN π Z (loadAt 2 t38) w k) (fun t39 w=>
 gW (t37) false (fun k=>rN π Z (binOp .gtr 2 t39 (.int .i64 0)) w k) (fun t40 w=>
 gW (t37) false (fun k=>k (t40) w) (fun t41 w=>
 gW (t41) true (fun k=>k (t4) w) (fun t42 w=>
 gW (t41) true (fun k=>CallV π Z 39 #[t42,(.int .u8 112)] w k) (fun t43 w=>
 gW (t41) true (fun k=>rN π Z (Op.unary .not t43) w k) (fun t44 w=>
 gW (t37) false (fun k=>rN π Z (pickV t41 t44 (.bool false)) w k) (fun t45 w=>
 rN π Z (pickV t37 (.bool true) t45) w fun t46 w=>
 cV t46 (
 Q (.int .i64 150) w) (
 ∀j_47:PQ,(∀t48:Value,∀w:World,(Env →
 ∀j_49:Value→PQ,(∀t50:Value,∀t51:Value,∀w:World,(Env →
 rN π Z (fieldAt 39 t1 4) w fun t52 w=>
 rN π Z (loadAt 23 t52) w fun t53 w=>
 rN π Z (binOp .lss 23 t53 t50) w fun t54 w=>
 gW (t54) false (fun k=>rN π Z (fieldAt 39 t1 4) w k) (fun t55 w=>
 gW (t54) false (fun k=>rN π Z (loadAt 23 t55) w k) (fun t56 w=>
 gW (t54) false (fun k=>k (t51) w) (fun t57 w=>
 gW (t54) false (fun k=>rN π Z (binOp .gtr 23 t56 t57) w k) (fun t58 w=>
 rN π Z (pickV t54 (.bool true) t58) w fun t59 w=>
 gW (t59) false (fun k=>rN π Z (fieldAt 39 t1 5) w k) (fun t60 w=>
 gW (t59) false (fun k=>rN π Z (loadAt 23 t60) w k) (fun t61 w=>
 gW (t59) false (fun k=>rN π Z (binOp .gtr 23 t61 (.int .u32 2147483647)) w k) (fun t62 w=>
 rN π Z (pickV t59 (.bool true) t62) w fun t63 w=>
 gW (t63) false (fun k=>rN π Z (fieldAt 39 t1 5) w k) (fun t64 w=>
 gW (t63) false (fun k=>rN π Z (loadAt 23 t64) w k) (fun t65 w=>
 gW (t63) false (fun k=>rN π Z (binOp .gtr 23 t65 (.int .u32 0)) w k) (fun t66 w=>
 gW (t63) false (fun k=>k (t66) w) (fun t67 w=>
 gW (t67) true (fun k=>k (t4) w) (fun t68 w=>
 gW (t67) true (fun k=>CallV π Z 39 #[t68,(.int .u8 117)] w k) (fun t69 w=>
 gW (t67) true (fun k=>rN π Z (Op.unary .not t69) w k) (fun t70 w=>
 gW (t63) false (fun k=>rN π Z (pickV t67 t70 (.bool false)) w k) (fun t71 w=>
 rN π Z (pickV t63 (.bool true) t71) w fun t72 w=>
 gW (t72) false (fun k=>rN π Z (fieldAt 39 t1 8) w k) (fun t73 w=>
 gW (t72) false (fun k=>rN π Z (loadAt 4 t73) w k) (fun t74 w=>
 gW (t72) false (fun k=>k (t74) w) (fun t75 w=>
 gW (t75) true (fun k=>k (t4) w) (fun t76 w=>
 gW (t75) true (fun k=>CallV π Z 39 #[t76,(.int .u8 111)] w k) (fun t77 w=>
 gW (t75) true (fun k=>rN π Z (Op.unary .not t77) w k) (fun t78 w=>
 gW (t72) false (fun k=>rN π Z (pickV t75 t78 (.bool false)) w k) (fun t79 w=>
 rN π Z (pickV t72 (.bool true) t79) w fun t80 w=>
 gW (t80) false (fun k=>rN π Z (fieldAt 39 t1 9) w k) (fun t81 w=>
 gW (t80) false (fun k=>rN π Z (loadAt 4 t81) w k) (fun t82 w=>
 gW (t80) false (fun k=>k (t82) w) (fun t83 w=>
 gW (t83) true (fun k=>k (t4) w) (fun t84 w=>
 gW (t83) true (fun k=>CallV π Z 39 #[t84,(.int .u8 102)] w k) (fun t85 w=>
 gW (t83) true (fun k=>rN π Z (Op.unary .not t85) w k) (fun t86 w=>
 gW (t80) false (fun k=>rN π Z (pickV t83 t86 (.bool false)) w k) (fun t87 w=>
 rN π Z (pickV t80 (.bool true) t87) w fun t88 w=>
 cV t88 (
 Q (.int .i64 150) w) (
 Drawn w fun w=>
 pU π (fieldAt 39 t1 12) fun t89=>
 rD π (loadAt 2 t89) w fun t90=>
 pU π (eqOp .neq 2 false true t90 (.int .i64 0)) fun t91=>
 CallV π Z 39 #[t4,(.int .u8 115)] w fun t92 w=>
 Still π (nx (loadAt 2 t89)) t90 w <|
 pU π (eqOp .neq 4 false false t92 t91) fun t93=>
 guardV (t93) false (fun k=>pU π (fieldAt 39 t1 12) k) (fun t94=>
 guardV (t93) false (fun k=>rD π (loadAt 2 t94) w k) (fun t95=>
 guardV (t93) false (fun k=>pU π (binOp .lss 2 t95 (.int .i64 0)) k) (fun t96=>
 pU π (pickV t93 (.bool true) t96) fun t97=>
 guardV (t97) false (fun k=>k (t4)) (fun t98=>
 guardV (t97) false (fun k=>pU π (fieldAt 39 t1 11) k) (fun t99=>
 guardV (t97) false (fun k=>rD π (loadAt 30 t99) w k) (fun t100=>
 guardV (t97) false (fun k=>pU π (Builtin.len_ #[30] 3 #[t100]) k) (fun t101=>
 guardV (t97) false (fun k=>pU π (binOp .gtr 3 t101 (.int .i64 0)) k) (fun t102=>
 gW (t97) false (fun k=>CallV π Z 39 #[t98,(.int .u8 98)] w k) (fun t103 w=>
 Still π (gSem (t97) false (nx (loadAt 30 t99))) t100 w <|
 Still π (gSem (t93) false (nx (loadAt 2 t94))) t95 w <|
 Still π (nx (loadAt 2 t89)) t90 w <|
 guardV (t97) false (fun k=>pU π (eqOp .neq 4 false false t103 t102) k) (fun t104=>
 pU π (pickV t97 (.bool true) t104) fun t105=>
 guardV (t105) false (fun k=>pU π (fieldAt 39 t1 11) k) (fun t106=>
 guardV (t105) false (fun k=>rD π (loadAt 30 t106) w k) (fun t107=>
 guardV (t105) false (fun k=>pU π (Builtin.len_ #[30] 3 #[t107]) k) (fun t108=>
 guardV (t105) false (fun k=>pU π (binOp .gtr 3 t108 (.int .i64 4096)) k) (fun t109=>
 pU π (pickV t105 (.bool true) t109) fun t110=>
 cV t110 (
 Q (.int .i64 150) w) (
 rN π Z (fieldAt 39 t1 0) w fun t111 w=>
 rN π Z (loadAt 22 t111) w fun t112 w=>
 rN π Z (eqOp .eql 22 false true t112 (.int .i8 11)) w fun t113 w=>
 gW (t113) false (fun k=>rN π Z (fieldAt 39 t1 0) w k) (fun t114 w=>
 gW (t113) false (fun k=>rN π Z (loadAt 22 t114) w k) (fun t115 w=>
 gW (t113) false (fun k=>rN π Z (eqOp .eql 22 false true t115 (.int .i8 12)) w k) (fun t116 w=>
 rN π Z (pickV t113 (.bool true) t116) w fun t117 w=>
 gW (t117) true (fun k=>rN π Z (fieldAt 39 t1 6) w k) (fun t118 w=>
 gW (t117) true (fun k=>rN π Z (fieldAt 27 t118 1) w k) (fun t119 w=>
 gW (t117) true (fun k=>rN π Z (loadAt 23 t119) w k) (fun t120 w=>
 gW (t117) true (fun k=>rN π Z (eqOp .eql 23 false true t120 (.int .u32 0)) w k) (fun t121 w=>
 rN π Z (pickV t117 t121 (.bool false)) w fun t122 w=>
 cV t122 (
 Q (.int .i64 150) w) (
 CallV π Z 39 #[t4,(.int .u8 116)] w fun t123 w=>
 rN π Z (Op.unary .not t123) w fun t124 w=>
 cV t124 (
 rN π Z (fieldAt 39 t1 10) w fun t125 w=>
 rN π Z (loadAt 37 t125) w fun t126 w=>
 rN π Z (Instr.build 37 #[]) w fun t127 w=>
 CallV π Z 41 #[t126,t127] w fun t128 w=>
 rN π Z (Op.unary .not t128) w fun t129 w=>
 cV t129 (
 Q (.int .i64 150) w) (
 Q (.int .i64 0) w)) (
 rN π Z (fieldAt 39 t1 10) w fun t130 w=>
 rN π Z (loadAt 37 t130) w fun t131 w=>
 CallV π Z 42 #[t131] w fun t132 w=>
 rN π Z (fieldAt 39 t1 10) w fun t133 w=>
 rN π Z (fieldAt 37 t133 0) w fun t134 w=>
 rN π Z (loadAt 27 t134) w fun t135 w=>
 rN π Z (fieldAt 39 t1 7) w fun t136 w=>
 rN π Z (loadAt 27 t136) w fun t137 w=>
 CallV π Z 43 #[t135,t137] w fun t138 w=>
 rN π Z (binOp .gtr 3 t138 (.int .i64 0)) w fun t139 w=>
 rN π Z (eqOp .neq 43 false true t132 (.int .i64 0)) w fun t140 w=>
 gW (t140) false (fun k=>rN π Z (fieldAt 39 t1 0) w k) (fun t141 w=>
 gW (t140) false (fun k=>rN π Z (loadAt 22 t141) w k) (fun t142 w=>
 gW (t140) false (fun k=>rN π Z (eqOp .neq 22 false true t142 (.int .i8 13)) w k) (fun t143 w=>
 gW (t140) false (fun k=>k (t143) w) (fun t144 w=>
 gW (t144) true (fun k=>k (t139) w) (fun t145 w=>
 gW (t144) true (fun k=>rN π Z (Op.unary .not t145) w k) (fun t146 w=>
 gW (t140) false (fun k=>rN π Z (pickV t144 t146 (.bool false)) w k) (fun t147 w=>
 rN π Z (pickV t140 (.bool true) t147) w fun t148 w=>
 gW (t148) false (fun k=>rN π Z (fieldAt 39 t1 0) w k) (fun t149 w=>
 gW (t148) false (fun k=>rN π Z (loadAt 22 t149) w k) (fun t150 w=>
 gW (t148) false (fun k=>rN π Z (eqOp .eql 22 false true t150 (.int .i8 13)) w k) (fun t151 w=>
 gW (t148) false (fun k=>k (t151) w) (fun t152 w=>
 gW (t152) true (fun k=>rN π Z (fieldAt 39 t1 10) w k) (fun t153 w=>
 gW (t152) true (fun k=>rN π Z (fieldAt 37 t153 0) w k) (fun t154 w=>
 gW (t152) true (fun k=>rN π Z (fieldAt 27 t154 1) w k) (fun t155 w=>
 gW (t152) true (fun k=>rN π Z (loadAt 23 t155) w k) (fun t156 w=>
 gW (t152) true (fun k=>rN π Z (eqOp .neq 23 false true t156 (.int .u32 0)) w k) (fun t157 w=>
 gW (t152) true (fun k=>k (t157) w) (fun t158 w=>
 gW (t158) false (fun k=>rN π Z (fieldAt 39 t1 10) w k) (fun t159 w=>
 gW (t158) false (fun k=>rN π Z (fieldAt 37 t159 1) w k) (fun t160 w=>
 gW (t158) false (fun k=>rN π Z (fieldAt 29 t160 2) w k) (fun t161 w=>
 gW (t158) false (fun k=>rN π Z (loadAt 2 t161) w k) (fun t162 w=>
 gW (t158) false (fun k=>rN π Z (binOp .lss 2 t162 (.int .i64 1)) w k) (fun t163 w=>
 gW (t152) true (fun k=>rN π Z (pickV t158 (.bool true) t163) w k) (fun t164 w=>
 gW (t148) false (fun k=>rN π Z (pickV t152 t164 (.bool false)) w k) (fun t165 w=>
 rN π Z (pickV t148 (.bool true) t165) w fun t166 w=>
 cV t166 (
 Q (.int .i64 150) w) (
 Q (.int .i64 0) w)) w) w) w) w) w) w) w) w) w) w) w) w) w) w) w) w) w) w) w) w) w) w) w) w))) w) w) w) w) w) w) w))))))) w)))))))))) w) w) w) w) w) w) w) w) w) w) w) w) w) w) w) w) w) w) w) w) w) w) w) w) w) w) w) w) w) →
 j_49 t50 t51 w) →
 CallV π Z 39 #[t4,(.int .u8 101)] w fun t167 w=>
 rN π Z (Op.unary .not t167) w fun t168 w=>
 cV t168 (
 j_49 (.int .u32 0) (.int .u32 0) w) (
 j_49 t48 (.int .u32 2147483647) w)) →
 j_47 t48 w) →
 rN π Z (fieldAt 39 t1 0) w fun t169 w=>
 rN π Z (loadAt 22 t169) w fun t170 w=>
 rN π Z (eqOp .eql 22 false true t170 (.int .i8 1)) w fun t171 w=>
 cV t171 (
 j_47 (.int .u32 0) w) (
 j_47 (.int .u32 1) w))) w) w) w) w) w) w) w) w) w) w) w) w) w) w) w) w) w) w) w
def f13.an:An:=(.q (.q (.sq (.dr (pl [0,5,8,14,18,20] .fin)) (.sq (.dr (pl [0,5,8,14,18,20] .fin)) (.sq (.dr (pl [0,5,8,14,18,20] .fin)) (.sq (.dr (pl [0,5,8,14,18,20] .fin)) (.sq (.q (.cn (.sq .leaf .leaf) .leaf)) (.q (.q (.sj [8] (.q (.c)) (.sj [8,9] (.q (.cn (.sq .leaf .leaf) .leaf)) (.sq (.q (.cn (.sq .leaf .leaf) .leaf)) (.sq (.sq (.dr (pl [0,8,13,16,6,20,24,28,33,36,40,44,48,56,61,64,68,54,72,76,80,84,89,92,96,100] .fin)) (.cn (.sq .leaf .leaf) .leaf)) (.sq (.q (.cn (.sq .leaf .leaf) .leaf)) (.sq (.q (.cn (.q (.sq (.q (.cn (.sq .leaf .leaf) .leaf)) (.sq .leaf .leaf))) .leaf)) (.q (.q (.sq (.q (.cn (.sq .leaf .leaf) .leaf)) (.sq .leaf .leaf)))))))))))))))))))
theorem f13.calls {Z:PZ} {x0:Value} {w:World} {Q:PQ} (h:f13.sh Z x0 w Q):CallV π Z 13 #[x0] w Q:=
 cl Tryz.func13 f13.an [x0] (by kernel_rfl) (by kernel_rfl) h

def f14.sh (Z:PZ) (x0 x1:Value) (w:World) (Q:PQ):Prop:=
 rN π Z (Builtin.len_ #[30] 3 #[x0]) w fun t1 w=>
 rN π Z (Builtin.len_ #[30] 3 #[x1]) w fun t2 w=>
 rN π Z (eqOp .neq 3 false false t1 t2) w fun t3 w=>
 cV t3 (
 Q (.bool false) w) (
 ∃J_4:Nat→PQ,(∃m,J_4 m (.int .i64 0) w) ∧
 ∀m_4,∀t5:Value,∀w:World,J_4 m_4 t5 w→Env →
 rN π Z (Builtin.len_ #[30] 3 #[x0]) w fun t6 w=>
 rN π Z (binOp .lss 3 t5 t6) w fun t7 w=>
 cV t7 (
 Drawn w fun w=>
 pU π (indexAt 30 x0 t5) fun t8=>
 rD π (loadAt 5 t8) w fun t9=>
 pU π (indexAt 30 x1 t5) fun t10=>
 rD π (loadAt 5 t10) w fun t11=>
 pU π (eqOp .neq 5 false false t9 t11) fun t12=>
 cV t12 (
 Q (.bool false) w) (
 rN π Z (binOp .add 3 t5 (.int .i64 1)) w fun t13 w=>
 ∃n_4,n_4 < m_4∧J_4 n_4 t13 w)) (
 Q (.bool true) w))
def f14.an:An:=(.q (.sq (.q (.cn (.sq .leaf .leaf) .leaf)) (.sq (.q (.bl (.lp [5] (.sq (.q (.c)) (.sq (.bl (.sq (.dr (pl [0,4,8,13,16,20,24,29,32] .fin)) (.cn (.sq .leaf .leaf) .leaf))) .leaf))))) (.sq .leaf .leaf))))
theorem f14.calls {Z:PZ} {x0 x1:Value} {w:World} {Q:PQ} (h:f14.sh Z x0 x1 w Q):CallV π Z 14 #[x0,x1] w Q:=
 cl Tryz.func14 f14.an [x0,x1] (by kernel_rfl) (by kernel_rfl) h

def f15.sh (Z:PZ) (x0 x1:Value) (w:World) (Q:PQ):Prop:=
 rN π Z (Instr.box 39 x0) w fun t1 w=>
 rN π Z (Instr.box 39 x1) w fun t2 w=>
 rN π Z (fieldAt 39 t1 0) w fun t3 w=>
 rN π Z (loadAt 22 t3) w fun t4 w=>
 rN π Z (fieldAt 39 t2 0) w fun t5 w=>
 rN π Z (loadAt 22 t5) w fun t6 w=>
 rN π Z (eqOp .neq 22 false false t4 t6) w fun t7 w=>
 gW (t7) false (fun k=>rN π Z (fieldAt 39 t1 1) w k) (fun t8 w=>
 gW (t7) false (fun k=>rN π Z (loadAt 25 t8) w k) (fun t9 w=>
 gW (t7) false (fun k=>rN π Z (fieldAt 39 t2 1) w k) (fun t10 w=>
 gW (t7) false (fun k=>rN π Z (loadAt 25 t10) w k) (fun t11 w=>
 gW (t7) false (fun k=>rN π Z (eqOp .neq 25 false false t9 t11) w k) (fun t12 w=>
 rN π Z (pickV t7 (.bool true) t12) w fun t13 w=>
 gW (t13) false (fun k=>rN π Z (fieldAt 39 t1 2) w k) (fun t14 w=>
 gW (t13) false (fun k=>rN π Z (loadAt 25 t14) w k) (fun t15 w=>
 gW (t13) false (fun k=>rN π Z (fieldAt 39 t2 2) w k) (fun t16 w=>
 gW (t13) false (fun k=>rN π Z (loadAt 25 t16) w k) (fun t17 w=>
 gW (t13) false (fun k=>rN π Z (eqOp .neq 25 false false t15 t17) w k) (fun t18 w=>
 rN π Z (pickV t13 (.bool true) t18) w fun t19 w=>
 gW (t19) false (fun k=>rN π Z (fieldAt 39 t1 3) w k) (fun t20 w=>
 gW (t19) false (fun k=>rN π Z (loadAt 2 t20) w k) (fun t21 w=>
 gW (t19) false (fun k=>rN π Z (fieldAt 39 t2 3) w k) (fun t22 w=>
 gW (t19) false (fun k=>rN π Z (loadAt 2 t22) w k) (fun t23 w=>
 gW (t19) false (fun k=>rN π Z (eqOp .neq 2 false false t21 t23) w k) (fun t24 w=>
 rN π Z (pickV t19 (.bool true) t24) w fun t25 w=>
 gW (t25) false (fun k=>rN π Z (fieldAt 39 t1 4) w k) (fun t26 w=>
 gW (t25) false (fun k=>rN π Z (loadAt 23 t26) w k) (fun t27 w=>
 gW (t25) false (fun k=>rN π Z (fieldAt 39 t2 4) w k) (fun t28 w=>
 gW (t25) false (fun k=>rN π Z (loadAt 23 t28) w k) (fun t29 w=>
 gW (t25) false (fun k=>rN π Z (eqOp .neq 23 false false t27 t29) w k) (fun t30 w=>
 rN π Z (pickV t25 (.bool true) t30) w fun t31 w=>
 gW (t31) false (fun k=>rN π Z (fieldAt 39 t1 5) w k) (fun t32 w=>
 gW (t31) false (fun k=>rN π Z (loadAt 23 t32) w k) (fun t33 w=>
 gW (t31) false (fun k=>rN π Z (fieldAt 39 t2 5) w k) (fun t34 w=>
 gW (t31) false (fun k=>rN π Z (loadAt 23 t34) w k) (fun t35 w=>
 gW (t31) false (fun k=>rN π Z (eqOp .neq 23 false false t33 t35) w k) (fun t36 w=>
 rN π Z (pickV t31 (.bool true) t36) w fun t37 w=>
 gW (t37) false (fun k=>rN π Z (fieldAt 39 t1 6) w k) (fun t38 w=>
 gW (t37) false (fun k=>rN π Z (loadAt 27 t38) w k) (fun t39 w=>
 gW (t37) false (fun k=>rN π Z (fieldAt 39 t2 6) w k) (fun t40 w=>
 gW (t37) false (fun k=>rN π Z (loadAt 27 t40) w k) (fun t41 w=>
 gW (t37) false (fun k=>rN π Z (eqOp .neq 27 false false t39 t41) w k) (fun t42 w=>
 rN π Z (pickV t37 (.bool true) t42) w fun t43 w=>
 gW (t43) false (fun k=>rN π Z (fieldAt 39 t1 7) w k) (fun t44 w=>
 gW (t43) false (fun k=>rN π Z (loadAt 27 t44) w k) (fun t45 w=>
 gW (t43) false (fun k=>rN π Z (fieldAt 39 t2 7) w k) (fun t46 w=>
 gW (t43) false (fun k=>rN π Z (loadAt 27 t46) w k) (fun t47 w=>
 gW (t43) false (fun k=>rN π Z (eqOp .neq 27 false false t45 t47) w k) (fun t48 w=>
 rN π Z (pickV t43 (.bool true) t48) w fun t49 w=>
 cV t49 (
 Q (.bool false) w) (
 rN π Z (fieldAt 39 t1 8) w fun t50 w=>
 rN π Z (loadAt 4 t50) w fun t51 w=>
 rN π Z (fieldAt 39 t2 8) w fun t52 w=>
 rN π Z (loadAt 4 t52) w fun t53 w=>
 rN π Z (eqOp .eql 4 false false t51 t53) w fun t54 w=>
 gW (t54) true (fun k=>rN π Z (fieldAt 39 t1 9) w k) (fun t55 w=>
 gW (t54) true (fun k=>rN π Z (loadAt 4 t55) w k) (fun t56 w=>
 gW (t54) true (fun k=>rN π Z (fieldAt 39 t2 9) w k) (fun t57 w=>
 gW (t54) true (fun k=>rN π Z (loadAt 4 t57) w k) (fun t58 w=>
 gW (t54) true (fun k=>rN π Z (eqOp .eql 4 false false t56 t58) w k) (fun t59 w=>
 rN π Z (pickV t54 t59 (.bool false)) w fun t60 w=>
 gW (t60) true (fun k=>rN π Z (fieldAt 39 t1 12) w k) (fun t61 w=>
 gW (t60) true (fun k=>rN π Z (loadAt 2 t61) w k) (fun t62 w=>
 gW (t60) true (fun k=>rN π Z (fieldAt 39 t2 12) w k) (fun t63 w=>
 gW (t60) true (fun k=>rN π Z (loadAt 2 t63) w k) (fun t64 w=>
 gW (t60) true (fun k=>rN π Z (eqOp .eql 2 false false t62 t64) w k) (fun t65 w=>
 rN π Z (pickV t60 t65 (.bool false)) w fun t66 w=>
 gW (t66) true (fun k=>rN π Z (fieldAt 39 t1 10) w k) (fun t67 w=>
 gW (t66) true (fun k=>rN π Z (loadAt 37 t67) w k) (fun t68 w=>
 gW (t66) true (fun k=>rN π Z (fieldAt 39 t2 10) w k) (fun t69 w=>
 gW (t66) true (fun k=>rN π Z (loadAt 37 t69) w k) (fun t70 w=>
 gW (t66) true (fun k=>CallV π Z 41 #[t68,t70] w k) (fun t71 w=>
 rN π Z (pickV t66 t71 (.bool false)) w fun t72 w=>
 gW (t72) true (fun k=>rN π Z (fieldAt 39 t1 11) w k) (fun t73 w=>
 gW (t72) true (fun k=>rN π Z (loadAt 30 t73) w k) (fun t74 w=>
 gW (t72) true (fun k=>rN π Z (fieldAt 39 t2 11) w k) (fun t75 w=>
 gW (t72) true (fun k=>rN π Z (loadAt 30 t75) w k) (fun t76 w=>
 gW (t72) true (fun k=>CallV π Z 14 #[t74,t76] w k) (fun t77 w=>
 rN π Z (pickV t72 t77 (.bool false)) w fun t78 w=>
 Q t78 w) w) w) w) w) w) w) w) w) w) w) w) w) w) w) w) w) w) w) w) w)) w) w) w) w) w) w) w) w) w) w) w) w) w) w) w) w) w) w) w) w) w) w) w) w) w) w) w) w) w) w) w) w) w) w) w
def f15.an:An:=(.q (.sq (.q (.cn (.sq .leaf .leaf) .leaf)) (.sq .leaf .leaf)))
theorem f15.calls {Z:PZ} {x0 x1:Value} {w:World} {Q:PQ} (h:f15.sh Z x0 x1 w Q):CallV π Z 15 #[x0,x1] w Q:=
 cl Tryz.func15 f15.an [x0,x1] (by kernel_rfl) (by kernel_rfl) h

def f16.sh (Z:PZ) (x0:Value) (w:World) (Q:PQ):Prop:=
 rN π Z (Instr.box 39 x0) w fun t1 w=>
 rN π Z (fieldAt 39 t1 11) w fun t2 w=>
 rN π Z (loadAt 30 t2) w fun t3 w=>
 CallV π Z 44 #[t3] w fun t4 w=>
 gW (t4) true (fun k=>rN π Z (fieldAt 39 t1 10) w k) (fun t5 w=>
 gW (t4) true (fun k=>rN π Z (fieldAt 37 t5 2) w k) (fun t6 w=>
 gW (t4) true (fun k=>rN π Z (loadAt 35 t6) w k) (fun t7 w=>
 gW (t4) true (fun k=>CallV π Z 45 #[t7] w k) (fun t8 w=>
 rN π Z (pickV t4 t8 (.bool false)) w fun t9 w=>
 Q t9 w) w) w) w) w
def f16.an:An:=(.q (.sq .leaf .leaf))
theorem f16.calls {Z:PZ} {x0:Value} {w:World} {Q:PQ} (h:f16.sh Z x0 w Q):CallV π Z 16 #[x0] w Q:=
 cl Tryz.func16 f16.an [x0] (by kernel_rfl) (by kernel_rfl) h

def f17.sh (Z:PZ) (x0:Value) (w:World) (Q:PQ):Prop:=
 rN π Z (Instr.box 39 x0) w fun t1 w=>
 rN π Z (Instr.alloc 39 true (.tuple #[])) w fun t2 w=>
 rN π Z (fieldAt 39 t1 10) w fun t3 w=>
 rN π Z (loadAt 37 t3) w fun t4 w=>
 CallV π Z 46 #[t4] w fun t5 w=>
 rN π Z (fieldAt 39 t1 10) w fun t6 w=>
 rO π Z (storeAt 37 t6 t5) w fun w=>
 rN π Z (fieldAt 39 t1 11) w fun t7 w=>
 rN π Z (loadAt 30 t7) w fun t8 w=>
 CallV π Z 24 #[t8] w fun t9 w=>
 rN π Z (fieldAt 39 t1 11) w fun t10 w=>
 rO π Z (storeAt 30 t10 t9) w fun w=>
 rN π Z (loadAt 39 t1) w fun t11 w=>
 rO π Z (storeAt 39 t2 t11) w fun w=>
 ∃r_12,(do loadVar 39 (← asAddr t2):Sem Value).run π w=.ok r_12 w ∧
 Q r_12 w
def f17.an:An:=(.q (.q (.q (.sq .leaf .leaf))))
theorem f17.calls {Z:PZ} {x0:Value} {w:World} {Q:PQ} (h:f17.sh Z x0 w Q):CallV π Z 17 #[x0] w Q:=
 cl Tryz.func17 f17.an [x0] (by kernel_rfl) (by kernel_rfl) h

def f18.sh (Z:PZ) (x0 x1:Value) (w:World) (Q:PQ):Prop:=
 runX π Z (nilChk x0) w fun t1 w=>
 rN π Z (fieldAt 72 t1 0) w fun t2 w=>
 rN π Z (loadAt 50 t2) w fun t3 w=>
 rN π Z (Builtin.len_ #[50] 3 #[t3]) w fun t4 w=>
 rN π Z (binOp .lss 3 t4 (.int .i64 600)) w fun t5 w=>
 cV t5 (
 runX π Z (nilChk x0) w fun t6 w=>
 rN π Z (fieldAt 72 t6 0) w fun t7 w=>
 rN π Z (loadAt 50 t7) w fun t8 w=>
 rN π Z (Instr.buildSlice 50 1 #[(0,x1)]) w fun t9 w=>
 rN π Z (Builtin.append_ #[50,50] 50 #[t8,t9]) w fun t10 w=>
 runX π Z (nilChk x0) w fun t11 w=>
 rN π Z (fieldAt 72 t11 0) w fun t12 w=>
 rO π Z (storeAt 50 t12 t10) w fun w=>
 Q (Value.tuple #[]) w) (
 Q (Value.tuple #[]) w)
def f18.an:An:=(.q (.c))
theorem f18.calls {Z:PZ} {x0 x1:Value} {w:World} {Q:PQ} (h:f18.sh Z x0 x1 w Q):CallV π Z 18 #[x0,x1] w Q:=
 cl Tryz.func18 f18.an [x0,x1] (by kernel_rfl) (by kernel_rfl) h

def f19.sh (Z:PZ) (x0 x1:Value) (w:World) (Q:PQ):Prop:=
 rN π Z (Instr.box 39 x1) w fun t1 w=>
 rN π Z (fieldAt 39 t1 11) w fun t2 w=>
 rN π Z (loadAt 30 t2) w fun t3 w=>
 CallV π Z 18 #[x0,t3] w fun t4 w=>
 rN π Z (fieldAt 39 t1 10) w fun t5 w=>
 rN π Z (fieldAt 37 t5 2) w fun t6 w=>
 rN π Z (loadAt 35 t6) w fun t7 w=>
 CallV π Z 47 #[x0,t7] w fun t8 w=>
 Q (Value.tuple #[]) w
def f19.an:An:=(.q (.sq .leaf .leaf))
theorem f19.calls {Z:PZ} {x0 x1:Value} {w:World} {Q:PQ} (h:f19.sh Z x0 x1 w Q):CallV π Z 19 #[x0,x1] w Q:=
 cl Tryz.func19 f19.an [x0,x1] (by kernel_rfl) (by kernel_rfl) h

def f20.sh (Z:PZ) (x0:Value) (w:World) (Q:PQ):Prop:=
 runX π Z (nilChk x0) w fun t1 w=>
 rN π Z (fieldAt 72 t1 0) w fun t2 w=>
 rN π Z (loadAt 50 t2) w fun t3 w=>
 CallV π Z 48 #[t3] w fun t4 w=>
 runX π Z (nilChk x0) w fun t5 w=>
 rN π Z (fieldAt 72 t5 1) w fun t6 w=>
 rN π Z (loadAt 51 t6) w fun t7 w=>
 CallV π Z 49 #[t7] w fun t8 w=>
 runX π Z (nilChk x0) w fun t9 w=>
 rN π Z (fieldAt 72 t9 2) w fun t10 w=>
 rN π Z (loadAt 52 t10) w fun t11 w=>
 CallV π Z 50 #[t11] w fun t12 w=>
 runX π Z (nilChk x0) w fun t13 w=>
 rN π Z (fieldAt 72 t13 3) w fun t14 w=>
 rN π Z (loadAt 53 t14) w fun t15 w=>
 CallV π Z 51 #[t15] w fun t16 w=>
 runX π Z (nilChk x0) w fun t17 w=>
 rN π Z (fieldAt 72 t17 4) w fun t18 w=>
 rN π Z (loadAt 54 t18) w fun t19 w=>
 CallV π Z 52 #[t19] w fun t20 w=>
 runX π Z (nilChk x0) w fun t21 w=>
 rN π Z (fieldAt 72 t21 5) w fun t22 w=>
 rN π Z (loadAt 55 t22) w fun t23 w=>
 CallV π Z 53 #[t23] w fun t24 w=>
 runX π Z (nilChk x0) w fun t25 w=>
 rN π Z (fieldAt 72 t25 6) w fun t26 w=>
 rN π Z (loadAt 56 t26) w fun t27 w=>
 CallV π Z 54 #[t27] w fun t28 w=>
 runX π Z (nilChk x0) w fun t29 w=>
 rN π Z (fieldAt 72 t29 7) w fun t30 w=>
 rN π Z (loadAt 57 t30) w fun t31 w=>
 CallV π Z 55 #[t31] w fun t32 w=>
 runX π Z (nilChk x0) w fun t33 w=>
 rN π Z (fieldAt 72 t33 8) w fun t34 w=>
 rN π Z (loadAt 58 t34) w fun t35 w=>
 CallV π Z 56 #[t35] w fun t36 w=>
 runX π Z (nilChk x0) w fun t37 w=>
 rN π Z (fieldAt 72 t37 9) w fun t38 w=>
 rN π Z (loadAt 59 t38) w fun t39 w=>
 CallV π Z 57 #[t39] w fun t40 w=>
 runX π Z (nilChk x0) w fun t41 w=>
 rN π Z (fieldAt 72 t41 10) w fun t42 w=>
 rN π Z (loadAt 60 t42) w fun t43 w=>
 CallV π Z 58 #[t43] w fun t44 w=>
 runX π Z (nilChk x0) w fun t45 w=>
 rN π Z (fieldAt 72 t45 11) w fun t46 w=>
 rN π Z (loadAt 61 t46) w fun t47 w=>
 CallV π Z 59 #[t47] w fun t48 w=>
 runX π Z (nilChk x0) w fun t49 w=>
 rN π Z (fieldAt 72 t49 12) w fun t50 w=>
 rN π Z (loadAt 62 t50) w fun t51 w=>
 CallV π Z 60 #[t51] w fun t52 w=>
 runX π Z (nilChk x0) w fun t53 w=>
 rN π Z (fieldAt 72 t53 13) w fun t54 w=>
 rN π Z (loadAt 63 t54) w fun t55 w=>
 CallV π Z 61 #[t55] w fun t56 w=>
 runX π Z (nilChk x0) w fun t57 w=>
 rN π Z (fieldAt 72 t57 14) w fun t58 w=>
 rN π Z (loadAt 64 t58) w fun t59 w=>
 CallV π Z 62 #[t59] w fun t60 w=>
 runX π Z (nilChk x0) w fun t61 w=>
 rN π Z (fieldAt 72 t61 15) w fun t62 w=>
 rN π Z (loadAt 65 t62) w fun t63 w=>
 CallV π Z 63 #[t63] w fun t64 w=>
 runX π Z (nilChk x0) w fun t65 w=>
 rN π Z (fieldAt 72 t65 16) w fun t66 w=>
 rN π Z (loadAt 66 t66) w fun t67 w=>
 CallV π Z 64 #[t67] w fun t68 w=>
 runX π Z (nilChk x0) w fun t69 w=>
 rN π Z (fieldAt 72 t69 17) w fun t70 w=>
 rN π Z (loadAt 67 t70) w fun t71 w=>
 CallV π Z 65 #[t71] w fun t72 w=>
 runX π Z (nilChk x0) w fun t73 w=>
 rN π Z (fieldAt 72 t73 18) w fun t74 w=>
 rN π Z (loadAt 68 t74) w fun t75 w=>
 CallV π Z 66 #[t75] w fun t76 w=>
 runX π Z (nilChk x0) w fun t77 w=>
 rN π Z (fieldAt 72 t77 19) w fun t78 w=>
 rN π Z (loadAt 69 t78) w fun t79 w=>
 CallV π Z 67 #[t79] w fun t80 w=>
 runX π Z (nilChk x0) w fun t81 w=>
 rN π Z (fieldAt 72 t81 20) w fun t82 w=>
 rN π Z (loadAt 70 t82) w fun t83 w=>
 CallV π Z 68 #[t83] w fun t84 w=>
 gW (t4) true (fun k=>k (t8) w) (fun t85 w=>
 rN π Z (pickV t4 t85 (.bool false)) w fun t86 w=>
 gW (t86) true (fun k=>k (t12) w) (fun t87 w=>
 rN π Z (pickV t86 t87 (.bool false)) w fun t88 w=>
 gW (t88) true (fun k=>k (t16) w) (fun t89 w=>
 rN π Z (pickV t88 t89 (.bool false)) w fun t90 w=>
 gW (t90) true (fun k=>k (t20) w) (fun t91 w=>
 rN π Z (pickV t90 t91 (.bool false)) w fun t92 w=>
 gW (t92) true (fun k=>k (t24) w) (fun t93 w=>
 rN π Z (pickV t92 t93 (.bool false)) w fun t94 w=>
 gW (t94) true (fun k=>k (t28) w) (fun t95 w=>
 rN π Z (pickV t94 t95 (.bool false)) w fun t96 w=>
 gW (t96) true (fun k=>k (t32) w) (fun t97 w=>
 rN π Z (pickV t96 t97 (.bool false)) w fun t98 w=>
 gW (t98) true (fun k=>k (t36) w) (fun t99 w=>
 rN π Z (pickV t98 t99 (.bool false)) w fun t100 w=>
 gW (t100) true (fun k=>k (t40) w) (fun t101 w=>
 rN π Z (pickV t100 t101 (.bool false)) w fun t102 w=>
 gW (t102) true (fun k=>k (t44) w) (fun t103 w=>
 rN π Z (pickV t102 t103 (.bool false)) w fun t104 w=>
 gW (t104) true (fun k=>k (t48) w) (fun t105 w=>
 rN π Z (pickV t104 t105 (.bool false)) w fun t106 w=>
 gW (t106) true (fun k=>k (t52) w) (fun t107 w=>
 rN π Z (pickV t106 t107 (.bool false)) w fun t108 w=>
 gW (t108) true (fun k=>k (t56) w) (fun t109 w=>
 rN π Z (pickV t108 t109 (.bool false)) w fun t110 w=>
 gW (t110) true (fun k=>k (t60) w) (fun t111 w=>
 rN π Z (pickV t110 t111 (.bool false)) w fun t112 w=>
 gW (t112) true (fun k=>k (t64) w) (fun t113 w=>
 rN π Z (pickV t112 t113 (.bool false)) w fun t114 w=>
 gW (t114) true (fun k=>k (t68) w) (fun t115 w=>
 rN π Z (pickV t114 t115 (.bool false)) w fun t116 w=>
 gW (t116) true (fun k=>k (t72) w) (fun t117 w=>
 rN π Z (pickV t116 t117 (.bool false)) w fun t118 w=>
 gW (t118) true (fun k=>k (t76) w) (fun t119 w=>
 rN π Z (pickV t118 t119 (.bool false)) w fun t120 w=>
 gW (t120) true (fun k=>k (t80) w) (fun t121 w=>
 rN π Z (pickV t120 t121 (.bool false)) w fun t122 w=>
 gW (t122) true (fun k=>k (t84) w) (fun t123 w=>
 rN π Z (pickV t122 t123 (.bool false)) w fun t124 w=>
 Q t124 w) w) w) w) w) w) w) w) w) w) w) w) w) w) w) w) w) w) w) w) w
def f20.an:An:=(.q (.q (.q (.q (.q (.q (.q (.q (.q (.q (.q (.q (.q (.q (.q (.q (.q (.q (.q (.q (.q (.q (.sq .leaf .leaf)))))))))))))))))))))))
theorem f20.calls {Z:PZ} {x0:Value} {w:World} {Q:PQ} (h:f20.sh Z x0 w Q):CallV π Z 20 #[x0] w Q:=
 cl Tryz.func20 f20.an [x0] (by kernel_rfl) (by kernel_rfl) h

def f22.sh (Z:PZ) (x0:Value) (w:World) (Q:PQ):Prop:=
 CallV π Z 71 #[x0] w fun t1 w=>
 CallV π Z 70 #[t1] w fun t2 w=>
 CallV π Z 72 #[t2,x0] w fun t3 w=>
 Q t3 w
def f22.an:An:=(.q (.q (.sq .leaf .leaf)))
theorem f22.calls {Z:PZ} {x0:Value} {w:World} {Q:PQ} (h:f22.sh Z x0 w Q):CallV π Z 22 #[x0] w Q:=
 cl Tryz.func22 f22.an [x0] (by kernel_rfl) (by kernel_rfl) h

def f24.sh (Z:PZ) (x0:Value) (w:World) (Q:PQ):Prop:=
 ∃J_1:Nat→Value→PQ,(∃m,J_1 m (.slice none 0 0) (.int .i64 0) w) ∧
 ∀m_1,∀t2:Value,∀t3:Value,∀w:World,J_1 m_1 t2 t3 w→Env →
 rN π Z (Builtin.len_ #[30] 3 #[x0]) w fun t4 w=>
 rN π Z (binOp .lss 3 t3 t4) w fun t5 w=>
 cV t5 (
 rN π Z (indexAt 30 x0 t3) w fun t6 w=>
 rN π Z (loadAt 5 t6) w fun t7 w=>
 rN π Z (Instr.buildSlice 30 1 #[(0,t7)]) w fun t8 w=>
 rN π Z (Builtin.append_ #[30,30] 30 #[t2,t8]) w fun t9 w=>
 rN π Z (binOp .add 3 t3 (.int .i64 1)) w fun t10 w=>
 ∃n_1,n_1 < m_1∧J_1 n_1 t9 t10 w) (
 Q t2 w)
def f24.an:An:=(.q (.q (.sq (.q (.bl (.lp [3,4] (.sq (.q (.c)) (.sq (.bl .leaf) .leaf))))) (.sq .leaf .leaf))))
theorem f24.calls {Z:PZ} {x0:Value} {w:World} {Q:PQ} (h:f24.sh Z x0 w Q):CallV π Z 24 #[x0] w Q:=
 cl Tryz.func24 f24.an [x0] (by kernel_rfl) (by kernel_rfl) h

def f25.sh (Z:PZ) (x0:Value) (w:World) (Q:PQ):Prop:=
 rN π Z (Instr.box 35 x0) w fun t1 w=>
 rN π Z (loadAt 35 t1) w fun t2 w=>
 CallV π Z 79 #[t2] w fun t3 w=>
 rN π Z (binOp .gtr 3 t3 (.int .i64 20000)) w fun t4 w=>
 Q t4 w
def f25.an:An:=(.q (.sq .leaf .leaf))
theorem f25.calls {Z:PZ} {x0:Value} {w:World} {Q:PQ} (h:f25.sh Z x0 w Q):CallV π Z 25 #[x0] w Q:=
 cl Tryz.func25 f25.an [x0] (by kernel_rfl) (by kernel_rfl) h

def f26.sh (Z:PZ) (x0:Value) (w:World) (Q:PQ):Prop:=
 rN π Z (Builtin.len_ #[30] 3 #[x0]) w fun t1 w=>
 rN π Z (binOp .add 3 t1 (.int .i64 64)) w fun t2 w=>
 rN π Z (Instr.makeSlice 30 t2 t2) w fun t3 w=>
 ∃J_4:Nat→PQ,(∃m,J_4 m (.int .i64 0) w) ∧
 ∀m_4,∀t5:Value,∀w:World,J_4 m_4 t5 w→Env →
 rN π Z (Builtin.len_ #[30] 3 #[t3]) w fun t6 w=>
 rN π Z (binOp .lss 3 t5 t6) w fun t7 w=>
 cV t7 (
 ∀j_8:World→Prop,(∀w:World,(Env →
 rN π Z (binOp .add 3 t5 (.int .i64 1)) w fun t9 w=>
 ∃n_4,n_4 < m_4∧J_4 n_4 t9 w) →
 j_8 w) →
 rN π Z (binOp .rem 3 t5 (.int .i64 5)) w fun t10 w=>
 rN π Z (binOp .add 3 (.int .i64 170) t10) w fun t11 w=>
 rN π Z (convert 3 5 t11) w fun t12 w=>
 rN π Z (indexAt 30 t3 t5) w fun t13 w=>
 rO π Z (storeAt 5 t13 t12) w fun w=>
 rN π Z (Builtin.len_ #[30] 3 #[x0]) w fun t14 w=>
 rN π Z (binOp .lss 3 t5 t14) w fun t15 w=>
 cV t15 (
 rN π Z (indexAt 30 x0 t5) w fun t16 w=>
 rN π Z (loadAt 5 t16) w fun t17 w=>
 rN π Z (indexAt 30 t3 t5) w fun t18 w=>
 rO π Z (storeAt 5 t18 t17) w fun w=>
 j_8 w) (
 j_8 w)) (
 rN π Z (Builtin.len_ #[30] 3 #[x0]) w fun t19 w=>
 rN π Z (Instr.sliceAt 30 t3 none (some t19) none) w fun t20 w=>
 Q t20 w)
def f26.an:An:=(.q (.q (.sq (.q (.bl (.lp [4] (.sq (.q (.c)) (.sj [] (.bl (.q (.q (.c)))) .leaf))))) (.sq .leaf .leaf))))
theorem f26.calls {Z:PZ} {x0:Value} {w:World} {Q:PQ} (h:f26.sh Z x0 w Q):CallV π Z 26 #[x0] w Q:=
 cl Tryz.func26 f26.an [x0] (by kernel_rfl) (by kernel_rfl) h

def f27.sh (Z:PZ) (x0:Value) (w:World) (Q:PQ):Prop:=
 rN π Z (Instr.box 37 x0) w fun t1 w=>
 rN π Z (Instr.alloc 37 true (.tuple #[])) w fun t2 w=>
 rN π Z (fieldAt 37 t1 2) w fun t3 w=>
 rN π Z (loadAt 35 t3) w fun t4 w=>
 CallV π Z 80 #[t4] w fun t5 w=>
 rN π Z (fieldAt 37 t1 2) w fun t6 w=>
 rO π Z (storeAt 35 t6 t5) w fun w=>
 rN π Z (loadAt 37 t1) w fun t7 w=>
 rO π Z (storeAt 37 t2 t7) w fun w=>
 ∃r_8,(do loadVar 37 (← asAddr t2):Sem Value).run π w=.ok r_8 w ∧
 Q r_8 w
def f27.an:An:=(.q (.q (.sq .leaf .leaf)))
theorem f27.calls {Z:PZ} {x0:Value} {w:World} {Q:PQ} (h:f27.sh Z x0 w Q):CallV π Z 27 #[x0] w Q:=
 cl Tryz.func27 f27.an [x0] (by kernel_rfl) (by kernel_rfl) h

def f28.sh (Z:PZ) (x0:Value) (w:World) (Q:PQ):Prop:=
 rN π Z (Instr.box 39 x0) w fun t1 w=>
 rN π Z (fieldAt 39 t1 0) w fun t2 w=>
 rN π Z (loadAt 22 t2) w fun t3 w=>
 CallV π Z 37 #[t3] w fun t4 w=>
 rN π Z (fieldAt 39 t1 0) w fun t5 w=>
 rN π Z (loadAt 22 t5) w fun t6 w=>
 CallV π Z 81 #[t6] w fun t7 w=>
 ∃J_8:Nat→Value→PQ,(∃m,J_8 m t7 (.int .i64 0) w) ∧
 ∀m_8,∀t9:Value,∀t10:Value,∀w:World,J_8 m_8 t9 t10 w→Env →
 rN π Z (Builtin.len_ #[9] 3 #[t4]) w fun t11 w=>
 rN π Z (binOp .lss 3 t10 t11) w fun t12 w=>
 cV t12 (
 Drawn w fun w=>
 rD π (loadAt 39 t1) w fun t13=>
 pU π (Instr.index 9 t4 t10) fun t14=>
 CallV π Z 82 #[t13,t14] w fun t15 w=>
 CallV π Z 72 #[t9,t15] w fun t16 w=>
 rN π Z (binOp .add 3 t10 (.int .i64 1)) w fun t17 w=>
 ∃n_8,n_8 < m_8∧J_8 n_8 t16 t17 w) (
 CallV π Z 22 #[t9] w fun t18 w=>
 Q t18 w)
def f28.an:An:=(.q (.q (.q (.sq (.q (.bl (.lp [4,5] (.sq (.q (.c)) (.sq (.bl (.dr (pl [0,5,8,12,16,22,26,28] .fin))) .leaf))))) (.sq .leaf .leaf)))))
theorem f28.calls {Z:PZ} {x0:Value} {w:World} {Q:PQ} (h:f28.sh Z x0 w Q):CallV π Z 28 #[x0] w Q:=
 cl Tryz.func28 f28.an [x0] (by kernel_rfl) (by kernel_rfl) h

def f29.sh (Z:PZ) (x0:Value) (w:World) (Q:PQ):Prop:=
 rN π Z (binOp .lss 22 x0 (.int .i8 1)) w fun t1 w=>
 gW (t1) false (fun k=>k (x0) w) (fun t2 w=>
 gW (t1) false (fun k=>rN π Z (binOp .gtr 22 t2 (.int .i8 14)) w k) (fun t3 w=>
 rN π Z (pickV t1 (.bool true) t3) w fun t4 w=>
 cV t4 (
 Q (Value.tuple #[(.int .i64 0),(.bool false)]) w) (
 rN π Z (indexAt 145 (.pointer (some ⟨0,0,none⟩)) x0) w fun t5 w=>
 rN π Z (loadAt 3 t5) w fun t6 w=>
 Q (Value.tuple #[t6,(.bool true)]) w)) w) w
def f29.an:An:=(.q (.sq (.q (.cn (.sq .leaf .leaf) .leaf)) (.sq .leaf .leaf)))
theorem f29.calls {Z:PZ} {x0:Value} {w:World} {Q:PQ} (h:f29.sh Z x0 w Q):CallV π Z 29 #[x0] w Q:=
 cl Tryz.func29 f29.an [x0] (by kernel_rfl) (by kernel_rfl) h

def f30.sh (Z:PZ) (x0 x1:Value) (w:World) (Q:PQ):Prop:=
 rN π Z (convert 22 147 x1) w fun t1 w=>
 CallV π Z 83 #[x0,t1,(.int .i64 1)] w fun t2 w=>
 Q (Value.tuple #[]) w
def f30.an:An:=.leaf
theorem f30.calls {Z:PZ} {x0 x1:Value} {w:World} {Q:PQ} (h:f30.sh Z x0 x1 w Q):CallV π Z 30 #[x0,x1] w Q:=
 cl Tryz.func30 f30.an [x0,x1] (by kernel_rfl) (by kernel_rfl) h

def f31.sh (Z:PZ) (w:World) (Q:PQ):Prop:=
 CallV π Z 85 #[] w fun t1 w=>
 rN π Z (Instr.build 96 #[(0,(.int .i64 8)),(1,(.func (.func 86) #[] #[])),(2,(.func (.func 87) #[] #[])),(3,(.func (.func 88) #[] #[]))]) w fun t2 w=>
 rN π Z (Instr.build 96 #[(0,(.int .i64 16)),(1,(.func (.func 89) #[] #[])),(2,(.func (.func 90) #[] #[])),(3,(.func (.func 91) #[] #[]))]) w fun t3 w=>
 rN π Z (Instr.build 96 #[(0,(.int .i64 32)),(1,(.func (.func 92) #[] #[])),(2,(.func (.func 94) #[] #[])),(3,(.func (.func 96) #[] #[]))]) w fun t4 w=>
 rN π Z (Instr.build 96 #[(0,(.int .i64 64)),(1,(.func (.func 97) #[] #[])),(2,(.func (.func 98) #[] #[])),(3,(.func (.func 99) #[] #[]))]) w fun t5 w=>
 rN π Z (Instr.build 96 #[(0,(.int .i64 128)),(1,(.func (.func 101) #[] #[])),(2,(.func (.func 103) #[] #[])),(3,(.func (.func 84) #[] #[]))]) w fun t6 w=>
 rN π Z (Instr.build 96 #[(0,(.int .i64 256)),(1,(.func (.func 105) #[] #[])),(2,(.func (.func 106) #[] #[])),(3,(.func (.func 84) #[] #[]))]) w fun t7 w=>
 rN π Z (Instr.build 96 #[(0,(.int .i64 512)),(1,(.func (.func 107) #[] #[])),(2,(.func (.func 108) #[] #[])),(3,(.func (.func 109) #[] #[]))]) w fun t8 w=>
 rN π Z (Instr.build 96 #[(0,(.int .i64 1024)),(1,(.func (.func 110) #[] #[])),(2,(.func (.func 112) #[] #[])),(3,(.func (.func 114) #[] #[]))]) w fun t9 w=>
 rN π Z (Instr.build 96 #[(0,(.int .i64 2048)),(1,(.func (.func 115) #[] #[])),(2,(.func (.func 117) #[] #[])),(3,(.func (.func 119) #[] #[]))]) w fun t10 w=>
 rN π Z (Instr.buildSlice 90 9 #[(0,t2),(1,t3),(2,t4),(3,t5),(4,t6),(5,t7),(6,t8),(7,t9),(8,t10)]) w fun t11 w=>
 rN π Z (Builtin.append_ #[90,90] 90 #[t1,t11]) w fun t12 w=>
 Q t12 w
def f31.an:An:=(.q (.q (.sq .leaf .leaf)))
theorem f31.calls {Z:PZ} {w:World} {Q:PQ} (h:f31.sh Z  w Q):CallV π Z 31 #[] w Q:=
 cl Tryz.func31 f31.an [] (by kernel_rfl) (by kernel_rfl) h

def f32.sh (Z:PZ) (x0:Value) (w:World) (Q:PQ):Prop:=
 rN π Z (eqOp .eql 86 false true x0 (.pointer none)) w fun t1 w=>
 cV t1 (
 Q (.slice none 0 0) w) (
 runX π Z (nilChk x0) w fun t2 w=>
 rN π Z (fieldAt 88 t2 0) w fun t3 w=>
 rN π Z (loadAt 30 t3) w fun t4 w=>
 rN π Z (Builtin.append_ #[30,30] 30 #[(.slice none 0 0),t4]) w fun t5 w=>
 Q t5 w)
def f32.an:An:=(.q (.sq (.q (.cn (.sq .leaf .leaf) .leaf)) (.sq .leaf .leaf)))
theorem f32.calls {Z:PZ} {x0:Value} {w:World} {Q:PQ} (h:f32.sh Z x0 w Q):CallV π Z 32 #[x0] w Q:=
 cl Tryz.func32 f32.an [x0] (by kernel_rfl) (by kernel_rfl) h

def f33.sh (Z:PZ) (x0 x1:Value) (w:World) (Q:PQ):Prop:=
 rN π Z (convert 23 147 x1) w fun t1 w=>
 CallV π Z 83 #[x0,t1,(.int .i64 4)] w fun t2 w=>
 Q (Value.tuple #[]) w
def f33.an:An:=.leaf
theorem f33.calls {Z:PZ} {x0 x1:Value} {w:World} {Q:PQ} (h:f33.sh Z x0 x1 w Q):CallV π Z 33 #[x0,x1] w Q:=
 cl Tryz.func33 f33.an [x0,x1] (by kernel_rfl) (by kernel_rfl) h

def f34.sh (Z:PZ) (x0:Value) (w:World) (Q:PQ):Prop:=
 rN π Z (Builtin.len_ #[30] 3 #[x0]) w fun t1 w=>
 ∃J_2:Nat→Value→Value→PQ,(∃m,J_2 m (.int .u32 1) (.int .u32 0) (.int .i64 0) w) ∧
 ∀m_2,∀t3:Value,∀t4:Value,∀t5:Value,∀w:World,J_2 m_2 t3 t4 t5 w→Env →
 rN π Z (binOp .lss 3 t5 t1) w fun t6 w=>
 cV t6 (
 rN π Z (indexAt 30 x0 t5) w fun t7 w=>
 rN π Z (loadAt 5 t7) w fun t8 w=>
 rN π Z (convert 5 23 t8) w fun t9 w=>
 rN π Z (binOp .add 23 t3 t9) w fun t10 w=>
 rN π Z (binOp .rem 23 t10 (.int .u32 65521)) w fun t11 w=>
 rN π Z (binOp .add 23 t4 t11) w fun t12 w=>
 rN π Z (binOp .rem 23 t12 (.int .u32 65521)) w fun t13 w=>
 rN π Z (binOp .add 3 t5 (.int .i64 1)) w fun t14 w=>
 ∃n_2,n_2 < m_2∧J_2 n_2 t11 t13 t14 w) (
 rN π Z (binOp .shl 23 t4 (.int .u64 16)) w fun t15 w=>
 rN π Z (binOp .or 23 t15 t3) w fun t16 w=>
 Q t16 w)
def f34.an:An:=(.q (.q (.sq (.q (.bl (.lp [3,4,9] (.q (.sq (.c) (.sq (.bl (.q (.sq .leaf .leaf))) .leaf)))))) (.sq .leaf .leaf))))
theorem f34.calls {Z:PZ} {x0:Value} {w:World} {Q:PQ} (h:f34.sh Z x0 w Q):CallV π Z 34 #[x0] w Q:=
 cl Tryz.func34 f34.an [x0] (by kernel_rfl) (by kernel_rfl) h

def f35.sh (Z:PZ) (x0 x1:Value) (w:World) (Q:PQ):Prop:=
 rN π Z (eqOp .neq 86 false true x0 (.pointer none)) w fun t1 w=>
 cV t1 (
 runX π Z (nilChk x0) w fun t2 w=>
 rN π Z (fieldAt 88 t2 0) w fun t3 w=>
 rN π Z (loadAt 30 t3) w fun t4 w=>
 rN π Z (Builtin.append_ #[30,30] 30 #[t4,x1]) w fun t5 w=>
 runX π Z (nilChk x0) w fun t6 w=>
 rN π Z (fieldAt 88 t6 0) w fun t7 w=>
 rO π Z (storeAt 30 t7 t5) w fun w=>
 Q (Value.tuple #[]) w) (
 Q (Value.tuple #[]) w)
def f35.an:An:=(.q (.c))
theorem f35.calls {Z:PZ} {x0 x1:Value} {w:World} {Q:PQ} (h:f35.sh Z x0 x1 w Q):CallV π Z 35 #[x0,x1] w Q:=
 cl Tryz.func35 f35.an [x0,x1] (by kernel_rfl) (by kernel_rfl) h

def f36.sh (Z:PZ) (x0 x1:Value) (w:World) (Q:PQ):Prop:=
 rN π Z (Instr.box 39 x0) w fun t1 w=>
 rN π Z (Instr.box 3 x1) w fun t2 w=>
 rN π Z (loadAt 3 t2) w fun t3 w=>
 rN π Z (binOp .and 3 t3 (.int .i64 512)) w fun t4 w=>
 rN π Z (eqOp .eql 3 false true t4 (.int .i64 0)) w fun t5 w=>
 gW (t5) true (fun k=>rN π Z (fieldAt 39 t1 10) w k) (fun t6 w=>
 gW (t5) true (fun k=>rN π Z (loadAt 37 t6) w k) (fun t7 w=>
 gW (t5) true (fun k=>rN π Z (Instr.build 37 #[]) w k) (fun t8 w=>
 gW (t5) true (fun k=>CallV π Z 120 #[t7,t8] w k) (fun t9 w=>
 gW (t5) true (fun k=>rN π Z (Op.unary .not t9) w k) (fun t10 w=>
 rN π Z (pickV t5 t10 (.bool false)) w fun t11 w=>
 gW (t11) false (fun k=>rN π Z (loadAt 3 t2) w k) (fun t12 w=>
 gW (t11) false (fun k=>rN π Z (binOp .and 3 t12 (.int .i64 1024)) w k) (fun t13 w=>
 gW (t11) false (fun k=>rN π Z (eqOp .eql 3 false true t13 (.int .i64 0)) w k) (fun t14 w=>
 gW (t11) false (fun k=>k (t14) w) (fun t15 w=>
 gW (t15) true (fun k=>rN π Z (fieldAt 39 t1 11) w k) (fun t16 w=>
 gW (t15) true (fun k=>rN π Z (loadAt 30 t16) w k) (fun t17 w=>
 gW (t15) true (fun k=>rN π Z (Builtin.len_ #[30] 3 #[t17]) w k) (fun t18 w=>
 gW (t15) true (fun k=>rN π Z (binOp .gtr 3 t18 (.int .i64 0)) w k) (fun t19 w=>
 gW (t11) false (fun k=>rN π Z (pickV t15 t19 (.bool false)) w k) (fun t20 w=>
 rN π Z (pickV t11 (.bool true) t20) w fun t21 w=>
 cV t21 (
 Q (.bool false) w) (
 rN π Z (Instr.alloc 157 true (.tuple #[])) w fun t22 w=>
 rN π Z (Instr.makeFunc (.func 121) #[] #[t2]) w fun t23 w=>
 rN π Z (Instr.makeFunc (.func 122) #[] #[t1,t22]) w fun t24 w=>
 runX π Z (callVal t23 #[(.int .i64 1),t24]) w fun t25 w=>
 rN π Z (Instr.makeFunc (.func 123) #[] #[t1,t22]) w fun t26 w=>
 runX π Z (callVal t23 #[(.int .i64 2),t26]) w fun t27 w=>
 rN π Z (Instr.makeFunc (.func 124) #[] #[t1,t22]) w fun t28 w=>
 runX π Z (callVal t23 #[(.int .i64 4),t28]) w fun t29 w=>
 rN π Z (Instr.makeFunc (.func 125) #[] #[t1,t22]) w fun t30 w=>
 runX π Z (callVal t23 #[(.int .i64 2048),t30]) w fun t31 w=>
 rN π Z (Instr.makeFunc (.func 126) #[] #[t1,t22]) w fun t32 w=>
 runX π Z (callVal t23 #[(.int .i64 8),t32]) w fun t33 w=>
 rN π Z (Instr.makeFunc (.func 127) #[] #[t1,t22]) w fun t34 w=>
 runX π Z (callVal t23 #[(.int .i64 16),t34]) w fun t35 w=>
 rN π Z (Instr.makeFunc (.func 128) #[] #[t1,t22]) w fun t36 w=>
 runX π Z (callVal t23 #[(.int .i64 32),t36]) w fun t37 w=>
 rN π Z (Instr.makeFunc (.func 129) #[] #[t1,t22]) w fun t38 w=>
 runX π Z (callVal t23 #[(.int .i64 64),t38]) w fun t39 w=>
 rN π Z (Instr.makeFunc (.func 130) #[] #[t1,t22]) w fun t40 w=>
 runX π Z (callVal t23 #[(.int .i64 128),t40]) w fun t41 w=>
 rN π Z (Instr.makeFunc (.func 131) #[] #[t1,t22]) w fun t42 w=>
 runX π Z (callVal t23 #[(.int .i64 256),t42]) w fun t43 w=>
 rN π Z (loadAt 157 t22) w fun t44 w=>
 rN π Z (Instr.build 157 #[]) w fun t45 w=>
 rN π Z (eqOp .eql 157 false false t44 t45) w fun t46 w=>
 Q t46 w)) w) w) w) w) w) w) w) w) w) w) w) w) w) w
def f36.an:An:=(.q (.sq (.q (.cn (.sq .leaf .leaf) .leaf)) (.q (.q (.q (.q (.q (.q (.q (.q (.q (.q (.q (.q (.sq .leaf .leaf)))))))))))))))
theorem f36.calls {Z:PZ} {x0 x1:Value} {w:World} {Q:PQ} (h:f36.sh Z x0 x1 w Q):CallV π Z 36 #[x0,x1] w Q:=
 cl Tryz.func36 f36.an [x0,x1] (by kernel_rfl) (by kernel_rfl) h

def f37.sh (Z:PZ) (x0:Value) (w:World) (Q:PQ):Prop:=
 ∀j_1:World→Prop,(∀w:World,(Env →
 Q (.string { data:=#[] }) w) →
 j_1 w) →
 rN π Z (eqOp .eql 22 false true x0 (.int .i8 1)) w fun t2 w=>
 cV t2 (
 Q (.string { data:=#[99,101] }) w) (
 ∀j_3:PQ,(∀t4:Value,∀w:World,(Env →
 cV t4 (
 Q (.string { data:=#[99,108,112,101] }) w) (
 rN π Z (eqOp .eql 22 false true x0 (.int .i8 3)) w fun t5 w=>
 cV t5 (
 Q (.string { data:=#[99,108,112,101,117,122,111] }) w) (
 ∀j_6:PQ,(∀t7:Value,∀w:World,(Env →
 cV t7 (
 Q (.string { data:=#[99,108,112,122] }) w) (
 ∀j_8:PQ,(∀t9:Value,∀w:World,(Env →
 cV t9 (
 Q (.string { data:=#[99,108,112,118,116] }) w) (
 rN π Z (eqOp .eql 22 false true x0 (.int .i8 6)) w fun t10 w=>
 cV t10 (
 Q (.string { data:=#[99,108,112,102,98] }) w) (
 rN π Z (eqOp .eql 22 false true x0 (.int .i8 7)) w fun t11 w=>
 cV t11 (
 Q (.string { data:=#[99,108,112,101,122] }) w) (
 rN π Z (eqOp .eql 22 false true x0 (.int .i8 13)) w fun t12 w=>
 cV t12 (
 Q (.string { data:=#[99,108,112,116] }) w) (
 rN π Z (eqOp .eql 22 false true x0 (.int .i8 14)) w fun t13 w=>
 cV t13 (
 Q (.string { data:=#[99,108,112,115] }) w) (
 j_1 w)))))) →
 j_8 t9 w) →
 rN π Z (eqOp .eql 22 false true x0 (.int .i8 5)) w fun t14 w=>
 cV t14 (
 j_8 t14 w) (
 rN π Z (eqOp .eql 22 false true x0 (.int .i8 10)) w fun t15 w=>
 j_8 t15 w))) →
 j_6 t7 w) →
 rN π Z (eqOp .eql 22 false true x0 (.int .i8 4)) w fun t16 w=>
 cV t16 (
 j_6 t16 w) (
 rN π Z (eqOp .eql 22 false true x0 (.int .i8 9)) w fun t17 w=>
 cV t17 (
 j_6 t17 w) (
 rN π Z (eqOp .eql 22 false true x0 (.int .i8 11)) w fun t18 w=>
 cV t18 (
 j_6 t18 w) (
 rN π Z (eqOp .eql 22 false true x0 (.int .i8 12)) w fun t19 w=>
 j_6 t19 w)))))) →
 j_3 t4 w) →
 rN π Z (eqOp .eql 22 false true x0 (.int .i8 2)) w fun t20 w=>
 cV t20 (
 j_3 t20 w) (
 rN π Z (eqOp .eql 22 false true x0 (.int .i8 8)) w fun t21 w=>
 j_3 t21 w))
def f37.an:An:=(.q (.sj [] (.q (.bl (.q (.cn (.sq .leaf .leaf) (.sj [6] (.q (.c)) (.cn (.sq .leaf .leaf) (.q (.cn (.sq .leaf .leaf) (.sj [11] (.q (.cn .leaf (.q (.cn .leaf (.q (.c)))))) (.cn (.sq .leaf .leaf) (.sj [16] (.q (.c)) (.cn (.sq .leaf .leaf) (.q (.cn (.sq .leaf .leaf) (.q (.cn (.sq .leaf .leaf) (.q (.cn (.sq .leaf .leaf) (.q (.cn (.sq .leaf .leaf) .leaf)))))))))))))))))))) (.sq .leaf .leaf)))
theorem f37.calls {Z:PZ} {x0:Value} {w:World} {Q:PQ} (h:f37.sh Z x0 w Q):CallV π Z 37 #[x0] w Q:=
 cl Tryz.func37 f37.an [x0] (by kernel_rfl) (by kernel_rfl) h

def f38.sh (Z:PZ) (x0 x1:Value) (w:World) (Q:PQ):Prop:=
 rN π Z (Instr.box 25 x0) w fun t1 w=>
 cV x1 (
 rN π Z (fieldAt 25 t1 0) w fun t2 w=>
 rN π Z (loadAt 23 t2) w fun t3 w=>
 rN π Z (binOp .gtr 23 t3 (.int .u32 0)) w fun t4 w=>
 gW (t4) true (fun k=>rN π Z (fieldAt 25 t1 1) w k) (fun t5 w=>
 gW (t4) true (fun k=>rN π Z (loadAt 23 t5) w k) (fun t6 w=>
 gW (t4) true (fun k=>rN π Z (binOp .gtr 23 t6 (.int .u32 0)) w k) (fun t7 w=>
 rN π Z (pickV t4 t7 (.bool false)) w fun t8 w=>
 Q t8 w) w) w) w) (
 rN π Z (fieldAt 25 t1 0) w fun t9 w=>
 rN π Z (loadAt 23 t9) w fun t10 w=>
 rN π Z (eqOp .eql 23 false true t10 (.int .u32 0)) w fun t11 w=>
 gW (t11) true (fun k=>rN π Z (fieldAt 25 t1 1) w k) (fun t12 w=>
 gW (t11) true (fun k=>rN π Z (loadAt 23 t12) w k) (fun t13 w=>
 gW (t11) true (fun k=>rN π Z (eqOp .eql 23 false true t13 (.int .u32 0)) w k) (fun t14 w=>
 rN π Z (pickV t11 t14 (.bool false)) w fun t15 w=>
 Q t15 w) w) w) w)
def f38.an:An:=(.q (.sq (.q (.cn (.sq .leaf .leaf) .leaf)) (.sq .leaf .leaf)))
theorem f38.calls {Z:PZ} {x0 x1:Value} {w:World} {Q:PQ} (h:f38.sh Z x0 x1 w Q):CallV π Z 38 #[x0,x1] w Q:=
 cl Tryz.func38 f38.an [x0,x1] (by kernel_rfl) (by kernel_rfl) h

def f39.sh (Z:PZ) (x0 x1:Value) (w:World) (Q:PQ):Prop:=
 ∃J_1:Nat→PQ,(∃m,J_1 m (.int .i64 0) w) ∧
 ∀m_1,∀t2:Value,∀w:World,J_1 m_1 t2 w→Env →
 rN π Z (Builtin.len_ #[9] 3 #[x0]) w fun t3 w=>
 rN π Z (binOp .lss 3 t2 t3) w fun t4 w=>
 cV t4 (
 rN π Z (Instr.index 9 x0 t2) w fun t5 w=>
 rN π Z (eqOp .eql 5 false false t5 x1) w fun t6 w=>
 cV t6 (
 Q (.bool true) w) (
 rN π Z (binOp .add 3 t2 (.int .i64 1)) w fun t7 w=>
 ∃n_1,n_1 < m_1∧J_1 n_1 t7 w)) (
 Q (.bool false) w)
def f39.an:An:=(.q (.sq (.q (.bl (.lp [5] (.sq (.q (.c)) (.sq (.bl (.q (.cn (.sq .leaf .leaf) .leaf))) .leaf))))) (.sq .leaf .leaf)))
theorem f39.calls {Z:PZ} {x0 x1:Value} {w:World} {Q:PQ} (h:f39.sh Z x0 x1 w Q):CallV π Z 39 #[x0,x1] w Q:=
 cl Tryz.func39 f39.an [x0,x1] (by kernel_rfl) (by kernel_rfl) h

def f40.sh (Z:PZ) (x0 x1:Value) (w:World) (Q:PQ):Prop:=
 rN π Z (Instr.box 27 x0) w fun t1 w=>
 rN π Z (fieldAt 27 t1 0) w fun t2 w=>
 rN π Z (loadAt 23 t2) w fun t3 w=>
 rN π Z (eqOp .eql 23 false true t3 (.int .u32 0)) w fun t4 w=>
 gW (t4) true (fun k=>rN π Z (fieldAt 27 t1 1) w k) (fun t5 w=>
 gW (t4) true (fun k=>rN π Z (loadAt 23 t5) w k) (fun t6 w=>
 gW (t4) true (fun k=>rN π Z (eqOp .eql 23 false true t6 (.int .u32 0)) w k) (fun t7 w=>
 rN π Z (pickV t4 t7 (.bool false)) w fun t8 w=>
 gW (t8) false (fun k=>k (x1) w) (fun t9 w=>
 gW (t8) false (fun k=>k (t9) w) (fun t10 w=>
 gW (t10) true (fun k=>rN π Z (fieldAt 27 t1 0) w k) (fun t11 w=>
 gW (t10) true (fun k=>rN π Z (loadAt 23 t11) w k) (fun t12 w=>
 gW (t10) true (fun k=>rN π Z (binOp .gtr 23 t12 (.int .u32 0)) w k) (fun t13 w=>
 gW (t8) false (fun k=>rN π Z (pickV t10 t13 (.bool false)) w k) (fun t14 w=>
 gW (t8) false (fun k=>k (t14) w) (fun t15 w=>
 gW (t15) true (fun k=>rN π Z (fieldAt 27 t1 0) w k) (fun t16 w=>
 gW (t15) true (fun k=>rN π Z (loadAt 23 t16) w k) (fun t17 w=>
 gW (t15) true (fun k=>rN π Z (binOp .leq 23 t17 (.int .u32 2147483647)) w k) (fun t18 w=>
 gW (t8) false (fun k=>rN π Z (pickV t15 t18 (.bool false)) w k) (fun t19 w=>
 gW (t8) false (fun k=>k (t19) w) (fun t20 w=>
 gW (t20) true (fun k=>rN π Z (fieldAt 27 t1 1) w k) (fun t21 w=>
 gW (t20) true (fun k=>rN π Z (loadAt 23 t21) w k) (fun t22 w=>
 gW (t20) true (fun k=>rN π Z (binOp .gtr 23 t22 (.int .u32 0)) w k) (fun t23 w=>
 gW (t8) false (fun k=>rN π Z (pickV t20 t23 (.bool false)) w k) (fun t24 w=>
 rN π Z (pickV t8 (.bool true) t24) w fun t25 w=>
 Q t25 w) w) w) w) w) w) w) w) w) w) w) w) w) w) w) w) w) w) w) w
def f40.an:An:=(.q (.q (.sq .leaf .leaf)))
theorem f40.calls {Z:PZ} {x0 x1:Value} {w:World} {Q:PQ} (h:f40.sh Z x0 x1 w Q):CallV π Z 40 #[x0,x1] w Q:=
 cl Tryz.func40 f40.an [x0,x1] (by kernel_rfl) (by kernel_rfl) h

def f41.sh (Z:PZ) (x0 x1:Value) (w:World) (Q:PQ):Prop:=
 rN π Z (Instr.box 37 x0) w fun t1 w=>
 rN π Z (Instr.box 37 x1) w fun t2 w=>
 rN π Z (fieldAt 37 t1 0) w fun t3 w=>
 rN π Z (loadAt 27 t3) w fun t4 w=>
 rN π Z (fieldAt 37 t2 0) w fun t5 w=>
 rN π Z (loadAt 27 t5) w fun t6 w=>
 rN π Z (eqOp .eql 27 false false t4 t6) w fun t7 w=>
 gW (t7) true (fun k=>rN π Z (fieldAt 37 t1 1) w k) (fun t8 w=>
 gW (t7) true (fun k=>rN π Z (loadAt 29 t8) w k) (fun t9 w=>
 gW (t7) true (fun k=>rN π Z (fieldAt 37 t2 1) w k) (fun t10 w=>
 gW (t7) true (fun k=>rN π Z (loadAt 29 t10) w k) (fun t11 w=>
 gW (t7) true (fun k=>rN π Z (eqOp .eql 29 false false t9 t11) w k) (fun t12 w=>
 rN π Z (pickV t7 t12 (.bool false)) w fun t13 w=>
 gW (t13) true (fun k=>rN π Z (fieldAt 37 t1 2) w k) (fun t14 w=>
 gW (t13) true (fun k=>rN π Z (loadAt 35 t14) w k) (fun t15 w=>
 gW (t13) true (fun k=>rN π Z (fieldAt 37 t2 2) w k) (fun t16 w=>
 gW (t13) true (fun k=>rN π Z (loadAt 35 t16) w k) (fun t17 w=>
 gW (t13) true (fun k=>CallV π Z 132 #[t15,t17] w k) (fun t18 w=>
 rN π Z (pickV t13 t18 (.bool false)) w fun t19 w=>
 Q t19 w) w) w) w) w) w) w) w) w) w) w
def f41.an:An:=(.q (.sq .leaf .leaf))
theorem f41.calls {Z:PZ} {x0 x1:Value} {w:World} {Q:PQ} (h:f41.sh Z x0 x1 w Q):CallV π Z 41 #[x0,x1] w Q:=
 cl Tryz.func41 f41.an [x0,x1] (by kernel_rfl) (by kernel_rfl) h

def f42.sh (Z:PZ) (x0:Value) (w:World) (Q:PQ):Prop:=
 rN π Z (Instr.box 37 x0) w fun t1 w=>
 rN π Z (fieldAt 37 t1 0) w fun t2 w=>
 rN π Z (fieldAt 27 t2 0) w fun t3 w=>
 rN π Z (loadAt 23 t3) w fun t4 w=>
 rN π Z (eqOp .eql 23 false true t4 (.int .u32 0)) w fun t5 w=>
 gW (t5) true (fun k=>rN π Z (fieldAt 37 t1 0) w k) (fun t6 w=>
 gW (t5) true (fun k=>rN π Z (fieldAt 27 t6 1) w k) (fun t7 w=>
 gW (t5) true (fun k=>rN π Z (loadAt 23 t7) w k) (fun t8 w=>
 gW (t5) true (fun k=>rN π Z (eqOp .eql 23 false true t8 (.int .u32 0)) w k) (fun t9 w=>
 rN π Z (pickV t5 t9 (.bool false)) w fun t10 w=>
 rN π Z (fieldAt 37 t1 0) w fun t11 w=>
 rN π Z (fieldAt 27 t11 0) w fun t12 w=>
 rN π Z (loadAt 23 t12) w fun t13 w=>
 rN π Z (eqOp .neq 23 false true t13 (.int .u32 0)) w fun t14 w=>
 gW (t14) true (fun k=>rN π Z (fieldAt 37 t1 0) w k) (fun t15 w=>
 gW (t14) true (fun k=>rN π Z (fieldAt 27 t15 0) w k) (fun t16 w=>
 gW (t14) true (fun k=>rN π Z (loadAt 23 t16) w k) (fun t17 w=>
 gW (t14) true (fun k=>rN π Z (convert 23 2 t17) w k) (fun t18 w=>
 gW (t14) true (fun k=>rN π Z (binOp .leq 2 t18 (.int .i64 2147483647)) w k) (fun t19 w=>
 rN π Z (pickV t14 t19 (.bool false)) w fun t20 w=>
 gW (t20) true (fun k=>rN π Z (fieldAt 37 t1 0) w k) (fun t21 w=>
 gW (t20) true (fun k=>rN π Z (fieldAt 27 t21 1) w k) (fun t22 w=>
 gW (t20) true (fun k=>rN π Z (loadAt 23 t22) w k) (fun t23 w=>
 gW (t20) true (fun k=>rN π Z (eqOp .neq 23 false true t23 (.int .u32 0)) w k) (fun t24 w=>
 rN π Z (pickV t20 t24 (.bool false)) w fun t25 w=>
 rN π Z (Op.unary .not t10) w fun t26 w=>
 gW (t26) true (fun k=>k (t25) w) (fun t27 w=>
 gW (t26) true (fun k=>rN π Z (Op.unary .not t27) w k) (fun t28 w=>
 rN π Z (pickV t26 t28 (.bool false)) w fun t29 w=>
 cV t29 (
 Q (.int .i64 40) w) (
 rN π Z (fieldAt 37 t1 1) w fun t30 w=>
 rN π Z (fieldAt 29 t30 0) w fun t31 w=>
 rN π Z (loadAt 22 t31) w fun t32 w=>
 rN π Z (binOp .lss 22 t32 (.int .i8 0)) w fun t33 w=>
 gW (t33) false (fun k=>rN π Z (fieldAt 37 t1 1) w k) (fun t34 w=>
 gW (t33) false (fun k=>rN π Z (fieldAt 29 t34 0) w k) (fun t35 w=>
 gW (t33) false (fun k=>rN π Z (loadAt 22 t35) w k) (fun t36 w=>
 gW (t33) false (fun k=>rN π Z (binOp .gtr 22 t36 (.int .i8 6)) w k) (fun t37 w=>
 rN π Z (pickV t33 (.bool true) t37) w fun t38 w=>
 gW (t38) false (fun k=>rN π Z (fieldAt 37 t1 1) w k) (fun t39 w=>
 gW (t38) false (fun k=>rN π Z (fieldAt 29 t39 2) w k) (fun t40 w=>
 gW (t38) false (fun k=>rN π Z (loadAt 2 t40) w k) (fun t41 w=>
 gW (t38) false (fun k=>rN π Z (binOp .lss 2 t41 (.int .i64 0)) w k) (fun t42 w=>
 rN π Z (pickV t38 (.bool true) t42) w fun t43 w=>
 gW (t43) false (fun k=>rN π Z (fieldAt 37 t1 2) w k) (fun t44 w=>
 gW (t43) false (fun k=>rN π Z (fieldAt 35 t44 0) w k) (fun t45 w=>
 gW (t43) false (fun k=>rN π Z (loadAt 22 t45) w k) (fun t46 w=>
 gW (t43) false (fun k=>rN π Z (binOp .gtr 22 t46 (.int .i8 8)) w k) (fun t47 w=>
 rN π Z (pickV t43 (.bool true) t47) w fun t48 w=>
 cV t48 (
 Q (.int .i64 40) w) (
 rN π Z (fieldAt 37 t1 2) w fun t49 w=>
 rN π Z (loadAt 35 t49) w fun t50 w=>
 CallV π Z 133 #[t50] w fun t51 w=>
 Q t51 w)) w) w) w) w) w) w) w) w) w) w) w) w)) w) w) w) w) w) w) w) w) w) w) w) w) w) w) w
def f42.an:An:=(.q (.q (.q (.sq (.q (.cn (.sq .leaf .leaf) .leaf)) (.sq (.q (.cn (.sq .leaf .leaf) .leaf)) (.sq .leaf .leaf))))))
theorem f42.calls {Z:PZ} {x0:Value} {w:World} {Q:PQ} (h:f42.sh Z x0 w Q):CallV π Z 42 #[x0] w Q:=
 cl Tryz.func42 f42.an [x0] (by kernel_rfl) (by kernel_rfl) h

def f43.sh (Z:PZ) (x0 x1:Value) (w:World) (Q:PQ):Prop:=
 rN π Z (Instr.box 27 x0) w fun t1 w=>
 rN π Z (Instr.box 27 x1) w fun t2 w=>
 rN π Z (fieldAt 27 t1 0) w fun t3 w=>
 rN π Z (loadAt 23 t3) w fun t4 w=>
 rN π Z (fieldAt 27 t2 0) w fun t5 w=>
 rN π Z (loadAt 23 t5) w fun t6 w=>
 rN π Z (binOp .lss 23 t4 t6) w fun t7 w=>
 gW (t7) false (fun k=>rN π Z (fieldAt 27 t1 0) w k) (fun t8 w=>
 gW (t7) false (fun k=>rN π Z (loadAt 23 t8) w k) (fun t9 w=>
 gW (t7) false (fun k=>rN π Z (fieldAt 27 t2 0) w k) (fun t10 w=>
 gW (t7) false (fun k=>rN π Z (loadAt 23 t10) w k) (fun t11 w=>
 gW (t7) false (fun k=>rN π Z (eqOp .eql 23 false false t9 t11) w k) (fun t12 w=>
 gW (t7) false (fun k=>k (t12) w) (fun t13 w=>
 gW (t13) true (fun k=>rN π Z (fieldAt 27 t1 1) w k) (fun t14 w=>
 gW (t13) true (fun k=>rN π Z (loadAt 23 t14) w k) (fun t15 w=>
 gW (t13) true (fun k=>rN π Z (fieldAt 27 t2 1) w k) (fun t16 w=>
 gW (t13) true (fun k=>rN π Z (loadAt 23 t16) w k) (fun t17 w=>
 gW (t13) true (fun k=>rN π Z (binOp .lss 23 t15 t17) w k) (fun t18 w=>
 gW (t7) false (fun k=>rN π Z (pickV t13 t18 (.bool false)) w k) (fun t19 w=>
 rN π Z (pickV t7 (.bool true) t19) w fun t20 w=>
 cV t20 (
 Q (.int .i64 (-1)) w) (
 rN π Z (loadAt 27 t1) w fun t21 w=>
 rN π Z (loadAt 27 t2) w fun t22 w=>
 rN π Z (eqOp .eql 27 false false t21 t22) w fun t23 w=>
 cV t23 (
 Q (.int .i64 0) w) (
 Q (.int .i64 1) w))) w) w) w) w) w) w) w) w) w) w) w) w
def f43.an:An:=(.q (.sq (.bl (.q (.cn (.sq .leaf .leaf) (.q (.cn (.sq .leaf .leaf) .leaf))))) (.sq .leaf .leaf)))
theorem f43.calls {Z:PZ} {x0 x1:Value} {w:World} {Q:PQ} (h:f43.sh Z x0 x1 w Q):CallV π Z 43 #[x0,x1] w Q:=
 cl Tryz.func43 f43.an [x0,x1] (by kernel_rfl) (by kernel_rfl) h

def f44.sh (Z:PZ) (x0:Value) (w:World) (Q:PQ):Prop:=
 rN π Z (Builtin.len_ #[30] 3 #[x0]) w fun t1 w=>
 rN π Z (binOp .add 3 t1 (.int .i64 64)) w fun t2 w=>
 rN π Z (Instr.sliceAt 30 x0 none (some t2) none) w fun t3 w=>
 rN π Z (Builtin.len_ #[30] 3 #[x0]) w fun t4 w=>
 ∃J_5:Nat→PQ,(∃m,J_5 m t4 w) ∧
 ∀m_5,∀t6:Value,∀w:World,J_5 m_5 t6 w→Env →
 rN π Z (Builtin.len_ #[30] 3 #[t3]) w fun t7 w=>
 rN π Z (binOp .lss 3 t6 t7) w fun t8 w=>
 cV t8 (
 rN π Z (indexAt 30 t3 t6) w fun t9 w=>
 rN π Z (loadAt 5 t9) w fun t10 w=>
 rN π Z (binOp .rem 3 t6 (.int .i64 5)) w fun t11 w=>
 rN π Z (binOp .add 3 (.int .i64 170) t11) w fun t12 w=>
 rN π Z (convert 3 5 t12) w fun t13 w=>
 rN π Z (eqOp .neq 5 false false t10 t13) w fun t14 w=>
 cV t14 (
 Q (.bool false) w) (
 rN π Z (binOp .add 3 t6 (.int .i64 1)) w fun t15 w=>
 ∃n_5,n_5 < m_5∧J_5 n_5 t15 w)) (
 Q (.bool true) w)
def f44.an:An:=(.q (.q (.sq (.q (.bl (.lp [4] (.sq (.q (.c)) (.sq (.bl (.q (.cn (.sq .leaf .leaf) .leaf))) .leaf))))) (.sq .leaf .leaf))))
theorem f44.calls {Z:PZ} {x0:Value} {w:World} {Q:PQ} (h:f44.sh Z x0 w Q):CallV π Z 44 #[x0] w Q:=
 cl Tryz.func44 f44.an [x0] (by kernel_rfl) (by kernel_rfl) h

def f45.sh (Z:PZ) (x0:Value) (w:World) (Q:PQ):Prop:=
 rN π Z (Instr.box 35 x0) w fun t1 w=>
 rN π Z (fieldAt 35 t1 2) w fun t2 w=>
 rN π Z (loadAt 30 t2) w fun t3 w=>
 CallV π Z 44 #[t3] w fun t4 w=>
 gW (t4) true (fun k=>rN π Z (fieldAt 35 t1 3) w k) (fun t5 w=>
 gW (t4) true (fun k=>rN π Z (loadAt 31 t5) w k) (fun t6 w=>
 gW (t4) true (fun k=>CallV π Z 134 #[t6] w k) (fun t7 w=>
 rN π Z (pickV t4 t7 (.bool false)) w fun t8 w=>
 gW (t8) true (fun k=>rN π Z (fieldAt 35 t1 9) w k) (fun t9 w=>
 gW (t8) true (fun k=>rN π Z (loadAt 32 t9) w k) (fun t10 w=>
 gW (t8) true (fun k=>CallV π Z 135 #[t10] w k) (fun t11 w=>
 rN π Z (pickV t8 t11 (.bool false)) w fun t12 w=>
 gW (t12) true (fun k=>rN π Z (fieldAt 35 t1 10) w k) (fun t13 w=>
 gW (t12) true (fun k=>rN π Z (loadAt 33 t13) w k) (fun t14 w=>
 gW (t12) true (fun k=>CallV π Z 136 #[t14] w k) (fun t15 w=>
 rN π Z (pickV t12 t15 (.bool false)) w fun t16 w=>
 Q t16 w) w) w) w) w) w) w) w) w) w
def f45.an:An:=(.q (.sq .leaf .leaf))
theorem f45.calls {Z:PZ} {x0:Value} {w:World} {Q:PQ} (h:f45.sh Z x0 w Q):CallV π Z 45 #[x0] w Q:=
 cl Tryz.func45 f45.an [x0] (by kernel_rfl) (by kernel_rfl) h

def f46.sh (Z:PZ) (x0:Value) (w:World) (Q:PQ):Prop:=
 rN π Z (Instr.box 37 x0) w fun t1 w=>
 rN π Z (Instr.alloc 37 true (.tuple #[])) w fun t2 w=>
 rN π Z (fieldAt 37 t1 2) w fun t3 w=>
 rN π Z (loadAt 35 t3) w fun t4 w=>
 CallV π Z 137 #[t4] w fun t5 w=>
 rN π Z (fieldAt 37 t1 2) w fun t6 w=>
 rO π Z (storeAt 35 t6 t5) w fun w=>
 rN π Z (loadAt 37 t1) w fun t7 w=>
 rO π Z (storeAt 37 t2 t7) w fun w=>
 ∃r_8,(do loadVar 37 (← asAddr t2):Sem Value).run π w=.ok r_8 w ∧
 Q r_8 w
def f46.an:An:=(.q (.q (.sq .leaf .leaf)))
theorem f46.calls {Z:PZ} {x0:Value} {w:World} {Q:PQ} (h:f46.sh Z x0 w Q):CallV π Z 46 #[x0] w Q:=
 cl Tryz.func46 f46.an [x0] (by kernel_rfl) (by kernel_rfl) h

def f47.sh (Z:PZ) (x0 x1:Value) (w:World) (Q:PQ):Prop:=
 rN π Z (Instr.box 35 x1) w fun t1 w=>
 rN π Z (fieldAt 35 t1 2) w fun t2 w=>
 rN π Z (loadAt 30 t2) w fun t3 w=>
 CallV π Z 18 #[x0,t3] w fun t4 w=>
 rN π Z (fieldAt 35 t1 3) w fun t5 w=>
 rN π Z (loadAt 31 t5) w fun t6 w=>
 CallV π Z 138 #[x0,t6] w fun t7 w=>
 rN π Z (fieldAt 35 t1 9) w fun t8 w=>
 rN π Z (loadAt 32 t8) w fun t9 w=>
 CallV π Z 139 #[x0,t9] w fun t10 w=>
 rN π Z (fieldAt 35 t1 10) w fun t11 w=>
 rN π Z (loadAt 33 t11) w fun t12 w=>
 CallV π Z 140 #[x0,t12] w fun t13 w=>
 Q (Value.tuple #[]) w
def f47.an:An:=(.q (.q (.q (.sq .leaf .leaf))))
theorem f47.calls {Z:PZ} {x0 x1:Value} {w:World} {Q:PQ} (h:f47.sh Z x0 x1 w Q):CallV π Z 47 #[x0,x1] w Q:=
 cl Tryz.func47 f47.an [x0,x1] (by kernel_rfl) (by kernel_rfl) h

def f48.sh (Z:PZ) (x0:Value) (w:World) (Q:PQ):Prop:=
 ∃J_1:Nat→PQ,(∃m,J_1 m (.int .i64 1) w) ∧
 ∀m_1,∀t2:Value,∀w:World,J_1 m_1 t2 w→Env →
 rN π Z (eqOp .eql 3 false true t2 (.int .i64 1)) w fun t3 w=>
 gW (t3) false (fun k=>k (t2) w) (fun t4 w=>
 gW (t3) false (fun k=>k (x0) w) (fun t5 w=>
 gW (t3) false (fun k=>rN π Z (Builtin.len_ #[50] 3 #[t5]) w k) (fun t6 w=>
 gW (t3) false (fun k=>rN π Z (binOp .leq 3 t4 t6) w k) (fun t7 w=>
 rN π Z (pickV t3 (.bool true) t7) w fun t8 w=>
 cV t8 (
 ∃J_9:Nat→PQ,(∃m,J_9 m (.int .i64 0) w) ∧
 ∀m_9,∀t10:Value,∀w:World,J_9 m_9 t10 w→Env →
 rN π Z (Builtin.len_ #[50] 3 #[x0]) w fun t11 w=>
 rN π Z (binOp .lss 3 t10 t11) w fun t12 w=>
 cV t12 (
 ∃J_13:Nat→PQ,(∃m,J_13 m (.int .i64 0) w) ∧
 ∀m_13,∀t14:Value,∀w:World,J_13 m_13 t14 w→Env →
 rN π Z (indexAt 50 x0 t10) w fun t15 w=>
 rN π Z (loadAt 30 t15) w fun t16 w=>
 rN π Z (Builtin.len_ #[30] 3 #[t16]) w fun t17 w=>
 rN π Z (binOp .lss 3 t14 t17) w fun t18 w=>
 cV t18 (
 Drawn w fun w=>
 pU π (indexAt 50 x0 t10) fun t19=>
 rD π (loadAt 30 t19) w fun t20=>
 pU π (binOp .quo 3 t10 t2) fun t21=>
 pU π (binOp .rem 3 t21 (.int .i64 100)) fun t22=>
 pU π (convert 3 5 t22) fun t23=>
 pU π (indexAt 30 t20 t14) fun t24=>
 rO π Z (storeAt 5 t24 t23) w fun w=>
 rN π Z (binOp .add 3 t14 (.int .i64 1)) w fun t25 w=>
 ∃n_13,n_13 < m_13∧J_13 n_13 t25 w) (
 rN π Z (binOp .add 3 t10 (.int .i64 1)) w fun t26 w=>
 ∃n_9,n_9 < m_9∧J_9 n_9 t26 w)) (
 CallV π Z 141 #[x0,t2,(.int .i64 1)] w fun t27 w=>
 gW (t27) true (fun k=>k (x0) w) (fun t28 w=>
 gW (t27) true (fun k=>k (t2) w) (fun t29 w=>
 gW (t27) true (fun k=>CallV π Z 141 #[t28,t29,(.int .i64 64)] w k) (fun t30 w=>
 rN π Z (pickV t27 t30 (.bool false)) w fun t31 w=>
 rN π Z (Op.unary .not t31) w fun t32 w=>
 cV t32 (
 Q (.bool false) w) (
 rN π Z (binOp .mul 3 t2 (.int .i64 100)) w fun t33 w=>
 ∃n_1,n_1 < m_1∧J_1 n_1 t33 w)) w) w) w)) (
 Q (.bool true) w)) w) w) w) w
def f48.an:An:=(.q (.sq (.q (.bl (.lp [3] (.sq (.q (.c)) (.sq (.bl (.sq (.q (.bl (.lp [4] (.sq (.q (.c)) (.sq (.bl (.q (.bl (.lp [5] (.sq (.q (.c)) (.sq (.bl (.dr (pl [0,4,8,13,16,20,24,28,32,36,40,46] .fin))) .leaf)))))) .leaf))))) (.q (.q (.cn (.sq .leaf .leaf) .leaf))))) .leaf))))) (.sq .leaf .leaf)))
theorem f48.calls {Z:PZ} {x0:Value} {w:World} {Q:PQ} (h:f48.sh Z x0 w Q):CallV π Z 48 #[x0] w Q:=
 cl Tryz.func48 f48.an [x0] (by kernel_rfl) (by kernel_rfl) h

def f49.sh (Z:PZ) (x0:Value) (w:World) (Q:PQ):Prop:=
 ∃J_1:Nat→PQ,(∃m,J_1 m (.int .i64 0) w) ∧
 ∀m_1,∀t2:Value,∀w:World,J_1 m_1 t2 w→Env →
 rN π Z (Builtin.len_ #[51] 3 #[x0]) w fun t3 w=>
 rN π Z (binOp .lss 3 t2 t3) w fun t4 w=>
 cV t4 (
 False) (
 CallV π Z 142 #[x0,(.int .i64 1)] w fun t5 w=>
 CallV π Z 142 #[x0,(.int .i64 24)] w fun t6 w=>
 gW (t5) true (fun k=>k (t6) w) (fun t7 w=>
 rN π Z (pickV t5 t7 (.bool false)) w fun t8 w=>
 Q t8 w) w)
def f49.an:An:=(.q (.sq (.q (.bl (.lp [3] (.sq (.q (.c)) .leaf)))) (.q (.q (.sq .leaf .leaf)))))
theorem f49.calls {Z:PZ} {x0:Value} {w:World} {Q:PQ} (h:f49.sh Z x0 w Q):CallV π Z 49 #[x0] w Q:=
 cl Tryz.func49 f49.an [x0] (by kernel_rfl) (by kernel_rfl) h

def f50.sh (Z:PZ) (x0:Value) (w:World) (Q:PQ):Prop:=
 ∃J_1:Nat→PQ,(∃m,J_1 m (.int .i64 0) w) ∧
 ∀m_1,∀t2:Value,∀w:World,J_1 m_1 t2 w→Env →
 rN π Z (Builtin.len_ #[52] 3 #[x0]) w fun t3 w=>
 rN π Z (binOp .lss 3 t2 t3) w fun t4 w=>
 cV t4 (
 False) (
 CallV π Z 144 #[x0,(.int .i64 1)] w fun t5 w=>
 CallV π Z 144 #[x0,(.int .i64 24)] w fun t6 w=>
 gW (t5) true (fun k=>k (t6) w) (fun t7 w=>
 rN π Z (pickV t5 t7 (.bool false)) w fun t8 w=>
 Q t8 w) w)
def f50.an:An:=(.q (.sq (.q (.bl (.lp [3] (.sq (.q (.c)) .leaf)))) (.q (.q (.sq .leaf .leaf)))))
theorem f50.calls {Z:PZ} {x0:Value} {w:World} {Q:PQ} (h:f50.sh Z x0 w Q):CallV π Z 50 #[x0] w Q:=
 cl Tryz.func50 f50.an [x0] (by kernel_rfl) (by kernel_rfl) h

def f51.sh (Z:PZ) (x0:Value) (w:World) (Q:PQ):Prop:=
 ∃J_1:Nat→PQ,(∃m,J_1 m (.int .i64 0) w) ∧
 ∀m_1,∀t2:Value,∀w:World,J_1 m_1 t2 w→Env →
 rN π Z (Builtin.len_ #[53] 3 #[x0]) w fun t3 w=>
 rN π Z (binOp .lss 3 t2 t3) w fun t4 w=>
 cV t4 (
 False) (
 CallV π Z 145 #[x0,(.int .i64 1)] w fun t5 w=>
 CallV π Z 145 #[x0,(.int .i64 24)] w fun t6 w=>
 gW (t5) true (fun k=>k (t6) w) (fun t7 w=>
 rN π Z (pickV t5 t7 (.bool false)) w fun t8 w=>
 Q t8 w) w)
def f51.an:An:=(.q (.sq (.q (.bl (.lp [3] (.sq (.q (.c)) .leaf)))) (.q (.q (.sq .leaf .leaf)))))
theorem f51.calls {Z:PZ} {x0:Value} {w:World} {Q:PQ} (h:f51.sh Z x0 w Q):CallV π Z 51 #[x0] w Q:=
 cl Tryz.func51 f51.an [x0] (by kernel_rfl) (by kernel_rfl) h

def f52.sh (Z:PZ) (x0:Value) (w:World) (Q:PQ):Prop:=
 ∃J_1:Nat→PQ,(∃m,J_1 m (.int .i64 0) w) ∧
 ∀m_1,∀t2:Value,∀w:World,J_1 m_1 t2 w→Env →
 rN π Z (Builtin.len_ #[54] 3 #[x0]) w fun t3 w=>
 rN π Z (binOp .lss 3 t2 t3) w fun t4 w=>
 cV t4 (
 ∃J_5:Nat→PQ,(∃m,J_5 m (.int .i64 0) w) ∧
 ∀m_5,∀t6:Value,∀w:World,J_5 m_5 t6 w→Env →
 rN π Z (indexAt 54 x0 t2) w fun t7 w=>
 rN π Z (loadAt 32 t7) w fun t8 w=>
 rN π Z (Builtin.len_ #[32] 3 #[t8]) w fun t9 w=>
 rN π Z (binOp .lss 3 t6 t9) w fun t10 w=>
 cV t10 (
 Drawn w fun w=>
 pU π (indexAt 54 x0 t2) fun t11=>
 rD π (loadAt 32 t11) w fun t12=>
 pU π (binOp .sub 3 (.int .i64 (-1000000)) t2) fun t13=>
 CallV π Z 143 #[t13] w fun t14 w=>
 Still π (nx (loadAt 32 t11)) t12 w <|
 pU π (Instr.build 175 #[(1,t14)]) fun t15=>
 pU π (indexAt 32 t12 t6) fun t16=>
 rO π Z (storeAt 175 t16 t15) w fun w=>
 rN π Z (binOp .add 3 t6 (.int .i64 1)) w fun t17 w=>
 ∃n_5,n_5 < m_5∧J_5 n_5 t17 w) (
 rN π Z (binOp .add 3 t2 (.int .i64 1)) w fun t18 w=>
 ∃n_1,n_1 < m_1∧J_1 n_1 t18 w)) (
 CallV π Z 146 #[x0,(.int .i64 1)] w fun t19 w=>
 CallV π Z 146 #[x0,(.int .i64 24)] w fun t20 w=>
 gW (t19) true (fun k=>k (t20) w) (fun t21 w=>
 rN π Z (pickV t19 t21 (.bool false)) w fun t22 w=>
 Q t22 w) w)
def f52.an:An:=(.q (.sq (.q (.bl (.lp [3] (.sq (.q (.c)) (.sq (.bl (.q (.bl (.lp [4] (.sq (.q (.c)) (.sq (.bl (.dr (pl [0,4,8,13,16,20,24,30,32,36,42] .fin))) .leaf)))))) .leaf))))) (.q (.q (.sq .leaf .leaf)))))
theorem f52.calls {Z:PZ} {x0:Value} {w:World} {Q:PQ} (h:f52.sh Z x0 w Q):CallV π Z 52 #[x0] w Q:=
 cl Tryz.func52 f52.an [x0] (by kernel_rfl) (by kernel_rfl) h

def f53.sh (Z:PZ) (x0:Value) (w:World) (Q:PQ):Prop:=
 ∃J_1:Nat→PQ,(∃m,J_1 m (.int .i64 0) w) ∧
 ∀m_1,∀t2:Value,∀w:World,J_1 m_1 t2 w→Env →
 rN π Z (Builtin.len_ #[55] 3 #[x0]) w fun t3 w=>
 rN π Z (binOp .lss 3 t2 t3) w fun t4 w=>
 cV t4 (
 ∃J_5:Nat→PQ,(∃m,J_5 m (.int .i64 0) w) ∧
 ∀m_5,∀t6:Value,∀w:World,J_5 m_5 t6 w→Env →
 rN π Z (indexAt 55 x0 t2) w fun t7 w=>
 rN π Z (loadAt 31 t7) w fun t8 w=>
 rN π Z (Builtin.len_ #[31] 3 #[t8]) w fun t9 w=>
 rN π Z (binOp .lss 3 t6 t9) w fun t10 w=>
 cV t10 (
 Drawn w fun w=>
 pU π (indexAt 55 x0 t2) fun t11=>
 rD π (loadAt 31 t11) w fun t12=>
 pU π (binOp .sub 3 (.int .i64 (-1000000)) t2) fun t13=>
 CallV π Z 143 #[t13] w fun t14 w=>
 Still π (nx (loadAt 31 t11)) t12 w <|
 pU π (Instr.build 175 #[(1,t14)]) fun t15=>
 pU π (Instr.build 178 #[(1,t15)]) fun t16=>
 pU π (indexAt 31 t12 t6) fun t17=>
 rO π Z (storeAt 178 t17 t16) w fun w=>
 rN π Z (binOp .add 3 t6 (.int .i64 1)) w fun t18 w=>
 ∃n_5,n_5 < m_5∧J_5 n_5 t18 w) (
 rN π Z (binOp .add 3 t2 (.int .i64 1)) w fun t19 w=>
 ∃n_1,n_1 < m_1∧J_1 n_1 t19 w)) (
 CallV π Z 147 #[x0,(.int .i64 1)] w fun t20 w=>
 CallV π Z 147 #[x0,(.int .i64 24)] w fun t21 w=>
 gW (t20) true (fun k=>k (t21) w) (fun t22 w=>
 rN π Z (pickV t20 t22 (.bool false)) w fun t23 w=>
 Q t23 w) w)
def f53.an:An:=(.q (.sq (.q (.bl (.lp [3] (.sq (.q (.c)) (.sq (.bl (.q (.bl (.lp [4] (.sq (.q (.c)) (.sq (.bl (.dr (pl [0,4,8,13,16,20,24,30,32,36,40,46] .fin))) .leaf)))))) .leaf))))) (.q (.q (.sq .leaf .leaf)))))
theorem f53.calls {Z:PZ} {x0:Value} {w:World} {Q:PQ} (h:f53.sh Z x0 w Q):CallV π Z 53 #[x0] w Q:=
 cl Tryz.func53 f53.an [x0] (by kernel_rfl) (by kernel_rfl) h

def f54.sh (Z:PZ) (x0:Value) (w:World) (Q:PQ):Prop:=
 ∃J_1:Nat→PQ,(∃m,J_1 m (.int .i64 0) w) ∧
 ∀m_1,∀t2:Value,∀w:World,J_1 m_1 t2 w→Env →
 rN π Z (Builtin.len_ #[56] 3 #[x0]) w fun t3 w=>
 rN π Z (binOp .lss 3 t2 t3) w fun t4 w=>
 cV t4 (
 ∃J_5:Nat→PQ,(∃m,J_5 m (.int .i64 0) w) ∧
 ∀m_5,∀t6:Value,∀w:World,J_5 m_5 t6 w→Env →
 rN π Z (indexAt 56 x0 t2) w fun t7 w=>
 rN π Z (loadAt 33 t7) w fun t8 w=>
 rN π Z (Builtin.len_ #[33] 3 #[t8]) w fun t9 w=>
 rN π Z (binOp .lss 3 t6 t9) w fun t10 w=>
 cV t10 (
 rN π Z (indexAt 56 x0 t2) w fun t11 w=>
 rN π Z (loadAt 33 t11) w fun t12 w=>
 rN π Z (binOp .sub 3 (.int .i64 (-1000000)) t2) w fun t13 w=>
 rN π Z (Instr.build 35 #[(7,t13)]) w fun t14 w=>
 rN π Z (indexAt 33 t12 t6) w fun t15 w=>
 rO π Z (storeAt 35 t15 t14) w fun w=>
 rN π Z (binOp .add 3 t6 (.int .i64 1)) w fun t16 w=>
 ∃n_5,n_5 < m_5∧J_5 n_5 t16 w) (
 rN π Z (binOp .add 3 t2 (.int .i64 1)) w fun t17 w=>
 ∃n_1,n_1 < m_1∧J_1 n_1 t17 w)) (
 CallV π Z 148 #[x0,(.int .i64 1)] w fun t18 w=>
 CallV π Z 148 #[x0,(.int .i64 24)] w fun t19 w=>
 gW (t18) true (fun k=>k (t19) w) (fun t20 w=>
 rN π Z (pickV t18 t20 (.bool false)) w fun t21 w=>
 Q t21 w) w)
def f54.an:An:=(.q (.sq (.q (.bl (.lp [3] (.sq (.q (.c)) (.sq (.bl (.q (.bl (.lp [4] (.sq (.q (.c)) (.sq (.bl .leaf) .leaf)))))) .leaf))))) (.q (.q (.sq .leaf .leaf)))))
theorem f54.calls {Z:PZ} {x0:Value} {w:World} {Q:PQ} (h:f54.sh Z x0 w Q):CallV π Z 54 #[x0] w Q:=
 cl Tryz.func54 f54.an [x0] (by kernel_rfl) (by kernel_rfl) h

def f55.sh (Z:PZ) (x0:Value) (w:World) (Q:PQ):Prop:=
 ∃J_1:Nat→PQ,(∃m,J_1 m (.int .i64 0) w) ∧
 ∀m_1,∀t2:Value,∀w:World,J_1 m_1 t2 w→Env →
 rN π Z (Builtin.len_ #[57] 3 #[x0]) w fun t3 w=>
 rN π Z (binOp .lss 3 t2 t3) w fun t4 w=>
 cV t4 (
 False) (
 CallV π Z 149 #[x0,(.int .i64 1)] w fun t5 w=>
 CallV π Z 149 #[x0,(.int .i64 24)] w fun t6 w=>
 gW (t5) true (fun k=>k (t6) w) (fun t7 w=>
 rN π Z (pickV t5 t7 (.bool false)) w fun t8 w=>
 Q t8 w) w)
def f55.an:An:=(.q (.sq (.q (.bl (.lp [3] (.sq (.q (.c)) .leaf)))) (.q (.q (.sq .leaf .leaf)))))
theorem f55.calls {Z:PZ} {x0:Value} {w:World} {Q:PQ} (h:f55.sh Z x0 w Q):CallV π Z 55 #[x0] w Q:=
 cl Tryz.func55 f55.an [x0] (by kernel_rfl) (by kernel_rfl) h

def f56.sh (Z:PZ) (x0:Value) (w:World) (Q:PQ):Prop:=
 ∃J_1:Nat→PQ,(∃m,J_1 m (.int .i64 0) w) ∧
 ∀m_1,∀t2:Value,∀w:World,J_1 m_1 t2 w→Env →
 rN π Z (Builtin.len_ #[58] 3 #[x0]) w fun t3 w=>
 rN π Z (binOp .lss 3 t2 t3) w fun t4 w=>
 cV t4 (
 False) (
 CallV π Z 150 #[x0,(.int .i64 1)] w fun t5 w=>
 CallV π Z 150 #[x0,(.int .i64 24)] w fun t6 w=>
 gW (t5) true (fun k=>k (t6) w) (fun t7 w=>
 rN π Z (pickV t5 t7 (.bool false)) w fun t8 w=>
 Q t8 w) w)
def f56.an:An:=(.q (.sq (.q (.bl (.lp [3] (.sq (.q (.c)) .leaf)))) (.q (.q (.sq .leaf .leaf)))))
theorem f56.calls {Z:PZ} {x0:Value} {w:World} {Q:PQ} (h:f56.sh Z x0 w Q):CallV π Z 56 #[x0] w Q:=
 cl Tryz.func56 f56.an [x0] (by kernel_rfl) (by kernel_rfl) h

def f57.sh (Z:PZ) (x0:Value) (w:World) (Q:PQ):Prop:=
 ∃J_1:Nat→PQ,(∃m,J_1 m (.int .i64 0) w) ∧
 ∀m_1,∀t2:Value,∀w:World,J_1 m_1 t2 w→Env →
 rN π Z (Builtin.len_ #[59] 3 #[x0]) w fun t3 w=>
 rN π Z (binOp .lss 3 t2 t3) w fun t4 w=>
 cV t4 (
 False) (
 CallV π Z 151 #[x0,(.int .i64 1)] w fun t5 w=>
 CallV π Z 151 #[x0,(.int .i64 24)] w fun t6 w=>
 gW (t5) true (fun k=>k (t6) w) (fun t7 w=>
 rN π Z (pickV t5 t7 (.bool false)) w fun t8 w=>
 Q t8 w) w)
def f57.an:An:=(.q (.sq (.q (.bl (.lp [3] (.sq (.q (.c)) .leaf)))) (.q (.q (.sq .leaf .leaf)))))
theorem f57.calls {Z:PZ} {x0:Value} {w:World} {Q:PQ} (h:f57.sh Z x0 w Q):CallV π Z 57 #[x0] w Q:=
 cl Tryz.func57 f57.an [x0] (by kernel_rfl) (by kernel_rfl) h

def f58.sh (Z:PZ) (x0:Value) (w:World) (Q:PQ):Prop:=
 ∃J_1:Nat→PQ,(∃m,J_1 m (.int .i64 0) w) ∧
 ∀m_1,∀t2:Value,∀w:World,J_1 m_1 t2 w→Env →
 rN π Z (Builtin.len_ #[60] 3 #[x0]) w fun t3 w=>
 rN π Z (binOp .lss 3 t2 t3) w fun t4 w=>
 cV t4 (
 False) (
 CallV π Z 152 #[x0,(.int .i64 1)] w fun t5 w=>
 CallV π Z 152 #[x0,(.int .i64 24)] w fun t6 w=>
 gW (t5) true (fun k=>k (t6) w) (fun t7 w=>
 rN π Z (pickV t5 t7 (.bool false)) w fun t8 w=>
 Q t8 w) w)
def f58.an:An:=(.q (.sq (.q (.bl (.lp [3] (.sq (.q (.c)) .leaf)))) (.q (.q (.sq .leaf .leaf)))))
theorem f58.calls {Z:PZ} {x0:Value} {w:World} {Q:PQ} (h:f58.sh Z x0 w Q):CallV π Z 58 #[x0] w Q:=
 cl Tryz.func58 f58.an [x0] (by kernel_rfl) (by kernel_rfl) h

def f59.sh (Z:PZ) (x0:Value) (w:World) (Q:PQ):Prop:=
 ∃J_1:Nat→PQ,(∃m,J_1 m (.int .i64 0) w) ∧
 ∀m_1,∀t2:Value,∀w:World,J_1 m_1 t2 w→Env →
 rN π Z (Builtin.len_ #[61] 3 #[x0]) w fun t3 w=>
 rN π Z (binOp .lss 3 t2 t3) w fun t4 w=>
 cV t4 (
 False) (
 CallV π Z 153 #[x0,(.int .i64 1)] w fun t5 w=>
 CallV π Z 153 #[x0,(.int .i64 24)] w fun t6 w=>
 gW (t5) true (fun k=>k (t6) w) (fun t7 w=>
 rN π Z (pickV t5 t7 (.bool false)) w fun t8 w=>
 Q t8 w) w)
def f59.an:An:=(.q (.sq (.q (.bl (.lp [3] (.sq (.q (.c)) .leaf)))) (.q (.q (.sq .leaf .leaf)))))
theorem f59.calls {Z:PZ} {x0:Value} {w:World} {Q:PQ} (h:f59.sh Z x0 w Q):CallV π Z 59 #[x0] w Q:=
 cl Tryz.func59 f59.an [x0] (by kernel_rfl) (by kernel_rfl) h

def f60.sh (Z:PZ) (x0:Value) (w:World) (Q:PQ):Prop:=
 ∃J_1:Nat→PQ,(∃m,J_1 m (.int .i64 0) w) ∧
 ∀m_1,∀t2:Value,∀w:World,J_1 m_1 t2 w→Env →
 rN π Z (Builtin.len_ #[62] 3 #[x0]) w fun t3 w=>
 rN π Z (binOp .lss 3 t2 t3) w fun t4 w=>
 cV t4 (
 False) (
 CallV π Z 154 #[x0,(.int .i64 1)] w fun t5 w=>
 CallV π Z 154 #[x0,(.int .i64 24)] w fun t6 w=>
 gW (t5) true (fun k=>k (t6) w) (fun t7 w=>
 rN π Z (pickV t5 t7 (.bool false)) w fun t8 w=>
 Q t8 w) w)
def f60.an:An:=(.q (.sq (.q (.bl (.lp [3] (.sq (.q (.c)) .leaf)))) (.q (.q (.sq .leaf .leaf)))))
theorem f60.calls {Z:PZ} {x0:Value} {w:World} {Q:PQ} (h:f60.sh Z x0 w Q):CallV π Z 60 #[x0] w Q:=
 cl Tryz.func60 f60.an [x0] (by kernel_rfl) (by kernel_rfl) h

def f61.sh (Z:PZ) (x0:Value) (w:World) (Q:PQ):Prop:=
 ∃J_1:Nat→PQ,(∃m,J_1 m (.int .i64 0) w) ∧
 ∀m_1,∀t2:Value,∀w:World,J_1 m_1 t2 w→Env →
 rN π Z (Builtin.len_ #[63] 3 #[x0]) w fun t3 w=>
 rN π Z (binOp .lss 3 t2 t3) w fun t4 w=>
 cV t4 (
 False) (
 CallV π Z 155 #[x0,(.int .i64 1)] w fun t5 w=>
 CallV π Z 155 #[x0,(.int .i64 24)] w fun t6 w=>
 gW (t5) true (fun k=>k (t6) w) (fun t7 w=>
 rN π Z (pickV t5 t7 (.bool false)) w fun t8 w=>
 Q t8 w) w)
def f61.an:An:=(.q (.sq (.q (.bl (.lp [3] (.sq (.q (.c)) .leaf)))) (.q (.q (.sq .leaf .leaf)))))
theorem f61.calls {Z:PZ} {x0:Value} {w:World} {Q:PQ} (h:f61.sh Z x0 w Q):CallV π Z 61 #[x0] w Q:=
 cl Tryz.func61 f61.an [x0] (by kernel_rfl) (by kernel_rfl) h

def f62.sh (Z:PZ) (x0:Value) (w:World) (Q:PQ):Prop:=
 ∃J_1:Nat→PQ,(∃m,J_1 m (.int .i64 0) w) ∧
 ∀m_1,∀t2:Value,∀w:World,J_1 m_1 t2 w→Env →
 rN π Z (Builtin.len_ #[64] 3 #[x0]) w fun t3 w=>
 rN π Z (binOp .lss 3 t2 t3) w fun t4 w=>
 cV t4 (
 False) (
 CallV π Z 156 #[x0,(.int .i64 1)] w fun t5 w=>
 CallV π Z 156 #[x0,(.int .i64 24)] w fun t6 w=>
 gW (t5) true (fun k=>k (t6) w) (fun t7 w=>
 rN π Z (pickV t5 t7 (.bool false)) w fun t8 w=>
 Q t8 w) w)
def f62.an:An:=(.q (.sq (.q (.bl (.lp [3] (.sq (.q (.c)) .leaf)))) (.q (.q (.sq .leaf .leaf)))))
theorem f62.calls {Z:PZ} {x0:Value} {w:World} {Q:PQ} (h:f62.sh Z x0 w Q):CallV π Z 62 #[x0] w Q:=
 cl Tryz.func62 f62.an [x0] (by kernel_rfl) (by kernel_rfl) h

def f63.sh (Z:PZ) (x0:Value) (w:World) (Q:PQ):Prop:=
 ∃J_1:Nat→PQ,(∃m,J_1 m (.int .i64 0) w) ∧
 ∀m_1,∀t2:Value,∀w:World,J_1 m_1 t2 w→Env →
 rN π Z (Builtin.len_ #[65] 3 #[x0]) w fun t3 w=>
 rN π Z (binOp .lss 3 t2 t3) w fun t4 w=>
 cV t4 (
 False) (
 CallV π Z 157 #[x0,(.int .i64 1)] w fun t5 w=>
 CallV π Z 157 #[x0,(.int .i64 24)] w fun t6 w=>
 gW (t5) true (fun k=>k (t6) w) (fun t7 w=>
 rN π Z (pickV t5 t7 (.bool false)) w fun t8 w=>
 Q t8 w) w)
def f63.an:An:=(.q (.sq (.q (.bl (.lp [3] (.sq (.q (.c)) .leaf)))) (.q (.q (.sq .leaf .leaf)))))
theorem f63.calls {Z:PZ} {x0:Value} {w:World} {Q:PQ} (h:f63.sh Z x0 w Q):CallV π Z 63 #[x0] w Q:=
 cl Tryz.func63 f63.an [x0] (by kernel_rfl) (by kernel_rfl) h

def f64.sh (Z:PZ) (x0:Value) (w:World) (Q:PQ):Prop:=
 ∃J_1:Nat→PQ,(∃m,J_1 m (.int .i64 0) w) ∧
 ∀m_1,∀t2:Value,∀w:World,J_1 m_1 t2 w→Env →
 rN π Z (Builtin.len_ #[66] 3 #[x0]) w fun t3 w=>
 rN π Z (binOp .lss 3 t2 t3) w fun t4 w=>
 cV t4 (
 False) (
 CallV π Z 158 #[x0,(.int .i64 1)] w fun t5 w=>
 CallV π Z 158 #[x0,(.int .i64 24)] w fun t6 w=>
 gW (t5) true (fun k=>k (t6) w) (fun t7 w=>
 rN π Z (pickV t5 t7 (.bool false)) w fun t8 w=>
 Q t8 w) w)
def f64.an:An:=(.q (.sq (.q (.bl (.lp [3] (.sq (.q (.c)) .leaf)))) (.q (.q (.sq .leaf .leaf)))))
theorem f64.calls {Z:PZ} {x0:Value} {w:World} {Q:PQ} (h:f64.sh Z x0 w Q):CallV π Z 64 #[x0] w Q:=
 cl Tryz.func64 f64.an [x0] (by kernel_rfl) (by kernel_rfl) h

def f65.sh (Z:PZ) (x0:Value) (w:World) (Q:PQ):Prop:=
 ∃J_1:Nat→PQ,(∃m,J_1 m (.int .i64 0) w) ∧
 ∀m_1,∀t2:Value,∀w:World,J_1 m_1 t2 w→Env →
 rN π Z (Builtin.len_ #[67] 3 #[x0]) w fun t3 w=>
 rN π Z (binOp .lss 3 t2 t3) w fun t4 w=>
 cV t4 (
 False) (
 CallV π Z 159 #[x0,(.int .i64 1)] w fun t5 w=>
 CallV π Z 159 #[x0,(.int .i64 24)] w fun t6 w=>
 gW (t5) true (fun k=>k (t6) w) (fun t7 w=>
 rN π Z (pickV t5 t7 (.bool false)) w fun t8 w=>
 Q t8 w) w)
def f65.an:An:=(.q (.sq (.q (.bl (.lp [3] (.sq (.q (.c)) .leaf)))) (.q (.q (.sq .leaf .leaf)))))
theorem f65.calls {Z:PZ} {x0:Value} {w:World} {Q:PQ} (h:f65.sh Z x0 w Q):CallV π Z 65 #[x0] w Q:=
 cl Tryz.func65 f65.an [x0] (by kernel_rfl) (by kernel_rfl) h

def f66.sh (Z:PZ) (x0:Value) (w:World) (Q:PQ):Prop:=
 ∃J_1:Nat→PQ,(∃m,J_1 m (.int .i64 0) w) ∧
 ∀m_1,∀t2:Value,∀w:World,J_1 m_1 t2 w→Env →
 rN π Z (Builtin.len_ #[68] 3 #[x0]) w fun t3 w=>
 rN π Z (binOp .lss 3 t2 t3) w fun t4 w=>
 cV t4 (
 False) (
 CallV π Z 160 #[x0,(.int .i64 1)] w fun t5 w=>
 CallV π Z 160 #[x0,(.int .i64 24)] w fun t6 w=>
 gW (t5) true (fun k=>k (t6) w) (fun t7 w=>
 rN π Z (pickV t5 t7 (.bool false)) w fun t8 w=>
 Q t8 w) w)
def f66.an:An:=(.q (.sq (.q (.bl (.lp [3] (.sq (.q (.c)) .leaf)))) (.q (.q (.sq .leaf .leaf)))))
theorem f66.calls {Z:PZ} {x0:Value} {w:World} {Q:PQ} (h:f66.sh Z x0 w Q):CallV π Z 66 #[x0] w Q:=
 cl Tryz.func66 f66.an [x0] (by kernel_rfl) (by kernel_rfl) h

def f67.sh (Z:PZ) (x0:Value) (w:World) (Q:PQ):Prop:=
 ∃J_1:Nat→PQ,(∃m,J_1 m (.int .i64 0) w) ∧
 ∀m_1,∀t2:Value,∀w:World,J_1 m_1 t2 w→Env →
 rN π Z (Builtin.len_ #[69] 3 #[x0]) w fun t3 w=>
 rN π Z (binOp .lss 3 t2 t3) w fun t4 w=>
 cV t4 (
 False) (
 CallV π Z 161 #[x0,(.int .i64 1)] w fun t5 w=>
 CallV π Z 161 #[x0,(.int .i64 24)] w fun t6 w=>
 gW (t5) true (fun k=>k (t6) w) (fun t7 w=>
 rN π Z (pickV t5 t7 (.bool false)) w fun t8 w=>
 Q t8 w) w)
def f67.an:An:=(.q (.sq (.q (.bl (.lp [3] (.sq (.q (.c)) .leaf)))) (.q (.q (.sq .leaf .leaf)))))
theorem f67.calls {Z:PZ} {x0:Value} {w:World} {Q:PQ} (h:f67.sh Z x0 w Q):CallV π Z 67 #[x0] w Q:=
 cl Tryz.func67 f67.an [x0] (by kernel_rfl) (by kernel_rfl) h

def f68.sh (Z:PZ) (x0:Value) (w:World) (Q:PQ):Prop:=
 ∃J_1:Nat→PQ,(∃m,J_1 m (.int .i64 0) w) ∧
 ∀m_1,∀t2:Value,∀w:World,J_1 m_1 t2 w→Env →
 rN π Z (Builtin.len_ #[70] 3 #[x0]) w fun t3 w=>
 rN π Z (binOp .lss 3 t2 t3) w fun t4 w=>
 cV t4 (
 False) (
 CallV π Z 162 #[x0,(.int .i64 1)] w fun t5 w=>
 CallV π Z 162 #[x0,(.int .i64 24)] w fun t6 w=>
 gW (t5) true (fun k=>k (t6) w) (fun t7 w=>
 rN π Z (pickV t5 t7 (.bool false)) w fun t8 w=>
 Q t8 w) w)
def f68.an:An:=(.q (.sq (.q (.bl (.lp [3] (.sq (.q (.c)) .leaf)))) (.q (.q (.sq .leaf .leaf)))))
theorem f68.calls {Z:PZ} {x0:Value} {w:World} {Q:PQ} (h:f68.sh Z x0 w Q):CallV π Z 68 #[x0] w Q:=
 cl Tryz.func68 f68.an [x0] (by kernel_rfl) (by kernel_rfl) h

def f70.sh (Z:PZ) (x0:Value) (w:World) (Q:PQ):Prop:=
 rN π Z (convert 23 147 x0) w fun t1 w=>
 CallV π Z 168 #[t1,(.int .i64 4)] w fun t2 w=>
 Q t2 w
def f70.an:An:=(.q (.sq .leaf .leaf))
theorem f70.calls {Z:PZ} {x0:Value} {w:World} {Q:PQ} (h:f70.sh Z x0 w Q):CallV π Z 70 #[x0] w Q:=
 cl Tryz.func70 f70.an [x0] (by kernel_rfl) (by kernel_rfl) h

def f71.sh (Z:PZ) (x0:Value) (w:World) (Q:PQ):Prop:=
 ∃J_1:Nat→Value→Value→PQ,(∃m,J_1 m (.int .i64 1) (.int .i64 0) (.int .i64 0) w) ∧
 ∀m_1,∀t2:Value,∀t3:Value,∀t4:Value,∀w:World,J_1 m_1 t2 t3 t4 w→Env →
 rN π Z (Builtin.len_ #[30] 3 #[x0]) w fun t5 w=>
 rN π Z (binOp .lss 3 t4 t5) w fun t6 w=>
 cV t6 (
 rN π Z (indexAt 30 x0 t4) w fun t7 w=>
 rN π Z (loadAt 5 t7) w fun t8 w=>
 rN π Z (convert 5 3 t8) w fun t9 w=>
 rN π Z (binOp .add 3 t2 t9) w fun t10 w=>
 ∃J_11:Nat→PQ,(∃m,J_11 m t10 w) ∧
 ∀m_11,∀t12:Value,∀w:World,J_11 m_11 t12 w→Env →
 rN π Z (binOp .geq 3 t12 (.int .i64 65521)) w fun t13 w=>
 cV t13 (
 rN π Z (binOp .sub 3 t12 (.int .i64 65521)) w fun t14 w=>
 ∃n_11,n_11 < m_11∧J_11 n_11 t14 w) (
 rN π Z (binOp .add 3 t3 t12) w fun t15 w=>
 rN π Z (binOp .rem 3 t15 (.int .i64 65521)) w fun t16 w=>
 rN π Z (binOp .add 3 t4 (.int .i64 1)) w fun t17 w=>
 ∃n_1,n_1 < m_1∧J_1 n_1 t12 t16 t17 w)) (
 rN π Z (binOp .mul 3 t3 (.int .i64 65536)) w fun t18 w=>
 rN π Z (binOp .add 3 t18 t2) w fun t19 w=>
 rN π Z (convert 3 23 t19) w fun t20 w=>
 Q t20 w)
def f71.an:An:=(.q (.q (.q (.sq (.q (.bl (.lp [3,4,5] (.sq (.q (.c)) (.sq (.bl (.q (.sq (.bl (.lp [3] (.sq (.q (.c)) (.bl .leaf)))) .leaf))) .leaf))))) (.sq .leaf .leaf)))))
theorem f71.calls {Z:PZ} {x0:Value} {w:World} {Q:PQ} (h:f71.sh Z x0 w Q):CallV π Z 71 #[x0] w Q:=
 cl Tryz.func71 f71.an [x0] (by kernel_rfl) (by kernel_rfl) h

def f72.sh (Z:PZ) (x0 x1:Value) (w:World) (Q:PQ):Prop:=
 ∃J_1:Nat→Value→PQ,(∃m,J_1 m x0 (.int .i64 0) w) ∧
 ∀m_1,∀t2:Value,∀t3:Value,∀w:World,J_1 m_1 t2 t3 w→Env →
 rN π Z (Builtin.len_ #[30] 3 #[x1]) w fun t4 w=>
 rN π Z (binOp .lss 3 t3 t4) w fun t5 w=>
 cV t5 (
 rN π Z (indexAt 30 x1 t3) w fun t6 w=>
 rN π Z (loadAt 5 t6) w fun t7 w=>
 rN π Z (Instr.buildSlice 30 1 #[(0,t7)]) w fun t8 w=>
 rN π Z (Builtin.append_ #[30,30] 30 #[t2,t8]) w fun t9 w=>
 rN π Z (binOp .add 3 t3 (.int .i64 1)) w fun t10 w=>
 ∃n_1,n_1 < m_1∧J_1 n_1 t9 t10 w) (
 Q t2 w)
def f72.an:An:=(.q (.sq (.q (.bl (.lp [0,5] (.sq (.q (.c)) (.sq (.bl .leaf) .leaf))))) (.sq .leaf .leaf)))
theorem f72.calls {Z:PZ} {x0 x1:Value} {w:World} {Q:PQ} (h:f72.sh Z x0 x1 w Q):CallV π Z 72 #[x0,x1] w Q:=
 cl Tryz.func72 f72.an [x0,x1] (by kernel_rfl) (by kernel_rfl) h

def f74.sh (Z:PZ) (x0:Value) (w:World) (Q:PQ):Prop:=
 rN π Z (Builtin.append_ #[30,30] 30 #[(.slice none 0 0),x0]) w fun t1 w=>
 rN π Z (Instr.build 239 #[(0,(.bool true)),(1,t1)]) w fun t2 w=>
 rN π Z (Instr.box 239 t2) w fun t3 w=>
 Q t3 w
def f74.an:An:=(.q (.sq .leaf .leaf))
theorem f74.calls {Z:PZ} {x0:Value} {w:World} {Q:PQ} (h:f74.sh Z x0 w Q):CallV π Z 74 #[x0] w Q:=
 cl Tryz.func74 f74.an [x0] (by kernel_rfl) (by kernel_rfl) h

def f75.sh (Z:PZ) (x0:Value) (w:World) (Q:PQ):Prop:=
 CallV π Z 169 #[x0,(.int .i64 4)] w fun t1 w=>
 rN π Z (convert 147 23 t1) w fun t2 w=>
 Q t2 w
def f75.an:An:=(.q (.sq .leaf .leaf))
theorem f75.calls {Z:PZ} {x0:Value} {w:World} {Q:PQ} (h:f75.sh Z x0 w Q):CallV π Z 75 #[x0] w Q:=
 cl Tryz.func75 f75.an [x0] (by kernel_rfl) (by kernel_rfl) h

def f76.sh (Z:PZ) (x0:Value) (w:World) (Q:PQ):Prop:=
 CallV π Z 170 #[x0] w fun t1 w=>
 cV t1 (
 Q (.int .i64 1) w) (
 runX π Z (nilChk x0) w fun t2 w=>
 rN π Z (fieldAt 239 t2 2) w fun t3 w=>
 rN π Z (loadAt 43 t3) w fun t4 w=>
 Q t4 w)
def f76.an:An:=(.q (.sq (.q (.cn (.sq .leaf .leaf) .leaf)) (.sq .leaf .leaf)))
theorem f76.calls {Z:PZ} {x0:Value} {w:World} {Q:PQ} (h:f76.sh Z x0 w Q):CallV π Z 76 #[x0] w Q:=
 cl Tryz.func76 f76.an [x0] (by kernel_rfl) (by kernel_rfl) h

def f77.sh (Z:PZ) (x0:Value) (w:World) (Q:PQ):Prop:=
 CallV π Z 169 #[x0,(.int .i64 1)] w fun t1 w=>
 rN π Z (convert 147 22 t1) w fun t2 w=>
 Q t2 w
def f77.an:An:=(.q (.sq .leaf .leaf))
theorem f77.calls {Z:PZ} {x0:Value} {w:World} {Q:PQ} (h:f77.sh Z x0 w Q):CallV π Z 77 #[x0] w Q:=
 cl Tryz.func77 f77.an [x0] (by kernel_rfl) (by kernel_rfl) h

def f78.sh (Z:PZ) (x0:Value) (w:World) (Q:PQ):Prop:=
 CallV π Z 171 #[x0] w fun t1 w=>
 gW (t1) true (fun k=>k (x0) w) (fun t2 w=>
 gW (t1) true (fun k=>runX π Z (nilChk t2) w k) (fun t3 w=>
 gW (t1) true (fun k=>rN π Z (fieldAt 239 t3 1) w k) (fun t4 w=>
 gW (t1) true (fun k=>rN π Z (loadAt 30 t4) w k) (fun t5 w=>
 gW (t1) true (fun k=>rN π Z (Builtin.len_ #[30] 3 #[t5]) w k) (fun t6 w=>
 gW (t1) true (fun k=>rN π Z (binOp .gtr 3 t6 (.int .i64 0)) w k) (fun t7 w=>
 rN π Z (pickV t1 t7 (.bool false)) w fun t8 w=>
 cV t8 (
 Q (.int .i64 13) w) (
 CallV π Z 76 #[x0] w fun t9 w=>
 Q t9 w)) w) w) w) w) w) w
def f78.an:An:=(.q (.sq (.q (.cn (.sq .leaf .leaf) .leaf)) (.sq .leaf .leaf)))
theorem f78.calls {Z:PZ} {x0:Value} {w:World} {Q:PQ} (h:f78.sh Z x0 w Q):CallV π Z 78 #[x0] w Q:=
 cl Tryz.func78 f78.an [x0] (by kernel_rfl) (by kernel_rfl) h

def f79.sh (Z:PZ) (x0:Value) (w:World) (Q:PQ):Prop:=
 rN π Z (Instr.box 35 x0) w fun t1 w=>
 rN π Z (loadAt 35 t1) w fun t2 w=>
 CallV π Z 172 #[t2,(.int .i64 0)] w fun t3 w=>
 Q t3 w
def f79.an:An:=(.q (.sq .leaf .leaf))
theorem f79.calls {Z:PZ} {x0:Value} {w:World} {Q:PQ} (h:f79.sh Z x0 w Q):CallV π Z 79 #[x0] w Q:=
 cl Tryz.func79 f79.an [x0] (by kernel_rfl) (by kernel_rfl) h

def f80.sh (Z:PZ) (x0:Value) (w:World) (Q:PQ):Prop:=
 rN π Z (Instr.box 35 x0) w fun t1 w=>
 rN π Z (Instr.alloc 35 true (.tuple #[])) w fun t2 w=>
 rN π Z (fieldAt 35 t1 2) w fun t3 w=>
 rN π Z (loadAt 30 t3) w fun t4 w=>
 CallV π Z 26 #[t4] w fun t5 w=>
 rN π Z (fieldAt 35 t1 2) w fun t6 w=>
 rO π Z (storeAt 30 t6 t5) w fun w=>
 rN π Z (fieldAt 35 t1 3) w fun t7 w=>
 rN π Z (loadAt 31 t7) w fun t8 w=>
 CallV π Z 173 #[t8] w fun t9 w=>
 rN π Z (fieldAt 35 t1 3) w fun t10 w=>
 rO π Z (storeAt 31 t10 t9) w fun w=>
 rN π Z (fieldAt 35 t1 9) w fun t11 w=>
 rN π Z (loadAt 32 t11) w fun t12 w=>
 CallV π Z 174 #[t12] w fun t13 w=>
 rN π Z (fieldAt 35 t1 9) w fun t14 w=>
 rO π Z (storeAt 32 t14 t13) w fun w=>
 rN π Z (fieldAt 35 t1 10) w fun t15 w=>
 rN π Z (loadAt 33 t15) w fun t16 w=>
 CallV π Z 175 #[t16] w fun t17 w=>
 rN π Z (fieldAt 35 t1 10) w fun t18 w=>
 rO π Z (storeAt 33 t18 t17) w fun w=>
 rN π Z (loadAt 35 t1) w fun t19 w=>
 rO π Z (storeAt 35 t2 t19) w fun w=>
 ∃r_20,(do loadVar 35 (← asAddr t2):Sem Value).run π w=.ok r_20 w ∧
 Q r_20 w
def f80.an:An:=(.q (.q (.q (.q (.q (.sq .leaf .leaf))))))
theorem f80.calls {Z:PZ} {x0:Value} {w:World} {Q:PQ} (h:f80.sh Z x0 w Q):CallV π Z 80 #[x0] w Q:=
 cl Tryz.func80 f80.an [x0] (by kernel_rfl) (by kernel_rfl) h

def f81.sh (Z:PZ) (x0:Value) (w:World) (Q:PQ):Prop:=
 rN π Z (convert 22 3 x0) w fun t1 w=>
 ∀j_2:PQ,(∀t3:Value,∀w:World,(Env →
 rN π Z (convert 3 5 t3) w fun t4 w=>
 rN π Z (Instr.buildSlice 30 1 #[(0,t4)]) w fun t5 w=>
 Q t5 w) →
 j_2 t3 w) →
 rN π Z (binOp .lss 3 t1 (.int .i64 0)) w fun t6 w=>
 cV t6 (
 rN π Z (binOp .add 3 t1 (.int .i64 256)) w fun t7 w=>
 j_2 t7 w) (
 j_2 t1 w)
def f81.an:An:=(.q (.q (.sj [3] (.q (.c)) (.sq .leaf .leaf))))
theorem f81.calls {Z:PZ} {x0:Value} {w:World} {Q:PQ} (h:f81.sh Z x0 w Q):CallV π Z 81 #[x0] w Q:=
 cl Tryz.func81 f81.an [x0] (by kernel_rfl) (by kernel_rfl) h

def f82.sh (Z:PZ) (x0 x1:Value) (w:World) (Q:PQ):Prop:=
 rN π Z (Instr.box 39 x0) w fun t1 w=>
 rN π Z (eqOp .eql 5 false true x1 (.int .u8 99)) w fun t2 w=>
 cV t2 (
 rN π Z (fieldAt 39 t1 1) w fun t3 w=>
 rN π Z (fieldAt 25 t3 0) w fun t4 w=>
 rN π Z (loadAt 23 t4) w fun t5 w=>
 rN π Z (fieldAt 39 t1 1) w fun t6 w=>
 rN π Z (fieldAt 25 t6 1) w fun t7 w=>
 rN π Z (loadAt 23 t7) w fun t8 w=>
 CallV π Z 176 #[t5,t8] w fun t9 w=>
 Q t9 w) (
 rN π Z (eqOp .eql 5 false true x1 (.int .u8 108)) w fun t10 w=>
 cV t10 (
 rN π Z (fieldAt 39 t1 2) w fun t11 w=>
 rN π Z (fieldAt 25 t11 0) w fun t12 w=>
 rN π Z (loadAt 23 t12) w fun t13 w=>
 rN π Z (fieldAt 39 t1 2) w fun t14 w=>
 rN π Z (fieldAt 25 t14 1) w fun t15 w=>
 rN π Z (loadAt 23 t15) w fun t16 w=>
 CallV π Z 176 #[t13,t16] w fun t17 w=>
 Q t17 w) (
 rN π Z (eqOp .eql 5 false true x1 (.int .u8 112)) w fun t18 w=>
 cV t18 (
 rN π Z (fieldAt 39 t1 3) w fun t19 w=>
 rN π Z (loadAt 2 t19) w fun t20 w=>
 CallV π Z 177 #[t20] w fun t21 w=>
 Q t21 w) (
 rN π Z (eqOp .eql 5 false true x1 (.int .u8 101)) w fun t22 w=>
 cV t22 (
 rN π Z (fieldAt 39 t1 4) w fun t23 w=>
 rN π Z (loadAt 23 t23) w fun t24 w=>
 CallV π Z 70 #[t24] w fun t25 w=>
 Q t25 w) (
 rN π Z (eqOp .eql 5 false true x1 (.int .u8 117)) w fun t26 w=>
 cV t26 (
 rN π Z (fieldAt 39 t1 5) w fun t27 w=>
 rN π Z (loadAt 23 t27) w fun t28 w=>
 CallV π Z 70 #[t28] w fun t29 w=>
 Q t29 w) (
 rN π Z (eqOp .eql 5 false true x1 (.int .u8 122)) w fun t30 w=>
 cV t30 (
 rN π Z (fieldAt 39 t1 6) w fun t31 w=>
 rN π Z (fieldAt 27 t31 0) w fun t32 w=>
 rN π Z (loadAt 23 t32) w fun t33 w=>
 rN π Z (fieldAt 39 t1 6) w fun t34 w=>
 rN π Z (fieldAt 27 t34 1) w fun t35 w=>
 rN π Z (loadAt 23 t35) w fun t36 w=>
 CallV π Z 176 #[t33,t36] w fun t37 w=>
 Q t37 w) (
 rN π Z (eqOp .eql 5 false true x1 (.int .u8 118)) w fun t38 w=>
 cV t38 (
 rN π Z (fieldAt 39 t1 7) w fun t39 w=>
 rN π Z (fieldAt 27 t39 0) w fun t40 w=>
 rN π Z (loadAt 23 t40) w fun t41 w=>
 rN π Z (fieldAt 39 t1 7) w fun t42 w=>
 rN π Z (fieldAt 27 t42 1) w fun t43 w=>
 rN π Z (loadAt 23 t43) w fun t44 w=>
 CallV π Z 176 #[t41,t44] w fun t45 w=>
 Q t45 w) (
 rN π Z (eqOp .eql 5 false true x1 (.int .u8 111)) w fun t46 w=>
 cV t46 (
 rN π Z (fieldAt 39 t1 8) w fun t47 w=>
 rN π Z (loadAt 4 t47) w fun t48 w=>
 CallV π Z 178 #[t48] w fun t49 w=>
 Q t49 w) (
 rN π Z (eqOp .eql 5 false true x1 (.int .u8 102)) w fun t50 w=>
 cV t50 (
 rN π Z (fieldAt 39 t1 9) w fun t51 w=>
 rN π Z (loadAt 4 t51) w fun t52 w=>
 CallV π Z 178 #[t52] w fun t53 w=>
 Q t53 w) (
 rN π Z (eqOp .eql 5 false true x1 (.int .u8 116)) w fun t54 w=>
 cV t54 (
 rN π Z (fieldAt 39 t1 10) w fun t55 w=>
 rN π Z (loadAt 37 t55) w fun t56 w=>
 CallV π Z 179 #[t56] w fun t57 w=>
 rN π Z (extract t57 0) w fun t58 w=>
 rN π Z (extract t57 1) w fun t59 w=>
 CallV π Z 180 #[t58] w fun t60 w=>
 Q t60 w) (
 rN π Z (eqOp .eql 5 false true x1 (.int .u8 98)) w fun t61 w=>
 cV t61 (
 rN π Z (fieldAt 39 t1 11) w fun t62 w=>
 rN π Z (loadAt 30 t62) w fun t63 w=>
 CallV π Z 180 #[t63] w fun t64 w=>
 Q t64 w) (
 rN π Z (fieldAt 39 t1 12) w fun t65 w=>
 rN π Z (loadAt 2 t65) w fun t66 w=>
 CallV π Z 177 #[t66] w fun t67 w=>
 Q t67 w)))))))))))
def f82.an:An:=(.q (.sq (.q (.bl (.q (.cn (.sq .leaf .leaf) (.q (.cn (.sq .leaf .leaf) (.q (.cn (.sq .leaf .leaf) (.q (.cn (.sq .leaf .leaf) (.q (.cn (.sq .leaf .leaf) (.q (.cn (.sq .leaf .leaf) (.q (.cn (.sq .leaf .leaf) (.q (.cn (.sq .leaf .leaf) (.q (.cn (.sq .leaf .leaf) (.q (.cn (.q (.sq .leaf .leaf)) (.q (.cn (.sq .leaf .leaf) .leaf)))))))))))))))))))))))) (.sq .leaf .leaf)))
theorem f82.calls {Z:PZ} {x0 x1:Value} {w:World} {Q:PQ} (h:f82.sh Z x0 x1 w Q):CallV π Z 82 #[x0,x1] w Q:=
 cl Tryz.func82 f82.an [x0,x1] (by kernel_rfl) (by kernel_rfl) h

def f83.sh (Z:PZ) (x0 x1 x2:Value) (w:World) (Q:PQ):Prop:=
 rN π Z (eqOp .eql 86 false true x0 (.pointer none)) w fun t1 w=>
 cV t1 (
 Q (Value.tuple #[]) w) (
 rN π Z (binOp .sub 3 x2 (.int .i64 1)) w fun t2 w=>
 ∃J_3:Nat→PQ,(∃m,J_3 m t2 w) ∧
 ∀m_3,∀t4:Value,∀w:World,J_3 m_3 t4 w→Env →
 rN π Z (binOp .geq 3 t4 (.int .i64 0)) w fun t5 w=>
 cV t5 (
 Drawn w fun w=>
 PureV π (nilChk x0) fun t6=>
 pU π (fieldAt 88 t6 0) fun t7=>
 rD π (loadAt 30 t7) w fun t8=>
 pU π (binOp .mul 3 (.int .i64 8) t4) fun t9=>
 pU π (binOp .shr 147 x1 t9) fun t10=>
 pU π (convert 147 5 t10) fun t11=>
 rN π Z (Instr.buildSlice 30 1 #[(0,t11)]) w fun t12 w=>
 Still π (nx (loadAt 30 t7)) t8 w <|
 rN π Z (Builtin.append_ #[30,30] 30 #[t8,t12]) w fun t13 w=>
 PureV π (nilChk x0) fun t14=>
 pU π (fieldAt 88 t14 0) fun t15=>
 rO π Z (storeAt 30 t15 t13) w fun w=>
 rN π Z (binOp .sub 3 t4 (.int .i64 1)) w fun t16 w=>
 ∃n_3,n_3 < m_3∧J_3 n_3 t16 w) (
 Q (Value.tuple #[]) w))
def f83.an:An:=(.sq (.q (.c)) (.q (.bl (.lp [6] (.sq (.q (.c)) (.sq (.bl (.dr (pl [0,4,8,12,17,20,24,28,32,36,42,46,48,52,58] .fin))) .leaf))))))
theorem f83.calls {Z:PZ} {x0 x1 x2:Value} {w:World} {Q:PQ} (h:f83.sh Z x0 x1 x2 w Q):CallV π Z 83 #[x0,x1,x2] w Q:=
 cl Tryz.func83 f83.an [x0,x1,x2] (by kernel_rfl) (by kernel_rfl) h

def f84.sh (Z:PZ) (x0:Value) (w:World) (Q:PQ):Prop:=
 Q (.bool true) w
def f84.an:An:=(.q (.sq .leaf .leaf))
theorem f84.calls {Z:PZ} {x0:Value} {w:World} {Q:PQ} (h:f84.sh Z x0 w Q):CallV π Z 84 #[x0] w Q:=
 cl Tryz.func84 f84.an [x0] (by kernel_rfl) (by kernel_rfl) h

def f85.sh (Z:PZ) (w:World) (Q:PQ):Prop:=
 rN π Z (Instr.build 96 #[(0,(.int .i64 1)),(1,(.func (.func 181) #[] #[])),(2,(.func (.func 183) #[] #[])),(3,(.func (.func 185) #[] #[]))]) w fun t1 w=>
 rN π Z (Instr.build 96 #[(0,(.int .i64 2)),(1,(.func (.func 187) #[] #[])),(2,(.func (.func 188) #[] #[])),(3,(.func (.func 189) #[] #[]))]) w fun t2 w=>
 rN π Z (Instr.build 96 #[(0,(.int .i64 4)),(1,(.func (.func 190) #[] #[])),(2,(.func (.func 191) #[] #[])),(3,(.func (.func 192) #[] #[]))]) w fun t3 w=>
 rN π Z (Instr.buildSlice 90 3 #[(0,t1),(1,t2),(2,t3)]) w fun t4 w=>
 Q t4 w
def f85.an:An:=(.q (.sq .leaf .leaf))
theorem f85.calls {Z:PZ} {w:World} {Q:PQ} (h:f85.sh Z  w Q):CallV π Z 85 #[] w Q:=
 cl Tryz.func85 f85.an [] (by kernel_rfl) (by kernel_rfl) h

def f86.sh (Z:PZ) (x0 x1:Value) (w:World) (Q:PQ):Prop:=
 runX π Z (nilChk x1) w fun t1 w=>
 rN π Z (fieldAt 39 t1 4) w fun t2 w=>
 rN π Z (loadAt 23 t2) w fun t3 w=>
 CallV π Z 33 #[x0,t3] w fun t4 w=>
 Q (Value.tuple #[]) w
def f86.an:An:=.leaf
theorem f86.calls {Z:PZ} {x0 x1:Value} {w:World} {Q:PQ} (h:f86.sh Z x0 x1 w Q):CallV π Z 86 #[x0,x1] w Q:=
 cl Tryz.func86 f86.an [x0,x1] (by kernel_rfl) (by kernel_rfl) h

def f87.sh (Z:PZ) (x0 x1:Value) (w:World) (Q:PQ):Prop:=
 CallV π Z 75 #[x0] w fun t1 w=>
 runX π Z (nilChk x1) w fun t2 w=>
 rN π Z (fieldAt 39 t2 4) w fun t3 w=>
 rO π Z (storeAt 23 t3 t1) w fun w=>
 Q (Value.tuple #[]) w
def f87.an:An:=.leaf
theorem f87.calls {Z:PZ} {x0 x1:Value} {w:World} {Q:PQ} (h:f87.sh Z x0 x1 w Q):CallV π Z 87 #[x0,x1] w Q:=
 cl Tryz.func87 f87.an [x0,x1] (by kernel_rfl) (by kernel_rfl) h

def f88.sh (Z:PZ) (x0:Value) (w:World) (Q:PQ):Prop:=
 runX π Z (nilChk x0) w fun t1 w=>
 rN π Z (fieldAt 39 t1 4) w fun t2 w=>
 rN π Z (loadAt 23 t2) w fun t3 w=>
 rN π Z (binOp .leq 23 t3 (.int .u32 2147483647)) w fun t4 w=>
 gW (t4) true (fun k=>k (x0) w) (fun t5 w=>
 gW (t4) true (fun k=>runX π Z (nilChk t5) w k) (fun t6 w=>
 gW (t4) true (fun k=>rN π Z (fieldAt 39 t6 4) w k) (fun t7 w=>
 gW (t4) true (fun k=>rN π Z (loadAt 23 t7) w k) (fun t8 w=>
 gW (t4) true (fun k=>rN π Z (binOp .gtr 23 t8 (.int .u32 0)) w k) (fun t9 w=>
 gW (t4) true (fun k=>k (t9) w) (fun t10 w=>
 gW (t10) false (fun k=>k (x0) w) (fun t11 w=>
 gW (t10) false (fun k=>runX π Z (nilChk t11) w k) (fun t12 w=>
 gW (t10) false (fun k=>rN π Z (fieldAt 39 t12 0) w k) (fun t13 w=>
 gW (t10) false (fun k=>rN π Z (loadAt 22 t13) w k) (fun t14 w=>
 gW (t10) false (fun k=>rN π Z (eqOp .eql 22 false true t14 (.int .i8 1)) w k) (fun t15 w=>
 gW (t4) true (fun k=>rN π Z (pickV t10 (.bool true) t15) w k) (fun t16 w=>
 rN π Z (pickV t4 t16 (.bool false)) w fun t17 w=>
 Q t17 w) w) w) w) w) w) w) w) w) w) w) w) w
def f88.an:An:=(.q (.sq .leaf .leaf))
theorem f88.calls {Z:PZ} {x0:Value} {w:World} {Q:PQ} (h:f88.sh Z x0 w Q):CallV π Z 88 #[x0] w Q:=
 cl Tryz.func88 f88.an [x0] (by kernel_rfl) (by kernel_rfl) h

def f89.sh (Z:PZ) (x0 x1:Value) (w:World) (Q:PQ):Prop:=
 runX π Z (nilChk x1) w fun t1 w=>
 rN π Z (fieldAt 39 t1 5) w fun t2 w=>
 rN π Z (loadAt 23 t2) w fun t3 w=>
 CallV π Z 33 #[x0,t3] w fun t4 w=>
 Q (Value.tuple #[]) w
def f89.an:An:=.leaf
theorem f89.calls {Z:PZ} {x0 x1:Value} {w:World} {Q:PQ} (h:f89.sh Z x0 x1 w Q):CallV π Z 89 #[x0,x1] w Q:=
 cl Tryz.func89 f89.an [x0,x1] (by kernel_rfl) (by kernel_rfl) h

def f90.sh (Z:PZ) (x0 x1:Value) (w:World) (Q:PQ):Prop:=
 CallV π Z 75 #[x0] w fun t1 w=>
 runX π Z (nilChk x1) w fun t2 w=>
 rN π Z (fieldAt 39 t2 5) w fun t3 w=>
 rO π Z (storeAt 23 t3 t1) w fun w=>
 Q (Value.tuple #[]) w
def f90.an:An:=.leaf
theorem f90.calls {Z:PZ} {x0 x1:Value} {w:World} {Q:PQ} (h:f90.sh Z x0 x1 w Q):CallV π Z 90 #[x0,x1] w Q:=
 cl Tryz.func90 f90.an [x0,x1] (by kernel_rfl) (by kernel_rfl) h

def f91.sh (Z:PZ) (x0:Value) (w:World) (Q:PQ):Prop:=
 runX π Z (nilChk x0) w fun t1 w=>
 rN π Z (fieldAt 39 t1 5) w fun t2 w=>
 rN π Z (loadAt 23 t2) w fun t3 w=>
 rN π Z (binOp .leq 23 t3 (.int .u32 2147483647)) w fun t4 w=>
 Q t4 w
def f91.an:An:=(.q (.sq .leaf .leaf))
theorem f91.calls {Z:PZ} {x0:Value} {w:World} {Q:PQ} (h:f91.sh Z x0 w Q):CallV π Z 91 #[x0] w Q:=
 cl Tryz.func91 f91.an [x0] (by kernel_rfl) (by kernel_rfl) h

def f92.sh (Z:PZ) (x0 x1:Value) (w:World) (Q:PQ):Prop:=
 runX π Z (nilChk x1) w fun t1 w=>
 rN π Z (fieldAt 39 t1 6) w fun t2 w=>
 rN π Z (loadAt 27 t2) w fun t3 w=>
 CallV π Z 93 #[x0,t3] w fun t4 w=>
 Q (Value.tuple #[]) w
def f92.an:An:=.leaf
theorem f92.calls {Z:PZ} {x0 x1:Value} {w:World} {Q:PQ} (h:f92.sh Z x0 x1 w Q):CallV π Z 92 #[x0,x1] w Q:=
 cl Tryz.func92 f92.an [x0,x1] (by kernel_rfl) (by kernel_rfl) h

def f93.sh (Z:PZ) (x0 x1:Value) (w:World) (Q:PQ):Prop:=
 rN π Z (Instr.box 27 x1) w fun t1 w=>
 rN π Z (fieldAt 27 t1 0) w fun t2 w=>
 rN π Z (loadAt 23 t2) w fun t3 w=>
 CallV π Z 33 #[x0,t3] w fun t4 w=>
 rN π Z (fieldAt 27 t1 1) w fun t5 w=>
 rN π Z (loadAt 23 t5) w fun t6 w=>
 CallV π Z 33 #[x0,t6] w fun t7 w=>
 Q (Value.tuple #[]) w
def f93.an:An:=(.q (.sq .leaf .leaf))
theorem f93.calls {Z:PZ} {x0 x1:Value} {w:World} {Q:PQ} (h:f93.sh Z x0 x1 w Q):CallV π Z 93 #[x0,x1] w Q:=
 cl Tryz.func93 f93.an [x0,x1] (by kernel_rfl) (by kernel_rfl) h

def f94.sh (Z:PZ) (x0 x1:Value) (w:World) (Q:PQ):Prop:=
 CallV π Z 95 #[x0] w fun t1 w=>
 runX π Z (nilChk x1) w fun t2 w=>
 rN π Z (fieldAt 39 t2 6) w fun t3 w=>
 rO π Z (storeAt 27 t3 t1) w fun w=>
 Q (Value.tuple #[]) w
def f94.an:An:=.leaf
theorem f94.calls {Z:PZ} {x0 x1:Value} {w:World} {Q:PQ} (h:f94.sh Z x0 x1 w Q):CallV π Z 94 #[x0,x1] w Q:=
 cl Tryz.func94 f94.an [x0,x1] (by kernel_rfl) (by kernel_rfl) h

def f95.sh (Z:PZ) (x0:Value) (w:World) (Q:PQ):Prop:=
 rN π Z (Instr.alloc 27 true (.tuple #[])) w fun t1 w=>
 CallV π Z 75 #[x0] w fun t2 w=>
 CallV π Z 75 #[x0] w fun t3 w=>
 rN π Z (Instr.build 27 #[(0,t2),(1,t3)]) w fun t4 w=>
 rO π Z (storeAt 27 t1 t4) w fun w=>
 ∃r_5,(do loadVar 27 (← asAddr t1):Sem Value).run π w=.ok r_5 w ∧
 Q r_5 w
def f95.an:An:=(.q (.sq .leaf .leaf))
theorem f95.calls {Z:PZ} {x0:Value} {w:World} {Q:PQ} (h:f95.sh Z x0 w Q):CallV π Z 95 #[x0] w Q:=
 cl Tryz.func95 f95.an [x0] (by kernel_rfl) (by kernel_rfl) h

def f96.sh (Z:PZ) (x0:Value) (w:World) (Q:PQ):Prop:=
 runX π Z (nilChk x0) w fun t1 w=>
 rN π Z (fieldAt 39 t1 0) w fun t2 w=>
 rN π Z (loadAt 22 t2) w fun t3 w=>
 rN π Z (eqOp .neq 22 false true t3 (.int .i8 11)) w fun t4 w=>
 gW (t4) true (fun k=>k (x0) w) (fun t5 w=>
 gW (t4) true (fun k=>runX π Z (nilChk t5) w k) (fun t6 w=>
 gW (t4) true (fun k=>rN π Z (fieldAt 39 t6 0) w k) (fun t7 w=>
 gW (t4) true (fun k=>rN π Z (loadAt 22 t7) w k) (fun t8 w=>
 gW (t4) true (fun k=>rN π Z (eqOp .neq 22 false true t8 (.int .i8 12)) w k) (fun t9 w=>
 rN π Z (pickV t4 t9 (.bool false)) w fun t10 w=>
 gW (t10) false (fun k=>k (x0) w) (fun t11 w=>
 gW (t10) false (fun k=>runX π Z (nilChk t11) w k) (fun t12 w=>
 gW (t10) false (fun k=>rN π Z (fieldAt 39 t12 6) w k) (fun t13 w=>
 gW (t10) false (fun k=>rN π Z (loadAt 27 t13) w k) (fun t14 w=>
 gW (t10) false (fun k=>rN π Z (Instr.build 27 #[]) w k) (fun t15 w=>
 gW (t10) false (fun k=>rN π Z (eqOp .neq 27 false false t14 t15) w k) (fun t16 w=>
 rN π Z (pickV t10 (.bool true) t16) w fun t17 w=>
 gW (t17) true (fun k=>k (x0) w) (fun t18 w=>
 gW (t17) true (fun k=>runX π Z (nilChk t18) w k) (fun t19 w=>
 gW (t17) true (fun k=>rN π Z (fieldAt 39 t19 6) w k) (fun t20 w=>
 gW (t17) true (fun k=>rN π Z (loadAt 27 t20) w k) (fun t21 w=>
 gW (t17) true (fun k=>CallV π Z 100 #[t21] w k) (fun t22 w=>
 rN π Z (pickV t17 t22 (.bool false)) w fun t23 w=>
 Q t23 w) w) w) w) w) w) w) w) w) w) w) w) w) w) w) w) w
def f96.an:An:=(.q (.q (.sq .leaf .leaf)))
theorem f96.calls {Z:PZ} {x0:Value} {w:World} {Q:PQ} (h:f96.sh Z x0 w Q):CallV π Z 96 #[x0] w Q:=
 cl Tryz.func96 f96.an [x0] (by kernel_rfl) (by kernel_rfl) h

def f97.sh (Z:PZ) (x0 x1:Value) (w:World) (Q:PQ):Prop:=
 runX π Z (nilChk x1) w fun t1 w=>
 rN π Z (fieldAt 39 t1 7) w fun t2 w=>
 rN π Z (loadAt 27 t2) w fun t3 w=>
 CallV π Z 93 #[x0,t3] w fun t4 w=>
 Q (Value.tuple #[]) w
def f97.an:An:=.leaf
theorem f97.calls {Z:PZ} {x0 x1:Value} {w:World} {Q:PQ} (h:f97.sh Z x0 x1 w Q):CallV π Z 97 #[x0,x1] w Q:=
 cl Tryz.func97 f97.an [x0,x1] (by kernel_rfl) (by kernel_rfl) h

def f98.sh (Z:PZ) (x0 x1:Value) (w:World) (Q:PQ):Prop:=
 CallV π Z 95 #[x0] w fun t1 w=>
 runX π Z (nilChk x1) w fun t2 w=>
 rN π Z (fieldAt 39 t2 7) w fun t3 w=>
 rO π Z (storeAt 27 t3 t1) w fun w=>
 Q (Value.tuple #[]) w
def f98.an:An:=.leaf
theorem f98.calls {Z:PZ} {x0 x1:Value} {w:World} {Q:PQ} (h:f98.sh Z x0 x1 w Q):CallV π Z 98 #[x0,x1] w Q:=
 cl Tryz.func98 f98.an [x0,x1] (by kernel_rfl) (by kernel_rfl) h

def f99.sh (Z:PZ) (x0:Value) (w:World) (Q:PQ):Prop:=
 runX π Z (nilChk x0) w fun t1 w=>
 rN π Z (fieldAt 39 t1 7) w fun t2 w=>
 rN π Z (loadAt 27 t2) w fun t3 w=>
 CallV π Z 100 #[t3] w fun t4 w=>
 Q t4 w
def f99.an:An:=(.q (.sq .leaf .leaf))
theorem f99.calls {Z:PZ} {x0:Value} {w:World} {Q:PQ} (h:f99.sh Z x0 w Q):CallV π Z 99 #[x0] w Q:=
 cl Tryz.func99 f99.an [x0] (by kernel_rfl) (by kernel_rfl) h

def f100.sh (Z:PZ) (x0:Value) (w:World) (Q:PQ):Prop:=
 rN π Z (Instr.box 27 x0) w fun t1 w=>
 rN π Z (loadAt 27 t1) w fun t2 w=>
 rN π Z (Instr.build 27 #[]) w fun t3 w=>
 rN π Z (eqOp .eql 27 false false t2 t3) w fun t4 w=>
 gW (t4) false (fun k=>rN π Z (fieldAt 27 t1 0) w k) (fun t5 w=>
 gW (t4) false (fun k=>rN π Z (loadAt 23 t5) w k) (fun t6 w=>
 gW (t4) false (fun k=>rN π Z (binOp .gtr 23 t6 (.int .u32 0)) w k) (fun t7 w=>
 gW (t4) false (fun k=>k (t7) w) (fun t8 w=>
 gW (t8) true (fun k=>rN π Z (fieldAt 27 t1 0) w k) (fun t9 w=>
 gW (t8) true (fun k=>rN π Z (loadAt 23 t9) w k) (fun t10 w=>
 gW (t8) true (fun k=>rN π Z (binOp .leq 23 t10 (.int .u32 2147483647)) w k) (fun t11 w=>
 gW (t4) false (fun k=>rN π Z (pickV t8 t11 (.bool false)) w k) (fun t12 w=>
 gW (t4) false (fun k=>k (t12) w) (fun t13 w=>
 gW (t13) true (fun k=>rN π Z (fieldAt 27 t1 1) w k) (fun t14 w=>
 gW (t13) true (fun k=>rN π Z (loadAt 23 t14) w k) (fun t15 w=>
 gW (t13) true (fun k=>rN π Z (binOp .gtr 23 t15 (.int .u32 0)) w k) (fun t16 w=>
 gW (t4) false (fun k=>rN π Z (pickV t13 t16 (.bool false)) w k) (fun t17 w=>
 rN π Z (pickV t4 (.bool true) t17) w fun t18 w=>
 Q t18 w) w) w) w) w) w) w) w) w) w) w) w) w) w
def f100.an:An:=(.q (.sq .leaf .leaf))
theorem f100.calls {Z:PZ} {x0:Value} {w:World} {Q:PQ} (h:f100.sh Z x0 w Q):CallV π Z 100 #[x0] w Q:=
 cl Tryz.func100 f100.an [x0] (by kernel_rfl) (by kernel_rfl) h

def f101.sh (Z:PZ) (x0 x1:Value) (w:World) (Q:PQ):Prop:=
 runX π Z (nilChk x1) w fun t1 w=>
 rN π Z (fieldAt 39 t1 8) w fun t2 w=>
 rN π Z (loadAt 4 t2) w fun t3 w=>
 CallV π Z 102 #[x0,t3] w fun t4 w=>
 Q (Value.tuple #[]) w
def f101.an:An:=.leaf
theorem f101.calls {Z:PZ} {x0 x1:Value} {w:World} {Q:PQ} (h:f101.sh Z x0 x1 w Q):CallV π Z 101 #[x0,x1] w Q:=
 cl Tryz.func101 f101.an [x0,x1] (by kernel_rfl) (by kernel_rfl) h

def f102.sh (Z:PZ) (x0 x1:Value) (w:World) (Q:PQ):Prop:=
 ∀j_1:PQ,(∀t2:Value,∀w:World,(Env →
 CallV π Z 83 #[x0,t2,(.int .i64 1)] w fun t3 w=>
 Q (Value.tuple #[]) w) →
 j_1 t2 w) →
 cV x1 (
 j_1 (.int .u64 1) w) (
 j_1 (.int .u64 0) w)
def f102.an:An:=(.q (.sj [4] (.q (.c)) .leaf))
theorem f102.calls {Z:PZ} {x0 x1:Value} {w:World} {Q:PQ} (h:f102.sh Z x0 x1 w Q):CallV π Z 102 #[x0,x1] w Q:=
 cl Tryz.func102 f102.an [x0,x1] (by kernel_rfl) (by kernel_rfl) h

def f103.sh (Z:PZ) (x0 x1:Value) (w:World) (Q:PQ):Prop:=
 CallV π Z 104 #[x0] w fun t1 w=>
 runX π Z (nilChk x1) w fun t2 w=>
 rN π Z (fieldAt 39 t2 8) w fun t3 w=>
 rO π Z (storeAt 4 t3 t1) w fun w=>
 Q (Value.tuple #[]) w
def f103.an:An:=.leaf
theorem f103.calls {Z:PZ} {x0 x1:Value} {w:World} {Q:PQ} (h:f103.sh Z x0 x1 w Q):CallV π Z 103 #[x0,x1] w Q:=
 cl Tryz.func103 f103.an [x0,x1] (by kernel_rfl) (by kernel_rfl) h

def f104.sh (Z:PZ) (x0:Value) (w:World) (Q:PQ):Prop:=
 CallV π Z 193 #[x0,(.int .i64 1)] w fun t1 w=>
 rN π Z (extract t1 0) w fun t2 w=>
 rN π Z (extract t1 1) w fun t3 w=>
 rN π Z (Op.unary .not t3) w fun t4 w=>
 cV t4 (
 Q (.bool false) w) (
 rN π Z (indexAt 30 t2 (.int .i64 0)) w fun t5 w=>
 rN π Z (loadAt 5 t5) w fun t6 w=>
 rN π Z (binOp .gtr 5 t6 (.int .u8 1)) w fun t7 w=>
 cV t7 (
 runX π Z (nilChk x0) w fun t8 w=>
 rN π Z (fieldAt 239 t8 2) w fun t9 w=>
 rO π Z (storeAt 43 t9 (.int .i64 12)) w fun w=>
 Q (.bool false) w) (
 runX π Z (nilChk x0) w fun t10 w=>
 rN π Z (fieldAt 239 t10 1) w fun t11 w=>
 rN π Z (loadAt 30 t11) w fun t12 w=>
 rN π Z (Instr.sliceAt 30 t12 (some (.int .i64 1)) none none) w fun t13 w=>
 runX π Z (nilChk x0) w fun t14 w=>
 rN π Z (fieldAt 239 t14 1) w fun t15 w=>
 rO π Z (storeAt 30 t15 t13) w fun w=>
 rN π Z (indexAt 30 t2 (.int .i64 0)) w fun t16 w=>
 rN π Z (loadAt 5 t16) w fun t17 w=>
 rN π Z (eqOp .eql 5 false true t17 (.int .u8 1)) w fun t18 w=>
 Q t18 w))
def f104.an:An:=(.q (.q (.sq (.q (.cn (.sq .leaf .leaf) .leaf)) (.sq (.q (.cn (.q (.sq .leaf .leaf)) .leaf)) (.q (.sq .leaf .leaf))))))
theorem f104.calls {Z:PZ} {x0:Value} {w:World} {Q:PQ} (h:f104.sh Z x0 w Q):CallV π Z 104 #[x0] w Q:=
 cl Tryz.func104 f104.an [x0] (by kernel_rfl) (by kernel_rfl) h

def f105.sh (Z:PZ) (x0 x1:Value) (w:World) (Q:PQ):Prop:=
 runX π Z (nilChk x1) w fun t1 w=>
 rN π Z (fieldAt 39 t1 9) w fun t2 w=>
 rN π Z (loadAt 4 t2) w fun t3 w=>
 CallV π Z 102 #[x0,t3] w fun t4 w=>
 Q (Value.tuple #[]) w
def f105.an:An:=.leaf
theorem f105.calls {Z:PZ} {x0 x1:Value} {w:World} {Q:PQ} (h:f105.sh Z x0 x1 w Q):CallV π Z 105 #[x0,x1] w Q:=
 cl Tryz.func105 f105.an [x0,x1] (by kernel_rfl) (by kernel_rfl) h

def f106.sh (Z:PZ) (x0 x1:Value) (w:World) (Q:PQ):Prop:=
 CallV π Z 104 #[x0] w fun t1 w=>
 runX π Z (nilChk x1) w fun t2 w=>
 rN π Z (fieldAt 39 t2 9) w fun t3 w=>
 rO π Z (storeAt 4 t3 t1) w fun w=>
 Q (Value.tuple #[]) w
def f106.an:An:=.leaf
theorem f106.calls {Z:PZ} {x0 x1:Value} {w:World} {Q:PQ} (h:f106.sh Z x0 x1 w Q):CallV π Z 106 #[x0,x1] w Q:=
 cl Tryz.func106 f106.an [x0,x1] (by kernel_rfl) (by kernel_rfl) h

def f107.sh (Z:PZ) (x0 x1:Value) (w:World) (Q:PQ):Prop:=
 runX π Z (nilChk x1) w fun t1 w=>
 rN π Z (fieldAt 39 t1 10) w fun t2 w=>
 rN π Z (loadAt 37 t2) w fun t3 w=>
 CallV π Z 194 #[t3] w fun t4 w=>
 rN π Z (extract t4 0) w fun t5 w=>
 rN π Z (extract t4 1) w fun t6 w=>
 ∀j_7:World→Prop,(∀w:World,(Env →
 CallV π Z 111 #[x0,t5] w fun t8 w=>
 Q (Value.tuple #[]) w) →
 j_7 w) →
 rN π Z (eqOp .neq 43 false true t6 (.int .i64 0)) w fun t9 w=>
 cV t9 (
 rN π Z (Instr.build 134 #[]) w fun t10 w=>
 rN π Z (Instr.makeInterface 134 t10) w fun t11 w=>
 rN π Z (Instr.panic t11) w fun _ w=>
 j_7 w) (
 j_7 w)
def f107.an:An:=(.q (.sj [] (.q (.c)) .leaf))
theorem f107.calls {Z:PZ} {x0 x1:Value} {w:World} {Q:PQ} (h:f107.sh Z x0 x1 w Q):CallV π Z 107 #[x0,x1] w Q:=
 cl Tryz.func107 f107.an [x0,x1] (by kernel_rfl) (by kernel_rfl) h

def f108.sh (Z:PZ) (x0 x1:Value) (w:World) (Q:PQ):Prop:=
 CallV π Z 113 #[x0,(.int .i64 4096)] w fun t1 w=>
 CallV π Z 195 #[t1] w fun t2 w=>
 rN π Z (extract t2 0) w fun t3 w=>
 rN π Z (extract t2 1) w fun t4 w=>
 rN π Z (Instr.alloc 37 true (.tuple #[])) w fun t5 w=>
 rO π Z (storeAt 37 t5 t3) w fun w=>
 ∀j_6:World→Prop,(∀w:World,(Env →
 rN π Z (loadAt 37 t5) w fun t7 w=>
 runX π Z (nilChk x1) w fun t8 w=>
 rN π Z (fieldAt 39 t8 10) w fun t9 w=>
 rO π Z (storeAt 37 t9 t7) w fun w=>
 Q (Value.tuple #[]) w) →
 j_6 w) →
 rN π Z (eqOp .neq 43 false true t4 (.int .i64 0)) w fun t10 w=>
 cV t10 (
 rN π Z (Instr.build 134 #[]) w fun t11 w=>
 rN π Z (Instr.makeInterface 134 t11) w fun t12 w=>
 rN π Z (Instr.panic t12) w fun _ w=>
 j_6 w) (
 j_6 w)
def f108.an:An:=(.q (.sj [] (.q (.c)) .leaf))
theorem f108.calls {Z:PZ} {x0 x1:Value} {w:World} {Q:PQ} (h:f108.sh Z x0 x1 w Q):CallV π Z 108 #[x0,x1] w Q:=
 cl Tryz.func108 f108.an [x0,x1] (by kernel_rfl) (by kernel_rfl) h

def f109.sh (Z:PZ) (x0:Value) (w:World) (Q:PQ):Prop:=
 runX π Z (nilChk x0) w fun t1 w=>
 rN π Z (fieldAt 39 t1 10) w fun t2 w=>
 rN π Z (loadAt 37 t2) w fun t3 w=>
 CallV π Z 196 #[t3] w fun t4 w=>
 rN π Z (eqOp .neq 43 false true t4 (.int .i64 0)) w fun t5 w=>
 cV t5 (
 Q (.bool false) w) (
 runX π Z (nilChk x0) w fun t6 w=>
 rN π Z (fieldAt 39 t6 0) w fun t7 w=>
 rN π Z (loadAt 22 t7) w fun t8 w=>
 rN π Z (eqOp .eql 22 false true t8 (.int .i8 13)) w fun t9 w=>
 cV t9 (
 runX π Z (nilChk x0) w fun t10 w=>
 rN π Z (fieldAt 39 t10 10) w fun t11 w=>
 rN π Z (fieldAt 37 t11 0) w fun t12 w=>
 rN π Z (loadAt 27 t12) w fun t13 w=>
 rN π Z (Instr.build 27 #[]) w fun t14 w=>
 rN π Z (eqOp .eql 27 false false t13 t14) w fun t15 w=>
 gW (t15) true (fun k=>k (x0) w) (fun t16 w=>
 gW (t15) true (fun k=>runX π Z (nilChk t16) w k) (fun t17 w=>
 gW (t15) true (fun k=>rN π Z (fieldAt 39 t17 10) w k) (fun t18 w=>
 gW (t15) true (fun k=>rN π Z (fieldAt 37 t18 1) w k) (fun t19 w=>
 gW (t15) true (fun k=>rN π Z (fieldAt 29 t19 2) w k) (fun t20 w=>
 gW (t15) true (fun k=>rN π Z (loadAt 2 t20) w k) (fun t21 w=>
 gW (t15) true (fun k=>rN π Z (binOp .gtr 2 t21 (.int .i64 0)) w k) (fun t22 w=>
 rN π Z (pickV t15 t22 (.bool false)) w fun t23 w=>
 Q t23 w) w) w) w) w) w) w) w) (
 Drawn w fun w=>
 PureV π (nilChk x0) fun t24=>
 pU π (fieldAt 39 t24 7) fun t25=>
 rD π (loadAt 27 t25) w fun t26=>
 PureV π (nilChk x0) fun t27=>
 pU π (fieldAt 39 t27 10) fun t28=>
 pU π (fieldAt 37 t28 0) fun t29=>
 rD π (loadAt 27 t29) w fun t30=>
 CallV π Z 197 #[t26,t30] w fun t31 w=>
 pU π (binOp .lss 3 t31 (.int .i64 0)) fun t32=>
 Q t32 w))
def f109.an:An:=(.q (.sq (.q (.cn (.sq .leaf .leaf) .leaf)) (.sq (.q (.cn (.sq .leaf .leaf) .leaf)) (.sq (.dr (pl [0,4,8,13,16,20,24,28,33,38,40,44] .fin)) .leaf))))
theorem f109.calls {Z:PZ} {x0:Value} {w:World} {Q:PQ} (h:f109.sh Z x0 w Q):CallV π Z 109 #[x0] w Q:=
 cl Tryz.func109 f109.an [x0] (by kernel_rfl) (by kernel_rfl) h

def f110.sh (Z:PZ) (x0 x1:Value) (w:World) (Q:PQ):Prop:=
 runX π Z (nilChk x1) w fun t1 w=>
 rN π Z (fieldAt 39 t1 11) w fun t2 w=>
 rN π Z (loadAt 30 t2) w fun t3 w=>
 CallV π Z 111 #[x0,t3] w fun t4 w=>
 Q (Value.tuple #[]) w
def f110.an:An:=.leaf
theorem f110.calls {Z:PZ} {x0 x1:Value} {w:World} {Q:PQ} (h:f110.sh Z x0 x1 w Q):CallV π Z 110 #[x0,x1] w Q:=
 cl Tryz.func110 f110.an [x0,x1] (by kernel_rfl) (by kernel_rfl) h

def f111.sh (Z:PZ) (x0 x1:Value) (w:World) (Q:PQ):Prop:=
 rN π Z (eqOp .eql 86 false true x0 (.pointer none)) w fun t1 w=>
 cV t1 (
 Q (Value.tuple #[]) w) (
 rN π Z (Builtin.len_ #[30] 3 #[x1]) w fun t2 w=>
 rN π Z (convert 3 21 t2) w fun t3 w=>
 CallV π Z 198 #[x0,t3] w fun t4 w=>
 CallV π Z 35 #[x0,x1] w fun t5 w=>
 Q (Value.tuple #[]) w)
def f111.an:An:=(.sq (.q (.c)) (.sq .leaf .leaf))
theorem f111.calls {Z:PZ} {x0 x1:Value} {w:World} {Q:PQ} (h:f111.sh Z x0 x1 w Q):CallV π Z 111 #[x0,x1] w Q:=
 cl Tryz.func111 f111.an [x0,x1] (by kernel_rfl) (by kernel_rfl) h

def f112.sh (Z:PZ) (x0 x1:Value) (w:World) (Q:PQ):Prop:=
 CallV π Z 113 #[x0,(.int .i64 4096)] w fun t1 w=>
 runX π Z (nilChk x1) w fun t2 w=>
 rN π Z (fieldAt 39 t2 11) w fun t3 w=>
 rO π Z (storeAt 30 t3 t1) w fun w=>
 Q (Value.tuple #[]) w
def f112.an:An:=.leaf
theorem f112.calls {Z:PZ} {x0 x1:Value} {w:World} {Q:PQ} (h:f112.sh Z x0 x1 w Q):CallV π Z 112 #[x0,x1] w Q:=
 cl Tryz.func112 f112.an [x0,x1] (by kernel_rfl) (by kernel_rfl) h

def f113.sh (Z:PZ) (x0 x1:Value) (w:World) (Q:PQ):Prop:=
 CallV π Z 199 #[x0,x1] w fun t1 w=>
 rN π Z (Builtin.append_ #[30,30] 30 #[(.slice none 0 0),t1]) w fun t2 w=>
 Q t2 w
def f113.an:An:=(.q (.sq .leaf .leaf))
theorem f113.calls {Z:PZ} {x0 x1:Value} {w:World} {Q:PQ} (h:f113.sh Z x0 x1 w Q):CallV π Z 113 #[x0,x1] w Q:=
 cl Tryz.func113 f113.an [x0,x1] (by kernel_rfl) (by kernel_rfl) h

def f114.sh (Z:PZ) (x0:Value) (w:World) (Q:PQ):Prop:=
 runX π Z (nilChk x0) w fun t1 w=>
 rN π Z (fieldAt 39 t1 11) w fun t2 w=>
 rN π Z (loadAt 30 t2) w fun t3 w=>
 rN π Z (Builtin.len_ #[30] 3 #[t3]) w fun t4 w=>
 rN π Z (binOp .gtr 3 t4 (.int .i64 0)) w fun t5 w=>
 gW (t5) true (fun k=>k (x0) w) (fun t6 w=>
 gW (t5) true (fun k=>runX π Z (nilChk t6) w k) (fun t7 w=>
 gW (t5) true (fun k=>rN π Z (fieldAt 39 t7 11) w k) (fun t8 w=>
 gW (t5) true (fun k=>rN π Z (loadAt 30 t8) w k) (fun t9 w=>
 gW (t5) true (fun k=>rN π Z (Builtin.len_ #[30] 3 #[t9]) w k) (fun t10 w=>
 gW (t5) true (fun k=>rN π Z (binOp .leq 3 t10 (.int .i64 4096)) w k) (fun t11 w=>
 rN π Z (pickV t5 t11 (.bool false)) w fun t12 w=>
 Q t12 w) w) w) w) w) w) w
def f114.an:An:=(.q (.sq .leaf .leaf))
theorem f114.calls {Z:PZ} {x0:Value} {w:World} {Q:PQ} (h:f114.sh Z x0 w Q):CallV π Z 114 #[x0] w Q:=
 cl Tryz.func114 f114.an [x0] (by kernel_rfl) (by kernel_rfl) h

def f115.sh (Z:PZ) (x0 x1:Value) (w:World) (Q:PQ):Prop:=
 runX π Z (nilChk x1) w fun t1 w=>
 rN π Z (fieldAt 39 t1 12) w fun t2 w=>
 rN π Z (loadAt 2 t2) w fun t3 w=>
 CallV π Z 116 #[x0,t3] w fun t4 w=>
 Q (Value.tuple #[]) w
def f115.an:An:=.leaf
theorem f115.calls {Z:PZ} {x0 x1:Value} {w:World} {Q:PQ} (h:f115.sh Z x0 x1 w Q):CallV π Z 115 #[x0,x1] w Q:=
 cl Tryz.func115 f115.an [x0,x1] (by kernel_rfl) (by kernel_rfl) h

def f116.sh (Z:PZ) (x0 x1:Value) (w:World) (Q:PQ):Prop:=
 rN π Z (convert 2 147 x1) w fun t1 w=>
 CallV π Z 83 #[x0,t1,(.int .i64 8)] w fun t2 w=>
 Q (Value.tuple #[]) w
def f116.an:An:=.leaf
theorem f116.calls {Z:PZ} {x0 x1:Value} {w:World} {Q:PQ} (h:f116.sh Z x0 x1 w Q):CallV π Z 116 #[x0,x1] w Q:=
 cl Tryz.func116 f116.an [x0,x1] (by kernel_rfl) (by kernel_rfl) h

def f117.sh (Z:PZ) (x0 x1:Value) (w:World) (Q:PQ):Prop:=
 CallV π Z 118 #[x0] w fun t1 w=>
 runX π Z (nilChk x1) w fun t2 w=>
 rN π Z (fieldAt 39 t2 12) w fun t3 w=>
 rO π Z (storeAt 2 t3 t1) w fun w=>
 Q (Value.tuple #[]) w
def f117.an:An:=.leaf
theorem f117.calls {Z:PZ} {x0 x1:Value} {w:World} {Q:PQ} (h:f117.sh Z x0 x1 w Q):CallV π Z 117 #[x0,x1] w Q:=
 cl Tryz.func117 f117.an [x0,x1] (by kernel_rfl) (by kernel_rfl) h

def f118.sh (Z:PZ) (x0:Value) (w:World) (Q:PQ):Prop:=
 CallV π Z 169 #[x0,(.int .i64 8)] w fun t1 w=>
 rN π Z (convert 147 2 t1) w fun t2 w=>
 Q t2 w
def f118.an:An:=(.q (.sq .leaf .leaf))
theorem f118.calls {Z:PZ} {x0:Value} {w:World} {Q:PQ} (h:f118.sh Z x0 w Q):CallV π Z 118 #[x0] w Q:=
 cl Tryz.func118 f118.an [x0] (by kernel_rfl) (by kernel_rfl) h

def f119.sh (Z:PZ) (x0:Value) (w:World) (Q:PQ):Prop:=
 runX π Z (nilChk x0) w fun t1 w=>
 rN π Z (fieldAt 39 t1 12) w fun t2 w=>
 rN π Z (loadAt 2 t2) w fun t3 w=>
 rN π Z (binOp .gtr 2 t3 (.int .i64 0)) w fun t4 w=>
 Q t4 w
def f119.an:An:=(.q (.sq .leaf .leaf))
theorem f119.calls {Z:PZ} {x0:Value} {w:World} {Q:PQ} (h:f119.sh Z x0 w Q):CallV π Z 119 #[x0] w Q:=
 cl Tryz.func119 f119.an [x0] (by kernel_rfl) (by kernel_rfl) h

def f120.sh (Z:PZ) (x0 x1:Value) (w:World) (Q:PQ):Prop:=
 rN π Z (Instr.box 37 x0) w fun t1 w=>
 rN π Z (Instr.box 37 x1) w fun t2 w=>
 rN π Z (fieldAt 37 t1 0) w fun t3 w=>
 rN π Z (loadAt 27 t3) w fun t4 w=>
 rN π Z (fieldAt 37 t2 0) w fun t5 w=>
 rN π Z (loadAt 27 t5) w fun t6 w=>
 rN π Z (eqOp .eql 27 false false t4 t6) w fun t7 w=>
 gW (t7) true (fun k=>rN π Z (fieldAt 37 t1 1) w k) (fun t8 w=>
 gW (t7) true (fun k=>rN π Z (loadAt 29 t8) w k) (fun t9 w=>
 gW (t7) true (fun k=>rN π Z (fieldAt 37 t2 1) w k) (fun t10 w=>
 gW (t7) true (fun k=>rN π Z (loadAt 29 t10) w k) (fun t11 w=>
 gW (t7) true (fun k=>rN π Z (eqOp .eql 29 false false t9 t11) w k) (fun t12 w=>
 rN π Z (pickV t7 t12 (.bool false)) w fun t13 w=>
 gW (t13) true (fun k=>rN π Z (fieldAt 37 t1 2) w k) (fun t14 w=>
 gW (t13) true (fun k=>rN π Z (loadAt 35 t14) w k) (fun t15 w=>
 gW (t13) true (fun k=>rN π Z (fieldAt 37 t2 2) w k) (fun t16 w=>
 gW (t13) true (fun k=>rN π Z (loadAt 35 t16) w k) (fun t17 w=>
 gW (t13) true (fun k=>CallV π Z 200 #[t15,t17] w k) (fun t18 w=>
 rN π Z (pickV t13 t18 (.bool false)) w fun t19 w=>
 Q t19 w) w) w) w) w) w) w) w) w) w) w
def f120.an:An:=(.q (.sq .leaf .leaf))
theorem f120.calls {Z:PZ} {x0 x1:Value} {w:World} {Q:PQ} (h:f120.sh Z x0 x1 w Q):CallV π Z 120 #[x0,x1] w Q:=
 cl Tryz.func120 f120.an [x0,x1] (by kernel_rfl) (by kernel_rfl) h

def f121.sh (Z:PZ) (x0 x1 x2:Value) (w:World) (Q:PQ):Prop:=
 rN π Z (loadAt 3 x2) w fun t1 w=>
 rN π Z (binOp .and 3 t1 x0) w fun t2 w=>
 rN π Z (eqOp .eql 3 false true t2 (.int .i64 0)) w fun t3 w=>
 cV t3 (
 runX π Z (callVal x1 #[]) w fun t4 w=>
 Q (Value.tuple #[]) w) (
 Q (Value.tuple #[]) w)
def f121.an:An:=(.q (.c))
theorem f121.calls {Z:PZ} {x0 x1 x2:Value} {w:World} {Q:PQ} (h:f121.sh Z x0 x1 x2 w Q):CallV π Z 121 #[x0,x1,x2] w Q:=
 cl Tryz.func121 f121.an [x0,x1,x2] (by kernel_rfl) (by kernel_rfl) h

def f122.sh (Z:PZ) (x0 x1:Value) (w:World) (Q:PQ):Prop:=
 rN π Z (fieldAt 39 x0 1) w fun t1 w=>
 rN π Z (loadAt 25 t1) w fun t2 w=>
 rN π Z (fieldAt 157 x1 0) w fun t3 w=>
 rO π Z (storeAt 25 t3 t2) w fun w=>
 Q (Value.tuple #[]) w
def f122.an:An:=.leaf
theorem f122.calls {Z:PZ} {x0 x1:Value} {w:World} {Q:PQ} (h:f122.sh Z x0 x1 w Q):CallV π Z 122 #[x0,x1] w Q:=
 cl Tryz.func122 f122.an [x0,x1] (by kernel_rfl) (by kernel_rfl) h

def f123.sh (Z:PZ) (x0 x1:Value) (w:World) (Q:PQ):Prop:=
 rN π Z (fieldAt 39 x0 2) w fun t1 w=>
 rN π Z (loadAt 25 t1) w fun t2 w=>
 rN π Z (fieldAt 157 x1 1) w fun t3 w=>
 rO π Z (storeAt 25 t3 t2) w fun w=>
 Q (Value.tuple #[]) w
def f123.an:An:=.leaf
theorem f123.calls {Z:PZ} {x0 x1:Value} {w:World} {Q:PQ} (h:f123.sh Z x0 x1 w Q):CallV π Z 123 #[x0,x1] w Q:=
 cl Tryz.func123 f123.an [x0,x1] (by kernel_rfl) (by kernel_rfl) h

def f124.sh (Z:PZ) (x0 x1:Value) (w:World) (Q:PQ):Prop:=
 rN π Z (fieldAt 39 x0 3) w fun t1 w=>
 rN π Z (loadAt 2 t1) w fun t2 w=>
 rN π Z (fieldAt 157 x1 2) w fun t3 w=>
 rO π Z (storeAt 2 t3 t2) w fun w=>
 Q (Value.tuple #[]) w
def f124.an:An:=.leaf
theorem f124.calls {Z:PZ} {x0 x1:Value} {w:World} {Q:PQ} (h:f124.sh Z x0 x1 w Q):CallV π Z 124 #[x0,x1] w Q:=
 cl Tryz.func124 f124.an [x0,x1] (by kernel_rfl) (by kernel_rfl) h

def f125.sh (Z:PZ) (x0 x1:Value) (w:World) (Q:PQ):Prop:=
 rN π Z (fieldAt 39 x0 12) w fun t1 w=>
 rN π Z (loadAt 2 t1) w fun t2 w=>
 rN π Z (fieldAt 157 x1 3) w fun t3 w=>
 rO π Z (storeAt 2 t3 t2) w fun w=>
 Q (Value.tuple #[]) w
def f125.an:An:=.leaf
theorem f125.calls {Z:PZ} {x0 x1:Value} {w:World} {Q:PQ} (h:f125.sh Z x0 x1 w Q):CallV π Z 125 #[x0,x1] w Q:=
 cl Tryz.func125 f125.an [x0,x1] (by kernel_rfl) (by kernel_rfl) h

def f126.sh (Z:PZ) (x0 x1:Value) (w:World) (Q:PQ):Prop:=
 rN π Z (fieldAt 39 x0 4) w fun t1 w=>
 rN π Z (loadAt 23 t1) w fun t2 w=>
 rN π Z (fieldAt 157 x1 4) w fun t3 w=>
 rO π Z (storeAt 23 t3 t2) w fun w=>
 Q (Value.tuple #[]) w
def f126.an:An:=.leaf
theorem f126.calls {Z:PZ} {x0 x1:Value} {w:World} {Q:PQ} (h:f126.sh Z x0 x1 w Q):CallV π Z 126 #[x0,x1] w Q:=
 cl Tryz.func126 f126.an [x0,x1] (by kernel_rfl) (by kernel_rfl) h

def f127.sh (Z:PZ) (x0 x1:Value) (w:World) (Q:PQ):Prop:=
 rN π Z (fieldAt 39 x0 5) w fun t1 w=>
 rN π Z (loadAt 23 t1) w fun t2 w=>
 rN π Z (fieldAt 157 x1 5) w fun t3 w=>
 rO π Z (storeAt 23 t3 t2) w fun w=>
 Q (Value.tuple #[]) w
def f127.an:An:=.leaf
theorem f127.calls {Z:PZ} {x0 x1:Value} {w:World} {Q:PQ} (h:f127.sh Z x0 x1 w Q):CallV π Z 127 #[x0,x1] w Q:=
 cl Tryz.func127 f127.an [x0,x1] (by kernel_rfl) (by kernel_rfl) h

def f128.sh (Z:PZ) (x0 x1:Value) (w:World) (Q:PQ):Prop:=
 rN π Z (fieldAt 39 x0 6) w fun t1 w=>
 rN π Z (loadAt 27 t1) w fun t2 w=>
 rN π Z (fieldAt 157 x1 6) w fun t3 w=>
 rO π Z (storeAt 27 t3 t2) w fun w=>
 Q (Value.tuple #[]) w
def f128.an:An:=.leaf
theorem f128.calls {Z:PZ} {x0 x1:Value} {w:World} {Q:PQ} (h:f128.sh Z x0 x1 w Q):CallV π Z 128 #[x0,x1] w Q:=
 cl Tryz.func128 f128.an [x0,x1] (by kernel_rfl) (by kernel_rfl) h

def f129.sh (Z:PZ) (x0 x1:Value) (w:World) (Q:PQ):Prop:=
 rN π Z (fieldAt 39 x0 7) w fun t1 w=>
 rN π Z (loadAt 27 t1) w fun t2 w=>
 rN π Z (fieldAt 157 x1 7) w fun t3 w=>
 rO π Z (storeAt 27 t3 t2) w fun w=>
 Q (Value.tuple #[]) w
def f129.an:An:=.leaf
theorem f129.calls {Z:PZ} {x0 x1:Value} {w:World} {Q:PQ} (h:f129.sh Z x0 x1 w Q):CallV π Z 129 #[x0,x1] w Q:=
 cl Tryz.func129 f129.an [x0,x1] (by kernel_rfl) (by kernel_rfl) h

def f130.sh (Z:PZ) (x0 x1:Value) (w:World) (Q:PQ):Prop:=
 rN π Z (fieldAt 39 x0 8) w fun t1 w=>
 rN π Z (loadAt 4 t1) w fun t2 w=>
 rN π Z (fieldAt 157 x1 8) w fun t3 w=>
 rO π Z (storeAt 4 t3 t2) w fun w=>
 Q (Value.tuple #[]) w
def f130.an:An:=.leaf
theorem f130.calls {Z:PZ} {x0 x1:Value} {w:World} {Q:PQ} (h:f130.sh Z x0 x1 w Q):CallV π Z 130 #[x0,x1] w Q:=
 cl Tryz.func130 f130.an [x0,x1] (by kernel_rfl) (by kernel_rfl) h

def f131.sh (Z:PZ) (x0 x1:Value) (w:World) (Q:PQ):Prop:=
 rN π Z (fieldAt 39 x0 9) w fun t1 w=>
 rN π Z (loadAt 4 t1) w fun t2 w=>
 rN π Z (fieldAt 157 x1 9) w fun t3 w=>
 rO π Z (storeAt 4 t3 t2) w fun w=>
 Q (Value.tuple #[]) w
def f131.an:An:=.leaf
theorem f131.calls {Z:PZ} {x0 x1:Value} {w:World} {Q:PQ} (h:f131.sh Z x0 x1 w Q):CallV π Z 131 #[x0,x1] w Q:=
 cl Tryz.func131 f131.an [x0,x1] (by kernel_rfl) (by kernel_rfl) h

def f132.sh (Z:PZ) (x0 x1:Value) (w:World) (Q:PQ):Prop:=
 rN π Z (Instr.box 35 x0) w fun t1 w=>
 rN π Z (Instr.box 35 x1) w fun t2 w=>
 rN π Z (fieldAt 35 t1 0) w fun t3 w=>
 rN π Z (loadAt 22 t3) w fun t4 w=>
 rN π Z (fieldAt 35 t2 0) w fun t5 w=>
 rN π Z (loadAt 22 t5) w fun t6 w=>
 rN π Z (eqOp .neq 22 false false t4 t6) w fun t7 w=>
 gW (t7) false (fun k=>rN π Z (fieldAt 35 t1 1) w k) (fun t8 w=>
 gW (t7) false (fun k=>rN π Z (loadAt 9 t8) w k) (fun t9 w=>
 gW (t7) false (fun k=>rN π Z (fieldAt 35 t2 1) w k) (fun t10 w=>
 gW (t7) false (fun k=>rN π Z (loadAt 9 t10) w k) (fun t11 w=>
 gW (t7) false (fun k=>rN π Z (eqOp .neq 9 false false t9 t11) w k) (fun t12 w=>
 rN π Z (pickV t7 (.bool true) t12) w fun t13 w=>
 gW (t13) false (fun k=>rN π Z (fieldAt 35 t1 4) w k) (fun t14 w=>
 gW (t13) false (fun k=>rN π Z (loadAt 21 t14) w k) (fun t15 w=>
 gW (t13) false (fun k=>rN π Z (fieldAt 35 t2 4) w k) (fun t16 w=>
 gW (t13) false (fun k=>rN π Z (loadAt 21 t16) w k) (fun t17 w=>
 gW (t13) false (fun k=>rN π Z (eqOp .neq 21 false false t15 t17) w k) (fun t18 w=>
 rN π Z (pickV t13 (.bool true) t18) w fun t19 w=>
 gW (t19) false (fun k=>rN π Z (fieldAt 35 t1 5) w k) (fun t20 w=>
 gW (t19) false (fun k=>rN π Z (loadAt 4 t20) w k) (fun t21 w=>
 gW (t19) false (fun k=>rN π Z (fieldAt 35 t2 5) w k) (fun t22 w=>
 gW (t19) false (fun k=>rN π Z (loadAt 4 t22) w k) (fun t23 w=>
 gW (t19) false (fun k=>rN π Z (eqOp .neq 4 false false t21 t23) w k) (fun t24 w=>
 rN π Z (pickV t19 (.bool true) t24) w fun t25 w=>
 gW (t25) false (fun k=>rN π Z (fieldAt 35 t1 6) w k) (fun t26 w=>
 gW (t25) false (fun k=>rN π Z (loadAt 4 t26) w k) (fun t27 w=>
 gW (t25) false (fun k=>rN π Z (fieldAt 35 t2 6) w k) (fun t28 w=>
 gW (t25) false (fun k=>rN π Z (loadAt 4 t28) w k) (fun t29 w=>
 gW (t25) false (fun k=>rN π Z (eqOp .neq 4 false false t27 t29) w k) (fun t30 w=>
 rN π Z (pickV t25 (.bool true) t30) w fun t31 w=>
 gW (t31) false (fun k=>rN π Z (fieldAt 35 t1 7) w k) (fun t32 w=>
 gW (t31) false (fun k=>rN π Z (loadAt 2 t32) w k) (fun t33 w=>
 gW (t31) false (fun k=>rN π Z (fieldAt 35 t2 7) w k) (fun t34 w=>
 gW (t31) false (fun k=>rN π Z (loadAt 2 t34) w k) (fun t35 w=>
 gW (t31) false (fun k=>rN π Z (eqOp .neq 2 false false t33 t35) w k) (fun t36 w=>
 rN π Z (pickV t31 (.bool true) t36) w fun t37 w=>
 gW (t37) false (fun k=>rN π Z (fieldAt 35 t1 8) w k) (fun t38 w=>
 gW (t37) false (fun k=>rN π Z (loadAt 21 t38) w k) (fun t39 w=>
 gW (t37) false (fun k=>rN π Z (fieldAt 35 t2 8) w k) (fun t40 w=>
 gW (t37) false (fun k=>rN π Z (loadAt 21 t40) w k) (fun t41 w=>
 gW (t37) false (fun k=>rN π Z (eqOp .neq 21 false false t39 t41) w k) (fun t42 w=>
 rN π Z (pickV t37 (.bool true) t42) w fun t43 w=>
 cV t43 (
 Q (.bool false) w) (
 rN π Z (fieldAt 35 t1 2) w fun t44 w=>
 rN π Z (loadAt 30 t44) w fun t45 w=>
 rN π Z (fieldAt 35 t2 2) w fun t46 w=>
 rN π Z (loadAt 30 t46) w fun t47 w=>
 CallV π Z 14 #[t45,t47] w fun t48 w=>
 rN π Z (Op.unary .not t48) w fun t49 w=>
 gW (t49) false (fun k=>rN π Z (fieldAt 35 t1 3) w k) (fun t50 w=>
 gW (t49) false (fun k=>rN π Z (loadAt 31 t50) w k) (fun t51 w=>
 gW (t49) false (fun k=>rN π Z (fieldAt 35 t2 3) w k) (fun t52 w=>
 gW (t49) false (fun k=>rN π Z (loadAt 31 t52) w k) (fun t53 w=>
 gW (t49) false (fun k=>CallV π Z 201 #[t51,t53] w k) (fun t54 w=>
 gW (t49) false (fun k=>rN π Z (Op.unary .not t54) w k) (fun t55 w=>
 rN π Z (pickV t49 (.bool true) t55) w fun t56 w=>
 gW (t56) false (fun k=>rN π Z (fieldAt 35 t1 9) w k) (fun t57 w=>
 gW (t56) false (fun k=>rN π Z (loadAt 32 t57) w k) (fun t58 w=>
 gW (t56) false (fun k=>rN π Z (fieldAt 35 t2 9) w k) (fun t59 w=>
 gW (t56) false (fun k=>rN π Z (loadAt 32 t59) w k) (fun t60 w=>
 gW (t56) false (fun k=>CallV π Z 202 #[t58,t60] w k) (fun t61 w=>
 gW (t56) false (fun k=>rN π Z (Op.unary .not t61) w k) (fun t62 w=>
 rN π Z (pickV t56 (.bool true) t62) w fun t63 w=>
 gW (t63) false (fun k=>rN π Z (fieldAt 35 t1 10) w k) (fun t64 w=>
 gW (t63) false (fun k=>rN π Z (loadAt 33 t64) w k) (fun t65 w=>
 gW (t63) false (fun k=>rN π Z (Builtin.len_ #[33] 3 #[t65]) w k) (fun t66 w=>
 gW (t63) false (fun k=>rN π Z (fieldAt 35 t2 10) w k) (fun t67 w=>
 gW (t63) false (fun k=>rN π Z (loadAt 33 t67) w k) (fun t68 w=>
 gW (t63) false (fun k=>rN π Z (Builtin.len_ #[33] 3 #[t68]) w k) (fun t69 w=>
 gW (t63) false (fun k=>rN π Z (eqOp .neq 3 false false t66 t69) w k) (fun t70 w=>
 rN π Z (pickV t63 (.bool true) t70) w fun t71 w=>
 cV t71 (
 Q (.bool false) w) (
 ∃J_72:Nat→PQ,(∃m,J_72 m (.int .i64 0) w) ∧
 ∀m_72,∀t73:Value,∀w:World,J_72 m_72 t73 w→Env →
 rN π Z (fieldAt 35 t1 10) w fun t74 w=>
 rN π Z (loadAt 33 t74) w fun t75 w=>
 rN π Z (Builtin.len_ #[33] 3 #[t75]) w fun t76 w=>
 rN π Z (binOp .lss 3 t73 t76) w fun t77 w=>
 cV t77 (
 Drawn w fun w=>
 pU π (fieldAt 35 t1 10) fun t78=>
 rD π (loadAt 33 t78) w fun t79=>
 pU π (indexAt 33 t79 t73) fun t80=>
 rD π (loadAt 35 t80) w fun t81=>
 pU π (fieldAt 35 t2 10) fun t82=>
 rD π (loadAt 33 t82) w fun t83=>
 pU π (indexAt 33 t83 t73) fun t84=>
 rD π (loadAt 35 t84) w fun t85=>
 CallV π Z 132 #[t81,t85] w fun t86 w=>
 Still π (nx (loadAt 33 t82)) t83 w <|
 Still π (nx (loadAt 33 t78)) t79 w <|
 pU π (Op.unary .not t86) fun t87=>
 cV t87 (
 Q (.bool false) w) (
 rN π Z (binOp .add 3 t73 (.int .i64 1)) w fun t88 w=>
 ∃n_72,n_72 < m_72∧J_72 n_72 t88 w)) (
 Q (.bool true) w))) w) w) w) w) w) w) w) w) w) w) w) w) w) w) w) w) w) w) w)) w) w) w) w) w) w) w) w) w) w) w) w) w) w) w) w) w) w) w) w) w) w) w) w) w) w) w) w) w) w
def f132.an:An:=(.q (.sq (.q (.cn (.sq .leaf .leaf) .leaf)) (.sq (.q (.cn (.sq .leaf .leaf) .leaf)) (.sq (.q (.bl (.lp [5] (.sq (.q (.c)) (.sq (.bl (.sq (.dr (pl [0,5,8,12,17,20,25,28,32,37,42,44] .fin)) (.cn (.sq .leaf .leaf) .leaf))) .leaf))))) (.sq .leaf .leaf)))))
theorem f132.calls {Z:PZ} {x0 x1:Value} {w:World} {Q:PQ} (h:f132.sh Z x0 x1 w Q):CallV π Z 132 #[x0,x1] w Q:=
 cl Tryz.func132 f132.an [x0,x1] (by kernel_rfl) (by kernel_rfl) h

def f133.sh (Z:PZ) (x0:Value) (w:World) (Q:PQ):Prop:=
 rN π Z (Instr.box 35 x0) w fun t1 w=>
 rN π Z (loadAt 35 t1) w fun t2 w=>
 CallV π Z 203 #[t2] w fun t3 w=>
 rN π Z (Op.unary .not t3) w fun t4 w=>
 cV t4 (
 Q (.int .i64 40) w) (
 ∃J_5:Nat→PQ,(∃m,J_5 m (.int .i64 0) w) ∧
 ∀m_5,∀t6:Value,∀w:World,J_5 m_5 t6 w→Env →
 rN π Z (fieldAt 35 t1 10) w fun t7 w=>
 rN π Z (loadAt 33 t7) w fun t8 w=>
 rN π Z (Builtin.len_ #[33] 3 #[t8]) w fun t9 w=>
 rN π Z (binOp .lss 3 t6 t9) w fun t10 w=>
 cV t10 (
 rN π Z (fieldAt 35 t1 10) w fun t11 w=>
 rN π Z (loadAt 33 t11) w fun t12 w=>
 rN π Z (indexAt 33 t12 t6) w fun t13 w=>
 rN π Z (loadAt 35 t13) w fun t14 w=>
 rN π Z (Instr.alloc 35 true (.tuple #[])) w fun t15 w=>
 rO π Z (storeAt 35 t15 t14) w fun w=>
 rN π Z (fieldAt 35 t15 0) w fun t16 w=>
 rN π Z (loadAt 22 t16) w fun t17 w=>
 rN π Z (binOp .lss 22 t17 (.int .i8 1)) w fun t18 w=>
 gW (t18) false (fun k=>rN π Z (fieldAt 35 t15 0) w k) (fun t19 w=>
 gW (t18) false (fun k=>rN π Z (loadAt 22 t19) w k) (fun t20 w=>
 gW (t18) false (fun k=>rN π Z (binOp .gtr 22 t20 (.int .i8 5)) w k) (fun t21 w=>
 rN π Z (pickV t18 (.bool true) t21) w fun t22 w=>
 gW (t22) false (fun k=>rN π Z (fieldAt 35 t15 7) w k) (fun t23 w=>
 gW (t22) false (fun k=>rN π Z (loadAt 2 t23) w k) (fun t24 w=>
 gW (t22) false (fun k=>rN π Z (eqOp .neq 2 false true t24 (.int .i64 0)) w k) (fun t25 w=>
 rN π Z (pickV t22 (.bool true) t25) w fun t26 w=>
 gW (t26) false (fun k=>rN π Z (fieldAt 35 t15 9) w k) (fun t27 w=>
 gW (t26) false (fun k=>rN π Z (loadAt 32 t27) w k) (fun t28 w=>
 gW (t26) false (fun k=>rN π Z (Builtin.len_ #[32] 3 #[t28]) w k) (fun t29 w=>
 gW (t26) false (fun k=>rN π Z (eqOp .neq 3 false true t29 (.int .i64 0)) w k) (fun t30 w=>
 rN π Z (pickV t26 (.bool true) t30) w fun t31 w=>
 gW (t31) false (fun k=>rN π Z (loadAt 35 t15) w k) (fun t32 w=>
 gW (t31) false (fun k=>CallV π Z 203 #[t32] w k) (fun t33 w=>
 gW (t31) false (fun k=>rN π Z (Op.unary .not t33) w k) (fun t34 w=>
 rN π Z (pickV t31 (.bool true) t34) w fun t35 w=>
 cV t35 (
 Q (.int .i64 40) w) (
 rN π Z (binOp .add 3 t6 (.int .i64 1)) w fun t36 w=>
 ∃n_5,n_5 < m_5∧J_5 n_5 t36 w)) w) w) w) w) w) w) w) w) w) w) w) w) w) (
 Q (.int .i64 0) w))
def f133.an:An:=(.q (.sq (.q (.cn (.sq .leaf .leaf) .leaf)) (.sq (.q (.bl (.lp [3] (.sq (.q (.c)) (.sq (.bl (.q (.q (.cn (.sq .leaf .leaf) .leaf)))) .leaf))))) (.sq .leaf .leaf))))
theorem f133.calls {Z:PZ} {x0:Value} {w:World} {Q:PQ} (h:f133.sh Z x0 w Q):CallV π Z 133 #[x0] w Q:=
 cl Tryz.func133 f133.an [x0] (by kernel_rfl) (by kernel_rfl) h

def f134.sh (Z:PZ) (x0:Value) (w:World) (Q:PQ):Prop:=
 rN π Z (Builtin.len_ #[31] 3 #[x0]) w fun t1 w=>
 rN π Z (binOp .add 3 t1 (.int .i64 64)) w fun t2 w=>
 rN π Z (Instr.sliceAt 31 x0 none (some t2) none) w fun t3 w=>
 rN π Z (Builtin.len_ #[31] 3 #[x0]) w fun t4 w=>
 ∃J_5:Nat→PQ,(∃m,J_5 m t4 w) ∧
 ∀m_5,∀t6:Value,∀w:World,J_5 m_5 t6 w→Env →
 rN π Z (Builtin.len_ #[31] 3 #[t3]) w fun t7 w=>
 rN π Z (binOp .lss 3 t6 t7) w fun t8 w=>
 cV t8 (
 Drawn w fun w=>
 pU π (indexAt 31 t3 t6) fun t9=>
 pU π (fieldAt 178 t9 1) fun t10=>
 pU π (fieldAt 175 t10 1) fun t11=>
 rD π (loadAt 9 t11) w fun t12=>
 pU π (binOp .sub 3 (.int .i64 (-3000000)) t6) fun t13=>
 CallV π Z 143 #[t13] w fun t14 w=>
 Still π (nx (loadAt 9 t11)) t12 w <|
 pU π (eqOp .eql 9 false false t12 t14) fun t15=>
 pU π (Op.unary .not t15) fun t16=>
 cV t16 (
 Q (.bool false) w) (
 rN π Z (binOp .add 3 t6 (.int .i64 1)) w fun t17 w=>
 ∃n_5,n_5 < m_5∧J_5 n_5 t17 w)) (
 Q (.bool true) w)
def f134.an:An:=(.q (.q (.sq (.q (.bl (.lp [4] (.sq (.q (.c)) (.sq (.bl (.sq (.dr (pl [0,4,8,12,16,21,24,28,34,36,40] .fin)) (.cn (.sq .leaf .leaf) .leaf))) .leaf))))) (.sq .leaf .leaf))))
theorem f134.calls {Z:PZ} {x0:Value} {w:World} {Q:PQ} (h:f134.sh Z x0 w Q):CallV π Z 134 #[x0] w Q:=
 cl Tryz.func134 f134.an [x0] (by kernel_rfl) (by kernel_rfl) h

