import Derived.Test.YtbdfhfceffkhgaaGreatDoorShBase
set_option linter.unusedVariables false
namespace Go.Proofs.YtbdfhfceffkhgaaGreatDoor
open Go.Sh
open Go.Instr (loadAt storeAt fieldAt indexAt extract)
open Tryz renaming prog → π
def f6.sh (Z:PZ) (x0:Value) (w:World) (Q:PQ):Prop:=
 rN π Z (Instr.box 25 x0) w fun t1 w=>
 CallV π Z 7 #[] w fun t2 w=>
 rN π Z (fieldAt 25 t1 0) w fun t3 w=>
 rN π Z (loadAt 22 t3) w fun t4 w=>
 CallV π Z 8 #[t4] w fun t5 w=>
 gW (t5) false (fun k=>rN π Z (fieldAt 25 t1 0) w k) (fun t6 w=>
 gW (t5) false (fun k=>rN π Z (loadAt 22 t6) w k) (fun t7 w=>
 gW (t5) false (fun k=>rN π Z (Builtin.len_ #[22] 3 #[t7]) w k) (fun t8 w=>
 gW (t5) false (fun k=>rN π Z (binOp .gtr 3 t8 (.int .i64 200)) w k) (fun t9 w=>
 rN π Z (pickV t5 (.bool true) t9) w fun t10 w=>
 gW (t10) false (fun k=>rN π Z (fieldAt 25 t1 2) w k) (fun t11 w=>
 gW (t10) false (fun k=>rN π Z (loadAt 3 t11) w k) (fun t12 w=>
 gW (t10) false (fun k=>rN π Z (binOp .lss 3 t12 (.int .i64 1)) w k) (fun t13 w=>
 rN π Z (pickV t10 (.bool true) t13) w fun t14 w=>
 gW (t14) false (fun k=>rN π Z (fieldAt 25 t1 2) w k) (fun t15 w=>
 gW (t14) false (fun k=>rN π Z (loadAt 3 t15) w k) (fun t16 w=>
 gW (t14) false (fun k=>rN π Z (binOp .gtr 3 t16 (.int .i64 64)) w k) (fun t17 w=>
 rN π Z (pickV t14 (.bool true) t17) w fun t18 w=>
 cV t18 (
 Q t2 w) (
 rN π Z (fieldAt 25 t1 0) w fun t19 w=>
 rN π Z (loadAt 22 t19) w fun t20 w=>
 CallV π Z 10 #[t20] w fun t21 w=>
 rN π Z (Op.unary .not t21) w fun t22 w=>
 gW (t22) false (fun k=>rN π Z (fieldAt 25 t1 0) w k) (fun t23 w=>
 gW (t22) false (fun k=>rN π Z (loadAt 22 t23) w k) (fun t24 w=>
 gW (t22) false (fun k=>rN π Z (Builtin.len_ #[22] 3 #[t24]) w k) (fun t25 w=>
 gW (t22) false (fun k=>rN π Z (fieldAt 25 t1 2) w k) (fun t26 w=>
 gW (t22) false (fun k=>rN π Z (loadAt 3 t26) w k) (fun t27 w=>
 gW (t22) false (fun k=>rN π Z (binOp .mul 3 (.int .i64 60) t27) w k) (fun t28 w=>
 gW (t22) false (fun k=>rN π Z (binOp .gtr 3 t25 t28) w k) (fun t29 w=>
 rN π Z (pickV t22 (.bool true) t29) w fun t30 w=>
 cV t30 (
 Q t2 w) (
 CallV π Z 11 #[(.int .i64 16777216)] w fun t31 w=>
 rN π Z (extract t31 0) w fun t32 w=>
 rN π Z (extract t31 1) w fun t33 w=>
 rN π Z (fieldAt 25 t1 3) w fun t34 w=>
 rN π Z (loadAt 3 t34) w fun t35 w=>
 CallV π Z 24 #[t32,t35] w fun t36 w=>
 Drawn w fun w=>
 pU π (fieldAt 25 t1 2) fun t37=>
 rD π (loadAt 3 t37) w fun t38=>
 pU π (fieldAt 25 t1 0) fun t39=>
 rD π (loadAt 22 t39) w fun t40=>
 CallV π Z 9 #[t40] w fun t41 w=>
 Still π (nx (loadAt 3 t37)) t38 w <|
 CallV π Z 12 #[t32,(.int .i64 3),t38,t41] w fun t42 w=>
 pU π (extract t42 0) fun t43=>
 pU π (extract t42 1) fun t44=>
 CallV π Z 25 #[t32] w fun t45 w=>
 rN π Z (fieldAt 25 t1 4) w fun t46 w=>
 rN π Z (loadAt 23 t46) w fun t47 w=>
 CallV π Z 27 #[t47] w fun t48 w=>
 CallV π Z 26 #[t32,t48] w fun t49 w=>
 rN π Z (fieldAt 25 t1 2) w fun t50 w=>
 rN π Z (loadAt 3 t50) w fun t51 w=>
 rN π Z (Instr.build 39 #[]) w fun t52 w=>
 CallV π Z 15 #[t32,(.int .i64 3),t51,t52] w fun t53 w=>
 rN π Z (extract t53 0) w fun t54 w=>
 rN π Z (extract t53 1) w fun t55 w=>
 rN π Z (eqOp .neq 30 false true t44 (.int .i64 0)) w fun t56 w=>
 gW (t56) true (fun k=>k (t55) w) (fun t57 w=>
 gW (t56) true (fun k=>rN π Z (eqOp .eql 30 false true t57 (.int .i64 20)) w k) (fun t58 w=>
 rN π Z (pickV t56 t58 (.bool false)) w fun t59 w=>
 cV t59 (
 gW (t2) true (fun k=>k (t44) w) (fun t60 w=>
 gW (t2) true (fun k=>rN π Z (eqOp .eql 30 false true t60 (.int .i64 23)) w k) (fun t61 w=>
 rN π Z (pickV t2 t61 (.bool false)) w fun t62 w=>
 gW (t62) true (fun k=>k (t32) w) (fun t63 w=>
 gW (t62) true (fun k=>CallV π Z 28 #[t63] w k) (fun t64 w=>
 gW (t62) true (fun k=>rN π Z (Builtin.len_ #[66] 3 #[t64]) w k) (fun t65 w=>
 gW (t62) true (fun k=>rN π Z (eqOp .eql 3 false true t65 (.int .i64 0)) w k) (fun t66 w=>
 rN π Z (pickV t62 t66 (.bool false)) w fun t67 w=>
 Q t67 w) w) w) w) w) w) w) (
 rN π Z (eqOp .neq 30 false true t55 (.int .i64 0)) w fun t68 w=>
 gW (t68) false (fun k=>k (t54) w) (fun t69 w=>
 gW (t68) false (fun k=>rN π Z (eqOp .eql 33 false true t69 (.pointer none)) w k) (fun t70 w=>
 rN π Z (pickV t68 (.bool true) t70) w fun t71 w=>
 cV t71 (
 Q (.bool false) w) (
 Drawn w fun w=>
 guardV (t2) true (fun k=>k (t54)) (fun t72=>
 guardV (t2) true (fun k=>pU π (fieldAt 25 t1 0) k) (fun t73=>
 guardV (t2) true (fun k=>rD π (loadAt 22 t73) w k) (fun t74=>
 guardV (t2) true (fun k=>pU π (fieldAt 25 t1 0) k) (fun t75=>
 guardV (t2) true (fun k=>rD π (loadAt 22 t75) w k) (fun t76=>
 guardV (t2) true (fun k=>pU π (Builtin.len_ #[22] 3 #[t76]) k) (fun t77=>
 gW (t2) true (fun k=>CallV π Z 17 #[t72] w k) (fun t78 w=>
 Still π (gSem (t2) true (nx (loadAt 22 t75))) t76 w <|
 Still π (gSem (t2) true (nx (loadAt 22 t73))) t74 w <|
 gW (t2) true (fun k=>CallV π Z 29 #[t78,t74,t77] w k) (fun t79 w=>
 Still π (gSem (t2) true (nx (loadAt 22 t75))) t76 w <|
 pU π (pickV t2 t79 (.bool false)) fun t80=>
 guardV (t80) true (fun k=>k (t44)) (fun t81=>
 guardV (t80) true (fun k=>pU π (eqOp .neq 30 false true t81 (.int .i64 0)) k) (fun t82=>
 guardV (t80) true (fun k=>k (t82)) (fun t83=>
 guardV (t83) false (fun k=>k (t54)) (fun t84=>
 guardV (t83) false (fun k=>pU π (fieldAt 25 t1 0) k) (fun t85=>
 guardV (t83) false (fun k=>rD π (loadAt 22 t85) w k) (fun t86=>
 guardV (t83) false (fun k=>pU π (Builtin.len_ #[22] 3 #[t86]) k) (fun t87=>
 gW (t83) false (fun k=>CallV π Z 17 #[t84] w k) (fun t88 w=>
 Still π (gSem (t83) false (nx (loadAt 22 t85))) t86 w <|
 Still π (gSem (t2) true (nx (loadAt 22 t75))) t76 w <|
 guardV (t83) false (fun k=>pU π (Builtin.len_ #[22] 3 #[t88]) k) (fun t89=>
 guardV (t83) false (fun k=>pU π (eqOp .eql 3 false false t89 t87) k) (fun t90=>
 guardV (t80) true (fun k=>pU π (pickV t83 (.bool true) t90) k) (fun t91=>
 pU π (pickV t80 t91 (.bool false)) fun t92=>
 Q t92 w)))) w)))))))) w) w)))))))) w) w)) w) w)) w) w) w) w) w) w) w)) w) w) w) w) w) w) w) w) w) w
def f6.an:An:=(.q (.q (.sq (.q (.cn (.sq .leaf .leaf) .leaf)) (.sq (.q (.cn (.sq .leaf .leaf) .leaf)) (.q (.q (.sq (.dr (pl [0,4,9,12,17,22,26,28,32,36,40,44] .fin)) (.q (.q (.q (.sq (.q (.cn (.sq .leaf .leaf) .leaf)) (.sq (.q (.cn (.sq .leaf .leaf) .leaf)) (.sq (.dr (pl [0,4,8,16,21,24,29,32,14,38,40,44,48,52,56,60,72,77,80,66,68,84,88,92,96] .fin)) .leaf)))))))))))))
theorem f6.calls {Z:PZ} {x0:Value} {w:World} {Q:PQ} (h:f6.sh Z x0 w Q):CallV π Z 6 #[x0] w Q:=
 cl Tryz.func6 f6.an [x0] (by kernel_rfl) (by kernel_rfl) h

def f7.sh (Z:PZ) (w:World) (Q:PQ):Prop:=
 CallV π Z 11 #[(.int .i64 1000)] w fun t1 w=>
 rN π Z (extract t1 0) w fun t2 w=>
 rN π Z (extract t1 1) w fun t3 w=>
 rN π Z (eqOp .neq 30 false true t3 (.int .i64 0)) w fun t4 w=>
 gW (t4) false (fun k=>k (t2) w) (fun t5 w=>
 gW (t4) false (fun k=>rN π Z (eqOp .eql 29 false true t5 (.pointer none)) w k) (fun t6 w=>
 rN π Z (pickV t4 (.bool true) t6) w fun t7 w=>
 cV t7 (
 Q (.bool false) w) (
 CallV π Z 30 #[(.int .u32 1)] w fun t8 w=>
 rN π Z (Instr.buildSlice 22 1 #[(0,t8)]) w fun t9 w=>
 CallV π Z 12 #[t2,(.int .i64 1),(.int .i64 2),t9] w fun t10 w=>
 rN π Z (extract t10 0) w fun t11 w=>
 rN π Z (extract t10 1) w fun t12 w=>
 rN π Z (eqOp .neq 30 false true t12 (.int .i64 0)) w fun t13 w=>
 gW (t13) false (fun k=>k (t11) w) (fun t14 w=>
 gW (t13) false (fun k=>rN π Z (eqOp .eql 33 false true t14 (.pointer none)) w k) (fun t15 w=>
 rN π Z (pickV t13 (.bool true) t15) w fun t16 w=>
 cV t16 (
 Q (.bool false) w) (
 CallV π Z 30 #[(.int .u32 2)] w fun t17 w=>
 CallV π Z 13 #[t11,t17] w fun t18 w=>
 rN π Z (Instr.build 39 #[]) w fun t19 w=>
 CallV π Z 15 #[t2,(.int .i64 1),(.int .i64 2),t19] w fun t20 w=>
 rN π Z (extract t20 0) w fun t21 w=>
 rN π Z (extract t20 1) w fun t22 w=>
 rN π Z (eqOp .neq 30 false true t18 (.int .i64 0)) w fun t23 w=>
 gW (t23) false (fun k=>k (t22) w) (fun t24 w=>
 gW (t23) false (fun k=>rN π Z (eqOp .neq 30 false true t24 (.int .i64 0)) w k) (fun t25 w=>
 rN π Z (pickV t23 (.bool true) t25) w fun t26 w=>
 gW (t26) false (fun k=>k (t21) w) (fun t27 w=>
 gW (t26) false (fun k=>rN π Z (eqOp .eql 33 false true t27 (.pointer none)) w k) (fun t28 w=>
 rN π Z (pickV t26 (.bool true) t28) w fun t29 w=>
 cV t29 (
 Q (.bool false) w) (
 CallV π Z 17 #[t21] w fun t30 w=>
 CallV π Z 31 #[t21] w fun t31 w=>
 rN π Z (Builtin.len_ #[22] 3 #[t30]) w fun t32 w=>
 rN π Z (eqOp .eql 3 false true t32 (.int .i64 2)) w fun t33 w=>
 gW (t33) true (fun k=>k (t30) w) (fun t34 w=>
 gW (t33) true (fun k=>rN π Z (indexAt 22 t34 (.int .i64 1)) w k) (fun t35 w=>
 gW (t33) true (fun k=>rN π Z (fieldAt 50 t35 0) w k) (fun t36 w=>
 gW (t33) true (fun k=>rN π Z (fieldAt 39 t36 1) w k) (fun t37 w=>
 gW (t33) true (fun k=>rN π Z (loadAt 37 t37) w k) (fun t38 w=>
 gW (t33) true (fun k=>rN π Z (eqOp .eql 37 false true t38 (.int .u32 2)) w k) (fun t39 w=>
 rN π Z (pickV t33 t39 (.bool false)) w fun t40 w=>
 gW (t40) true (fun k=>k (t31) w) (fun t41 w=>
 gW (t40) true (fun k=>rN π Z (Builtin.len_ #[66] 3 #[t41]) w k) (fun t42 w=>
 gW (t40) true (fun k=>rN π Z (eqOp .eql 3 false true t42 (.int .i64 1)) w k) (fun t43 w=>
 rN π Z (pickV t40 t43 (.bool false)) w fun t44 w=>
 gW (t44) true (fun k=>k (t31) w) (fun t45 w=>
 gW (t44) true (fun k=>rN π Z (indexAt 66 t45 (.int .i64 0)) w k) (fun t46 w=>
 gW (t44) true (fun k=>rN π Z (loadAt 9 t46) w k) (fun t47 w=>
 gW (t44) true (fun k=>rN π Z (eqOp .eql 9 false true t47 (.string { data:=#[108,111,103,46,49,46,49] })) w k) (fun t48 w=>
 rN π Z (pickV t44 t48 (.bool false)) w fun t49 w=>
 Q t49 w) w) w) w) w) w) w) w) w) w) w) w) w) w)) w) w) w) w)) w) w)) w) w
def f7.an:An:=(.q (.q (.sq (.q (.cn (.sq .leaf .leaf) .leaf)) (.q (.sq (.q (.cn (.sq .leaf .leaf) .leaf)) (.q (.q (.sq (.q (.cn (.sq .leaf .leaf) .leaf)) (.q (.q (.sq .leaf .leaf)))))))))))
theorem f7.calls {Z:PZ} {w:World} {Q:PQ} (h:f7.sh Z  w Q):CallV π Z 7 #[] w Q:=
 cl Tryz.func7 f7.an [] (by kernel_rfl) (by kernel_rfl) h

def f8.sh (Z:PZ) (x0:Value) (w:World) (Q:PQ):Prop:=
 ∃J_1:Nat→Value→PQ,(∃m,J_1 m (.int .i64 0) (.int .i64 0) w) ∧
 ∀m_1,∀t2:Value,∀t3:Value,∀w:World,J_1 m_1 t2 t3 w→Env →
 rN π Z (Builtin.len_ #[22] 3 #[x0]) w fun t4 w=>
 rN π Z (binOp .lss 3 t3 t4) w fun t5 w=>
 gW (t5) true (fun k=>k (t2) w) (fun t6 w=>
 gW (t5) true (fun k=>rN π Z (binOp .leq 3 t6 (.int .i64 1000000)) w k) (fun t7 w=>
 rN π Z (pickV t5 t7 (.bool false)) w fun t8 w=>
 cV t8 (
 rN π Z (indexAt 22 x0 t3) w fun t9 w=>
 rN π Z (fieldAt 50 t9 2) w fun t10 w=>
 rN π Z (loadAt 48 t10) w fun t11 w=>
 CallV π Z 20 #[t11] w fun t12 w=>
 cV t12 (
 Q (.bool true) w) (
 rN π Z (binOp .add 3 t2 (.int .i64 1)) w fun t13 w=>
 rN π Z (indexAt 22 x0 t3) w fun t14 w=>
 rN π Z (fieldAt 50 t14 2) w fun t15 w=>
 rN π Z (loadAt 48 t15) w fun t16 w=>
 CallV π Z 32 #[t16] w fun t17 w=>
 rN π Z (binOp .add 3 t13 t17) w fun t18 w=>
 rN π Z (binOp .add 3 t3 (.int .i64 1)) w fun t19 w=>
 ∃n_1,n_1 < m_1∧J_1 n_1 t18 t19 w)) (
 rN π Z (binOp .gtr 3 t2 (.int .i64 1000000)) w fun t20 w=>
 Q t20 w)) w) w
def f8.an:An:=(.q (.q (.sq (.q (.bl (.lp [3,4] (.sq (.q (.c)) (.sq (.bl (.sq (.q (.cn (.sq .leaf .leaf) .leaf)) .leaf)) .leaf))))) (.sq .leaf .leaf))))
theorem f8.calls {Z:PZ} {x0:Value} {w:World} {Q:PQ} (h:f8.sh Z x0 w Q):CallV π Z 8 #[x0] w Q:=
 cl Tryz.func8 f8.an [x0] (by kernel_rfl) (by kernel_rfl) h

def f9.sh (Z:PZ) (x0:Value) (w:World) (Q:PQ):Prop:=
 ∃J_1:Nat→Value→PQ,(∃m,J_1 m (.slice none 0 0) (.int .i64 0) w) ∧
 ∀m_1,∀t2:Value,∀t3:Value,∀w:World,J_1 m_1 t2 t3 w→Env →
 rN π Z (Builtin.len_ #[22] 3 #[x0]) w fun t4 w=>
 rN π Z (binOp .lss 3 t3 t4) w fun t5 w=>
 cV t5 (
 rN π Z (indexAt 22 x0 t3) w fun t6 w=>
 rN π Z (loadAt 50 t6) w fun t7 w=>
 CallV π Z 14 #[t7] w fun t8 w=>
 rN π Z (Instr.buildSlice 22 1 #[(0,t8)]) w fun t9 w=>
 rN π Z (Builtin.append_ #[22,22] 22 #[t2,t9]) w fun t10 w=>
 rN π Z (binOp .add 3 t3 (.int .i64 1)) w fun t11 w=>
 ∃n_1,n_1 < m_1∧J_1 n_1 t10 t11 w) (
 Q t2 w)
def f9.an:An:=(.q (.q (.sq (.q (.bl (.lp [3,4] (.sq (.q (.c)) (.sq (.bl .leaf) .leaf))))) (.sq .leaf .leaf))))
theorem f9.calls {Z:PZ} {x0:Value} {w:World} {Q:PQ} (h:f9.sh Z x0 w Q):CallV π Z 9 #[x0] w Q:=
 cl Tryz.func9 f9.an [x0] (by kernel_rfl) (by kernel_rfl) h

def f10.sh (Z:PZ) (x0:Value) (w:World) (Q:PQ):Prop:=
 ∃J_1:Nat→PQ,(∃m,J_1 m (.int .i64 0) w) ∧
 ∀m_1,∀t2:Value,∀w:World,J_1 m_1 t2 w→Env →
 rN π Z (Builtin.len_ #[22] 3 #[x0]) w fun t3 w=>
 rN π Z (binOp .lss 3 t2 t3) w fun t4 w=>
 cV t4 (
 rN π Z (indexAt 22 x0 t2) w fun t5 w=>
 rN π Z (loadAt 50 t5) w fun t6 w=>
 CallV π Z 23 #[t6] w fun t7 w=>
 rN π Z (eqOp .neq 30 false true t7 (.int .i64 0)) w fun t8 w=>
 cV t8 (
 Q (.bool false) w) (
 rN π Z (binOp .add 3 t2 (.int .i64 1)) w fun t9 w=>
 ∃n_1,n_1 < m_1∧J_1 n_1 t9 w)) (
 rN π Z (Instr.build 39 #[]) w fun t10 w=>
 CallV π Z 33 #[t10,x0] w fun t11 w=>
 Q t11 w)
def f10.an:An:=(.q (.sq (.q (.bl (.lp [3] (.sq (.q (.c)) (.sq (.bl (.q (.cn (.sq .leaf .leaf) .leaf))) .leaf))))) (.sq .leaf .leaf)))
theorem f10.calls {Z:PZ} {x0:Value} {w:World} {Q:PQ} (h:f10.sh Z x0 w Q):CallV π Z 10 #[x0] w Q:=
 cl Tryz.func10 f10.an [x0] (by kernel_rfl) (by kernel_rfl) h

def f11.sh (Z:PZ) (x0:Value) (w:World) (Q:PQ):Prop:=
 rN π Z (binOp .lss 3 x0 (.int .i64 0)) w fun t1 w=>
 gW (t1) false (fun k=>k (x0) w) (fun t2 w=>
 gW (t1) false (fun k=>rN π Z (binOp .gtr 3 t2 (.int .i64 16777216)) w k) (fun t3 w=>
 rN π Z (pickV t1 (.bool true) t3) w fun t4 w=>
 cV t4 (
 Q (Value.tuple #[(.pointer none),(.int .i64 1)]) w) (
 rN π Z (Instr.build 76 #[(1,(.bool true)),(2,x0),(3,(.bool true))]) w fun t5 w=>
 rN π Z (Instr.box 76 t5) w fun t6 w=>
 Q (Value.tuple #[t6,(.int .i64 0)]) w)) w) w
def f11.an:An:=(.q (.sq (.q (.cn (.sq .leaf .leaf) .leaf)) (.sq .leaf .leaf)))
theorem f11.calls {Z:PZ} {x0:Value} {w:World} {Q:PQ} (h:f11.sh Z x0 w Q):CallV π Z 11 #[x0] w Q:=
 cl Tryz.func11 f11.an [x0] (by kernel_rfl) (by kernel_rfl) h

def f12.sh (Z:PZ) (x0 x1 x2 x3:Value) (w:World) (Q:PQ):Prop:=
 CallV π Z 34 #[x0,x1,x2] w fun t1 w=>
 rN π Z (extract t1 0) w fun t2 w=>
 rN π Z (extract t1 1) w fun t3 w=>
 rN π Z (eqOp .neq 30 false true t3 (.int .i64 0)) w fun t4 w=>
 cV t4 (
 Q (Value.tuple #[(.pointer none),t3]) w) (
 CallV π Z 37 #[x3,(.func (.func 35) #[] #[])] w fun t5 w=>
 cV t5 (
 Q (Value.tuple #[(.pointer none),(.int .i64 40)]) w) (
 rN π Z (Instr.build 39 #[]) w fun t6 w=>
 CallV π Z 38 #[t6,x3] w fun t7 w=>
 rN π Z (Op.unary .not t7) w fun t8 w=>
 cV t8 (
 Q (Value.tuple #[(.pointer none),(.int .i64 100)]) w) (
 CallV π Z 39 #[x0] w fun t9 w=>
 rN π Z (Op.unary .not t9) w fun t10 w=>
 cV t10 (
 Q (Value.tuple #[(.pointer none),(.int .i64 23)]) w) (
 CallV π Z 40 #[x0,x1] w fun t11 w=>
 rN π Z (Builtin.len_ #[23] 3 #[t11]) w fun t12 w=>
 rN π Z (binOp .gtr 3 t12 (.int .i64 0)) w fun t13 w=>
 cV t13 (
 Q (Value.tuple #[(.pointer none),(.int .i64 22)]) w) (
 ∃J_14:Nat→Value→PQ,(∃m,J_14 m x3 (.int .i64 1) w) ∧
 ∀m_14,∀t15:Value,∀t16:Value,∀w:World,J_14 m_14 t15 t16 w→Env →
 rN π Z (eqOp .eql 3 false true t16 (.int .i64 1)) w fun t17 w=>
 gW (t17) false (fun k=>k (t15) w) (fun t18 w=>
 gW (t17) false (fun k=>rN π Z (Builtin.len_ #[22] 3 #[t18]) w k) (fun t19 w=>
 gW (t17) false (fun k=>rN π Z (binOp .gtr 3 t19 (.int .i64 0)) w k) (fun t20 w=>
 rN π Z (pickV t17 (.bool true) t20) w fun t21 w=>
 cV t21 (
 rN π Z (Builtin.len_ #[22] 3 #[t15]) w fun t22 w=>
 rN π Z (Builtin.min_ #[3,3] 3 #[x2,t22]) w fun t23 w=>
 Drawn w fun w=>
 pU π (Instr.sliceAt 22 t15 none (some t23) none) fun t24=>
 CallV π Z 42 #[x1,t16] w fun t25 w=>
 CallV π Z 41 #[t2,t25,(.bool true),t24] w fun t26 w=>
 rN π Z (eqOp .neq 30 false true t26 (.int .i64 0)) w fun t27 w=>
 cV t27 (
 Q (Value.tuple #[(.pointer none),t26]) w) (
 rN π Z (Instr.sliceAt 22 t15 (some t23) none none) w fun t28 w=>
 rN π Z (binOp .add 3 t16 (.int .i64 1)) w fun t29 w=>
 ∃n_14,n_14 < m_14∧J_14 n_14 t28 t29 w)) (
 Q (Value.tuple #[t2,(.int .i64 0)]) w)) w) w) w)))))
def f12.an:An:=(.q (.q (.sq (.q (.cn (.sq .leaf .leaf) .leaf)) (.q (.sq (.bl (.q (.cn (.sq .leaf .leaf) (.q (.cn (.sq .leaf .leaf) (.q (.cn (.sq .leaf .leaf) (.q (.cn (.sq .leaf .leaf) .leaf))))))))) (.sq (.q (.bl (.lp [3,13] (.sq (.q (.c)) (.sq (.bl (.q (.sq (.sq (.dr (pl [0,4,8,16,20,24,14,30,32] .fin)) (.q (.cn (.sq .leaf .leaf) .leaf))) .leaf))) .leaf))))) (.sq .leaf .leaf)))))))
theorem f12.calls {Z:PZ} {x0 x1 x2 x3:Value} {w:World} {Q:PQ} (h:f12.sh Z x0 x1 x2 x3 w Q):CallV π Z 12 #[x0,x1,x2,x3] w Q:=
 cl Tryz.func12 f12.an [x0,x1,x2,x3] (by kernel_rfl) (by kernel_rfl) h

def f13.sh (Z:PZ) (x0 x1:Value) (w:World) (Q:PQ):Prop:=
 rN π Z (Instr.box 50 x1) w fun t1 w=>
 CallV π Z 43 #[x0] w fun t2 w=>
 cV t2 (
 Q (.int .i64 1) w) (
 Drawn w fun w=>
 rD π (loadAt 50 t1) w fun t3=>
 PureV π (nilChk x0) fun t4=>
 pU π (fieldAt 85 t4 5) fun t5=>
 rD π (loadAt 39 t5) w fun t6=>
 CallV π Z 36 #[t3,t6] w fun t7 w=>
 rN π Z (eqOp .neq 30 false true t7 (.int .i64 0)) w fun t8 w=>
 cV t8 (
 Q t7 w) (
 Drawn w fun w=>
 PureV π (nilChk x0) fun t9=>
 pU π (fieldAt 85 t9 4) fun t10=>
 rD π (loadAt 3 t10) w fun t11=>
 PureV π (nilChk x0) fun t12=>
 pU π (fieldAt 85 t12 2) fun t13=>
 rD π (loadAt 3 t13) w fun t14=>
 pU π (binOp .geq 3 t11 t14) fun t15=>
 cV t15 (
 Drawn w fun w=>
 PureV π (nilChk x0) fun t16=>
 pU π (fieldAt 85 t16 1) fun t17=>
 rD π (loadAt 2 t17) w fun t18=>
 PureV π (nilChk x0) fun t19=>
 pU π (fieldAt 85 t19 3) fun t20=>
 rD π (loadAt 50 t1) w fun t21=>
 (
 rN π Z (loadAt 66 t20) w fun t22 w=>
 Still π (nx (loadAt 50 t1)) t21 w <|
 Still π (nx (loadAt 2 t17)) t18 w <|
 pU π (Builtin.len_ #[66] 3 #[t22]) fun t23=>
 pU π (binOp .add 3 t23 (.int .i64 1)) fun t24=>
 (
 CallV π Z 42 #[t18,t24] w fun t25 w=>
 Still π (nx (loadAt 50 t1)) t21 w <|
 rN π Z (Instr.buildSlice 22 1 #[(0,t21)]) w fun t26 w=>
 CallV π Z 41 #[x0,t25,(.bool true),t26] w fun t27 w=>
 Q t27 w) ∧
 (
 rN π Z (Instr.buildSlice 22 1 #[(0,t21)]) w fun t28 w=>
 Still π (nx (loadAt 2 t17)) t18 w <|
 CallV π Z 42 #[t18,t24] w fun t29 w=>
 CallV π Z 41 #[x0,t29,(.bool true),t28] w fun t30 w=>
 Q t30 w)) ∧
 (
 rN π Z (Instr.buildSlice 22 1 #[(0,t21)]) w fun t31 w=>
 Still π (nx (loadAt 2 t17)) t18 w <|
 rN π Z (loadAt 66 t20) w fun t32 w=>
 Still π (nx (loadAt 2 t17)) t18 w <|
 pU π (Builtin.len_ #[66] 3 #[t32]) fun t33=>
 pU π (binOp .add 3 t33 (.int .i64 1)) fun t34=>
 CallV π Z 42 #[t18,t34] w fun t35 w=>
 CallV π Z 41 #[x0,t35,(.bool true),t31] w fun t36 w=>
 Q t36 w)) (
 Drawn w fun w=>
 PureV π (nilChk x0) fun t37=>
 pU π (fieldAt 85 t37 3) fun t38=>
 rD π (loadAt 66 t38) w fun t39=>
 PureV π (nilChk x0) fun t40=>
 pU π (fieldAt 85 t40 3) fun t41=>
 rD π (loadAt 66 t41) w fun t42=>
 pU π (Builtin.len_ #[66] 3 #[t42]) fun t43=>
 pU π (binOp .sub 3 t43 (.int .i64 1)) fun t44=>
 pU π (indexAt 66 t39 t44) fun t45=>
 rD π (loadAt 9 t45) w fun t46=>
 rD π (loadAt 50 t1) w fun t47=>
 rN π Z (Instr.buildSlice 22 1 #[(0,t47)]) w fun t48 w=>
 Still π (nx (loadAt 9 t45)) t46 w <|
 Still π (nx (loadAt 66 t41)) t42 w <|
 Still π (nx (loadAt 66 t38)) t39 w <|
 CallV π Z 41 #[x0,t46,(.bool false),t48] w fun t49 w=>
 Still π (nx (loadAt 66 t41)) t42 w <|
 Still π (nx (loadAt 66 t38)) t39 w <|
 Q t49 w)))
def f13.an:An:=(.q (.sq (.q (.cn (.sq .leaf .leaf) .leaf)) (.sq (.sq (.dr (pl [1,4,8,12,17,22,24] .fin)) (.q (.cn (.sq .leaf .leaf) .leaf))) (.sq (.sq (.dr (pl [0,4,8,13,16,20,24,29,32] .fin)) (.cn (.sq (.dr (pl [0,4,8,12,17,20,24,28,49] (.two 8 (pl [36,40] (.two 11 (pl [54,58,60] .fin) 13 (pl [46,58,60] .fin))) 13 (pl [34,36,40,46,58,60] .fin)))) .leaf) .leaf)) (.sq (.dr (pl [0,4,8,12,17,20,24,28,33,36,40,44,49,53,58,62,64] .fin)) .leaf)))))
theorem f13.calls {Z:PZ} {x0 x1:Value} {w:World} {Q:PQ} (h:f13.sh Z x0 x1 w Q):CallV π Z 13 #[x0,x1] w Q:=
 cl Tryz.func13 f13.an [x0,x1] (by kernel_rfl) (by kernel_rfl) h

def f14.sh (Z:PZ) (x0:Value) (w:World) (Q:PQ):Prop:=
 rN π Z (Instr.box 50 x0) w fun t1 w=>
 rN π Z (Instr.alloc 50 true (.tuple #[])) w fun t2 w=>
 rN π Z (fieldAt 50 t1 2) w fun t3 w=>
 rN π Z (loadAt 48 t3) w fun t4 w=>
 CallV π Z 44 #[t4] w fun t5 w=>
 rN π Z (fieldAt 50 t1 2) w fun t6 w=>
 rO π Z (storeAt 48 t6 t5) w fun w=>
 rN π Z (loadAt 50 t1) w fun t7 w=>
 rO π Z (storeAt 50 t2 t7) w fun w=>
 ∃r_8,(do loadVar 50 (← asAddr t2):Sem Value).run π w=.ok r_8 w ∧
 Q r_8 w
def f14.an:An:=(.q (.q (.sq .leaf .leaf)))
theorem f14.calls {Z:PZ} {x0:Value} {w:World} {Q:PQ} (h:f14.sh Z x0 w Q):CallV π Z 14 #[x0] w Q:=
 cl Tryz.func14 f14.an [x0] (by kernel_rfl) (by kernel_rfl) h

def f15.sh (Z:PZ) (x0 x1 x2 x3:Value) (w:World) (Q:PQ):Prop:=
 rN π Z (Instr.box 39 x3) w fun t1 w=>
 CallV π Z 34 #[x0,x1,x2] w fun t2 w=>
 rN π Z (extract t2 0) w fun t3 w=>
 rN π Z (extract t2 1) w fun t4 w=>
 rN π Z (eqOp .neq 30 false true t4 (.int .i64 0)) w fun t5 w=>
 cV t5 (
 Q (Value.tuple #[(.pointer none),t4]) w) (
 CallV π Z 39 #[x0] w fun t6 w=>
 rN π Z (Op.unary .not t6) w fun t7 w=>
 cV t7 (
 Q (Value.tuple #[(.pointer none),(.int .i64 23)]) w) (
 CallV π Z 40 #[x0,x1] w fun t8 w=>
 rN π Z (Builtin.len_ #[23] 3 #[t8]) w fun t9 w=>
 rN π Z (eqOp .eql 3 false true t9 (.int .i64 0)) w fun t10 w=>
 gW (t10) false (fun k=>k (t8) w) (fun t11 w=>
 gW (t10) false (fun k=>rN π Z (indexAt 23 t11 (.int .i64 0)) w k) (fun t12 w=>
 gW (t10) false (fun k=>rN π Z (loadAt 3 t12) w k) (fun t13 w=>
 gW (t10) false (fun k=>rN π Z (eqOp .neq 3 false true t13 (.int .i64 1)) w k) (fun t14 w=>
 rN π Z (pickV t10 (.bool true) t14) w fun t15 w=>
 cV t15 (
 Q (Value.tuple #[(.pointer none),(.int .i64 20)]) w) (
 rN π Z (loadAt 39 t1) w fun t16 w=>
 runX π Z (nilChk t3) w fun t17 w=>
 rN π Z (fieldAt 85 t17 5) w fun t18 w=>
 rO π Z (storeAt 39 t18 t16) w fun w=>
 rN π Z (Builtin.len_ #[23] 3 #[t8]) w fun t19 w=>
 ∃J_20:Nat→PQ,(∃m,J_20 m (.int .i64 0) w) ∧
 ∀m_20,∀t21:Value,∀w:World,J_20 m_20 t21 w→Env →
 rN π Z (binOp .lss 3 t21 t19) w fun t22 w=>
 cV t22 (
 ∀j_23:World→Prop,(∀w:World,(Env →
 rN π Z (binOp .add 3 t21 (.int .i64 1)) w fun t24 w=>
 ∃n_20,n_20 < m_20∧J_20 n_20 t24 w) →
 j_23 w) →
 rN π Z (indexAt 23 t8 t21) w fun t25 w=>
 rN π Z (loadAt 3 t25) w fun t26 w=>
 CallV π Z 42 #[x1,t26] w fun t27 w=>
 CallV π Z 45 #[x0,t27] w fun t28 w=>
 rN π Z (extract t28 0) w fun t29 w=>
 rN π Z (extract t28 1) w fun t30 w=>
 rN π Z (eqOp .neq 30 false true t30 (.int .i64 0)) w fun t31 w=>
 cV t31 (
 Q (Value.tuple #[(.pointer none),t30]) w) (
 runX π Z (nilChk t3) w fun t32 w=>
 rN π Z (fieldAt 85 t32 3) w fun t33 w=>
 rN π Z (loadAt 66 t33) w fun t34 w=>
 rN π Z (Instr.buildSlice 66 1 #[(0,t27)]) w fun t35 w=>
 rN π Z (Builtin.append_ #[66,66] 66 #[t34,t35]) w fun t36 w=>
 runX π Z (nilChk t3) w fun t37 w=>
 rN π Z (fieldAt 85 t37 3) w fun t38 w=>
 rO π Z (storeAt 66 t38 t36) w fun w=>
 runX π Z (nilChk t3) w fun t39 w=>
 rN π Z (fieldAt 85 t39 4) w fun t40 w=>
 rO π Z (storeAt 3 t40 (.int .i64 0)) w fun w=>
 CallV π Z 46 #[t3,t29] w fun t41 w=>
 rN π Z (extract t41 0) w fun t42 w=>
 rN π Z (extract t41 1) w fun t43 w=>
 rN π Z (Builtin.len_ #[23] 3 #[t8]) w fun t44 w=>
 rN π Z (binOp .sub 3 t44 (.int .i64 1)) w fun t45 w=>
 rN π Z (eqOp .eql 3 false false t21 t45) w fun t46 w=>
 rN π Z (binOp .add 3 t21 (.int .i64 1)) w fun t47 w=>
 rN π Z (eqOp .neq 3 false false t26 t47) w fun t48 w=>
 gW (t48) false (fun k=>k (t43) w) (fun t49 w=>
 gW (t48) false (fun k=>rN π Z (Op.unary .not t49) w k) (fun t50 w=>
 rN π Z (pickV t48 (.bool true) t50) w fun t51 w=>
 gW (t51) false (fun k=>k (t46) w) (fun t52 w=>
 gW (t51) false (fun k=>rN π Z (Op.unary .not t52) w k) (fun t53 w=>
 gW (t51) false (fun k=>k (t53) w) (fun t54 w=>
 gW (t54) true (fun k=>k (t42) w) (fun t55 w=>
 gW (t54) true (fun k=>k (t29) w) (fun t56 w=>
 gW (t54) true (fun k=>rN π Z (Builtin.len_ #[43] 3 #[t56]) w k) (fun t57 w=>
 gW (t54) true (fun k=>rN π Z (binOp .lss 3 t55 t57) w k) (fun t58 w=>
 gW (t54) true (fun k=>k (t58) w) (fun t59 w=>
 gW (t59) false (fun k=>k (t3) w) (fun t60 w=>
 gW (t59) false (fun k=>runX π Z (nilChk t60) w k) (fun t61 w=>
 gW (t59) false (fun k=>rN π Z (fieldAt 85 t61 4) w k) (fun t62 w=>
 gW (t59) false (fun k=>rN π Z (loadAt 3 t62) w k) (fun t63 w=>
 gW (t59) false (fun k=>rN π Z (eqOp .eql 3 false true t63 (.int .i64 0)) w k) (fun t64 w=>
 gW (t54) true (fun k=>rN π Z (pickV t59 (.bool true) t64) w k) (fun t65 w=>
 gW (t51) false (fun k=>rN π Z (pickV t54 t65 (.bool false)) w k) (fun t66 w=>
 rN π Z (pickV t51 (.bool true) t66) w fun t67 w=>
 cV t67 (
 Q (Value.tuple #[(.pointer none),(.int .i64 101)]) w) (
 rN π Z (Builtin.len_ #[43] 3 #[t29]) w fun t68 w=>
 rN π Z (binOp .lss 3 t42 t68) w fun t69 w=>
 cV t69 (
 CallV π Z 47 #[x0,t27,t42] w fun t70 w=>
 rN π Z (eqOp .neq 30 false true t70 (.int .i64 0)) w fun t71 w=>
 cV t71 (
 Q (Value.tuple #[(.pointer none),t70]) w) (
 j_23 w)) (
 j_23 w))) w) w) w) w) w) w) w) w) w) w) w) w) w) w) w) w) w)) (
 Q (Value.tuple #[t3,(.int .i64 0)]) w))) w) w) w) w))
def f15.an:An:=(.q (.q (.sq (.q (.cn (.sq .leaf .leaf) .leaf)) (.sq (.q (.cn (.sq .leaf .leaf) .leaf)) (.q (.sq (.q (.cn (.sq .leaf .leaf) .leaf)) (.q (.sq (.q (.bl (.lp [53] (.q (.sq (.c) (.sj [] (.bl (.q (.q (.q (.sq (.q (.cn (.sq .leaf .leaf) .leaf)) (.q (.q (.q (.q (.sq (.q (.cn (.sq .leaf .leaf) .leaf)) (.q (.cn (.q (.q (.cn (.sq .leaf .leaf) .leaf))) .leaf)))))))))))) .leaf)))))) (.sq .leaf .leaf)))))))))
theorem f15.calls {Z:PZ} {x0 x1 x2 x3:Value} {w:World} {Q:PQ} (h:f15.sh Z x0 x1 x2 x3 w Q):CallV π Z 15 #[x0,x1,x2,x3] w Q:=
 cl Tryz.func15 f15.an [x0,x1,x2,x3] (by kernel_rfl) (by kernel_rfl) h

def f16.sh (Z:PZ) (x0 x1:Value) (w:World) (Q:PQ):Prop:=
 rN π Z (Builtin.len_ #[22] 3 #[x0]) w fun t1 w=>
 rN π Z (Builtin.len_ #[22] 3 #[x1]) w fun t2 w=>
 rN π Z (eqOp .neq 3 false false t1 t2) w fun t3 w=>
 cV t3 (
 Q (.bool false) w) (
 ∃J_4:Nat→PQ,(∃m,J_4 m (.int .i64 0) w) ∧
 ∀m_4,∀t5:Value,∀w:World,J_4 m_4 t5 w→Env →
 rN π Z (Builtin.len_ #[22] 3 #[x0]) w fun t6 w=>
 rN π Z (binOp .lss 3 t5 t6) w fun t7 w=>
 cV t7 (
 Drawn w fun w=>
 pU π (indexAt 22 x0 t5) fun t8=>
 rD π (loadAt 50 t8) w fun t9=>
 pU π (indexAt 22 x1 t5) fun t10=>
 rD π (loadAt 50 t10) w fun t11=>
 CallV π Z 48 #[t9,t11] w fun t12 w=>
 pU π (Op.unary .not t12) fun t13=>
 cV t13 (
 Q (.bool false) w) (
 rN π Z (binOp .add 3 t5 (.int .i64 1)) w fun t14 w=>
 ∃n_4,n_4 < m_4∧J_4 n_4 t14 w)) (
 Q (.bool true) w))
def f16.an:An:=(.q (.sq (.q (.cn (.sq .leaf .leaf) .leaf)) (.sq (.q (.bl (.lp [5] (.sq (.q (.c)) (.sq (.bl (.sq (.dr (pl [0,4,8,13,16,20,24,29,34,36] .fin)) (.cn (.sq .leaf .leaf) .leaf))) .leaf))))) (.sq .leaf .leaf))))
theorem f16.calls {Z:PZ} {x0 x1:Value} {w:World} {Q:PQ} (h:f16.sh Z x0 x1 w Q):CallV π Z 16 #[x0,x1] w Q:=
 cl Tryz.func16 f16.an [x0,x1] (by kernel_rfl) (by kernel_rfl) h

def f17.sh (Z:PZ) (x0:Value) (w:World) (Q:PQ):Prop:=
 CallV π Z 43 #[x0] w fun t1 w=>
 cV t1 (
 Q (.slice none 0 0) w) (
 runX π Z (nilChk x0) w fun t2 w=>
 rN π Z (fieldAt 85 t2 6) w fun t3 w=>
 rN π Z (loadAt 22 t3) w fun t4 w=>
 rN π Z (Builtin.len_ #[22] 3 #[t4]) w fun t5 w=>
 ∃J_6:Nat→Value→PQ,(∃m,J_6 m (.slice none 0 0) (.int .i64 0) w) ∧
 ∀m_6,∀t7:Value,∀t8:Value,∀w:World,J_6 m_6 t7 t8 w→Env →
 rN π Z (binOp .lss 3 t8 t5) w fun t9 w=>
 cV t9 (
 rN π Z (indexAt 22 t4 t8) w fun t10 w=>
 rN π Z (loadAt 50 t10) w fun t11 w=>
 rN π Z (Instr.alloc 50 true (.tuple #[])) w fun t12 w=>
 rO π Z (storeAt 50 t12 t11) w fun w=>
 rN π Z (loadAt 50 t12) w fun t13 w=>
 CallV π Z 49 #[t13] w fun t14 w=>
 rN π Z (Instr.buildSlice 22 1 #[(0,t14)]) w fun t15 w=>
 rN π Z (Builtin.append_ #[22,22] 22 #[t7,t15]) w fun t16 w=>
 rN π Z (binOp .add 3 t8 (.int .i64 1)) w fun t17 w=>
 ∃n_6,n_6 < m_6∧J_6 n_6 t16 t17 w) (
 Q t7 w))
def f17.an:An:=(.q (.sq (.q (.cn (.sq .leaf .leaf) .leaf)) (.q (.sq (.q (.bl (.lp [3,13] (.q (.sq (.c) (.sq (.bl (.sq .leaf .leaf)) .leaf)))))) (.sq .leaf .leaf)))))
theorem f17.calls {Z:PZ} {x0:Value} {w:World} {Q:PQ} (h:f17.sh Z x0 w Q):CallV π Z 17 #[x0] w Q:=
 cl Tryz.func17 f17.an [x0] (by kernel_rfl) (by kernel_rfl) h

def f20.sh (Z:PZ) (x0:Value) (w:World) (Q:PQ):Prop:=
 rN π Z (Instr.box 48 x0) w fun t1 w=>
 rN π Z (loadAt 48 t1) w fun t2 w=>
 CallV π Z 32 #[t2] w fun t3 w=>
 rN π Z (binOp .gtr 3 t3 (.int .i64 20000)) w fun t4 w=>
 Q t4 w
def f20.an:An:=(.q (.sq .leaf .leaf))
theorem f20.calls {Z:PZ} {x0:Value} {w:World} {Q:PQ} (h:f20.sh Z x0 w Q):CallV π Z 20 #[x0] w Q:=
 cl Tryz.func20 f20.an [x0] (by kernel_rfl) (by kernel_rfl) h

def f22.sh (Z:PZ) (x0 x1:Value) (w:World) (Q:PQ):Prop:=
 rN π Z (Instr.box 39 x0) w fun t1 w=>
 rN π Z (Instr.box 39 x1) w fun t2 w=>
 rN π Z (fieldAt 39 t1 0) w fun t3 w=>
 rN π Z (loadAt 37 t3) w fun t4 w=>
 rN π Z (fieldAt 39 t2 0) w fun t5 w=>
 rN π Z (loadAt 37 t5) w fun t6 w=>
 rN π Z (binOp .lss 37 t4 t6) w fun t7 w=>
 gW (t7) false (fun k=>rN π Z (fieldAt 39 t1 0) w k) (fun t8 w=>
 gW (t7) false (fun k=>rN π Z (loadAt 37 t8) w k) (fun t9 w=>
 gW (t7) false (fun k=>rN π Z (fieldAt 39 t2 0) w k) (fun t10 w=>
 gW (t7) false (fun k=>rN π Z (loadAt 37 t10) w k) (fun t11 w=>
 gW (t7) false (fun k=>rN π Z (eqOp .eql 37 false false t9 t11) w k) (fun t12 w=>
 gW (t7) false (fun k=>k (t12) w) (fun t13 w=>
 gW (t13) true (fun k=>rN π Z (fieldAt 39 t1 1) w k) (fun t14 w=>
 gW (t13) true (fun k=>rN π Z (loadAt 37 t14) w k) (fun t15 w=>
 gW (t13) true (fun k=>rN π Z (fieldAt 39 t2 1) w k) (fun t16 w=>
 gW (t13) true (fun k=>rN π Z (loadAt 37 t16) w k) (fun t17 w=>
 gW (t13) true (fun k=>rN π Z (binOp .lss 37 t15 t17) w k) (fun t18 w=>
 gW (t7) false (fun k=>rN π Z (pickV t13 t18 (.bool false)) w k) (fun t19 w=>
 rN π Z (pickV t7 (.bool true) t19) w fun t20 w=>
 cV t20 (
 Q (.int .i64 (-1)) w) (
 rN π Z (loadAt 39 t1) w fun t21 w=>
 rN π Z (loadAt 39 t2) w fun t22 w=>
 rN π Z (eqOp .eql 39 false false t21 t22) w fun t23 w=>
 cV t23 (
 Q (.int .i64 0) w) (
 Q (.int .i64 1) w))) w) w) w) w) w) w) w) w) w) w) w) w
def f22.an:An:=(.q (.sq (.bl (.q (.cn (.sq .leaf .leaf) (.q (.cn (.sq .leaf .leaf) .leaf))))) (.sq .leaf .leaf)))
theorem f22.calls {Z:PZ} {x0 x1:Value} {w:World} {Q:PQ} (h:f22.sh Z x0 x1 w Q):CallV π Z 22 #[x0,x1] w Q:=
 cl Tryz.func22 f22.an [x0,x1] (by kernel_rfl) (by kernel_rfl) h

def f23.sh (Z:PZ) (x0:Value) (w:World) (Q:PQ):Prop:=
 rN π Z (Instr.box 50 x0) w fun t1 w=>
 rN π Z (fieldAt 50 t1 0) w fun t2 w=>
 rN π Z (fieldAt 39 t2 0) w fun t3 w=>
 rN π Z (loadAt 37 t3) w fun t4 w=>
 rN π Z (eqOp .eql 37 false true t4 (.int .u32 0)) w fun t5 w=>
 gW (t5) true (fun k=>rN π Z (fieldAt 50 t1 0) w k) (fun t6 w=>
 gW (t5) true (fun k=>rN π Z (fieldAt 39 t6 1) w k) (fun t7 w=>
 gW (t5) true (fun k=>rN π Z (loadAt 37 t7) w k) (fun t8 w=>
 gW (t5) true (fun k=>rN π Z (eqOp .eql 37 false true t8 (.int .u32 0)) w k) (fun t9 w=>
 rN π Z (pickV t5 t9 (.bool false)) w fun t10 w=>
 rN π Z (fieldAt 50 t1 0) w fun t11 w=>
 rN π Z (fieldAt 39 t11 0) w fun t12 w=>
 rN π Z (loadAt 37 t12) w fun t13 w=>
 rN π Z (eqOp .neq 37 false true t13 (.int .u32 0)) w fun t14 w=>
 gW (t14) true (fun k=>rN π Z (fieldAt 50 t1 0) w k) (fun t15 w=>
 gW (t14) true (fun k=>rN π Z (fieldAt 39 t15 0) w k) (fun t16 w=>
 gW (t14) true (fun k=>rN π Z (loadAt 37 t16) w k) (fun t17 w=>
 gW (t14) true (fun k=>rN π Z (convert 37 2 t17) w k) (fun t18 w=>
 gW (t14) true (fun k=>rN π Z (binOp .leq 2 t18 (.int .i64 2147483647)) w k) (fun t19 w=>
 rN π Z (pickV t14 t19 (.bool false)) w fun t20 w=>
 gW (t20) true (fun k=>rN π Z (fieldAt 50 t1 0) w k) (fun t21 w=>
 gW (t20) true (fun k=>rN π Z (fieldAt 39 t21 1) w k) (fun t22 w=>
 gW (t20) true (fun k=>rN π Z (loadAt 37 t22) w k) (fun t23 w=>
 gW (t20) true (fun k=>rN π Z (eqOp .neq 37 false true t23 (.int .u32 0)) w k) (fun t24 w=>
 rN π Z (pickV t20 t24 (.bool false)) w fun t25 w=>
 rN π Z (Op.unary .not t10) w fun t26 w=>
 gW (t26) true (fun k=>k (t25) w) (fun t27 w=>
 gW (t26) true (fun k=>rN π Z (Op.unary .not t27) w k) (fun t28 w=>
 rN π Z (pickV t26 t28 (.bool false)) w fun t29 w=>
 cV t29 (
 Q (.int .i64 40) w) (
 rN π Z (fieldAt 50 t1 1) w fun t30 w=>
 rN π Z (fieldAt 42 t30 0) w fun t31 w=>
 rN π Z (loadAt 40 t31) w fun t32 w=>
 rN π Z (binOp .lss 40 t32 (.int .i8 0)) w fun t33 w=>
 gW (t33) false (fun k=>rN π Z (fieldAt 50 t1 1) w k) (fun t34 w=>
 gW (t33) false (fun k=>rN π Z (fieldAt 42 t34 0) w k) (fun t35 w=>
 gW (t33) false (fun k=>rN π Z (loadAt 40 t35) w k) (fun t36 w=>
 gW (t33) false (fun k=>rN π Z (binOp .gtr 40 t36 (.int .i8 6)) w k) (fun t37 w=>
 rN π Z (pickV t33 (.bool true) t37) w fun t38 w=>
 gW (t38) false (fun k=>rN π Z (fieldAt 50 t1 1) w k) (fun t39 w=>
 gW (t38) false (fun k=>rN π Z (fieldAt 42 t39 2) w k) (fun t40 w=>
 gW (t38) false (fun k=>rN π Z (loadAt 2 t40) w k) (fun t41 w=>
 gW (t38) false (fun k=>rN π Z (binOp .lss 2 t41 (.int .i64 0)) w k) (fun t42 w=>
 rN π Z (pickV t38 (.bool true) t42) w fun t43 w=>
 gW (t43) false (fun k=>rN π Z (fieldAt 50 t1 2) w k) (fun t44 w=>
 gW (t43) false (fun k=>rN π Z (fieldAt 48 t44 0) w k) (fun t45 w=>
 gW (t43) false (fun k=>rN π Z (loadAt 40 t45) w k) (fun t46 w=>
 gW (t43) false (fun k=>rN π Z (binOp .gtr 40 t46 (.int .i8 8)) w k) (fun t47 w=>
 rN π Z (pickV t43 (.bool true) t47) w fun t48 w=>
 cV t48 (
 Q (.int .i64 40) w) (
 rN π Z (fieldAt 50 t1 2) w fun t49 w=>
 rN π Z (loadAt 48 t49) w fun t50 w=>
 CallV π Z 53 #[t50] w fun t51 w=>
 Q t51 w)) w) w) w) w) w) w) w) w) w) w) w) w)) w) w) w) w) w) w) w) w) w) w) w) w) w) w) w
def f23.an:An:=(.q (.q (.q (.sq (.q (.cn (.sq .leaf .leaf) .leaf)) (.sq (.q (.cn (.sq .leaf .leaf) .leaf)) (.sq .leaf .leaf))))))
theorem f23.calls {Z:PZ} {x0:Value} {w:World} {Q:PQ} (h:f23.sh Z x0 w Q):CallV π Z 23 #[x0] w Q:=
 cl Tryz.func23 f23.an [x0] (by kernel_rfl) (by kernel_rfl) h

def f24.sh (Z:PZ) (x0 x1:Value) (w:World) (Q:PQ):Prop:=
 CallV π Z 51 #[x0] w fun t1 w=>
 rN π Z (Op.unary .not t1) w fun t2 w=>
 gW (t2) true (fun k=>k (x0) w) (fun t3 w=>
 gW (t2) true (fun k=>runX π Z (nilChk t3) w k) (fun t4 w=>
 gW (t2) true (fun k=>rN π Z (fieldAt 76 t4 3) w k) (fun t5 w=>
 gW (t2) true (fun k=>rN π Z (loadAt 4 t5) w k) (fun t6 w=>
 rN π Z (pickV t2 t6 (.bool false)) w fun t7 w=>
 cV t7 (
 rN π Z (binOp .geq 3 x1 (.int .i64 0)) w fun t8 w=>
 runX π Z (nilChk x0) w fun t9 w=>
 rN π Z (fieldAt 76 t9 4) w fun t10 w=>
 rO π Z (storeAt 4 t10 t8) w fun w=>
 runX π Z (nilChk x0) w fun t11 w=>
 rN π Z (fieldAt 76 t11 5) w fun t12 w=>
 rO π Z (storeAt 3 t12 x1) w fun w=>
 Q (Value.tuple #[]) w) (
 Q (Value.tuple #[]) w)) w) w) w) w
def f24.an:An:=(.q (.c))
theorem f24.calls {Z:PZ} {x0 x1:Value} {w:World} {Q:PQ} (h:f24.sh Z x0 x1 w Q):CallV π Z 24 #[x0,x1] w Q:=
 cl Tryz.func24 f24.an [x0,x1] (by kernel_rfl) (by kernel_rfl) h

def f25.sh (Z:PZ) (x0:Value) (w:World) (Q:PQ):Prop:=
 CallV π Z 51 #[x0] w fun t1 w=>
 rN π Z (Op.unary .not t1) w fun t2 w=>
 cV t2 (
 runX π Z (nilChk x0) w fun t3 w=>
 rN π Z (fieldAt 76 t3 3) w fun t4 w=>
 rO π Z (storeAt 4 t4 (.bool false)) w fun w=>
 runX π Z (nilChk x0) w fun t5 w=>
 rN π Z (fieldAt 76 t5 4) w fun t6 w=>
 rO π Z (storeAt 4 t6 (.bool false)) w fun w=>
 Q (Value.tuple #[]) w) (
 Q (Value.tuple #[]) w)
def f25.an:An:=(.q (.c))
theorem f25.calls {Z:PZ} {x0:Value} {w:World} {Q:PQ} (h:f25.sh Z x0 w Q):CallV π Z 25 #[x0] w Q:=
 cl Tryz.func25 f25.an [x0] (by kernel_rfl) (by kernel_rfl) h

def f26.sh (Z:PZ) (x0 x1:Value) (w:World) (Q:PQ):Prop:=
 CallV π Z 51 #[x0] w fun t1 w=>
 gW (t1) false (fun k=>k (x0) w) (fun t2 w=>
 gW (t1) false (fun k=>runX π Z (nilChk t2) w k) (fun t3 w=>
 gW (t1) false (fun k=>rN π Z (fieldAt 76 t3 3) w k) (fun t4 w=>
 gW (t1) false (fun k=>rN π Z (loadAt 4 t4) w k) (fun t5 w=>
 rN π Z (pickV t1 (.bool true) t5) w fun t6 w=>
 cV t6 (
 Q (Value.tuple #[]) w) (
 runX π Z (nilChk x0) w fun t7 w=>
 rN π Z (fieldAt 76 t7 3) w fun t8 w=>
 rO π Z (storeAt 4 t8 (.bool true)) w fun w=>
 runX π Z (nilChk x0) w fun t9 w=>
 rN π Z (fieldAt 76 t9 0) w fun t10 w=>
 rN π Z (fieldAt 74 t10 0) w fun t11 w=>
 rN π Z (loadAt 72 t11) w fun t12 w=>
 rN π Z (Builtin.len_ #[72] 3 #[t12]) w fun t13 w=>
 ∃J_14:Nat→PQ,(∃m,J_14 m (.int .i64 0) w) ∧
 ∀m_14,∀t15:Value,∀w:World,J_14 m_14 t15 w→Env →
 rN π Z (binOp .lss 3 t15 t13) w fun t16 w=>
 cV t16 (
 ∀j_17:World→Prop,(∀w:World,(Env →
 rN π Z (binOp .add 3 t15 (.int .i64 1)) w fun t18 w=>
 ∃n_14,n_14 < m_14∧J_14 n_14 t18 w) →
 j_17 w) →
 runX π Z (nilChk x0) w fun t19 w=>
 rN π Z (fieldAt 76 t19 0) w fun t20 w=>
 rN π Z (fieldAt 74 t20 0) w fun t21 w=>
 rN π Z (loadAt 72 t21) w fun t22 w=>
 rN π Z (indexAt 72 t22 t15) w fun t23 w=>
 Drawn w fun w=>
 PureV π (nilChk t23) fun t24=>
 pU π (fieldAt 97 t24 1) fun t25=>
 rD π (loadAt 43 t25) w fun t26=>
 pU π (Builtin.len_ #[43] 3 #[t26]) fun t27=>
 PureV π (nilChk t23) fun t28=>
 pU π (fieldAt 97 t28 2) fun t29=>
 rD π (loadAt 3 t29) w fun t30=>
 pU π (binOp .sub 3 t27 t30) fun t31=>
 ∀j_32:PQ,(∀t33:Value,∀w:World,(Env →
 runX π Z (nilChk t23) w fun t34 w=>
 rN π Z (fieldAt 97 t34 2) w fun t35 w=>
 rN π Z (loadAt 3 t35) w fun t36 w=>
 rN π Z (binOp .add 3 t36 t33) w fun t37 w=>
 runX π Z (nilChk t23) w fun t38 w=>
 rN π Z (fieldAt 97 t38 2) w fun t39 w=>
 rO π Z (storeAt 3 t39 t37) w fun w=>
 Drawn w fun w=>
 PureV π (nilChk t23) fun t40=>
 pU π (fieldAt 97 t40 1) fun t41=>
 rD π (loadAt 43 t41) w fun t42=>
 PureV π (nilChk t23) fun t43=>
 pU π (fieldAt 97 t43 2) fun t44=>
 rD π (loadAt 3 t44) w fun t45=>
 pU π (Instr.sliceAt 43 t42 none (some t45) none) fun t46=>
 PureV π (nilChk t23) fun t47=>
 pU π (fieldAt 97 t47 1) fun t48=>
 rO π Z (storeAt 43 t48 t46) w fun w=>
 runX π Z (nilChk x0) w fun t49 w=>
 rN π Z (fieldAt 76 t49 0) w fun t50 w=>
 rN π Z (fieldAt 74 t50 1) w fun t51 w=>
 rN π Z (loadAt 3 t51) w fun t52 w=>
 rN π Z (binOp .sub 3 t31 t33) w fun t53 w=>
 rN π Z (binOp .sub 3 t52 t53) w fun t54 w=>
 runX π Z (nilChk x0) w fun t55 w=>
 rN π Z (fieldAt 76 t55 0) w fun t56 w=>
 rN π Z (fieldAt 74 t56 1) w fun t57 w=>
 rO π Z (storeAt 3 t57 t54) w fun w=>
 j_17 w) →
 j_32 t33 w) →
 rN π Z (Builtin.len_ #[23] 3 #[x1]) w fun t58 w=>
 rN π Z (binOp .lss 3 t15 t58) w fun t59 w=>
 cV t59 (
 rN π Z (indexAt 23 x1 t15) w fun t60 w=>
 rN π Z (loadAt 3 t60) w fun t61 w=>
 rN π Z (Builtin.min_ #[3,3] 3 #[t31,t61]) w fun t62 w=>
 rN π Z (Builtin.max_ #[3,3] 3 #[(.int .i64 0),t62]) w fun t63 w=>
 j_32 t63 w) (
 j_32 (.int .i64 0) w)) (
 Q (Value.tuple #[]) w))) w) w) w) w
def f26.an:An:=(.sq (.q (.c)) (.q (.q (.bl (.lp [25] (.q (.sq (.c) (.sj [] (.bl (.q (.q (.sq (.dr (pl [0,4,8,13,16,20,24,28,33,36,40] .fin)) (.q (.sj [7] (.q (.c)) (.q (.sq (.dr (pl [0,4,8,12,17,20,24,28,33,36,40,44,50] .fin)) .leaf)))))))) .leaf))))))))
theorem f26.calls {Z:PZ} {x0 x1:Value} {w:World} {Q:PQ} (h:f26.sh Z x0 x1 w Q):CallV π Z 26 #[x0,x1] w Q:=
 cl Tryz.func26 f26.an [x0,x1] (by kernel_rfl) (by kernel_rfl) h

def f27.sh (Z:PZ) (x0:Value) (w:World) (Q:PQ):Prop:=
 ∃J_1:Nat→Value→PQ,(∃m,J_1 m (.slice none 0 0) (.int .i64 0) w) ∧
 ∀m_1,∀t2:Value,∀t3:Value,∀w:World,J_1 m_1 t2 t3 w→Env →
 rN π Z (Builtin.len_ #[23] 3 #[x0]) w fun t4 w=>
 rN π Z (binOp .lss 3 t3 t4) w fun t5 w=>
 cV t5 (
 rN π Z (indexAt 23 x0 t3) w fun t6 w=>
 rN π Z (loadAt 3 t6) w fun t7 w=>
 rN π Z (Instr.buildSlice 23 1 #[(0,t7)]) w fun t8 w=>
 rN π Z (Builtin.append_ #[23,23] 23 #[t2,t8]) w fun t9 w=>
 rN π Z (binOp .add 3 t3 (.int .i64 1)) w fun t10 w=>
 ∃n_1,n_1 < m_1∧J_1 n_1 t9 t10 w) (
 Q t2 w)
def f27.an:An:=(.q (.q (.sq (.q (.bl (.lp [3,4] (.sq (.q (.c)) (.sq (.bl .leaf) .leaf))))) (.sq .leaf .leaf))))
theorem f27.calls {Z:PZ} {x0:Value} {w:World} {Q:PQ} (h:f27.sh Z x0 w Q):CallV π Z 27 #[x0] w Q:=
 cl Tryz.func27 f27.an [x0] (by kernel_rfl) (by kernel_rfl) h

def f28.sh (Z:PZ) (x0:Value) (w:World) (Q:PQ):Prop:=
 CallV π Z 51 #[x0] w fun t1 w=>
 cV t1 (
 Q (.slice none 0 0) w) (
 runX π Z (nilChk x0) w fun t2 w=>
 rN π Z (fieldAt 76 t2 0) w fun t3 w=>
 rN π Z (fieldAt 74 t3 0) w fun t4 w=>
 rN π Z (loadAt 72 t4) w fun t5 w=>
 rN π Z (Builtin.len_ #[72] 3 #[t5]) w fun t6 w=>
 ∃J_7:Nat→Value→PQ,(∃m,J_7 m (.slice none 0 0) (.int .i64 0) w) ∧
 ∀m_7,∀t8:Value,∀t9:Value,∀w:World,J_7 m_7 t8 t9 w→Env →
 rN π Z (binOp .lss 3 t9 t6) w fun t10 w=>
 cV t10 (
 rN π Z (indexAt 72 t5 t9) w fun t11 w=>
 rN π Z (loadAt 97 t11) w fun t12 w=>
 rN π Z (Instr.alloc 97 true (.tuple #[])) w fun t13 w=>
 rO π Z (storeAt 97 t13 t12) w fun w=>
 rN π Z (fieldAt 97 t13 0) w fun t14 w=>
 rN π Z (loadAt 9 t14) w fun t15 w=>
 rN π Z (Instr.buildSlice 66 1 #[(0,t15)]) w fun t16 w=>
 rN π Z (Builtin.append_ #[66,66] 66 #[t8,t16]) w fun t17 w=>
 rN π Z (binOp .add 3 t9 (.int .i64 1)) w fun t18 w=>
 ∃n_7,n_7 < m_7∧J_7 n_7 t17 t18 w) (
 Q t8 w))
def f28.an:An:=(.q (.sq (.q (.cn (.sq .leaf .leaf) .leaf)) (.q (.sq (.q (.bl (.lp [3,14] (.q (.sq (.c) (.sq (.bl (.sq .leaf .leaf)) .leaf)))))) (.sq .leaf .leaf)))))
theorem f28.calls {Z:PZ} {x0:Value} {w:World} {Q:PQ} (h:f28.sh Z x0 w Q):CallV π Z 28 #[x0] w Q:=
 cl Tryz.func28 f28.an [x0] (by kernel_rfl) (by kernel_rfl) h

def f29.sh (Z:PZ) (x0 x1 x2:Value) (w:World) (Q:PQ):Prop:=
 rN π Z (Builtin.len_ #[22] 3 #[x0]) w fun t1 w=>
 rN π Z (Builtin.len_ #[22] 3 #[x1]) w fun t2 w=>
 rN π Z (binOp .leq 3 t1 t2) w fun t3 w=>
 gW (t3) true (fun k=>k (x1) w) (fun t4 w=>
 gW (t3) true (fun k=>rN π Z (Builtin.len_ #[22] 3 #[t4]) w k) (fun t5 w=>
 gW (t3) true (fun k=>k (x0) w) (fun t6 w=>
 gW (t3) true (fun k=>rN π Z (Builtin.len_ #[22] 3 #[t6]) w k) (fun t7 w=>
 gW (t3) true (fun k=>rN π Z (binOp .sub 3 t5 t7) w k) (fun t8 w=>
 gW (t3) true (fun k=>k (x2) w) (fun t9 w=>
 gW (t3) true (fun k=>rN π Z (binOp .leq 3 t8 t9) w k) (fun t10 w=>
 rN π Z (pickV t3 t10 (.bool false)) w fun t11 w=>
 gW (t11) true (fun k=>k (x0) w) (fun t12 w=>
 gW (t11) true (fun k=>k (x1) w) (fun t13 w=>
 gW (t11) true (fun k=>k (x0) w) (fun t14 w=>
 gW (t11) true (fun k=>rN π Z (Builtin.len_ #[22] 3 #[t14]) w k) (fun t15 w=>
 gW (t11) true (fun k=>rN π Z (Instr.sliceAt 22 t13 none (some t15) none) w k) (fun t16 w=>
 gW (t11) true (fun k=>CallV π Z 16 #[t12,t16] w k) (fun t17 w=>
 rN π Z (pickV t11 t17 (.bool false)) w fun t18 w=>
 Q t18 w) w) w) w) w) w) w) w) w) w) w) w) w) w
def f29.an:An:=(.q (.sq .leaf .leaf))
theorem f29.calls {Z:PZ} {x0 x1 x2:Value} {w:World} {Q:PQ} (h:f29.sh Z x0 x1 x2 w Q):CallV π Z 29 #[x0,x1,x2] w Q:=
 cl Tryz.func29 f29.an [x0,x1,x2] (by kernel_rfl) (by kernel_rfl) h

def f30.sh (Z:PZ) (x0:Value) (w:World) (Q:PQ):Prop:=
 rN π Z (Instr.alloc 50 true (.tuple #[])) w fun t1 w=>
 rN π Z (Instr.build 39 #[(0,(.int .u32 1)),(1,x0)]) w fun t2 w=>
 rN π Z (Instr.build 48 #[(0,(.int .i8 7)),(8,(.int .i32 9))]) w fun t3 w=>
 rN π Z (Instr.build 50 #[(0,t2),(2,t3)]) w fun t4 w=>
 rO π Z (storeAt 50 t1 t4) w fun w=>
 ∃r_5,(do loadVar 50 (← asAddr t1):Sem Value).run π w=.ok r_5 w ∧
 Q r_5 w
def f30.an:An:=(.q (.sq .leaf .leaf))
theorem f30.calls {Z:PZ} {x0:Value} {w:World} {Q:PQ} (h:f30.sh Z x0 w Q):CallV π Z 30 #[x0] w Q:=
 cl Tryz.func30 f30.an [x0] (by kernel_rfl) (by kernel_rfl) h

def f31.sh (Z:PZ) (x0:Value) (w:World) (Q:PQ):Prop:=
 CallV π Z 43 #[x0] w fun t1 w=>
 cV t1 (
 Q (.slice none 0 0) w) (
 runX π Z (nilChk x0) w fun t2 w=>
 rN π Z (fieldAt 85 t2 3) w fun t3 w=>
 rN π Z (loadAt 66 t3) w fun t4 w=>
 CallV π Z 54 #[t4] w fun t5 w=>
 Q t5 w)
def f31.an:An:=(.q (.sq (.q (.cn (.sq .leaf .leaf) .leaf)) (.sq .leaf .leaf)))
theorem f31.calls {Z:PZ} {x0:Value} {w:World} {Q:PQ} (h:f31.sh Z x0 w Q):CallV π Z 31 #[x0] w Q:=
 cl Tryz.func31 f31.an [x0] (by kernel_rfl) (by kernel_rfl) h

def f32.sh (Z:PZ) (x0:Value) (w:World) (Q:PQ):Prop:=
 rN π Z (Instr.box 48 x0) w fun t1 w=>
 rN π Z (loadAt 48 t1) w fun t2 w=>
 CallV π Z 55 #[t2,(.int .i64 0)] w fun t3 w=>
 Q t3 w
def f32.an:An:=(.q (.sq .leaf .leaf))
theorem f32.calls {Z:PZ} {x0:Value} {w:World} {Q:PQ} (h:f32.sh Z x0 w Q):CallV π Z 32 #[x0] w Q:=
 cl Tryz.func32 f32.an [x0] (by kernel_rfl) (by kernel_rfl) h

def f33.sh (Z:PZ) (x0 x1:Value) (w:World) (Q:PQ):Prop:=
 rN π Z (Instr.box 39 x0) w fun t1 w=>
 ∃J_2:Nat→PQ,(∃m,J_2 m (.int .i64 0) w) ∧
 ∀m_2,∀t3:Value,∀w:World,J_2 m_2 t3 w→Env →
 rN π Z (Builtin.len_ #[22] 3 #[x1]) w fun t4 w=>
 rN π Z (binOp .lss 3 t3 t4) w fun t5 w=>
 cV t5 (
 ∀j_6:World→Prop,(∀w:World,(Env →
 rN π Z (binOp .add 3 t3 (.int .i64 1)) w fun t7 w=>
 ∃n_2,n_2 < m_2∧J_2 n_2 t7 w) →
 j_6 w) →
 rN π Z (loadAt 39 t1) w fun t8 w=>
 rN π Z (Instr.alloc 39 true (.tuple #[])) w fun t9 w=>
 rO π Z (storeAt 39 t9 t8) w fun w=>
 ∀j_10:World→Prop,(∀w:World,(Env →
 Drawn w fun w=>
 rD π (loadAt 39 t9) w fun t11=>
 pU π (indexAt 22 x1 t3) fun t12=>
 pU π (fieldAt 50 t12 0) fun t13=>
 rD π (loadAt 39 t13) w fun t14=>
 CallV π Z 22 #[t11,t14] w fun t15 w=>
 pU π (eqOp .neq 3 false true t15 (.int .i64 (-1))) fun t16=>
 cV t16 (
 Q (.bool false) w) (
 j_6 w)) →
 j_10 w) →
 rN π Z (binOp .gtr 3 t3 (.int .i64 0)) w fun t17 w=>
 cV t17 (
 rN π Z (binOp .sub 3 t3 (.int .i64 1)) w fun t18 w=>
 rN π Z (indexAt 22 x1 t18) w fun t19 w=>
 rN π Z (fieldAt 50 t19 0) w fun t20 w=>
 rN π Z (loadAt 39 t20) w fun t21 w=>
 rO π Z (storeAt 39 t9 t21) w fun w=>
 j_10 w) (
 j_10 w)) (
 Q (.bool true) w)
def f33.an:An:=(.q (.sq (.q (.bl (.lp [5] (.sq (.q (.c)) (.sj [] (.bl (.q (.sj [] (.q (.c)) (.sq (.dr (pl [1,4,8,12,16,21,26,28] .fin)) (.cn (.sq .leaf .leaf) .leaf))))) .leaf))))) (.sq .leaf .leaf)))
theorem f33.calls {Z:PZ} {x0 x1:Value} {w:World} {Q:PQ} (h:f33.sh Z x0 x1 w Q):CallV π Z 33 #[x0,x1] w Q:=
 cl Tryz.func33 f33.an [x0,x1] (by kernel_rfl) (by kernel_rfl) h

def f34.sh (Z:PZ) (x0 x1 x2:Value) (w:World) (Q:PQ):Prop:=
 CallV π Z 56 #[x0] w fun t1 w=>
 rN π Z (Op.unary .not t1) w fun t2 w=>
 gW (t2) false (fun k=>k (x1) w) (fun t3 w=>
 gW (t2) false (fun k=>rN π Z (binOp .lss 2 t3 (.int .i64 1)) w k) (fun t4 w=>
 rN π Z (pickV t2 (.bool true) t4) w fun t5 w=>
 gW (t5) false (fun k=>k (x2) w) (fun t6 w=>
 gW (t5) false (fun k=>rN π Z (binOp .lss 3 t6 (.int .i64 1)) w k) (fun t7 w=>
 rN π Z (pickV t5 (.bool true) t7) w fun t8 w=>
 gW (t8) false (fun k=>k (x2) w) (fun t9 w=>
 gW (t8) false (fun k=>rN π Z (binOp .gtr 3 t9 (.int .i64 64)) w k) (fun t10 w=>
 rN π Z (pickV t8 (.bool true) t10) w fun t11 w=>
 cV t11 (
 Q (Value.tuple #[(.pointer none),(.int .i64 1)]) w) (
 rN π Z (Instr.build 85 #[(0,x0),(1,x1),(2,x2)]) w fun t12 w=>
 rN π Z (Instr.box 85 t12) w fun t13 w=>
 Q (Value.tuple #[t13,(.int .i64 0)]) w)) w) w) w) w) w) w
def f34.an:An:=(.q (.sq (.q (.cn (.sq .leaf .leaf) .leaf)) (.sq .leaf .leaf)))
theorem f34.calls {Z:PZ} {x0 x1 x2:Value} {w:World} {Q:PQ} (h:f34.sh Z x0 x1 x2 w Q):CallV π Z 34 #[x0,x1,x2] w Q:=
 cl Tryz.func34 f34.an [x0,x1,x2] (by kernel_rfl) (by kernel_rfl) h

def f35.sh (Z:PZ) (x0:Value) (w:World) (Q:PQ):Prop:=
 rN π Z (Instr.box 50 x0) w fun t1 w=>
 rN π Z (loadAt 50 t1) w fun t2 w=>
 rN π Z (Instr.build 39 #[]) w fun t3 w=>
 CallV π Z 36 #[t2,t3] w fun t4 w=>
 rN π Z (eqOp .neq 30 false true t4 (.int .i64 0)) w fun t5 w=>
 Q t5 w
def f35.an:An:=(.q (.sq .leaf .leaf))
theorem f35.calls {Z:PZ} {x0:Value} {w:World} {Q:PQ} (h:f35.sh Z x0 w Q):CallV π Z 35 #[x0] w Q:=
 cl Tryz.func35 f35.an [x0] (by kernel_rfl) (by kernel_rfl) h

def f36.sh (Z:PZ) (x0 x1:Value) (w:World) (Q:PQ):Prop:=
 rN π Z (Instr.box 50 x0) w fun t1 w=>
 rN π Z (Instr.box 39 x1) w fun t2 w=>
 rN π Z (loadAt 50 t1) w fun t3 w=>
 CallV π Z 57 #[t3] w fun t4 w=>
 rN π Z (eqOp .neq 30 false true t4 (.int .i64 0)) w fun t5 w=>
 gW (t5) false (fun k=>rN π Z (fieldAt 50 t1 0) w k) (fun t6 w=>
 gW (t5) false (fun k=>rN π Z (loadAt 39 t6) w k) (fun t7 w=>
 gW (t5) false (fun k=>rN π Z (Instr.build 39 #[]) w k) (fun t8 w=>
 gW (t5) false (fun k=>rN π Z (eqOp .eql 39 false false t7 t8) w k) (fun t9 w=>
 rN π Z (pickV t5 (.bool true) t9) w fun t10 w=>
 cV t10 (
 Q (.int .i64 40) w) (
 rN π Z (loadAt 39 t2) w fun t11 w=>
 rN π Z (fieldAt 50 t1 0) w fun t12 w=>
 rN π Z (loadAt 39 t12) w fun t13 w=>
 CallV π Z 58 #[t11,t13] w fun t14 w=>
 rN π Z (binOp .geq 3 t14 (.int .i64 0)) w fun t15 w=>
 cV t15 (
 Q (.int .i64 100) w) (
 Q (.int .i64 0) w))) w) w) w) w
def f36.an:An:=(.q (.sq (.bl (.q (.cn (.sq .leaf .leaf) (.q (.cn (.sq .leaf .leaf) .leaf))))) (.sq .leaf .leaf)))
theorem f36.calls {Z:PZ} {x0 x1:Value} {w:World} {Q:PQ} (h:f36.sh Z x0 x1 w Q):CallV π Z 36 #[x0,x1] w Q:=
 cl Tryz.func36 f36.an [x0,x1] (by kernel_rfl) (by kernel_rfl) h

def f37.sh (Z:PZ) (x0 x1:Value) (w:World) (Q:PQ):Prop:=
 CallV π Z 59 #[x0,x1] w fun t1 w=>
 rN π Z (binOp .geq 3 t1 (.int .i64 0)) w fun t2 w=>
 Q t2 w
def f37.an:An:=(.q (.sq .leaf .leaf))
theorem f37.calls {Z:PZ} {x0 x1:Value} {w:World} {Q:PQ} (h:f37.sh Z x0 x1 w Q):CallV π Z 37 #[x0,x1] w Q:=
 cl Tryz.func37 f37.an [x0,x1] (by kernel_rfl) (by kernel_rfl) h

def f38.sh (Z:PZ) (x0 x1:Value) (w:World) (Q:PQ):Prop:=
 rN π Z (Instr.box 39 x0) w fun t1 w=>
 rN π Z (Builtin.len_ #[22] 3 #[x1]) w fun t2 w=>
 ∃J_3:Nat→PQ,(∃m,J_3 m (.int .i64 0) w) ∧
 ∀m_3,∀t4:Value,∀w:World,J_3 m_3 t4 w→Env →
 rN π Z (binOp .lss 3 t4 t2) w fun t5 w=>
 cV t5 (
 rN π Z (indexAt 22 x1 t4) w fun t6 w=>
 rN π Z (loadAt 50 t6) w fun t7 w=>
 rN π Z (Instr.alloc 50 true (.tuple #[])) w fun t8 w=>
 rO π Z (storeAt 50 t8 t7) w fun w=>
 rN π Z (loadAt 39 t1) w fun t9 w=>
 rN π Z (fieldAt 50 t8 0) w fun t10 w=>
 rN π Z (loadAt 39 t10) w fun t11 w=>
 CallV π Z 58 #[t9,t11] w fun t12 w=>
 rN π Z (binOp .geq 3 t12 (.int .i64 0)) w fun t13 w=>
 cV t13 (
 Q (.bool false) w) (
 rN π Z (fieldAt 50 t8 0) w fun t14 w=>
 rN π Z (loadAt 39 t14) w fun t15 w=>
 rO π Z (storeAt 39 t1 t15) w fun w=>
 rN π Z (binOp .add 3 t4 (.int .i64 1)) w fun t16 w=>
 ∃n_3,n_3 < m_3∧J_3 n_3 t16 w)) (
 Q (.bool true) w)
def f38.an:An:=(.q (.sq (.q (.bl (.lp [9] (.q (.sq (.c) (.sq (.bl (.q (.sq (.q (.cn (.sq .leaf .leaf) .leaf)) .leaf))) .leaf)))))) (.sq .leaf .leaf)))
theorem f38.calls {Z:PZ} {x0 x1:Value} {w:World} {Q:PQ} (h:f38.sh Z x0 x1 w Q):CallV π Z 38 #[x0,x1] w Q:=
 cl Tryz.func38 f38.an [x0,x1] (by kernel_rfl) (by kernel_rfl) h

def f39.sh (Z:PZ) (x0:Value) (w:World) (Q:PQ):Prop:=
 CallV π Z 51 #[x0] w fun t1 w=>
 rN π Z (Op.unary .not t1) w fun t2 w=>
 gW (t2) true (fun k=>k (x0) w) (fun t3 w=>
 gW (t2) true (fun k=>runX π Z (nilChk t3) w k) (fun t4 w=>
 gW (t2) true (fun k=>rN π Z (fieldAt 76 t4 3) w k) (fun t5 w=>
 gW (t2) true (fun k=>rN π Z (loadAt 4 t5) w k) (fun t6 w=>
 rN π Z (pickV t2 t6 (.bool false)) w fun t7 w=>
 Q t7 w) w) w) w) w
def f39.an:An:=(.q (.sq .leaf .leaf))
theorem f39.calls {Z:PZ} {x0:Value} {w:World} {Q:PQ} (h:f39.sh Z x0 w Q):CallV π Z 39 #[x0] w Q:=
 cl Tryz.func39 f39.an [x0] (by kernel_rfl) (by kernel_rfl) h

def f40.sh (Z:PZ) (x0 x1:Value) (w:World) (Q:PQ):Prop:=
 CallV π Z 28 #[x0] w fun t1 w=>
 rN π Z (Builtin.len_ #[66] 3 #[t1]) w fun t2 w=>
 ∃J_3:Nat→Value→PQ,(∃m,J_3 m (.slice none 0 0) (.int .i64 0) w) ∧
 ∀m_3,∀t4:Value,∀t5:Value,∀w:World,J_3 m_3 t4 t5 w→Env →
 rN π Z (binOp .lss 3 t5 t2) w fun t6 w=>
 cV t6 (
 ∀j_7:PQ,(∀t8:Value,∀w:World,(Env →
 rN π Z (binOp .add 3 t5 (.int .i64 1)) w fun t9 w=>
 ∃n_3,n_3 < m_3∧J_3 n_3 t8 t9 w) →
 j_7 t8 w) →
 rN π Z (indexAt 66 t1 t5) w fun t10 w=>
 rN π Z (loadAt 9 t10) w fun t11 w=>
 CallV π Z 61 #[x1] w fun t12 w=>
 CallV π Z 60 #[t11,t12] w fun t13 w=>
 rN π Z (extract t13 0) w fun t14 w=>
 rN π Z (extract t13 1) w fun t15 w=>
 rN π Z (Op.unary .not t15) w fun t16 w=>
 cV t16 (
 j_7 t4 w) (
 CallV π Z 62 #[t14,(.int .i64 16),(.int .i64 64)] w fun t17 w=>
 rN π Z (extract t17 0) w fun t18 w=>
 rN π Z (extract t17 1) w fun t19 w=>
 rN π Z (eqOp .eql 109 false true t19 .nilIface) w fun t20 w=>
 gW (t20) true (fun k=>k (x1) w) (fun t21 w=>
 gW (t20) true (fun k=>k (t18) w) (fun t22 w=>
 gW (t20) true (fun k=>CallV π Z 42 #[t21,t22] w k) (fun t23 w=>
 gW (t20) true (fun k=>k (t11) w) (fun t24 w=>
 gW (t20) true (fun k=>rN π Z (eqOp .eql 9 false false t23 t24) w k) (fun t25 w=>
 rN π Z (pickV t20 t25 (.bool false)) w fun t26 w=>
 cV t26 (
 rN π Z (Instr.buildSlice 23 1 #[(0,t18)]) w fun t27 w=>
 rN π Z (Builtin.append_ #[23,23] 23 #[t4,t27]) w fun t28 w=>
 j_7 t28 w) (
 j_7 t4 w)) w) w) w) w) w)) (
 CallV π Z 63 #[t4] w fun t29 w=>
 Q t4 w)
def f40.an:An:=(.q (.q (.sq (.q (.bl (.lp [5,15] (.q (.sq (.c) (.sj [5] (.bl (.q (.q (.sq (.q (.c)) (.q (.q (.c))))))) .leaf)))))) (.q (.sq .leaf .leaf)))))
theorem f40.calls {Z:PZ} {x0 x1:Value} {w:World} {Q:PQ} (h:f40.sh Z x0 x1 w Q):CallV π Z 40 #[x0,x1] w Q:=
 cl Tryz.func40 f40.an [x0,x1] (by kernel_rfl) (by kernel_rfl) h

def f42.sh (Z:PZ) (x0 x1:Value) (w:World) (Q:PQ):Prop:=
 rN π Z (binOp .lss 2 x0 (.int .i64 1)) w fun t1 w=>
 gW (t1) false (fun k=>k (x1) w) (fun t2 w=>
 gW (t1) false (fun k=>rN π Z (binOp .lss 3 t2 (.int .i64 1)) w k) (fun t3 w=>
 rN π Z (pickV t1 (.bool true) t3) w fun t4 w=>
 gW (t4) false (fun k=>k (x1) w) (fun t5 w=>
 gW (t4) false (fun k=>rN π Z (binOp .gtr 3 t5 (.int .i64 4095)) w k) (fun t6 w=>
 rN π Z (pickV t4 (.bool true) t6) w fun t7 w=>
 cV t7 (
 Q (.string { data:=#[] }) w) (
 CallV π Z 61 #[x0] w fun t8 w=>
 CallV π Z 68 #[x1,(.int .i64 16)] w fun t9 w=>
 rN π Z (binOp .add 9 t8 t9) w fun t10 w=>
 Q t10 w)) w) w) w) w
def f42.an:An:=(.q (.sq (.q (.cn (.sq .leaf .leaf) .leaf)) (.sq .leaf .leaf)))
theorem f42.calls {Z:PZ} {x0 x1:Value} {w:World} {Q:PQ} (h:f42.sh Z x0 x1 w Q):CallV π Z 42 #[x0,x1] w Q:=
 cl Tryz.func42 f42.an [x0,x1] (by kernel_rfl) (by kernel_rfl) h

def f43.sh (Z:PZ) (x0:Value) (w:World) (Q:PQ):Prop:=
 rN π Z (eqOp .eql 33 false true x0 (.pointer none)) w fun t1 w=>
 gW (t1) false (fun k=>k (x0) w) (fun t2 w=>
 gW (t1) false (fun k=>runX π Z (nilChk t2) w k) (fun t3 w=>
 gW (t1) false (fun k=>rN π Z (fieldAt 85 t3 0) w k) (fun t4 w=>
 gW (t1) false (fun k=>rN π Z (loadAt 29 t4) w k) (fun t5 w=>
 gW (t1) false (fun k=>rN π Z (eqOp .eql 29 false true t5 (.pointer none)) w k) (fun t6 w=>
 rN π Z (pickV t1 (.bool true) t6) w fun t7 w=>
 Q t7 w) w) w) w) w) w
def f43.an:An:=(.q (.sq .leaf .leaf))
theorem f43.calls {Z:PZ} {x0:Value} {w:World} {Q:PQ} (h:f43.sh Z x0 w Q):CallV π Z 43 #[x0] w Q:=
 cl Tryz.func43 f43.an [x0] (by kernel_rfl) (by kernel_rfl) h

def f44.sh (Z:PZ) (x0:Value) (w:World) (Q:PQ):Prop:=
 rN π Z (Instr.box 48 x0) w fun t1 w=>
 rN π Z (Instr.alloc 48 true (.tuple #[])) w fun t2 w=>
 rN π Z (loadAt 48 t1) w fun t3 w=>
 rN π Z (Instr.alloc 48 true (.tuple #[])) w fun t4 w=>
 rO π Z (storeAt 48 t4 t3) w fun w=>
 rN π Z (fieldAt 48 t1 2) w fun t5 w=>
 rN π Z (loadAt 43 t5) w fun t6 w=>
 CallV π Z 69 #[t6] w fun t7 w=>
 rN π Z (fieldAt 48 t4 2) w fun t8 w=>
 rO π Z (storeAt 43 t8 t7) w fun w=>
 rN π Z (fieldAt 48 t1 3) w fun t9 w=>
 rN π Z (loadAt 44 t9) w fun t10 w=>
 CallV π Z 70 #[t10] w fun t11 w=>
 rN π Z (fieldAt 48 t4 3) w fun t12 w=>
 rO π Z (storeAt 44 t12 t11) w fun w=>
 rN π Z (fieldAt 48 t1 9) w fun t13 w=>
 rN π Z (loadAt 45 t13) w fun t14 w=>
 CallV π Z 71 #[t14] w fun t15 w=>
 rN π Z (fieldAt 48 t4 9) w fun t16 w=>
 rO π Z (storeAt 45 t16 t15) w fun w=>
 rN π Z (fieldAt 48 t4 10) w fun t17 w=>
 rO π Z (storeAt 46 t17 (.slice none 0 0)) w fun w=>
 ∃J_18:Nat→PQ,(∃m,J_18 m (.int .i64 0) w) ∧
 ∀m_18,∀t19:Value,∀w:World,J_18 m_18 t19 w→Env →
 rN π Z (fieldAt 48 t1 10) w fun t20 w=>
 rN π Z (loadAt 46 t20) w fun t21 w=>
 rN π Z (Builtin.len_ #[46] 3 #[t21]) w fun t22 w=>
 rN π Z (binOp .lss 3 t19 t22) w fun t23 w=>
 cV t23 (
 Drawn w fun w=>
 pU π (fieldAt 48 t4 10) fun t24=>
 rD π (loadAt 46 t24) w fun t25=>
 pU π (fieldAt 48 t1 10) fun t26=>
 rD π (loadAt 46 t26) w fun t27=>
 pU π (indexAt 46 t27 t19) fun t28=>
 rD π (loadAt 48 t28) w fun t29=>
 CallV π Z 44 #[t29] w fun t30 w=>
 Still π (nx (loadAt 46 t26)) t27 w <|
 Still π (nx (loadAt 46 t24)) t25 w <|
 rN π Z (Instr.buildSlice 46 1 #[(0,t30)]) w fun t31 w=>
 Still π (nx (loadAt 46 t26)) t27 w <|
 Still π (nx (loadAt 46 t24)) t25 w <|
 rN π Z (Builtin.append_ #[46,46] 46 #[t25,t31]) w fun t32 w=>
 Still π (nx (loadAt 46 t26)) t27 w <|
 pU π (fieldAt 48 t4 10) fun t33=>
 rO π Z (storeAt 46 t33 t32) w fun w=>
 rN π Z (binOp .add 3 t19 (.int .i64 1)) w fun t34 w=>
 ∃n_18,n_18 < m_18∧J_18 n_18 t34 w) (
 rN π Z (loadAt 48 t4) w fun t35 w=>
 rO π Z (storeAt 48 t2 t35) w fun w=>
 ∃r_36,(do loadVar 48 (← asAddr t2):Sem Value).run π w=.ok r_36 w ∧
 Q r_36 w)
def f44.an:An:=(.q (.q (.q (.q (.q (.q (.sq (.q (.bl (.lp [4] (.sq (.q (.c)) (.sq (.bl (.dr (pl [0,5,8,13,16,20,25,30,34,38,40,46] .fin))) .leaf))))) (.sq .leaf .leaf))))))))
theorem f44.calls {Z:PZ} {x0:Value} {w:World} {Q:PQ} (h:f44.sh Z x0 w Q):CallV π Z 44 #[x0] w Q:=
 cl Tryz.func44 f44.an [x0] (by kernel_rfl) (by kernel_rfl) h

def f45.sh (Z:PZ) (x0 x1:Value) (w:World) (Q:PQ):Prop:=
 CallV π Z 72 #[x0,x1] w fun t1 w=>
 rN π Z (extract t1 0) w fun t2 w=>
 rN π Z (extract t1 1) w fun t3 w=>
 rN π Z (eqOp .neq 30 false true t3 (.int .i64 0)) w fun t4 w=>
 cV t4 (
 Q (Value.tuple #[(.slice none 0 0),t3]) w) (
 runX π Z (nilChk x0) w fun t5 w=>
 rN π Z (fieldAt 76 t5 0) w fun t6 w=>
 rN π Z (fieldAt 74 t6 0) w fun t7 w=>
 rN π Z (loadAt 72 t7) w fun t8 w=>
 rN π Z (indexAt 72 t8 t2) w fun t9 w=>
 rN π Z (fieldAt 97 t9 1) w fun t10 w=>
 rN π Z (loadAt 43 t10) w fun t11 w=>
 CallV π Z 52 #[t11] w fun t12 w=>
 Q (Value.tuple #[t12,(.int .i64 0)]) w)
def f45.an:An:=(.q (.q (.sq (.q (.cn (.sq .leaf .leaf) .leaf)) (.sq .leaf .leaf))))
theorem f45.calls {Z:PZ} {x0 x1:Value} {w:World} {Q:PQ} (h:f45.sh Z x0 x1 w Q):CallV π Z 45 #[x0,x1] w Q:=
 cl Tryz.func45 f45.an [x0,x1] (by kernel_rfl) (by kernel_rfl) h

def f47.sh (Z:PZ) (x0 x1 x2:Value) (w:World) (Q:PQ):Prop:=
 CallV π Z 72 #[x0,x1] w fun t1 w=>
 rN π Z (extract t1 0) w fun t2 w=>
 rN π Z (extract t1 1) w fun t3 w=>
 rN π Z (eqOp .neq 30 false true t3 (.int .i64 0)) w fun t4 w=>
 cV t4 (
 Q t3 w) (
 rN π Z (binOp .lss 3 x2 (.int .i64 0)) w fun t5 w=>
 gW (t5) false (fun k=>k (x2) w) (fun t6 w=>
 gW (t5) false (fun k=>k (x0) w) (fun t7 w=>
 gW (t5) false (fun k=>runX π Z (nilChk t7) w k) (fun t8 w=>
 gW (t5) false (fun k=>rN π Z (fieldAt 76 t8 0) w k) (fun t9 w=>
 gW (t5) false (fun k=>rN π Z (fieldAt 74 t9 0) w k) (fun t10 w=>
 gW (t5) false (fun k=>rN π Z (loadAt 72 t10) w k) (fun t11 w=>
 gW (t5) false (fun k=>k (t2) w) (fun t12 w=>
 gW (t5) false (fun k=>rN π Z (indexAt 72 t11 t12) w k) (fun t13 w=>
 gW (t5) false (fun k=>rN π Z (fieldAt 97 t13 1) w k) (fun t14 w=>
 gW (t5) false (fun k=>rN π Z (loadAt 43 t14) w k) (fun t15 w=>
 gW (t5) false (fun k=>rN π Z (Builtin.len_ #[43] 3 #[t15]) w k) (fun t16 w=>
 gW (t5) false (fun k=>rN π Z (binOp .gtr 3 t6 t16) w k) (fun t17 w=>
 rN π Z (pickV t5 (.bool true) t17) w fun t18 w=>
 cV t18 (
 Q (.int .i64 1) w) (
 CallV π Z 75 #[x0] w fun t19 w=>
 rN π Z (Op.unary .not t19) w fun t20 w=>
 cV t20 (
 Q (.int .i64 23) w) (
 Drawn w fun w=>
 PureV π (nilChk x0) fun t21=>
 pU π (fieldAt 76 t21 0) fun t22=>
 pU π (fieldAt 74 t22 1) fun t23=>
 rD π (loadAt 3 t23) w fun t24=>
 PureV π (nilChk x0) fun t25=>
 pU π (fieldAt 76 t25 0) fun t26=>
 pU π (fieldAt 74 t26 0) fun t27=>
 rD π (loadAt 72 t27) w fun t28=>
 pU π (indexAt 72 t28 t2) fun t29=>
 pU π (fieldAt 97 t29 1) fun t30=>
 rD π (loadAt 43 t30) w fun t31=>
 pU π (Builtin.len_ #[43] 3 #[t31]) fun t32=>
 pU π (binOp .sub 3 t32 x2) fun t33=>
 pU π (binOp .sub 3 t24 t33) fun t34=>
 PureV π (nilChk x0) fun t35=>
 pU π (fieldAt 76 t35 0) fun t36=>
 pU π (fieldAt 74 t36 1) fun t37=>
 rO π Z (storeAt 3 t37 t34) w fun w=>
 Drawn w fun w=>
 PureV π (nilChk x0) fun t38=>
 pU π (fieldAt 76 t38 0) fun t39=>
 pU π (fieldAt 74 t39 0) fun t40=>
 rD π (loadAt 72 t40) w fun t41=>
 PureV π (nilChk x0) fun t42=>
 pU π (fieldAt 76 t42 0) fun t43=>
 pU π (fieldAt 74 t43 0) fun t44=>
 rD π (loadAt 72 t44) w fun t45=>
 pU π (indexAt 72 t45 t2) fun t46=>
 pU π (fieldAt 97 t46 1) fun t47=>
 rD π (loadAt 43 t47) w fun t48=>
 pU π (Instr.sliceAt 43 t48 none (some x2) none) fun t49=>
 pU π (indexAt 72 t41 t2) fun t50=>
 pU π (fieldAt 97 t50 1) fun t51=>
 rO π Z (storeAt 43 t51 t49) w fun w=>
 runX π Z (nilChk x0) w fun t52 w=>
 rN π Z (fieldAt 76 t52 0) w fun t53 w=>
 rN π Z (fieldAt 74 t53 0) w fun t54 w=>
 rN π Z (loadAt 72 t54) w fun t55 w=>
 rN π Z (indexAt 72 t55 t2) w fun t56 w=>
 rN π Z (fieldAt 97 t56 2) w fun t57 w=>
 rO π Z (storeAt 3 t57 x2) w fun w=>
 Q (.int .i64 0) w))) w) w) w) w) w) w) w) w) w) w) w) w)
def f47.an:An:=(.q (.q (.sq (.bl (.q (.cn (.sq .leaf .leaf) (.q (.cn (.sq .leaf .leaf) (.q (.cn (.sq .leaf .leaf) .leaf))))))) (.sq (.dr (pl [0,4,8,12,17,20,24,28,32,37,40,44,48,53,56,60,64,68,72,76,80,86] .fin)) (.sq (.dr (pl [0,4,8,12,17,20,24,28,32,36,41,44,48,52,57,60,64,68,72,78] .fin)) (.q (.sq .leaf .leaf)))))))
theorem f47.calls {Z:PZ} {x0 x1 x2:Value} {w:World} {Q:PQ} (h:f47.sh Z x0 x1 x2 w Q):CallV π Z 47 #[x0,x1,x2] w Q:=
 cl Tryz.func47 f47.an [x0,x1,x2] (by kernel_rfl) (by kernel_rfl) h

def f48.sh (Z:PZ) (x0 x1:Value) (w:World) (Q:PQ):Prop:=
 rN π Z (Instr.box 50 x0) w fun t1 w=>
 rN π Z (Instr.box 50 x1) w fun t2 w=>
 rN π Z (fieldAt 50 t1 0) w fun t3 w=>
 rN π Z (loadAt 39 t3) w fun t4 w=>
 rN π Z (fieldAt 50 t2 0) w fun t5 w=>
 rN π Z (loadAt 39 t5) w fun t6 w=>
 rN π Z (eqOp .eql 39 false false t4 t6) w fun t7 w=>
 gW (t7) true (fun k=>rN π Z (fieldAt 50 t1 1) w k) (fun t8 w=>
 gW (t7) true (fun k=>rN π Z (loadAt 42 t8) w k) (fun t9 w=>
 gW (t7) true (fun k=>rN π Z (fieldAt 50 t2 1) w k) (fun t10 w=>
 gW (t7) true (fun k=>rN π Z (loadAt 42 t10) w k) (fun t11 w=>
 gW (t7) true (fun k=>rN π Z (eqOp .eql 42 false false t9 t11) w k) (fun t12 w=>
 rN π Z (pickV t7 t12 (.bool false)) w fun t13 w=>
 gW (t13) true (fun k=>rN π Z (fieldAt 50 t1 2) w k) (fun t14 w=>
 gW (t13) true (fun k=>rN π Z (loadAt 48 t14) w k) (fun t15 w=>
 gW (t13) true (fun k=>rN π Z (fieldAt 50 t2 2) w k) (fun t16 w=>
 gW (t13) true (fun k=>rN π Z (loadAt 48 t16) w k) (fun t17 w=>
 gW (t13) true (fun k=>CallV π Z 76 #[t15,t17] w k) (fun t18 w=>
 rN π Z (pickV t13 t18 (.bool false)) w fun t19 w=>
 Q t19 w) w) w) w) w) w) w) w) w) w) w
def f48.an:An:=(.q (.sq .leaf .leaf))
theorem f48.calls {Z:PZ} {x0 x1:Value} {w:World} {Q:PQ} (h:f48.sh Z x0 x1 w Q):CallV π Z 48 #[x0,x1] w Q:=
 cl Tryz.func48 f48.an [x0,x1] (by kernel_rfl) (by kernel_rfl) h

def f49.sh (Z:PZ) (x0:Value) (w:World) (Q:PQ):Prop:=
 rN π Z (Instr.box 50 x0) w fun t1 w=>
 rN π Z (Instr.alloc 50 true (.tuple #[])) w fun t2 w=>
 rN π Z (fieldAt 50 t1 2) w fun t3 w=>
 rN π Z (loadAt 48 t3) w fun t4 w=>
 CallV π Z 77 #[t4] w fun t5 w=>
 rN π Z (fieldAt 50 t1 2) w fun t6 w=>
 rO π Z (storeAt 48 t6 t5) w fun w=>
 rN π Z (loadAt 50 t1) w fun t7 w=>
 rO π Z (storeAt 50 t2 t7) w fun w=>
 ∃r_8,(do loadVar 50 (← asAddr t2):Sem Value).run π w=.ok r_8 w ∧
 Q r_8 w
def f49.an:An:=(.q (.q (.sq .leaf .leaf)))
theorem f49.calls {Z:PZ} {x0:Value} {w:World} {Q:PQ} (h:f49.sh Z x0 w Q):CallV π Z 49 #[x0] w Q:=
 cl Tryz.func49 f49.an [x0] (by kernel_rfl) (by kernel_rfl) h

def f50.sh (Z:PZ) (x0 x1:Value) (w:World) (Q:PQ):Prop:=
 rN π Z (Builtin.len_ #[43] 3 #[x0]) w fun t1 w=>
 rN π Z (Builtin.len_ #[43] 3 #[x1]) w fun t2 w=>
 rN π Z (eqOp .neq 3 false false t1 t2) w fun t3 w=>
 cV t3 (
 Q (.bool false) w) (
 ∃J_4:Nat→PQ,(∃m,J_4 m (.int .i64 0) w) ∧
 ∀m_4,∀t5:Value,∀w:World,J_4 m_4 t5 w→Env →
 rN π Z (Builtin.len_ #[43] 3 #[x0]) w fun t6 w=>
 rN π Z (binOp .lss 3 t5 t6) w fun t7 w=>
 cV t7 (
 Drawn w fun w=>
 pU π (indexAt 43 x0 t5) fun t8=>
 rD π (loadAt 5 t8) w fun t9=>
 pU π (indexAt 43 x1 t5) fun t10=>
 rD π (loadAt 5 t10) w fun t11=>
 pU π (eqOp .neq 5 false false t9 t11) fun t12=>
 cV t12 (
 Q (.bool false) w) (
 rN π Z (binOp .add 3 t5 (.int .i64 1)) w fun t13 w=>
 ∃n_4,n_4 < m_4∧J_4 n_4 t13 w)) (
 Q (.bool true) w))
def f50.an:An:=(.q (.sq (.q (.cn (.sq .leaf .leaf) .leaf)) (.sq (.q (.bl (.lp [5] (.sq (.q (.c)) (.sq (.bl (.sq (.dr (pl [0,4,8,13,16,20,24,29,32] .fin)) (.cn (.sq .leaf .leaf) .leaf))) .leaf))))) (.sq .leaf .leaf))))
theorem f50.calls {Z:PZ} {x0 x1:Value} {w:World} {Q:PQ} (h:f50.sh Z x0 x1 w Q):CallV π Z 50 #[x0,x1] w Q:=
 cl Tryz.func50 f50.an [x0,x1] (by kernel_rfl) (by kernel_rfl) h

def f51.sh (Z:PZ) (x0:Value) (w:World) (Q:PQ):Prop:=
 rN π Z (eqOp .eql 29 false true x0 (.pointer none)) w fun t1 w=>
 gW (t1) false (fun k=>k (x0) w) (fun t2 w=>
 gW (t1) false (fun k=>runX π Z (nilChk t2) w k) (fun t3 w=>
 gW (t1) false (fun k=>rN π Z (fieldAt 76 t3 1) w k) (fun t4 w=>
 gW (t1) false (fun k=>rN π Z (loadAt 4 t4) w k) (fun t5 w=>
 gW (t1) false (fun k=>rN π Z (Op.unary .not t5) w k) (fun t6 w=>
 rN π Z (pickV t1 (.bool true) t6) w fun t7 w=>
 Q t7 w) w) w) w) w) w
def f51.an:An:=(.q (.sq .leaf .leaf))
theorem f51.calls {Z:PZ} {x0:Value} {w:World} {Q:PQ} (h:f51.sh Z x0 w Q):CallV π Z 51 #[x0] w Q:=
 cl Tryz.func51 f51.an [x0] (by kernel_rfl) (by kernel_rfl) h

def f52.sh (Z:PZ) (x0:Value) (w:World) (Q:PQ):Prop:=
 rN π Z (Builtin.len_ #[43] 3 #[x0]) w fun t1 w=>
 rN π Z (Instr.makeSlice 43 t1 t1) w fun t2 w=>
 rN π Z (Builtin.copy_ #[43,43] 3 #[t2,x0]) w fun t3 w=>
 Q t2 w
def f52.an:An:=(.q (.q (.q (.sq .leaf .leaf))))
theorem f52.calls {Z:PZ} {x0:Value} {w:World} {Q:PQ} (h:f52.sh Z x0 w Q):CallV π Z 52 #[x0] w Q:=
 cl Tryz.func52 f52.an [x0] (by kernel_rfl) (by kernel_rfl) h

def f53.sh (Z:PZ) (x0:Value) (w:World) (Q:PQ):Prop:=
 rN π Z (Instr.box 48 x0) w fun t1 w=>
 rN π Z (loadAt 48 t1) w fun t2 w=>
 CallV π Z 78 #[t2] w fun t3 w=>
 rN π Z (Op.unary .not t3) w fun t4 w=>
 cV t4 (
 Q (.int .i64 40) w) (
 ∃J_5:Nat→PQ,(∃m,J_5 m (.int .i64 0) w) ∧
 ∀m_5,∀t6:Value,∀w:World,J_5 m_5 t6 w→Env →
 rN π Z (fieldAt 48 t1 10) w fun t7 w=>
 rN π Z (loadAt 46 t7) w fun t8 w=>
 rN π Z (Builtin.len_ #[46] 3 #[t8]) w fun t9 w=>
 rN π Z (binOp .lss 3 t6 t9) w fun t10 w=>
 cV t10 (
 rN π Z (fieldAt 48 t1 10) w fun t11 w=>
 rN π Z (loadAt 46 t11) w fun t12 w=>
 rN π Z (indexAt 46 t12 t6) w fun t13 w=>
 rN π Z (loadAt 48 t13) w fun t14 w=>
 rN π Z (Instr.alloc 48 true (.tuple #[])) w fun t15 w=>
 rO π Z (storeAt 48 t15 t14) w fun w=>
 rN π Z (fieldAt 48 t15 0) w fun t16 w=>
 rN π Z (loadAt 40 t16) w fun t17 w=>
 rN π Z (binOp .lss 40 t17 (.int .i8 1)) w fun t18 w=>
 gW (t18) false (fun k=>rN π Z (fieldAt 48 t15 0) w k) (fun t19 w=>
 gW (t18) false (fun k=>rN π Z (loadAt 40 t19) w k) (fun t20 w=>
 gW (t18) false (fun k=>rN π Z (binOp .gtr 40 t20 (.int .i8 5)) w k) (fun t21 w=>
 rN π Z (pickV t18 (.bool true) t21) w fun t22 w=>
 gW (t22) false (fun k=>rN π Z (fieldAt 48 t15 7) w k) (fun t23 w=>
 gW (t22) false (fun k=>rN π Z (loadAt 2 t23) w k) (fun t24 w=>
 gW (t22) false (fun k=>rN π Z (eqOp .neq 2 false true t24 (.int .i64 0)) w k) (fun t25 w=>
 rN π Z (pickV t22 (.bool true) t25) w fun t26 w=>
 gW (t26) false (fun k=>rN π Z (fieldAt 48 t15 9) w k) (fun t27 w=>
 gW (t26) false (fun k=>rN π Z (loadAt 45 t27) w k) (fun t28 w=>
 gW (t26) false (fun k=>rN π Z (Builtin.len_ #[45] 3 #[t28]) w k) (fun t29 w=>
 gW (t26) false (fun k=>rN π Z (eqOp .neq 3 false true t29 (.int .i64 0)) w k) (fun t30 w=>
 rN π Z (pickV t26 (.bool true) t30) w fun t31 w=>
 gW (t31) false (fun k=>rN π Z (loadAt 48 t15) w k) (fun t32 w=>
 gW (t31) false (fun k=>CallV π Z 78 #[t32] w k) (fun t33 w=>
 gW (t31) false (fun k=>rN π Z (Op.unary .not t33) w k) (fun t34 w=>
 rN π Z (pickV t31 (.bool true) t34) w fun t35 w=>
 cV t35 (
 Q (.int .i64 40) w) (
 rN π Z (binOp .add 3 t6 (.int .i64 1)) w fun t36 w=>
 ∃n_5,n_5 < m_5∧J_5 n_5 t36 w)) w) w) w) w) w) w) w) w) w) w) w) w) w) (
 Q (.int .i64 0) w))
def f53.an:An:=(.q (.sq (.q (.cn (.sq .leaf .leaf) .leaf)) (.sq (.q (.bl (.lp [3] (.sq (.q (.c)) (.sq (.bl (.q (.q (.cn (.sq .leaf .leaf) .leaf)))) .leaf))))) (.sq .leaf .leaf))))
theorem f53.calls {Z:PZ} {x0:Value} {w:World} {Q:PQ} (h:f53.sh Z x0 w Q):CallV π Z 53 #[x0] w Q:=
 cl Tryz.func53 f53.an [x0] (by kernel_rfl) (by kernel_rfl) h

def f54.sh (Z:PZ) (x0:Value) (w:World) (Q:PQ):Prop:=
 rN π Z (eqOp .eql 66 false true x0 (.slice none 0 0)) w fun t1 w=>
 cV t1 (
 Q (.slice none 0 0) w) (
 rN π Z (Instr.buildSlice 66 0 #[]) w fun t2 w=>
 rN π Z (Builtin.append_ #[66,66] 66 #[t2,x0]) w fun t3 w=>
 Q t3 w)
def f54.an:An:=(.q (.sq (.q (.cn (.sq .leaf .leaf) .leaf)) (.sq .leaf .leaf)))
theorem f54.calls {Z:PZ} {x0:Value} {w:World} {Q:PQ} (h:f54.sh Z x0 w Q):CallV π Z 54 #[x0] w Q:=
 cl Tryz.func54 f54.an [x0] (by kernel_rfl) (by kernel_rfl) h

def f55.sh (Z:PZ) (x0 x1:Value) (w:World) (Q:PQ):Prop:=
 rN π Z (Instr.box 48 x0) w fun t1 w=>
 rN π Z (binOp .add 3 x1 (.int .i64 1)) w fun t2 w=>
 rN π Z (fieldAt 48 t1 2) w fun t3 w=>
 rN π Z (loadAt 43 t3) w fun t4 w=>
 rN π Z (Builtin.len_ #[43] 3 #[t4]) w fun t5 w=>
 rN π Z (binOp .add 3 t2 t5) w fun t6 w=>
 rN π Z (fieldAt 48 t1 3) w fun t7 w=>
 rN π Z (loadAt 44 t7) w fun t8 w=>
 rN π Z (Builtin.len_ #[44] 3 #[t8]) w fun t9 w=>
 rN π Z (binOp .add 3 t6 t9) w fun t10 w=>
 rN π Z (fieldAt 48 t1 9) w fun t11 w=>
 rN π Z (loadAt 45 t11) w fun t12 w=>
 rN π Z (Builtin.len_ #[45] 3 #[t12]) w fun t13 w=>
 rN π Z (binOp .add 3 t10 t13) w fun t14 w=>
 ∃J_15:Nat→Value→PQ,(∃m,J_15 m t14 (.int .i64 0) w) ∧
 ∀m_15,∀t16:Value,∀t17:Value,∀w:World,J_15 m_15 t16 t17 w→Env →
 rN π Z (fieldAt 48 t1 10) w fun t18 w=>
 rN π Z (loadAt 46 t18) w fun t19 w=>
 rN π Z (Builtin.len_ #[46] 3 #[t19]) w fun t20 w=>
 rN π Z (binOp .lss 3 t17 t20) w fun t21 w=>
 gW (t21) true (fun k=>k (t16) w) (fun t22 w=>
 gW (t21) true (fun k=>rN π Z (binOp .leq 3 t22 (.int .i64 20000)) w k) (fun t23 w=>
 rN π Z (pickV t21 t23 (.bool false)) w fun t24 w=>
 cV t24 (
 rN π Z (fieldAt 48 t1 10) w fun t25 w=>
 rN π Z (loadAt 46 t25) w fun t26 w=>
 rN π Z (indexAt 46 t26 t17) w fun t27 w=>
 rN π Z (loadAt 48 t27) w fun t28 w=>
 CallV π Z 55 #[t28,t16] w fun t29 w=>
 rN π Z (binOp .add 3 t17 (.int .i64 1)) w fun t30 w=>
 ∃n_15,n_15 < m_15∧J_15 n_15 t29 t30 w) (
 Q t16 w)) w) w
def f55.an:An:=(.q (.q (.sq (.q (.bl (.lp [1,5] (.sq (.q (.c)) (.sq (.bl .leaf) .leaf))))) (.sq .leaf .leaf))))
theorem f55.calls {Z:PZ} {x0 x1:Value} {w:World} {Q:PQ} (h:f55.sh Z x0 x1 w Q):CallV π Z 55 #[x0,x1] w Q:=
 cl Tryz.func55 f55.an [x0,x1] (by kernel_rfl) (by kernel_rfl) h

def f56.sh (Z:PZ) (x0:Value) (w:World) (Q:PQ):Prop:=
 CallV π Z 45 #[x0,(.string { data:=#[] })] w fun t1 w=>
 rN π Z (extract t1 0) w fun t2 w=>
 rN π Z (extract t1 1) w fun t3 w=>
 rN π Z (eqOp .neq 30 false true t3 (.int .i64 1)) w fun t4 w=>
 Q t4 w
def f56.an:An:=(.q (.q (.sq .leaf .leaf)))
theorem f56.calls {Z:PZ} {x0:Value} {w:World} {Q:PQ} (h:f56.sh Z x0 w Q):CallV π Z 56 #[x0] w Q:=
 cl Tryz.func56 f56.an [x0] (by kernel_rfl) (by kernel_rfl) h

def f57.sh (Z:PZ) (x0:Value) (w:World) (Q:PQ):Prop:=
 rN π Z (Instr.box 50 x0) w fun t1 w=>
 rN π Z (fieldAt 50 t1 0) w fun t2 w=>
 rN π Z (loadAt 39 t2) w fun t3 w=>
 rN π Z (Instr.alloc 39 true (.tuple #[])) w fun t4 w=>
 rO π Z (storeAt 39 t4 t3) w fun w=>
 rN π Z (fieldAt 39 t4 0) w fun t5 w=>
 rN π Z (loadAt 37 t5) w fun t6 w=>
 rN π Z (binOp .geq 37 t6 (.int .u32 1)) w fun t7 w=>
 gW (t7) true (fun k=>rN π Z (fieldAt 39 t4 0) w k) (fun t8 w=>
 gW (t7) true (fun k=>rN π Z (loadAt 37 t8) w k) (fun t9 w=>
 gW (t7) true (fun k=>rN π Z (binOp .leq 37 t9 (.int .u32 2147483647)) w k) (fun t10 w=>
 rN π Z (pickV t7 t10 (.bool false)) w fun t11 w=>
 gW (t11) true (fun k=>rN π Z (fieldAt 39 t4 1) w k) (fun t12 w=>
 gW (t11) true (fun k=>rN π Z (loadAt 37 t12) w k) (fun t13 w=>
 gW (t11) true (fun k=>rN π Z (binOp .geq 37 t13 (.int .u32 1)) w k) (fun t14 w=>
 rN π Z (pickV t11 t14 (.bool false)) w fun t15 w=>
 rN π Z (loadAt 39 t4) w fun t16 w=>
 rN π Z (Instr.build 39 #[]) w fun t17 w=>
 rN π Z (eqOp .neq 39 false false t16 t17) w fun t18 w=>
 gW (t18) true (fun k=>k (t15) w) (fun t19 w=>
 gW (t18) true (fun k=>rN π Z (Op.unary .not t19) w k) (fun t20 w=>
 rN π Z (pickV t18 t20 (.bool false)) w fun t21 w=>
 cV t21 (
 Q (.int .i64 40) w) (
 rN π Z (fieldAt 50 t1 1) w fun t22 w=>
 rN π Z (fieldAt 42 t22 0) w fun t23 w=>
 rN π Z (loadAt 40 t23) w fun t24 w=>
 rN π Z (binOp .lss 40 t24 (.int .i8 0)) w fun t25 w=>
 gW (t25) false (fun k=>rN π Z (fieldAt 50 t1 1) w k) (fun t26 w=>
 gW (t25) false (fun k=>rN π Z (fieldAt 42 t26 0) w k) (fun t27 w=>
 gW (t25) false (fun k=>rN π Z (loadAt 40 t27) w k) (fun t28 w=>
 gW (t25) false (fun k=>rN π Z (binOp .geq 40 t28 (.int .i8 7)) w k) (fun t29 w=>
 rN π Z (pickV t25 (.bool true) t29) w fun t30 w=>
 gW (t30) false (fun k=>rN π Z (fieldAt 50 t1 1) w k) (fun t31 w=>
 gW (t30) false (fun k=>rN π Z (fieldAt 42 t31 2) w k) (fun t32 w=>
 gW (t30) false (fun k=>rN π Z (loadAt 2 t32) w k) (fun t33 w=>
 gW (t30) false (fun k=>rN π Z (binOp .lss 2 t33 (.int .i64 0)) w k) (fun t34 w=>
 rN π Z (pickV t30 (.bool true) t34) w fun t35 w=>
 cV t35 (
 Q (.int .i64 40) w) (
 rN π Z (fieldAt 50 t1 2) w fun t36 w=>
 rN π Z (fieldAt 48 t36 0) w fun t37 w=>
 rN π Z (loadAt 40 t37) w fun t38 w=>
 rN π Z (binOp .gtr 40 t38 (.int .i8 8)) w fun t39 w=>
 cV t39 (
 Q (.int .i64 40) w) (
 rN π Z (fieldAt 50 t1 2) w fun t40 w=>
 rN π Z (loadAt 48 t40) w fun t41 w=>
 CallV π Z 79 #[t41] w fun t42 w=>
 Q t42 w))) w) w) w) w) w) w) w) w)) w) w) w) w) w) w) w) w
def f57.an:An:=(.q (.q (.q (.sq (.bl (.q (.cn (.sq .leaf .leaf) (.q (.cn (.sq .leaf .leaf) (.q (.cn (.sq .leaf .leaf) .leaf))))))) (.sq .leaf .leaf)))))
theorem f57.calls {Z:PZ} {x0:Value} {w:World} {Q:PQ} (h:f57.sh Z x0 w Q):CallV π Z 57 #[x0] w Q:=
 cl Tryz.func57 f57.an [x0] (by kernel_rfl) (by kernel_rfl) h

def f58.sh (Z:PZ) (x0 x1:Value) (w:World) (Q:PQ):Prop:=
 rN π Z (Instr.box 39 x0) w fun t1 w=>
 rN π Z (Instr.box 39 x1) w fun t2 w=>
 Drawn w fun w=>
 pU π (fieldAt 39 t1 0) fun t3=>
 rD π (loadAt 37 t3) w fun t4=>
 pU π (fieldAt 39 t2 0) fun t5=>
 rD π (loadAt 37 t5) w fun t6=>
 pU π (fieldAt 39 t1 1) fun t7=>
 rD π (loadAt 37 t7) w fun t8=>
 pU π (fieldAt 39 t2 1) fun t9=>
 rD π (loadAt 37 t9) w fun t10=>
 CallV π Z 81 #[t4,t6] w fun t11 w=>
 Still π (nx (loadAt 37 t9)) t10 w <|
 Still π (nx (loadAt 37 t7)) t8 w <|
 CallV π Z 81 #[t8,t10] w fun t12 w=>
 rN π Z (Instr.buildSlice 23 2 #[(0,t11),(1,t12)]) w fun t13 w=>
 CallV π Z 80 #[t13] w fun t14 w=>
 Q t14 w
def f58.an:An:=(.q (.sq (.dr (pl [0,5,8,13,20,25,28,33,18,38,42,46,48] .fin)) .leaf))
theorem f58.calls {Z:PZ} {x0 x1:Value} {w:World} {Q:PQ} (h:f58.sh Z x0 x1 w Q):CallV π Z 58 #[x0,x1] w Q:=
 cl Tryz.func58 f58.an [x0,x1] (by kernel_rfl) (by kernel_rfl) h

def f59.sh (Z:PZ) (x0 x1:Value) (w:World) (Q:PQ):Prop:=
 rN π Z (Builtin.len_ #[22] 3 #[x0]) w fun t1 w=>
 ∃J_2:Nat→PQ,(∃m,J_2 m (.int .i64 0) w) ∧
 ∀m_2,∀t3:Value,∀w:World,J_2 m_2 t3 w→Env →
 rN π Z (binOp .lss 3 t3 t1) w fun t4 w=>
 cV t4 (
 rN π Z (indexAt 22 x0 t3) w fun t5 w=>
 rN π Z (loadAt 50 t5) w fun t6 w=>
 runX π Z (callVal x1 #[t6]) w fun t7 w=>
 cV t7 (
 Q t3 w) (
 rN π Z (binOp .add 3 t3 (.int .i64 1)) w fun t8 w=>
 ∃n_2,n_2 < m_2∧J_2 n_2 t8 w)) (
 Q (.int .i64 (-1)) w)
def f59.an:An:=(.q (.sq (.q (.bl (.lp [8] (.q (.sq (.c) (.sq (.bl (.q (.q (.cn (.sq .leaf .leaf) .leaf)))) .leaf)))))) (.sq .leaf .leaf)))
theorem f59.calls {Z:PZ} {x0 x1:Value} {w:World} {Q:PQ} (h:f59.sh Z x0 x1 w Q):CallV π Z 59 #[x0,x1] w Q:=
 cl Tryz.func59 f59.an [x0,x1] (by kernel_rfl) (by kernel_rfl) h

def f60.sh (Z:PZ) (x0 x1:Value) (w:World) (Q:PQ):Prop:=
 CallV π Z 82 #[x0,x1] w fun t1 w=>
 rN π Z (extract t1 0) w fun t2 w=>
 rN π Z (extract t1 1) w fun t3 w=>
 Q (Value.tuple #[t2,t3]) w
def f60.an:An:=(.q (.sq .leaf .leaf))
theorem f60.calls {Z:PZ} {x0 x1:Value} {w:World} {Q:PQ} (h:f60.sh Z x0 x1 w Q):CallV π Z 60 #[x0,x1] w Q:=
 cl Tryz.func60 f60.an [x0,x1] (by kernel_rfl) (by kernel_rfl) h

def f61.sh (Z:PZ) (x0:Value) (w:World) (Q:PQ):Prop:=
 CallV π Z 68 #[x0,(.int .i64 16)] w fun t1 w=>
 rN π Z (binOp .add 9 (.string { data:=#[108,111,103,46] }) t1) w fun t2 w=>
 rN π Z (binOp .add 9 t2 (.string { data:=#[46] })) w fun t3 w=>
 Q t3 w
def f61.an:An:=(.q (.sq .leaf .leaf))
theorem f61.calls {Z:PZ} {x0:Value} {w:World} {Q:PQ} (h:f61.sh Z x0 w Q):CallV π Z 61 #[x0] w Q:=
 cl Tryz.func61 f61.an [x0] (by kernel_rfl) (by kernel_rfl) h

def f62.sh (Z:PZ) (x0 x1 x2:Value) (w:World) (Q:PQ):Prop:=
 CallV π Z 83 #[x0,x1,x2] w fun t1 w=>
 rN π Z (extract t1 0) w fun t2 w=>
 rN π Z (extract t1 1) w fun t3 w=>
 rN π Z (eqOp .neq 109 false true t3 .nilIface) w fun t4 w=>
 cV t4 (
 CallV π Z 84 #[(.string { data:=#[80,97,114,115,101,73,110,116] }),x0,x1,x2,t3] w fun t5 w=>
 Q (Value.tuple #[t2,t5]) w) (
 Q (Value.tuple #[t2,.nilIface]) w)
def f62.an:An:=(.q (.q (.sq (.q (.cn (.sq .leaf .leaf) .leaf)) (.sq .leaf .leaf))))
theorem f62.calls {Z:PZ} {x0 x1 x2:Value} {w:World} {Q:PQ} (h:f62.sh Z x0 x1 x2 w Q):CallV π Z 62 #[x0,x1,x2] w Q:=
 cl Tryz.func62 f62.an [x0,x1,x2] (by kernel_rfl) (by kernel_rfl) h

def f64.sh (Z:PZ) (x0 x1 x2 x3 x4:Value) (w:World) (Q:PQ):Prop:=
 rN π Z (loadAt 30 x0) w fun t1 w=>
 rN π Z (eqOp .neq 30 false true t1 (.int .i64 0)) w fun t2 w=>
 cV t2 (
 Q (Value.tuple #[]) w) (
 ∀j_3:World→Prop,(∀w:World,(Env →
 Drawn w fun w=>
 rD π (loadAt 33 x2) w fun t4=>
 PureV π (nilChk t4) fun t5=>
 pU π (fieldAt 85 t5 4) fun t6=>
 rD π (loadAt 3 t6) w fun t7=>
 rD π (loadAt 22 x4) w fun t8=>
 pU π (Builtin.len_ #[22] 3 #[t8]) fun t9=>
 pU π (binOp .add 3 t7 t9) fun t10=>
 PureV π (nilChk t4) fun t11=>
 pU π (fieldAt 85 t11 4) fun t12=>
 rO π Z (storeAt 3 t12 t10) w fun w=>
 rN π Z (loadAt 22 x4) w fun t13 w=>
 rN π Z (Builtin.len_ #[22] 3 #[t13]) w fun t14 w=>
 ∃J_15:Nat→PQ,(∃m,J_15 m (.int .i64 0) w) ∧
 ∀m_15,∀t16:Value,∀w:World,J_15 m_15 t16 w→Env →
 rN π Z (binOp .lss 3 t16 t14) w fun t17 w=>
 cV t17 (
 rN π Z (indexAt 22 t13 t16) w fun t18 w=>
 rN π Z (loadAt 50 t18) w fun t19 w=>
 rN π Z (Instr.alloc 50 true (.tuple #[])) w fun t20 w=>
 rO π Z (storeAt 50 t20 t19) w fun w=>
 Drawn w fun w=>
 rD π (loadAt 33 x2) w fun t21=>
 rD π (loadAt 33 x2) w fun t22=>
 PureV π (nilChk t22) fun t23=>
 pU π (fieldAt 85 t23 6) fun t24=>
 rD π (loadAt 22 t24) w fun t25=>
 rD π (loadAt 50 t20) w fun t26=>
 CallV π Z 49 #[t26] w fun t27 w=>
 Still π (nx (loadAt 22 t24)) t25 w <|
 Still π (nx (loadAt 33 x2)) t22 w <|
 Still π (nx (loadAt 33 x2)) t21 w <|
 rN π Z (Instr.buildSlice 22 1 #[(0,t27)]) w fun t28 w=>
 Still π (nx (loadAt 22 t24)) t25 w <|
 Still π (nx (loadAt 33 x2)) t22 w <|
 Still π (nx (loadAt 33 x2)) t21 w <|
 rN π Z (Builtin.append_ #[22,22] 22 #[t25,t28]) w fun t29 w=>
 Still π (nx (loadAt 33 x2)) t22 w <|
 Still π (nx (loadAt 33 x2)) t21 w <|
 PureV π (nilChk t21) fun t30=>
 pU π (fieldAt 85 t30 6) fun t31=>
 rO π Z (storeAt 22 t31 t29) w fun w=>
 rN π Z (loadAt 33 x2) w fun t32 w=>
 rN π Z (fieldAt 50 t20 0) w fun t33 w=>
 rN π Z (loadAt 39 t33) w fun t34 w=>
 runX π Z (nilChk t32) w fun t35 w=>
 rN π Z (fieldAt 85 t35 5) w fun t36 w=>
 rO π Z (storeAt 39 t36 t34) w fun w=>
 rN π Z (binOp .add 3 t16 (.int .i64 1)) w fun t37 w=>
 ∃n_15,n_15 < m_15∧J_15 n_15 t37 w) (
 Q (Value.tuple #[]) w)) →
 j_3 w) →
 rN π Z (loadAt 4 x1) w fun t38 w=>
 cV t38 (
 Drawn w fun w=>
 rD π (loadAt 33 x2) w fun t39=>
 rD π (loadAt 33 x2) w fun t40=>
 PureV π (nilChk t40) fun t41=>
 pU π (fieldAt 85 t41 3) fun t42=>
 rD π (loadAt 66 t42) w fun t43=>
 rD π (loadAt 9 x3) w fun t44=>
 rN π Z (Instr.buildSlice 66 1 #[(0,t44)]) w fun t45 w=>
 Still π (nx (loadAt 66 t42)) t43 w <|
 Still π (nx (loadAt 33 x2)) t40 w <|
 Still π (nx (loadAt 33 x2)) t39 w <|
 rN π Z (Builtin.append_ #[66,66] 66 #[t43,t45]) w fun t46 w=>
 Still π (nx (loadAt 33 x2)) t40 w <|
 Still π (nx (loadAt 33 x2)) t39 w <|
 PureV π (nilChk t39) fun t47=>
 pU π (fieldAt 85 t47 3) fun t48=>
 rO π Z (storeAt 66 t48 t46) w fun w=>
 rN π Z (loadAt 33 x2) w fun t49 w=>
 runX π Z (nilChk t49) w fun t50 w=>
 rN π Z (fieldAt 85 t50 4) w fun t51 w=>
 rO π Z (storeAt 3 t51 (.int .i64 0)) w fun w=>
 j_3 w) (
 j_3 w))
def f64.an:An:=(.sq (.q (.c)) (.sj [] (.q (.cn (.sq (.dr (pl [1,5,8,12,17,21,26,30,32,36,42] .fin)) .leaf) .leaf)) (.sq (.dr (pl [1,4,8,13,17,20,24,28,32,38] .fin)) (.q (.bl (.lp [34] (.q (.sq (.c) (.sq (.bl (.q (.sq (.dr (pl [1,5,8,12,17,21,26,30,34,36,40,46] .fin)) .leaf))) .leaf)))))))))
def f65.sh (Z:PZ) (x0 x1 x2:Value) (w:World) (Q:PQ):Prop:=
 rN π Z (Instr.buildSlice 66 1 #[(0,x1)]) w fun t1 w=>
 CallV π Z 87 #[x0,t1] w fun t2 w=>
 rN π Z (eqOp .neq 30 false true t2 (.int .i64 0)) w fun t3 w=>
 cV t3 (
 Q t2 w) (
 runX π Z (nilChk x0) w fun t4 w=>
 rN π Z (fieldAt 76 t4 0) w fun t5 w=>
 CallV π Z 88 #[t5,x1] w fun t6 w=>
 rN π Z (extract t6 0) w fun t7 w=>
 rN π Z (extract t6 1) w fun t8 w=>
 rN π Z (Op.unary .not t8) w fun t9 w=>
 gW (t9) true (fun k=>k (x0) w) (fun t10 w=>
 gW (t9) true (fun k=>runX π Z (nilChk t10) w k) (fun t11 w=>
 gW (t9) true (fun k=>rN π Z (fieldAt 76 t11 0) w k) (fun t12 w=>
 gW (t9) true (fun k=>rN π Z (fieldAt 74 t12 0) w k) (fun t13 w=>
 gW (t9) true (fun k=>rN π Z (loadAt 72 t13) w k) (fun t14 w=>
 gW (t9) true (fun k=>rN π Z (Builtin.len_ #[72] 3 #[t14]) w k) (fun t15 w=>
 gW (t9) true (fun k=>rN π Z (binOp .geq 3 t15 (.int .i64 64)) w k) (fun t16 w=>
 rN π Z (pickV t9 t16 (.bool false)) w fun t17 w=>
 cV t17 (
 Q (.int .i64 22) w) (
 Drawn w fun w=>
 pU π (Builtin.len_ #[43] 3 #[x2]) fun t18=>
 PureV π (nilChk x0) fun t19=>
 pU π (fieldAt 76 t19 2) fun t20=>
 rD π (loadAt 3 t20) w fun t21=>
 PureV π (nilChk x0) fun t22=>
 pU π (fieldAt 76 t22 0) fun t23=>
 pU π (fieldAt 74 t23 1) fun t24=>
 rD π (loadAt 3 t24) w fun t25=>
 pU π (binOp .sub 3 t21 t25) fun t26=>
 pU π (binOp .gtr 3 t18 t26) fun t27=>
 cV t27 (
 Q (.int .i64 21) w) (
 CallV π Z 75 #[x0] w fun t28 w=>
 rN π Z (Op.unary .not t28) w fun t29 w=>
 cV t29 (
 Q (.int .i64 23) w) (
 runX π Z (nilChk x0) w fun t30 w=>
 rN π Z (fieldAt 76 t30 0) w fun t31 w=>
 CallV π Z 89 #[t31,x1] w fun t32 w=>
 Drawn w fun w=>
 PureV π (nilChk x0) fun t33=>
 pU π (fieldAt 76 t33 0) fun t34=>
 pU π (fieldAt 74 t34 0) fun t35=>
 rD π (loadAt 72 t35) w fun t36=>
 PureV π (nilChk x0) fun t37=>
 pU π (fieldAt 76 t37 0) fun t38=>
 pU π (fieldAt 74 t38 0) fun t39=>
 rD π (loadAt 72 t39) w fun t40=>
 pU π (indexAt 72 t40 t32) fun t41=>
 pU π (fieldAt 97 t41 1) fun t42=>
 rD π (loadAt 43 t42) w fun t43=>
 rN π Z (Builtin.append_ #[43,43] 43 #[t43,x2]) w fun t44 w=>
 Still π (nx (loadAt 72 t39)) t40 w <|
 Still π (nx (loadAt 72 t35)) t36 w <|
 pU π (indexAt 72 t36 t32) fun t45=>
 pU π (fieldAt 97 t45 1) fun t46=>
 rO π Z (storeAt 43 t46 t44) w fun w=>
 runX π Z (nilChk x0) w fun t47 w=>
 rN π Z (fieldAt 76 t47 0) w fun t48 w=>
 rN π Z (fieldAt 74 t48 1) w fun t49 w=>
 rN π Z (loadAt 3 t49) w fun t50 w=>
 rN π Z (Builtin.len_ #[43] 3 #[x2]) w fun t51 w=>
 rN π Z (binOp .add 3 t50 t51) w fun t52 w=>
 runX π Z (nilChk x0) w fun t53 w=>
 rN π Z (fieldAt 76 t53 0) w fun t54 w=>
 rN π Z (fieldAt 74 t54 1) w fun t55 w=>
 rO π Z (storeAt 3 t55 t52) w fun w=>
 Q (.int .i64 0) w)))) w) w) w) w) w) w) w)
def f65.an:An:=(.q (.sq (.q (.q (.cn (.sq .leaf .leaf) .leaf))) (.q (.sq (.bl (.q (.cn (.sq .leaf .leaf) (.sq (.dr (pl [0,4,8,12,16,21,24,28,32,36,41,44,48,52] .fin)) (.cn (.sq .leaf .leaf) (.q (.cn (.sq .leaf .leaf) .leaf))))))) (.q (.sq (.dr (pl [0,4,8,12,17,20,24,28,32,36,41,44,48,52,57,60,66,68,72,78] .fin)) (.q (.sq .leaf .leaf))))))))
theorem f65.calls {Z:PZ} {x0 x1 x2:Value} {w:World} {Q:PQ} (h:f65.sh Z x0 x1 x2 w Q):CallV π Z 65 #[x0,x1,x2] w Q:=
 cl Tryz.func65 f65.an [x0,x1,x2] (by kernel_rfl) (by kernel_rfl) h

def f66.sh (Z:PZ) (x0:Value) (w:World) (Q:PQ):Prop:=
 rN π Z (Builtin.len_ #[22] 3 #[x0]) w fun t1 w=>
 ∃J_2:Nat→Value→PQ,(∃m,J_2 m (.slice none 0 0) (.int .i64 0) w) ∧
 ∀m_2,∀t3:Value,∀t4:Value,∀w:World,J_2 m_2 t3 t4 w→Env →
 rN π Z (binOp .lss 3 t4 t1) w fun t5 w=>
 cV t5 (
 rN π Z (indexAt 22 x0 t4) w fun t6 w=>
 rN π Z (loadAt 50 t6) w fun t7 w=>
 rN π Z (Instr.alloc 50 true (.tuple #[])) w fun t8 w=>
 rO π Z (storeAt 50 t8 t7) w fun w=>
 rN π Z (loadAt 50 t8) w fun t9 w=>
 CallV π Z 90 #[t9] w fun t10 w=>
 rN π Z (extract t10 0) w fun t11 w=>
 rN π Z (extract t10 1) w fun t12 w=>
 CallV π Z 91 #[t11] w fun t13 w=>
 rN π Z (extract t13 0) w fun t14 w=>
 rN π Z (extract t13 1) w fun t15 w=>
 rN π Z (Builtin.append_ #[43,43] 43 #[t3,t14]) w fun t16 w=>
 rN π Z (binOp .add 3 t4 (.int .i64 1)) w fun t17 w=>
 ∃n_2,n_2 < m_2∧J_2 n_2 t16 t17 w) (
 Q t3 w)
def f66.an:An:=(.q (.q (.sq (.q (.bl (.lp [3,12] (.q (.sq (.c) (.sq (.bl (.q (.q (.sq .leaf .leaf)))) .leaf)))))) (.sq .leaf .leaf))))
theorem f66.calls {Z:PZ} {x0:Value} {w:World} {Q:PQ} (h:f66.sh Z x0 w Q):CallV π Z 66 #[x0] w Q:=
 cl Tryz.func66 f66.an [x0] (by kernel_rfl) (by kernel_rfl) h

def f67.sh (Z:PZ) (x0 x1:Value) (w:World) (Q:PQ):Prop:=
 CallV π Z 72 #[x0,x1] w fun t1 w=>
 rN π Z (extract t1 0) w fun t2 w=>
 rN π Z (extract t1 1) w fun t3 w=>
 rN π Z (eqOp .neq 30 false true t3 (.int .i64 0)) w fun t4 w=>
 cV t4 (
 Q t3 w) (
 CallV π Z 75 #[x0] w fun t5 w=>
 rN π Z (Op.unary .not t5) w fun t6 w=>
 cV t6 (
 Q (.int .i64 23) w) (
 Drawn w fun w=>
 PureV π (nilChk x0) fun t7=>
 pU π (fieldAt 76 t7 0) fun t8=>
 pU π (fieldAt 74 t8 0) fun t9=>
 rD π (loadAt 72 t9) w fun t10=>
 PureV π (nilChk x0) fun t11=>
 pU π (fieldAt 76 t11 0) fun t12=>
 pU π (fieldAt 74 t12 0) fun t13=>
 rD π (loadAt 72 t13) w fun t14=>
 pU π (indexAt 72 t14 t2) fun t15=>
 pU π (fieldAt 97 t15 1) fun t16=>
 rD π (loadAt 43 t16) w fun t17=>
 pU π (Builtin.len_ #[43] 3 #[t17]) fun t18=>
 pU π (indexAt 72 t10 t2) fun t19=>
 pU π (fieldAt 97 t19 2) fun t20=>
 rO π Z (storeAt 3 t20 t18) w fun w=>
 Q (.int .i64 0) w))
def f67.an:An:=(.q (.q (.sq (.bl (.q (.cn (.sq .leaf .leaf) (.q (.cn (.sq .leaf .leaf) .leaf))))) (.sq (.dr (pl [0,4,8,12,17,20,24,28,32,36,41,44,48,52,57,60,64,68,74] .fin)) (.sq .leaf .leaf)))))
theorem f67.calls {Z:PZ} {x0 x1:Value} {w:World} {Q:PQ} (h:f67.sh Z x0 x1 w Q):CallV π Z 67 #[x0,x1] w Q:=
 cl Tryz.func67 f67.an [x0,x1] (by kernel_rfl) (by kernel_rfl) h

def f68.sh (Z:PZ) (x0 x1:Value) (w:World) (Q:PQ):Prop:=
 CallV π Z 92 #[x0,x1] w fun t1 w=>
 Q t1 w
def f68.an:An:=(.q (.sq .leaf .leaf))
theorem f68.calls {Z:PZ} {x0 x1:Value} {w:World} {Q:PQ} (h:f68.sh Z x0 x1 w Q):CallV π Z 68 #[x0,x1] w Q:=
 cl Tryz.func68 f68.an [x0,x1] (by kernel_rfl) (by kernel_rfl) h

def f69.sh (Z:PZ) (x0:Value) (w:World) (Q:PQ):Prop:=
 ∃J_1:Nat→Value→PQ,(∃m,J_1 m (.slice none 0 0) (.int .i64 0) w) ∧
 ∀m_1,∀t2:Value,∀t3:Value,∀w:World,J_1 m_1 t2 t3 w→Env →
 rN π Z (Builtin.len_ #[43] 3 #[x0]) w fun t4 w=>
 rN π Z (binOp .lss 3 t3 t4) w fun t5 w=>
 cV t5 (
 rN π Z (indexAt 43 x0 t3) w fun t6 w=>
 rN π Z (loadAt 5 t6) w fun t7 w=>
 rN π Z (Instr.buildSlice 43 1 #[(0,t7)]) w fun t8 w=>
 rN π Z (Builtin.append_ #[43,43] 43 #[t2,t8]) w fun t9 w=>
 rN π Z (binOp .add 3 t3 (.int .i64 1)) w fun t10 w=>
 ∃n_1,n_1 < m_1∧J_1 n_1 t9 t10 w) (
 Q t2 w)
def f69.an:An:=(.q (.q (.sq (.q (.bl (.lp [3,4] (.sq (.q (.c)) (.sq (.bl .leaf) .leaf))))) (.sq .leaf .leaf))))
theorem f69.calls {Z:PZ} {x0:Value} {w:World} {Q:PQ} (h:f69.sh Z x0 w Q):CallV π Z 69 #[x0] w Q:=
 cl Tryz.func69 f69.an [x0] (by kernel_rfl) (by kernel_rfl) h

def f70.sh (Z:PZ) (x0:Value) (w:World) (Q:PQ):Prop:=
 ∃J_1:Nat→Value→PQ,(∃m,J_1 m (.slice none 0 0) (.int .i64 0) w) ∧
 ∀m_1,∀t2:Value,∀t3:Value,∀w:World,J_1 m_1 t2 t3 w→Env →
 rN π Z (Builtin.len_ #[44] 3 #[x0]) w fun t4 w=>
 rN π Z (binOp .lss 3 t3 t4) w fun t5 w=>
 cV t5 (
 rN π Z (indexAt 44 x0 t3) w fun t6 w=>
 rN π Z (loadAt 140 t6) w fun t7 w=>
 rN π Z (Instr.buildSlice 44 1 #[(0,t7)]) w fun t8 w=>
 rN π Z (Builtin.append_ #[44,44] 44 #[t2,t8]) w fun t9 w=>
 rN π Z (binOp .add 3 t3 (.int .i64 1)) w fun t10 w=>
 ∃n_1,n_1 < m_1∧J_1 n_1 t9 t10 w) (
 Q t2 w)
def f70.an:An:=(.q (.q (.sq (.q (.bl (.lp [3,4] (.sq (.q (.c)) (.sq (.bl .leaf) .leaf))))) (.sq .leaf .leaf))))
theorem f70.calls {Z:PZ} {x0:Value} {w:World} {Q:PQ} (h:f70.sh Z x0 w Q):CallV π Z 70 #[x0] w Q:=
 cl Tryz.func70 f70.an [x0] (by kernel_rfl) (by kernel_rfl) h

def f71.sh (Z:PZ) (x0:Value) (w:World) (Q:PQ):Prop:=
 ∃J_1:Nat→Value→PQ,(∃m,J_1 m (.slice none 0 0) (.int .i64 0) w) ∧
 ∀m_1,∀t2:Value,∀t3:Value,∀w:World,J_1 m_1 t2 t3 w→Env →
 rN π Z (Builtin.len_ #[45] 3 #[x0]) w fun t4 w=>
 rN π Z (binOp .lss 3 t3 t4) w fun t5 w=>
 cV t5 (
 rN π Z (indexAt 45 x0 t3) w fun t6 w=>
 rN π Z (loadAt 138 t6) w fun t7 w=>
 rN π Z (Instr.buildSlice 45 1 #[(0,t7)]) w fun t8 w=>
 rN π Z (Builtin.append_ #[45,45] 45 #[t2,t8]) w fun t9 w=>
 rN π Z (binOp .add 3 t3 (.int .i64 1)) w fun t10 w=>
 ∃n_1,n_1 < m_1∧J_1 n_1 t9 t10 w) (
 Q t2 w)
def f71.an:An:=(.q (.q (.sq (.q (.bl (.lp [3,4] (.sq (.q (.c)) (.sq (.bl .leaf) .leaf))))) (.sq .leaf .leaf))))
theorem f71.calls {Z:PZ} {x0:Value} {w:World} {Q:PQ} (h:f71.sh Z x0 w Q):CallV π Z 71 #[x0] w Q:=
 cl Tryz.func71 f71.an [x0] (by kernel_rfl) (by kernel_rfl) h

def f72.sh (Z:PZ) (x0 x1:Value) (w:World) (Q:PQ):Prop:=
 rN π Z (Instr.buildSlice 66 1 #[(0,x1)]) w fun t1 w=>
 CallV π Z 87 #[x0,t1] w fun t2 w=>
 rN π Z (eqOp .neq 30 false true t2 (.int .i64 0)) w fun t3 w=>
 cV t3 (
 Q (Value.tuple #[(.int .i64 0),t2]) w) (
 runX π Z (nilChk x0) w fun t4 w=>
 rN π Z (fieldAt 76 t4 0) w fun t5 w=>
 CallV π Z 88 #[t5,x1] w fun t6 w=>
 rN π Z (extract t6 0) w fun t7 w=>
 rN π Z (extract t6 1) w fun t8 w=>
 rN π Z (Op.unary .not t8) w fun t9 w=>
 cV t9 (
 Q (Value.tuple #[(.int .i64 0),(.int .i64 20)]) w) (
 Q (Value.tuple #[t7,(.int .i64 0)]) w))
def f72.an:An:=(.q (.sq (.q (.q (.cn (.sq .leaf .leaf) .leaf))) (.q (.sq (.q (.cn (.sq .leaf .leaf) .leaf)) (.sq .leaf .leaf)))))
theorem f72.calls {Z:PZ} {x0 x1:Value} {w:World} {Q:PQ} (h:f72.sh Z x0 x1 w Q):CallV π Z 72 #[x0,x1] w Q:=
 cl Tryz.func72 f72.an [x0,x1] (by kernel_rfl) (by kernel_rfl) h

def f73.sh (Z:PZ) (x0:Value) (w:World) (Q:PQ):Prop:=
 rN π Z (Instr.box 43 x0) w fun t1 w=>
 rN π Z (loadAt 43 t1) w fun t2 w=>
 CallV π Z 93 #[t2] w fun t3 w=>
 rO π Z (storeAt 43 t1 t3) w fun w=>
 rN π Z (Instr.makeFunc (.func 94) #[] #[t1]) w fun t4 w=>
 Q t4 w
def f73.an:An:=(.q (.q (.sq .leaf .leaf)))
theorem f73.calls {Z:PZ} {x0:Value} {w:World} {Q:PQ} (h:f73.sh Z x0 w Q):CallV π Z 73 #[x0] w Q:=
 cl Tryz.func73 f73.an [x0] (by kernel_rfl) (by kernel_rfl) h

def f74.sh (Z:PZ) (x0:Value) (w:World) (Q:PQ):Prop:=
 rN π Z (Instr.alloc 50 true (.tuple #[])) w fun t1 w=>
 CallV π Z 96 #[x0] w fun t2 w=>
 rN π Z (Instr.alloc 50 true (.tuple #[])) w fun t3 w=>
 CallV π Z 97 #[t2] w fun t4 w=>
 rN π Z (fieldAt 50 t3 0) w fun t5 w=>
 rN π Z (fieldAt 39 t5 0) w fun t6 w=>
 rO π Z (storeAt 37 t6 t4) w fun w=>
 CallV π Z 97 #[t2] w fun t7 w=>
 rN π Z (fieldAt 50 t3 0) w fun t8 w=>
 rN π Z (fieldAt 39 t8 1) w fun t9 w=>
 rO π Z (storeAt 37 t9 t7) w fun w=>
 CallV π Z 98 #[t2] w fun t10 w=>
 rN π Z (fieldAt 50 t3 1) w fun t11 w=>
 rN π Z (fieldAt 42 t11 0) w fun t12 w=>
 rO π Z (storeAt 40 t12 t10) w fun w=>
 CallV π Z 97 #[t2] w fun t13 w=>
 rN π Z (fieldAt 50 t3 1) w fun t14 w=>
 rN π Z (fieldAt 42 t14 1) w fun t15 w=>
 rO π Z (storeAt 37 t15 t13) w fun w=>
 CallV π Z 99 #[t2] w fun t16 w=>
 rN π Z (fieldAt 50 t3 1) w fun t17 w=>
 rN π Z (fieldAt 42 t17 2) w fun t18 w=>
 rO π Z (storeAt 2 t18 t16) w fun w=>
 rN π Z (Instr.build 148 #[]) w fun t19 w=>
 CallV π Z 100 #[t19,t2] w fun t20 w=>
 rN π Z (fieldAt 50 t3 2) w fun t21 w=>
 rO π Z (storeAt 48 t21 t20) w fun w=>
 CallV π Z 101 #[t2] w fun t22 w=>
 rN π Z (eqOp .neq 30 false true t22 (.int .i64 0)) w fun t23 w=>
 gW (t23) false (fun k=>rN π Z (loadAt 50 t3) w k) (fun t24 w=>
 gW (t23) false (fun k=>CallV π Z 57 #[t24] w k) (fun t25 w=>
 gW (t23) false (fun k=>rN π Z (eqOp .neq 30 false true t25 (.int .i64 0)) w k) (fun t26 w=>
 rN π Z (pickV t23 (.bool true) t26) w fun t27 w=>
 cV t27 (
 rN π Z (Instr.build 50 #[]) w fun t28 w=>
 rO π Z (storeAt 50 t1 t28) w fun w=>
 ∃r_29,(do loadVar 50 (← asAddr t1):Sem Value).run π w=.ok r_29 w ∧
 Q (Value.tuple #[r_29,(.int .i64 40)]) w) (
 rN π Z (loadAt 50 t3) w fun t30 w=>
 rO π Z (storeAt 50 t1 t30) w fun w=>
 ∃r_31,(do loadVar 50 (← asAddr t1):Sem Value).run π w=.ok r_31 w ∧
 Q (Value.tuple #[r_31,(.int .i64 0)]) w)) w) w) w
def f74.an:An:=(.q (.q (.q (.q (.q (.q (.q (.q (.q (.sq (.q (.cn (.sq .leaf .leaf) .leaf)) (.sq .leaf .leaf)))))))))))
theorem f74.calls {Z:PZ} {x0:Value} {w:World} {Q:PQ} (h:f74.sh Z x0 w Q):CallV π Z 74 #[x0] w Q:=
 cl Tryz.func74 f74.an [x0] (by kernel_rfl) (by kernel_rfl) h

def f75.sh (Z:PZ) (x0:Value) (w:World) (Q:PQ):Prop:=
 runX π Z (nilChk x0) w fun t1 w=>
 rN π Z (fieldAt 76 t1 4) w fun t2 w=>
 rN π Z (loadAt 4 t2) w fun t3 w=>
 gW (t3) true (fun k=>k (x0) w) (fun t4 w=>
 gW (t3) true (fun k=>runX π Z (nilChk t4) w k) (fun t5 w=>
 gW (t3) true (fun k=>rN π Z (fieldAt 76 t5 5) w k) (fun t6 w=>
 gW (t3) true (fun k=>rN π Z (loadAt 3 t6) w k) (fun t7 w=>
 gW (t3) true (fun k=>rN π Z (eqOp .eql 3 false true t7 (.int .i64 0)) w k) (fun t8 w=>
 rN π Z (pickV t3 t8 (.bool false)) w fun t9 w=>
 cV t9 (
 CallV π Z 25 #[x0] w fun t10 w=>
 Q (.bool false) w) (
 runX π Z (nilChk x0) w fun t11 w=>
 rN π Z (fieldAt 76 t11 5) w fun t12 w=>
 rN π Z (loadAt 3 t12) w fun t13 w=>
 rN π Z (binOp .sub 3 t13 (.int .i64 1)) w fun t14 w=>
 runX π Z (nilChk x0) w fun t15 w=>
 rN π Z (fieldAt 76 t15 5) w fun t16 w=>
 rO π Z (storeAt 3 t16 t14) w fun w=>
 runX π Z (nilChk x0) w fun t17 w=>
 rN π Z (fieldAt 76 t17 6) w fun t18 w=>
 rN π Z (loadAt 3 t18) w fun t19 w=>
 rN π Z (binOp .add 3 t19 (.int .i64 1)) w fun t20 w=>
 runX π Z (nilChk x0) w fun t21 w=>
 rN π Z (fieldAt 76 t21 6) w fun t22 w=>
 rO π Z (storeAt 3 t22 t20) w fun w=>
 Q (.bool true) w)) w) w) w) w) w
def f75.an:An:=(.q (.sq (.q (.cn (.q (.sq .leaf .leaf)) .leaf)) (.q (.q (.sq .leaf .leaf)))))
theorem f75.calls {Z:PZ} {x0:Value} {w:World} {Q:PQ} (h:f75.sh Z x0 w Q):CallV π Z 75 #[x0] w Q:=
 cl Tryz.func75 f75.an [x0] (by kernel_rfl) (by kernel_rfl) h

def f76.sh (Z:PZ) (x0 x1:Value) (w:World) (Q:PQ):Prop:=
 rN π Z (Instr.box 48 x0) w fun t1 w=>
 rN π Z (Instr.box 48 x1) w fun t2 w=>
 rN π Z (fieldAt 48 t1 0) w fun t3 w=>
 rN π Z (loadAt 40 t3) w fun t4 w=>
 rN π Z (fieldAt 48 t2 0) w fun t5 w=>
 rN π Z (loadAt 40 t5) w fun t6 w=>
 rN π Z (eqOp .neq 40 false false t4 t6) w fun t7 w=>
 gW (t7) false (fun k=>rN π Z (fieldAt 48 t1 1) w k) (fun t8 w=>
 gW (t7) false (fun k=>rN π Z (loadAt 9 t8) w k) (fun t9 w=>
 gW (t7) false (fun k=>rN π Z (fieldAt 48 t2 1) w k) (fun t10 w=>
 gW (t7) false (fun k=>rN π Z (loadAt 9 t10) w k) (fun t11 w=>
 gW (t7) false (fun k=>rN π Z (eqOp .neq 9 false false t9 t11) w k) (fun t12 w=>
 rN π Z (pickV t7 (.bool true) t12) w fun t13 w=>
 gW (t13) false (fun k=>rN π Z (fieldAt 48 t1 4) w k) (fun t14 w=>
 gW (t13) false (fun k=>rN π Z (loadAt 21 t14) w k) (fun t15 w=>
 gW (t13) false (fun k=>rN π Z (fieldAt 48 t2 4) w k) (fun t16 w=>
 gW (t13) false (fun k=>rN π Z (loadAt 21 t16) w k) (fun t17 w=>
 gW (t13) false (fun k=>rN π Z (eqOp .neq 21 false false t15 t17) w k) (fun t18 w=>
 rN π Z (pickV t13 (.bool true) t18) w fun t19 w=>
 gW (t19) false (fun k=>rN π Z (fieldAt 48 t1 5) w k) (fun t20 w=>
 gW (t19) false (fun k=>rN π Z (loadAt 4 t20) w k) (fun t21 w=>
 gW (t19) false (fun k=>rN π Z (fieldAt 48 t2 5) w k) (fun t22 w=>
 gW (t19) false (fun k=>rN π Z (loadAt 4 t22) w k) (fun t23 w=>
 gW (t19) false (fun k=>rN π Z (eqOp .neq 4 false false t21 t23) w k) (fun t24 w=>
 rN π Z (pickV t19 (.bool true) t24) w fun t25 w=>
 gW (t25) false (fun k=>rN π Z (fieldAt 48 t1 6) w k) (fun t26 w=>
 gW (t25) false (fun k=>rN π Z (loadAt 4 t26) w k) (fun t27 w=>
 gW (t25) false (fun k=>rN π Z (fieldAt 48 t2 6) w k) (fun t28 w=>
 gW (t25) false (fun k=>rN π Z (loadAt 4 t28) w k) (fun t29 w=>
 gW (t25) false (fun k=>rN π Z (eqOp .neq 4 false false t27 t29) w k) (fun t30 w=>
 rN π Z (pickV t25 (.bool true) t30) w fun t31 w=>
 gW (t31) false (fun k=>rN π Z (fieldAt 48 t1 7) w k) (fun t32 w=>
 gW (t31) false (fun k=>rN π Z (loadAt 2 t32) w k) (fun t33 w=>
 gW (t31) false (fun k=>rN π Z (fieldAt 48 t2 7) w k) (fun t34 w=>
 gW (t31) false (fun k=>rN π Z (loadAt 2 t34) w k) (fun t35 w=>
 gW (t31) false (fun k=>rN π Z (eqOp .neq 2 false false t33 t35) w k) (fun t36 w=>
 rN π Z (pickV t31 (.bool true) t36) w fun t37 w=>
 gW (t37) false (fun k=>rN π Z (fieldAt 48 t1 8) w k) (fun t38 w=>
 gW (t37) false (fun k=>rN π Z (loadAt 21 t38) w k) (fun t39 w=>
 gW (t37) false (fun k=>rN π Z (fieldAt 48 t2 8) w k) (fun t40 w=>
 gW (t37) false (fun k=>rN π Z (loadAt 21 t40) w k) (fun t41 w=>
 gW (t37) false (fun k=>rN π Z (eqOp .neq 21 false false t39 t41) w k) (fun t42 w=>
 rN π Z (pickV t37 (.bool true) t42) w fun t43 w=>
 cV t43 (
 Q (.bool false) w) (
 rN π Z (fieldAt 48 t1 2) w fun t44 w=>
 rN π Z (loadAt 43 t44) w fun t45 w=>
 rN π Z (fieldAt 48 t2 2) w fun t46 w=>
 rN π Z (loadAt 43 t46) w fun t47 w=>
 CallV π Z 50 #[t45,t47] w fun t48 w=>
 rN π Z (Op.unary .not t48) w fun t49 w=>
 gW (t49) false (fun k=>rN π Z (fieldAt 48 t1 3) w k) (fun t50 w=>
 gW (t49) false (fun k=>rN π Z (loadAt 44 t50) w k) (fun t51 w=>
 gW (t49) false (fun k=>rN π Z (fieldAt 48 t2 3) w k) (fun t52 w=>
 gW (t49) false (fun k=>rN π Z (loadAt 44 t52) w k) (fun t53 w=>
 gW (t49) false (fun k=>CallV π Z 102 #[t51,t53] w k) (fun t54 w=>
 gW (t49) false (fun k=>rN π Z (Op.unary .not t54) w k) (fun t55 w=>
 rN π Z (pickV t49 (.bool true) t55) w fun t56 w=>
 gW (t56) false (fun k=>rN π Z (fieldAt 48 t1 9) w k) (fun t57 w=>
 gW (t56) false (fun k=>rN π Z (loadAt 45 t57) w k) (fun t58 w=>
 gW (t56) false (fun k=>rN π Z (fieldAt 48 t2 9) w k) (fun t59 w=>
 gW (t56) false (fun k=>rN π Z (loadAt 45 t59) w k) (fun t60 w=>
 gW (t56) false (fun k=>CallV π Z 103 #[t58,t60] w k) (fun t61 w=>
 gW (t56) false (fun k=>rN π Z (Op.unary .not t61) w k) (fun t62 w=>
 rN π Z (pickV t56 (.bool true) t62) w fun t63 w=>
 gW (t63) false (fun k=>rN π Z (fieldAt 48 t1 10) w k) (fun t64 w=>
 gW (t63) false (fun k=>rN π Z (loadAt 46 t64) w k) (fun t65 w=>
 gW (t63) false (fun k=>rN π Z (Builtin.len_ #[46] 3 #[t65]) w k) (fun t66 w=>
 gW (t63) false (fun k=>rN π Z (fieldAt 48 t2 10) w k) (fun t67 w=>
 gW (t63) false (fun k=>rN π Z (loadAt 46 t67) w k) (fun t68 w=>
 gW (t63) false (fun k=>rN π Z (Builtin.len_ #[46] 3 #[t68]) w k) (fun t69 w=>
 gW (t63) false (fun k=>rN π Z (eqOp .neq 3 false false t66 t69) w k) (fun t70 w=>
 rN π Z (pickV t63 (.bool true) t70) w fun t71 w=>
 cV t71 (
 Q (.bool false) w) (
 ∃J_72:Nat→PQ,(∃m,J_72 m (.int .i64 0) w) ∧
 ∀m_72,∀t73:Value,∀w:World,J_72 m_72 t73 w→Env →
 rN π Z (fieldAt 48 t1 10) w fun t74 w=>
 rN π Z (loadAt 46 t74) w fun t75 w=>
 rN π Z (Builtin.len_ #[46] 3 #[t75]) w fun t76 w=>
 rN π Z (binOp .lss 3 t73 t76) w fun t77 w=>
 cV t77 (
 Drawn w fun w=>
 pU π (fieldAt 48 t1 10) fun t78=>
 rD π (loadAt 46 t78) w fun t79=>
 pU π (indexAt 46 t79 t73) fun t80=>
 rD π (loadAt 48 t80) w fun t81=>
 pU π (fieldAt 48 t2 10) fun t82=>
 rD π (loadAt 46 t82) w fun t83=>
 pU π (indexAt 46 t83 t73) fun t84=>
 rD π (loadAt 48 t84) w fun t85=>
 CallV π Z 76 #[t81,t85] w fun t86 w=>
 Still π (nx (loadAt 46 t82)) t83 w <|
 Still π (nx (loadAt 46 t78)) t79 w <|
 pU π (Op.unary .not t86) fun t87=>
 cV t87 (
 Q (.bool false) w) (
 rN π Z (binOp .add 3 t73 (.int .i64 1)) w fun t88 w=>
 ∃n_72,n_72 < m_72∧J_72 n_72 t88 w)) (
 Q (.bool true) w))) w) w) w) w) w) w) w) w) w) w) w) w) w) w) w) w) w) w) w)) w) w) w) w) w) w) w) w) w) w) w) w) w) w) w) w) w) w) w) w) w) w) w) w) w) w) w) w) w) w
def f76.an:An:=(.q (.sq (.q (.cn (.sq .leaf .leaf) .leaf)) (.sq (.q (.cn (.sq .leaf .leaf) .leaf)) (.sq (.q (.bl (.lp [5] (.sq (.q (.c)) (.sq (.bl (.sq (.dr (pl [0,5,8,12,17,20,25,28,32,37,42,44] .fin)) (.cn (.sq .leaf .leaf) .leaf))) .leaf))))) (.sq .leaf .leaf)))))
theorem f76.calls {Z:PZ} {x0 x1:Value} {w:World} {Q:PQ} (h:f76.sh Z x0 x1 w Q):CallV π Z 76 #[x0,x1] w Q:=
 cl Tryz.func76 f76.an [x0,x1] (by kernel_rfl) (by kernel_rfl) h

def f77.sh (Z:PZ) (x0:Value) (w:World) (Q:PQ):Prop:=
 rN π Z (Instr.box 48 x0) w fun t1 w=>
 rN π Z (Instr.alloc 48 true (.tuple #[])) w fun t2 w=>
 Drawn w fun w=>
 pU π (fieldAt 48 t1 2) fun t3=>
 rD π (loadAt 43 t3) w fun t4=>
 pU π (fieldAt 48 t1 3) fun t5=>
 rD π (loadAt 44 t5) w fun t6=>
 pU π (fieldAt 48 t1 9) fun t7=>
 rD π (loadAt 45 t7) w fun t8=>
 pU π (fieldAt 48 t1 10) fun t9=>
 rD π (loadAt 46 t9) w fun t10=>
 CallV π Z 104 #[t4] w fun t11 w=>
 Still π (nx (loadAt 46 t9)) t10 w <|
 Still π (nx (loadAt 45 t7)) t8 w <|
 Still π (nx (loadAt 44 t5)) t6 w <|
 pU π (fieldAt 48 t1 2) fun t12=>
 CallV π Z 105 #[t6] w fun t13 w=>
 Still π (nx (loadAt 46 t9)) t10 w <|
 Still π (nx (loadAt 45 t7)) t8 w <|
 CallV π Z 106 #[t8] w fun t14 w=>
 Still π (nx (loadAt 46 t9)) t10 w <|
 CallV π Z 107 #[t10] w fun t15 w=>
 rO π Z (storeAt 43 t12 t11) w fun w=>
 pU π (fieldAt 48 t1 3) fun t16=>
 rO π Z (storeAt 44 t16 t13) w fun w=>
 pU π (fieldAt 48 t1 9) fun t17=>
 rO π Z (storeAt 45 t17 t14) w fun w=>
 pU π (fieldAt 48 t1 10) fun t18=>
 rO π Z (storeAt 46 t18 t15) w fun w=>
 rN π Z (fieldAt 48 t1 10) w fun t19 w=>
 rN π Z (loadAt 46 t19) w fun t20 w=>
 rN π Z (Builtin.len_ #[46] 3 #[t20]) w fun t21 w=>
 ∃J_22:Nat→PQ,(∃m,J_22 m (.int .i64 0) w) ∧
 ∀m_22,∀t23:Value,∀w:World,J_22 m_22 t23 w→Env →
 rN π Z (binOp .lss 3 t23 t21) w fun t24 w=>
 cV t24 (
 Drawn w fun w=>
 pU π (fieldAt 48 t1 10) fun t25=>
 rD π (loadAt 46 t25) w fun t26=>
 pU π (fieldAt 48 t1 10) fun t27=>
 rD π (loadAt 46 t27) w fun t28=>
 pU π (indexAt 46 t28 t23) fun t29=>
 rD π (loadAt 48 t29) w fun t30=>
 CallV π Z 77 #[t30] w fun t31 w=>
 Still π (nx (loadAt 46 t27)) t28 w <|
 Still π (nx (loadAt 46 t25)) t26 w <|
 pU π (indexAt 46 t26 t23) fun t32=>
 rO π Z (storeAt 48 t32 t31) w fun w=>
 rN π Z (binOp .add 3 t23 (.int .i64 1)) w fun t33 w=>
 ∃n_22,n_22 < m_22∧J_22 n_22 t33 w) (
 rN π Z (loadAt 48 t1) w fun t34 w=>
 rO π Z (storeAt 48 t2 t34) w fun w=>
 ∃r_35,(do loadVar 48 (← asAddr t2):Sem Value).run π w=.ok r_35 w ∧
 Q r_35 w)
def f77.an:An:=(.q (.sq (.dr (pl [0,5,12,17,24,29,36,41,10,48,22,34,46,54,56,62,64,70,72,78] .fin)) (.sq (.q (.bl (.lp [23] (.q (.sq (.c) (.sq (.bl (.q (.dr (pl [0,5,8,12,17,20,24,29,34,36,42] .fin)))) .leaf)))))) (.sq .leaf .leaf))))
theorem f77.calls {Z:PZ} {x0:Value} {w:World} {Q:PQ} (h:f77.sh Z x0 w Q):CallV π Z 77 #[x0] w Q:=
 cl Tryz.func77 f77.an [x0] (by kernel_rfl) (by kernel_rfl) h

def f78.sh (Z:PZ) (x0:Value) (w:World) (Q:PQ):Prop:=
 rN π Z (Instr.box 48 x0) w fun t1 w=>
 rN π Z (fieldAt 48 t1 0) w fun t2 w=>
 rN π Z (loadAt 40 t2) w fun t3 w=>
 CallV π Z 108 #[t3] w fun t4 w=>
 rN π Z (eqOp .eql 9 false true t4 (.string { data:=#[] })) w fun t5 w=>
 cV t5 (
 Q (.bool false) w) (
 rN π Z (fieldAt 48 t1 1) w fun t6 w=>
 rN π Z (loadAt 9 t6) w fun t7 w=>
 rN π Z (eqOp .neq 9 false true t7 (.string { data:=#[] })) w fun t8 w=>
 gW (t8) true (fun k=>k (t4) w) (fun t9 w=>
 gW (t8) true (fun k=>CallV π Z 109 #[t9,(.int .u8 112)] w k) (fun t10 w=>
 gW (t8) true (fun k=>rN π Z (Op.unary .not t10) w k) (fun t11 w=>
 rN π Z (pickV t8 t11 (.bool false)) w fun t12 w=>
 gW (t12) false (fun k=>rN π Z (fieldAt 48 t1 1) w k) (fun t13 w=>
 gW (t12) false (fun k=>rN π Z (loadAt 9 t13) w k) (fun t14 w=>
 gW (t12) false (fun k=>rN π Z (Builtin.len_ #[9] 3 #[t14]) w k) (fun t15 w=>
 gW (t12) false (fun k=>rN π Z (binOp .gtr 3 t15 (.int .i64 64)) w k) (fun t16 w=>
 rN π Z (pickV t12 (.bool true) t16) w fun t17 w=>
 cV t17 (
 Q (.bool false) w) (
 rN π Z (fieldAt 48 t1 2) w fun t18 w=>
 rN π Z (loadAt 43 t18) w fun t19 w=>
 rN π Z (Builtin.len_ #[43] 3 #[t19]) w fun t20 w=>
 rN π Z (eqOp .neq 3 false true t20 (.int .i64 0)) w fun t21 w=>
 gW (t21) true (fun k=>k (t4) w) (fun t22 w=>
 gW (t21) true (fun k=>CallV π Z 109 #[t22,(.int .u8 100)] w k) (fun t23 w=>
 gW (t21) true (fun k=>rN π Z (Op.unary .not t23) w k) (fun t24 w=>
 rN π Z (pickV t21 t24 (.bool false)) w fun t25 w=>
 gW (t25) false (fun k=>rN π Z (fieldAt 48 t1 2) w k) (fun t26 w=>
 gW (t25) false (fun k=>rN π Z (loadAt 43 t26) w k) (fun t27 w=>
 gW (t25) false (fun k=>rN π Z (Builtin.len_ #[43] 3 #[t27]) w k) (fun t28 w=>
 gW (t25) false (fun k=>rN π Z (binOp .gtr 3 t28 (.int .i64 96)) w k) (fun t29 w=>
 rN π Z (pickV t25 (.bool true) t29) w fun t30 w=>
 cV t30 (
 Q (.bool false) w) (
 rN π Z (fieldAt 48 t1 3) w fun t31 w=>
 rN π Z (loadAt 44 t31) w fun t32 w=>
 rN π Z (Builtin.len_ #[44] 3 #[t32]) w fun t33 w=>
 rN π Z (eqOp .neq 3 false true t33 (.int .i64 0)) w fun t34 w=>
 gW (t34) true (fun k=>k (t4) w) (fun t35 w=>
 gW (t34) true (fun k=>CallV π Z 109 #[t35,(.int .u8 97)] w k) (fun t36 w=>
 gW (t34) true (fun k=>rN π Z (Op.unary .not t36) w k) (fun t37 w=>
 rN π Z (pickV t34 t37 (.bool false)) w fun t38 w=>
 gW (t38) false (fun k=>rN π Z (fieldAt 48 t1 3) w k) (fun t39 w=>
 gW (t38) false (fun k=>rN π Z (loadAt 44 t39) w k) (fun t40 w=>
 gW (t38) false (fun k=>CallV π Z 110 #[t40] w k) (fun t41 w=>
 gW (t38) false (fun k=>rN π Z (Op.unary .not t41) w k) (fun t42 w=>
 rN π Z (pickV t38 (.bool true) t42) w fun t43 w=>
 cV t43 (
 Q (.bool false) w) (
 rN π Z (fieldAt 48 t1 4) w fun t44 w=>
 rN π Z (loadAt 21 t44) w fun t45 w=>
 rN π Z (eqOp .neq 21 false true t45 (.int .i32 0)) w fun t46 w=>
 gW (t46) true (fun k=>k (t4) w) (fun t47 w=>
 gW (t46) true (fun k=>CallV π Z 109 #[t47,(.int .u8 118)] w k) (fun t48 w=>
 gW (t46) true (fun k=>rN π Z (Op.unary .not t48) w k) (fun t49 w=>
 rN π Z (pickV t46 t49 (.bool false)) w fun t50 w=>
 cV t50 (
 Q (.bool false) w) (
 rN π Z (fieldAt 48 t1 5) w fun t51 w=>
 rN π Z (loadAt 4 t51) w fun t52 w=>
 gW (t52) false (fun k=>rN π Z (fieldAt 48 t1 6) w k) (fun t53 w=>
 gW (t52) false (fun k=>rN π Z (loadAt 4 t53) w k) (fun t54 w=>
 rN π Z (pickV t52 (.bool true) t54) w fun t55 w=>
 gW (t55) true (fun k=>k (t4) w) (fun t56 w=>
 gW (t55) true (fun k=>CallV π Z 109 #[t56,(.int .u8 102)] w k) (fun t57 w=>
 gW (t55) true (fun k=>rN π Z (Op.unary .not t57) w k) (fun t58 w=>
 rN π Z (pickV t55 t58 (.bool false)) w fun t59 w=>
 cV t59 (
 Q (.bool false) w) (
 rN π Z (fieldAt 48 t1 7) w fun t60 w=>
 rN π Z (loadAt 2 t60) w fun t61 w=>
 rN π Z (eqOp .neq 2 false true t61 (.int .i64 0)) w fun t62 w=>
 gW (t62) true (fun k=>k (t4) w) (fun t63 w=>
 gW (t62) true (fun k=>CallV π Z 109 #[t63,(.int .u8 115)] w k) (fun t64 w=>
 gW (t62) true (fun k=>rN π Z (Op.unary .not t64) w k) (fun t65 w=>
 rN π Z (pickV t62 t65 (.bool false)) w fun t66 w=>
 gW (t66) false (fun k=>rN π Z (fieldAt 48 t1 7) w k) (fun t67 w=>
 gW (t66) false (fun k=>rN π Z (loadAt 2 t67) w k) (fun t68 w=>
 gW (t66) false (fun k=>rN π Z (binOp .lss 2 t68 (.int .i64 0)) w k) (fun t69 w=>
 rN π Z (pickV t66 (.bool true) t69) w fun t70 w=>
 gW (t70) false (fun k=>rN π Z (fieldAt 48 t1 0) w k) (fun t71 w=>
 gW (t70) false (fun k=>rN π Z (loadAt 40 t71) w k) (fun t72 w=>
 gW (t70) false (fun k=>rN π Z (eqOp .eql 40 false true t72 (.int .i8 8)) w k) (fun t73 w=>
 gW (t70) false (fun k=>k (t73) w) (fun t74 w=>
 gW (t74) true (fun k=>rN π Z (fieldAt 48 t1 7) w k) (fun t75 w=>
 gW (t74) true (fun k=>rN π Z (loadAt 2 t75) w k) (fun t76 w=>
 gW (t74) true (fun k=>rN π Z (binOp .lss 2 t76 (.int .i64 1)) w k) (fun t77 w=>
 gW (t70) false (fun k=>rN π Z (pickV t74 t77 (.bool false)) w k) (fun t78 w=>
 rN π Z (pickV t70 (.bool true) t78) w fun t79 w=>
 cV t79 (
 Q (.bool false) w) (
 CallV π Z 109 #[t4,(.int .u8 116)] w fun t80 w=>
 gW (t80) true (fun k=>rN π Z (fieldAt 48 t1 8) w k) (fun t81 w=>
 gW (t80) true (fun k=>rN π Z (loadAt 21 t81) w k) (fun t82 w=>
 gW (t80) true (fun k=>rN π Z (binOp .lss 21 t82 (.int .i32 1)) w k) (fun t83 w=>
 gW (t80) true (fun k=>k (t83) w) (fun t84 w=>
 gW (t84) false (fun k=>rN π Z (fieldAt 48 t1 8) w k) (fun t85 w=>
 gW (t84) false (fun k=>rN π Z (loadAt 21 t85) w k) (fun t86 w=>
 gW (t84) false (fun k=>rN π Z (binOp .gtr 21 t86 (.int .i32 1000)) w k) (fun t87 w=>
 gW (t80) true (fun k=>rN π Z (pickV t84 (.bool true) t87) w k) (fun t88 w=>
 rN π Z (pickV t80 t88 (.bool false)) w fun t89 w=>
 gW (t89) false (fun k=>k (t4) w) (fun t90 w=>
 gW (t89) false (fun k=>CallV π Z 109 #[t90,(.int .u8 116)] w k) (fun t91 w=>
 gW (t89) false (fun k=>rN π Z (Op.unary .not t91) w k) (fun t92 w=>
 gW (t89) false (fun k=>k (t92) w) (fun t93 w=>
 gW (t93) true (fun k=>rN π Z (fieldAt 48 t1 8) w k) (fun t94 w=>
 gW (t93) true (fun k=>rN π Z (loadAt 21 t94) w k) (fun t95 w=>
 gW (t93) true (fun k=>rN π Z (eqOp .neq 21 false true t95 (.int .i32 0)) w k) (fun t96 w=>
 gW (t89) false (fun k=>rN π Z (pickV t93 t96 (.bool false)) w k) (fun t97 w=>
 rN π Z (pickV t89 (.bool true) t97) w fun t98 w=>
 cV t98 (
 Q (.bool false) w) (
 rN π Z (fieldAt 48 t1 9) w fun t99 w=>
 rN π Z (loadAt 45 t99) w fun t100 w=>
 rN π Z (Builtin.len_ #[45] 3 #[t100]) w fun t101 w=>
 rN π Z (eqOp .neq 3 false true t101 (.int .i64 0)) w fun t102 w=>
 gW (t102) true (fun k=>k (t4) w) (fun t103 w=>
 gW (t102) true (fun k=>CallV π Z 109 #[t103,(.int .u8 119)] w k) (fun t104 w=>
 gW (t102) true (fun k=>rN π Z (Op.unary .not t104) w k) (fun t105 w=>
 rN π Z (pickV t102 t105 (.bool false)) w fun t106 w=>
 gW (t106) false (fun k=>rN π Z (fieldAt 48 t1 9) w k) (fun t107 w=>
 gW (t106) false (fun k=>rN π Z (loadAt 45 t107) w k) (fun t108 w=>
 gW (t106) false (fun k=>CallV π Z 111 #[t108] w k) (fun t109 w=>
 gW (t106) false (fun k=>rN π Z (Op.unary .not t109) w k) (fun t110 w=>
 rN π Z (pickV t106 (.bool true) t110) w fun t111 w=>
 cV t111 (
 Q (.bool false) w) (
 CallV π Z 109 #[t4,(.int .u8 111)] w fun t112 w=>
 cV t112 (
 rN π Z (fieldAt 48 t1 10) w fun t113 w=>
 rN π Z (loadAt 46 t113) w fun t114 w=>
 rN π Z (Builtin.len_ #[46] 3 #[t114]) w fun t115 w=>
 rN π Z (binOp .geq 3 t115 (.int .i64 1)) w fun t116 w=>
 gW (t116) true (fun k=>rN π Z (fieldAt 48 t1 10) w k) (fun t117 w=>
 gW (t116) true (fun k=>rN π Z (loadAt 46 t117) w k) (fun t118 w=>
 gW (t116) true (fun k=>rN π Z (Builtin.len_ #[46] 3 #[t118]) w k) (fun t119 w=>
 gW (t116) true (fun k=>rN π Z (binOp .leq 3 t119 (.int .i64 8)) w k) (fun t120 w=>
 rN π Z (pickV t116 t120 (.bool false)) w fun t121 w=>
 Q t121 w) w) w) w) w) (
 rN π Z (fieldAt 48 t1 10) w fun t122 w=>
 rN π Z (loadAt 46 t122) w fun t123 w=>
 rN π Z (Builtin.len_ #[46] 3 #[t123]) w fun t124 w=>
 rN π Z (eqOp .eql 3 false true t124 (.int .i64 0)) w fun t125 w=>
 Q t125 w))) w) w) w) w) w) w) w)) w) w) w) w) w) w) w) w) w) w) w) w) w) w) w) w)) w) w) w) w) w) w) w) w) w) w) w) w) w) w)) w) w) w) w) w)) w) w) w)) w) w) w) w) w) w) w)) w) w) w) w) w) w) w)) w) w) w) w) w) w) w)
def f78.an:An:=(.q (.q (.sq (.q (.cn (.sq .leaf .leaf) .leaf)) (.sq (.q (.cn (.sq .leaf .leaf) .leaf)) (.sq (.q (.cn (.sq .leaf .leaf) .leaf)) (.sq (.q (.cn (.sq .leaf .leaf) .leaf)) (.sq (.q (.cn (.sq .leaf .leaf) .leaf)) (.sq (.q (.cn (.sq .leaf .leaf) .leaf)) (.sq (.q (.cn (.sq .leaf .leaf) .leaf)) (.sq (.q (.cn (.sq .leaf .leaf) .leaf)) (.sq (.q (.cn (.sq .leaf .leaf) .leaf)) (.sq (.q (.cn (.sq .leaf .leaf) .leaf)) (.sq .leaf .leaf)))))))))))))
theorem f78.calls {Z:PZ} {x0:Value} {w:World} {Q:PQ} (h:f78.sh Z x0 w Q):CallV π Z 78 #[x0] w Q:=
 cl Tryz.func78 f78.an [x0] (by kernel_rfl) (by kernel_rfl) h

def f79.sh (Z:PZ) (x0:Value) (w:World) (Q:PQ):Prop:=
 rN π Z (Instr.box 48 x0) w fun t1 w=>
 rN π Z (fieldAt 48 t1 0) w fun t2 w=>
 rN π Z (loadAt 40 t2) w fun t3 w=>
 CallV π Z 112 #[t3] w fun t4 w=>
 rN π Z (Op.unary .not t4) w fun t5 w=>
 gW (t5) false (fun k=>rN π Z (loadAt 48 t1) w k) (fun t6 w=>
 gW (t5) false (fun k=>CallV π Z 113 #[t6] w k) (fun t7 w=>
 gW (t5) false (fun k=>rN π Z (Op.unary .not t7) w k) (fun t8 w=>
 rN π Z (pickV t5 (.bool true) t8) w fun t9 w=>
 cV t9 (
 Q (.int .i64 40) w) (
 rN π Z (fieldAt 48 t1 10) w fun t10 w=>
 rN π Z (loadAt 46 t10) w fun t11 w=>
 rN π Z (Builtin.len_ #[46] 3 #[t11]) w fun t12 w=>
 ∃J_13:Nat→PQ,(∃m,J_13 m (.int .i64 0) w) ∧
 ∀m_13,∀t14:Value,∀w:World,J_13 m_13 t14 w→Env →
 rN π Z (binOp .lss 3 t14 t12) w fun t15 w=>
 cV t15 (
 rN π Z (indexAt 46 t11 t14) w fun t16 w=>
 rN π Z (loadAt 48 t16) w fun t17 w=>
 rN π Z (Instr.alloc 48 true (.tuple #[])) w fun t18 w=>
 rO π Z (storeAt 48 t18 t17) w fun w=>
 rN π Z (loadAt 48 t18) w fun t19 w=>
 CallV π Z 114 #[t19] w fun t20 w=>
 rN π Z (Op.unary .not t20) w fun t21 w=>
 cV t21 (
 Q (.int .i64 40) w) (
 rN π Z (binOp .add 3 t14 (.int .i64 1)) w fun t22 w=>
 ∃n_13,n_13 < m_13∧J_13 n_13 t22 w)) (
 Q (.int .i64 0) w))) w) w) w
def f79.an:An:=(.q (.sq (.q (.cn (.sq .leaf .leaf) .leaf)) (.sq (.q (.bl (.lp [17] (.q (.sq (.c) (.sq (.bl (.q (.q (.cn (.sq .leaf .leaf) .leaf)))) .leaf)))))) (.sq .leaf .leaf))))
theorem f79.calls {Z:PZ} {x0:Value} {w:World} {Q:PQ} (h:f79.sh Z x0 w Q):CallV π Z 79 #[x0] w Q:=
 cl Tryz.func79 f79.an [x0] (by kernel_rfl) (by kernel_rfl) h

def f80.sh (Z:PZ) (x0:Value) (w:World) (Q:PQ):Prop:=
 rN π Z (Builtin.len_ #[23] 3 #[x0]) w fun t1 w=>
 ∃J_2:Nat→PQ,(∃m,J_2 m (.int .i64 0) w) ∧
 ∀m_2,∀t3:Value,∀w:World,J_2 m_2 t3 w→Env →
 rN π Z (binOp .lss 3 t3 t1) w fun t4 w=>
 cV t4 (
 rN π Z (indexAt 23 x0 t3) w fun t5 w=>
 rN π Z (loadAt 3 t5) w fun t6 w=>
 rN π Z (eqOp .neq 3 false false t6 (.int .i64 0)) w fun t7 w=>
 cV t7 (
 Q t6 w) (
 rN π Z (binOp .add 3 t3 (.int .i64 1)) w fun t8 w=>
 ∃n_2,n_2 < m_2∧J_2 n_2 t8 w)) (
 Q (.int .i64 0) w)
def f80.an:An:=(.q (.q (.sq (.q (.bl (.lp [8] (.q (.sq (.c) (.sq (.bl (.q (.q (.cn (.sq .leaf .leaf) .leaf)))) .leaf)))))) (.sq .leaf .leaf))))
theorem f80.calls {Z:PZ} {x0:Value} {w:World} {Q:PQ} (h:f80.sh Z x0 w Q):CallV π Z 80 #[x0] w Q:=
 cl Tryz.func80 f80.an [x0] (by kernel_rfl) (by kernel_rfl) h

def f81.sh (Z:PZ) (x0 x1:Value) (w:World) (Q:PQ):Prop:=
 CallV π Z 115 #[x0] w fun t1 w=>
 CallV π Z 115 #[x1] w fun t2 w=>
 cV t1 (
 cV t2 (
 Q (.int .i64 0) w) (
 Q (.int .i64 (-1)) w)) (
 cV t2 (
 Q (.int .i64 1) w) (
 rN π Z (binOp .lss 37 x0 x1) w fun t3 w=>
 cV t3 (
 Q (.int .i64 (-1)) w) (
 rN π Z (binOp .gtr 37 x0 x1) w fun t4 w=>
 cV t4 (
 Q (.int .i64 1) w) (
 Q (.int .i64 0) w))))
def f81.an:An:=(.q (.q (.q (.sq (.q (.cn (.sq (.q (.cn (.sq .leaf .leaf) .leaf)) (.sq .leaf .leaf)) .leaf)) (.sq (.q (.cn (.sq .leaf .leaf) .leaf)) (.sq (.q (.cn (.sq .leaf .leaf) .leaf)) (.sq (.q (.cn (.sq .leaf .leaf) .leaf)) (.sq .leaf .leaf))))))))
theorem f81.calls {Z:PZ} {x0 x1:Value} {w:World} {Q:PQ} (h:f81.sh Z x0 x1 w Q):CallV π Z 81 #[x0,x1] w Q:=
 cl Tryz.func81 f81.an [x0,x1] (by kernel_rfl) (by kernel_rfl) h

def f82.sh (Z:PZ) (x0 x1:Value) (w:World) (Q:PQ):Prop:=
 CallV π Z 116 #[x0,x1] w fun t1 w=>
 rN π Z (Op.unary .not t1) w fun t2 w=>
 cV t2 (
 Q (Value.tuple #[x0,(.bool false)]) w) (
 rN π Z (Builtin.len_ #[9] 3 #[x1]) w fun t3 w=>
 rN π Z (Instr.sliceAt 9 x0 (some t3) none none) w fun t4 w=>
 Q (Value.tuple #[t4,(.bool true)]) w)
def f82.an:An:=(.q (.sq (.q (.cn (.sq .leaf .leaf) .leaf)) (.sq .leaf .leaf)))
theorem f82.calls {Z:PZ} {x0 x1:Value} {w:World} {Q:PQ} (h:f82.sh Z x0 x1 w Q):CallV π Z 82 #[x0,x1] w Q:=
 cl Tryz.func82 f82.an [x0,x1] (by kernel_rfl) (by kernel_rfl) h

def f83.sh (Z:PZ) (x0 x1 x2:Value) (w:World) (Q:PQ):Prop:=
 rN π Z (eqOp .eql 9 false true x0 (.string { data:=#[] })) w fun t1 w=>
 cV t1 (
 rN π Z (Instr.makeInterface 161 (.int .i64 2)) w fun t2 w=>
 Q (Value.tuple #[(.int .i64 0),t2]) w) (
 ∀j_3:Value→PQ,(∀t4:Value,∀t5:Value,∀w:World,(Env →
 CallV π Z 117 #[t4,x1,x2] w fun t6 w=>
 rN π Z (extract t6 0) w fun t7 w=>
 rN π Z (extract t6 1) w fun t8 w=>
 rN π Z (eqOp .neq 109 false true t8 .nilIface) w fun t9 w=>
 gW (t9) true (fun k=>k (t8) w) (fun t10 w=>
 gW (t9) true (fun k=>rN π Z (Instr.makeInterface 161 (.int .i64 1)) w k) (fun t11 w=>
 gW (t9) true (fun k=>rN π Z (eqOp .neq 109 false false t10 t11) w k) (fun t12 w=>
 rN π Z (pickV t9 t12 (.bool false)) w fun t13 w=>
 cV t13 (
 Q (Value.tuple #[(.int .i64 0),t8]) w) (
 ∀j_14:PQ,(∀t15:Value,∀w:World,(Env →
 rN π Z (binOp .sub 3 t15 (.int .i64 1)) w fun t16 w=>
 rN π Z (convert 3 131 t16) w fun t17 w=>
 rN π Z (binOp .shl 162 (.int .u64 1) t17) w fun t18 w=>
 rN π Z (Op.unary .not t5) w fun t19 w=>
 gW (t19) true (fun k=>k (t7) w) (fun t20 w=>
 gW (t19) true (fun k=>k (t18) w) (fun t21 w=>
 gW (t19) true (fun k=>rN π Z (binOp .geq 162 t20 t21) w k) (fun t22 w=>
 rN π Z (pickV t19 t22 (.bool false)) w fun t23 w=>
 cV t23 (
 rN π Z (binOp .sub 162 t18 (.int .u64 1)) w fun t24 w=>
 rN π Z (convert 162 2 t24) w fun t25 w=>
 rN π Z (Instr.makeInterface 161 (.int .i64 1)) w fun t26 w=>
 Q (Value.tuple #[t25,t26]) w) (
 gW (t5) true (fun k=>k (t7) w) (fun t27 w=>
 gW (t5) true (fun k=>k (t18) w) (fun t28 w=>
 gW (t5) true (fun k=>rN π Z (binOp .gtr 162 t27 t28) w k) (fun t29 w=>
 rN π Z (pickV t5 t29 (.bool false)) w fun t30 w=>
 cV t30 (
 rN π Z (convert 162 2 t18) w fun t31 w=>
 rN π Z (Op.unary .neg t31) w fun t32 w=>
 rN π Z (Instr.makeInterface 161 (.int .i64 1)) w fun t33 w=>
 Q (Value.tuple #[t32,t33]) w) (
 rN π Z (convert 162 2 t7) w fun t34 w=>
 ∀j_35:PQ,(∀t36:Value,∀w:World,(Env →
 Q (Value.tuple #[t36,.nilIface]) w) →
 j_35 t36 w) →
 cV t5 (
 rN π Z (Op.unary .neg t34) w fun t37 w=>
 j_35 t37 w) (
 j_35 t34 w))) w) w) w)) w) w) w) →
 j_14 t15 w) →
 rN π Z (eqOp .eql 3 false true x2 (.int .i64 0)) w fun t38 w=>
 cV t38 (
 j_14 (.int .i64 64) w) (
 j_14 x2 w))) w) w) w) →
 j_3 t4 t5 w) →
 rN π Z (Instr.index 9 x0 (.int .i64 0)) w fun t39 w=>
 rN π Z (eqOp .eql 5 false true t39 (.int .u8 43)) w fun t40 w=>
 cV t40 (
 rN π Z (Instr.sliceAt 9 x0 (some (.int .i64 1)) none none) w fun t41 w=>
 j_3 t41 (.bool false) w) (
 rN π Z (eqOp .eql 5 false true t39 (.int .u8 45)) w fun t42 w=>
 cV t42 (
 rN π Z (Instr.sliceAt 9 x0 (some (.int .i64 1)) none none) w fun t43 w=>
 j_3 t43 (.bool true) w) (
 j_3 x0 (.bool false) w)))
def f83.an:An:=(.q (.sq (.q (.cn (.sq .leaf .leaf) .leaf)) (.q (.sj [0,8] (.q (.bl (.q (.cn .leaf (.q (.cn (.sq .leaf .leaf) .leaf)))))) (.q (.q (.sq (.q (.cn (.sq .leaf .leaf) .leaf)) (.sj [2] (.q (.c)) (.q (.sq (.q (.cn (.sq .leaf .leaf) .leaf)) (.sq (.q (.cn (.sq .leaf .leaf) .leaf)) (.q (.sj [11] (.q (.c)) (.sq .leaf .leaf))))))))))))))
theorem f83.calls {Z:PZ} {x0 x1 x2:Value} {w:World} {Q:PQ} (h:f83.sh Z x0 x1 x2 w Q):CallV π Z 83 #[x0,x1,x2] w Q:=
 cl Tryz.func83 f83.an [x0,x1,x2] (by kernel_rfl) (by kernel_rfl) h

def f87.sh (Z:PZ) (x0 x1:Value) (w:World) (Q:PQ):Prop:=
 CallV π Z 51 #[x0] w fun t1 w=>
 cV t1 (
 Q (.int .i64 1) w) (
 runX π Z (nilChk x0) w fun t2 w=>
 rN π Z (fieldAt 76 t2 3) w fun t3 w=>
 rN π Z (loadAt 4 t3) w fun t4 w=>
 rN π Z (Op.unary .not t4) w fun t5 w=>
 cV t5 (
 Q (.int .i64 23) w) (
 rN π Z (Builtin.len_ #[66] 3 #[x1]) w fun t6 w=>
 ∃J_7:Nat→PQ,(∃m,J_7 m (.int .i64 0) w) ∧
 ∀m_7,∀t8:Value,∀w:World,J_7 m_7 t8 w→Env →
 rN π Z (binOp .lss 3 t8 t6) w fun t9 w=>
 cV t9 (
 rN π Z (indexAt 66 x1 t8) w fun t10 w=>
 rN π Z (loadAt 9 t10) w fun t11 w=>
 CallV π Z 133 #[t11] w fun t12 w=>
 rN π Z (Op.unary .not t12) w fun t13 w=>
 cV t13 (
 Q (.int .i64 22) w) (
 rN π Z (binOp .add 3 t8 (.int .i64 1)) w fun t14 w=>
 ∃n_7,n_7 < m_7∧J_7 n_7 t14 w)) (
 Q (.int .i64 0) w)))
def f87.an:An:=(.q (.sq (.bl (.q (.cn (.sq .leaf .leaf) (.q (.cn (.sq .leaf .leaf) .leaf))))) (.sq (.q (.bl (.lp [18] (.q (.sq (.c) (.sq (.bl (.q (.q (.cn (.sq .leaf .leaf) .leaf)))) .leaf)))))) (.sq .leaf .leaf))))
theorem f87.calls {Z:PZ} {x0 x1:Value} {w:World} {Q:PQ} (h:f87.sh Z x0 x1 w Q):CallV π Z 87 #[x0,x1] w Q:=
 cl Tryz.func87 f87.an [x0,x1] (by kernel_rfl) (by kernel_rfl) h

def f88.sh (Z:PZ) (x0 x1:Value) (w:World) (Q:PQ):Prop:=
 Drawn w fun w=>
 PureV π (nilChk x0) fun t1=>
 pU π (fieldAt 74 t1 0) fun t2=>
 rD π (loadAt 72 t2) w fun t3=>
 pU π (Builtin.len_ #[72] 3 #[t3]) fun t4=>
 ∃J_5:Nat→Value→PQ,(∃m,J_5 m (.int .i64 0) t4 w) ∧
 ∀m_5,∀t6:Value,∀t7:Value,∀w:World,J_5 m_5 t6 t7 w→Env →
 rN π Z (binOp .lss 3 t6 t7) w fun t8 w=>
 cV t8 (
 rN π Z (binOp .add 3 t6 t7) w fun t9 w=>
 rN π Z (binOp .quo 3 t9 (.int .i64 2)) w fun t10 w=>
 runX π Z (nilChk x0) w fun t11 w=>
 rN π Z (fieldAt 74 t11 0) w fun t12 w=>
 rN π Z (loadAt 72 t12) w fun t13 w=>
 rN π Z (indexAt 72 t13 t10) w fun t14 w=>
 rN π Z (fieldAt 97 t14 0) w fun t15 w=>
 rN π Z (loadAt 9 t15) w fun t16 w=>
 rN π Z (binOp .lss 9 t16 x1) w fun t17 w=>
 cV t17 (
 rN π Z (binOp .add 3 t10 (.int .i64 1)) w fun t18 w=>
 ∃n_5,n_5 < m_5∧J_5 n_5 t18 t7 w) (
 ∃n_5,n_5 < m_5∧J_5 n_5 t6 t10 w)) (
 Drawn w fun w=>
 PureV π (nilChk x0) fun t19=>
 pU π (fieldAt 74 t19 0) fun t20=>
 rD π (loadAt 72 t20) w fun t21=>
 pU π (Builtin.len_ #[72] 3 #[t21]) fun t22=>
 pU π (binOp .lss 3 t6 t22) fun t23=>
 guardV (t23) true (fun k=>k (x0)) (fun t24=>
 guardV (t23) true (fun k=>PureV π (nilChk t24) k) (fun t25=>
 guardV (t23) true (fun k=>pU π (fieldAt 74 t25 0) k) (fun t26=>
 guardV (t23) true (fun k=>rD π (loadAt 72 t26) w k) (fun t27=>
 guardV (t23) true (fun k=>k (t6)) (fun t28=>
 guardV (t23) true (fun k=>pU π (indexAt 72 t27 t28) k) (fun t29=>
 guardV (t23) true (fun k=>pU π (fieldAt 97 t29 0) k) (fun t30=>
 guardV (t23) true (fun k=>rD π (loadAt 9 t30) w k) (fun t31=>
 guardV (t23) true (fun k=>k (x1)) (fun t32=>
 guardV (t23) true (fun k=>pU π (eqOp .eql 9 false false t31 t32) k) (fun t33=>
 pU π (pickV t23 t33 (.bool false)) fun t34=>
 Q (Value.tuple #[t6,t34]) w)))))))))))
def f88.an:An:=(.q (.sq (.dr (pl [0,4,8,13,16,20,24] .fin)) (.sq (.bl (.lp [6,7] (.sq (.q (.c)) (.bl (.q (.q (.c))))))) (.sq (.dr (pl [0,4,8,12,16,21,24,28,32,36,40,44,49,52,56,60,65,68,72,76,80,84] .fin)) .leaf))))
theorem f88.calls {Z:PZ} {x0 x1:Value} {w:World} {Q:PQ} (h:f88.sh Z x0 x1 w Q):CallV π Z 88 #[x0,x1] w Q:=
 cl Tryz.func88 f88.an [x0,x1] (by kernel_rfl) (by kernel_rfl) h

def f89.sh (Z:PZ) (x0 x1:Value) (w:World) (Q:PQ):Prop:=
 CallV π Z 88 #[x0,x1] w fun t1 w=>
 rN π Z (extract t1 0) w fun t2 w=>
 rN π Z (extract t1 1) w fun t3 w=>
 ∀j_4:World→Prop,(∀w:World,(Env →
 Q t2 w) →
 j_4 w) →
 rN π Z (Op.unary .not t3) w fun t5 w=>
 cV t5 (
 runX π Z (nilChk x0) w fun t6 w=>
 rN π Z (fieldAt 74 t6 0) w fun t7 w=>
 rN π Z (loadAt 72 t7) w fun t8 w=>
 rN π Z (Instr.build 97 #[(0,x1)]) w fun t9 w=>
 rN π Z (Instr.buildSlice 72 1 #[(0,t9)]) w fun t10 w=>
 CallV π Z 134 #[t8,t2,t10] w fun t11 w=>
 runX π Z (nilChk x0) w fun t12 w=>
 rN π Z (fieldAt 74 t12 0) w fun t13 w=>
 rO π Z (storeAt 72 t13 t11) w fun w=>
 j_4 w) (
 j_4 w)
def f89.an:An:=(.q (.q (.sj [] (.q (.c)) (.sq .leaf .leaf))))
theorem f89.calls {Z:PZ} {x0 x1:Value} {w:World} {Q:PQ} (h:f89.sh Z x0 x1 w Q):CallV π Z 89 #[x0,x1] w Q:=
 cl Tryz.func89 f89.an [x0,x1] (by kernel_rfl) (by kernel_rfl) h

def f90.sh (Z:PZ) (x0:Value) (w:World) (Q:PQ):Prop:=
 rN π Z (Instr.box 50 x0) w fun t1 w=>
 rN π Z (loadAt 50 t1) w fun t2 w=>
 CallV π Z 57 #[t2] w fun t3 w=>
 rN π Z (eqOp .neq 30 false true t3 (.int .i64 0)) w fun t4 w=>
 cV t4 (
 Q (Value.tuple #[(.slice none 0 0),(.int .i64 40)]) w) (
 rN π Z (Instr.build 183 #[]) w fun t5 w=>
 rN π Z (Instr.box 183 t5) w fun t6 w=>
 rN π Z (fieldAt 50 t1 0) w fun t7 w=>
 rN π Z (fieldAt 39 t7 0) w fun t8 w=>
 rN π Z (loadAt 37 t8) w fun t9 w=>
 CallV π Z 135 #[t6,t9] w fun t10 w=>
 rN π Z (fieldAt 50 t1 0) w fun t11 w=>
 rN π Z (fieldAt 39 t11 1) w fun t12 w=>
 rN π Z (loadAt 37 t12) w fun t13 w=>
 CallV π Z 135 #[t6,t13] w fun t14 w=>
 rN π Z (fieldAt 50 t1 1) w fun t15 w=>
 rN π Z (fieldAt 42 t15 0) w fun t16 w=>
 rN π Z (loadAt 40 t16) w fun t17 w=>
 CallV π Z 136 #[t6,t17] w fun t18 w=>
 rN π Z (fieldAt 50 t1 1) w fun t19 w=>
 rN π Z (fieldAt 42 t19 1) w fun t20 w=>
 rN π Z (loadAt 37 t20) w fun t21 w=>
 CallV π Z 135 #[t6,t21] w fun t22 w=>
 rN π Z (fieldAt 50 t1 1) w fun t23 w=>
 rN π Z (fieldAt 42 t23 2) w fun t24 w=>
 rN π Z (loadAt 2 t24) w fun t25 w=>
 CallV π Z 137 #[t6,t25] w fun t26 w=>
 rN π Z (Instr.build 148 #[]) w fun t27 w=>
 rN π Z (fieldAt 50 t1 2) w fun t28 w=>
 rN π Z (loadAt 48 t28) w fun t29 w=>
 CallV π Z 138 #[t27,t6,t29] w fun t30 w=>
 CallV π Z 139 #[t6] w fun t31 w=>
 Q (Value.tuple #[t31,(.int .i64 0)]) w)
def f90.an:An:=(.q (.sq (.q (.cn (.sq .leaf .leaf) .leaf)) (.q (.q (.q (.q (.q (.q (.q (.sq .leaf .leaf))))))))))
theorem f90.calls {Z:PZ} {x0:Value} {w:World} {Q:PQ} (h:f90.sh Z x0 w Q):CallV π Z 90 #[x0] w Q:=
 cl Tryz.func90 f90.an [x0] (by kernel_rfl) (by kernel_rfl) h

def f91.sh (Z:PZ) (x0:Value) (w:World) (Q:PQ):Prop:=
 rN π Z (Builtin.len_ #[43] 3 #[x0]) w fun t1 w=>
 rN π Z (binOp .lss 3 t1 (.int .i64 1)) w fun t2 w=>
 gW (t2) false (fun k=>k (x0) w) (fun t3 w=>
 gW (t2) false (fun k=>rN π Z (Builtin.len_ #[43] 3 #[t3]) w k) (fun t4 w=>
 gW (t2) false (fun k=>rN π Z (binOp .gtr 3 t4 (.int .i64 1048576)) w k) (fun t5 w=>
 rN π Z (pickV t2 (.bool true) t5) w fun t6 w=>
 cV t6 (
 Q (Value.tuple #[(.slice none 0 0),(.int .i64 30)]) w) (
 rN π Z (Builtin.len_ #[43] 3 #[x0]) w fun t7 w=>
 rN π Z (convert 3 37 t7) w fun t8 w=>
 CallV π Z 140 #[t8] w fun t9 w=>
 CallV π Z 141 #[x0] w fun t10 w=>
 CallV π Z 140 #[t10] w fun t11 w=>
 rN π Z (Instr.alloc 189 true (.tuple #[])) w fun t12 w=>
 rN π Z (Instr.alloc 189 true (.tuple #[])) w fun t13 w=>
 rO π Z (storeAt 189 t12 t9) w fun w=>
 rO π Z (storeAt 189 t13 t11) w fun w=>
 rN π Z (Builtin.len_ #[43] 3 #[x0]) w fun t14 w=>
 rN π Z (binOp .add 3 (.int .i64 8) t14) w fun t15 w=>
 rN π Z (binOp .add 3 t15 (.int .i64 1)) w fun t16 w=>
 rN π Z (Instr.makeSlice 43 (.int .i64 0) t16) w fun t17 w=>
 rN π Z (Instr.sliceAt 189 t12 none none none) w fun t18 w=>
 rN π Z (Builtin.append_ #[43,43] 43 #[t17,t18]) w fun t19 w=>
 rN π Z (Instr.sliceAt 189 t13 none none none) w fun t20 w=>
 rN π Z (Builtin.append_ #[43,43] 43 #[t19,t20]) w fun t21 w=>
 rN π Z (Builtin.append_ #[43,43] 43 #[t21,x0]) w fun t22 w=>
 rN π Z (Instr.buildSlice 43 1 #[(0,(.int .u8 66))]) w fun t23 w=>
 rN π Z (Builtin.append_ #[43,43] 43 #[t22,t23]) w fun t24 w=>
 Q (Value.tuple #[t24,(.int .i64 0)]) w)) w) w) w
def f91.an:An:=(.q (.sq (.q (.cn (.sq .leaf .leaf) .leaf)) (.q (.q (.q (.q (.q (.sq .leaf .leaf))))))))
theorem f91.calls {Z:PZ} {x0:Value} {w:World} {Q:PQ} (h:f91.sh Z x0 w Q):CallV π Z 91 #[x0] w Q:=
 cl Tryz.func91 f91.an [x0] (by kernel_rfl) (by kernel_rfl) h

def f92.sh (Z:PZ) (x0 x1:Value) (w:World) (Q:PQ):Prop:=
 rN π Z (eqOp .eql 3 false true x1 (.int .i64 10)) w fun t1 w=>
 cV t1 (
 rN π Z (binOp .leq 2 (.int .i64 0) x0) w fun t2 w=>
 gW (t2) true (fun k=>k (x0) w) (fun t3 w=>
 gW (t2) true (fun k=>rN π Z (binOp .lss 2 t3 (.int .i64 100)) w k) (fun t4 w=>
 rN π Z (pickV t2 t4 (.bool false)) w fun t5 w=>
 cV t5 (
 CallV π Z 142 #[x0] w fun t6 w=>
 Q t6 w) (
 rN π Z (Instr.alloc 193 true (.tuple #[])) w fun t7 w=>
 rN π Z (convert 2 162 x0) w fun t8 w=>
 ∀j_9:PQ,(∀t10:Value,∀w:World,(Env →
 CallV π Z 143 #[t10] w fun t11 w=>
 rN π Z (binOp .add 3 (.int .i64 1) t11) w fun t12 w=>
 rN π Z (Instr.sliceAt 193 t7 (some (.int .i64 1)) (some t12) none) w fun t13 w=>
 CallV π Z 144 #[t13,t10] w fun t14 w=>
 rN π Z (binOp .lss 2 x0 (.int .i64 0)) w fun t15 w=>
 cV t15 (
 rN π Z (indexAt 193 t7 (.int .i64 0)) w fun t16 w=>
 rO π Z (storeAt 5 t16 (.int .u8 45)) w fun w=>
 rN π Z (binOp .add 3 (.int .i64 1) t11) w fun t17 w=>
 rN π Z (Instr.sliceAt 193 t7 none (some t17) none) w fun t18 w=>
 rN π Z (convert 43 9 t18) w fun t19 w=>
 Q t19 w) (
 rN π Z (binOp .add 3 (.int .i64 1) t11) w fun t20 w=>
 rN π Z (Instr.sliceAt 193 t7 (some (.int .i64 1)) (some t20) none) w fun t21 w=>
 rN π Z (convert 43 9 t21) w fun t22 w=>
 Q t22 w)) →
 j_9 t10 w) →
 rN π Z (binOp .lss 2 x0 (.int .i64 0)) w fun t23 w=>
 cV t23 (
 rN π Z (Op.unary .neg t8) w fun t24 w=>
 j_9 t24 w) (
 j_9 t8 w))) w) w) (
 rN π Z (convert 2 162 x0) w fun t25 w=>
 rN π Z (binOp .lss 2 x0 (.int .i64 0)) w fun t26 w=>
 CallV π Z 145 #[(.slice none 0 0),t25,x1,t26,(.bool false)] w fun t27 w=>
 rN π Z (extract t27 0) w fun t28 w=>
 rN π Z (extract t27 1) w fun t29 w=>
 Q t29 w)
def f92.an:An:=(.q (.sq (.q (.cn (.sq (.q (.cn (.sq .leaf .leaf) .leaf)) (.q (.q (.sj [6] (.q (.c)) (.q (.q (.sq (.q (.cn (.q (.sq .leaf .leaf)) .leaf)) (.sq .leaf .leaf)))))))) .leaf)) (.q (.sq .leaf .leaf))))
theorem f92.calls {Z:PZ} {x0 x1:Value} {w:World} {Q:PQ} (h:f92.sh Z x0 x1 w Q):CallV π Z 92 #[x0,x1] w Q:=
 cl Tryz.func92 f92.an [x0,x1] (by kernel_rfl) (by kernel_rfl) h

def f93.sh (Z:PZ) (x0:Value) (w:World) (Q:PQ):Prop:=
 rN π Z (Builtin.len_ #[43] 3 #[x0]) w fun t1 w=>
 rN π Z (Instr.makeSlice 43 t1 t1) w fun t2 w=>
 rN π Z (Builtin.copy_ #[43,43] 3 #[t2,x0]) w fun t3 w=>
 Q t2 w
def f93.an:An:=(.q (.q (.q (.sq .leaf .leaf))))
theorem f93.calls {Z:PZ} {x0:Value} {w:World} {Q:PQ} (h:f93.sh Z x0 w Q):CallV π Z 93 #[x0] w Q:=
 cl Tryz.func93 f93.an [x0] (by kernel_rfl) (by kernel_rfl) h

def f95.sh (Z:PZ) (x0:Value) (w:World) (Q:PQ):Prop:=
 rN π Z (Instr.box 43 x0) w fun t1 w=>
 rN π Z (Instr.makeFunc (.func 146) #[] #[t1]) w fun t2 w=>
 Q t2 w
def f95.an:An:=(.q (.sq .leaf .leaf))
theorem f95.calls {Z:PZ} {x0:Value} {w:World} {Q:PQ} (h:f95.sh Z x0 w Q):CallV π Z 95 #[x0] w Q:=
 cl Tryz.func95 f95.an [x0] (by kernel_rfl) (by kernel_rfl) h

def f96.sh (Z:PZ) (x0:Value) (w:World) (Q:PQ):Prop:=
 rN π Z (Builtin.append_ #[43,43] 43 #[(.slice none 0 0),x0]) w fun t1 w=>
 rN π Z (Instr.build 198 #[(0,(.bool true)),(1,t1)]) w fun t2 w=>
 rN π Z (Instr.box 198 t2) w fun t3 w=>
 Q t3 w
def f96.an:An:=(.q (.sq .leaf .leaf))
theorem f96.calls {Z:PZ} {x0:Value} {w:World} {Q:PQ} (h:f96.sh Z x0 w Q):CallV π Z 96 #[x0] w Q:=
 cl Tryz.func96 f96.an [x0] (by kernel_rfl) (by kernel_rfl) h

def f97.sh (Z:PZ) (x0:Value) (w:World) (Q:PQ):Prop:=
 CallV π Z 148 #[x0,(.int .i64 4)] w fun t1 w=>
 rN π Z (convert 162 37 t1) w fun t2 w=>
 Q t2 w
def f97.an:An:=(.q (.sq .leaf .leaf))
theorem f97.calls {Z:PZ} {x0:Value} {w:World} {Q:PQ} (h:f97.sh Z x0 w Q):CallV π Z 97 #[x0] w Q:=
 cl Tryz.func97 f97.an [x0] (by kernel_rfl) (by kernel_rfl) h

def f98.sh (Z:PZ) (x0:Value) (w:World) (Q:PQ):Prop:=
 CallV π Z 148 #[x0,(.int .i64 1)] w fun t1 w=>
 rN π Z (convert 162 40 t1) w fun t2 w=>
 Q t2 w
def f98.an:An:=(.q (.sq .leaf .leaf))
theorem f98.calls {Z:PZ} {x0:Value} {w:World} {Q:PQ} (h:f98.sh Z x0 w Q):CallV π Z 98 #[x0] w Q:=
 cl Tryz.func98 f98.an [x0] (by kernel_rfl) (by kernel_rfl) h

