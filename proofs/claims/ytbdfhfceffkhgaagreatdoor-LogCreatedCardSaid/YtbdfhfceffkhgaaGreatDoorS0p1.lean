import Derived.Test.YtbdfhfceffkhgaaGreatDoorShBase
set_option linter.unusedVariables false
namespace Go.Proofs.YtbdfhfceffkhgaaGreatDoor
open Go.Sh
open Go.Instr (loadAt storeAt fieldAt indexAt extract)
open Tryz renaming prog → π
def f99.sh (Z:PZ) (x0:Value) (w:World) (Q:PQ):Prop:=
 CallV π Z 148 #[x0,(.int .i64 8)] w fun t1 w=>
 rN π Z (convert 162 2 t1) w fun t2 w=>
 Q t2 w
def f99.an:An:=(.q (.sq .leaf .leaf))
theorem f99.calls {Z:PZ} {x0:Value} {w:World} {Q:PQ} (h:f99.sh Z x0 w Q):CallV π Z 99 #[x0] w Q:=
 cl Tryz.func99 f99.an [x0] (by kernel_rfl) (by kernel_rfl) h

def f100.sh (Z:PZ) (x0 x1:Value) (w:World) (Q:PQ):Prop:=
 rN π Z (Instr.box 148 x0) w fun t1 w=>
 rN π Z (Instr.alloc 48 true (.tuple #[])) w fun t2 w=>
 CallV π Z 98 #[x1] w fun t3 w=>
 rN π Z (Instr.build 48 #[(0,t3)]) w fun t4 w=>
 rN π Z (Instr.alloc 48 true (.tuple #[])) w fun t5 w=>
 rO π Z (storeAt 48 t5 t4) w fun w=>
 rN π Z (fieldAt 48 t5 0) w fun t6 w=>
 rN π Z (loadAt 40 t6) w fun t7 w=>
 CallV π Z 112 #[t7] w fun t8 w=>
 rN π Z (Op.unary .not t8) w fun t9 w=>
 gW (t9) false (fun k=>rN π Z (fieldAt 148 t1 0) w k) (fun t10 w=>
 gW (t9) false (fun k=>rN π Z (loadAt 4 t10) w k) (fun t11 w=>
 gW (t9) false (fun k=>k (t11) w) (fun t12 w=>
 gW (t12) true (fun k=>rN π Z (fieldAt 48 t5 0) w k) (fun t13 w=>
 gW (t12) true (fun k=>rN π Z (loadAt 40 t13) w k) (fun t14 w=>
 gW (t12) true (fun k=>rN π Z (binOp .gtr 40 t14 (.int .i8 5)) w k) (fun t15 w=>
 gW (t9) false (fun k=>rN π Z (pickV t12 t15 (.bool false)) w k) (fun t16 w=>
 rN π Z (pickV t9 (.bool true) t16) w fun t17 w=>
 cV t17 (
 CallV π Z 149 #[x1,(.int .i64 40)] w fun t18 w=>
 rN π Z (Instr.build 48 #[]) w fun t19 w=>
 rO π Z (storeAt 48 t2 t19) w fun w=>
 ∃r_20,(do loadVar 48 (← asAddr t2):Sem Value).run π w=.ok r_20 w ∧
 Q r_20 w) (
 rN π Z (loadAt 148 t1) w fun t21 w=>
 rN π Z (fieldAt 48 t5 0) w fun t22 w=>
 rN π Z (loadAt 40 t22) w fun t23 w=>
 CallV π Z 150 #[t21,t23] w fun t24 w=>
 ∀j_25:World→Prop,(∀w:World,(Env →
 ∀j_26:World→Prop,(∀w:World,(Env →
 ∀j_27:World→Prop,(∀w:World,(Env →
 ∀j_28:World→Prop,(∀w:World,(Env →
 ∀j_29:World→Prop,(∀w:World,(Env →
 ∀j_30:World→Prop,(∀w:World,(Env →
 ∀j_31:World→Prop,(∀w:World,(Env →
 ∀j_32:World→Prop,(∀w:World,(Env →
 ∀j_33:World→Prop,(∀w:World,(Env →
 rN π Z (loadAt 48 t5) w fun t34 w=>
 rO π Z (storeAt 48 t2 t34) w fun w=>
 ∃r_35,(do loadVar 48 (← asAddr t2):Sem Value).run π w=.ok r_35 w ∧
 Q r_35 w) →
 j_33 w) →
 rN π Z (binOp .and 131 t24 (.int .u64 256)) w fun t36 w=>
 rN π Z (eqOp .neq 131 false true t36 (.int .u64 0)) w fun t37 w=>
 cV t37 (
 rN π Z (Instr.build 148 #[(0,(.bool true))]) w fun t38 w=>
 rN π Z (Instr.makeFunc (.func 100) #[t38] #[]) w fun t39 w=>
 CallV π Z 159 #[x1,(.int .i64 8),t39] w fun t40 w=>
 rN π Z (fieldAt 48 t5 10) w fun t41 w=>
 rO π Z (storeAt 46 t41 t40) w fun w=>
 j_33 w) (
 j_33 w)) →
 j_32 w) →
 rN π Z (binOp .and 131 t24 (.int .u64 128)) w fun t42 w=>
 rN π Z (eqOp .neq 131 false true t42 (.int .u64 0)) w fun t43 w=>
 cV t43 (
 CallV π Z 157 #[x1,(.int .i64 4),(.func (.func 158) #[] #[])] w fun t44 w=>
 rN π Z (fieldAt 48 t5 9) w fun t45 w=>
 rO π Z (storeAt 45 t45 t44) w fun w=>
 j_32 w) (
 j_32 w)) →
 j_31 w) →
 rN π Z (binOp .and 131 t24 (.int .u64 64)) w fun t46 w=>
 rN π Z (eqOp .neq 131 false true t46 (.int .u64 0)) w fun t47 w=>
 cV t47 (
 CallV π Z 155 #[x1] w fun t48 w=>
 rN π Z (fieldAt 48 t5 8) w fun t49 w=>
 rO π Z (storeAt 21 t49 t48) w fun w=>
 j_31 w) (
 j_31 w)) →
 j_30 w) →
 rN π Z (binOp .and 131 t24 (.int .u64 32)) w fun t50 w=>
 rN π Z (eqOp .neq 131 false true t50 (.int .u64 0)) w fun t51 w=>
 cV t51 (
 CallV π Z 99 #[x1] w fun t52 w=>
 rN π Z (fieldAt 48 t5 7) w fun t53 w=>
 rO π Z (storeAt 2 t53 t52) w fun w=>
 j_30 w) (
 j_30 w)) →
 j_29 w) →
 rN π Z (binOp .and 131 t24 (.int .u64 16)) w fun t54 w=>
 rN π Z (eqOp .neq 131 false true t54 (.int .u64 0)) w fun t55 w=>
 cV t55 (
 CallV π Z 156 #[x1] w fun t56 w=>
 rN π Z (fieldAt 48 t5 5) w fun t57 w=>
 rO π Z (storeAt 4 t57 t56) w fun w=>
 CallV π Z 156 #[x1] w fun t58 w=>
 rN π Z (fieldAt 48 t5 6) w fun t59 w=>
 rO π Z (storeAt 4 t59 t58) w fun w=>
 j_29 w) (
 j_29 w)) →
 j_28 w) →
 rN π Z (binOp .and 131 t24 (.int .u64 8)) w fun t60 w=>
 rN π Z (eqOp .neq 131 false true t60 (.int .u64 0)) w fun t61 w=>
 cV t61 (
 CallV π Z 155 #[x1] w fun t62 w=>
 rN π Z (fieldAt 48 t5 4) w fun t63 w=>
 rO π Z (storeAt 21 t63 t62) w fun w=>
 j_28 w) (
 j_28 w)) →
 j_27 w) →
 rN π Z (binOp .and 131 t24 (.int .u64 4)) w fun t64 w=>
 rN π Z (eqOp .neq 131 false true t64 (.int .u64 0)) w fun t65 w=>
 cV t65 (
 CallV π Z 153 #[x1,(.int .i64 4),(.func (.func 154) #[] #[])] w fun t66 w=>
 rN π Z (fieldAt 48 t5 3) w fun t67 w=>
 rO π Z (storeAt 44 t67 t66) w fun w=>
 j_27 w) (
 j_27 w)) →
 j_26 w) →
 rN π Z (binOp .and 131 t24 (.int .u64 2)) w fun t68 w=>
 rN π Z (eqOp .neq 131 false true t68 (.int .u64 0)) w fun t69 w=>
 cV t69 (
 CallV π Z 152 #[x1,(.int .i64 96)] w fun t70 w=>
 rN π Z (fieldAt 48 t5 2) w fun t71 w=>
 rO π Z (storeAt 43 t71 t70) w fun w=>
 j_26 w) (
 j_26 w)) →
 j_25 w) →
 rN π Z (binOp .and 131 t24 (.int .u64 1)) w fun t72 w=>
 rN π Z (eqOp .neq 131 false true t72 (.int .u64 0)) w fun t73 w=>
 cV t73 (
 CallV π Z 151 #[x1,(.int .i64 64)] w fun t74 w=>
 rN π Z (fieldAt 48 t5 1) w fun t75 w=>
 rO π Z (storeAt 9 t75 t74) w fun w=>
 j_25 w) (
 j_25 w))) w) w) w) w) w) w) w
def f100.an:An:=(.q (.q (.sq (.q (.cn (.q (.sq .leaf .leaf)) .leaf)) (.q (.sj [] (.q (.c)) (.sj [] (.q (.c)) (.sj [] (.q (.c)) (.sj [] (.q (.c)) (.sj [] (.q (.cn (.sq .leaf .leaf) .leaf)) (.sj [] (.q (.c)) (.sj [] (.q (.c)) (.sj [] (.q (.c)) (.sj [] (.q (.c)) (.sq .leaf .leaf))))))))))))))
theorem f100.calls {Z:PZ} {x0 x1:Value} {w:World} {Q:PQ} (h:f100.sh Z x0 x1 w Q):CallV π Z 100 #[x0,x1] w Q:=
 cl Tryz.func100 f100.an [x0,x1] (by kernel_rfl) (by kernel_rfl) h

def f101.sh (Z:PZ) (x0:Value) (w:World) (Q:PQ):Prop:=
 CallV π Z 160 #[x0] w fun t1 w=>
 gW (t1) true (fun k=>k (x0) w) (fun t2 w=>
 gW (t1) true (fun k=>runX π Z (nilChk t2) w k) (fun t3 w=>
 gW (t1) true (fun k=>rN π Z (fieldAt 198 t3 1) w k) (fun t4 w=>
 gW (t1) true (fun k=>rN π Z (loadAt 43 t4) w k) (fun t5 w=>
 gW (t1) true (fun k=>rN π Z (Builtin.len_ #[43] 3 #[t5]) w k) (fun t6 w=>
 gW (t1) true (fun k=>rN π Z (binOp .gtr 3 t6 (.int .i64 0)) w k) (fun t7 w=>
 rN π Z (pickV t1 t7 (.bool false)) w fun t8 w=>
 cV t8 (
 Q (.int .i64 13) w) (
 CallV π Z 161 #[x0] w fun t9 w=>
 Q t9 w)) w) w) w) w) w) w
def f101.an:An:=(.q (.sq (.q (.cn (.sq .leaf .leaf) .leaf)) (.sq .leaf .leaf)))
theorem f101.calls {Z:PZ} {x0:Value} {w:World} {Q:PQ} (h:f101.sh Z x0 w Q):CallV π Z 101 #[x0] w Q:=
 cl Tryz.func101 f101.an [x0] (by kernel_rfl) (by kernel_rfl) h

def f102.sh (Z:PZ) (x0 x1:Value) (w:World) (Q:PQ):Prop:=
 rN π Z (Builtin.len_ #[44] 3 #[x0]) w fun t1 w=>
 rN π Z (Builtin.len_ #[44] 3 #[x1]) w fun t2 w=>
 rN π Z (eqOp .neq 3 false false t1 t2) w fun t3 w=>
 cV t3 (
 Q (.bool false) w) (
 ∃J_4:Nat→PQ,(∃m,J_4 m (.int .i64 0) w) ∧
 ∀m_4,∀t5:Value,∀w:World,J_4 m_4 t5 w→Env →
 rN π Z (Builtin.len_ #[44] 3 #[x0]) w fun t6 w=>
 rN π Z (binOp .lss 3 t5 t6) w fun t7 w=>
 cV t7 (
 Drawn w fun w=>
 pU π (indexAt 44 x0 t5) fun t8=>
 rD π (loadAt 140 t8) w fun t9=>
 pU π (indexAt 44 x1 t5) fun t10=>
 rD π (loadAt 140 t10) w fun t11=>
 pU π (eqOp .neq 140 false false t9 t11) fun t12=>
 cV t12 (
 Q (.bool false) w) (
 rN π Z (binOp .add 3 t5 (.int .i64 1)) w fun t13 w=>
 ∃n_4,n_4 < m_4∧J_4 n_4 t13 w)) (
 Q (.bool true) w))
def f102.an:An:=(.q (.sq (.q (.cn (.sq .leaf .leaf) .leaf)) (.sq (.q (.bl (.lp [5] (.sq (.q (.c)) (.sq (.bl (.sq (.dr (pl [0,4,8,13,16,20,24,29,32] .fin)) (.cn (.sq .leaf .leaf) .leaf))) .leaf))))) (.sq .leaf .leaf))))
theorem f102.calls {Z:PZ} {x0 x1:Value} {w:World} {Q:PQ} (h:f102.sh Z x0 x1 w Q):CallV π Z 102 #[x0,x1] w Q:=
 cl Tryz.func102 f102.an [x0,x1] (by kernel_rfl) (by kernel_rfl) h

def f103.sh (Z:PZ) (x0 x1:Value) (w:World) (Q:PQ):Prop:=
 rN π Z (Builtin.len_ #[45] 3 #[x0]) w fun t1 w=>
 rN π Z (Builtin.len_ #[45] 3 #[x1]) w fun t2 w=>
 rN π Z (eqOp .neq 3 false false t1 t2) w fun t3 w=>
 cV t3 (
 Q (.bool false) w) (
 ∃J_4:Nat→PQ,(∃m,J_4 m (.int .i64 0) w) ∧
 ∀m_4,∀t5:Value,∀w:World,J_4 m_4 t5 w→Env →
 rN π Z (Builtin.len_ #[45] 3 #[x0]) w fun t6 w=>
 rN π Z (binOp .lss 3 t5 t6) w fun t7 w=>
 cV t7 (
 Drawn w fun w=>
 pU π (indexAt 45 x0 t5) fun t8=>
 rD π (loadAt 138 t8) w fun t9=>
 pU π (indexAt 45 x1 t5) fun t10=>
 rD π (loadAt 138 t10) w fun t11=>
 pU π (eqOp .neq 138 false false t9 t11) fun t12=>
 cV t12 (
 Q (.bool false) w) (
 rN π Z (binOp .add 3 t5 (.int .i64 1)) w fun t13 w=>
 ∃n_4,n_4 < m_4∧J_4 n_4 t13 w)) (
 Q (.bool true) w))
def f103.an:An:=(.q (.sq (.q (.cn (.sq .leaf .leaf) .leaf)) (.sq (.q (.bl (.lp [5] (.sq (.q (.c)) (.sq (.bl (.sq (.dr (pl [0,4,8,13,16,20,24,29,32] .fin)) (.cn (.sq .leaf .leaf) .leaf))) .leaf))))) (.sq .leaf .leaf))))
theorem f103.calls {Z:PZ} {x0 x1:Value} {w:World} {Q:PQ} (h:f103.sh Z x0 x1 w Q):CallV π Z 103 #[x0,x1] w Q:=
 cl Tryz.func103 f103.an [x0,x1] (by kernel_rfl) (by kernel_rfl) h

def f104.sh (Z:PZ) (x0:Value) (w:World) (Q:PQ):Prop:=
 rN π Z (eqOp .eql 43 false true x0 (.slice none 0 0)) w fun t1 w=>
 cV t1 (
 Q (.slice none 0 0) w) (
 rN π Z (Instr.buildSlice 43 0 #[]) w fun t2 w=>
 rN π Z (Builtin.append_ #[43,43] 43 #[t2,x0]) w fun t3 w=>
 Q t3 w)
def f104.an:An:=(.q (.sq (.q (.cn (.sq .leaf .leaf) .leaf)) (.sq .leaf .leaf)))
theorem f104.calls {Z:PZ} {x0:Value} {w:World} {Q:PQ} (h:f104.sh Z x0 w Q):CallV π Z 104 #[x0] w Q:=
 cl Tryz.func104 f104.an [x0] (by kernel_rfl) (by kernel_rfl) h

def f105.sh (Z:PZ) (x0:Value) (w:World) (Q:PQ):Prop:=
 rN π Z (eqOp .eql 44 false true x0 (.slice none 0 0)) w fun t1 w=>
 cV t1 (
 Q (.slice none 0 0) w) (
 rN π Z (Instr.buildSlice 44 0 #[]) w fun t2 w=>
 rN π Z (Builtin.append_ #[44,44] 44 #[t2,x0]) w fun t3 w=>
 Q t3 w)
def f105.an:An:=(.q (.sq (.q (.cn (.sq .leaf .leaf) .leaf)) (.sq .leaf .leaf)))
theorem f105.calls {Z:PZ} {x0:Value} {w:World} {Q:PQ} (h:f105.sh Z x0 w Q):CallV π Z 105 #[x0] w Q:=
 cl Tryz.func105 f105.an [x0] (by kernel_rfl) (by kernel_rfl) h

def f106.sh (Z:PZ) (x0:Value) (w:World) (Q:PQ):Prop:=
 rN π Z (eqOp .eql 45 false true x0 (.slice none 0 0)) w fun t1 w=>
 cV t1 (
 Q (.slice none 0 0) w) (
 rN π Z (Instr.buildSlice 45 0 #[]) w fun t2 w=>
 rN π Z (Builtin.append_ #[45,45] 45 #[t2,x0]) w fun t3 w=>
 Q t3 w)
def f106.an:An:=(.q (.sq (.q (.cn (.sq .leaf .leaf) .leaf)) (.sq .leaf .leaf)))
theorem f106.calls {Z:PZ} {x0:Value} {w:World} {Q:PQ} (h:f106.sh Z x0 w Q):CallV π Z 106 #[x0] w Q:=
 cl Tryz.func106 f106.an [x0] (by kernel_rfl) (by kernel_rfl) h

def f107.sh (Z:PZ) (x0:Value) (w:World) (Q:PQ):Prop:=
 rN π Z (eqOp .eql 46 false true x0 (.slice none 0 0)) w fun t1 w=>
 cV t1 (
 Q (.slice none 0 0) w) (
 rN π Z (Instr.buildSlice 46 0 #[]) w fun t2 w=>
 rN π Z (Builtin.append_ #[46,46] 46 #[t2,x0]) w fun t3 w=>
 Q t3 w)
def f107.an:An:=(.q (.sq (.q (.cn (.sq .leaf .leaf) .leaf)) (.sq .leaf .leaf)))
theorem f107.calls {Z:PZ} {x0:Value} {w:World} {Q:PQ} (h:f107.sh Z x0 w Q):CallV π Z 107 #[x0] w Q:=
 cl Tryz.func107 f107.an [x0] (by kernel_rfl) (by kernel_rfl) h

def f108.sh (Z:PZ) (x0:Value) (w:World) (Q:PQ):Prop:=
 ∀j_1:World→Prop,(∀w:World,(Env →
 Q (.string { data:=#[] }) w) →
 j_1 w) →
 rN π Z (eqOp .eql 40 false true x0 (.int .i8 1)) w fun t2 w=>
 cV t2 (
 Q (.string { data:=#[112,100,97,102,115,119] }) w) (
 ∀j_3:PQ,(∀t4:Value,∀w:World,(Env →
 cV t4 (
 Q (.string { data:=#[112,118,115,119] }) w) (
 rN π Z (eqOp .eql 40 false true x0 (.int .i8 3)) w fun t5 w=>
 cV t5 (
 Q (.string { data:=#[112,100,118,115,119] }) w) (
 rN π Z (eqOp .eql 40 false true x0 (.int .i8 4)) w fun t6 w=>
 cV t6 (
 Q (.string { data:=#[112,97,118,115,119] }) w) (
 rN π Z (eqOp .eql 40 false true x0 (.int .i8 6)) w fun t7 w=>
 cV t7 (
 Q (.string { data:=#[115,119,111] }) w) (
 rN π Z (eqOp .eql 40 false true x0 (.int .i8 7)) w fun t8 w=>
 cV t8 (
 Q (.string { data:=#[116] }) w) (
 rN π Z (eqOp .eql 40 false true x0 (.int .i8 8)) w fun t9 w=>
 cV t9 (
 Q (.string { data:=#[115] }) w) (
 ∀j_10:PQ,(∀t11:Value,∀w:World,(Env →
 cV t11 (
 Q (.string { data:=#[112,115,119] }) w) (
 j_1 w)) →
 j_10 t11 w) →
 rN π Z (eqOp .eql 40 false true x0 (.int .i8 9)) w fun t12 w=>
 cV t12 (
 j_10 t12 w) (
 rN π Z (eqOp .eql 40 false true x0 (.int .i8 10)) w fun t13 w=>
 cV t13 (
 j_10 t13 w) (
 rN π Z (eqOp .eql 40 false true x0 (.int .i8 11)) w fun t14 w=>
 cV t14 (
 j_10 t14 w) (
 rN π Z (eqOp .eql 40 false true x0 (.int .i8 12)) w fun t15 w=>
 j_10 t15 w)))))))))) →
 j_3 t4 w) →
 rN π Z (eqOp .eql 40 false true x0 (.int .i8 2)) w fun t16 w=>
 cV t16 (
 j_3 t16 w) (
 rN π Z (eqOp .eql 40 false true x0 (.int .i8 5)) w fun t17 w=>
 j_3 t17 w))
def f108.an:An:=(.q (.sj [] (.q (.bl (.q (.cn (.sq .leaf .leaf) (.sj [6] (.q (.c)) (.cn (.sq .leaf .leaf) (.q (.cn (.sq .leaf .leaf) (.q (.cn (.sq .leaf .leaf) (.q (.cn (.sq .leaf .leaf) (.q (.cn (.sq .leaf .leaf) (.q (.cn (.sq .leaf .leaf) (.sj [19] (.q (.cn .leaf (.q (.cn .leaf (.q (.c)))))) (.cn (.sq .leaf .leaf) .leaf)))))))))))))))))) (.sq .leaf .leaf)))
theorem f108.calls {Z:PZ} {x0:Value} {w:World} {Q:PQ} (h:f108.sh Z x0 w Q):CallV π Z 108 #[x0] w Q:=
 cl Tryz.func108 f108.an [x0] (by kernel_rfl) (by kernel_rfl) h

def f109.sh (Z:PZ) (x0 x1:Value) (w:World) (Q:PQ):Prop:=
 ∃J_1:Nat→PQ,(∃m,J_1 m (.int .i64 0) w) ∧
 ∀m_1,∀t2:Value,∀w:World,J_1 m_1 t2 w→Env →
 rN π Z (Builtin.len_ #[9] 3 #[x0]) w fun t3 w=>
 rN π Z (binOp .lss 3 t2 t3) w fun t4 w=>
 cV t4 (
 rN π Z (Instr.index 9 x0 t2) w fun t5 w=>
 rN π Z (eqOp .eql 5 false false t5 x1) w fun t6 w=>
 cV t6 (
 Q (.bool true) w) (
 rN π Z (binOp .add 3 t2 (.int .i64 1)) w fun t7 w=>
 ∃n_1,n_1 < m_1∧J_1 n_1 t7 w)) (
 Q (.bool false) w)
def f109.an:An:=(.q (.sq (.q (.bl (.lp [5] (.sq (.q (.c)) (.sq (.bl (.q (.cn (.sq .leaf .leaf) .leaf))) .leaf))))) (.sq .leaf .leaf)))
theorem f109.calls {Z:PZ} {x0 x1:Value} {w:World} {Q:PQ} (h:f109.sh Z x0 x1 w Q):CallV π Z 109 #[x0,x1] w Q:=
 cl Tryz.func109 f109.an [x0,x1] (by kernel_rfl) (by kernel_rfl) h

def f110.sh (Z:PZ) (x0:Value) (w:World) (Q:PQ):Prop:=
 ∃J_1:Nat→PQ,(∃m,J_1 m (.int .i64 0) w) ∧
 ∀m_1,∀t2:Value,∀w:World,J_1 m_1 t2 w→Env →
 rN π Z (Builtin.len_ #[44] 3 #[x0]) w fun t3 w=>
 rN π Z (binOp .lss 3 t2 t3) w fun t4 w=>
 cV t4 (
 rN π Z (indexAt 44 x0 t2) w fun t5 w=>
 rN π Z (fieldAt 140 t5 1) w fun t6 w=>
 rN π Z (fieldAt 138 t6 0) w fun t7 w=>
 rN π Z (loadAt 9 t7) w fun t8 w=>
 rN π Z (Builtin.len_ #[9] 3 #[t8]) w fun t9 w=>
 rN π Z (binOp .gtr 3 t9 (.int .i64 24)) w fun t10 w=>
 gW (t10) false (fun k=>k (x0) w) (fun t11 w=>
 gW (t10) false (fun k=>k (t2) w) (fun t12 w=>
 gW (t10) false (fun k=>rN π Z (indexAt 44 t11 t12) w k) (fun t13 w=>
 gW (t10) false (fun k=>rN π Z (fieldAt 140 t13 1) w k) (fun t14 w=>
 gW (t10) false (fun k=>rN π Z (fieldAt 138 t14 1) w k) (fun t15 w=>
 gW (t10) false (fun k=>rN π Z (loadAt 9 t15) w k) (fun t16 w=>
 gW (t10) false (fun k=>rN π Z (Builtin.len_ #[9] 3 #[t16]) w k) (fun t17 w=>
 gW (t10) false (fun k=>rN π Z (binOp .gtr 3 t17 (.int .i64 24)) w k) (fun t18 w=>
 rN π Z (pickV t10 (.bool true) t18) w fun t19 w=>
 cV t19 (
 Q (.bool false) w) (
 rN π Z (binOp .add 3 t2 (.int .i64 1)) w fun t20 w=>
 ∃n_1,n_1 < m_1∧J_1 n_1 t20 w)) w) w) w) w) w) w) w) w) (
 rN π Z (Builtin.len_ #[44] 3 #[x0]) w fun t21 w=>
 rN π Z (binOp .leq 3 t21 (.int .i64 4)) w fun t22 w=>
 Q t22 w)
def f110.an:An:=(.q (.sq (.q (.bl (.lp [3] (.sq (.q (.c)) (.sq (.bl (.q (.cn (.sq .leaf .leaf) .leaf))) .leaf))))) (.sq .leaf .leaf)))
theorem f110.calls {Z:PZ} {x0:Value} {w:World} {Q:PQ} (h:f110.sh Z x0 w Q):CallV π Z 110 #[x0] w Q:=
 cl Tryz.func110 f110.an [x0] (by kernel_rfl) (by kernel_rfl) h

def f111.sh (Z:PZ) (x0:Value) (w:World) (Q:PQ):Prop:=
 ∃J_1:Nat→PQ,(∃m,J_1 m (.int .i64 0) w) ∧
 ∀m_1,∀t2:Value,∀w:World,J_1 m_1 t2 w→Env →
 rN π Z (Builtin.len_ #[45] 3 #[x0]) w fun t3 w=>
 rN π Z (binOp .lss 3 t2 t3) w fun t4 w=>
 cV t4 (
 rN π Z (indexAt 45 x0 t2) w fun t5 w=>
 rN π Z (fieldAt 138 t5 0) w fun t6 w=>
 rN π Z (loadAt 9 t6) w fun t7 w=>
 rN π Z (Builtin.len_ #[9] 3 #[t7]) w fun t8 w=>
 rN π Z (binOp .gtr 3 t8 (.int .i64 24)) w fun t9 w=>
 gW (t9) false (fun k=>k (x0) w) (fun t10 w=>
 gW (t9) false (fun k=>k (t2) w) (fun t11 w=>
 gW (t9) false (fun k=>rN π Z (indexAt 45 t10 t11) w k) (fun t12 w=>
 gW (t9) false (fun k=>rN π Z (fieldAt 138 t12 1) w k) (fun t13 w=>
 gW (t9) false (fun k=>rN π Z (loadAt 9 t13) w k) (fun t14 w=>
 gW (t9) false (fun k=>rN π Z (Builtin.len_ #[9] 3 #[t14]) w k) (fun t15 w=>
 gW (t9) false (fun k=>rN π Z (binOp .gtr 3 t15 (.int .i64 24)) w k) (fun t16 w=>
 rN π Z (pickV t9 (.bool true) t16) w fun t17 w=>
 cV t17 (
 Q (.bool false) w) (
 rN π Z (binOp .add 3 t2 (.int .i64 1)) w fun t18 w=>
 ∃n_1,n_1 < m_1∧J_1 n_1 t18 w)) w) w) w) w) w) w) w) (
 rN π Z (Builtin.len_ #[45] 3 #[x0]) w fun t19 w=>
 rN π Z (binOp .leq 3 t19 (.int .i64 4)) w fun t20 w=>
 Q t20 w)
def f111.an:An:=(.q (.sq (.q (.bl (.lp [3] (.sq (.q (.c)) (.sq (.bl (.q (.cn (.sq .leaf .leaf) .leaf))) .leaf))))) (.sq .leaf .leaf)))
theorem f111.calls {Z:PZ} {x0:Value} {w:World} {Q:PQ} (h:f111.sh Z x0 w Q):CallV π Z 111 #[x0] w Q:=
 cl Tryz.func111 f111.an [x0] (by kernel_rfl) (by kernel_rfl) h

def f112.sh (Z:PZ) (x0:Value) (w:World) (Q:PQ):Prop:=
 rN π Z (binOp .geq 40 x0 (.int .i8 1)) w fun t1 w=>
 gW (t1) true (fun k=>k (x0) w) (fun t2 w=>
 gW (t1) true (fun k=>rN π Z (binOp .leq 40 t2 (.int .i8 12)) w k) (fun t3 w=>
 rN π Z (pickV t1 t3 (.bool false)) w fun t4 w=>
 Q t4 w) w) w
def f112.an:An:=(.q (.sq .leaf .leaf))
theorem f112.calls {Z:PZ} {x0:Value} {w:World} {Q:PQ} (h:f112.sh Z x0 w Q):CallV π Z 112 #[x0] w Q:=
 cl Tryz.func112 f112.an [x0] (by kernel_rfl) (by kernel_rfl) h

def f113.sh (Z:PZ) (x0:Value) (w:World) (Q:PQ):Prop:=
 rN π Z (Instr.box 48 x0) w fun t1 w=>
 rN π Z (fieldAt 48 t1 0) w fun t2 w=>
 rN π Z (loadAt 40 t2) w fun t3 w=>
 rN π Z (indexAt 209 (.pointer (some ⟨0,0,none⟩)) t3) w fun t4 w=>
 rN π Z (loadAt 131 t4) w fun t5 w=>
 rN π Z (Instr.alloc 131 true (.tuple #[])) w fun t6 w=>
 rO π Z (storeAt 131 t6 t5) w fun w=>
 rN π Z (Instr.makeFunc (.func 162) #[] #[t6]) w fun t7 w=>
 ∀j_8:World→Prop,(∀w:World,(Env →
 rN π Z (fieldAt 48 t1 3) w fun t9 w=>
 rN π Z (loadAt 44 t9) w fun t10 w=>
 rN π Z (Builtin.len_ #[44] 3 #[t10]) w fun t11 w=>
 ∃J_12:Nat→PQ,(∃m,J_12 m (.int .i64 0) w) ∧
 ∀m_12,∀t13:Value,∀w:World,J_12 m_12 t13 w→Env →
 rN π Z (binOp .lss 3 t13 t11) w fun t14 w=>
 cV t14 (
 rN π Z (indexAt 44 t10 t13) w fun t15 w=>
 rN π Z (loadAt 140 t15) w fun t16 w=>
 rN π Z (Instr.alloc 140 true (.tuple #[])) w fun t17 w=>
 rO π Z (storeAt 140 t17 t16) w fun w=>
 rN π Z (fieldAt 140 t17 1) w fun t18 w=>
 rN π Z (loadAt 138 t18) w fun t19 w=>
 CallV π Z 163 #[t19] w fun t20 w=>
 rN π Z (Op.unary .not t20) w fun t21 w=>
 cV t21 (
 Q (.bool false) w) (
 rN π Z (binOp .add 3 t13 (.int .i64 1)) w fun t22 w=>
 ∃n_12,n_12 < m_12∧J_12 n_12 t22 w)) (
 rN π Z (fieldAt 48 t1 9) w fun t23 w=>
 rN π Z (loadAt 45 t23) w fun t24 w=>
 CallV π Z 164 #[t24,(.func (.func 165) #[] #[])] w fun t25 w=>
 rN π Z (Op.unary .not t25) w fun t26 w=>
 Q t26 w)) →
 j_8 w) →
 ∀j_27:PQ,(∀t28:Value,∀w:World,(Env →
 cV t28 (
 Q (.bool false) w) (
 ∀j_29:PQ,(∀t30:Value,∀w:World,(Env →
 cV t30 (
 Q (.bool false) w) (
 ∀j_31:PQ,(∀t32:Value,∀w:World,(Env →
 cV t32 (
 Q (.bool false) w) (
 ∀j_33:PQ,(∀t34:Value,∀w:World,(Env →
 cV t34 (
 Q (.bool false) w) (
 j_8 w)) →
 j_33 t34 w) →
 rN π Z (fieldAt 48 t1 7) w fun t35 w=>
 rN π Z (loadAt 2 t35) w fun t36 w=>
 rN π Z (binOp .lss 2 t36 (.int .i64 0)) w fun t37 w=>
 cV t37 (
 j_33 t37 w) (
 rN π Z (fieldAt 48 t1 0) w fun t38 w=>
 rN π Z (loadAt 40 t38) w fun t39 w=>
 rN π Z (eqOp .eql 40 false true t39 (.int .i8 8)) w fun t40 w=>
 gW (t40) true (fun k=>rN π Z (fieldAt 48 t1 7) w k) (fun t41 w=>
 gW (t40) true (fun k=>rN π Z (loadAt 2 t41) w k) (fun t42 w=>
 gW (t40) true (fun k=>rN π Z (eqOp .eql 2 false true t42 (.int .i64 0)) w k) (fun t43 w=>
 rN π Z (pickV t40 t43 (.bool false)) w fun t44 w=>
 cV t44 (
 j_33 t44 w) (
 runX π Z (callVal t7 #[(.int .u64 64)]) w fun t45 w=>
 gW (t45) true (fun k=>rN π Z (fieldAt 48 t1 8) w k) (fun t46 w=>
 gW (t45) true (fun k=>rN π Z (loadAt 21 t46) w k) (fun t47 w=>
 gW (t45) true (fun k=>rN π Z (binOp .lss 21 t47 (.int .i32 1)) w k) (fun t48 w=>
 gW (t45) true (fun k=>k (t48) w) (fun t49 w=>
 gW (t49) false (fun k=>rN π Z (fieldAt 48 t1 8) w k) (fun t50 w=>
 gW (t49) false (fun k=>rN π Z (loadAt 21 t50) w k) (fun t51 w=>
 gW (t49) false (fun k=>rN π Z (binOp .gtr 21 t51 (.int .i32 1000)) w k) (fun t52 w=>
 gW (t45) true (fun k=>rN π Z (pickV t49 (.bool true) t52) w k) (fun t53 w=>
 rN π Z (pickV t45 t53 (.bool false)) w fun t54 w=>
 cV t54 (
 j_33 t54 w) (
 runX π Z (callVal t7 #[(.int .u64 256)]) w fun t55 w=>
 gW (t55) true (fun k=>rN π Z (fieldAt 48 t1 10) w k) (fun t56 w=>
 gW (t55) true (fun k=>rN π Z (loadAt 46 t56) w k) (fun t57 w=>
 gW (t55) true (fun k=>rN π Z (Builtin.len_ #[46] 3 #[t57]) w k) (fun t58 w=>
 gW (t55) true (fun k=>rN π Z (eqOp .eql 3 false true t58 (.int .i64 0)) w k) (fun t59 w=>
 rN π Z (pickV t55 t59 (.bool false)) w fun t60 w=>
 j_33 t60 w) w) w) w) w)) w) w) w) w) w) w) w) w)) w) w) w))) →
 j_31 t32 w) →
 rN π Z (fieldAt 48 t1 1) w fun t61 w=>
 rN π Z (loadAt 9 t61) w fun t62 w=>
 rN π Z (Builtin.len_ #[9] 3 #[t62]) w fun t63 w=>
 rN π Z (binOp .gtr 3 t63 (.int .i64 64)) w fun t64 w=>
 cV t64 (
 j_31 t64 w) (
 rN π Z (fieldAt 48 t1 2) w fun t65 w=>
 rN π Z (loadAt 43 t65) w fun t66 w=>
 rN π Z (Builtin.len_ #[43] 3 #[t66]) w fun t67 w=>
 rN π Z (binOp .gtr 3 t67 (.int .i64 96)) w fun t68 w=>
 cV t68 (
 j_31 t68 w) (
 rN π Z (fieldAt 48 t1 3) w fun t69 w=>
 rN π Z (loadAt 44 t69) w fun t70 w=>
 rN π Z (Builtin.len_ #[44] 3 #[t70]) w fun t71 w=>
 rN π Z (binOp .gtr 3 t71 (.int .i64 4)) w fun t72 w=>
 cV t72 (
 j_31 t72 w) (
 rN π Z (fieldAt 48 t1 9) w fun t73 w=>
 rN π Z (loadAt 45 t73) w fun t74 w=>
 rN π Z (Builtin.len_ #[45] 3 #[t74]) w fun t75 w=>
 rN π Z (binOp .gtr 3 t75 (.int .i64 4)) w fun t76 w=>
 cV t76 (
 j_31 t76 w) (
 rN π Z (fieldAt 48 t1 10) w fun t77 w=>
 rN π Z (loadAt 46 t77) w fun t78 w=>
 rN π Z (Builtin.len_ #[46] 3 #[t78]) w fun t79 w=>
 rN π Z (binOp .gtr 3 t79 (.int .i64 8)) w fun t80 w=>
 j_31 t80 w)))))) →
 j_29 t30 w) →
 runX π Z (callVal t7 #[(.int .u64 16)]) w fun t81 w=>
 rN π Z (Op.unary .not t81) w fun t82 w=>
 gW (t82) true (fun k=>rN π Z (fieldAt 48 t1 5) w k) (fun t83 w=>
 gW (t82) true (fun k=>rN π Z (loadAt 4 t83) w k) (fun t84 w=>
 gW (t82) true (fun k=>k (t84) w) (fun t85 w=>
 gW (t85) false (fun k=>rN π Z (fieldAt 48 t1 6) w k) (fun t86 w=>
 gW (t85) false (fun k=>rN π Z (loadAt 4 t86) w k) (fun t87 w=>
 gW (t82) true (fun k=>rN π Z (pickV t85 (.bool true) t87) w k) (fun t88 w=>
 rN π Z (pickV t82 t88 (.bool false)) w fun t89 w=>
 cV t89 (
 j_29 t89 w) (
 runX π Z (callVal t7 #[(.int .u64 32)]) w fun t90 w=>
 rN π Z (Op.unary .not t90) w fun t91 w=>
 gW (t91) true (fun k=>rN π Z (fieldAt 48 t1 7) w k) (fun t92 w=>
 gW (t91) true (fun k=>rN π Z (loadAt 2 t92) w k) (fun t93 w=>
 gW (t91) true (fun k=>rN π Z (eqOp .neq 2 false true t93 (.int .i64 0)) w k) (fun t94 w=>
 rN π Z (pickV t91 t94 (.bool false)) w fun t95 w=>
 cV t95 (
 j_29 t95 w) (
 runX π Z (callVal t7 #[(.int .u64 64)]) w fun t96 w=>
 rN π Z (Op.unary .not t96) w fun t97 w=>
 gW (t97) true (fun k=>rN π Z (fieldAt 48 t1 8) w k) (fun t98 w=>
 gW (t97) true (fun k=>rN π Z (loadAt 21 t98) w k) (fun t99 w=>
 gW (t97) true (fun k=>rN π Z (eqOp .neq 21 false true t99 (.int .i32 0)) w k) (fun t100 w=>
 rN π Z (pickV t97 t100 (.bool false)) w fun t101 w=>
 cV t101 (
 j_29 t101 w) (
 runX π Z (callVal t7 #[(.int .u64 128)]) w fun t102 w=>
 rN π Z (Op.unary .not t102) w fun t103 w=>
 gW (t103) true (fun k=>rN π Z (fieldAt 48 t1 9) w k) (fun t104 w=>
 gW (t103) true (fun k=>rN π Z (loadAt 45 t104) w k) (fun t105 w=>
 gW (t103) true (fun k=>rN π Z (Builtin.len_ #[45] 3 #[t105]) w k) (fun t106 w=>
 gW (t103) true (fun k=>rN π Z (binOp .gtr 3 t106 (.int .i64 0)) w k) (fun t107 w=>
 rN π Z (pickV t103 t107 (.bool false)) w fun t108 w=>
 cV t108 (
 j_29 t108 w) (
 runX π Z (callVal t7 #[(.int .u64 256)]) w fun t109 w=>
 rN π Z (Op.unary .not t109) w fun t110 w=>
 gW (t110) true (fun k=>rN π Z (fieldAt 48 t1 10) w k) (fun t111 w=>
 gW (t110) true (fun k=>rN π Z (loadAt 46 t111) w k) (fun t112 w=>
 gW (t110) true (fun k=>rN π Z (Builtin.len_ #[46] 3 #[t112]) w k) (fun t113 w=>
 gW (t110) true (fun k=>rN π Z (binOp .gtr 3 t113 (.int .i64 0)) w k) (fun t114 w=>
 rN π Z (pickV t110 t114 (.bool false)) w fun t115 w=>
 j_29 t115 w) w) w) w) w)) w) w) w) w)) w) w) w)) w) w) w)) w) w) w) w) w) w)) →
 j_27 t28 w) →
 runX π Z (callVal t7 #[(.int .u64 1)]) w fun t116 w=>
 rN π Z (Op.unary .not t116) w fun t117 w=>
 gW (t117) true (fun k=>rN π Z (fieldAt 48 t1 1) w k) (fun t118 w=>
 gW (t117) true (fun k=>rN π Z (loadAt 9 t118) w k) (fun t119 w=>
 gW (t117) true (fun k=>rN π Z (eqOp .neq 9 false true t119 (.string { data:=#[] })) w k) (fun t120 w=>
 rN π Z (pickV t117 t120 (.bool false)) w fun t121 w=>
 cV t121 (
 j_27 t121 w) (
 runX π Z (callVal t7 #[(.int .u64 2)]) w fun t122 w=>
 rN π Z (Op.unary .not t122) w fun t123 w=>
 gW (t123) true (fun k=>rN π Z (fieldAt 48 t1 2) w k) (fun t124 w=>
 gW (t123) true (fun k=>rN π Z (loadAt 43 t124) w k) (fun t125 w=>
 gW (t123) true (fun k=>rN π Z (Builtin.len_ #[43] 3 #[t125]) w k) (fun t126 w=>
 gW (t123) true (fun k=>rN π Z (binOp .gtr 3 t126 (.int .i64 0)) w k) (fun t127 w=>
 rN π Z (pickV t123 t127 (.bool false)) w fun t128 w=>
 cV t128 (
 j_27 t128 w) (
 runX π Z (callVal t7 #[(.int .u64 4)]) w fun t129 w=>
 rN π Z (Op.unary .not t129) w fun t130 w=>
 gW (t130) true (fun k=>rN π Z (fieldAt 48 t1 3) w k) (fun t131 w=>
 gW (t130) true (fun k=>rN π Z (loadAt 44 t131) w k) (fun t132 w=>
 gW (t130) true (fun k=>rN π Z (Builtin.len_ #[44] 3 #[t132]) w k) (fun t133 w=>
 gW (t130) true (fun k=>rN π Z (binOp .gtr 3 t133 (.int .i64 0)) w k) (fun t134 w=>
 rN π Z (pickV t130 t134 (.bool false)) w fun t135 w=>
 cV t135 (
 j_27 t135 w) (
 runX π Z (callVal t7 #[(.int .u64 8)]) w fun t136 w=>
 rN π Z (Op.unary .not t136) w fun t137 w=>
 gW (t137) true (fun k=>rN π Z (fieldAt 48 t1 4) w k) (fun t138 w=>
 gW (t137) true (fun k=>rN π Z (loadAt 21 t138) w k) (fun t139 w=>
 gW (t137) true (fun k=>rN π Z (eqOp .neq 21 false true t139 (.int .i32 0)) w k) (fun t140 w=>
 rN π Z (pickV t137 t140 (.bool false)) w fun t141 w=>
 j_27 t141 w) w) w) w)) w) w) w) w)) w) w) w) w)) w) w) w
def f113.an:An:=(.q (.q (.q (.sj [] (.bl (.sj [12] (.q (.cn .leaf (.q (.cn .leaf (.q (.c)))))) (.cn (.sq .leaf .leaf) (.sj [47] (.q (.cn .leaf (.q (.cn .leaf (.q (.cn .leaf (.q (.c)))))))) (.cn (.sq .leaf .leaf) (.sj [93] (.q (.cn .leaf (.q (.cn .leaf (.q (.cn .leaf (.q (.c)))))))) (.cn (.sq .leaf .leaf) (.sj [114] (.q (.cn .leaf (.q (.cn .leaf (.q (.c)))))) (.cn (.sq .leaf .leaf) .leaf))))))))) (.sq (.q (.bl (.lp [149] (.q (.sq (.c) (.sq (.bl (.q (.q (.cn (.sq .leaf .leaf) .leaf)))) .leaf)))))) (.sq .leaf .leaf))))))
theorem f113.calls {Z:PZ} {x0:Value} {w:World} {Q:PQ} (h:f113.sh Z x0 w Q):CallV π Z 113 #[x0] w Q:=
 cl Tryz.func113 f113.an [x0] (by kernel_rfl) (by kernel_rfl) h

def f114.sh (Z:PZ) (x0:Value) (w:World) (Q:PQ):Prop:=
 rN π Z (Instr.box 48 x0) w fun t1 w=>
 rN π Z (fieldAt 48 t1 0) w fun t2 w=>
 rN π Z (loadAt 40 t2) w fun t3 w=>
 rN π Z (binOp .geq 40 t3 (.int .i8 1)) w fun t4 w=>
 gW (t4) true (fun k=>rN π Z (fieldAt 48 t1 0) w k) (fun t5 w=>
 gW (t4) true (fun k=>rN π Z (loadAt 40 t5) w k) (fun t6 w=>
 gW (t4) true (fun k=>rN π Z (binOp .leq 40 t6 (.int .i8 5)) w k) (fun t7 w=>
 rN π Z (pickV t4 t7 (.bool false)) w fun t8 w=>
 gW (t8) true (fun k=>rN π Z (fieldAt 48 t1 7) w k) (fun t9 w=>
 gW (t8) true (fun k=>rN π Z (loadAt 2 t9) w k) (fun t10 w=>
 gW (t8) true (fun k=>rN π Z (eqOp .eql 2 false true t10 (.int .i64 0)) w k) (fun t11 w=>
 rN π Z (pickV t8 t11 (.bool false)) w fun t12 w=>
 gW (t12) true (fun k=>rN π Z (fieldAt 48 t1 9) w k) (fun t13 w=>
 gW (t12) true (fun k=>rN π Z (loadAt 45 t13) w k) (fun t14 w=>
 gW (t12) true (fun k=>rN π Z (Builtin.len_ #[45] 3 #[t14]) w k) (fun t15 w=>
 gW (t12) true (fun k=>rN π Z (eqOp .eql 3 false true t15 (.int .i64 0)) w k) (fun t16 w=>
 rN π Z (pickV t12 t16 (.bool false)) w fun t17 w=>
 gW (t17) true (fun k=>rN π Z (loadAt 48 t1) w k) (fun t18 w=>
 gW (t17) true (fun k=>CallV π Z 113 #[t18] w k) (fun t19 w=>
 rN π Z (pickV t17 t19 (.bool false)) w fun t20 w=>
 Q t20 w) w) w) w) w) w) w) w) w) w) w) w) w
def f114.an:An:=(.q (.sq .leaf .leaf))
theorem f114.calls {Z:PZ} {x0:Value} {w:World} {Q:PQ} (h:f114.sh Z x0 w Q):CallV π Z 114 #[x0] w Q:=
 cl Tryz.func114 f114.an [x0] (by kernel_rfl) (by kernel_rfl) h

def f115.sh (Z:PZ) (x0:Value) (w:World) (Q:PQ):Prop:=
 rN π Z (eqOp .neq 37 false false x0 x0) w fun t1 w=>
 Q t1 w
def f115.an:An:=(.q (.sq .leaf .leaf))
theorem f115.calls {Z:PZ} {x0:Value} {w:World} {Q:PQ} (h:f115.sh Z x0 w Q):CallV π Z 115 #[x0] w Q:=
 cl Tryz.func115 f115.an [x0] (by kernel_rfl) (by kernel_rfl) h

def f116.sh (Z:PZ) (x0 x1:Value) (w:World) (Q:PQ):Prop:=
 rN π Z (Builtin.len_ #[9] 3 #[x0]) w fun t1 w=>
 rN π Z (Builtin.len_ #[9] 3 #[x1]) w fun t2 w=>
 rN π Z (binOp .geq 3 t1 t2) w fun t3 w=>
 gW (t3) true (fun k=>k (x0) w) (fun t4 w=>
 gW (t3) true (fun k=>k (x1) w) (fun t5 w=>
 gW (t3) true (fun k=>rN π Z (Builtin.len_ #[9] 3 #[t5]) w k) (fun t6 w=>
 gW (t3) true (fun k=>rN π Z (Instr.sliceAt 9 t4 none (some t6) none) w k) (fun t7 w=>
 gW (t3) true (fun k=>k (x1) w) (fun t8 w=>
 gW (t3) true (fun k=>rN π Z (eqOp .eql 9 false false t7 t8) w k) (fun t9 w=>
 rN π Z (pickV t3 t9 (.bool false)) w fun t10 w=>
 Q t10 w) w) w) w) w) w) w
def f116.an:An:=(.q (.sq .leaf .leaf))
theorem f116.calls {Z:PZ} {x0 x1:Value} {w:World} {Q:PQ} (h:f116.sh Z x0 x1 w Q):CallV π Z 116 #[x0,x1] w Q:=
 cl Tryz.func116 f116.an [x0,x1] (by kernel_rfl) (by kernel_rfl) h

def f117.sh (Z:PZ) (x0 x1 x2:Value) (w:World) (Q:PQ):Prop:=
 rN π Z (eqOp .eql 9 false true x0 (.string { data:=#[] })) w fun t1 w=>
 cV t1 (
 rN π Z (Instr.makeInterface 161 (.int .i64 2)) w fun t2 w=>
 Q (Value.tuple #[(.int .u64 0),t2]) w) (
 rN π Z (eqOp .eql 3 false true x1 (.int .i64 0)) w fun t3 w=>
 ∀j_4:Value→PQ,(∀t5:Value,∀t6:Value,∀w:World,(Env →
 ∀j_7:PQ,(∀t8:Value,∀w:World,(Env →
 ∀j_9:PQ,(∀t10:Value,∀w:World,(Env →
 rN π Z (convert 3 131 t8) w fun t11 w=>
 rN π Z (binOp .shl 162 (.int .u64 1) t11) w fun t12 w=>
 rN π Z (binOp .sub 162 t12 (.int .u64 1)) w fun t13 w=>
 rN π Z (convert 9 43 t5) w fun t14 w=>
 rN π Z (Builtin.len_ #[43] 3 #[t14]) w fun t15 w=>
 ∃J_16:Nat→Value→Value→PQ,(∃m,J_16 m (.bool false) (.int .u64 0) (.int .i64 0) w) ∧
 ∀m_16,∀t17:Value,∀t18:Value,∀t19:Value,∀w:World,J_16 m_16 t17 t18 t19 w→Env →
 rN π Z (binOp .lss 3 t19 t15) w fun t20 w=>
 cV t20 (
 ∀j_21:Value→PQ,(∀t22:Value,∀t23:Value,∀w:World,(Env →
 rN π Z (binOp .add 3 t19 (.int .i64 1)) w fun t24 w=>
 ∃n_16,n_16 < m_16∧J_16 n_16 t22 t23 t24 w) →
 j_21 t22 t23 w) →
 rN π Z (indexAt 43 t14 t19) w fun t25 w=>
 rN π Z (loadAt 5 t25) w fun t26 w=>
 ∀j_27:Value→PQ,(∀t28:Value,∀t29:Value,∀w:World,(Env →
 rN π Z (convert 3 5 t6) w fun t30 w=>
 rN π Z (binOp .geq 5 t29 t30) w fun t31 w=>
 cV t31 (
 rN π Z (Instr.makeInterface 161 (.int .i64 2)) w fun t32 w=>
 Q (Value.tuple #[(.int .u64 0),t32]) w) (
 rN π Z (binOp .geq 162 t18 t10) w fun t33 w=>
 cV t33 (
 rN π Z (Instr.makeInterface 161 (.int .i64 1)) w fun t34 w=>
 Q (Value.tuple #[t13,t34]) w) (
 rN π Z (convert 3 162 t6) w fun t35 w=>
 rN π Z (binOp .mul 162 t18 t35) w fun t36 w=>
 rN π Z (convert 5 162 t29) w fun t37 w=>
 rN π Z (binOp .add 162 t36 t37) w fun t38 w=>
 rN π Z (binOp .lss 162 t38 t36) w fun t39 w=>
 gW (t39) false (fun k=>k (t38) w) (fun t40 w=>
 gW (t39) false (fun k=>k (t13) w) (fun t41 w=>
 gW (t39) false (fun k=>rN π Z (binOp .gtr 162 t40 t41) w k) (fun t42 w=>
 rN π Z (pickV t39 (.bool true) t42) w fun t43 w=>
 cV t43 (
 rN π Z (Instr.makeInterface 161 (.int .i64 1)) w fun t44 w=>
 Q (Value.tuple #[t13,t44]) w) (
 j_21 t28 t38 w)) w) w) w))) →
 j_27 t28 t29 w) →
 rN π Z (eqOp .eql 5 false true t26 (.int .u8 95)) w fun t45 w=>
 gW (t45) true (fun k=>k (t3) w) (fun t46 w=>
 rN π Z (pickV t45 t46 (.bool false)) w fun t47 w=>
 cV t47 (
 j_21 (.bool true) t18 w) (
 rN π Z (binOp .leq 5 (.int .u8 48) t26) w fun t48 w=>
 gW (t48) true (fun k=>k (t26) w) (fun t49 w=>
 gW (t48) true (fun k=>rN π Z (binOp .leq 5 t49 (.int .u8 57)) w k) (fun t50 w=>
 rN π Z (pickV t48 t50 (.bool false)) w fun t51 w=>
 cV t51 (
 rN π Z (binOp .sub 5 t26 (.int .u8 48)) w fun t52 w=>
 j_27 t17 t52 w) (
 CallV π Z 166 #[t26] w fun t53 w=>
 rN π Z (binOp .leq 5 (.int .u8 97) t53) w fun t54 w=>
 gW (t54) true (fun k=>k (t26) w) (fun t55 w=>
 gW (t54) true (fun k=>CallV π Z 166 #[t55] w k) (fun t56 w=>
 gW (t54) true (fun k=>rN π Z (binOp .leq 5 t56 (.int .u8 122)) w k) (fun t57 w=>
 rN π Z (pickV t54 t57 (.bool false)) w fun t58 w=>
 cV t58 (
 CallV π Z 166 #[t26] w fun t59 w=>
 rN π Z (binOp .sub 5 t59 (.int .u8 97)) w fun t60 w=>
 rN π Z (binOp .add 5 t60 (.int .u8 10)) w fun t61 w=>
 j_27 t17 t61 w) (
 rN π Z (Instr.makeInterface 161 (.int .i64 2)) w fun t62 w=>
 Q (Value.tuple #[(.int .u64 0),t62]) w)) w) w) w)) w) w)) w) (
 gW (t17) true (fun k=>k (x0) w) (fun t63 w=>
 gW (t17) true (fun k=>CallV π Z 167 #[t63] w k) (fun t64 w=>
 gW (t17) true (fun k=>rN π Z (Op.unary .not t64) w k) (fun t65 w=>
 rN π Z (pickV t17 t65 (.bool false)) w fun t66 w=>
 cV t66 (
 rN π Z (Instr.makeInterface 161 (.int .i64 2)) w fun t67 w=>
 Q (Value.tuple #[(.int .u64 0),t67]) w) (
 Q (Value.tuple #[t18,.nilIface]) w)) w) w) w)) →
 j_9 t10 w) →
 rN π Z (eqOp .eql 3 false true t6 (.int .i64 10)) w fun t68 w=>
 cV t68 (
 j_9 (.int .u64 1844674407370955162) w) (
 rN π Z (eqOp .eql 3 false true t6 (.int .i64 16)) w fun t69 w=>
 cV t69 (
 j_9 (.int .u64 1152921504606846976) w) (
 rN π Z (convert 3 162 t6) w fun t70 w=>
 rN π Z (binOp .quo 162 (.int .u64 18446744073709551615) t70) w fun t71 w=>
 rN π Z (binOp .add 162 t71 (.int .u64 1)) w fun t72 w=>
 j_9 t72 w))) →
 j_7 t8 w) →
 rN π Z (eqOp .eql 3 false true x2 (.int .i64 0)) w fun t73 w=>
 cV t73 (
 j_7 (.int .i64 64) w) (
 rN π Z (binOp .lss 3 x2 (.int .i64 0)) w fun t74 w=>
 gW (t74) false (fun k=>k (x2) w) (fun t75 w=>
 gW (t74) false (fun k=>rN π Z (binOp .gtr 3 t75 (.int .i64 64)) w k) (fun t76 w=>
 rN π Z (pickV t74 (.bool true) t76) w fun t77 w=>
 cV t77 (
 rN π Z (Instr.makeInterface 161 (.int .i64 4)) w fun t78 w=>
 Q (Value.tuple #[(.int .u64 0),t78]) w) (
 j_7 x2 w)) w) w)) →
 j_4 t5 t6 w) →
 rN π Z (binOp .leq 3 (.int .i64 2) x1) w fun t79 w=>
 gW (t79) true (fun k=>k (x1) w) (fun t80 w=>
 gW (t79) true (fun k=>rN π Z (binOp .leq 3 t80 (.int .i64 36)) w k) (fun t81 w=>
 rN π Z (pickV t79 t81 (.bool false)) w fun t82 w=>
 cV t82 (
 j_4 x0 x1 w) (
 rN π Z (eqOp .eql 3 false true x1 (.int .i64 0)) w fun t83 w=>
 cV t83 (
 rN π Z (Instr.index 9 x0 (.int .i64 0)) w fun t84 w=>
 rN π Z (eqOp .eql 5 false true t84 (.int .u8 48)) w fun t85 w=>
 cV t85 (
 rN π Z (Builtin.len_ #[9] 3 #[x0]) w fun t86 w=>
 rN π Z (binOp .geq 3 t86 (.int .i64 3)) w fun t87 w=>
 gW (t87) true (fun k=>k (x0) w) (fun t88 w=>
 gW (t87) true (fun k=>rN π Z (Instr.index 9 t88 (.int .i64 1)) w k) (fun t89 w=>
 gW (t87) true (fun k=>CallV π Z 166 #[t89] w k) (fun t90 w=>
 gW (t87) true (fun k=>rN π Z (eqOp .eql 5 false true t90 (.int .u8 98)) w k) (fun t91 w=>
 rN π Z (pickV t87 t91 (.bool false)) w fun t92 w=>
 cV t92 (
 rN π Z (Instr.sliceAt 9 x0 (some (.int .i64 2)) none none) w fun t93 w=>
 j_4 t93 (.int .i64 2) w) (
 rN π Z (Builtin.len_ #[9] 3 #[x0]) w fun t94 w=>
 rN π Z (binOp .geq 3 t94 (.int .i64 3)) w fun t95 w=>
 gW (t95) true (fun k=>k (x0) w) (fun t96 w=>
 gW (t95) true (fun k=>rN π Z (Instr.index 9 t96 (.int .i64 1)) w k) (fun t97 w=>
 gW (t95) true (fun k=>CallV π Z 166 #[t97] w k) (fun t98 w=>
 gW (t95) true (fun k=>rN π Z (eqOp .eql 5 false true t98 (.int .u8 111)) w k) (fun t99 w=>
 rN π Z (pickV t95 t99 (.bool false)) w fun t100 w=>
 cV t100 (
 rN π Z (Instr.sliceAt 9 x0 (some (.int .i64 2)) none none) w fun t101 w=>
 j_4 t101 (.int .i64 8) w) (
 rN π Z (Builtin.len_ #[9] 3 #[x0]) w fun t102 w=>
 rN π Z (binOp .geq 3 t102 (.int .i64 3)) w fun t103 w=>
 gW (t103) true (fun k=>k (x0) w) (fun t104 w=>
 gW (t103) true (fun k=>rN π Z (Instr.index 9 t104 (.int .i64 1)) w k) (fun t105 w=>
 gW (t103) true (fun k=>CallV π Z 166 #[t105] w k) (fun t106 w=>
 gW (t103) true (fun k=>rN π Z (eqOp .eql 5 false true t106 (.int .u8 120)) w k) (fun t107 w=>
 rN π Z (pickV t103 t107 (.bool false)) w fun t108 w=>
 cV t108 (
 rN π Z (Instr.sliceAt 9 x0 (some (.int .i64 2)) none none) w fun t109 w=>
 j_4 t109 (.int .i64 16) w) (
 rN π Z (Instr.sliceAt 9 x0 (some (.int .i64 1)) none none) w fun t110 w=>
 j_4 t110 (.int .i64 8) w)) w) w) w) w)) w) w) w) w)) w) w) w) w) (
 j_4 x0 (.int .i64 10) w)) (
 rN π Z (Instr.makeInterface 161 (.int .i64 3)) w fun t111 w=>
 Q (Value.tuple #[(.int .u64 0),t111]) w))) w) w)
def f117.an:An:=(.q (.sq (.q (.cn (.sq .leaf .leaf) .leaf)) (.q (.q (.sj [0,1] (.bl (.q (.cn .leaf (.q (.cn (.q (.q (.cn (.bl (.q (.cn (.sq .leaf .leaf) (.q (.cn (.sq .leaf .leaf) (.q (.cn (.sq .leaf .leaf) (.sq .leaf .leaf)))))))) .leaf))) (.sq .leaf .leaf)))))) (.sj [2] (.q (.cn .leaf (.q (.cn (.sq .leaf .leaf) .leaf)))) (.q (.sj [10] (.q (.bl (.q (.cn .leaf (.q (.c)))))) (.q (.q (.q (.sq (.q (.bl (.lp [12,13,101] (.q (.sq (.c) (.sj [12,13] (.bl (.q (.q (.sj [12,16] (.bl (.q (.cn (.sq .leaf .leaf) (.q (.cn .leaf (.q (.cn .leaf (.sq .leaf .leaf)))))))) (.sq (.q (.cn (.sq .leaf .leaf) .leaf)) (.sq (.q (.cn (.sq .leaf .leaf) .leaf)) (.q (.q (.sq (.q (.cn (.sq .leaf .leaf) .leaf)) .leaf))))))))) .leaf)))))) (.sq (.q (.cn (.sq .leaf .leaf) .leaf)) (.sq .leaf .leaf))))))))))))))
theorem f117.calls {Z:PZ} {x0 x1 x2:Value} {w:World} {Q:PQ} (h:f117.sh Z x0 x1 x2 w Q):CallV π Z 117 #[x0,x1,x2] w Q:=
 cl Tryz.func117 f117.an [x0,x1,x2] (by kernel_rfl) (by kernel_rfl) h

def f133.sh (Z:PZ) (x0:Value) (w:World) (Q:PQ):Prop:=
 rN π Z (Builtin.len_ #[9] 3 #[x0]) w fun t1 w=>
 ∃J_2:Nat→PQ,(∃m,J_2 m (.int .i64 0) w) ∧
 ∀m_2,∀t3:Value,∀w:World,J_2 m_2 t3 w→Env →
 rN π Z (binOp .lss 3 t3 t1) w fun t4 w=>
 cV t4 (
 rN π Z (Instr.index 9 x0 t3) w fun t5 w=>
 rN π Z (binOp .lss 5 t5 (.int .u8 97)) w fun t6 w=>
 gW (t6) false (fun k=>k (t5) w) (fun t7 w=>
 gW (t6) false (fun k=>rN π Z (binOp .gtr 5 t7 (.int .u8 122)) w k) (fun t8 w=>
 rN π Z (pickV t6 (.bool true) t8) w fun t9 w=>
 gW (t9) true (fun k=>k (t5) w) (fun t10 w=>
 gW (t9) true (fun k=>rN π Z (binOp .lss 5 t10 (.int .u8 48)) w k) (fun t11 w=>
 gW (t9) true (fun k=>k (t11) w) (fun t12 w=>
 gW (t12) false (fun k=>k (t5) w) (fun t13 w=>
 gW (t12) false (fun k=>rN π Z (binOp .gtr 5 t13 (.int .u8 57)) w k) (fun t14 w=>
 gW (t9) true (fun k=>rN π Z (pickV t12 (.bool true) t14) w k) (fun t15 w=>
 rN π Z (pickV t9 t15 (.bool false)) w fun t16 w=>
 gW (t16) true (fun k=>k (t5) w) (fun t17 w=>
 gW (t16) true (fun k=>rN π Z (eqOp .neq 5 false true t17 (.int .u8 46)) w k) (fun t18 w=>
 rN π Z (pickV t16 t18 (.bool false)) w fun t19 w=>
 cV t19 (
 Q (.bool false) w) (
 rN π Z (binOp .add 3 t3 (.int .i64 1)) w fun t20 w=>
 ∃n_2,n_2 < m_2∧J_2 n_2 t20 w)) w) w) w) w) w) w) w) w) w) w) (
 rN π Z (Builtin.len_ #[9] 3 #[x0]) w fun t21 w=>
 rN π Z (binOp .geq 3 t21 (.int .i64 1)) w fun t22 w=>
 gW (t22) true (fun k=>k (x0) w) (fun t23 w=>
 gW (t22) true (fun k=>rN π Z (Builtin.len_ #[9] 3 #[t23]) w k) (fun t24 w=>
 gW (t22) true (fun k=>rN π Z (binOp .leq 3 t24 (.int .i64 24)) w k) (fun t25 w=>
 rN π Z (pickV t22 t25 (.bool false)) w fun t26 w=>
 Q t26 w) w) w) w)
def f133.an:An:=(.q (.sq (.q (.bl (.lp [7] (.q (.sq (.c) (.sq (.bl (.q (.q (.q (.cn (.sq .leaf .leaf) .leaf))))) .leaf)))))) (.sq .leaf .leaf)))
theorem f133.calls {Z:PZ} {x0:Value} {w:World} {Q:PQ} (h:f133.sh Z x0 w Q):CallV π Z 133 #[x0] w Q:=
 cl Tryz.func133 f133.an [x0] (by kernel_rfl) (by kernel_rfl) h

def f134.sh (Z:PZ) (x0 x1 x2:Value) (w:World) (Q:PQ):Prop:=
 rN π Z (Instr.sliceAt 72 x0 (some x1) none none) w fun t1 w=>
 rN π Z (Builtin.len_ #[72] 3 #[x2]) w fun t2 w=>
 rN π Z (eqOp .eql 3 false true t2 (.int .i64 0)) w fun t3 w=>
 cV t3 (
 Q x0 w) (
 rN π Z (Builtin.len_ #[72] 3 #[x0]) w fun t4 w=>
 rN π Z (eqOp .eql 3 false false x1 t4) w fun t5 w=>
 cV t5 (
 rN π Z (Builtin.append_ #[72,72] 72 #[x0,x2]) w fun t6 w=>
 Q t6 w) (
 rN π Z (binOp .add 3 t4 t2) w fun t7 w=>
 rN π Z (Builtin.cap_ #[72] 3 #[x0]) w fun t8 w=>
 rN π Z (binOp .gtr 3 t7 t8) w fun t9 w=>
 cV t9 (
 rN π Z (Instr.sliceAt 72 x0 none (some x1) none) w fun t10 w=>
 rN π Z (binOp .add 3 t4 t2) w fun t11 w=>
 rN π Z (binOp .sub 3 t11 x1) w fun t12 w=>
 rN π Z (Builtin.append_ #[72,3] 72 #[t10,t12]) w fun t13 w=>
 rN π Z (Instr.sliceAt 72 t13 (some x1) none none) w fun t14 w=>
 rN π Z (Builtin.copy_ #[72,72] 3 #[t14,x2]) w fun t15 w=>
 Drawn w fun w=>
 pU π (binOp .add 3 x1 t2) fun t16=>
 pU π (Instr.sliceAt 72 t13 (some t16) none none) fun t17=>
 pU π (Instr.sliceAt 72 x0 (some x1) none none) fun t18=>
 rN π Z (Builtin.copy_ #[72,72] 3 #[t17,t18]) w fun t19 w=>
 Q t13 w) (
 rN π Z (binOp .add 3 t4 t2) w fun t20 w=>
 rN π Z (Instr.sliceAt 72 x0 none (some t20) none) w fun t21 w=>
 rN π Z (binOp .add 3 x1 t2) w fun t22 w=>
 rN π Z (Instr.sliceAt 72 t21 (some t22) none none) w fun t23 w=>
 runX π Z (callFunc 177 #[x2,t23]) w fun t24 w=>
 rN π Z (Op.unary .not t24) w fun t25 w=>
 cV t25 (
 Drawn w fun w=>
 pU π (binOp .add 3 x1 t2) fun t26=>
 pU π (Instr.sliceAt 72 t21 (some t26) none none) fun t27=>
 pU π (Instr.sliceAt 72 t21 (some x1) none none) fun t28=>
 rN π Z (Builtin.copy_ #[72,72] 3 #[t27,t28]) w fun t29 w=>
 rN π Z (Instr.sliceAt 72 t21 (some x1) none none) w fun t30 w=>
 rN π Z (Builtin.copy_ #[72,72] 3 #[t30,x2]) w fun t31 w=>
 Q t21 w) (
 rN π Z (Instr.sliceAt 72 t21 (some t4) none none) w fun t32 w=>
 rN π Z (Builtin.copy_ #[72,72] 3 #[t32,x2]) w fun t33 w=>
 rN π Z (Instr.sliceAt 72 t21 (some x1) none none) w fun t34 w=>
 CallV π Z 178 #[t34,t2] w fun t35 w=>
 Q t21 w))))
def f134.an:An:=(.q (.q (.q (.sq (.q (.cn (.sq .leaf .leaf) .leaf)) (.q (.sq (.q (.cn (.sq .leaf .leaf) .leaf)) (.sq (.q (.cn (.q (.q (.sq (.dr (pl [0,4,8,12,16,20,24,28,34] .fin)) (.sq .leaf .leaf)))) .leaf)) (.q (.sq (.q (.cn (.sq (.dr (pl [0,4,8,12,16,20,24,28,34] .fin)) (.q (.sq .leaf .leaf))) .leaf)) (.q (.q (.sq .leaf .leaf))))))))))))
theorem f134.calls {Z:PZ} {x0 x1 x2:Value} {w:World} {Q:PQ} (h:f134.sh Z x0 x1 x2 w Q):CallV π Z 134 #[x0,x1,x2] w Q:=
 cl Tryz.func134 f134.an [x0,x1,x2] (by kernel_rfl) (by kernel_rfl) h

def f135.sh (Z:PZ) (x0 x1:Value) (w:World) (Q:PQ):Prop:=
 rN π Z (convert 37 162 x1) w fun t1 w=>
 CallV π Z 179 #[x0,t1,(.int .i64 4)] w fun t2 w=>
 Q (Value.tuple #[]) w
def f135.an:An:=.leaf
theorem f135.calls {Z:PZ} {x0 x1:Value} {w:World} {Q:PQ} (h:f135.sh Z x0 x1 w Q):CallV π Z 135 #[x0,x1] w Q:=
 cl Tryz.func135 f135.an [x0,x1] (by kernel_rfl) (by kernel_rfl) h

def f136.sh (Z:PZ) (x0 x1:Value) (w:World) (Q:PQ):Prop:=
 rN π Z (convert 40 162 x1) w fun t1 w=>
 CallV π Z 179 #[x0,t1,(.int .i64 1)] w fun t2 w=>
 Q (Value.tuple #[]) w
def f136.an:An:=.leaf
theorem f136.calls {Z:PZ} {x0 x1:Value} {w:World} {Q:PQ} (h:f136.sh Z x0 x1 w Q):CallV π Z 136 #[x0,x1] w Q:=
 cl Tryz.func136 f136.an [x0,x1] (by kernel_rfl) (by kernel_rfl) h

def f137.sh (Z:PZ) (x0 x1:Value) (w:World) (Q:PQ):Prop:=
 rN π Z (convert 2 162 x1) w fun t1 w=>
 CallV π Z 179 #[x0,t1,(.int .i64 8)] w fun t2 w=>
 Q (Value.tuple #[]) w
def f137.an:An:=.leaf
theorem f137.calls {Z:PZ} {x0 x1:Value} {w:World} {Q:PQ} (h:f137.sh Z x0 x1 w Q):CallV π Z 137 #[x0,x1] w Q:=
 cl Tryz.func137 f137.an [x0,x1] (by kernel_rfl) (by kernel_rfl) h

def f138.sh (Z:PZ) (x0 x1 x2:Value) (w:World) (Q:PQ):Prop:=
 rN π Z (Instr.box 148 x0) w fun t1 w=>
 rN π Z (Instr.box 48 x2) w fun t2 w=>
 rN π Z (fieldAt 48 t2 0) w fun t3 w=>
 rN π Z (loadAt 40 t3) w fun t4 w=>
 CallV π Z 136 #[x1,t4] w fun t5 w=>
 rN π Z (loadAt 148 t1) w fun t6 w=>
 rN π Z (fieldAt 48 t2 0) w fun t7 w=>
 rN π Z (loadAt 40 t7) w fun t8 w=>
 CallV π Z 150 #[t6,t8] w fun t9 w=>
 ∀j_10:World→Prop,(∀w:World,(Env →
 ∀j_11:World→Prop,(∀w:World,(Env →
 ∀j_12:World→Prop,(∀w:World,(Env →
 ∀j_13:World→Prop,(∀w:World,(Env →
 ∀j_14:World→Prop,(∀w:World,(Env →
 ∀j_15:World→Prop,(∀w:World,(Env →
 ∀j_16:World→Prop,(∀w:World,(Env →
 ∀j_17:World→Prop,(∀w:World,(Env →
 rN π Z (binOp .and 131 t9 (.int .u64 256)) w fun t18 w=>
 rN π Z (eqOp .neq 131 false true t18 (.int .u64 0)) w fun t19 w=>
 cV t19 (
 rN π Z (fieldAt 48 t2 10) w fun t20 w=>
 rN π Z (loadAt 46 t20) w fun t21 w=>
 rN π Z (Instr.build 148 #[(0,(.bool true))]) w fun t22 w=>
 rN π Z (Instr.makeFunc (.func 138) #[t22] #[]) w fun t23 w=>
 CallV π Z 188 #[x1,t21,t23] w fun t24 w=>
 Q (Value.tuple #[]) w) (
 Q (Value.tuple #[]) w)) →
 j_17 w) →
 rN π Z (binOp .and 131 t9 (.int .u64 128)) w fun t25 w=>
 rN π Z (eqOp .neq 131 false true t25 (.int .u64 0)) w fun t26 w=>
 cV t26 (
 rN π Z (fieldAt 48 t2 9) w fun t27 w=>
 rN π Z (loadAt 45 t27) w fun t28 w=>
 CallV π Z 186 #[x1,t28,(.func (.func 187) #[] #[])] w fun t29 w=>
 j_17 w) (
 j_17 w)) →
 j_16 w) →
 rN π Z (binOp .and 131 t9 (.int .u64 64)) w fun t30 w=>
 rN π Z (eqOp .neq 131 false true t30 (.int .u64 0)) w fun t31 w=>
 cV t31 (
 rN π Z (fieldAt 48 t2 8) w fun t32 w=>
 rN π Z (loadAt 21 t32) w fun t33 w=>
 CallV π Z 184 #[x1,t33] w fun t34 w=>
 j_16 w) (
 j_16 w)) →
 j_15 w) →
 rN π Z (binOp .and 131 t9 (.int .u64 32)) w fun t35 w=>
 rN π Z (eqOp .neq 131 false true t35 (.int .u64 0)) w fun t36 w=>
 cV t36 (
 rN π Z (fieldAt 48 t2 7) w fun t37 w=>
 rN π Z (loadAt 2 t37) w fun t38 w=>
 CallV π Z 137 #[x1,t38] w fun t39 w=>
 j_15 w) (
 j_15 w)) →
 j_14 w) →
 rN π Z (binOp .and 131 t9 (.int .u64 16)) w fun t40 w=>
 rN π Z (eqOp .neq 131 false true t40 (.int .u64 0)) w fun t41 w=>
 cV t41 (
 rN π Z (fieldAt 48 t2 5) w fun t42 w=>
 rN π Z (loadAt 4 t42) w fun t43 w=>
 CallV π Z 185 #[x1,t43] w fun t44 w=>
 rN π Z (fieldAt 48 t2 6) w fun t45 w=>
 rN π Z (loadAt 4 t45) w fun t46 w=>
 CallV π Z 185 #[x1,t46] w fun t47 w=>
 j_14 w) (
 j_14 w)) →
 j_13 w) →
 rN π Z (binOp .and 131 t9 (.int .u64 8)) w fun t48 w=>
 rN π Z (eqOp .neq 131 false true t48 (.int .u64 0)) w fun t49 w=>
 cV t49 (
 rN π Z (fieldAt 48 t2 4) w fun t50 w=>
 rN π Z (loadAt 21 t50) w fun t51 w=>
 CallV π Z 184 #[x1,t51] w fun t52 w=>
 j_13 w) (
 j_13 w)) →
 j_12 w) →
 rN π Z (binOp .and 131 t9 (.int .u64 4)) w fun t53 w=>
 rN π Z (eqOp .neq 131 false true t53 (.int .u64 0)) w fun t54 w=>
 cV t54 (
 rN π Z (fieldAt 48 t2 3) w fun t55 w=>
 rN π Z (loadAt 44 t55) w fun t56 w=>
 CallV π Z 182 #[x1,t56,(.func (.func 183) #[] #[])] w fun t57 w=>
 j_12 w) (
 j_12 w)) →
 j_11 w) →
 rN π Z (binOp .and 131 t9 (.int .u64 2)) w fun t58 w=>
 rN π Z (eqOp .neq 131 false true t58 (.int .u64 0)) w fun t59 w=>
 cV t59 (
 rN π Z (fieldAt 48 t2 2) w fun t60 w=>
 rN π Z (loadAt 43 t60) w fun t61 w=>
 CallV π Z 181 #[x1,t61] w fun t62 w=>
 j_11 w) (
 j_11 w)) →
 j_10 w) →
 rN π Z (binOp .and 131 t9 (.int .u64 1)) w fun t63 w=>
 rN π Z (eqOp .neq 131 false true t63 (.int .u64 0)) w fun t64 w=>
 cV t64 (
 rN π Z (fieldAt 48 t2 1) w fun t65 w=>
 rN π Z (loadAt 9 t65) w fun t66 w=>
 CallV π Z 180 #[x1,t66] w fun t67 w=>
 j_10 w) (
 j_10 w)
def f138.an:An:=(.q (.q (.q (.sj [] (.q (.c)) (.sj [] (.q (.c)) (.sj [] (.q (.c)) (.sj [] (.q (.c)) (.sj [] (.q (.cn (.sq .leaf .leaf) .leaf)) (.sj [] (.q (.c)) (.sj [] (.q (.c)) (.sj [] (.q (.c)) (.q (.c)))))))))))))
theorem f138.calls {Z:PZ} {x0 x1 x2:Value} {w:World} {Q:PQ} (h:f138.sh Z x0 x1 x2 w Q):CallV π Z 138 #[x0,x1,x2] w Q:=
 cl Tryz.func138 f138.an [x0,x1,x2] (by kernel_rfl) (by kernel_rfl) h

def f139.sh (Z:PZ) (x0:Value) (w:World) (Q:PQ):Prop:=
 rN π Z (eqOp .eql 181 false true x0 (.pointer none)) w fun t1 w=>
 cV t1 (
 Q (.slice none 0 0) w) (
 runX π Z (nilChk x0) w fun t2 w=>
 rN π Z (fieldAt 183 t2 0) w fun t3 w=>
 rN π Z (loadAt 43 t3) w fun t4 w=>
 rN π Z (Builtin.append_ #[43,43] 43 #[(.slice none 0 0),t4]) w fun t5 w=>
 Q t5 w)
def f139.an:An:=(.q (.sq (.q (.cn (.sq .leaf .leaf) .leaf)) (.sq .leaf .leaf)))
theorem f139.calls {Z:PZ} {x0:Value} {w:World} {Q:PQ} (h:f139.sh Z x0 w Q):CallV π Z 139 #[x0] w Q:=
 cl Tryz.func139 f139.an [x0] (by kernel_rfl) (by kernel_rfl) h

def f140.sh (Z:PZ) (x0:Value) (w:World) (Q:PQ):Prop:=
 rN π Z (Instr.alloc 189 true (.tuple #[])) w fun t1 w=>
 rN π Z (binOp .shr 37 x0 (.int .u64 24)) w fun t2 w=>
 rN π Z (convert 37 5 t2) w fun t3 w=>
 rN π Z (binOp .shr 37 x0 (.int .u64 16)) w fun t4 w=>
 rN π Z (convert 37 5 t4) w fun t5 w=>
 rN π Z (binOp .shr 37 x0 (.int .u64 8)) w fun t6 w=>
 rN π Z (convert 37 5 t6) w fun t7 w=>
 rN π Z (convert 37 5 x0) w fun t8 w=>
 rN π Z (Instr.build 189 #[(0,t3),(1,t5),(2,t7),(3,t8)]) w fun t9 w=>
 rO π Z (storeAt 189 t1 t9) w fun w=>
 ∃r_10,(do loadVar 189 (← asAddr t1):Sem Value).run π w=.ok r_10 w ∧
 Q r_10 w
def f140.an:An:=(.q (.sq .leaf .leaf))
theorem f140.calls {Z:PZ} {x0:Value} {w:World} {Q:PQ} (h:f140.sh Z x0 w Q):CallV π Z 140 #[x0] w Q:=
 cl Tryz.func140 f140.an [x0] (by kernel_rfl) (by kernel_rfl) h

def f141.sh (Z:PZ) (x0:Value) (w:World) (Q:PQ):Prop:=
 rN π Z (Builtin.len_ #[43] 3 #[x0]) w fun t1 w=>
 ∃J_2:Nat→Value→Value→PQ,(∃m,J_2 m (.int .u32 1) (.int .u32 0) (.int .i64 0) w) ∧
 ∀m_2,∀t3:Value,∀t4:Value,∀t5:Value,∀w:World,J_2 m_2 t3 t4 t5 w→Env →
 rN π Z (binOp .lss 3 t5 t1) w fun t6 w=>
 cV t6 (
 rN π Z (indexAt 43 x0 t5) w fun t7 w=>
 rN π Z (loadAt 5 t7) w fun t8 w=>
 rN π Z (convert 5 37 t8) w fun t9 w=>
 rN π Z (binOp .add 37 t3 t9) w fun t10 w=>
 rN π Z (binOp .rem 37 t10 (.int .u32 65521)) w fun t11 w=>
 rN π Z (binOp .add 37 t4 t11) w fun t12 w=>
 rN π Z (binOp .rem 37 t12 (.int .u32 65521)) w fun t13 w=>
 rN π Z (binOp .add 3 t5 (.int .i64 1)) w fun t14 w=>
 ∃n_2,n_2 < m_2∧J_2 n_2 t11 t13 t14 w) (
 rN π Z (binOp .shl 37 t4 (.int .u64 16)) w fun t15 w=>
 rN π Z (binOp .or 37 t15 t3) w fun t16 w=>
 Q t16 w)
def f141.an:An:=(.q (.q (.sq (.q (.bl (.lp [3,4,9] (.q (.sq (.c) (.sq (.bl (.q (.sq .leaf .leaf))) .leaf)))))) (.sq .leaf .leaf))))
theorem f141.calls {Z:PZ} {x0:Value} {w:World} {Q:PQ} (h:f141.sh Z x0 w Q):CallV π Z 141 #[x0] w Q:=
 cl Tryz.func141 f141.an [x0] (by kernel_rfl) (by kernel_rfl) h

def f145.sh (Z:PZ) (x0 x1 x2 x3 x4:Value) (w:World) (Q:PQ):Prop:=
 ∀j_1:World→Prop,(∀w:World,(Env →
 rN π Z (Instr.alloc 240 true (.tuple #[])) w fun t2 w=>
 ∀j_3:PQ,(∀t4:Value,∀w:World,(Env →
 ∀j_5:PQ,(∀t6:Value,∀w:World,(Env →
 ∀j_7:PQ,(∀t8:Value,∀w:World,(Env →
 cV x4 (
 rN π Z (Instr.sliceAt 240 t2 (some t8) none none) w fun t9 w=>
 rN π Z (Builtin.append_ #[43,43] 43 #[x0,t9]) w fun t10 w=>
 Q (Value.tuple #[t10,(.string { data:=#[] })]) w) (
 rN π Z (Instr.sliceAt 240 t2 (some t8) none none) w fun t11 w=>
 rN π Z (convert 43 9 t11) w fun t12 w=>
 Q (Value.tuple #[(.slice none 0 0),t12]) w)) →
 j_7 t8 w) →
 cV x3 (
 rN π Z (binOp .sub 3 t6 (.int .i64 1)) w fun t13 w=>
 rN π Z (indexAt 240 t2 t13) w fun t14 w=>
 rO π Z (storeAt 5 t14 (.int .u8 45)) w fun w=>
 j_7 t13 w) (
 j_7 t6 w)) →
 j_5 t6 w) →
 CallV π Z 191 #[x2] w fun t15 w=>
 cV t15 (
 rN π Z (convert 3 131 x2) w fun t16 w=>
 CallV π Z 192 #[t16] w fun t17 w=>
 rN π Z (convert 3 131 t17) w fun t18 w=>
 rN π Z (convert 3 162 x2) w fun t19 w=>
 rN π Z (convert 3 131 x2) w fun t20 w=>
 rN π Z (binOp .sub 131 t20 (.int .u64 1)) w fun t21 w=>
 ∃J_22:Nat→Value→PQ,(∃m,J_22 m t4 (.int .i64 65) w) ∧
 ∀m_22,∀t23:Value,∀t24:Value,∀w:World,J_22 m_22 t23 t24 w→Env →
 rN π Z (binOp .geq 162 t23 t19) w fun t25 w=>
 cV t25 (
 rN π Z (binOp .sub 3 t24 (.int .i64 1)) w fun t26 w=>
 rN π Z (binOp .and 131 t23 t21) w fun t27 w=>
 rN π Z (Instr.index 9 (.string { data:=#[48,49,50,51,52,53,54,55,56,57,97,98,99,100,101,102,103,104,105,106,107,108,109,110,111,112,113,114,115,116,117,118,119,120,121,122] }) t27) w fun t28 w=>
 rN π Z (indexAt 240 t2 t26) w fun t29 w=>
 rO π Z (storeAt 5 t29 t28) w fun w=>
 rN π Z (binOp .shr 162 t23 t18) w fun t30 w=>
 ∃n_22,n_22 < m_22∧J_22 n_22 t30 t26 w) (
 rN π Z (binOp .sub 3 t24 (.int .i64 1)) w fun t31 w=>
 rN π Z (Instr.index 9 (.string { data:=#[48,49,50,51,52,53,54,55,56,57,97,98,99,100,101,102,103,104,105,106,107,108,109,110,111,112,113,114,115,116,117,118,119,120,121,122] }) t23) w fun t32 w=>
 rN π Z (indexAt 240 t2 t31) w fun t33 w=>
 rO π Z (storeAt 5 t33 t32) w fun w=>
 j_5 t31 w)) (
 rN π Z (convert 3 162 x2) w fun t34 w=>
 ∃J_35:Nat→Value→PQ,(∃m,J_35 m t4 (.int .i64 65) w) ∧
 ∀m_35,∀t36:Value,∀t37:Value,∀w:World,J_35 m_35 t36 t37 w→Env →
 rN π Z (binOp .geq 162 t36 t34) w fun t38 w=>
 cV t38 (
 rN π Z (binOp .sub 3 t37 (.int .i64 1)) w fun t39 w=>
 rN π Z (binOp .quo 162 t36 t34) w fun t40 w=>
 rN π Z (binOp .mul 162 t40 t34) w fun t41 w=>
 rN π Z (binOp .sub 162 t36 t41) w fun t42 w=>
 rN π Z (Instr.index 9 (.string { data:=#[48,49,50,51,52,53,54,55,56,57,97,98,99,100,101,102,103,104,105,106,107,108,109,110,111,112,113,114,115,116,117,118,119,120,121,122] }) t42) w fun t43 w=>
 rN π Z (indexAt 240 t2 t39) w fun t44 w=>
 rO π Z (storeAt 5 t44 t43) w fun w=>
 ∃n_35,n_35 < m_35∧J_35 n_35 t40 t39 w) (
 rN π Z (binOp .sub 3 t37 (.int .i64 1)) w fun t45 w=>
 rN π Z (Instr.index 9 (.string { data:=#[48,49,50,51,52,53,54,55,56,57,97,98,99,100,101,102,103,104,105,106,107,108,109,110,111,112,113,114,115,116,117,118,119,120,121,122] }) t36) w fun t46 w=>
 rN π Z (indexAt 240 t2 t45) w fun t47 w=>
 rO π Z (storeAt 5 t47 t46) w fun w=>
 j_5 t45 w))) →
 j_3 t4 w) →
 cV x3 (
 rN π Z (Op.unary .neg x1) w fun t48 w=>
 j_3 t48 w) (
 j_3 x1 w)) →
 j_1 w) →
 rN π Z (binOp .lss 3 x2 (.int .i64 2)) w fun t49 w=>
 gW (t49) false (fun k=>k (x2) w) (fun t50 w=>
 gW (t49) false (fun k=>rN π Z (eqOp .eql 3 false true t50 (.int .i64 10)) w k) (fun t51 w=>
 rN π Z (pickV t49 (.bool true) t51) w fun t52 w=>
 gW (t52) false (fun k=>k (x2) w) (fun t53 w=>
 gW (t52) false (fun k=>rN π Z (binOp .gtr 3 t53 (.int .i64 36)) w k) (fun t54 w=>
 rN π Z (pickV t52 (.bool true) t54) w fun t55 w=>
 cV t55 (
 rN π Z (Instr.makeInterface 9 (.string { data:=#[115,116,114,99,111,110,118,58,32,105,108,108,101,103,97,108,32,65,112,112,101,110,100,73,110,116,47,70,111,114,109,97,116,73,110,116,32,98,97,115,101] })) w fun t56 w=>
 rN π Z (Instr.panic t56) w fun _ w=>
 j_1 w) (
 j_1 w)) w) w) w) w
def f145.an:An:=(.q (.sj [] (.q (.c)) (.q (.q (.sj [1] (.q (.c)) (.sj [13] (.q (.cn (.q (.q (.q (.sq (.bl (.lp [1,13] (.sq (.q (.c)) (.bl (.q (.sq .leaf .leaf)))))) (.sq .leaf .leaf))))) (.q (.sq (.bl (.lp [1,13] (.sq (.q (.c)) (.bl (.q (.q (.sq .leaf .leaf))))))) (.sq .leaf .leaf))))) (.sj [13] (.q (.cn (.sq .leaf .leaf) .leaf)) (.sq (.q (.cn (.sq .leaf .leaf) .leaf)) (.sq .leaf .leaf)))))))))
theorem f145.calls {Z:PZ} {x0 x1 x2 x3 x4:Value} {w:World} {Q:PQ} (h:f145.sh Z x0 x1 x2 x3 x4 w Q):CallV π Z 145 #[x0,x1,x2,x3,x4] w Q:=
 cl Tryz.func145 f145.an [x0,x1,x2,x3,x4] (by kernel_rfl) (by kernel_rfl) h

def f147.sh (Z:PZ) (x0:Value) (w:World) (Q:PQ):Prop:=
 rN π Z (Builtin.len_ #[43] 3 #[x0]) w fun t1 w=>
 rN π Z (binOp .leq 3 t1 (.int .i64 8)) w fun t2 w=>
 cV t2 (
 Q (.slice none 0 0) w) (
 rN π Z (Instr.sliceAt 43 x0 none (some (.int .i64 4)) none) w fun t3 w=>
 rN π Z (Instr.arrayAt 189 t3) w fun t4 w=>
 rN π Z (loadAt 189 t4) w fun t5 w=>
 CallV π Z 193 #[t5] w fun t6 w=>
 rN π Z (binOp .lss 3 t6 (.int .i64 1)) w fun t7 w=>
 gW (t7) false (fun k=>k (t6) w) (fun t8 w=>
 gW (t7) false (fun k=>rN π Z (binOp .gtr 3 t8 (.int .i64 1048576)) w k) (fun t9 w=>
 rN π Z (pickV t7 (.bool true) t9) w fun t10 w=>
 gW (t10) false (fun k=>k (x0) w) (fun t11 w=>
 gW (t10) false (fun k=>rN π Z (Builtin.len_ #[43] 3 #[t11]) w k) (fun t12 w=>
 gW (t10) false (fun k=>k (t6) w) (fun t13 w=>
 gW (t10) false (fun k=>rN π Z (binOp .add 3 (.int .i64 8) t13) w k) (fun t14 w=>
 gW (t10) false (fun k=>rN π Z (binOp .add 3 t14 (.int .i64 1)) w k) (fun t15 w=>
 gW (t10) false (fun k=>rN π Z (binOp .lss 3 t12 t15) w k) (fun t16 w=>
 rN π Z (pickV t10 (.bool true) t16) w fun t17 w=>
 gW (t17) false (fun k=>k (x0) w) (fun t18 w=>
 gW (t17) false (fun k=>k (t6) w) (fun t19 w=>
 gW (t17) false (fun k=>rN π Z (binOp .add 3 (.int .i64 8) t19) w k) (fun t20 w=>
 gW (t17) false (fun k=>rN π Z (indexAt 43 t18 t20) w k) (fun t21 w=>
 gW (t17) false (fun k=>rN π Z (loadAt 5 t21) w k) (fun t22 w=>
 gW (t17) false (fun k=>rN π Z (eqOp .neq 5 false true t22 (.int .u8 66)) w k) (fun t23 w=>
 rN π Z (pickV t17 (.bool true) t23) w fun t24 w=>
 cV t24 (
 Q (.slice none 0 0) w) (
 rN π Z (binOp .add 3 (.int .i64 8) t6) w fun t25 w=>
 rN π Z (Instr.sliceAt 43 x0 (some (.int .i64 8)) (some t25) none) w fun t26 w=>
 Drawn w fun w=>
 pU π (Instr.sliceAt 43 x0 (some (.int .i64 4)) (some (.int .i64 8)) none) fun t27=>
 pU π (Instr.arrayAt 189 t27) fun t28=>
 rD π (loadAt 189 t28) w fun t29=>
 CallV π Z 141 #[t26] w fun t30 w=>
 Still π (nx (loadAt 189 t28)) t29 w <|
 CallV π Z 140 #[t30] w fun t31 w=>
 Still π (nx (loadAt 189 t28)) t29 w <|
 pU π (eqOp .neq 189 false false t29 t31) fun t32=>
 cV t32 (
 Q (.slice none 0 0) w) (
 Q t26 w))) w) w) w) w) w) w) w) w) w) w) w) w) w) w)
def f147.an:An:=(.q (.sq (.q (.cn (.sq .leaf .leaf) .leaf)) (.q (.sq (.q (.cn (.sq .leaf .leaf) .leaf)) (.q (.sq (.sq (.dr (pl [0,4,8,13,16,22,26,28] .fin)) (.cn (.sq .leaf .leaf) .leaf)) (.sq .leaf .leaf)))))))
theorem f147.calls {Z:PZ} {x0:Value} {w:World} {Q:PQ} (h:f147.sh Z x0 w Q):CallV π Z 147 #[x0] w Q:=
 cl Tryz.func147 f147.an [x0] (by kernel_rfl) (by kernel_rfl) h

def f148.sh (Z:PZ) (x0 x1:Value) (w:World) (Q:PQ):Prop:=
 CallV π Z 194 #[x0,x1] w fun t1 w=>
 rN π Z (extract t1 0) w fun t2 w=>
 rN π Z (extract t1 1) w fun t3 w=>
 rN π Z (Op.unary .not t3) w fun t4 w=>
 cV t4 (
 Q (.int .u64 0) w) (
 rN π Z (Builtin.len_ #[43] 3 #[t2]) w fun t5 w=>
 ∃J_6:Nat→Value→PQ,(∃m,J_6 m (.int .u64 0) (.int .i64 0) w) ∧
 ∀m_6,∀t7:Value,∀t8:Value,∀w:World,J_6 m_6 t7 t8 w→Env →
 rN π Z (binOp .lss 3 t8 t5) w fun t9 w=>
 cV t9 (
 rN π Z (indexAt 43 t2 t8) w fun t10 w=>
 rN π Z (loadAt 5 t10) w fun t11 w=>
 rN π Z (binOp .shl 162 t7 (.int .u64 8)) w fun t12 w=>
 rN π Z (convert 5 162 t11) w fun t13 w=>
 rN π Z (binOp .or 162 t12 t13) w fun t14 w=>
 rN π Z (binOp .add 3 t8 (.int .i64 1)) w fun t15 w=>
 ∃n_6,n_6 < m_6∧J_6 n_6 t14 t15 w) (
 runX π Z (nilChk x0) w fun t16 w=>
 rN π Z (fieldAt 198 t16 1) w fun t17 w=>
 rN π Z (loadAt 43 t17) w fun t18 w=>
 rN π Z (Instr.sliceAt 43 t18 (some x1) none none) w fun t19 w=>
 runX π Z (nilChk x0) w fun t20 w=>
 rN π Z (fieldAt 198 t20 1) w fun t21 w=>
 rO π Z (storeAt 43 t21 t19) w fun w=>
 Q t7 w))
def f148.an:An:=(.q (.q (.sq (.q (.cn (.sq .leaf .leaf) .leaf)) (.q (.sq (.q (.bl (.lp [7,20] (.q (.sq (.c) (.sq (.bl (.sq .leaf .leaf)) .leaf)))))) (.q (.sq .leaf .leaf)))))))
theorem f148.calls {Z:PZ} {x0 x1:Value} {w:World} {Q:PQ} (h:f148.sh Z x0 x1 w Q):CallV π Z 148 #[x0,x1] w Q:=
 cl Tryz.func148 f148.an [x0,x1] (by kernel_rfl) (by kernel_rfl) h

def f149.sh (Z:PZ) (x0 x1:Value) (w:World) (Q:PQ):Prop:=
 CallV π Z 160 #[x0] w fun t1 w=>
 cV t1 (
 runX π Z (nilChk x0) w fun t2 w=>
 rN π Z (fieldAt 198 t2 2) w fun t3 w=>
 rO π Z (storeAt 30 t3 x1) w fun w=>
 Q (Value.tuple #[]) w) (
 Q (Value.tuple #[]) w)
def f149.an:An:=(.q (.c))
theorem f149.calls {Z:PZ} {x0 x1:Value} {w:World} {Q:PQ} (h:f149.sh Z x0 x1 w Q):CallV π Z 149 #[x0,x1] w Q:=
 cl Tryz.func149 f149.an [x0,x1] (by kernel_rfl) (by kernel_rfl) h

def f150.sh (Z:PZ) (x0 x1:Value) (w:World) (Q:PQ):Prop:=
 rN π Z (Instr.box 148 x0) w fun t1 w=>
 rN π Z (fieldAt 148 t1 0) w fun t2 w=>
 rN π Z (loadAt 4 t2) w fun t3 w=>
 cV t3 (
 rN π Z (indexAt 209 (.pointer (some ⟨0,0,none⟩)) x1) w fun t4 w=>
 rN π Z (loadAt 131 t4) w fun t5 w=>
 rN π Z (binOp .andNot 131 t5 (.int .u64 160)) w fun t6 w=>
 Q t6 w) (
 rN π Z (indexAt 209 (.pointer (some ⟨0,0,none⟩)) x1) w fun t7 w=>
 rN π Z (loadAt 131 t7) w fun t8 w=>
 Q t8 w)
def f150.an:An:=(.q (.sq (.q (.cn (.sq .leaf .leaf) .leaf)) (.sq .leaf .leaf)))
theorem f150.calls {Z:PZ} {x0 x1:Value} {w:World} {Q:PQ} (h:f150.sh Z x0 x1 w Q):CallV π Z 150 #[x0,x1] w Q:=
 cl Tryz.func150 f150.an [x0,x1] (by kernel_rfl) (by kernel_rfl) h

def f151.sh (Z:PZ) (x0 x1:Value) (w:World) (Q:PQ):Prop:=
 CallV π Z 195 #[x0,x1] w fun t1 w=>
 rN π Z (convert 43 9 t1) w fun t2 w=>
 Q t2 w
def f151.an:An:=(.q (.sq .leaf .leaf))
theorem f151.calls {Z:PZ} {x0 x1:Value} {w:World} {Q:PQ} (h:f151.sh Z x0 x1 w Q):CallV π Z 151 #[x0,x1] w Q:=
 cl Tryz.func151 f151.an [x0,x1] (by kernel_rfl) (by kernel_rfl) h

def f152.sh (Z:PZ) (x0 x1:Value) (w:World) (Q:PQ):Prop:=
 CallV π Z 195 #[x0,x1] w fun t1 w=>
 rN π Z (Builtin.append_ #[43,43] 43 #[(.slice none 0 0),t1]) w fun t2 w=>
 Q t2 w
def f152.an:An:=(.q (.sq .leaf .leaf))
theorem f152.calls {Z:PZ} {x0 x1:Value} {w:World} {Q:PQ} (h:f152.sh Z x0 x1 w Q):CallV π Z 152 #[x0,x1] w Q:=
 cl Tryz.func152 f152.an [x0,x1] (by kernel_rfl) (by kernel_rfl) h

def f153.sh (Z:PZ) (x0 x1 x2:Value) (w:World) (Q:PQ):Prop:=
 CallV π Z 196 #[x0] w fun t1 w=>
 CallV π Z 155 #[x0] w fun t2 w=>
 rN π Z (convert 21 3 t2) w fun t3 w=>
 CallV π Z 160 #[x0] w fun t4 w=>
 rN π Z (Op.unary .not t4) w fun t5 w=>
 cV t5 (
 Q (.slice none 0 0) w) (
 rN π Z (binOp .lss 3 t3 (.int .i64 0)) w fun t6 w=>
 gW (t6) false (fun k=>k (t3) w) (fun t7 w=>
 gW (t6) false (fun k=>k (x1) w) (fun t8 w=>
 gW (t6) false (fun k=>rN π Z (binOp .gtr 3 t7 t8) w k) (fun t9 w=>
 rN π Z (pickV t6 (.bool true) t9) w fun t10 w=>
 cV t10 (
 CallV π Z 197 #[x0,t1,(.int .i64 11)] w fun t11 w=>
 Q (.slice none 0 0) w) (
 runX π Z (nilChk x0) w fun t12 w=>
 rN π Z (fieldAt 198 t12 1) w fun t13 w=>
 rN π Z (loadAt 43 t13) w fun t14 w=>
 rN π Z (Builtin.len_ #[43] 3 #[t14]) w fun t15 w=>
 rN π Z (binOp .gtr 3 t3 t15) w fun t16 w=>
 cV t16 (
 CallV π Z 197 #[x0,t1,(.int .i64 10)] w fun t17 w=>
 Q (.slice none 0 0) w) (
 rN π Z (eqOp .eql 204 false true x2 .nilFunc) w fun t18 w=>
 cV t18 (
 rN π Z (Instr.makeSlice 44 t3 t3) w fun t19 w=>
 Q t19 w) (
 ∃J_20:Nat→Value→PQ,(∃m,J_20 m (.slice none 0 0) (.int .i64 0) w) ∧
 ∀m_20,∀t21:Value,∀t22:Value,∀w:World,J_20 m_20 t21 t22 w→Env →
 rN π Z (binOp .lss 3 t22 t3) w fun t23 w=>
 cV t23 (
 runX π Z (callVal x2 #[x0]) w fun t24 w=>
 rN π Z (Instr.alloc 140 true (.tuple #[])) w fun t25 w=>
 rO π Z (storeAt 140 t25 t24) w fun w=>
 CallV π Z 160 #[x0] w fun t26 w=>
 rN π Z (Op.unary .not t26) w fun t27 w=>
 cV t27 (
 Q (.slice none 0 0) w) (
 rN π Z (loadAt 140 t25) w fun t28 w=>
 rN π Z (Instr.buildSlice 44 1 #[(0,t28)]) w fun t29 w=>
 rN π Z (Builtin.append_ #[44,44] 44 #[t21,t29]) w fun t30 w=>
 rN π Z (binOp .add 3 t22 (.int .i64 1)) w fun t31 w=>
 ∃n_20,n_20 < m_20∧J_20 n_20 t30 t31 w)) (
 Q t21 w))))) w) w) w)
def f153.an:An:=(.q (.q (.q (.sq (.q (.cn (.sq .leaf .leaf) .leaf)) (.sq (.bl (.q (.cn (.q (.sq .leaf .leaf)) (.q (.cn (.q (.sq .leaf .leaf)) .leaf))))) (.sq (.q (.cn (.sq .leaf .leaf) .leaf)) (.q (.sq (.q (.bl (.lp [9,46] (.q (.sq (.c) (.sq (.bl (.q (.sq (.q (.cn (.sq .leaf .leaf) .leaf)) .leaf))) .leaf)))))) (.sq .leaf .leaf)))))))))
theorem f153.calls {Z:PZ} {x0 x1 x2:Value} {w:World} {Q:PQ} (h:f153.sh Z x0 x1 x2 w Q):CallV π Z 153 #[x0,x1,x2] w Q:=
 cl Tryz.func153 f153.an [x0,x1,x2] (by kernel_rfl) (by kernel_rfl) h

def f154.sh (Z:PZ) (x0:Value) (w:World) (Q:PQ):Prop:=
 rN π Z (Instr.alloc 140 true (.tuple #[])) w fun t1 w=>
 CallV π Z 98 #[x0] w fun t2 w=>
 CallV π Z 158 #[x0] w fun t3 w=>
 rN π Z (Instr.build 140 #[(0,t2),(1,t3)]) w fun t4 w=>
 rO π Z (storeAt 140 t1 t4) w fun w=>
 ∃r_5,(do loadVar 140 (← asAddr t1):Sem Value).run π w=.ok r_5 w ∧
 Q r_5 w
def f154.an:An:=(.q (.q (.sq .leaf .leaf)))
theorem f154.calls {Z:PZ} {x0:Value} {w:World} {Q:PQ} (h:f154.sh Z x0 w Q):CallV π Z 154 #[x0] w Q:=
 cl Tryz.func154 f154.an [x0] (by kernel_rfl) (by kernel_rfl) h

def f155.sh (Z:PZ) (x0:Value) (w:World) (Q:PQ):Prop:=
 CallV π Z 148 #[x0,(.int .i64 4)] w fun t1 w=>
 rN π Z (convert 162 21 t1) w fun t2 w=>
 Q t2 w
def f155.an:An:=(.q (.sq .leaf .leaf))
theorem f155.calls {Z:PZ} {x0:Value} {w:World} {Q:PQ} (h:f155.sh Z x0 w Q):CallV π Z 155 #[x0] w Q:=
 cl Tryz.func155 f155.an [x0] (by kernel_rfl) (by kernel_rfl) h

def f156.sh (Z:PZ) (x0:Value) (w:World) (Q:PQ):Prop:=
 CallV π Z 194 #[x0,(.int .i64 1)] w fun t1 w=>
 rN π Z (extract t1 0) w fun t2 w=>
 rN π Z (extract t1 1) w fun t3 w=>
 rN π Z (Op.unary .not t3) w fun t4 w=>
 cV t4 (
 Q (.bool false) w) (
 rN π Z (indexAt 43 t2 (.int .i64 0)) w fun t5 w=>
 rN π Z (loadAt 5 t5) w fun t6 w=>
 rN π Z (binOp .gtr 5 t6 (.int .u8 1)) w fun t7 w=>
 cV t7 (
 runX π Z (nilChk x0) w fun t8 w=>
 rN π Z (fieldAt 198 t8 2) w fun t9 w=>
 rO π Z (storeAt 30 t9 (.int .i64 12)) w fun w=>
 Q (.bool false) w) (
 runX π Z (nilChk x0) w fun t10 w=>
 rN π Z (fieldAt 198 t10 1) w fun t11 w=>
 rN π Z (loadAt 43 t11) w fun t12 w=>
 rN π Z (Instr.sliceAt 43 t12 (some (.int .i64 1)) none none) w fun t13 w=>
 runX π Z (nilChk x0) w fun t14 w=>
 rN π Z (fieldAt 198 t14 1) w fun t15 w=>
 rO π Z (storeAt 43 t15 t13) w fun w=>
 rN π Z (indexAt 43 t2 (.int .i64 0)) w fun t16 w=>
 rN π Z (loadAt 5 t16) w fun t17 w=>
 rN π Z (eqOp .eql 5 false true t17 (.int .u8 1)) w fun t18 w=>
 Q t18 w))
def f156.an:An:=(.q (.q (.sq (.q (.cn (.sq .leaf .leaf) .leaf)) (.sq (.q (.cn (.q (.sq .leaf .leaf)) .leaf)) (.q (.sq .leaf .leaf))))))
theorem f156.calls {Z:PZ} {x0:Value} {w:World} {Q:PQ} (h:f156.sh Z x0 w Q):CallV π Z 156 #[x0] w Q:=
 cl Tryz.func156 f156.an [x0] (by kernel_rfl) (by kernel_rfl) h

def f157.sh (Z:PZ) (x0 x1 x2:Value) (w:World) (Q:PQ):Prop:=
 CallV π Z 196 #[x0] w fun t1 w=>
 CallV π Z 155 #[x0] w fun t2 w=>
 rN π Z (convert 21 3 t2) w fun t3 w=>
 CallV π Z 160 #[x0] w fun t4 w=>
 rN π Z (Op.unary .not t4) w fun t5 w=>
 cV t5 (
 Q (.slice none 0 0) w) (
 rN π Z (binOp .lss 3 t3 (.int .i64 0)) w fun t6 w=>
 gW (t6) false (fun k=>k (t3) w) (fun t7 w=>
 gW (t6) false (fun k=>k (x1) w) (fun t8 w=>
 gW (t6) false (fun k=>rN π Z (binOp .gtr 3 t7 t8) w k) (fun t9 w=>
 rN π Z (pickV t6 (.bool true) t9) w fun t10 w=>
 cV t10 (
 CallV π Z 197 #[x0,t1,(.int .i64 11)] w fun t11 w=>
 Q (.slice none 0 0) w) (
 runX π Z (nilChk x0) w fun t12 w=>
 rN π Z (fieldAt 198 t12 1) w fun t13 w=>
 rN π Z (loadAt 43 t13) w fun t14 w=>
 rN π Z (Builtin.len_ #[43] 3 #[t14]) w fun t15 w=>
 rN π Z (binOp .gtr 3 t3 t15) w fun t16 w=>
 cV t16 (
 CallV π Z 197 #[x0,t1,(.int .i64 10)] w fun t17 w=>
 Q (.slice none 0 0) w) (
 rN π Z (eqOp .eql 207 false true x2 .nilFunc) w fun t18 w=>
 cV t18 (
 rN π Z (Instr.makeSlice 45 t3 t3) w fun t19 w=>
 Q t19 w) (
 ∃J_20:Nat→Value→PQ,(∃m,J_20 m (.slice none 0 0) (.int .i64 0) w) ∧
 ∀m_20,∀t21:Value,∀t22:Value,∀w:World,J_20 m_20 t21 t22 w→Env →
 rN π Z (binOp .lss 3 t22 t3) w fun t23 w=>
 cV t23 (
 runX π Z (callVal x2 #[x0]) w fun t24 w=>
 rN π Z (Instr.alloc 138 true (.tuple #[])) w fun t25 w=>
 rO π Z (storeAt 138 t25 t24) w fun w=>
 CallV π Z 160 #[x0] w fun t26 w=>
 rN π Z (Op.unary .not t26) w fun t27 w=>
 cV t27 (
 Q (.slice none 0 0) w) (
 rN π Z (loadAt 138 t25) w fun t28 w=>
 rN π Z (Instr.buildSlice 45 1 #[(0,t28)]) w fun t29 w=>
 rN π Z (Builtin.append_ #[45,45] 45 #[t21,t29]) w fun t30 w=>
 rN π Z (binOp .add 3 t22 (.int .i64 1)) w fun t31 w=>
 ∃n_20,n_20 < m_20∧J_20 n_20 t30 t31 w)) (
 Q t21 w))))) w) w) w)
def f157.an:An:=(.q (.q (.q (.sq (.q (.cn (.sq .leaf .leaf) .leaf)) (.sq (.bl (.q (.cn (.q (.sq .leaf .leaf)) (.q (.cn (.q (.sq .leaf .leaf)) .leaf))))) (.sq (.q (.cn (.sq .leaf .leaf) .leaf)) (.q (.sq (.q (.bl (.lp [9,46] (.q (.sq (.c) (.sq (.bl (.q (.sq (.q (.cn (.sq .leaf .leaf) .leaf)) .leaf))) .leaf)))))) (.sq .leaf .leaf)))))))))
theorem f157.calls {Z:PZ} {x0 x1 x2:Value} {w:World} {Q:PQ} (h:f157.sh Z x0 x1 x2 w Q):CallV π Z 157 #[x0,x1,x2] w Q:=
 cl Tryz.func157 f157.an [x0,x1,x2] (by kernel_rfl) (by kernel_rfl) h

def f158.sh (Z:PZ) (x0:Value) (w:World) (Q:PQ):Prop:=
 rN π Z (Instr.alloc 138 true (.tuple #[])) w fun t1 w=>
 CallV π Z 151 #[x0,(.int .i64 24)] w fun t2 w=>
 CallV π Z 151 #[x0,(.int .i64 24)] w fun t3 w=>
 rN π Z (Instr.build 138 #[(0,t2),(1,t3)]) w fun t4 w=>
 rO π Z (storeAt 138 t1 t4) w fun w=>
 ∃r_5,(do loadVar 138 (← asAddr t1):Sem Value).run π w=.ok r_5 w ∧
 Q r_5 w
def f158.an:An:=(.q (.q (.sq .leaf .leaf)))
theorem f158.calls {Z:PZ} {x0:Value} {w:World} {Q:PQ} (h:f158.sh Z x0 w Q):CallV π Z 158 #[x0] w Q:=
 cl Tryz.func158 f158.an [x0] (by kernel_rfl) (by kernel_rfl) h

def f159.sh (Z:PZ) (x0 x1 x2:Value) (w:World) (Q:PQ):Prop:=
 CallV π Z 196 #[x0] w fun t1 w=>
 CallV π Z 155 #[x0] w fun t2 w=>
 rN π Z (convert 21 3 t2) w fun t3 w=>
 CallV π Z 160 #[x0] w fun t4 w=>
 rN π Z (Op.unary .not t4) w fun t5 w=>
 cV t5 (
 Q (.slice none 0 0) w) (
 rN π Z (binOp .lss 3 t3 (.int .i64 0)) w fun t6 w=>
 gW (t6) false (fun k=>k (t3) w) (fun t7 w=>
 gW (t6) false (fun k=>k (x1) w) (fun t8 w=>
 gW (t6) false (fun k=>rN π Z (binOp .gtr 3 t7 t8) w k) (fun t9 w=>
 rN π Z (pickV t6 (.bool true) t9) w fun t10 w=>
 cV t10 (
 CallV π Z 197 #[x0,t1,(.int .i64 11)] w fun t11 w=>
 Q (.slice none 0 0) w) (
 runX π Z (nilChk x0) w fun t12 w=>
 rN π Z (fieldAt 198 t12 1) w fun t13 w=>
 rN π Z (loadAt 43 t13) w fun t14 w=>
 rN π Z (Builtin.len_ #[43] 3 #[t14]) w fun t15 w=>
 rN π Z (binOp .gtr 3 t3 t15) w fun t16 w=>
 cV t16 (
 CallV π Z 197 #[x0,t1,(.int .i64 10)] w fun t17 w=>
 Q (.slice none 0 0) w) (
 rN π Z (eqOp .eql 149 false true x2 .nilFunc) w fun t18 w=>
 cV t18 (
 rN π Z (Instr.makeSlice 46 t3 t3) w fun t19 w=>
 Q t19 w) (
 ∃J_20:Nat→Value→PQ,(∃m,J_20 m (.slice none 0 0) (.int .i64 0) w) ∧
 ∀m_20,∀t21:Value,∀t22:Value,∀w:World,J_20 m_20 t21 t22 w→Env →
 rN π Z (binOp .lss 3 t22 t3) w fun t23 w=>
 cV t23 (
 runX π Z (callVal x2 #[x0]) w fun t24 w=>
 rN π Z (Instr.alloc 48 true (.tuple #[])) w fun t25 w=>
 rO π Z (storeAt 48 t25 t24) w fun w=>
 CallV π Z 160 #[x0] w fun t26 w=>
 rN π Z (Op.unary .not t26) w fun t27 w=>
 cV t27 (
 Q (.slice none 0 0) w) (
 rN π Z (loadAt 48 t25) w fun t28 w=>
 rN π Z (Instr.buildSlice 46 1 #[(0,t28)]) w fun t29 w=>
 rN π Z (Builtin.append_ #[46,46] 46 #[t21,t29]) w fun t30 w=>
 rN π Z (binOp .add 3 t22 (.int .i64 1)) w fun t31 w=>
 ∃n_20,n_20 < m_20∧J_20 n_20 t30 t31 w)) (
 Q t21 w))))) w) w) w)
def f159.an:An:=(.q (.q (.q (.sq (.q (.cn (.sq .leaf .leaf) .leaf)) (.sq (.bl (.q (.cn (.q (.sq .leaf .leaf)) (.q (.cn (.q (.sq .leaf .leaf)) .leaf))))) (.sq (.q (.cn (.sq .leaf .leaf) .leaf)) (.q (.sq (.q (.bl (.lp [9,46] (.q (.sq (.c) (.sq (.bl (.q (.sq (.q (.cn (.sq .leaf .leaf) .leaf)) .leaf))) .leaf)))))) (.sq .leaf .leaf)))))))))
theorem f159.calls {Z:PZ} {x0 x1 x2:Value} {w:World} {Q:PQ} (h:f159.sh Z x0 x1 x2 w Q):CallV π Z 159 #[x0,x1,x2] w Q:=
 cl Tryz.func159 f159.an [x0,x1,x2] (by kernel_rfl) (by kernel_rfl) h

def f160.sh (Z:PZ) (x0:Value) (w:World) (Q:PQ):Prop:=
 CallV π Z 198 #[x0] w fun t1 w=>
 rN π Z (Op.unary .not t1) w fun t2 w=>
 gW (t2) true (fun k=>k (x0) w) (fun t3 w=>
 gW (t2) true (fun k=>runX π Z (nilChk t3) w k) (fun t4 w=>
 gW (t2) true (fun k=>rN π Z (fieldAt 198 t4 2) w k) (fun t5 w=>
 gW (t2) true (fun k=>rN π Z (loadAt 30 t5) w k) (fun t6 w=>
 gW (t2) true (fun k=>rN π Z (eqOp .eql 30 false true t6 (.int .i64 0)) w k) (fun t7 w=>
 rN π Z (pickV t2 t7 (.bool false)) w fun t8 w=>
 Q t8 w) w) w) w) w) w
def f160.an:An:=(.q (.sq .leaf .leaf))
theorem f160.calls {Z:PZ} {x0:Value} {w:World} {Q:PQ} (h:f160.sh Z x0 w Q):CallV π Z 160 #[x0] w Q:=
 cl Tryz.func160 f160.an [x0] (by kernel_rfl) (by kernel_rfl) h

def f161.sh (Z:PZ) (x0:Value) (w:World) (Q:PQ):Prop:=
 CallV π Z 198 #[x0] w fun t1 w=>
 cV t1 (
 Q (.int .i64 1) w) (
 runX π Z (nilChk x0) w fun t2 w=>
 rN π Z (fieldAt 198 t2 2) w fun t3 w=>
 rN π Z (loadAt 30 t3) w fun t4 w=>
 Q t4 w)
def f161.an:An:=(.q (.sq (.q (.cn (.sq .leaf .leaf) .leaf)) (.sq .leaf .leaf)))
theorem f161.calls {Z:PZ} {x0:Value} {w:World} {Q:PQ} (h:f161.sh Z x0 w Q):CallV π Z 161 #[x0] w Q:=
 cl Tryz.func161 f161.an [x0] (by kernel_rfl) (by kernel_rfl) h

def f162.sh (Z:PZ) (x0 x1:Value) (w:World) (Q:PQ):Prop:=
 rN π Z (loadAt 131 x1) w fun t1 w=>
 rN π Z (binOp .and 131 t1 x0) w fun t2 w=>
 rN π Z (eqOp .neq 131 false true t2 (.int .u64 0)) w fun t3 w=>
 Q t3 w
def f162.an:An:=(.q (.sq .leaf .leaf))
theorem f162.calls {Z:PZ} {x0 x1:Value} {w:World} {Q:PQ} (h:f162.sh Z x0 x1 w Q):CallV π Z 162 #[x0,x1] w Q:=
 cl Tryz.func162 f162.an [x0,x1] (by kernel_rfl) (by kernel_rfl) h

def f163.sh (Z:PZ) (x0:Value) (w:World) (Q:PQ):Prop:=
 rN π Z (Instr.box 138 x0) w fun t1 w=>
 rN π Z (fieldAt 138 t1 0) w fun t2 w=>
 rN π Z (loadAt 9 t2) w fun t3 w=>
 rN π Z (Builtin.len_ #[9] 3 #[t3]) w fun t4 w=>
 rN π Z (binOp .leq 3 t4 (.int .i64 24)) w fun t5 w=>
 gW (t5) true (fun k=>rN π Z (fieldAt 138 t1 1) w k) (fun t6 w=>
 gW (t5) true (fun k=>rN π Z (loadAt 9 t6) w k) (fun t7 w=>
 gW (t5) true (fun k=>rN π Z (Builtin.len_ #[9] 3 #[t7]) w k) (fun t8 w=>
 gW (t5) true (fun k=>rN π Z (binOp .leq 3 t8 (.int .i64 24)) w k) (fun t9 w=>
 rN π Z (pickV t5 t9 (.bool false)) w fun t10 w=>
 Q t10 w) w) w) w) w
def f163.an:An:=(.q (.sq .leaf .leaf))
theorem f163.calls {Z:PZ} {x0:Value} {w:World} {Q:PQ} (h:f163.sh Z x0 w Q):CallV π Z 163 #[x0] w Q:=
 cl Tryz.func163 f163.an [x0] (by kernel_rfl) (by kernel_rfl) h

def f164.sh (Z:PZ) (x0 x1:Value) (w:World) (Q:PQ):Prop:=
 CallV π Z 199 #[x0,x1] w fun t1 w=>
 rN π Z (binOp .geq 3 t1 (.int .i64 0)) w fun t2 w=>
 Q t2 w
def f164.an:An:=(.q (.sq .leaf .leaf))
theorem f164.calls {Z:PZ} {x0 x1:Value} {w:World} {Q:PQ} (h:f164.sh Z x0 x1 w Q):CallV π Z 164 #[x0,x1] w Q:=
 cl Tryz.func164 f164.an [x0,x1] (by kernel_rfl) (by kernel_rfl) h

def f165.sh (Z:PZ) (x0:Value) (w:World) (Q:PQ):Prop:=
 rN π Z (Instr.box 138 x0) w fun t1 w=>
 rN π Z (loadAt 138 t1) w fun t2 w=>
 CallV π Z 163 #[t2] w fun t3 w=>
 rN π Z (Op.unary .not t3) w fun t4 w=>
 Q t4 w
def f165.an:An:=(.q (.sq .leaf .leaf))
theorem f165.calls {Z:PZ} {x0:Value} {w:World} {Q:PQ} (h:f165.sh Z x0 w Q):CallV π Z 165 #[x0] w Q:=
 cl Tryz.func165 f165.an [x0] (by kernel_rfl) (by kernel_rfl) h

def f166.sh (Z:PZ) (x0:Value) (w:World) (Q:PQ):Prop:=
 rN π Z (binOp .or 5 x0 (.int .u8 32)) w fun t1 w=>
 Q t1 w
def f166.an:An:=(.q (.sq .leaf .leaf))
theorem f166.calls {Z:PZ} {x0:Value} {w:World} {Q:PQ} (h:f166.sh Z x0 w Q):CallV π Z 166 #[x0] w Q:=
 cl Tryz.func166 f166.an [x0] (by kernel_rfl) (by kernel_rfl) h

def f179.sh (Z:PZ) (x0 x1 x2:Value) (w:World) (Q:PQ):Prop:=
 rN π Z (eqOp .eql 181 false true x0 (.pointer none)) w fun t1 w=>
 cV t1 (
 Q (Value.tuple #[]) w) (
 rN π Z (binOp .sub 3 x2 (.int .i64 1)) w fun t2 w=>
 ∃J_3:Nat→PQ,(∃m,J_3 m t2 w) ∧
 ∀m_3,∀t4:Value,∀w:World,J_3 m_3 t4 w→Env →
 rN π Z (binOp .geq 3 t4 (.int .i64 0)) w fun t5 w=>
 cV t5 (
 Drawn w fun w=>
 PureV π (nilChk x0) fun t6=>
 pU π (fieldAt 183 t6 0) fun t7=>
 rD π (loadAt 43 t7) w fun t8=>
 pU π (binOp .mul 3 (.int .i64 8) t4) fun t9=>
 pU π (binOp .shr 162 x1 t9) fun t10=>
 pU π (convert 162 5 t10) fun t11=>
 rN π Z (Instr.buildSlice 43 1 #[(0,t11)]) w fun t12 w=>
 Still π (nx (loadAt 43 t7)) t8 w <|
 rN π Z (Builtin.append_ #[43,43] 43 #[t8,t12]) w fun t13 w=>
 PureV π (nilChk x0) fun t14=>
 pU π (fieldAt 183 t14 0) fun t15=>
 rO π Z (storeAt 43 t15 t13) w fun w=>
 rN π Z (binOp .sub 3 t4 (.int .i64 1)) w fun t16 w=>
 ∃n_3,n_3 < m_3∧J_3 n_3 t16 w) (
 Q (Value.tuple #[]) w))
def f179.an:An:=(.sq (.q (.c)) (.q (.bl (.lp [6] (.sq (.q (.c)) (.sq (.bl (.dr (pl [0,4,8,12,17,20,24,28,32,36,42,46,48,52,58] .fin))) .leaf))))))
theorem f179.calls {Z:PZ} {x0 x1 x2:Value} {w:World} {Q:PQ} (h:f179.sh Z x0 x1 x2 w Q):CallV π Z 179 #[x0,x1,x2] w Q:=
 cl Tryz.func179 f179.an [x0,x1,x2] (by kernel_rfl) (by kernel_rfl) h

def f180.sh (Z:PZ) (x0 x1:Value) (w:World) (Q:PQ):Prop:=
 rN π Z (eqOp .eql 181 false true x0 (.pointer none)) w fun t1 w=>
 cV t1 (
 Q (Value.tuple #[]) w) (
 rN π Z (Builtin.len_ #[9] 3 #[x1]) w fun t2 w=>
 rN π Z (convert 3 21 t2) w fun t3 w=>
 CallV π Z 184 #[x0,t3] w fun t4 w=>
 runX π Z (nilChk x0) w fun t5 w=>
 rN π Z (fieldAt 183 t5 0) w fun t6 w=>
 rN π Z (loadAt 43 t6) w fun t7 w=>
 rN π Z (Builtin.append_ #[43,9] 43 #[t7,x1]) w fun t8 w=>
 runX π Z (nilChk x0) w fun t9 w=>
 rN π Z (fieldAt 183 t9 0) w fun t10 w=>
 rO π Z (storeAt 43 t10 t8) w fun w=>
 Q (Value.tuple #[]) w)
def f180.an:An:=(.sq (.q (.c)) (.sq .leaf .leaf))
theorem f180.calls {Z:PZ} {x0 x1:Value} {w:World} {Q:PQ} (h:f180.sh Z x0 x1 w Q):CallV π Z 180 #[x0,x1] w Q:=
 cl Tryz.func180 f180.an [x0,x1] (by kernel_rfl) (by kernel_rfl) h

def f181.sh (Z:PZ) (x0 x1:Value) (w:World) (Q:PQ):Prop:=
 rN π Z (eqOp .eql 181 false true x0 (.pointer none)) w fun t1 w=>
 cV t1 (
 Q (Value.tuple #[]) w) (
 rN π Z (Builtin.len_ #[43] 3 #[x1]) w fun t2 w=>
 rN π Z (convert 3 21 t2) w fun t3 w=>
 CallV π Z 184 #[x0,t3] w fun t4 w=>
 CallV π Z 203 #[x0,x1] w fun t5 w=>
 Q (Value.tuple #[]) w)
def f181.an:An:=(.sq (.q (.c)) (.sq .leaf .leaf))
theorem f181.calls {Z:PZ} {x0 x1:Value} {w:World} {Q:PQ} (h:f181.sh Z x0 x1 w Q):CallV π Z 181 #[x0,x1] w Q:=
 cl Tryz.func181 f181.an [x0,x1] (by kernel_rfl) (by kernel_rfl) h

def f182.sh (Z:PZ) (x0 x1 x2:Value) (w:World) (Q:PQ):Prop:=
 rN π Z (eqOp .eql 181 false true x0 (.pointer none)) w fun t1 w=>
 cV t1 (
 Q (Value.tuple #[]) w) (
 rN π Z (Builtin.len_ #[44] 3 #[x1]) w fun t2 w=>
 rN π Z (convert 3 21 t2) w fun t3 w=>
 CallV π Z 184 #[x0,t3] w fun t4 w=>
 rN π Z (eqOp .eql 231 false true x2 .nilFunc) w fun t5 w=>
 cV t5 (
 Q (Value.tuple #[]) w) (
 rN π Z (Builtin.len_ #[44] 3 #[x1]) w fun t6 w=>
 ∃J_7:Nat→PQ,(∃m,J_7 m (.int .i64 0) w) ∧
 ∀m_7,∀t8:Value,∀w:World,J_7 m_7 t8 w→Env →
 rN π Z (binOp .lss 3 t8 t6) w fun t9 w=>
 cV t9 (
 rN π Z (indexAt 44 x1 t8) w fun t10 w=>
 rN π Z (loadAt 140 t10) w fun t11 w=>
 rN π Z (Instr.alloc 140 true (.tuple #[])) w fun t12 w=>
 rO π Z (storeAt 140 t12 t11) w fun w=>
 rN π Z (loadAt 140 t12) w fun t13 w=>
 runX π Z (callVal x2 #[x0,t13]) w fun t14 w=>
 rN π Z (binOp .add 3 t8 (.int .i64 1)) w fun t15 w=>
 ∃n_7,n_7 < m_7∧J_7 n_7 t15 w) (
 Q (Value.tuple #[]) w)))
def f182.an:An:=(.sq (.q (.c)) (.q (.sq (.q (.c)) (.q (.bl (.lp [19] (.q (.sq (.c) (.sq (.bl (.sq .leaf .leaf)) .leaf)))))))))
theorem f182.calls {Z:PZ} {x0 x1 x2:Value} {w:World} {Q:PQ} (h:f182.sh Z x0 x1 x2 w Q):CallV π Z 182 #[x0,x1,x2] w Q:=
 cl Tryz.func182 f182.an [x0,x1,x2] (by kernel_rfl) (by kernel_rfl) h

def f183.sh (Z:PZ) (x0 x1:Value) (w:World) (Q:PQ):Prop:=
 rN π Z (Instr.box 140 x1) w fun t1 w=>
 rN π Z (fieldAt 140 t1 0) w fun t2 w=>
 rN π Z (loadAt 40 t2) w fun t3 w=>
 CallV π Z 136 #[x0,t3] w fun t4 w=>
 rN π Z (fieldAt 140 t1 1) w fun t5 w=>
 rN π Z (loadAt 138 t5) w fun t6 w=>
 CallV π Z 187 #[x0,t6] w fun t7 w=>
 Q (Value.tuple #[]) w
def f183.an:An:=(.q (.sq .leaf .leaf))
theorem f183.calls {Z:PZ} {x0 x1:Value} {w:World} {Q:PQ} (h:f183.sh Z x0 x1 w Q):CallV π Z 183 #[x0,x1] w Q:=
 cl Tryz.func183 f183.an [x0,x1] (by kernel_rfl) (by kernel_rfl) h

def f184.sh (Z:PZ) (x0 x1:Value) (w:World) (Q:PQ):Prop:=
 rN π Z (convert 21 162 x1) w fun t1 w=>
 CallV π Z 179 #[x0,t1,(.int .i64 4)] w fun t2 w=>
 Q (Value.tuple #[]) w
def f184.an:An:=.leaf
theorem f184.calls {Z:PZ} {x0 x1:Value} {w:World} {Q:PQ} (h:f184.sh Z x0 x1 w Q):CallV π Z 184 #[x0,x1] w Q:=
 cl Tryz.func184 f184.an [x0,x1] (by kernel_rfl) (by kernel_rfl) h

def f185.sh (Z:PZ) (x0 x1:Value) (w:World) (Q:PQ):Prop:=
 ∀j_1:PQ,(∀t2:Value,∀w:World,(Env →
 CallV π Z 179 #[x0,t2,(.int .i64 1)] w fun t3 w=>
 Q (Value.tuple #[]) w) →
 j_1 t2 w) →
 cV x1 (
 j_1 (.int .u64 1) w) (
 j_1 (.int .u64 0) w)
def f185.an:An:=(.q (.sj [4] (.q (.c)) .leaf))
theorem f185.calls {Z:PZ} {x0 x1:Value} {w:World} {Q:PQ} (h:f185.sh Z x0 x1 w Q):CallV π Z 185 #[x0,x1] w Q:=
 cl Tryz.func185 f185.an [x0,x1] (by kernel_rfl) (by kernel_rfl) h

def f186.sh (Z:PZ) (x0 x1 x2:Value) (w:World) (Q:PQ):Prop:=
 rN π Z (eqOp .eql 181 false true x0 (.pointer none)) w fun t1 w=>
 cV t1 (
 Q (Value.tuple #[]) w) (
 rN π Z (Builtin.len_ #[45] 3 #[x1]) w fun t2 w=>
 rN π Z (convert 3 21 t2) w fun t3 w=>
 CallV π Z 184 #[x0,t3] w fun t4 w=>
 rN π Z (eqOp .eql 235 false true x2 .nilFunc) w fun t5 w=>
 cV t5 (
 Q (Value.tuple #[]) w) (
 rN π Z (Builtin.len_ #[45] 3 #[x1]) w fun t6 w=>
 ∃J_7:Nat→PQ,(∃m,J_7 m (.int .i64 0) w) ∧
 ∀m_7,∀t8:Value,∀w:World,J_7 m_7 t8 w→Env →
 rN π Z (binOp .lss 3 t8 t6) w fun t9 w=>
 cV t9 (
 rN π Z (indexAt 45 x1 t8) w fun t10 w=>
 rN π Z (loadAt 138 t10) w fun t11 w=>
 rN π Z (Instr.alloc 138 true (.tuple #[])) w fun t12 w=>
 rO π Z (storeAt 138 t12 t11) w fun w=>
 rN π Z (loadAt 138 t12) w fun t13 w=>
 runX π Z (callVal x2 #[x0,t13]) w fun t14 w=>
 rN π Z (binOp .add 3 t8 (.int .i64 1)) w fun t15 w=>
 ∃n_7,n_7 < m_7∧J_7 n_7 t15 w) (
 Q (Value.tuple #[]) w)))
def f186.an:An:=(.sq (.q (.c)) (.q (.sq (.q (.c)) (.q (.bl (.lp [19] (.q (.sq (.c) (.sq (.bl (.sq .leaf .leaf)) .leaf)))))))))
theorem f186.calls {Z:PZ} {x0 x1 x2:Value} {w:World} {Q:PQ} (h:f186.sh Z x0 x1 x2 w Q):CallV π Z 186 #[x0,x1,x2] w Q:=
 cl Tryz.func186 f186.an [x0,x1,x2] (by kernel_rfl) (by kernel_rfl) h

def f187.sh (Z:PZ) (x0 x1:Value) (w:World) (Q:PQ):Prop:=
 rN π Z (Instr.box 138 x1) w fun t1 w=>
 rN π Z (fieldAt 138 t1 0) w fun t2 w=>
 rN π Z (loadAt 9 t2) w fun t3 w=>
 CallV π Z 180 #[x0,t3] w fun t4 w=>
 rN π Z (fieldAt 138 t1 1) w fun t5 w=>
 rN π Z (loadAt 9 t5) w fun t6 w=>
 CallV π Z 180 #[x0,t6] w fun t7 w=>
 Q (Value.tuple #[]) w
def f187.an:An:=(.q (.sq .leaf .leaf))
theorem f187.calls {Z:PZ} {x0 x1:Value} {w:World} {Q:PQ} (h:f187.sh Z x0 x1 w Q):CallV π Z 187 #[x0,x1] w Q:=
 cl Tryz.func187 f187.an [x0,x1] (by kernel_rfl) (by kernel_rfl) h

def f188.sh (Z:PZ) (x0 x1 x2:Value) (w:World) (Q:PQ):Prop:=
 rN π Z (eqOp .eql 181 false true x0 (.pointer none)) w fun t1 w=>
 cV t1 (
 Q (Value.tuple #[]) w) (
 rN π Z (Builtin.len_ #[46] 3 #[x1]) w fun t2 w=>
 rN π Z (convert 3 21 t2) w fun t3 w=>
 CallV π Z 184 #[x0,t3] w fun t4 w=>
 rN π Z (eqOp .eql 187 false true x2 .nilFunc) w fun t5 w=>
 cV t5 (
 Q (Value.tuple #[]) w) (
 rN π Z (Builtin.len_ #[46] 3 #[x1]) w fun t6 w=>
 ∃J_7:Nat→PQ,(∃m,J_7 m (.int .i64 0) w) ∧
 ∀m_7,∀t8:Value,∀w:World,J_7 m_7 t8 w→Env →
 rN π Z (binOp .lss 3 t8 t6) w fun t9 w=>
 cV t9 (
 rN π Z (indexAt 46 x1 t8) w fun t10 w=>
 rN π Z (loadAt 48 t10) w fun t11 w=>
 rN π Z (Instr.alloc 48 true (.tuple #[])) w fun t12 w=>
 rO π Z (storeAt 48 t12 t11) w fun w=>
 rN π Z (loadAt 48 t12) w fun t13 w=>
 runX π Z (callVal x2 #[x0,t13]) w fun t14 w=>
 rN π Z (binOp .add 3 t8 (.int .i64 1)) w fun t15 w=>
 ∃n_7,n_7 < m_7∧J_7 n_7 t15 w) (
 Q (Value.tuple #[]) w)))
def f188.an:An:=(.sq (.q (.c)) (.q (.sq (.q (.c)) (.q (.bl (.lp [19] (.q (.sq (.c) (.sq (.bl (.sq .leaf .leaf)) .leaf)))))))))
theorem f188.calls {Z:PZ} {x0 x1 x2:Value} {w:World} {Q:PQ} (h:f188.sh Z x0 x1 x2 w Q):CallV π Z 188 #[x0,x1,x2] w Q:=
 cl Tryz.func188 f188.an [x0,x1,x2] (by kernel_rfl) (by kernel_rfl) h

def f191.sh (Z:PZ) (x0:Value) (w:World) (Q:PQ):Prop:=
 rN π Z (binOp .sub 3 x0 (.int .i64 1)) w fun t1 w=>
 rN π Z (binOp .and 3 x0 t1) w fun t2 w=>
 rN π Z (eqOp .eql 3 false true t2 (.int .i64 0)) w fun t3 w=>
 Q t3 w
def f191.an:An:=(.q (.sq .leaf .leaf))
theorem f191.calls {Z:PZ} {x0:Value} {w:World} {Q:PQ} (h:f191.sh Z x0 w Q):CallV π Z 191 #[x0] w Q:=
 cl Tryz.func191 f191.an [x0] (by kernel_rfl) (by kernel_rfl) h

def f192.sh (Z:PZ) (x0:Value) (w:World) (Q:PQ):Prop:=
 cV (.bool false) (
 rN π Z (convert 131 37 x0) w fun t1 w=>
 CallV π Z 204 #[t1] w fun t2 w=>
 Q t2 w) (
 CallV π Z 205 #[x0] w fun t3 w=>
 Q t3 w)
def f192.an:An:=(.q (.sq (.cn (.sq .leaf .leaf) .leaf) (.sq .leaf .leaf)))
theorem f192.calls {Z:PZ} {x0:Value} {w:World} {Q:PQ} (h:f192.sh Z x0 w Q):CallV π Z 192 #[x0] w Q:=
 cl Tryz.func192 f192.an [x0] (by kernel_rfl) (by kernel_rfl) h

def f193.sh (Z:PZ) (x0:Value) (w:World) (Q:PQ):Prop:=
 rN π Z (Instr.box 189 x0) w fun t1 w=>
 rN π Z (indexAt 189 t1 (.int .i64 0)) w fun t2 w=>
 rN π Z (loadAt 5 t2) w fun t3 w=>
 rN π Z (convert 5 3 t3) w fun t4 w=>
 rN π Z (binOp .shl 3 t4 (.int .u64 24)) w fun t5 w=>
 rN π Z (indexAt 189 t1 (.int .i64 1)) w fun t6 w=>
 rN π Z (loadAt 5 t6) w fun t7 w=>
 rN π Z (convert 5 3 t7) w fun t8 w=>
 rN π Z (binOp .shl 3 t8 (.int .u64 16)) w fun t9 w=>
 rN π Z (binOp .or 3 t5 t9) w fun t10 w=>
 rN π Z (indexAt 189 t1 (.int .i64 2)) w fun t11 w=>
 rN π Z (loadAt 5 t11) w fun t12 w=>
 rN π Z (convert 5 3 t12) w fun t13 w=>
 rN π Z (binOp .shl 3 t13 (.int .u64 8)) w fun t14 w=>
 rN π Z (binOp .or 3 t10 t14) w fun t15 w=>
 rN π Z (indexAt 189 t1 (.int .i64 3)) w fun t16 w=>
 rN π Z (loadAt 5 t16) w fun t17 w=>
 rN π Z (convert 5 3 t17) w fun t18 w=>
 rN π Z (binOp .or 3 t15 t18) w fun t19 w=>
 Q t19 w
def f193.an:An:=(.q (.sq .leaf .leaf))
theorem f193.calls {Z:PZ} {x0:Value} {w:World} {Q:PQ} (h:f193.sh Z x0 w Q):CallV π Z 193 #[x0] w Q:=
 cl Tryz.func193 f193.an [x0] (by kernel_rfl) (by kernel_rfl) h

def f194.sh (Z:PZ) (x0 x1:Value) (w:World) (Q:PQ):Prop:=
 CallV π Z 160 #[x0] w fun t1 w=>
 rN π Z (Op.unary .not t1) w fun t2 w=>
 cV t2 (
 Q (Value.tuple #[(.slice none 0 0),(.bool false)]) w) (
 runX π Z (nilChk x0) w fun t3 w=>
 rN π Z (fieldAt 198 t3 1) w fun t4 w=>
 rN π Z (loadAt 43 t4) w fun t5 w=>
 rN π Z (Builtin.len_ #[43] 3 #[t5]) w fun t6 w=>
 rN π Z (binOp .lss 3 t6 x1) w fun t7 w=>
 cV t7 (
 runX π Z (nilChk x0) w fun t8 w=>
 rN π Z (fieldAt 198 t8 2) w fun t9 w=>
 rO π Z (storeAt 30 t9 (.int .i64 10)) w fun w=>
 Q (Value.tuple #[(.slice none 0 0),(.bool false)]) w) (
 runX π Z (nilChk x0) w fun t10 w=>
 rN π Z (fieldAt 198 t10 1) w fun t11 w=>
 rN π Z (loadAt 43 t11) w fun t12 w=>
 rN π Z (Instr.sliceAt 43 t12 none (some x1) (some x1)) w fun t13 w=>
 Q (Value.tuple #[t13,(.bool true)]) w))
def f194.an:An:=(.q (.sq (.q (.cn (.sq .leaf .leaf) .leaf)) (.sq (.q (.cn (.q (.sq .leaf .leaf)) .leaf)) (.sq .leaf .leaf))))
theorem f194.calls {Z:PZ} {x0 x1:Value} {w:World} {Q:PQ} (h:f194.sh Z x0 x1 w Q):CallV π Z 194 #[x0,x1] w Q:=
 cl Tryz.func194 f194.an [x0,x1] (by kernel_rfl) (by kernel_rfl) h

def f195.sh (Z:PZ) (x0 x1:Value) (w:World) (Q:PQ):Prop:=
 CallV π Z 196 #[x0] w fun t1 w=>
 CallV π Z 155 #[x0] w fun t2 w=>
 rN π Z (convert 21 3 t2) w fun t3 w=>
 CallV π Z 160 #[x0] w fun t4 w=>
 rN π Z (Op.unary .not t4) w fun t5 w=>
 cV t5 (
 Q (.slice none 0 0) w) (
 rN π Z (binOp .lss 3 t3 (.int .i64 0)) w fun t6 w=>
 gW (t6) false (fun k=>k (t3) w) (fun t7 w=>
 gW (t6) false (fun k=>k (x1) w) (fun t8 w=>
 gW (t6) false (fun k=>rN π Z (binOp .gtr 3 t7 t8) w k) (fun t9 w=>
 rN π Z (pickV t6 (.bool true) t9) w fun t10 w=>
 cV t10 (
 CallV π Z 197 #[x0,t1,(.int .i64 11)] w fun t11 w=>
 Q (.slice none 0 0) w) (
 CallV π Z 194 #[x0,t3] w fun t12 w=>
 rN π Z (extract t12 0) w fun t13 w=>
 rN π Z (extract t12 1) w fun t14 w=>
 rN π Z (Op.unary .not t14) w fun t15 w=>
 cV t15 (
 CallV π Z 197 #[x0,t1,(.int .i64 10)] w fun t16 w=>
 Q (.slice none 0 0) w) (
 runX π Z (nilChk x0) w fun t17 w=>
 rN π Z (fieldAt 198 t17 1) w fun t18 w=>
 rN π Z (loadAt 43 t18) w fun t19 w=>
 rN π Z (Instr.sliceAt 43 t19 (some t3) none none) w fun t20 w=>
 runX π Z (nilChk x0) w fun t21 w=>
 rN π Z (fieldAt 198 t21 1) w fun t22 w=>
 rO π Z (storeAt 43 t22 t20) w fun w=>
 Q t13 w))) w) w) w)
def f195.an:An:=(.q (.q (.q (.sq (.q (.cn (.sq .leaf .leaf) .leaf)) (.sq (.q (.cn (.q (.sq .leaf .leaf)) .leaf)) (.q (.sq (.q (.cn (.q (.sq .leaf .leaf)) .leaf)) (.q (.sq .leaf .leaf)))))))))
theorem f195.calls {Z:PZ} {x0 x1:Value} {w:World} {Q:PQ} (h:f195.sh Z x0 x1 w Q):CallV π Z 195 #[x0,x1] w Q:=
 cl Tryz.func195 f195.an [x0,x1] (by kernel_rfl) (by kernel_rfl) h

def f196.sh (Z:PZ) (x0:Value) (w:World) (Q:PQ):Prop:=
 CallV π Z 198 #[x0] w fun t1 w=>
 cV t1 (
 Q (.slice none 0 0) w) (
 runX π Z (nilChk x0) w fun t2 w=>
 rN π Z (fieldAt 198 t2 1) w fun t3 w=>
 rN π Z (loadAt 43 t3) w fun t4 w=>
 Q t4 w)
def f196.an:An:=(.q (.sq (.q (.cn (.sq .leaf .leaf) .leaf)) (.sq .leaf .leaf)))
theorem f196.calls {Z:PZ} {x0:Value} {w:World} {Q:PQ} (h:f196.sh Z x0 w Q):CallV π Z 196 #[x0] w Q:=
 cl Tryz.func196 f196.an [x0] (by kernel_rfl) (by kernel_rfl) h

def f197.sh (Z:PZ) (x0 x1 x2:Value) (w:World) (Q:PQ):Prop:=
 runX π Z (nilChk x0) w fun t1 w=>
 rN π Z (fieldAt 198 t1 1) w fun t2 w=>
 rO π Z (storeAt 43 t2 x1) w fun w=>
 runX π Z (nilChk x0) w fun t3 w=>
 rN π Z (fieldAt 198 t3 2) w fun t4 w=>
 rO π Z (storeAt 30 t4 x2) w fun w=>
 Q (Value.tuple #[]) w
def f197.an:An:=.leaf
theorem f197.calls {Z:PZ} {x0 x1 x2:Value} {w:World} {Q:PQ} (h:f197.sh Z x0 x1 x2 w Q):CallV π Z 197 #[x0,x1,x2] w Q:=
 cl Tryz.func197 f197.an [x0,x1,x2] (by kernel_rfl) (by kernel_rfl) h

def f198.sh (Z:PZ) (x0:Value) (w:World) (Q:PQ):Prop:=
 rN π Z (eqOp .eql 142 false true x0 (.pointer none)) w fun t1 w=>
 gW (t1) false (fun k=>k (x0) w) (fun t2 w=>
 gW (t1) false (fun k=>runX π Z (nilChk t2) w k) (fun t3 w=>
 gW (t1) false (fun k=>rN π Z (fieldAt 198 t3 0) w k) (fun t4 w=>
 gW (t1) false (fun k=>rN π Z (loadAt 4 t4) w k) (fun t5 w=>
 gW (t1) false (fun k=>rN π Z (Op.unary .not t5) w k) (fun t6 w=>
 rN π Z (pickV t1 (.bool true) t6) w fun t7 w=>
 Q t7 w) w) w) w) w) w
def f198.an:An:=(.q (.sq .leaf .leaf))
theorem f198.calls {Z:PZ} {x0:Value} {w:World} {Q:PQ} (h:f198.sh Z x0 w Q):CallV π Z 198 #[x0] w Q:=
 cl Tryz.func198 f198.an [x0] (by kernel_rfl) (by kernel_rfl) h

def f199.sh (Z:PZ) (x0 x1:Value) (w:World) (Q:PQ):Prop:=
 rN π Z (Builtin.len_ #[45] 3 #[x0]) w fun t1 w=>
 ∃J_2:Nat→PQ,(∃m,J_2 m (.int .i64 0) w) ∧
 ∀m_2,∀t3:Value,∀w:World,J_2 m_2 t3 w→Env →
 rN π Z (binOp .lss 3 t3 t1) w fun t4 w=>
 cV t4 (
 rN π Z (indexAt 45 x0 t3) w fun t5 w=>
 rN π Z (loadAt 138 t5) w fun t6 w=>
 runX π Z (callVal x1 #[t6]) w fun t7 w=>
 cV t7 (
 Q t3 w) (
 rN π Z (binOp .add 3 t3 (.int .i64 1)) w fun t8 w=>
 ∃n_2,n_2 < m_2∧J_2 n_2 t8 w)) (
 Q (.int .i64 (-1)) w)
def f199.an:An:=(.q (.sq (.q (.bl (.lp [8] (.q (.sq (.c) (.sq (.bl (.q (.q (.cn (.sq .leaf .leaf) .leaf)))) .leaf)))))) (.sq .leaf .leaf)))
theorem f199.calls {Z:PZ} {x0 x1:Value} {w:World} {Q:PQ} (h:f199.sh Z x0 x1 w Q):CallV π Z 199 #[x0,x1] w Q:=
 cl Tryz.func199 f199.an [x0,x1] (by kernel_rfl) (by kernel_rfl) h

def f203.sh (Z:PZ) (x0 x1:Value) (w:World) (Q:PQ):Prop:=
 rN π Z (eqOp .neq 181 false true x0 (.pointer none)) w fun t1 w=>
 cV t1 (
 runX π Z (nilChk x0) w fun t2 w=>
 rN π Z (fieldAt 183 t2 0) w fun t3 w=>
 rN π Z (loadAt 43 t3) w fun t4 w=>
 rN π Z (Builtin.append_ #[43,43] 43 #[t4,x1]) w fun t5 w=>
 runX π Z (nilChk x0) w fun t6 w=>
 rN π Z (fieldAt 183 t6 0) w fun t7 w=>
 rO π Z (storeAt 43 t7 t5) w fun w=>
 Q (Value.tuple #[]) w) (
 Q (Value.tuple #[]) w)
def f203.an:An:=(.q (.c))
theorem f203.calls {Z:PZ} {x0 x1:Value} {w:World} {Q:PQ} (h:f203.sh Z x0 x1 w Q):CallV π Z 203 #[x0,x1] w Q:=
 cl Tryz.func203 f203.an [x0,x1] (by kernel_rfl) (by kernel_rfl) h

def f205.sh (Z:PZ) (x0:Value) (w:World) (Q:PQ):Prop:=
 rN π Z (eqOp .eql 162 false true x0 (.int .u64 0)) w fun t1 w=>
 cV t1 (
 Q (.int .i64 64) w) (
 rN π Z (Op.unary .neg x0) w fun t2 w=>
 rN π Z (binOp .and 162 x0 t2) w fun t3 w=>
 rN π Z (binOp .mul 162 t3 (.int .u64 285870213051353865)) w fun t4 w=>
 rN π Z (binOp .shr 162 t4 (.int .u64 58)) w fun t5 w=>
 rN π Z (indexAt 255 (.pointer (some ⟨5,0,none⟩)) t5) w fun t6 w=>
 rN π Z (loadAt 5 t6) w fun t7 w=>
 rN π Z (convert 5 3 t7) w fun t8 w=>
 Q t8 w)
def f205.an:An:=(.q (.sq (.q (.cn (.sq .leaf .leaf) .leaf)) (.sq .leaf .leaf)))
theorem f205.calls {Z:PZ} {x0:Value} {w:World} {Q:PQ} (h:f205.sh Z x0 w Q):CallV π Z 205 #[x0] w Q:=
 cl Tryz.func205 f205.an [x0] (by kernel_rfl) (by kernel_rfl) h

