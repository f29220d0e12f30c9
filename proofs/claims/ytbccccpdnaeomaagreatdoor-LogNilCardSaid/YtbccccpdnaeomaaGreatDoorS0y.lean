import Derived.Test.YtbccccpdnaeomaaGreatDoorShBase
import Derived.Test.YtbccccpdnaeomaaGreatDoorShLoop
set_option linter.unusedVariables false
namespace Go.Proofs.YtbccccpdnaeomaaGreatDoor
open Go.Sh
def f38.sh (x0 x1 : Value) (w : World) (Q : Value → World → Prop) : Prop :=
 run1 Tryz.prog noZ (Instr.box 32 x0) w fun t1 w =>
 run1 Tryz.prog noZ (Instr.alloc 3 true (.tuple #[])) w fun t2 w =>
 run1 Tryz.prog noZ (Instr.alloc 4 true (.tuple #[])) w fun t3 w =>
 run0 Tryz.prog noZ (Instr.storeAt 4 t3 (.bool true)) w fun w =>
 CallV Tryz.prog noZ 63 #[x1] w fun t4 w =>
 rangeV Tryz.prog t4 w (fun (l_5 : Nat) (rc_5 : LoopState → Option Code → Loop) (y_5 z_5 : Value) (w : World) (k_5 : Value → World → Prop) =>
 w.heap[l_5]? = some (.loop (rc_5 .ready none)) ∧ (fun w : World =>
 CallV Tryz.prog noZ 64 #[z_5] w fun t6 w =>
 run1 Tryz.prog noZ (Instr.extract t6 0) w fun t7 w =>
 run1 Tryz.prog noZ (Instr.extract t6 1) w fun t8 w =>
 run1 Tryz.prog noZ (Instr.alloc 60 true (.tuple #[])) w fun t9 w =>
 run0 Tryz.prog noZ (Instr.storeAt 60 t9 t7) w fun w =>
 Drawn w fun w =>
 Pure1 Tryz.prog (eqOp .neq 25 false true t8 (.int .i64 0)) fun t10 =>
 guardV (t10) false (fun k => Read1 Tryz.prog (Instr.loadAt 60 t9) w k) (fun t11 =>
 guardV (t10) false (fun k => Read1 Tryz.prog (Instr.loadAt 32 t1) w k) (fun t12 =>
 guardV (t10) false (fun k => PureV Tryz.prog (nilChk t12) k) (fun t13 =>
 guardV (t10) false (fun k => Pure1 Tryz.prog (Instr.fieldAt 39 t13 5) k) (fun t14 =>
 guardV (t10) false (fun k => Read1 Tryz.prog (Instr.loadAt 37 t14) w k) (fun t15 =>
 guardW (t10) false (fun k => CallV Tryz.prog noZ 31 #[t11, t15] w k) (fun t16 w =>
 Still Tryz.prog (gSem (t10) false (nx (Instr.loadAt 32 t1))) t12 w <|
 guardV (t10) false (fun k => Pure1 Tryz.prog (eqOp .neq 25 false true t16 (.int .i64 0)) k) (fun t17 =>
 Pure1 Tryz.prog (pickV t10 (.bool true) t17) fun t18 =>
 CondV t18 (
 run0 Tryz.prog noZ (Instr.storeAt 4 t3 (.bool false)) w fun w =>
 w.heap[l_5]? = some (.loop (rc_5 .busy none)) ∧ k_5 (.bool false) (w.putObj l_5 (.loop (rc_5 .done (some (.exit 0)))))) (
 Drawn w fun w =>
 Read1 Tryz.prog (Instr.loadAt 32 t1) w fun t19 =>
 Read1 Tryz.prog (Instr.loadAt 32 t1) w fun t20 =>
 PureV Tryz.prog (nilChk t20) fun t21 =>
 Pure1 Tryz.prog (Instr.fieldAt 39 t21 6) fun t22 =>
 Read1 Tryz.prog (Instr.loadAt 30 t22) w fun t23 =>
 Read1 Tryz.prog (Instr.loadAt 60 t9) w fun t24 =>
 run1 Tryz.prog noZ (Instr.buildSlice 30 1 #[(0, t24)]) w fun t25 w =>
 Still Tryz.prog (nx (Instr.loadAt 30 t22)) t23 w <|
 Still Tryz.prog (nx (Instr.loadAt 32 t1)) t20 w <|
 Still Tryz.prog (nx (Instr.loadAt 32 t1)) t19 w <|
 run1 Tryz.prog noZ (Builtin.append_ #[30, 30] 30 #[t23, t25]) w fun t26 w =>
 Still Tryz.prog (nx (Instr.loadAt 32 t1)) t20 w <|
 Still Tryz.prog (nx (Instr.loadAt 32 t1)) t19 w <|
 PureV Tryz.prog (nilChk t19) fun t27 =>
 Pure1 Tryz.prog (Instr.fieldAt 39 t27 6) fun t28 =>
 run0 Tryz.prog noZ (Instr.storeAt 30 t28 t26) w fun w =>
 run1 Tryz.prog noZ (Instr.loadAt 32 t1) w fun t29 w =>
 run1 Tryz.prog noZ (Instr.fieldAt 60 t9 0) w fun t30 w =>
 run1 Tryz.prog noZ (Instr.loadAt 37 t30) w fun t31 w =>
 runX Tryz.prog noZ (nilChk t29) w fun t32 w =>
 run1 Tryz.prog noZ (Instr.fieldAt 39 t32 5) w fun t33 w =>
 run0 Tryz.prog noZ (Instr.storeAt 37 t33 t31) w fun w =>
 run1 Tryz.prog noZ (Instr.loadAt 32 t1) w fun t34 w =>
 runX Tryz.prog noZ (nilChk t34) w fun t35 w =>
 run1 Tryz.prog noZ (Instr.fieldAt 39 t35 4) w fun t36 w =>
 run1 Tryz.prog noZ (Instr.loadAt 3 t36) w fun t37 w =>
 run1 Tryz.prog noZ (binOp .add 3 t37 (.int .i64 1)) w fun t38 w =>
 runX Tryz.prog noZ (nilChk t34) w fun t39 w =>
 run1 Tryz.prog noZ (Instr.fieldAt 39 t39 4) w fun t40 w =>
 run0 Tryz.prog noZ (Instr.storeAt 3 t40 t38) w fun w =>
 run0 Tryz.prog noZ (Instr.storeAt 3 t2 y_5) w fun w =>
 w.heap[l_5]? = some (.loop (rc_5 .busy none)) ∧ k_5 (.bool true) (w.putObj l_5 (.loop (rc_5 .ready none)))))) w)))))) (w.putObj l_5 (.loop (rc_5 .busy none))))
 (fun (D_5 : Nat) (w : World) =>
 Drawn w fun w =>
 Read1 Tryz.prog (Instr.loadAt 3 t2) w fun t45 =>
 Read1 Tryz.prog (Instr.loadAt 4 t3) w fun t46 =>
 run0 Tryz.prog noZ (Instr.storeAt 3 t2 t45) w fun w =>
 Still Tryz.prog (nx (Instr.loadAt 4 t3)) t46 w <|
 run0 Tryz.prog noZ (Instr.storeAt 4 t3 t46) w fun w =>
 leaveD D_5 w fun w =>
 ∃ r_47, (do loadVar 3 (← asAddr t2) : Sem Value).run Tryz.prog w = .ok r_47 w ∧
 ∃ r_48, (do loadVar 4 (← asAddr t3) : Sem Value).run Tryz.prog w = .ok r_48 w ∧
 Q (Value.tuple #[r_47, r_48]) w)
 (fun (D_5 : Nat) (w : World) =>
 leaveD D_5 w fun w =>
 ∃ r_49, (do loadVar 3 (← asAddr t2) : Sem Value).run Tryz.prog w = .ok r_49 w ∧
 ∃ r_50, (do loadVar 4 (← asAddr t3) : Sem Value).run Tryz.prog w = .ok r_50 w ∧
 Q (Value.tuple #[r_49, r_50]) w)
 (fun (i D_5 : Nat) (w : World) =>
 bif Nat.beq i 0 then
 Drawn w fun w =>
 Read1 Tryz.prog (Instr.loadAt 3 t2) w fun t41 =>
 Read1 Tryz.prog (Instr.loadAt 4 t3) w fun t42 =>
 run0 Tryz.prog noZ (Instr.storeAt 3 t2 t41) w fun w =>
 Still Tryz.prog (nx (Instr.loadAt 4 t3)) t42 w <|
 run0 Tryz.prog noZ (Instr.storeAt 4 t3 t42) w fun w =>
 leaveD D_5 w fun w =>
 ∃ r_43, (do loadVar 3 (← asAddr t2) : Sem Value).run Tryz.prog w = .ok r_43 w ∧
 ∃ r_44, (do loadVar 4 (← asAddr t3) : Sem Value).run Tryz.prog w = .ok r_44 w ∧
 Q (Value.tuple #[r_43, r_44]) w
 else
 False)
def f38.an : AnG := (.sq (.o .leaf) (.sc (.sq (.o .leaf) (.sq (.o .leaf) (.sq (.sq (.o .leaf) (.bl (.rf (.sq .leaf .leaf) (.bl (.sq .leaf (.sq (.sq (.dr (pl [0, 4, 8, 13, 17, 20, 24, 29, 34, 36, 40] .fin)) (.cn (.sq .leaf .leaf) .leaf)) (.sq (.dr (pl [1, 5, 8, 12, 17, 21, 26, 30, 32, 36, 42] .fin)) (.sq .leaf (.sq .leaf .leaf))))))))) (.o (.sq (.dr (pl [1, 5, 10, 14] .fin)) .leaf)))))))
theorem f38.calls {Z : List PanicEntry → World → Prop} {x0 x1 : Value} {w : World} {Q : Value → World → Prop} (h : f38.sh x0 x1 w Q) : CallV Tryz.prog Z 38 #[x0, x1] w Q :=
 clG follows ents Tryz.func38 f38.an [x0, x1] (by kernel_rfl) (by kernel_rfl) h

def f86.sh (x0 x1 : Value) (w : World) (Q : Value → World → Prop) : Prop :=
 run1 Tryz.prog noZ (Instr.box 133 x0) w fun t1 w =>
 run1 Tryz.prog noZ (Instr.loadAt 53 x1) w fun t2 w =>
 CallV Tryz.prog noZ 87 #[t2] w fun t3 w =>
 rangeV Tryz.prog t3 w (fun (l_4 : Nat) (rc_4 : LoopState → Option Code → Loop) (y_4 z_4 : Value) (w : World) (k_4 : Value → World → Prop) =>
 w.heap[l_4]? = some (.loop (rc_4 .ready none)) ∧ (fun w : World =>
 Drawn w fun w =>
 Read1 Tryz.prog (Instr.loadAt 133 t1) w fun t5 =>
 CallV Tryz.prog noZ 85 #[z_4] w fun t6 w =>
 Still Tryz.prog (nx (Instr.loadAt 133 t1)) t5 w <|
 runY Tryz.prog noZ (callVal t5 #[y_4, t6]) w fun t7 w =>
 Pure1 Tryz.prog (Op.unary .not t7) fun t8 =>
 CondV t8 (
 w.heap[l_4]? = some (.loop (rc_4 .busy none)) ∧ k_4 (.bool false) (w.putObj l_4 (.loop (rc_4 .done (some .ret))))) (
 w.heap[l_4]? = some (.loop (rc_4 .busy none)) ∧ k_4 (.bool true) (w.putObj l_4 (.loop (rc_4 .ready none))))) (w.putObj l_4 (.loop (rc_4 .busy none))))
 (fun (D_4 : Nat) (w : World) =>
 leaveD D_4 w fun w =>
 Q (Value.tuple #[]) w)
 (fun (D_4 : Nat) (w : World) =>
 leaveD D_4 w fun w =>
 Q (Value.tuple #[]) w)
 (fun (i D_4 : Nat) (w : World) =>
 bif Nat.beq i 0 then
 leaveD D_4 w fun w =>
 Q (Value.tuple #[]) w
 else
 False)
def f86.an : AnG := (.sq (.o .leaf) (.sq (.o .leaf) (.bl (.rf (.sq .leaf .leaf) (.bl (.sq (.dr (pl [1, 4, 8, 14, 18, 20] .fin)) (.cn .leaf .leaf)))))))
theorem f86.calls {Z : List PanicEntry → World → Prop} {x0 x1 : Value} {w : World} {Q : Value → World → Prop} (h : f86.sh x0 x1 w Q) : CallV Tryz.prog Z 86 #[x0, x1] w Q :=
 clG follows ents Tryz.func86 f86.an [x0, x1] (by kernel_rfl) (by kernel_rfl) h

def f131.sh (Z : List PanicEntry → World → Prop) (x0 x1 : Value) (w : World) (Q : Value → World → Prop) : Prop :=
 run1 Tryz.prog Z (Instr.loadAt 53 x1) w fun t1 w =>
 CallV Tryz.prog Z 132 #[t1] w fun t2 w =>
 ∃ J_3 : Nat → Value → Value → World → Prop, (∃ m, J_3 m (.int .i64 0) t2 w) ∧
 ∀ m_3, ∀ t4 : Value, ∀ t5 : Value, ∀ w : World, J_3 m_3 t4 t5 w → Env →
 run1 Tryz.prog Z (eqOp .neq 53 false true t5 (.slice none 0 0)) w fun t6 w =>
 CondV t6 (
 run1 Tryz.prog Z (Builtin.len_ #[53] 3 #[t5]) w fun t7 w =>
 run1 Tryz.prog Z (binOp .add 3 (.int .i64 8) t7) w fun t8 w =>
 run1 Tryz.prog Z (binOp .add 3 t8 (.int .i64 1)) w fun t9 w =>
 run1 Tryz.prog Z (binOp .add 3 t4 t9) w fun t10 w =>
 runY Tryz.prog Z (callVal x0 #[t10, t5]) w fun t11 w =>
 run1 Tryz.prog Z (Op.unary .not t11) w fun t12 w =>
 CondV t12 (
 Q (Value.tuple #[]) w) (
 run1 Tryz.prog Z (Instr.loadAt 53 x1) w fun t13 w =>
 run1 Tryz.prog Z (Instr.sliceAt 53 t13 (some t10) none none) w fun t14 w =>
 CallV Tryz.prog Z 132 #[t14] w fun t15 w =>
 ∃ n_3, n_3 < m_3 ∧ J_3 n_3 t10 t15 w)) (
 Q (Value.tuple #[]) w)
def f131.an : An := (.sq .leaf (.sq .leaf (.bl (.lp [3, 4] (.sq (.sq .leaf (.cn .leaf .leaf)) (.sq (.bl (.sq .leaf (.sq .leaf (.cn .leaf .leaf)))) .leaf))))))
theorem f131.calls {Z : List PanicEntry → World → Prop} {x0 x1 : Value} {w : World} {Q : Value → World → Prop} (h : f131.sh Z x0 x1 w Q) : CallV Tryz.prog Z 131 #[x0, x1] w Q :=
 clY follows ents Tryz.func131 f131.an [x0, x1] (by kernel_rfl) (by kernel_rfl) h

end Go.Proofs.YtbccccpdnaeomaaGreatDoor
