import Derived.Test.YthobnaagjhooeaaGreatDoorShBase
set_option linter.unusedVariables false
namespace Go.Proofs.YthobnaagjhooeaaGreatDoor
open Go.Sh
def f85.sh (Z : List PanicEntry → World → Prop) (x0 : Value) (w : World) (Q : Value → World → Prop) : Prop :=
 CallV Tryz.prog Z 105 #[x0] w fun t4_1 w =>
 run1 Tryz.prog Z (binOp BinOp.add 9 (Value.string { data := #[33] }) t4_1) w fun t5_2 w =>
 Q t5_2 w
noncomputable def f85.code : Code := match Tryz.f85.body with | some c => c | none => .skip
def f85.an : An := (.sq .leaf (.sq .leaf .leaf))
theorem f85.body_eq : Tryz.f85.body = some f85.code := by kernel_rfl
theorem f85.shape (Z : List PanicEntry → World → Prop) (x0 : Value) (w : World) (Q : Value → World → Prop) : vc drawD Tryz.prog 6 Z [105] f85.an f85.code (fnQ Tryz.prog 6 Tryz.f85.results Q) (argEnv [x0]) w = f85.sh Z x0 w Q := by kernel_rfl
theorem f85.enters : ∀ f, f ∈ ([105] : List Nat) → Enters Tryz.prog f := by
 intro f hf
 simp only [List.mem_cons, List.not_mem_nil, or_false] at hf
 rcases hf with rfl
 · exact en105
theorem f85.calls {Z : List PanicEntry → World → Prop} {x0 : Value} {w : World} {Q : Value → World → Prop} (h : f85.sh Z x0 w Q) : CallV Tryz.prog Z 85 #[x0] w Q :=
 calls_of_vcn drawD_sound (Q := Q) (n := 6) (rs := Tryz.f85.results) (an := f85.an) (c := f85.code) (cal := [105]) (args := [x0]) Tryz.func85 (by kernel_rfl) rfl f85.body_eq follows (Nat.le_of_ble_eq_true (by kernel_rfl)) (enters_of_all f85.enters) ((f85.shape Z x0 w Q).mpr h)

def f86.sh (Z : List PanicEntry → World → Prop) (x0 x1 : Value) (w : World) (Q : Value → World → Prop) : Prop :=
 ∃ J_1 : Nat → Value → Value → World → Prop, (∃ m, J_1 m (Value.slice none 0 0) (Value.int IntKind.i64 0) w) ∧
 ∀ m_1, ∀ t5_2 : Value, ∀ t6_3 : Value, ∀ w : World, J_1 m_1 t5_2 t6_3 w → Env →
 run1 Tryz.prog Z (Builtin.len_ #[53] 3 #[x0]) w fun t14_4 w =>
 run1 Tryz.prog Z (binOp BinOp.lss 3 t6_3 t14_4) w fun t15_5 w =>
 CondV t15_5 (
 False) (
 ∃ J_6 : Nat → Value → World → Prop, (∃ m, J_6 m (Value.int IntKind.i64 0) w) ∧
 ∀ m_6, ∀ t9_7 : Value, ∀ w : World, J_6 m_6 t9_7 w → Env →
 run1 Tryz.prog Z (Builtin.len_ #[53] 3 #[x0]) w fun t39_8 w =>
 run1 Tryz.prog Z (binOp BinOp.lss 3 t9_7 t39_8) w fun t40_9 w =>
 CondV t40_9 (
 False) (
 Q (Value.bool true) w))
noncomputable def f86.code : Code := match Tryz.f86.body with | some c => c | none => .skip
def f86.an : An := (.sq .leaf (.sq .leaf (.sq (.sq .leaf (.bl (.lp [5, 6] [5, 6, 7, 8, 12, 13, 14, 15, 16, 17, 18, 19, 20, 21, 22, 23, 24, 25, 26, 27, 28, 29, 30, 31, 32, 33, 34, 35, 36] (.sq (.sq .leaf (.cn .leaf .leaf)) .leaf)))) (.sq (.sq .leaf (.bl (.lp [9] [4, 9, 10, 11, 37, 38, 39, 40, 41, 42, 43, 44, 45, 46, 47, 48, 49, 50, 51, 52, 53, 54, 55, 56, 57, 58, 59, 60, 61, 62, 63, 64, 65, 66, 67, 68, 69, 70, 71, 72, 73, 74, 75, 76, 77, 78, 79, 80, 81, 82, 83, 84, 85, 86, 87, 88, 89, 90, 91, 92, 93, 94, 95, 96, 97, 98, 99, 100, 101, 102, 103, 104, 105, 106, 107, 108, 109] (.sq (.sq .leaf (.cn .leaf .leaf)) .leaf)))) (.sq .leaf .leaf)))))
theorem f86.body_eq : Tryz.f86.body = some f86.code := by kernel_rfl
theorem f86.shape (Z : List PanicEntry → World → Prop) (x0 x1 : Value) (w : World) (Q : Value → World → Prop) : vc drawD Tryz.prog 110 Z [] f86.an f86.code (fnQ Tryz.prog 110 Tryz.f86.results Q) (argEnv [x0, x1]) w = f86.sh Z x0 x1 w Q := by kernel_rfl
theorem f86.enters : ∀ f, f ∈ ([] : List Nat) → Enters Tryz.prog f := by
 intro f hf
 cases hf
theorem f86.calls {Z : List PanicEntry → World → Prop} {x0 x1 : Value} {w : World} {Q : Value → World → Prop} (h : f86.sh Z x0 x1 w Q) : CallV Tryz.prog Z 86 #[x0, x1] w Q :=
 calls_of_vcn drawD_sound (Q := Q) (n := 110) (rs := Tryz.f86.results) (an := f86.an) (c := f86.code) (cal := []) (args := [x0, x1]) Tryz.func86 (by kernel_rfl) rfl f86.body_eq follows (Nat.le_of_ble_eq_true (by kernel_rfl)) (enters_of_all f86.enters) ((f86.shape Z x0 x1 w Q).mpr h)

def f87.sh (Z : List PanicEntry → World → Prop) (x0 x1 : Value) (w : World) (Q : Value → World → Prop) : Prop :=
 ∃ J_1 : Nat → Value → Value → World → Prop, (∃ m, J_1 m (Value.slice none 0 0) (Value.int IntKind.i64 0) w) ∧
 ∀ m_1, ∀ t5_2 : Value, ∀ t6_3 : Value, ∀ w : World, J_1 m_1 t5_2 t6_3 w → Env →
 run1 Tryz.prog Z (Builtin.len_ #[54] 3 #[x0]) w fun t14_4 w =>
 run1 Tryz.prog Z (binOp BinOp.lss 3 t6_3 t14_4) w fun t15_5 w =>
 CondV t15_5 (
 run1 Tryz.prog Z (Instr.indexAt 54 x0 t6_3) w fun t20_6 w =>
 run1 Tryz.prog Z (Instr.loadAt 51 t20_6) w fun t21_7 w =>
 ∃ J_8 : Nat → Value → Value → World → Prop, (∃ m, J_8 m t21_7 (Value.int IntKind.i64 0) w) ∧
 ∀ m_8, ∀ t7_9 : Value, ∀ t8_10 : Value, ∀ w : World, J_8 m_8 t7_9 t8_10 w → Env →
 run1 Tryz.prog Z (binOp BinOp.lss 3 t8_10 x1) w fun t24_11 w =>
 CondV t24_11 (
 run1 Tryz.prog Z (binOp BinOp.sub 3 (Value.int IntKind.i64 (-2000000)) t6_3) w fun t29_12 w =>
 CallV Tryz.prog Z 85 #[t29_12] w fun t30_13 w =>
 run1 Tryz.prog Z (convert 9 22 t30_13) w fun t31_14 w =>
 run1 Tryz.prog Z (Instr.buildSlice 51 1 #[(0, t31_14)]) w fun t32_15 w =>
 run1 Tryz.prog Z (Builtin.append_ #[51, 51] 51 #[t7_9, t32_15]) w fun t33_16 w =>
 run1 Tryz.prog Z (binOp BinOp.add 3 t8_10 (Value.int IntKind.i64 1)) w fun t26_17 w =>
 ∃ n_8, n_8 < m_8 ∧ J_8 n_8 t33_16 t26_17 w) (
 run1 Tryz.prog Z (Instr.buildSlice 54 1 #[(0, t7_9)]) w fun t36_18 w =>
 run1 Tryz.prog Z (Builtin.append_ #[54, 54] 54 #[t5_2, t36_18]) w fun t37_19 w =>
 run1 Tryz.prog Z (binOp BinOp.add 3 t6_3 (Value.int IntKind.i64 1)) w fun t17_20 w =>
 ∃ n_1, n_1 < m_1 ∧ J_1 n_1 t37_19 t17_20 w)) (
 ∃ J_21 : Nat → Value → World → Prop, (∃ m, J_21 m (Value.int IntKind.i64 0) w) ∧
 ∀ m_21, ∀ t9_22 : Value, ∀ w : World, J_21 m_21 t9_22 w → Env →
 run1 Tryz.prog Z (Builtin.len_ #[54] 3 #[x0]) w fun t40_23 w =>
 run1 Tryz.prog Z (binOp BinOp.lss 3 t9_22 t40_23) w fun t41_24 w =>
 CondV t41_24 (
 run1 Tryz.prog Z (Instr.indexAt 54 x0 t9_22) w fun t46_25 w =>
 run1 Tryz.prog Z (Instr.loadAt 51 t46_25) w fun t47_26 w =>
 run1 Tryz.prog Z (Builtin.len_ #[51] 3 #[t47_26]) w fun t48_27 w =>
 ∃ J_28 : Nat → Value → World → Prop, (∃ m, J_28 m (Value.int IntKind.i64 0) w) ∧
 ∀ m_28, ∀ t11_29 : Value, ∀ w : World, J_28 m_28 t11_29 w → Env →
 run1 Tryz.prog Z (binOp BinOp.add 3 t48_27 x1) w fun t52_30 w =>
 run1 Tryz.prog Z (binOp BinOp.lss 3 t11_29 t52_30) w fun t53_31 w =>
 CondV t53_31 (
 Drawn w fun w =>
 Pure1 Tryz.prog (binOp BinOp.lss 3 t11_29 t48_27) fun t58_32 =>
 guardV (t58_32) true (fun k => k (x0)) (fun t60_33 =>
 guardV (t58_32) true (fun k => k (t9_22)) (fun t61_34 =>
 guardV (t58_32) true (fun k => Pure1 Tryz.prog (Instr.indexAt 54 t60_33 t61_34) k) (fun t62_35 =>
 guardV (t58_32) true (fun k => Read1 Tryz.prog (Instr.loadAt 51 t62_35) w k) (fun t63_36 =>
 guardV (t58_32) true (fun k => k (t11_29)) (fun t64_37 =>
 guardV (t58_32) true (fun k => Pure1 Tryz.prog (Instr.indexAt 51 t63_36 t64_37) k) (fun t65_38 =>
 guardV (t58_32) true (fun k => Read1 Tryz.prog (Instr.loadAt 22 t65_38) w k) (fun t66_39 =>
 guardV (t58_32) true (fun k => Read1 Tryz.prog (convert 22 9 t66_39) w k) (fun t67_40 =>
 guardV (t58_32) true (fun k => k (t9_22)) (fun t68_41 =>
 guardV (t58_32) true (fun k => Pure1 Tryz.prog (binOp BinOp.sub 3 (Value.int IntKind.i64 (-1000000)) t68_41) k) (fun t69_42 =>
 guardW (t58_32) true (fun k => CallV Tryz.prog Z 85 #[t69_42] w k) (fun t70_43 w =>
 Still Tryz.prog (gSem (t58_32) true (nx (convert 22 9 t66_39))) t67_40 w <|
 Still Tryz.prog (gSem (t58_32) true (nx (Instr.loadAt 22 t65_38))) t66_39 w <|
 Still Tryz.prog (gSem (t58_32) true (nx (Instr.loadAt 51 t62_35))) t63_36 w <|
 guardV (t58_32) true (fun k => Pure1 Tryz.prog (eqOp BinOp.eql 9 false false t67_40 t70_43) k) (fun t71_44 =>
 guardV (t58_32) true (fun k => Pure1 Tryz.prog (Op.unary UnOp.not t71_44) k) (fun t72_45 =>
 Pure1 Tryz.prog (pickV t58_32 t72_45 (Value.bool false)) fun t73_46 =>
 guardV (t73_46) false (fun k => k (t11_29)) (fun t75_47 =>
 guardV (t73_46) false (fun k => k (t48_27)) (fun t76_48 =>
 guardV (t73_46) false (fun k => Pure1 Tryz.prog (binOp BinOp.lss 3 t75_47 t76_48) k) (fun t77_49 =>
 guardV (t73_46) false (fun k => k (t77_49)) (fun t78_50 =>
 guardV (t78_50) true (fun k => k (t5_2)) (fun t79_51 =>
 guardV (t78_50) true (fun k => k (t9_22)) (fun t80_52 =>
 guardV (t78_50) true (fun k => Pure1 Tryz.prog (Instr.indexAt 54 t79_51 t80_52) k) (fun t81_53 =>
 guardV (t78_50) true (fun k => Read1 Tryz.prog (Instr.loadAt 51 t81_53) w k) (fun t82_54 =>
 guardV (t78_50) true (fun k => k (t11_29)) (fun t83_55 =>
 guardV (t78_50) true (fun k => Pure1 Tryz.prog (Instr.indexAt 51 t82_54 t83_55) k) (fun t84_56 =>
 guardV (t78_50) true (fun k => Read1 Tryz.prog (Instr.loadAt 22 t84_56) w k) (fun t85_57 =>
 guardV (t78_50) true (fun k => Read1 Tryz.prog (convert 22 9 t85_57) w k) (fun t86_58 =>
 guardV (t78_50) true (fun k => k (t9_22)) (fun t87_59 =>
 guardV (t78_50) true (fun k => Pure1 Tryz.prog (binOp BinOp.sub 3 (Value.int IntKind.i64 (-1000000)) t87_59) k) (fun t88_60 =>
 guardW (t78_50) true (fun k => CallV Tryz.prog Z 85 #[t88_60] w k) (fun t89_61 w =>
 Still Tryz.prog (gSem (t78_50) true (nx (convert 22 9 t85_57))) t86_58 w <|
 Still Tryz.prog (gSem (t78_50) true (nx (Instr.loadAt 22 t84_56))) t85_57 w <|
 Still Tryz.prog (gSem (t78_50) true (nx (Instr.loadAt 51 t81_53))) t82_54 w <|
 Still Tryz.prog (gSem (t58_32) true (nx (convert 22 9 t66_39))) t67_40 w <|
 Still Tryz.prog (gSem (t58_32) true (nx (Instr.loadAt 22 t65_38))) t66_39 w <|
 Still Tryz.prog (gSem (t58_32) true (nx (Instr.loadAt 51 t62_35))) t63_36 w <|
 guardV (t78_50) true (fun k => Pure1 Tryz.prog (eqOp BinOp.eql 9 false false t86_58 t89_61) k) (fun t90_62 =>
 guardV (t78_50) true (fun k => Pure1 Tryz.prog (Op.unary UnOp.not t90_62) k) (fun t91_63 =>
 guardV (t73_46) false (fun k => Pure1 Tryz.prog (pickV t78_50 t91_63 (Value.bool false)) k) (fun t92_64 =>
 Pure1 Tryz.prog (pickV t73_46 (Value.bool true) t92_64) fun t93_65 =>
 guardV (t93_65) false (fun k => k (t11_29)) (fun t95_66 =>
 guardV (t93_65) false (fun k => k (t48_27)) (fun t96_67 =>
 guardV (t93_65) false (fun k => Pure1 Tryz.prog (binOp BinOp.geq 3 t95_66 t96_67) k) (fun t97_68 =>
 guardV (t93_65) false (fun k => k (t97_68)) (fun t98_69 =>
 guardV (t98_69) true (fun k => k (t5_2)) (fun t99_70 =>
 guardV (t98_69) true (fun k => k (t9_22)) (fun t100_71 =>
 guardV (t98_69) true (fun k => Pure1 Tryz.prog (Instr.indexAt 54 t99_70 t100_71) k) (fun t101_72 =>
 guardV (t98_69) true (fun k => Read1 Tryz.prog (Instr.loadAt 51 t101_72) w k) (fun t102_73 =>
 guardV (t98_69) true (fun k => k (t11_29)) (fun t103_74 =>
 guardV (t98_69) true (fun k => Pure1 Tryz.prog (Instr.indexAt 51 t102_73 t103_74) k) (fun t104_75 =>
 guardV (t98_69) true (fun k => Read1 Tryz.prog (Instr.loadAt 22 t104_75) w k) (fun t105_76 =>
 guardV (t98_69) true (fun k => Read1 Tryz.prog (convert 22 9 t105_76) w k) (fun t106_77 =>
 guardV (t98_69) true (fun k => k (t9_22)) (fun t107_78 =>
 guardV (t98_69) true (fun k => Pure1 Tryz.prog (binOp BinOp.sub 3 (Value.int IntKind.i64 (-2000000)) t107_78) k) (fun t108_79 =>
 guardW (t98_69) true (fun k => CallV Tryz.prog Z 85 #[t108_79] w k) (fun t109_80 w =>
 Still Tryz.prog (gSem (t98_69) true (nx (convert 22 9 t105_76))) t106_77 w <|
 Still Tryz.prog (gSem (t98_69) true (nx (Instr.loadAt 22 t104_75))) t105_76 w <|
 Still Tryz.prog (gSem (t98_69) true (nx (Instr.loadAt 51 t101_72))) t102_73 w <|
 Still Tryz.prog (gSem (t78_50) true (nx (convert 22 9 t85_57))) t86_58 w <|
 Still Tryz.prog (gSem (t78_50) true (nx (Instr.loadAt 22 t84_56))) t85_57 w <|
 Still Tryz.prog (gSem (t78_50) true (nx (Instr.loadAt 51 t81_53))) t82_54 w <|
 Still Tryz.prog (gSem (t58_32) true (nx (convert 22 9 t66_39))) t67_40 w <|
 Still Tryz.prog (gSem (t58_32) true (nx (Instr.loadAt 22 t65_38))) t66_39 w <|
 Still Tryz.prog (gSem (t58_32) true (nx (Instr.loadAt 51 t62_35))) t63_36 w <|
 guardV (t98_69) true (fun k => Pure1 Tryz.prog (eqOp BinOp.eql 9 false false t106_77 t109_80) k) (fun t110_81 =>
 guardV (t98_69) true (fun k => Pure1 Tryz.prog (Op.unary UnOp.not t110_81) k) (fun t111_82 =>
 guardV (t93_65) false (fun k => Pure1 Tryz.prog (pickV t98_69 t111_82 (Value.bool false)) k) (fun t112_83 =>
 Pure1 Tryz.prog (pickV t93_65 (Value.bool true) t112_83) fun t113_84 =>
 CondV t113_84 (
 Q (Value.bool false) w) (
 run1 Tryz.prog Z (binOp BinOp.add 3 t11_29 (Value.int IntKind.i64 1)) w fun t55_85 w =>
 ∃ n_28, n_28 < m_28 ∧ J_28 n_28 t55_85 w))))) w)))))))))))))))))) w))))))))))))))))) w))))))))))) (
 run1 Tryz.prog Z (binOp BinOp.add 3 t9_22 (Value.int IntKind.i64 1)) w fun t43_86 w =>
 ∃ n_21, n_21 < m_21 ∧ J_21 n_21 t43_86 w)) (
 Q (Value.bool true) w))
noncomputable def f87.code : Code := match Tryz.f87.body with | some c => c | none => .skip
def f87.an : An := (.sq .leaf (.sq .leaf (.sq (.sq .leaf (.bl (.lp [5, 6] [5, 6, 7, 8, 12, 13, 14, 15, 16, 17, 18, 19, 20, 21, 22, 23, 24, 25, 26, 27, 28, 29, 30, 31, 32, 33, 34, 35, 36, 37] (.sq (.sq .leaf (.cn .leaf .leaf)) (.sq (.bl (.sq .leaf (.sq (.sq .leaf (.bl (.lp [7, 8] [7, 8, 22, 23, 24, 25, 26, 27, 28, 29, 30, 31, 32, 33] (.sq (.sq .leaf (.cn .leaf .leaf)) (.sq (.bl .leaf) .leaf))))) .leaf))) .leaf))))) (.sq (.sq .leaf (.bl (.lp [9] [4, 9, 10, 11, 38, 39, 40, 41, 42, 43, 44, 45, 46, 47, 48, 49, 50, 51, 52, 53, 54, 55, 56, 57, 58, 59, 60, 61, 62, 63, 64, 65, 66, 67, 68, 69, 70, 71, 72, 73, 74, 75, 76, 77, 78, 79, 80, 81, 82, 83, 84, 85, 86, 87, 88, 89, 90, 91, 92, 93, 94, 95, 96, 97, 98, 99, 100, 101, 102, 103, 104, 105, 106, 107, 108, 109, 110, 111, 112, 113] (.sq (.sq .leaf (.cn .leaf .leaf)) (.sq (.bl (.sq .leaf (.sq .leaf (.bl (.lp [11] [4, 11, 49, 50, 51, 52, 53, 54, 55, 56, 57, 58, 59, 60, 61, 62, 63, 64, 65, 66, 67, 68, 69, 70, 71, 72, 73, 74, 75, 76, 77, 78, 79, 80, 81, 82, 83, 84, 85, 86, 87, 88, 89, 90, 91, 92, 93, 94, 95, 96, 97, 98, 99, 100, 101, 102, 103, 104, 105, 106, 107, 108, 109, 110, 111, 112, 113] (.sq (.sq .leaf (.cn .leaf .leaf)) (.sq (.bl (.sq (.dr (.take 0 false (.take 1 false (.take 2 false (.take 3 false (.take 4 false (.take 5 false (.take 6 false (.take 7 true (.take 8 false (.take 9 false (.take 10 true (.take 11 true (.take 12 false (.take 13 false (.one 14 (.take 15 false (.take 16 false (.take 17 false (.take 18 false (.take 19 false (.take 20 false (.take 21 false (.take 22 false (.take 23 false (.take 24 false (.take 25 false (.take 26 true (.take 27 false (.take 28 false (.take 29 true (.take 30 true (.take 31 false (.take 32 false (.one 33 (.take 34 false (.take 35 false (.take 36 false (.take 37 false (.take 38 false (.take 39 false (.take 40 false (.take 41 false (.take 42 false (.take 43 false (.take 44 false (.take 45 false (.take 46 true (.take 47 false (.take 48 false (.take 49 true (.take 50 true (.take 51 false (.take 52 false (.one 53 (.take 54 false (.take 55 false (.take 56 false (.take 57 false .fin))))))))))))))))))))))))))))))))))))))))))))))))))))))))))) (.cn (.sq .leaf .leaf) .leaf))) .leaf))))))) .leaf))))) (.sq .leaf .leaf)))))
theorem f87.body_eq : Tryz.f87.body = some f87.code := by kernel_rfl
theorem f87.shape (Z : List PanicEntry → World → Prop) (x0 x1 : Value) (w : World) (Q : Value → World → Prop) : vc drawD Tryz.prog 114 Z [85] f87.an f87.code (fnQ Tryz.prog 114 Tryz.f87.results Q) (argEnv [x0, x1]) w = f87.sh Z x0 x1 w Q := by kernel_rfl
theorem f87.enters : ∀ f, f ∈ ([85] : List Nat) → Enters Tryz.prog f := by
 intro f hf
 simp only [List.mem_cons, List.not_mem_nil, or_false] at hf
 rcases hf with rfl
 · exact en85
theorem f87.calls {Z : List PanicEntry → World → Prop} {x0 x1 : Value} {w : World} {Q : Value → World → Prop} (h : f87.sh Z x0 x1 w Q) : CallV Tryz.prog Z 87 #[x0, x1] w Q :=
 calls_of_vcn drawD_sound (Q := Q) (n := 114) (rs := Tryz.f87.results) (an := f87.an) (c := f87.code) (cal := [85]) (args := [x0, x1]) Tryz.func87 (by kernel_rfl) rfl f87.body_eq follows (Nat.le_of_ble_eq_true (by kernel_rfl)) (enters_of_all f87.enters) ((f87.shape Z x0 x1 w Q).mpr h)

def f88.sh (Z : List PanicEntry → World → Prop) (x0 x1 : Value) (w : World) (Q : Value → World → Prop) : Prop :=
 ∃ J_1 : Nat → Value → Value → World → Prop, (∃ m, J_1 m (Value.slice none 0 0) (Value.int IntKind.i64 0) w) ∧
 ∀ m_1, ∀ t5_2 : Value, ∀ t6_3 : Value, ∀ w : World, J_1 m_1 t5_2 t6_3 w → Env →
 run1 Tryz.prog Z (Builtin.len_ #[55] 3 #[x0]) w fun t14_4 w =>
 run1 Tryz.prog Z (binOp BinOp.lss 3 t6_3 t14_4) w fun t15_5 w =>
 CondV t15_5 (
 False) (
 ∃ J_6 : Nat → Value → World → Prop, (∃ m, J_6 m (Value.int IntKind.i64 0) w) ∧
 ∀ m_6, ∀ t9_7 : Value, ∀ w : World, J_6 m_6 t9_7 w → Env →
 run1 Tryz.prog Z (Builtin.len_ #[55] 3 #[x0]) w fun t40_8 w =>
 run1 Tryz.prog Z (binOp BinOp.lss 3 t9_7 t40_8) w fun t41_9 w =>
 CondV t41_9 (
 False) (
 Q (Value.bool true) w))
noncomputable def f88.code : Code := match Tryz.f88.body with | some c => c | none => .skip
def f88.an : An := (.sq .leaf (.sq .leaf (.sq (.sq .leaf (.bl (.lp [5, 6] [5, 6, 7, 8, 12, 13, 14, 15, 16, 17, 18, 19, 20, 21, 22, 23, 24, 25, 26, 27, 28, 29, 30, 31, 32, 33, 34, 35, 36, 37] (.sq (.sq .leaf (.cn .leaf .leaf)) .leaf)))) (.sq (.sq .leaf (.bl (.lp [9] [4, 9, 10, 11, 38, 39, 40, 41, 42, 43, 44, 45, 46, 47, 48, 49, 50, 51, 52, 53, 54, 55, 56, 57, 58, 59, 60, 61, 62, 63, 64, 65, 66, 67, 68, 69, 70, 71, 72, 73, 74, 75, 76, 77, 78, 79, 80, 81, 82, 83, 84, 85, 86, 87, 88, 89, 90, 91, 92, 93, 94, 95, 96, 97, 98, 99, 100, 101, 102, 103, 104, 105, 106, 107, 108, 109, 110, 111, 112, 113] (.sq (.sq .leaf (.cn .leaf .leaf)) .leaf)))) (.sq .leaf .leaf)))))
theorem f88.body_eq : Tryz.f88.body = some f88.code := by kernel_rfl
theorem f88.shape (Z : List PanicEntry → World → Prop) (x0 x1 : Value) (w : World) (Q : Value → World → Prop) : vc drawD Tryz.prog 114 Z [] f88.an f88.code (fnQ Tryz.prog 114 Tryz.f88.results Q) (argEnv [x0, x1]) w = f88.sh Z x0 x1 w Q := by kernel_rfl
theorem f88.enters : ∀ f, f ∈ ([] : List Nat) → Enters Tryz.prog f := by
 intro f hf
 cases hf
theorem f88.calls {Z : List PanicEntry → World → Prop} {x0 x1 : Value} {w : World} {Q : Value → World → Prop} (h : f88.sh Z x0 x1 w Q) : CallV Tryz.prog Z 88 #[x0, x1] w Q :=
 calls_of_vcn drawD_sound (Q := Q) (n := 114) (rs := Tryz.f88.results) (an := f88.an) (c := f88.code) (cal := []) (args := [x0, x1]) Tryz.func88 (by kernel_rfl) rfl f88.body_eq follows (Nat.le_of_ble_eq_true (by kernel_rfl)) (enters_of_all f88.enters) ((f88.shape Z x0 x1 w Q).mpr h)

def f89.sh (Z : List PanicEntry → World → Prop) (x0 x1 : Value) (w : World) (Q : Value → World → Prop) : Prop :=
 ∃ J_1 : Nat → Value → Value → World → Prop, (∃ m, J_1 m (Value.slice none 0 0) (Value.int IntKind.i64 0) w) ∧
 ∀ m_1, ∀ t5_2 : Value, ∀ t6_3 : Value, ∀ w : World, J_1 m_1 t5_2 t6_3 w → Env →
 run1 Tryz.prog Z (Builtin.len_ #[56] 3 #[x0]) w fun t14_4 w =>
 run1 Tryz.prog Z (binOp BinOp.lss 3 t6_3 t14_4) w fun t15_5 w =>
 CondV t15_5 (
 False) (
 ∃ J_6 : Nat → Value → World → Prop, (∃ m, J_6 m (Value.int IntKind.i64 0) w) ∧
 ∀ m_6, ∀ t9_7 : Value, ∀ w : World, J_6 m_6 t9_7 w → Env →
 run1 Tryz.prog Z (Builtin.len_ #[56] 3 #[x0]) w fun t41_8 w =>
 run1 Tryz.prog Z (binOp BinOp.lss 3 t9_7 t41_8) w fun t42_9 w =>
 CondV t42_9 (
 False) (
 Q (Value.bool true) w))
noncomputable def f89.code : Code := match Tryz.f89.body with | some c => c | none => .skip
def f89.an : An := (.sq .leaf (.sq .leaf (.sq (.sq .leaf (.bl (.lp [5, 6] [5, 6, 7, 8, 12, 13, 14, 15, 16, 17, 18, 19, 20, 21, 22, 23, 24, 25, 26, 27, 28, 29, 30, 31, 32, 33, 34, 35, 36, 37, 38] (.sq (.sq .leaf (.cn .leaf .leaf)) .leaf)))) (.sq (.sq .leaf (.bl (.lp [9] [4, 9, 10, 11, 39, 40, 41, 42, 43, 44, 45, 46, 47, 48, 49, 50, 51, 52, 53, 54, 55, 56, 57, 58, 59, 60, 61, 62, 63, 64, 65, 66, 67, 68, 69, 70, 71, 72, 73, 74, 75, 76, 77, 78, 79, 80, 81, 82, 83, 84, 85, 86, 87, 88, 89, 90, 91, 92, 93, 94, 95, 96, 97, 98, 99, 100, 101, 102, 103, 104, 105, 106, 107, 108, 109, 110, 111, 112, 113, 114, 115, 116, 117] (.sq (.sq .leaf (.cn .leaf .leaf)) .leaf)))) (.sq .leaf .leaf)))))
theorem f89.body_eq : Tryz.f89.body = some f89.code := by kernel_rfl
theorem f89.shape (Z : List PanicEntry → World → Prop) (x0 x1 : Value) (w : World) (Q : Value → World → Prop) : vc drawD Tryz.prog 118 Z [] f89.an f89.code (fnQ Tryz.prog 118 Tryz.f89.results Q) (argEnv [x0, x1]) w = f89.sh Z x0 x1 w Q := by kernel_rfl
theorem f89.enters : ∀ f, f ∈ ([] : List Nat) → Enters Tryz.prog f := by
 intro f hf
 cases hf
theorem f89.calls {Z : List PanicEntry → World → Prop} {x0 x1 : Value} {w : World} {Q : Value → World → Prop} (h : f89.sh Z x0 x1 w Q) : CallV Tryz.prog Z 89 #[x0, x1] w Q :=
 calls_of_vcn drawD_sound (Q := Q) (n := 118) (rs := Tryz.f89.results) (an := f89.an) (c := f89.code) (cal := []) (args := [x0, x1]) Tryz.func89 (by kernel_rfl) rfl f89.body_eq follows (Nat.le_of_ble_eq_true (by kernel_rfl)) (enters_of_all f89.enters) ((f89.shape Z x0 x1 w Q).mpr h)

def f90.sh (Z : List PanicEntry → World → Prop) (x0 x1 : Value) (w : World) (Q : Value → World → Prop) : Prop :=
 ∃ J_1 : Nat → Value → Value → World → Prop, (∃ m, J_1 m (Value.slice none 0 0) (Value.int IntKind.i64 0) w) ∧
 ∀ m_1, ∀ t5_2 : Value, ∀ t6_3 : Value, ∀ w : World, J_1 m_1 t5_2 t6_3 w → Env →
 run1 Tryz.prog Z (Builtin.len_ #[57] 3 #[x0]) w fun t14_4 w =>
 run1 Tryz.prog Z (binOp BinOp.lss 3 t6_3 t14_4) w fun t15_5 w =>
 CondV t15_5 (
 False) (
 ∃ J_6 : Nat → Value → World → Prop, (∃ m, J_6 m (Value.int IntKind.i64 0) w) ∧
 ∀ m_6, ∀ t9_7 : Value, ∀ w : World, J_6 m_6 t9_7 w → Env →
 run1 Tryz.prog Z (Builtin.len_ #[57] 3 #[x0]) w fun t39_8 w =>
 run1 Tryz.prog Z (binOp BinOp.lss 3 t9_7 t39_8) w fun t40_9 w =>
 CondV t40_9 (
 False) (
 Q (Value.bool true) w))
noncomputable def f90.code : Code := match Tryz.f90.body with | some c => c | none => .skip
def f90.an : An := (.sq .leaf (.sq .leaf (.sq (.sq .leaf (.bl (.lp [5, 6] [5, 6, 7, 8, 12, 13, 14, 15, 16, 17, 18, 19, 20, 21, 22, 23, 24, 25, 26, 27, 28, 29, 30, 31, 32, 33, 34, 35, 36] (.sq (.sq .leaf (.cn .leaf .leaf)) .leaf)))) (.sq (.sq .leaf (.bl (.lp [9] [4, 9, 10, 11, 37, 38, 39, 40, 41, 42, 43, 44, 45, 46, 47, 48, 49, 50, 51, 52, 53, 54, 55, 56, 57, 58, 59, 60, 61, 62, 63, 64, 65, 66, 67, 68, 69, 70, 71, 72, 73, 74, 75, 76, 77, 78, 79, 80, 81, 82, 83, 84, 85, 86, 87, 88, 89, 90, 91, 92, 93, 94, 95, 96, 97, 98, 99, 100, 101, 102, 103, 104, 105, 106, 107, 108, 109] (.sq (.sq .leaf (.cn .leaf .leaf)) .leaf)))) (.sq .leaf .leaf)))))
theorem f90.body_eq : Tryz.f90.body = some f90.code := by kernel_rfl
theorem f90.shape (Z : List PanicEntry → World → Prop) (x0 x1 : Value) (w : World) (Q : Value → World → Prop) : vc drawD Tryz.prog 110 Z [] f90.an f90.code (fnQ Tryz.prog 110 Tryz.f90.results Q) (argEnv [x0, x1]) w = f90.sh Z x0 x1 w Q := by kernel_rfl
theorem f90.enters : ∀ f, f ∈ ([] : List Nat) → Enters Tryz.prog f := by
 intro f hf
 cases hf
theorem f90.calls {Z : List PanicEntry → World → Prop} {x0 x1 : Value} {w : World} {Q : Value → World → Prop} (h : f90.sh Z x0 x1 w Q) : CallV Tryz.prog Z 90 #[x0, x1] w Q :=
 calls_of_vcn drawD_sound (Q := Q) (n := 110) (rs := Tryz.f90.results) (an := f90.an) (c := f90.code) (cal := []) (args := [x0, x1]) Tryz.func90 (by kernel_rfl) rfl f90.body_eq follows (Nat.le_of_ble_eq_true (by kernel_rfl)) (enters_of_all f90.enters) ((f90.shape Z x0 x1 w Q).mpr h)

def f91.sh (Z : List PanicEntry → World → Prop) (x0 x1 : Value) (w : World) (Q : Value → World → Prop) : Prop :=
 ∃ J_1 : Nat → Value → Value → World → Prop, (∃ m, J_1 m (Value.slice none 0 0) (Value.int IntKind.i64 0) w) ∧
 ∀ m_1, ∀ t5_2 : Value, ∀ t6_3 : Value, ∀ w : World, J_1 m_1 t5_2 t6_3 w → Env →
 run1 Tryz.prog Z (Builtin.len_ #[58] 3 #[x0]) w fun t14_4 w =>
 run1 Tryz.prog Z (binOp BinOp.lss 3 t6_3 t14_4) w fun t15_5 w =>
 CondV t15_5 (
 False) (
 ∃ J_6 : Nat → Value → World → Prop, (∃ m, J_6 m (Value.int IntKind.i64 0) w) ∧
 ∀ m_6, ∀ t9_7 : Value, ∀ w : World, J_6 m_6 t9_7 w → Env →
 run1 Tryz.prog Z (Builtin.len_ #[58] 3 #[x0]) w fun t40_8 w =>
 run1 Tryz.prog Z (binOp BinOp.lss 3 t9_7 t40_8) w fun t41_9 w =>
 CondV t41_9 (
 False) (
 Q (Value.bool true) w))
noncomputable def f91.code : Code := match Tryz.f91.body with | some c => c | none => .skip
def f91.an : An := (.sq .leaf (.sq .leaf (.sq (.sq .leaf (.bl (.lp [5, 6] [5, 6, 7, 8, 12, 13, 14, 15, 16, 17, 18, 19, 20, 21, 22, 23, 24, 25, 26, 27, 28, 29, 30, 31, 32, 33, 34, 35, 36, 37] (.sq (.sq .leaf (.cn .leaf .leaf)) .leaf)))) (.sq (.sq .leaf (.bl (.lp [9] [4, 9, 10, 11, 38, 39, 40, 41, 42, 43, 44, 45, 46, 47, 48, 49, 50, 51, 52, 53, 54, 55, 56, 57, 58, 59, 60, 61, 62, 63, 64, 65, 66, 67, 68, 69, 70, 71, 72, 73, 74, 75, 76, 77, 78, 79, 80, 81, 82, 83, 84, 85, 86, 87, 88, 89, 90, 91, 92, 93, 94, 95, 96, 97, 98, 99, 100, 101, 102, 103, 104, 105, 106, 107, 108, 109, 110, 111, 112, 113] (.sq (.sq .leaf (.cn .leaf .leaf)) .leaf)))) (.sq .leaf .leaf)))))
theorem f91.body_eq : Tryz.f91.body = some f91.code := by kernel_rfl
theorem f91.shape (Z : List PanicEntry → World → Prop) (x0 x1 : Value) (w : World) (Q : Value → World → Prop) : vc drawD Tryz.prog 114 Z [] f91.an f91.code (fnQ Tryz.prog 114 Tryz.f91.results Q) (argEnv [x0, x1]) w = f91.sh Z x0 x1 w Q := by kernel_rfl
theorem f91.enters : ∀ f, f ∈ ([] : List Nat) → Enters Tryz.prog f := by
 intro f hf
 cases hf
theorem f91.calls {Z : List PanicEntry → World → Prop} {x0 x1 : Value} {w : World} {Q : Value → World → Prop} (h : f91.sh Z x0 x1 w Q) : CallV Tryz.prog Z 91 #[x0, x1] w Q :=
 calls_of_vcn drawD_sound (Q := Q) (n := 114) (rs := Tryz.f91.results) (an := f91.an) (c := f91.code) (cal := []) (args := [x0, x1]) Tryz.func91 (by kernel_rfl) rfl f91.body_eq follows (Nat.le_of_ble_eq_true (by kernel_rfl)) (enters_of_all f91.enters) ((f91.shape Z x0 x1 w Q).mpr h)

def f92.sh (Z : List PanicEntry → World → Prop) (x0 x1 : Value) (w : World) (Q : Value → World → Prop) : Prop :=
 ∃ J_1 : Nat → Value → Value → World → Prop, (∃ m, J_1 m (Value.slice none 0 0) (Value.int IntKind.i64 0) w) ∧
 ∀ m_1, ∀ t5_2 : Value, ∀ t6_3 : Value, ∀ w : World, J_1 m_1 t5_2 t6_3 w → Env →
 run1 Tryz.prog Z (Builtin.len_ #[59] 3 #[x0]) w fun t14_4 w =>
 run1 Tryz.prog Z (binOp BinOp.lss 3 t6_3 t14_4) w fun t15_5 w =>
 CondV t15_5 (
 False) (
 ∃ J_6 : Nat → Value → World → Prop, (∃ m, J_6 m (Value.int IntKind.i64 0) w) ∧
 ∀ m_6, ∀ t9_7 : Value, ∀ w : World, J_6 m_6 t9_7 w → Env →
 run1 Tryz.prog Z (Builtin.len_ #[59] 3 #[x0]) w fun t39_8 w =>
 run1 Tryz.prog Z (binOp BinOp.lss 3 t9_7 t39_8) w fun t40_9 w =>
 CondV t40_9 (
 False) (
 Q (Value.bool true) w))
noncomputable def f92.code : Code := match Tryz.f92.body with | some c => c | none => .skip
def f92.an : An := (.sq .leaf (.sq .leaf (.sq (.sq .leaf (.bl (.lp [5, 6] [5, 6, 7, 8, 12, 13, 14, 15, 16, 17, 18, 19, 20, 21, 22, 23, 24, 25, 26, 27, 28, 29, 30, 31, 32, 33, 34, 35, 36] (.sq (.sq .leaf (.cn .leaf .leaf)) .leaf)))) (.sq (.sq .leaf (.bl (.lp [9] [4, 9, 10, 11, 37, 38, 39, 40, 41, 42, 43, 44, 45, 46, 47, 48, 49, 50, 51, 52, 53, 54, 55, 56, 57, 58, 59, 60, 61, 62, 63, 64, 65, 66, 67, 68, 69, 70, 71, 72, 73, 74, 75, 76, 77, 78, 79, 80, 81, 82, 83, 84, 85, 86, 87, 88, 89, 90, 91, 92, 93, 94, 95, 96, 97, 98, 99, 100, 101, 102, 103, 104, 105, 106, 107, 108, 109] (.sq (.sq .leaf (.cn .leaf .leaf)) .leaf)))) (.sq .leaf .leaf)))))
theorem f92.body_eq : Tryz.f92.body = some f92.code := by kernel_rfl
theorem f92.shape (Z : List PanicEntry → World → Prop) (x0 x1 : Value) (w : World) (Q : Value → World → Prop) : vc drawD Tryz.prog 110 Z [] f92.an f92.code (fnQ Tryz.prog 110 Tryz.f92.results Q) (argEnv [x0, x1]) w = f92.sh Z x0 x1 w Q := by kernel_rfl
theorem f92.enters : ∀ f, f ∈ ([] : List Nat) → Enters Tryz.prog f := by
 intro f hf
 cases hf
theorem f92.calls {Z : List PanicEntry → World → Prop} {x0 x1 : Value} {w : World} {Q : Value → World → Prop} (h : f92.sh Z x0 x1 w Q) : CallV Tryz.prog Z 92 #[x0, x1] w Q :=
 calls_of_vcn drawD_sound (Q := Q) (n := 110) (rs := Tryz.f92.results) (an := f92.an) (c := f92.code) (cal := []) (args := [x0, x1]) Tryz.func92 (by kernel_rfl) rfl f92.body_eq follows (Nat.le_of_ble_eq_true (by kernel_rfl)) (enters_of_all f92.enters) ((f92.shape Z x0 x1 w Q).mpr h)

def f93.sh (Z : List PanicEntry → World → Prop) (x0 x1 : Value) (w : World) (Q : Value → World → Prop) : Prop :=
 ∃ J_1 : Nat → Value → Value → World → Prop, (∃ m, J_1 m (Value.slice none 0 0) (Value.int IntKind.i64 0) w) ∧
 ∀ m_1, ∀ t5_2 : Value, ∀ t6_3 : Value, ∀ w : World, J_1 m_1 t5_2 t6_3 w → Env →
 run1 Tryz.prog Z (Builtin.len_ #[60] 3 #[x0]) w fun t14_4 w =>
 run1 Tryz.prog Z (binOp BinOp.lss 3 t6_3 t14_4) w fun t15_5 w =>
 CondV t15_5 (
 False) (
 ∃ J_6 : Nat → Value → World → Prop, (∃ m, J_6 m (Value.int IntKind.i64 0) w) ∧
 ∀ m_6, ∀ t9_7 : Value, ∀ w : World, J_6 m_6 t9_7 w → Env →
 run1 Tryz.prog Z (Builtin.len_ #[60] 3 #[x0]) w fun t40_8 w =>
 run1 Tryz.prog Z (binOp BinOp.lss 3 t9_7 t40_8) w fun t41_9 w =>
 CondV t41_9 (
 False) (
 Q (Value.bool true) w))
noncomputable def f93.code : Code := match Tryz.f93.body with | some c => c | none => .skip
def f93.an : An := (.sq .leaf (.sq .leaf (.sq (.sq .leaf (.bl (.lp [5, 6] [5, 6, 7, 8, 12, 13, 14, 15, 16, 17, 18, 19, 20, 21, 22, 23, 24, 25, 26, 27, 28, 29, 30, 31, 32, 33, 34, 35, 36, 37] (.sq (.sq .leaf (.cn .leaf .leaf)) .leaf)))) (.sq (.sq .leaf (.bl (.lp [9] [4, 9, 10, 11, 38, 39, 40, 41, 42, 43, 44, 45, 46, 47, 48, 49, 50, 51, 52, 53, 54, 55, 56, 57, 58, 59, 60, 61, 62, 63, 64, 65, 66, 67, 68, 69, 70, 71, 72, 73, 74, 75, 76, 77, 78, 79, 80, 81, 82, 83, 84, 85, 86, 87, 88, 89, 90, 91, 92, 93, 94, 95, 96, 97, 98, 99, 100, 101, 102, 103, 104, 105, 106, 107, 108, 109, 110, 111, 112, 113] (.sq (.sq .leaf (.cn .leaf .leaf)) .leaf)))) (.sq .leaf .leaf)))))
theorem f93.body_eq : Tryz.f93.body = some f93.code := by kernel_rfl
theorem f93.shape (Z : List PanicEntry → World → Prop) (x0 x1 : Value) (w : World) (Q : Value → World → Prop) : vc drawD Tryz.prog 114 Z [] f93.an f93.code (fnQ Tryz.prog 114 Tryz.f93.results Q) (argEnv [x0, x1]) w = f93.sh Z x0 x1 w Q := by kernel_rfl
theorem f93.enters : ∀ f, f ∈ ([] : List Nat) → Enters Tryz.prog f := by
 intro f hf
 cases hf
theorem f93.calls {Z : List PanicEntry → World → Prop} {x0 x1 : Value} {w : World} {Q : Value → World → Prop} (h : f93.sh Z x0 x1 w Q) : CallV Tryz.prog Z 93 #[x0, x1] w Q :=
 calls_of_vcn drawD_sound (Q := Q) (n := 114) (rs := Tryz.f93.results) (an := f93.an) (c := f93.code) (cal := []) (args := [x0, x1]) Tryz.func93 (by kernel_rfl) rfl f93.body_eq follows (Nat.le_of_ble_eq_true (by kernel_rfl)) (enters_of_all f93.enters) ((f93.shape Z x0 x1 w Q).mpr h)

def f94.sh (Z : List PanicEntry → World → Prop) (x0 x1 : Value) (w : World) (Q : Value → World → Prop) : Prop :=
 ∃ J_1 : Nat → Value → Value → World → Prop, (∃ m, J_1 m (Value.slice none 0 0) (Value.int IntKind.i64 0) w) ∧
 ∀ m_1, ∀ t5_2 : Value, ∀ t6_3 : Value, ∀ w : World, J_1 m_1 t5_2 t6_3 w → Env →
 run1 Tryz.prog Z (Builtin.len_ #[61] 3 #[x0]) w fun t14_4 w =>
 run1 Tryz.prog Z (binOp BinOp.lss 3 t6_3 t14_4) w fun t15_5 w =>
 CondV t15_5 (
 False) (
 ∃ J_6 : Nat → Value → World → Prop, (∃ m, J_6 m (Value.int IntKind.i64 0) w) ∧
 ∀ m_6, ∀ t9_7 : Value, ∀ w : World, J_6 m_6 t9_7 w → Env →
 run1 Tryz.prog Z (Builtin.len_ #[61] 3 #[x0]) w fun t39_8 w =>
 run1 Tryz.prog Z (binOp BinOp.lss 3 t9_7 t39_8) w fun t40_9 w =>
 CondV t40_9 (
 False) (
 Q (Value.bool true) w))
noncomputable def f94.code : Code := match Tryz.f94.body with | some c => c | none => .skip
def f94.an : An := (.sq .leaf (.sq .leaf (.sq (.sq .leaf (.bl (.lp [5, 6] [5, 6, 7, 8, 12, 13, 14, 15, 16, 17, 18, 19, 20, 21, 22, 23, 24, 25, 26, 27, 28, 29, 30, 31, 32, 33, 34, 35, 36] (.sq (.sq .leaf (.cn .leaf .leaf)) .leaf)))) (.sq (.sq .leaf (.bl (.lp [9] [4, 9, 10, 11, 37, 38, 39, 40, 41, 42, 43, 44, 45, 46, 47, 48, 49, 50, 51, 52, 53, 54, 55, 56, 57, 58, 59, 60, 61, 62, 63, 64, 65, 66, 67, 68, 69, 70, 71, 72, 73, 74, 75, 76, 77, 78, 79, 80, 81, 82, 83, 84, 85, 86, 87, 88, 89, 90, 91, 92, 93, 94, 95, 96, 97, 98, 99, 100, 101, 102, 103, 104, 105, 106, 107, 108, 109] (.sq (.sq .leaf (.cn .leaf .leaf)) .leaf)))) (.sq .leaf .leaf)))))
theorem f94.body_eq : Tryz.f94.body = some f94.code := by kernel_rfl
theorem f94.shape (Z : List PanicEntry → World → Prop) (x0 x1 : Value) (w : World) (Q : Value → World → Prop) : vc drawD Tryz.prog 110 Z [] f94.an f94.code (fnQ Tryz.prog 110 Tryz.f94.results Q) (argEnv [x0, x1]) w = f94.sh Z x0 x1 w Q := by kernel_rfl
theorem f94.enters : ∀ f, f ∈ ([] : List Nat) → Enters Tryz.prog f := by
 intro f hf
 cases hf
theorem f94.calls {Z : List PanicEntry → World → Prop} {x0 x1 : Value} {w : World} {Q : Value → World → Prop} (h : f94.sh Z x0 x1 w Q) : CallV Tryz.prog Z 94 #[x0, x1] w Q :=
 calls_of_vcn drawD_sound (Q := Q) (n := 110) (rs := Tryz.f94.results) (an := f94.an) (c := f94.code) (cal := []) (args := [x0, x1]) Tryz.func94 (by kernel_rfl) rfl f94.body_eq follows (Nat.le_of_ble_eq_true (by kernel_rfl)) (enters_of_all f94.enters) ((f94.shape Z x0 x1 w Q).mpr h)

def f95.sh (Z : List PanicEntry → World → Prop) (x0 x1 : Value) (w : World) (Q : Value → World → Prop) : Prop :=
 ∃ J_1 : Nat → Value → Value → World → Prop, (∃ m, J_1 m (Value.slice none 0 0) (Value.int IntKind.i64 0) w) ∧
 ∀ m_1, ∀ t5_2 : Value, ∀ t6_3 : Value, ∀ w : World, J_1 m_1 t5_2 t6_3 w → Env →
 run1 Tryz.prog Z (Builtin.len_ #[62] 3 #[x0]) w fun t14_4 w =>
 run1 Tryz.prog Z (binOp BinOp.lss 3 t6_3 t14_4) w fun t15_5 w =>
 CondV t15_5 (
 False) (
 ∃ J_6 : Nat → Value → World → Prop, (∃ m, J_6 m (Value.int IntKind.i64 0) w) ∧
 ∀ m_6, ∀ t9_7 : Value, ∀ w : World, J_6 m_6 t9_7 w → Env →
 run1 Tryz.prog Z (Builtin.len_ #[62] 3 #[x0]) w fun t40_8 w =>
 run1 Tryz.prog Z (binOp BinOp.lss 3 t9_7 t40_8) w fun t41_9 w =>
 CondV t41_9 (
 False) (
 Q (Value.bool true) w))
noncomputable def f95.code : Code := match Tryz.f95.body with | some c => c | none => .skip
def f95.an : An := (.sq .leaf (.sq .leaf (.sq (.sq .leaf (.bl (.lp [5, 6] [5, 6, 7, 8, 12, 13, 14, 15, 16, 17, 18, 19, 20, 21, 22, 23, 24, 25, 26, 27, 28, 29, 30, 31, 32, 33, 34, 35, 36, 37] (.sq (.sq .leaf (.cn .leaf .leaf)) .leaf)))) (.sq (.sq .leaf (.bl (.lp [9] [4, 9, 10, 11, 38, 39, 40, 41, 42, 43, 44, 45, 46, 47, 48, 49, 50, 51, 52, 53, 54, 55, 56, 57, 58, 59, 60, 61, 62, 63, 64, 65, 66, 67, 68, 69, 70, 71, 72, 73, 74, 75, 76, 77, 78, 79, 80, 81, 82, 83, 84, 85, 86, 87, 88, 89, 90, 91, 92, 93, 94, 95, 96, 97, 98, 99, 100, 101, 102, 103, 104, 105, 106, 107, 108, 109, 110, 111, 112, 113] (.sq (.sq .leaf (.cn .leaf .leaf)) .leaf)))) (.sq .leaf .leaf)))))
theorem f95.body_eq : Tryz.f95.body = some f95.code := by kernel_rfl
theorem f95.shape (Z : List PanicEntry → World → Prop) (x0 x1 : Value) (w : World) (Q : Value → World → Prop) : vc drawD Tryz.prog 114 Z [] f95.an f95.code (fnQ Tryz.prog 114 Tryz.f95.results Q) (argEnv [x0, x1]) w = f95.sh Z x0 x1 w Q := by kernel_rfl
theorem f95.enters : ∀ f, f ∈ ([] : List Nat) → Enters Tryz.prog f := by
 intro f hf
 cases hf
theorem f95.calls {Z : List PanicEntry → World → Prop} {x0 x1 : Value} {w : World} {Q : Value → World → Prop} (h : f95.sh Z x0 x1 w Q) : CallV Tryz.prog Z 95 #[x0, x1] w Q :=
 calls_of_vcn drawD_sound (Q := Q) (n := 114) (rs := Tryz.f95.results) (an := f95.an) (c := f95.code) (cal := []) (args := [x0, x1]) Tryz.func95 (by kernel_rfl) rfl f95.body_eq follows (Nat.le_of_ble_eq_true (by kernel_rfl)) (enters_of_all f95.enters) ((f95.shape Z x0 x1 w Q).mpr h)

def f96.sh (Z : List PanicEntry → World → Prop) (x0 x1 : Value) (w : World) (Q : Value → World → Prop) : Prop :=
 ∃ J_1 : Nat → Value → Value → World → Prop, (∃ m, J_1 m (Value.slice none 0 0) (Value.int IntKind.i64 0) w) ∧
 ∀ m_1, ∀ t5_2 : Value, ∀ t6_3 : Value, ∀ w : World, J_1 m_1 t5_2 t6_3 w → Env →
 run1 Tryz.prog Z (Builtin.len_ #[63] 3 #[x0]) w fun t14_4 w =>
 run1 Tryz.prog Z (binOp BinOp.lss 3 t6_3 t14_4) w fun t15_5 w =>
 CondV t15_5 (
 False) (
 ∃ J_6 : Nat → Value → World → Prop, (∃ m, J_6 m (Value.int IntKind.i64 0) w) ∧
 ∀ m_6, ∀ t9_7 : Value, ∀ w : World, J_6 m_6 t9_7 w → Env →
 run1 Tryz.prog Z (Builtin.len_ #[63] 3 #[x0]) w fun t40_8 w =>
 run1 Tryz.prog Z (binOp BinOp.lss 3 t9_7 t40_8) w fun t41_9 w =>
 CondV t41_9 (
 False) (
 Q (Value.bool true) w))
noncomputable def f96.code : Code := match Tryz.f96.body with | some c => c | none => .skip
def f96.an : An := (.sq .leaf (.sq .leaf (.sq (.sq .leaf (.bl (.lp [5, 6] [5, 6, 7, 8, 12, 13, 14, 15, 16, 17, 18, 19, 20, 21, 22, 23, 24, 25, 26, 27, 28, 29, 30, 31, 32, 33, 34, 35, 36, 37] (.sq (.sq .leaf (.cn .leaf .leaf)) .leaf)))) (.sq (.sq .leaf (.bl (.lp [9] [4, 9, 10, 11, 38, 39, 40, 41, 42, 43, 44, 45, 46, 47, 48, 49, 50, 51, 52, 53, 54, 55, 56, 57, 58, 59, 60, 61, 62, 63, 64, 65, 66, 67, 68, 69, 70, 71, 72, 73, 74, 75, 76, 77, 78, 79, 80, 81, 82, 83, 84, 85, 86, 87, 88, 89, 90, 91, 92, 93, 94, 95, 96, 97, 98, 99, 100, 101, 102, 103, 104, 105, 106, 107, 108, 109, 110, 111, 112, 113] (.sq (.sq .leaf (.cn .leaf .leaf)) .leaf)))) (.sq .leaf .leaf)))))
theorem f96.body_eq : Tryz.f96.body = some f96.code := by kernel_rfl
theorem f96.shape (Z : List PanicEntry → World → Prop) (x0 x1 : Value) (w : World) (Q : Value → World → Prop) : vc drawD Tryz.prog 114 Z [] f96.an f96.code (fnQ Tryz.prog 114 Tryz.f96.results Q) (argEnv [x0, x1]) w = f96.sh Z x0 x1 w Q := by kernel_rfl
theorem f96.enters : ∀ f, f ∈ ([] : List Nat) → Enters Tryz.prog f := by
 intro f hf
 cases hf
theorem f96.calls {Z : List PanicEntry → World → Prop} {x0 x1 : Value} {w : World} {Q : Value → World → Prop} (h : f96.sh Z x0 x1 w Q) : CallV Tryz.prog Z 96 #[x0, x1] w Q :=
 calls_of_vcn drawD_sound (Q := Q) (n := 114) (rs := Tryz.f96.results) (an := f96.an) (c := f96.code) (cal := []) (args := [x0, x1]) Tryz.func96 (by kernel_rfl) rfl f96.body_eq follows (Nat.le_of_ble_eq_true (by kernel_rfl)) (enters_of_all f96.enters) ((f96.shape Z x0 x1 w Q).mpr h)

def f97.sh (Z : List PanicEntry → World → Prop) (x0 x1 : Value) (w : World) (Q : Value → World → Prop) : Prop :=
 ∃ J_1 : Nat → Value → Value → World → Prop, (∃ m, J_1 m (Value.slice none 0 0) (Value.int IntKind.i64 0) w) ∧
 ∀ m_1, ∀ t5_2 : Value, ∀ t6_3 : Value, ∀ w : World, J_1 m_1 t5_2 t6_3 w → Env →
 run1 Tryz.prog Z (Builtin.len_ #[64] 3 #[x0]) w fun t14_4 w =>
 run1 Tryz.prog Z (binOp BinOp.lss 3 t6_3 t14_4) w fun t15_5 w =>
 CondV t15_5 (
 False) (
 ∃ J_6 : Nat → Value → World → Prop, (∃ m, J_6 m (Value.int IntKind.i64 0) w) ∧
 ∀ m_6, ∀ t9_7 : Value, ∀ w : World, J_6 m_6 t9_7 w → Env →
 run1 Tryz.prog Z (Builtin.len_ #[64] 3 #[x0]) w fun t39_8 w =>
 run1 Tryz.prog Z (binOp BinOp.lss 3 t9_7 t39_8) w fun t40_9 w =>
 CondV t40_9 (
 False) (
 Q (Value.bool true) w))
noncomputable def f97.code : Code := match Tryz.f97.body with | some c => c | none => .skip
def f97.an : An := (.sq .leaf (.sq .leaf (.sq (.sq .leaf (.bl (.lp [5, 6] [5, 6, 7, 8, 12, 13, 14, 15, 16, 17, 18, 19, 20, 21, 22, 23, 24, 25, 26, 27, 28, 29, 30, 31, 32, 33, 34, 35, 36] (.sq (.sq .leaf (.cn .leaf .leaf)) .leaf)))) (.sq (.sq .leaf (.bl (.lp [9] [4, 9, 10, 11, 37, 38, 39, 40, 41, 42, 43, 44, 45, 46, 47, 48, 49, 50, 51, 52, 53, 54, 55, 56, 57, 58, 59, 60, 61, 62, 63, 64, 65, 66, 67, 68, 69, 70, 71, 72, 73, 74, 75, 76, 77, 78, 79, 80, 81, 82, 83, 84, 85, 86, 87, 88, 89, 90, 91, 92, 93, 94, 95, 96, 97, 98, 99, 100, 101, 102, 103, 104, 105, 106, 107, 108, 109] (.sq (.sq .leaf (.cn .leaf .leaf)) .leaf)))) (.sq .leaf .leaf)))))
theorem f97.body_eq : Tryz.f97.body = some f97.code := by kernel_rfl
theorem f97.shape (Z : List PanicEntry → World → Prop) (x0 x1 : Value) (w : World) (Q : Value → World → Prop) : vc drawD Tryz.prog 110 Z [] f97.an f97.code (fnQ Tryz.prog 110 Tryz.f97.results Q) (argEnv [x0, x1]) w = f97.sh Z x0 x1 w Q := by kernel_rfl
theorem f97.enters : ∀ f, f ∈ ([] : List Nat) → Enters Tryz.prog f := by
 intro f hf
 cases hf
theorem f97.calls {Z : List PanicEntry → World → Prop} {x0 x1 : Value} {w : World} {Q : Value → World → Prop} (h : f97.sh Z x0 x1 w Q) : CallV Tryz.prog Z 97 #[x0, x1] w Q :=
 calls_of_vcn drawD_sound (Q := Q) (n := 110) (rs := Tryz.f97.results) (an := f97.an) (c := f97.code) (cal := []) (args := [x0, x1]) Tryz.func97 (by kernel_rfl) rfl f97.body_eq follows (Nat.le_of_ble_eq_true (by kernel_rfl)) (enters_of_all f97.enters) ((f97.shape Z x0 x1 w Q).mpr h)

def f98.sh (Z : List PanicEntry → World → Prop) (x0 x1 : Value) (w : World) (Q : Value → World → Prop) : Prop :=
 ∃ J_1 : Nat → Value → Value → World → Prop, (∃ m, J_1 m (Value.slice none 0 0) (Value.int IntKind.i64 0) w) ∧
 ∀ m_1, ∀ t5_2 : Value, ∀ t6_3 : Value, ∀ w : World, J_1 m_1 t5_2 t6_3 w → Env →
 run1 Tryz.prog Z (Builtin.len_ #[65] 3 #[x0]) w fun t14_4 w =>
 run1 Tryz.prog Z (binOp BinOp.lss 3 t6_3 t14_4) w fun t15_5 w =>
 CondV t15_5 (
 False) (
 ∃ J_6 : Nat → Value → World → Prop, (∃ m, J_6 m (Value.int IntKind.i64 0) w) ∧
 ∀ m_6, ∀ t9_7 : Value, ∀ w : World, J_6 m_6 t9_7 w → Env →
 run1 Tryz.prog Z (Builtin.len_ #[65] 3 #[x0]) w fun t41_8 w =>
 run1 Tryz.prog Z (binOp BinOp.lss 3 t9_7 t41_8) w fun t42_9 w =>
 CondV t42_9 (
 False) (
 Q (Value.bool true) w))
noncomputable def f98.code : Code := match Tryz.f98.body with | some c => c | none => .skip
def f98.an : An := (.sq .leaf (.sq .leaf (.sq (.sq .leaf (.bl (.lp [5, 6] [5, 6, 7, 8, 12, 13, 14, 15, 16, 17, 18, 19, 20, 21, 22, 23, 24, 25, 26, 27, 28, 29, 30, 31, 32, 33, 34, 35, 36, 37, 38] (.sq (.sq .leaf (.cn .leaf .leaf)) .leaf)))) (.sq (.sq .leaf (.bl (.lp [9] [4, 9, 10, 11, 39, 40, 41, 42, 43, 44, 45, 46, 47, 48, 49, 50, 51, 52, 53, 54, 55, 56, 57, 58, 59, 60, 61, 62, 63, 64, 65, 66, 67, 68, 69, 70, 71, 72, 73, 74, 75, 76, 77, 78, 79, 80, 81, 82, 83, 84, 85, 86, 87, 88, 89, 90, 91, 92, 93, 94, 95, 96, 97, 98, 99, 100, 101, 102, 103, 104, 105, 106, 107, 108, 109, 110, 111, 112, 113, 114, 115, 116, 117] (.sq (.sq .leaf (.cn .leaf .leaf)) .leaf)))) (.sq .leaf .leaf)))))
theorem f98.body_eq : Tryz.f98.body = some f98.code := by kernel_rfl
theorem f98.shape (Z : List PanicEntry → World → Prop) (x0 x1 : Value) (w : World) (Q : Value → World → Prop) : vc drawD Tryz.prog 118 Z [] f98.an f98.code (fnQ Tryz.prog 118 Tryz.f98.results Q) (argEnv [x0, x1]) w = f98.sh Z x0 x1 w Q := by kernel_rfl
theorem f98.enters : ∀ f, f ∈ ([] : List Nat) → Enters Tryz.prog f := by
 intro f hf
 cases hf
theorem f98.calls {Z : List PanicEntry → World → Prop} {x0 x1 : Value} {w : World} {Q : Value → World → Prop} (h : f98.sh Z x0 x1 w Q) : CallV Tryz.prog Z 98 #[x0, x1] w Q :=
 calls_of_vcn drawD_sound (Q := Q) (n := 118) (rs := Tryz.f98.results) (an := f98.an) (c := f98.code) (cal := []) (args := [x0, x1]) Tryz.func98 (by kernel_rfl) rfl f98.body_eq follows (Nat.le_of_ble_eq_true (by kernel_rfl)) (enters_of_all f98.enters) ((f98.shape Z x0 x1 w Q).mpr h)

def f99.sh (Z : List PanicEntry → World → Prop) (x0 x1 : Value) (w : World) (Q : Value → World → Prop) : Prop :=
 ∃ J_1 : Nat → Value → Value → World → Prop, (∃ m, J_1 m (Value.slice none 0 0) (Value.int IntKind.i64 0) w) ∧
 ∀ m_1, ∀ t5_2 : Value, ∀ t6_3 : Value, ∀ w : World, J_1 m_1 t5_2 t6_3 w → Env →
 run1 Tryz.prog Z (Builtin.len_ #[66] 3 #[x0]) w fun t14_4 w =>
 run1 Tryz.prog Z (binOp BinOp.lss 3 t6_3 t14_4) w fun t15_5 w =>
 CondV t15_5 (
 False) (
 ∃ J_6 : Nat → Value → World → Prop, (∃ m, J_6 m (Value.int IntKind.i64 0) w) ∧
 ∀ m_6, ∀ t9_7 : Value, ∀ w : World, J_6 m_6 t9_7 w → Env →
 run1 Tryz.prog Z (Builtin.len_ #[66] 3 #[x0]) w fun t39_8 w =>
 run1 Tryz.prog Z (binOp BinOp.lss 3 t9_7 t39_8) w fun t40_9 w =>
 CondV t40_9 (
 False) (
 Q (Value.bool true) w))
noncomputable def f99.code : Code := match Tryz.f99.body with | some c => c | none => .skip
def f99.an : An := (.sq .leaf (.sq .leaf (.sq (.sq .leaf (.bl (.lp [5, 6] [5, 6, 7, 8, 12, 13, 14, 15, 16, 17, 18, 19, 20, 21, 22, 23, 24, 25, 26, 27, 28, 29, 30, 31, 32, 33, 34, 35, 36] (.sq (.sq .leaf (.cn .leaf .leaf)) .leaf)))) (.sq (.sq .leaf (.bl (.lp [9] [4, 9, 10, 11, 37, 38, 39, 40, 41, 42, 43, 44, 45, 46, 47, 48, 49, 50, 51, 52, 53, 54, 55, 56, 57, 58, 59, 60, 61, 62, 63, 64, 65, 66, 67, 68, 69, 70, 71, 72, 73, 74, 75, 76, 77, 78, 79, 80, 81, 82, 83, 84, 85, 86, 87, 88, 89, 90, 91, 92, 93, 94, 95, 96, 97, 98, 99, 100, 101, 102, 103, 104, 105, 106, 107, 108, 109] (.sq (.sq .leaf (.cn .leaf .leaf)) .leaf)))) (.sq .leaf .leaf)))))
theorem f99.body_eq : Tryz.f99.body = some f99.code := by kernel_rfl
theorem f99.shape (Z : List PanicEntry → World → Prop) (x0 x1 : Value) (w : World) (Q : Value → World → Prop) : vc drawD Tryz.prog 110 Z [] f99.an f99.code (fnQ Tryz.prog 110 Tryz.f99.results Q) (argEnv [x0, x1]) w = f99.sh Z x0 x1 w Q := by kernel_rfl
theorem f99.enters : ∀ f, f ∈ ([] : List Nat) → Enters Tryz.prog f := by
 intro f hf
 cases hf
theorem f99.calls {Z : List PanicEntry → World → Prop} {x0 x1 : Value} {w : World} {Q : Value → World → Prop} (h : f99.sh Z x0 x1 w Q) : CallV Tryz.prog Z 99 #[x0, x1] w Q :=
 calls_of_vcn drawD_sound (Q := Q) (n := 110) (rs := Tryz.f99.results) (an := f99.an) (c := f99.code) (cal := []) (args := [x0, x1]) Tryz.func99 (by kernel_rfl) rfl f99.body_eq follows (Nat.le_of_ble_eq_true (by kernel_rfl)) (enters_of_all f99.enters) ((f99.shape Z x0 x1 w Q).mpr h)

def f100.sh (Z : List PanicEntry → World → Prop) (x0 x1 : Value) (w : World) (Q : Value → World → Prop) : Prop :=
 ∃ J_1 : Nat → Value → Value → World → Prop, (∃ m, J_1 m (Value.slice none 0 0) (Value.int IntKind.i64 0) w) ∧
 ∀ m_1, ∀ t5_2 : Value, ∀ t6_3 : Value, ∀ w : World, J_1 m_1 t5_2 t6_3 w → Env →
 run1 Tryz.prog Z (Builtin.len_ #[67] 3 #[x0]) w fun t14_4 w =>
 run1 Tryz.prog Z (binOp BinOp.lss 3 t6_3 t14_4) w fun t15_5 w =>
 CondV t15_5 (
 False) (
 ∃ J_6 : Nat → Value → World → Prop, (∃ m, J_6 m (Value.int IntKind.i64 0) w) ∧
 ∀ m_6, ∀ t9_7 : Value, ∀ w : World, J_6 m_6 t9_7 w → Env →
 run1 Tryz.prog Z (Builtin.len_ #[67] 3 #[x0]) w fun t40_8 w =>
 run1 Tryz.prog Z (binOp BinOp.lss 3 t9_7 t40_8) w fun t41_9 w =>
 CondV t41_9 (
 False) (
 Q (Value.bool true) w))
noncomputable def f100.code : Code := match Tryz.f100.body with | some c => c | none => .skip
def f100.an : An := (.sq .leaf (.sq .leaf (.sq (.sq .leaf (.bl (.lp [5, 6] [5, 6, 7, 8, 12, 13, 14, 15, 16, 17, 18, 19, 20, 21, 22, 23, 24, 25, 26, 27, 28, 29, 30, 31, 32, 33, 34, 35, 36, 37] (.sq (.sq .leaf (.cn .leaf .leaf)) .leaf)))) (.sq (.sq .leaf (.bl (.lp [9] [4, 9, 10, 11, 38, 39, 40, 41, 42, 43, 44, 45, 46, 47, 48, 49, 50, 51, 52, 53, 54, 55, 56, 57, 58, 59, 60, 61, 62, 63, 64, 65, 66, 67, 68, 69, 70, 71, 72, 73, 74, 75, 76, 77, 78, 79, 80, 81, 82, 83, 84, 85, 86, 87, 88, 89, 90, 91, 92, 93, 94, 95, 96, 97, 98, 99, 100, 101, 102, 103, 104, 105, 106, 107, 108, 109, 110, 111, 112, 113] (.sq (.sq .leaf (.cn .leaf .leaf)) .leaf)))) (.sq .leaf .leaf)))))
theorem f100.body_eq : Tryz.f100.body = some f100.code := by kernel_rfl
theorem f100.shape (Z : List PanicEntry → World → Prop) (x0 x1 : Value) (w : World) (Q : Value → World → Prop) : vc drawD Tryz.prog 114 Z [] f100.an f100.code (fnQ Tryz.prog 114 Tryz.f100.results Q) (argEnv [x0, x1]) w = f100.sh Z x0 x1 w Q := by kernel_rfl
theorem f100.enters : ∀ f, f ∈ ([] : List Nat) → Enters Tryz.prog f := by
 intro f hf
 cases hf
theorem f100.calls {Z : List PanicEntry → World → Prop} {x0 x1 : Value} {w : World} {Q : Value → World → Prop} (h : f100.sh Z x0 x1 w Q) : CallV Tryz.prog Z 100 #[x0, x1] w Q :=
 calls_of_vcn drawD_sound (Q := Q) (n := 114) (rs := Tryz.f100.results) (an := f100.an) (c := f100.code) (cal := []) (args := [x0, x1]) Tryz.func100 (by kernel_rfl) rfl f100.body_eq follows (Nat.le_of_ble_eq_true (by kernel_rfl)) (enters_of_all f100.enters) ((f100.shape Z x0 x1 w Q).mpr h)

def f101.sh (Z : List PanicEntry → World → Prop) (x0 x1 : Value) (w : World) (Q : Value → World → Prop) : Prop :=
 ∃ J_1 : Nat → Value → Value → World → Prop, (∃ m, J_1 m (Value.slice none 0 0) (Value.int IntKind.i64 0) w) ∧
 ∀ m_1, ∀ t5_2 : Value, ∀ t6_3 : Value, ∀ w : World, J_1 m_1 t5_2 t6_3 w → Env →
 run1 Tryz.prog Z (Builtin.len_ #[68] 3 #[x0]) w fun t14_4 w =>
 run1 Tryz.prog Z (binOp BinOp.lss 3 t6_3 t14_4) w fun t15_5 w =>
 CondV t15_5 (
 False) (
 ∃ J_6 : Nat → Value → World → Prop, (∃ m, J_6 m (Value.int IntKind.i64 0) w) ∧
 ∀ m_6, ∀ t9_7 : Value, ∀ w : World, J_6 m_6 t9_7 w → Env →
 run1 Tryz.prog Z (Builtin.len_ #[68] 3 #[x0]) w fun t39_8 w =>
 run1 Tryz.prog Z (binOp BinOp.lss 3 t9_7 t39_8) w fun t40_9 w =>
 CondV t40_9 (
 False) (
 Q (Value.bool true) w))
noncomputable def f101.code : Code := match Tryz.f101.body with | some c => c | none => .skip
def f101.an : An := (.sq .leaf (.sq .leaf (.sq (.sq .leaf (.bl (.lp [5, 6] [5, 6, 7, 8, 12, 13, 14, 15, 16, 17, 18, 19, 20, 21, 22, 23, 24, 25, 26, 27, 28, 29, 30, 31, 32, 33, 34, 35, 36] (.sq (.sq .leaf (.cn .leaf .leaf)) .leaf)))) (.sq (.sq .leaf (.bl (.lp [9] [4, 9, 10, 11, 37, 38, 39, 40, 41, 42, 43, 44, 45, 46, 47, 48, 49, 50, 51, 52, 53, 54, 55, 56, 57, 58, 59, 60, 61, 62, 63, 64, 65, 66, 67, 68, 69, 70, 71, 72, 73, 74, 75, 76, 77, 78, 79, 80, 81, 82, 83, 84, 85, 86, 87, 88, 89, 90, 91, 92, 93, 94, 95, 96, 97, 98, 99, 100, 101, 102, 103, 104, 105, 106, 107, 108, 109] (.sq (.sq .leaf (.cn .leaf .leaf)) .leaf)))) (.sq .leaf .leaf)))))
theorem f101.body_eq : Tryz.f101.body = some f101.code := by kernel_rfl
theorem f101.shape (Z : List PanicEntry → World → Prop) (x0 x1 : Value) (w : World) (Q : Value → World → Prop) : vc drawD Tryz.prog 110 Z [] f101.an f101.code (fnQ Tryz.prog 110 Tryz.f101.results Q) (argEnv [x0, x1]) w = f101.sh Z x0 x1 w Q := by kernel_rfl
theorem f101.enters : ∀ f, f ∈ ([] : List Nat) → Enters Tryz.prog f := by
 intro f hf
 cases hf
theorem f101.calls {Z : List PanicEntry → World → Prop} {x0 x1 : Value} {w : World} {Q : Value → World → Prop} (h : f101.sh Z x0 x1 w Q) : CallV Tryz.prog Z 101 #[x0, x1] w Q :=
 calls_of_vcn drawD_sound (Q := Q) (n := 110) (rs := Tryz.f101.results) (an := f101.an) (c := f101.code) (cal := []) (args := [x0, x1]) Tryz.func101 (by kernel_rfl) rfl f101.body_eq follows (Nat.le_of_ble_eq_true (by kernel_rfl)) (enters_of_all f101.enters) ((f101.shape Z x0 x1 w Q).mpr h)

def f102.sh (Z : List PanicEntry → World → Prop) (x0 x1 : Value) (w : World) (Q : Value → World → Prop) : Prop :=
 ∃ J_1 : Nat → Value → Value → World → Prop, (∃ m, J_1 m (Value.slice none 0 0) (Value.int IntKind.i64 0) w) ∧
 ∀ m_1, ∀ t5_2 : Value, ∀ t6_3 : Value, ∀ w : World, J_1 m_1 t5_2 t6_3 w → Env →
 run1 Tryz.prog Z (Builtin.len_ #[69] 3 #[x0]) w fun t14_4 w =>
 run1 Tryz.prog Z (binOp BinOp.lss 3 t6_3 t14_4) w fun t15_5 w =>
 CondV t15_5 (
 False) (
 ∃ J_6 : Nat → Value → World → Prop, (∃ m, J_6 m (Value.int IntKind.i64 0) w) ∧
 ∀ m_6, ∀ t9_7 : Value, ∀ w : World, J_6 m_6 t9_7 w → Env →
 run1 Tryz.prog Z (Builtin.len_ #[69] 3 #[x0]) w fun t41_8 w =>
 run1 Tryz.prog Z (binOp BinOp.lss 3 t9_7 t41_8) w fun t42_9 w =>
 CondV t42_9 (
 False) (
 Q (Value.bool true) w))
noncomputable def f102.code : Code := match Tryz.f102.body with | some c => c | none => .skip
def f102.an : An := (.sq .leaf (.sq .leaf (.sq (.sq .leaf (.bl (.lp [5, 6] [5, 6, 7, 8, 12, 13, 14, 15, 16, 17, 18, 19, 20, 21, 22, 23, 24, 25, 26, 27, 28, 29, 30, 31, 32, 33, 34, 35, 36, 37, 38] (.sq (.sq .leaf (.cn .leaf .leaf)) .leaf)))) (.sq (.sq .leaf (.bl (.lp [9] [4, 9, 10, 11, 39, 40, 41, 42, 43, 44, 45, 46, 47, 48, 49, 50, 51, 52, 53, 54, 55, 56, 57, 58, 59, 60, 61, 62, 63, 64, 65, 66, 67, 68, 69, 70, 71, 72, 73, 74, 75, 76, 77, 78, 79, 80, 81, 82, 83, 84, 85, 86, 87, 88, 89, 90, 91, 92, 93, 94, 95, 96, 97, 98, 99, 100, 101, 102, 103, 104, 105, 106, 107, 108, 109, 110, 111, 112, 113, 114, 115, 116, 117] (.sq (.sq .leaf (.cn .leaf .leaf)) .leaf)))) (.sq .leaf .leaf)))))
theorem f102.body_eq : Tryz.f102.body = some f102.code := by kernel_rfl
theorem f102.shape (Z : List PanicEntry → World → Prop) (x0 x1 : Value) (w : World) (Q : Value → World → Prop) : vc drawD Tryz.prog 118 Z [] f102.an f102.code (fnQ Tryz.prog 118 Tryz.f102.results Q) (argEnv [x0, x1]) w = f102.sh Z x0 x1 w Q := by kernel_rfl
theorem f102.enters : ∀ f, f ∈ ([] : List Nat) → Enters Tryz.prog f := by
 intro f hf
 cases hf
theorem f102.calls {Z : List PanicEntry → World → Prop} {x0 x1 : Value} {w : World} {Q : Value → World → Prop} (h : f102.sh Z x0 x1 w Q) : CallV Tryz.prog Z 102 #[x0, x1] w Q :=
 calls_of_vcn drawD_sound (Q := Q) (n := 118) (rs := Tryz.f102.results) (an := f102.an) (c := f102.code) (cal := []) (args := [x0, x1]) Tryz.func102 (by kernel_rfl) rfl f102.body_eq follows (Nat.le_of_ble_eq_true (by kernel_rfl)) (enters_of_all f102.enters) ((f102.shape Z x0 x1 w Q).mpr h)

def f103.sh (Z : List PanicEntry → World → Prop) (x0 x1 : Value) (w : World) (Q : Value → World → Prop) : Prop :=
 ∃ J_1 : Nat → Value → Value → World → Prop, (∃ m, J_1 m (Value.slice none 0 0) (Value.int IntKind.i64 0) w) ∧
 ∀ m_1, ∀ t5_2 : Value, ∀ t6_3 : Value, ∀ w : World, J_1 m_1 t5_2 t6_3 w → Env →
 run1 Tryz.prog Z (Builtin.len_ #[70] 3 #[x0]) w fun t14_4 w =>
 run1 Tryz.prog Z (binOp BinOp.lss 3 t6_3 t14_4) w fun t15_5 w =>
 CondV t15_5 (
 False) (
 ∃ J_6 : Nat → Value → World → Prop, (∃ m, J_6 m (Value.int IntKind.i64 0) w) ∧
 ∀ m_6, ∀ t9_7 : Value, ∀ w : World, J_6 m_6 t9_7 w → Env →
 run1 Tryz.prog Z (Builtin.len_ #[70] 3 #[x0]) w fun t39_8 w =>
 run1 Tryz.prog Z (binOp BinOp.lss 3 t9_7 t39_8) w fun t40_9 w =>
 CondV t40_9 (
 False) (
 Q (Value.bool true) w))
noncomputable def f103.code : Code := match Tryz.f103.body with | some c => c | none => .skip
def f103.an : An := (.sq .leaf (.sq .leaf (.sq (.sq .leaf (.bl (.lp [5, 6] [5, 6, 7, 8, 12, 13, 14, 15, 16, 17, 18, 19, 20, 21, 22, 23, 24, 25, 26, 27, 28, 29, 30, 31, 32, 33, 34, 35, 36] (.sq (.sq .leaf (.cn .leaf .leaf)) .leaf)))) (.sq (.sq .leaf (.bl (.lp [9] [4, 9, 10, 11, 37, 38, 39, 40, 41, 42, 43, 44, 45, 46, 47, 48, 49, 50, 51, 52, 53, 54, 55, 56, 57, 58, 59, 60, 61, 62, 63, 64, 65, 66, 67, 68, 69, 70, 71, 72, 73, 74, 75, 76, 77, 78, 79, 80, 81, 82, 83, 84, 85, 86, 87, 88, 89, 90, 91, 92, 93, 94, 95, 96, 97, 98, 99, 100, 101, 102, 103, 104, 105, 106, 107, 108, 109] (.sq (.sq .leaf (.cn .leaf .leaf)) .leaf)))) (.sq .leaf .leaf)))))
theorem f103.body_eq : Tryz.f103.body = some f103.code := by kernel_rfl
theorem f103.shape (Z : List PanicEntry → World → Prop) (x0 x1 : Value) (w : World) (Q : Value → World → Prop) : vc drawD Tryz.prog 110 Z [] f103.an f103.code (fnQ Tryz.prog 110 Tryz.f103.results Q) (argEnv [x0, x1]) w = f103.sh Z x0 x1 w Q := by kernel_rfl
theorem f103.enters : ∀ f, f ∈ ([] : List Nat) → Enters Tryz.prog f := by
 intro f hf
 cases hf
theorem f103.calls {Z : List PanicEntry → World → Prop} {x0 x1 : Value} {w : World} {Q : Value → World → Prop} (h : f103.sh Z x0 x1 w Q) : CallV Tryz.prog Z 103 #[x0, x1] w Q :=
 calls_of_vcn drawD_sound (Q := Q) (n := 110) (rs := Tryz.f103.results) (an := f103.an) (c := f103.code) (cal := []) (args := [x0, x1]) Tryz.func103 (by kernel_rfl) rfl f103.body_eq follows (Nat.le_of_ble_eq_true (by kernel_rfl)) (enters_of_all f103.enters) ((f103.shape Z x0 x1 w Q).mpr h)

def f104.sh (Z : List PanicEntry → World → Prop) (x0 x1 : Value) (w : World) (Q : Value → World → Prop) : Prop :=
 ∃ J_1 : Nat → Value → Value → World → Prop, (∃ m, J_1 m (Value.slice none 0 0) (Value.int IntKind.i64 0) w) ∧
 ∀ m_1, ∀ t5_2 : Value, ∀ t6_3 : Value, ∀ w : World, J_1 m_1 t5_2 t6_3 w → Env →
 run1 Tryz.prog Z (Builtin.len_ #[71] 3 #[x0]) w fun t14_4 w =>
 run1 Tryz.prog Z (binOp BinOp.lss 3 t6_3 t14_4) w fun t15_5 w =>
 CondV t15_5 (
 False) (
 ∃ J_6 : Nat → Value → World → Prop, (∃ m, J_6 m (Value.int IntKind.i64 0) w) ∧
 ∀ m_6, ∀ t9_7 : Value, ∀ w : World, J_6 m_6 t9_7 w → Env →
 run1 Tryz.prog Z (Builtin.len_ #[71] 3 #[x0]) w fun t40_8 w =>
 run1 Tryz.prog Z (binOp BinOp.lss 3 t9_7 t40_8) w fun t41_9 w =>
 CondV t41_9 (
 False) (
 Q (Value.bool true) w))
noncomputable def f104.code : Code := match Tryz.f104.body with | some c => c | none => .skip
def f104.an : An := (.sq .leaf (.sq .leaf (.sq (.sq .leaf (.bl (.lp [5, 6] [5, 6, 7, 8, 12, 13, 14, 15, 16, 17, 18, 19, 20, 21, 22, 23, 24, 25, 26, 27, 28, 29, 30, 31, 32, 33, 34, 35, 36, 37] (.sq (.sq .leaf (.cn .leaf .leaf)) .leaf)))) (.sq (.sq .leaf (.bl (.lp [9] [4, 9, 10, 11, 38, 39, 40, 41, 42, 43, 44, 45, 46, 47, 48, 49, 50, 51, 52, 53, 54, 55, 56, 57, 58, 59, 60, 61, 62, 63, 64, 65, 66, 67, 68, 69, 70, 71, 72, 73, 74, 75, 76, 77, 78, 79, 80, 81, 82, 83, 84, 85, 86, 87, 88, 89, 90, 91, 92, 93, 94, 95, 96, 97, 98, 99, 100, 101, 102, 103, 104, 105, 106, 107, 108, 109, 110, 111, 112, 113, 114, 115, 116, 117, 118, 119, 120, 121, 122, 123, 124, 125, 126, 127, 128, 129, 130, 131, 132, 133, 134, 135, 136, 137, 138, 139, 140, 141, 142, 143, 144, 145, 146, 147, 148, 149] (.sq (.sq .leaf (.cn .leaf .leaf)) .leaf)))) (.sq .leaf .leaf)))))
theorem f104.body_eq : Tryz.f104.body = some f104.code := by kernel_rfl
theorem f104.shape (Z : List PanicEntry → World → Prop) (x0 x1 : Value) (w : World) (Q : Value → World → Prop) : vc drawD Tryz.prog 150 Z [] f104.an f104.code (fnQ Tryz.prog 150 Tryz.f104.results Q) (argEnv [x0, x1]) w = f104.sh Z x0 x1 w Q := by kernel_rfl
theorem f104.enters : ∀ f, f ∈ ([] : List Nat) → Enters Tryz.prog f := by
 intro f hf
 cases hf
theorem f104.calls {Z : List PanicEntry → World → Prop} {x0 x1 : Value} {w : World} {Q : Value → World → Prop} (h : f104.sh Z x0 x1 w Q) : CallV Tryz.prog Z 104 #[x0, x1] w Q :=
 calls_of_vcn drawD_sound (Q := Q) (n := 150) (rs := Tryz.f104.results) (an := f104.an) (c := f104.code) (cal := []) (args := [x0, x1]) Tryz.func104 (by kernel_rfl) rfl f104.body_eq follows (Nat.le_of_ble_eq_true (by kernel_rfl)) (enters_of_all f104.enters) ((f104.shape Z x0 x1 w Q).mpr h)

end Go.Proofs.YthobnaagjhooeaaGreatDoor
