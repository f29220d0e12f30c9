import Derived.Test.YtpdehbbkpekoiaaGreatDoorShBase
set_option linter.unusedVariables false
namespace Go.Proofs.YtpdehbbkpekoiaaGreatDoor
open Go.Sh
def f4.sh (Z : List PanicEntry → World → Prop) (x0 x1 x2 : Value) (w : World) (Q : Value → World → Prop) : Prop :=
 CallV Tryz.prog Z 6 #[] w fun t28_1 w =>
 run1 Tryz.prog Z (Builtin.len_ #[28] 3 #[x0]) w fun t30_2 w =>
 run1 Tryz.prog Z (binOp BinOp.gtr 3 t30_2 (Value.int IntKind.i64 67108864)) w fun t31_3 w =>
 CondV t31_3 (
 Q t28_1 w) (
 CallV Tryz.prog Z 18 #[x0] w fun t34_4 w =>
 CallV Tryz.prog Z 19 #[t34_4] w fun t37_5 w =>
 run1 Tryz.prog Z (Instr.extract t37_5 0) w fun t38_6 w =>
 run1 Tryz.prog Z (Instr.extract t37_5 1) w fun t39_7 w =>
 run1 Tryz.prog Z (Instr.alloc 35 true (.tuple #[])) w fun t9_8 w =>
 run0 Tryz.prog Z (Instr.storeAt 35 t9_8 t38_6) w fun w =>
 CallV Tryz.prog Z 19 #[t34_4] w fun t42_9 w =>
 run1 Tryz.prog Z (Instr.extract t42_9 0) w fun t43_10 w =>
 run1 Tryz.prog Z (Instr.extract t42_9 1) w fun t44_11 w =>
 run1 Tryz.prog Z (Instr.alloc 35 true (.tuple #[])) w fun t11_12 w =>
 run0 Tryz.prog Z (Instr.storeAt 35 t11_12 t43_10) w fun w =>
 CallV Tryz.prog Z 20 #[x0] w fun t47_13 w =>
 run1 Tryz.prog Z (Instr.extract t47_13 0) w fun t48_14 w =>
 run1 Tryz.prog Z (Instr.extract t47_13 1) w fun t49_15 w =>
 run1 Tryz.prog Z (Instr.alloc 35 true (.tuple #[])) w fun t13_16 w =>
 run0 Tryz.prog Z (Instr.storeAt 35 t13_16 t48_14) w fun w =>
 CallV Tryz.prog Z 13 #[t34_4, x0] w fun t52_17 w =>
 guardW (t52_17) true (fun k => k (t34_4) w) (fun t54_18 w =>
 guardW (t52_17) true (fun k => CallV Tryz.prog Z 21 #[t54_18] w k) (fun t55_19 w =>
 run1 Tryz.prog Z (pickV t52_17 t55_19 (Value.bool false)) w fun t56_20 w =>
 run1 Tryz.prog Z (Instr.loadAt 35 t9_8) w fun t57_21 w =>
 run1 Tryz.prog Z (Instr.loadAt 35 t13_16) w fun t58_22 w =>
 CallV Tryz.prog Z 11 #[t57_21, t58_22] w fun t59_23 w =>
 guardW (t59_23) true (fun k => run1 Tryz.prog Z (Instr.loadAt 35 t11_12) w k) (fun t61_24 w =>
 guardW (t59_23) true (fun k => run1 Tryz.prog Z (Instr.loadAt 35 t13_16) w k) (fun t62_25 w =>
 guardW (t59_23) true (fun k => CallV Tryz.prog Z 11 #[t61_24, t62_25] w k) (fun t63_26 w =>
 run1 Tryz.prog Z (pickV t59_23 t63_26 (Value.bool false)) w fun t64_27 w =>
 run1 Tryz.prog Z (Op.unary UnOp.not t28_1) w fun t66_28 w =>
 guardW (t66_28) false (fun k => k (t56_20) w) (fun t68_29 w =>
 guardW (t66_28) false (fun k => run1 Tryz.prog Z (Op.unary UnOp.not t68_29) w k) (fun t69_30 w =>
 run1 Tryz.prog Z (pickV t66_28 (Value.bool true) t69_30) w fun t70_31 w =>
 guardW (t70_31) false (fun k => k (t64_27) w) (fun t72_32 w =>
 guardW (t70_31) false (fun k => run1 Tryz.prog Z (Op.unary UnOp.not t72_32) w k) (fun t73_33 w =>
 run1 Tryz.prog Z (pickV t70_31 (Value.bool true) t73_33) w fun t74_34 w =>
 guardW (t74_34) false (fun k => k (t39_7) w) (fun t76_35 w =>
 guardW (t74_34) false (fun k => k (t49_15) w) (fun t77_36 w =>
 guardW (t74_34) false (fun k => run1 Tryz.prog Z (eqOp BinOp.neq 39 false false t76_35 t77_36) w k) (fun t78_37 w =>
 run1 Tryz.prog Z (pickV t74_34 (Value.bool true) t78_37) w fun t79_38 w =>
 guardW (t79_38) false (fun k => k (t44_11) w) (fun t81_39 w =>
 guardW (t79_38) false (fun k => k (t49_15) w) (fun t82_40 w =>
 guardW (t79_38) false (fun k => run1 Tryz.prog Z (eqOp BinOp.neq 39 false false t81_39 t82_40) w k) (fun t83_41 w =>
 run1 Tryz.prog Z (pickV t79_38 (Value.bool true) t83_41) w fun t84_42 w =>
 CondV t84_42 (
 Q (Value.bool false) w) (
 run1 Tryz.prog Z (Instr.build 67 #[]) w fun t85_43 w =>
 run1 Tryz.prog Z (Instr.box 67 t85_43) w fun t86_44 w =>
 run1 Tryz.prog Z (Instr.fieldAt 35 t9_8 2) w fun t88_45 w =>
 run1 Tryz.prog Z (Instr.loadAt 33 t88_45) w fun t89_46 w =>
 CallV Tryz.prog Z 22 #[t86_44, t89_46] w fun t90_47 w =>
 CallV Tryz.prog Z 15 #[t86_44] w fun t92_48 w =>
 run1 Tryz.prog Z (Instr.loadAt 35 t11_12) w fun t93_49 w =>
 run1 Tryz.prog Z (Instr.loadAt 35 t13_16) w fun t94_50 w =>
 CallV Tryz.prog Z 11 #[t93_49, t94_50] w fun t95_51 w =>
 ∀ j_52 : World → Prop, (∀ w : World, (Env →
 CallV Tryz.prog Z 23 #[t34_4] w fun t114_53 w =>
 CallV Tryz.prog Z 19 #[t34_4] w fun t117_54 w =>
 run1 Tryz.prog Z (Instr.extract t117_54 0) w fun t118_55 w =>
 run1 Tryz.prog Z (Instr.extract t117_54 1) w fun t119_56 w =>
 run1 Tryz.prog Z (Instr.alloc 35 true (.tuple #[])) w fun t21_57 w =>
 run0 Tryz.prog Z (Instr.storeAt 35 t21_57 t118_55) w fun w =>
 CallV Tryz.prog Z 20 #[t114_53] w fun t122_58 w =>
 run1 Tryz.prog Z (Instr.extract t122_58 0) w fun t123_59 w =>
 run1 Tryz.prog Z (Instr.extract t122_58 1) w fun t124_60 w =>
 run1 Tryz.prog Z (Instr.alloc 35 true (.tuple #[])) w fun t23_61 w =>
 run0 Tryz.prog Z (Instr.storeAt 35 t23_61 t123_59) w fun w =>
 run1 Tryz.prog Z (Instr.loadAt 35 t21_57) w fun t125_62 w =>
 run1 Tryz.prog Z (Instr.loadAt 35 t23_61) w fun t126_63 w =>
 CallV Tryz.prog Z 11 #[t125_62, t126_63] w fun t127_64 w =>
 ∃ J_65 : Nat → Value → World → Prop, (∃ m, J_65 m (Value.int IntKind.i64 0) w) ∧
 ∀ m_65, ∀ t26_66 : Value, ∀ w : World, J_65 m_65 t26_66 w → Env →
 run1 Tryz.prog Z (Builtin.len_ #[28] 3 #[t34_4]) w fun t130_67 w =>
 run1 Tryz.prog Z (binOp BinOp.lss 3 t26_66 t130_67) w fun t131_68 w =>
 CondV t131_68 (
 run1 Tryz.prog Z (Instr.indexAt 28 t34_4 t26_66) w fun t136_69 w =>
 run0 Tryz.prog Z (Instr.storeAt 5 t136_69 (Value.int IntKind.u8 7)) w fun w =>
 run1 Tryz.prog Z (binOp BinOp.add 3 t26_66 (Value.int IntKind.i64 1)) w fun t133_70 w =>
 ∃ n_65, n_65 < m_65 ∧ J_65 n_65 t133_70 w) (
 run1 Tryz.prog Z (Instr.loadAt 35 t21_57) w fun t137_71 w =>
 run1 Tryz.prog Z (Instr.loadAt 35 t23_61) w fun t138_72 w =>
 CallV Tryz.prog Z 11 #[t137_71, t138_72] w fun t139_73 w =>
 guardW (t139_73) true (fun k => run1 Tryz.prog Z (Instr.loadAt 35 t11_12) w k) (fun t141_74 w =>
 guardW (t139_73) true (fun k => run1 Tryz.prog Z (Instr.loadAt 35 t13_16) w k) (fun t142_75 w =>
 guardW (t139_73) true (fun k => CallV Tryz.prog Z 11 #[t141_74, t142_75] w k) (fun t143_76 w =>
 run1 Tryz.prog Z (pickV t139_73 t143_76 (Value.bool false)) w fun t144_77 w =>
 run1 Tryz.prog Z (Instr.fieldAt 35 t11_12 2) w fun t146_78 w =>
 run1 Tryz.prog Z (Instr.loadAt 33 t146_78) w fun t147_79 w =>
 CallV Tryz.prog Z 22 #[t86_44, t147_79] w fun t148_80 w =>
 run1 Tryz.prog Z (Instr.fieldAt 35 t21_57 2) w fun t150_81 w =>
 run1 Tryz.prog Z (Instr.loadAt 33 t150_81) w fun t151_82 w =>
 CallV Tryz.prog Z 22 #[t86_44, t151_82] w fun t152_83 w =>
 guardW (t92_48) true (fun k => k (t95_51) w) (fun t155_84 w =>
 run1 Tryz.prog Z (pickV t92_48 t155_84 (Value.bool false)) w fun t156_85 w =>
 guardW (t156_85) true (fun k => k (t127_64) w) (fun t158_86 w =>
 run1 Tryz.prog Z (pickV t156_85 t158_86 (Value.bool false)) w fun t159_87 w =>
 guardW (t159_87) true (fun k => k (t119_56) w) (fun t161_88 w =>
 guardW (t159_87) true (fun k => k (t124_60) w) (fun t162_89 w =>
 guardW (t159_87) true (fun k => run1 Tryz.prog Z (eqOp BinOp.eql 39 false false t161_88 t162_89) w k) (fun t163_90 w =>
 run1 Tryz.prog Z (pickV t159_87 t163_90 (Value.bool false)) w fun t164_91 w =>
 guardW (t164_91) true (fun k => k (t144_77) w) (fun t166_92 w =>
 run1 Tryz.prog Z (pickV t164_91 t166_92 (Value.bool false)) w fun t167_93 w =>
 guardW (t167_93) true (fun k => k (t86_44) w) (fun t169_94 w =>
 guardW (t167_93) true (fun k => CallV Tryz.prog Z 15 #[t169_94] w k) (fun t170_95 w =>
 run1 Tryz.prog Z (pickV t167_93 t170_95 (Value.bool false)) w fun t171_96 w =>
 Q t171_96 w) w) w) w) w) w) w) w) w) w) w) w)) →
 j_52 w) →
 run1 Tryz.prog Z (binOp BinOp.geq 3 x1 (Value.int IntKind.i64 0)) w fun t97_97 w =>
 guardW (t97_97) true (fun k => k (x1) w) (fun t99_98 w =>
 guardW (t97_97) true (fun k => k (t34_4) w) (fun t100_99 w =>
 guardW (t97_97) true (fun k => run1 Tryz.prog Z (Builtin.len_ #[28] 3 #[t100_99]) w k) (fun t101_100 w =>
 guardW (t97_97) true (fun k => run1 Tryz.prog Z (binOp BinOp.lss 3 t99_98 t101_100) w k) (fun t102_101 w =>
 run1 Tryz.prog Z (pickV t97_97 t102_101 (Value.bool false)) w fun t103_102 w =>
 CondV t103_102 (
 run1 Tryz.prog Z (Instr.indexAt 28 t34_4 x1) w fun t108_103 w =>
 run1 Tryz.prog Z (Instr.loadAt 5 t108_103) w fun t109_104 w =>
 run1 Tryz.prog Z (binOp BinOp.xor 5 t109_104 x2) w fun t111_105 w =>
 run1 Tryz.prog Z (Instr.indexAt 28 t34_4 x1) w fun t112_106 w =>
 run0 Tryz.prog Z (Instr.storeAt 5 t112_106 t111_105) w fun w =>
 j_52 w) (
 j_52 w)) w) w) w) w)) w) w) w) w) w) w) w) w) w) w) w) w) w) w) w)
noncomputable def f4.code : Code := match Tryz.f4.body with | some c => c | none => .skip
def f4.an : An := (.sq .leaf (.sq .leaf (.sq (.sq .leaf (.cn (.sq .leaf .leaf) .leaf)) (.sq .leaf (.sq .leaf (.sq .leaf (.sq .leaf (.sq .leaf (.sq .leaf (.sq (.sq .leaf (.cn (.sq .leaf .leaf) .leaf)) (.sq .leaf (.sq .leaf (.sq .leaf (.sq .leaf (.sj [] [96, 97, 98, 99, 100, 101, 102, 103, 104, 105, 106, 107, 108, 109, 110, 111, 112] (.sq .leaf (.cn .leaf .leaf)) (.sq .leaf (.sq .leaf (.sq .leaf (.sq .leaf (.sq (.sq .leaf (.bl (.lp [26] [26, 128, 129, 130, 131, 132, 133, 134, 135, 136] (.sq (.sq .leaf (.cn .leaf .leaf)) (.sq (.bl .leaf) .leaf))))) (.sq .leaf (.sq .leaf (.sq .leaf (.sq .leaf .leaf))))))))))))))))))))))))
theorem f4.body_eq : Tryz.f4.body = some f4.code := by kernel_rfl
theorem f4.shape (Z : List PanicEntry → World → Prop) (x0 x1 x2 : Value) (w : World) (Q : Value → World → Prop) : vc drawD Tryz.prog 172 Z [6, 18, 19, 20, 13, 21, 11, 22, 15, 23] f4.an f4.code (fnQ Tryz.prog 172 Tryz.f4.results Q) (argEnv [x0, x1, x2]) w = f4.sh Z x0 x1 x2 w Q := by kernel_rfl
theorem f4.enters : ∀ f, f ∈ ([6, 18, 19, 20, 13, 21, 11, 22, 15, 23] : List Nat) → Enters Tryz.prog f := by
 intro f hf
 simp only [List.mem_cons, List.not_mem_nil, or_false] at hf
 rcases hf with rfl | rfl | rfl | rfl | rfl | rfl | rfl | rfl | rfl | rfl
 · exact en6
 · exact en18
 · exact en19
 · exact en20
 · exact en13
 · exact en21
 · exact en11
 · exact en22
 · exact en15
 · exact en23
theorem f4.calls {Z : List PanicEntry → World → Prop} {x0 x1 x2 : Value} {w : World} {Q : Value → World → Prop} (h : f4.sh Z x0 x1 x2 w Q) : CallV Tryz.prog Z 4 #[x0, x1, x2] w Q :=
 calls_of_vcn drawD_sound (Q := Q) (n := 172) (rs := Tryz.f4.results) (an := f4.an) (c := f4.code) (cal := [6, 18, 19, 20, 13, 21, 11, 22, 15, 23]) (args := [x0, x1, x2]) Tryz.func4 (by kernel_rfl) rfl f4.body_eq follows (Nat.le_of_ble_eq_true (by kernel_rfl)) (enters_of_all f4.enters) ((f4.shape Z x0 x1 x2 w Q).mpr h)

def f6.sh (Z : List PanicEntry → World → Prop) (w : World) (Q : Value → World → Prop) : Prop :=
 run1 Tryz.prog Z (Instr.build 24 #[(0, (Value.int IntKind.u32 1)), (1, (Value.int IntKind.u32 2))]) w fun t6_1 w =>
 run1 Tryz.prog Z (Instr.build 27 #[(0, (Value.int IntKind.i8 3)), (1, (Value.int IntKind.u32 4)), (2, (Value.int IntKind.i64 5))]) w fun t7_2 w =>
 run1 Tryz.prog Z (Instr.build 33 #[(0, (Value.int IntKind.i8 2)), (1, (Value.string { data := #[47, 97] })), (4, (Value.int IntKind.i32 (-1)))]) w fun t8_3 w =>
 run1 Tryz.prog Z (Instr.build 35 #[(0, t6_1), (1, t7_2), (2, t8_3)]) w fun t9_4 w =>
 run1 Tryz.prog Z (Instr.alloc 35 true (.tuple #[])) w fun t1_5 w =>
 run0 Tryz.prog Z (Instr.storeAt 35 t1_5 t9_4) w fun w =>
 run1 Tryz.prog Z (Instr.loadAt 35 t1_5) w fun t11_6 w =>
 CallV Tryz.prog Z 9 #[t11_6] w fun t12_7 w =>
 run1 Tryz.prog Z (Instr.extract t12_7 0) w fun t13_8 w =>
 run1 Tryz.prog Z (Instr.extract t12_7 1) w fun t14_9 w =>
 CallV Tryz.prog Z 19 #[t13_8] w fun t17_10 w =>
 run1 Tryz.prog Z (Instr.extract t17_10 0) w fun t18_11 w =>
 run1 Tryz.prog Z (Instr.extract t17_10 1) w fun t19_12 w =>
 run1 Tryz.prog Z (Instr.alloc 35 true (.tuple #[])) w fun t4_13 w =>
 run0 Tryz.prog Z (Instr.storeAt 35 t4_13 t18_11) w fun w =>
 run1 Tryz.prog Z (eqOp BinOp.eql 39 false true t14_9 (Value.int IntKind.i64 0)) w fun t21_14 w =>
 guardW (t21_14) true (fun k => k (t19_12) w) (fun t23_15 w =>
 guardW (t21_14) true (fun k => k (t14_9) w) (fun t24_16 w =>
 guardW (t21_14) true (fun k => run1 Tryz.prog Z (eqOp BinOp.eql 39 false false t23_15 t24_16) w k) (fun t25_17 w =>
 run1 Tryz.prog Z (pickV t21_14 t25_17 (Value.bool false)) w fun t26_18 w =>
 guardW (t26_18) true (fun k => k (t13_8) w) (fun t28_19 w =>
 guardW (t26_18) true (fun k => run1 Tryz.prog Z (Builtin.len_ #[28] 3 #[t28_19]) w k) (fun t29_20 w =>
 guardW (t26_18) true (fun k => run1 Tryz.prog Z (eqOp BinOp.eql 3 false true t29_20 (Value.int IntKind.i64 44)) w k) (fun t30_21 w =>
 run1 Tryz.prog Z (pickV t26_18 t30_21 (Value.bool false)) w fun t31_22 w =>
 guardW (t31_22) true (fun k => run1 Tryz.prog Z (Instr.loadAt 35 t1_5) w k) (fun t33_23 w =>
 guardW (t31_22) true (fun k => run1 Tryz.prog Z (Instr.loadAt 35 t4_13) w k) (fun t34_24 w =>
 guardW (t31_22) true (fun k => CallV Tryz.prog Z 11 #[t33_23, t34_24] w k) (fun t35_25 w =>
 run1 Tryz.prog Z (pickV t31_22 t35_25 (Value.bool false)) w fun t36_26 w =>
 Q t36_26 w) w) w) w) w) w) w) w) w) w
noncomputable def f6.code : Code := match Tryz.f6.body with | some c => c | none => .skip
def f6.an : An := (.sq .leaf (.sq .leaf (.sq .leaf (.sq .leaf (.sq .leaf .leaf)))))
theorem f6.body_eq : Tryz.f6.body = some f6.code := by kernel_rfl
theorem f6.shape (Z : List PanicEntry → World → Prop) (w : World) (Q : Value → World → Prop) : vc drawD Tryz.prog 37 Z [9, 19, 11] f6.an f6.code (fnQ Tryz.prog 37 Tryz.f6.results Q) (argEnv []) w = f6.sh Z  w Q := by kernel_rfl
theorem f6.enters : ∀ f, f ∈ ([9, 19, 11] : List Nat) → Enters Tryz.prog f := by
 intro f hf
 simp only [List.mem_cons, List.not_mem_nil, or_false] at hf
 rcases hf with rfl | rfl | rfl
 · exact en9
 · exact en19
 · exact en11
theorem f6.calls {Z : List PanicEntry → World → Prop} {w : World} {Q : Value → World → Prop} (h : f6.sh Z  w Q) : CallV Tryz.prog Z 6 #[] w Q :=
 calls_of_vcn drawD_sound (Q := Q) (n := 37) (rs := Tryz.f6.results) (an := f6.an) (c := f6.code) (cal := [9, 19, 11]) (args := []) Tryz.func6 (by kernel_rfl) rfl f6.body_eq follows (Nat.le_of_ble_eq_true (by kernel_rfl)) (enters_of_all f6.enters) ((f6.shape Z  w Q).mpr h)

def f9.sh (Z : List PanicEntry → World → Prop) (x0 : Value) (w : World) (Q : Value → World → Prop) : Prop :=
 run1 Tryz.prog Z (Instr.box 35 x0) w fun t1_1 w =>
 run1 Tryz.prog Z (Instr.loadAt 35 t1_1) w fun t5_2 w =>
 CallV Tryz.prog Z 28 #[t5_2] w fun t6_3 w =>
 run1 Tryz.prog Z (eqOp BinOp.neq 39 false true t6_3 (Value.int IntKind.i64 0)) w fun t7_4 w =>
 CondV t7_4 (
 Q (Value.tuple #[(Value.slice none 0 0), (Value.int IntKind.i64 40)]) w) (
 run1 Tryz.prog Z (Instr.build 81 #[]) w fun t8_5 w =>
 run1 Tryz.prog Z (Instr.box 81 t8_5) w fun t9_6 w =>
 run1 Tryz.prog Z (Instr.fieldAt 35 t1_1 0) w fun t11_7 w =>
 run1 Tryz.prog Z (Instr.fieldAt 24 t11_7 0) w fun t12_8 w =>
 run1 Tryz.prog Z (Instr.loadAt 22 t12_8) w fun t13_9 w =>
 CallV Tryz.prog Z 29 #[t9_6, t13_9] w fun t14_10 w =>
 run1 Tryz.prog Z (Instr.fieldAt 35 t1_1 0) w fun t16_11 w =>
 run1 Tryz.prog Z (Instr.fieldAt 24 t16_11 1) w fun t17_12 w =>
 run1 Tryz.prog Z (Instr.loadAt 22 t17_12) w fun t18_13 w =>
 CallV Tryz.prog Z 29 #[t9_6, t18_13] w fun t19_14 w =>
 run1 Tryz.prog Z (Instr.fieldAt 35 t1_1 1) w fun t21_15 w =>
 run1 Tryz.prog Z (Instr.fieldAt 27 t21_15 0) w fun t22_16 w =>
 run1 Tryz.prog Z (Instr.loadAt 25 t22_16) w fun t23_17 w =>
 CallV Tryz.prog Z 30 #[t9_6, t23_17] w fun t24_18 w =>
 run1 Tryz.prog Z (Instr.fieldAt 35 t1_1 1) w fun t26_19 w =>
 run1 Tryz.prog Z (Instr.fieldAt 27 t26_19 1) w fun t27_20 w =>
 run1 Tryz.prog Z (Instr.loadAt 22 t27_20) w fun t28_21 w =>
 CallV Tryz.prog Z 29 #[t9_6, t28_21] w fun t29_22 w =>
 run1 Tryz.prog Z (Instr.fieldAt 35 t1_1 1) w fun t31_23 w =>
 run1 Tryz.prog Z (Instr.fieldAt 27 t31_23 2) w fun t32_24 w =>
 run1 Tryz.prog Z (Instr.loadAt 2 t32_24) w fun t33_25 w =>
 CallV Tryz.prog Z 31 #[t9_6, t33_25] w fun t34_26 w =>
 run1 Tryz.prog Z (Instr.build 86 #[]) w fun t35_27 w =>
 run1 Tryz.prog Z (Instr.fieldAt 35 t1_1 2) w fun t37_28 w =>
 run1 Tryz.prog Z (Instr.loadAt 33 t37_28) w fun t38_29 w =>
 CallV Tryz.prog Z 32 #[t35_27, t9_6, t38_29] w fun t39_30 w =>
 CallV Tryz.prog Z 33 #[t9_6] w fun t41_31 w =>
 Q (Value.tuple #[t41_31, (Value.int IntKind.i64 0)]) w)
noncomputable def f9.code : Code := match Tryz.f9.body with | some c => c | none => .skip
def f9.an : An := (.sq .leaf (.sq (.sq .leaf (.cn (.sq .leaf .leaf) .leaf)) (.sq .leaf (.sq .leaf (.sq .leaf (.sq .leaf (.sq .leaf (.sq .leaf (.sq .leaf (.sq .leaf .leaf))))))))))
theorem f9.body_eq : Tryz.f9.body = some f9.code := by kernel_rfl
theorem f9.shape (Z : List PanicEntry → World → Prop) (x0 : Value) (w : World) (Q : Value → World → Prop) : vc drawD Tryz.prog 42 Z [28, 29, 30, 31, 32, 33] f9.an f9.code (fnQ Tryz.prog 42 Tryz.f9.results Q) (argEnv [x0]) w = f9.sh Z x0 w Q := by kernel_rfl
theorem f9.enters : ∀ f, f ∈ ([28, 29, 30, 31, 32, 33] : List Nat) → Enters Tryz.prog f := by
 intro f hf
 simp only [List.mem_cons, List.not_mem_nil, or_false] at hf
 rcases hf with rfl | rfl | rfl | rfl | rfl | rfl
 · exact en28
 · exact en29
 · exact en30
 · exact en31
 · exact en32
 · exact en33
theorem f9.calls {Z : List PanicEntry → World → Prop} {x0 : Value} {w : World} {Q : Value → World → Prop} (h : f9.sh Z x0 w Q) : CallV Tryz.prog Z 9 #[x0] w Q :=
 calls_of_vcn drawD_sound (Q := Q) (n := 42) (rs := Tryz.f9.results) (an := f9.an) (c := f9.code) (cal := [28, 29, 30, 31, 32, 33]) (args := [x0]) Tryz.func9 (by kernel_rfl) rfl f9.body_eq follows (Nat.le_of_ble_eq_true (by kernel_rfl)) (enters_of_all f9.enters) ((f9.shape Z x0 w Q).mpr h)

def f11.sh (Z : List PanicEntry → World → Prop) (x0 x1 : Value) (w : World) (Q : Value → World → Prop) : Prop :=
 run1 Tryz.prog Z (Instr.box 35 x0) w fun t2_1 w =>
 run1 Tryz.prog Z (Instr.box 35 x1) w fun t3_2 w =>
 run1 Tryz.prog Z (Instr.fieldAt 35 t2_1 0) w fun t5_3 w =>
 run1 Tryz.prog Z (Instr.loadAt 24 t5_3) w fun t6_4 w =>
 run1 Tryz.prog Z (Instr.fieldAt 35 t3_2 0) w fun t7_5 w =>
 run1 Tryz.prog Z (Instr.loadAt 24 t7_5) w fun t8_6 w =>
 run1 Tryz.prog Z (eqOp BinOp.eql 24 false false t6_4 t8_6) w fun t9_7 w =>
 guardW (t9_7) true (fun k => run1 Tryz.prog Z (Instr.fieldAt 35 t2_1 1) w k) (fun t11_8 w =>
 guardW (t9_7) true (fun k => run1 Tryz.prog Z (Instr.loadAt 27 t11_8) w k) (fun t12_9 w =>
 guardW (t9_7) true (fun k => run1 Tryz.prog Z (Instr.fieldAt 35 t3_2 1) w k) (fun t13_10 w =>
 guardW (t9_7) true (fun k => run1 Tryz.prog Z (Instr.loadAt 27 t13_10) w k) (fun t14_11 w =>
 guardW (t9_7) true (fun k => run1 Tryz.prog Z (eqOp BinOp.eql 27 false false t12_9 t14_11) w k) (fun t15_12 w =>
 run1 Tryz.prog Z (pickV t9_7 t15_12 (Value.bool false)) w fun t16_13 w =>
 guardW (t16_13) true (fun k => run1 Tryz.prog Z (Instr.fieldAt 35 t2_1 2) w k) (fun t18_14 w =>
 guardW (t16_13) true (fun k => run1 Tryz.prog Z (Instr.loadAt 33 t18_14) w k) (fun t19_15 w =>
 guardW (t16_13) true (fun k => run1 Tryz.prog Z (Instr.fieldAt 35 t3_2 2) w k) (fun t20_16 w =>
 guardW (t16_13) true (fun k => run1 Tryz.prog Z (Instr.loadAt 33 t20_16) w k) (fun t21_17 w =>
 guardW (t16_13) true (fun k => CallV Tryz.prog Z 40 #[t19_15, t21_17] w k) (fun t22_18 w =>
 run1 Tryz.prog Z (pickV t16_13 t22_18 (Value.bool false)) w fun t23_19 w =>
 Q t23_19 w) w) w) w) w) w) w) w) w) w) w
noncomputable def f11.code : Code := match Tryz.f11.body with | some c => c | none => .skip
def f11.an : An := (.sq .leaf (.sq .leaf .leaf))
theorem f11.body_eq : Tryz.f11.body = some f11.code := by kernel_rfl
theorem f11.shape (Z : List PanicEntry → World → Prop) (x0 x1 : Value) (w : World) (Q : Value → World → Prop) : vc drawD Tryz.prog 24 Z [40] f11.an f11.code (fnQ Tryz.prog 24 Tryz.f11.results Q) (argEnv [x0, x1]) w = f11.sh Z x0 x1 w Q := by kernel_rfl
theorem f11.enters : ∀ f, f ∈ ([40] : List Nat) → Enters Tryz.prog f := by
 intro f hf
 simp only [List.mem_cons, List.not_mem_nil, or_false] at hf
 rcases hf with rfl
 · exact en40
theorem f11.calls {Z : List PanicEntry → World → Prop} {x0 x1 : Value} {w : World} {Q : Value → World → Prop} (h : f11.sh Z x0 x1 w Q) : CallV Tryz.prog Z 11 #[x0, x1] w Q :=
 calls_of_vcn drawD_sound (Q := Q) (n := 24) (rs := Tryz.f11.results) (an := f11.an) (c := f11.code) (cal := [40]) (args := [x0, x1]) Tryz.func11 (by kernel_rfl) rfl f11.body_eq follows (Nat.le_of_ble_eq_true (by kernel_rfl)) (enters_of_all f11.enters) ((f11.shape Z x0 x1 w Q).mpr h)

def f13.sh (Z : List PanicEntry → World → Prop) (x0 x1 : Value) (w : World) (Q : Value → World → Prop) : Prop :=
 run1 Tryz.prog Z (Builtin.len_ #[28] 3 #[x0]) w fun t7_1 w =>
 run1 Tryz.prog Z (Builtin.len_ #[28] 3 #[x1]) w fun t9_2 w =>
 run1 Tryz.prog Z (eqOp BinOp.neq 3 false false t7_1 t9_2) w fun t10_3 w =>
 CondV t10_3 (
 Q (Value.bool false) w) (
 ∃ J_4 : Nat → Value → World → Prop, (∃ m, J_4 m (Value.int IntKind.i64 0) w) ∧
 ∀ m_4, ∀ t5_5 : Value, ∀ w : World, J_4 m_4 t5_5 w → Env →
 run1 Tryz.prog Z (Builtin.len_ #[28] 3 #[x0]) w fun t13_6 w =>
 run1 Tryz.prog Z (binOp BinOp.lss 3 t5_5 t13_6) w fun t14_7 w =>
 CondV t14_7 (
 Drawn w fun w =>
 Pure1 Tryz.prog (Instr.indexAt 28 x0 t5_5) fun t19_8 =>
 Read1 Tryz.prog (Instr.loadAt 5 t19_8) w fun t20_9 =>
 Pure1 Tryz.prog (Instr.indexAt 28 x1 t5_5) fun t23_10 =>
 Read1 Tryz.prog (Instr.loadAt 5 t23_10) w fun t24_11 =>
 Pure1 Tryz.prog (eqOp BinOp.neq 5 false false t20_9 t24_11) fun t25_12 =>
 CondV t25_12 (
 Q (Value.bool false) w) (
 run1 Tryz.prog Z (binOp BinOp.add 3 t5_5 (Value.int IntKind.i64 1)) w fun t16_13 w =>
 ∃ n_4, n_4 < m_4 ∧ J_4 n_4 t16_13 w)) (
 Q (Value.bool true) w))
noncomputable def f13.code : Code := match Tryz.f13.body with | some c => c | none => .skip
def f13.an : An := (.sq .leaf (.sq (.sq .leaf (.cn (.sq .leaf .leaf) .leaf)) (.sq (.sq .leaf (.bl (.lp [5] [4, 5, 11, 12, 13, 14, 15, 16, 17, 18, 19, 20, 21, 22, 23, 24, 25] (.sq (.sq .leaf (.cn .leaf .leaf)) (.sq (.bl (.sq (.dr (.take 0 false (.take 1 false (.take 2 false (.take 3 true (.take 4 false (.take 5 false (.take 6 false (.take 7 true (.take 8 false .fin)))))))))) (.cn (.sq .leaf .leaf) .leaf))) .leaf))))) (.sq .leaf .leaf))))
theorem f13.body_eq : Tryz.f13.body = some f13.code := by kernel_rfl
theorem f13.shape (Z : List PanicEntry → World → Prop) (x0 x1 : Value) (w : World) (Q : Value → World → Prop) : vc drawD Tryz.prog 26 Z [] f13.an f13.code (fnQ Tryz.prog 26 Tryz.f13.results Q) (argEnv [x0, x1]) w = f13.sh Z x0 x1 w Q := by kernel_rfl
theorem f13.enters : ∀ f, f ∈ ([] : List Nat) → Enters Tryz.prog f := by
 intro f hf
 cases hf
theorem f13.calls {Z : List PanicEntry → World → Prop} {x0 x1 : Value} {w : World} {Q : Value → World → Prop} (h : f13.sh Z x0 x1 w Q) : CallV Tryz.prog Z 13 #[x0, x1] w Q :=
 calls_of_vcn drawD_sound (Q := Q) (n := 26) (rs := Tryz.f13.results) (an := f13.an) (c := f13.code) (cal := []) (args := [x0, x1]) Tryz.func13 (by kernel_rfl) rfl f13.body_eq follows (Nat.le_of_ble_eq_true (by kernel_rfl)) (enters_of_all f13.enters) ((f13.shape Z x0 x1 w Q).mpr h)

def f14.sh (Z : List PanicEntry → World → Prop) (x0 x1 : Value) (w : World) (Q : Value → World → Prop) : Prop :=
 runX Tryz.prog Z (nilChk x0) w fun t5_1 w =>
 run1 Tryz.prog Z (Instr.fieldAt 67 t5_1 0) w fun t6_2 w =>
 run1 Tryz.prog Z (Instr.loadAt 45 t6_2) w fun t7_3 w =>
 run1 Tryz.prog Z (Builtin.len_ #[45] 3 #[t7_3]) w fun t8_4 w =>
 run1 Tryz.prog Z (binOp BinOp.lss 3 t8_4 (Value.int IntKind.i64 600)) w fun t9_5 w =>
 CondV t9_5 (
 runX Tryz.prog Z (nilChk x0) w fun t12_6 w =>
 run1 Tryz.prog Z (Instr.fieldAt 67 t12_6 0) w fun t13_7 w =>
 run1 Tryz.prog Z (Instr.loadAt 45 t13_7) w fun t14_8 w =>
 run1 Tryz.prog Z (Instr.buildSlice 45 1 #[(0, x1)]) w fun t16_9 w =>
 run1 Tryz.prog Z (Builtin.append_ #[45, 45] 45 #[t14_8, t16_9]) w fun t17_10 w =>
 runX Tryz.prog Z (nilChk x0) w fun t18_11 w =>
 run1 Tryz.prog Z (Instr.fieldAt 67 t18_11 0) w fun t19_12 w =>
 run0 Tryz.prog Z (Instr.storeAt 45 t19_12 t17_10) w fun w =>
 Q (Value.tuple #[]) w) (
 Q (Value.tuple #[]) w)
noncomputable def f14.code : Code := match Tryz.f14.body with | some c => c | none => .skip
def f14.an : An := (.sq .leaf (.cn .leaf .leaf))
theorem f14.body_eq : Tryz.f14.body = some f14.code := by kernel_rfl
theorem f14.shape (Z : List PanicEntry → World → Prop) (x0 x1 : Value) (w : World) (Q : Value → World → Prop) : vc drawD Tryz.prog 20 Z [] f14.an f14.code (fnQ Tryz.prog 20 Tryz.f14.results Q) (argEnv [x0, x1]) w = f14.sh Z x0 x1 w Q := by kernel_rfl
theorem f14.enters : ∀ f, f ∈ ([] : List Nat) → Enters Tryz.prog f := by
 intro f hf
 cases hf
theorem f14.calls {Z : List PanicEntry → World → Prop} {x0 x1 : Value} {w : World} {Q : Value → World → Prop} (h : f14.sh Z x0 x1 w Q) : CallV Tryz.prog Z 14 #[x0, x1] w Q :=
 calls_of_vcn drawD_sound (Q := Q) (n := 20) (rs := Tryz.f14.results) (an := f14.an) (c := f14.code) (cal := []) (args := [x0, x1]) Tryz.func14 (by kernel_rfl) rfl f14.body_eq follows (Nat.le_of_ble_eq_true (by kernel_rfl)) (enters_of_all f14.enters) ((f14.shape Z x0 x1 w Q).mpr h)

def f15.sh (Z : List PanicEntry → World → Prop) (x0 : Value) (w : World) (Q : Value → World → Prop) : Prop :=
 runX Tryz.prog Z (nilChk x0) w fun t25_1 w =>
 run1 Tryz.prog Z (Instr.fieldAt 67 t25_1 0) w fun t26_2 w =>
 run1 Tryz.prog Z (Instr.loadAt 45 t26_2) w fun t27_3 w =>
 CallV Tryz.prog Z 44 #[t27_3] w fun t28_4 w =>
 runX Tryz.prog Z (nilChk x0) w fun t30_5 w =>
 run1 Tryz.prog Z (Instr.fieldAt 67 t30_5 1) w fun t31_6 w =>
 run1 Tryz.prog Z (Instr.loadAt 46 t31_6) w fun t32_7 w =>
 CallV Tryz.prog Z 45 #[t32_7] w fun t33_8 w =>
 runX Tryz.prog Z (nilChk x0) w fun t35_9 w =>
 run1 Tryz.prog Z (Instr.fieldAt 67 t35_9 2) w fun t36_10 w =>
 run1 Tryz.prog Z (Instr.loadAt 47 t36_10) w fun t37_11 w =>
 CallV Tryz.prog Z 46 #[t37_11] w fun t38_12 w =>
 runX Tryz.prog Z (nilChk x0) w fun t40_13 w =>
 run1 Tryz.prog Z (Instr.fieldAt 67 t40_13 3) w fun t41_14 w =>
 run1 Tryz.prog Z (Instr.loadAt 48 t41_14) w fun t42_15 w =>
 CallV Tryz.prog Z 47 #[t42_15] w fun t43_16 w =>
 runX Tryz.prog Z (nilChk x0) w fun t45_17 w =>
 run1 Tryz.prog Z (Instr.fieldAt 67 t45_17 4) w fun t46_18 w =>
 run1 Tryz.prog Z (Instr.loadAt 49 t46_18) w fun t47_19 w =>
 CallV Tryz.prog Z 48 #[t47_19] w fun t48_20 w =>
 runX Tryz.prog Z (nilChk x0) w fun t50_21 w =>
 run1 Tryz.prog Z (Instr.fieldAt 67 t50_21 5) w fun t51_22 w =>
 run1 Tryz.prog Z (Instr.loadAt 50 t51_22) w fun t52_23 w =>
 CallV Tryz.prog Z 49 #[t52_23] w fun t53_24 w =>
 runX Tryz.prog Z (nilChk x0) w fun t55_25 w =>
 run1 Tryz.prog Z (Instr.fieldAt 67 t55_25 6) w fun t56_26 w =>
 run1 Tryz.prog Z (Instr.loadAt 51 t56_26) w fun t57_27 w =>
 CallV Tryz.prog Z 50 #[t57_27] w fun t58_28 w =>
 runX Tryz.prog Z (nilChk x0) w fun t60_29 w =>
 run1 Tryz.prog Z (Instr.fieldAt 67 t60_29 7) w fun t61_30 w =>
 run1 Tryz.prog Z (Instr.loadAt 52 t61_30) w fun t62_31 w =>
 CallV Tryz.prog Z 51 #[t62_31] w fun t63_32 w =>
 runX Tryz.prog Z (nilChk x0) w fun t65_33 w =>
 run1 Tryz.prog Z (Instr.fieldAt 67 t65_33 8) w fun t66_34 w =>
 run1 Tryz.prog Z (Instr.loadAt 53 t66_34) w fun t67_35 w =>
 CallV Tryz.prog Z 52 #[t67_35] w fun t68_36 w =>
 runX Tryz.prog Z (nilChk x0) w fun t70_37 w =>
 run1 Tryz.prog Z (Instr.fieldAt 67 t70_37 9) w fun t71_38 w =>
 run1 Tryz.prog Z (Instr.loadAt 54 t71_38) w fun t72_39 w =>
 CallV Tryz.prog Z 53 #[t72_39] w fun t73_40 w =>
 runX Tryz.prog Z (nilChk x0) w fun t75_41 w =>
 run1 Tryz.prog Z (Instr.fieldAt 67 t75_41 10) w fun t76_42 w =>
 run1 Tryz.prog Z (Instr.loadAt 55 t76_42) w fun t77_43 w =>
 CallV Tryz.prog Z 54 #[t77_43] w fun t78_44 w =>
 runX Tryz.prog Z (nilChk x0) w fun t80_45 w =>
 run1 Tryz.prog Z (Instr.fieldAt 67 t80_45 11) w fun t81_46 w =>
 run1 Tryz.prog Z (Instr.loadAt 56 t81_46) w fun t82_47 w =>
 CallV Tryz.prog Z 55 #[t82_47] w fun t83_48 w =>
 runX Tryz.prog Z (nilChk x0) w fun t85_49 w =>
 run1 Tryz.prog Z (Instr.fieldAt 67 t85_49 12) w fun t86_50 w =>
 run1 Tryz.prog Z (Instr.loadAt 57 t86_50) w fun t87_51 w =>
 CallV Tryz.prog Z 56 #[t87_51] w fun t88_52 w =>
 runX Tryz.prog Z (nilChk x0) w fun t90_53 w =>
 run1 Tryz.prog Z (Instr.fieldAt 67 t90_53 13) w fun t91_54 w =>
 run1 Tryz.prog Z (Instr.loadAt 58 t91_54) w fun t92_55 w =>
 CallV Tryz.prog Z 57 #[t92_55] w fun t93_56 w =>
 runX Tryz.prog Z (nilChk x0) w fun t95_57 w =>
 run1 Tryz.prog Z (Instr.fieldAt 67 t95_57 14) w fun t96_58 w =>
 run1 Tryz.prog Z (Instr.loadAt 59 t96_58) w fun t97_59 w =>
 CallV Tryz.prog Z 58 #[t97_59] w fun t98_60 w =>
 runX Tryz.prog Z (nilChk x0) w fun t100_61 w =>
 run1 Tryz.prog Z (Instr.fieldAt 67 t100_61 15) w fun t101_62 w =>
 run1 Tryz.prog Z (Instr.loadAt 60 t101_62) w fun t102_63 w =>
 CallV Tryz.prog Z 59 #[t102_63] w fun t103_64 w =>
 runX Tryz.prog Z (nilChk x0) w fun t105_65 w =>
 run1 Tryz.prog Z (Instr.fieldAt 67 t105_65 16) w fun t106_66 w =>
 run1 Tryz.prog Z (Instr.loadAt 61 t106_66) w fun t107_67 w =>
 CallV Tryz.prog Z 60 #[t107_67] w fun t108_68 w =>
 runX Tryz.prog Z (nilChk x0) w fun t110_69 w =>
 run1 Tryz.prog Z (Instr.fieldAt 67 t110_69 17) w fun t111_70 w =>
 run1 Tryz.prog Z (Instr.loadAt 62 t111_70) w fun t112_71 w =>
 CallV Tryz.prog Z 61 #[t112_71] w fun t113_72 w =>
 runX Tryz.prog Z (nilChk x0) w fun t115_73 w =>
 run1 Tryz.prog Z (Instr.fieldAt 67 t115_73 18) w fun t116_74 w =>
 run1 Tryz.prog Z (Instr.loadAt 63 t116_74) w fun t117_75 w =>
 CallV Tryz.prog Z 62 #[t117_75] w fun t118_76 w =>
 runX Tryz.prog Z (nilChk x0) w fun t120_77 w =>
 run1 Tryz.prog Z (Instr.fieldAt 67 t120_77 19) w fun t121_78 w =>
 run1 Tryz.prog Z (Instr.loadAt 64 t121_78) w fun t122_79 w =>
 CallV Tryz.prog Z 63 #[t122_79] w fun t123_80 w =>
 runX Tryz.prog Z (nilChk x0) w fun t125_81 w =>
 run1 Tryz.prog Z (Instr.fieldAt 67 t125_81 20) w fun t126_82 w =>
 run1 Tryz.prog Z (Instr.loadAt 65 t126_82) w fun t127_83 w =>
 CallV Tryz.prog Z 64 #[t127_83] w fun t128_84 w =>
 guardW (t28_4) true (fun k => k (t33_8) w) (fun t131_85 w =>
 run1 Tryz.prog Z (pickV t28_4 t131_85 (Value.bool false)) w fun t132_86 w =>
 guardW (t132_86) true (fun k => k (t38_12) w) (fun t134_87 w =>
 run1 Tryz.prog Z (pickV t132_86 t134_87 (Value.bool false)) w fun t135_88 w =>
 guardW (t135_88) true (fun k => k (t43_16) w) (fun t137_89 w =>
 run1 Tryz.prog Z (pickV t135_88 t137_89 (Value.bool false)) w fun t138_90 w =>
 guardW (t138_90) true (fun k => k (t48_20) w) (fun t140_91 w =>
 run1 Tryz.prog Z (pickV t138_90 t140_91 (Value.bool false)) w fun t141_92 w =>
 guardW (t141_92) true (fun k => k (t53_24) w) (fun t143_93 w =>
 run1 Tryz.prog Z (pickV t141_92 t143_93 (Value.bool false)) w fun t144_94 w =>
 guardW (t144_94) true (fun k => k (t58_28) w) (fun t146_95 w =>
 run1 Tryz.prog Z (pickV t144_94 t146_95 (Value.bool false)) w fun t147_96 w =>
 guardW (t147_96) true (fun k => k (t63_32) w) (fun t149_97 w =>
 run1 Tryz.prog Z (pickV t147_96 t149_97 (Value.bool false)) w fun t150_98 w =>
 guardW (t150_98) true (fun k => k (t68_36) w) (fun t152_99 w =>
 run1 Tryz.prog Z (pickV t150_98 t152_99 (Value.bool false)) w fun t153_100 w =>
 guardW (t153_100) true (fun k => k (t73_40) w) (fun t155_101 w =>
 run1 Tryz.prog Z (pickV t153_100 t155_101 (Value.bool false)) w fun t156_102 w =>
 guardW (t156_102) true (fun k => k (t78_44) w) (fun t158_103 w =>
 run1 Tryz.prog Z (pickV t156_102 t158_103 (Value.bool false)) w fun t159_104 w =>
 guardW (t159_104) true (fun k => k (t83_48) w) (fun t161_105 w =>
 run1 Tryz.prog Z (pickV t159_104 t161_105 (Value.bool false)) w fun t162_106 w =>
 guardW (t162_106) true (fun k => k (t88_52) w) (fun t164_107 w =>
 run1 Tryz.prog Z (pickV t162_106 t164_107 (Value.bool false)) w fun t165_108 w =>
 guardW (t165_108) true (fun k => k (t93_56) w) (fun t167_109 w =>
 run1 Tryz.prog Z (pickV t165_108 t167_109 (Value.bool false)) w fun t168_110 w =>
 guardW (t168_110) true (fun k => k (t98_60) w) (fun t170_111 w =>
 run1 Tryz.prog Z (pickV t168_110 t170_111 (Value.bool false)) w fun t171_112 w =>
 guardW (t171_112) true (fun k => k (t103_64) w) (fun t173_113 w =>
 run1 Tryz.prog Z (pickV t171_112 t173_113 (Value.bool false)) w fun t174_114 w =>
 guardW (t174_114) true (fun k => k (t108_68) w) (fun t176_115 w =>
 run1 Tryz.prog Z (pickV t174_114 t176_115 (Value.bool false)) w fun t177_116 w =>
 guardW (t177_116) true (fun k => k (t113_72) w) (fun t179_117 w =>
 run1 Tryz.prog Z (pickV t177_116 t179_117 (Value.bool false)) w fun t180_118 w =>
 guardW (t180_118) true (fun k => k (t118_76) w) (fun t182_119 w =>
 run1 Tryz.prog Z (pickV t180_118 t182_119 (Value.bool false)) w fun t183_120 w =>
 guardW (t183_120) true (fun k => k (t123_80) w) (fun t185_121 w =>
 run1 Tryz.prog Z (pickV t183_120 t185_121 (Value.bool false)) w fun t186_122 w =>
 guardW (t186_122) true (fun k => k (t128_84) w) (fun t188_123 w =>
 run1 Tryz.prog Z (pickV t186_122 t188_123 (Value.bool false)) w fun t189_124 w =>
 Q t189_124 w) w) w) w) w) w) w) w) w) w) w) w) w) w) w) w) w) w) w) w) w
noncomputable def f15.code : Code := match Tryz.f15.body with | some c => c | none => .skip
def f15.an : An := (.sq .leaf (.sq .leaf (.sq .leaf (.sq .leaf (.sq .leaf (.sq .leaf (.sq .leaf (.sq .leaf (.sq .leaf (.sq .leaf (.sq .leaf (.sq .leaf (.sq .leaf (.sq .leaf (.sq .leaf (.sq .leaf (.sq .leaf (.sq .leaf (.sq .leaf (.sq .leaf (.sq .leaf (.sq .leaf (.sq .leaf .leaf)))))))))))))))))))))))
theorem f15.body_eq : Tryz.f15.body = some f15.code := by kernel_rfl
theorem f15.shape (Z : List PanicEntry → World → Prop) (x0 : Value) (w : World) (Q : Value → World → Prop) : vc drawD Tryz.prog 190 Z [44, 45, 46, 47, 48, 49, 50, 51, 52, 53, 54, 55, 56, 57, 58, 59, 60, 61, 62, 63, 64] f15.an f15.code (fnQ Tryz.prog 190 Tryz.f15.results Q) (argEnv [x0]) w = f15.sh Z x0 w Q := by kernel_rfl
theorem f15.enters : ∀ f, f ∈ ([44, 45, 46, 47, 48, 49, 50, 51, 52, 53, 54, 55, 56, 57, 58, 59, 60, 61, 62, 63, 64] : List Nat) → Enters Tryz.prog f := by
 intro f hf
 simp only [List.mem_cons, List.not_mem_nil, or_false] at hf
 rcases hf with rfl | rfl | rfl | rfl | rfl | rfl | rfl | rfl | rfl | rfl | rfl | rfl | rfl | rfl | rfl | rfl | rfl | rfl | rfl | rfl | rfl
 · exact en44
 · exact en45
 · exact en46
 · exact en47
 · exact en48
 · exact en49
 · exact en50
 · exact en51
 · exact en52
 · exact en53
 · exact en54
 · exact en55
 · exact en56
 · exact en57
 · exact en58
 · exact en59
 · exact en60
 · exact en61
 · exact en62
 · exact en63
 · exact en64
theorem f15.calls {Z : List PanicEntry → World → Prop} {x0 : Value} {w : World} {Q : Value → World → Prop} (h : f15.sh Z x0 w Q) : CallV Tryz.prog Z 15 #[x0] w Q :=
 calls_of_vcn drawD_sound (Q := Q) (n := 190) (rs := Tryz.f15.results) (an := f15.an) (c := f15.code) (cal := [44, 45, 46, 47, 48, 49, 50, 51, 52, 53, 54, 55, 56, 57, 58, 59, 60, 61, 62, 63, 64]) (args := [x0]) Tryz.func15 (by kernel_rfl) rfl f15.body_eq follows (Nat.le_of_ble_eq_true (by kernel_rfl)) (enters_of_all f15.enters) ((f15.shape Z x0 w Q).mpr h)

def f18.sh (Z : List PanicEntry → World → Prop) (x0 : Value) (w : World) (Q : Value → World → Prop) : Prop :=
 run1 Tryz.prog Z (Builtin.len_ #[28] 3 #[x0]) w fun t6_1 w =>
 run1 Tryz.prog Z (binOp BinOp.add 3 t6_1 (Value.int IntKind.i64 64)) w fun t7_2 w =>
 run1 Tryz.prog Z (Instr.makeSlice 28 t7_2 t7_2) w fun t8_3 w =>
 ∃ J_4 : Nat → Value → World → Prop, (∃ m, J_4 m (Value.int IntKind.i64 0) w) ∧
 ∀ m_4, ∀ t4_5 : Value, ∀ w : World, J_4 m_4 t4_5 w → Env →
 run1 Tryz.prog Z (Builtin.len_ #[28] 3 #[t8_3]) w fun t11_6 w =>
 run1 Tryz.prog Z (binOp BinOp.lss 3 t4_5 t11_6) w fun t12_7 w =>
 CondV t12_7 (
 ∀ j_8 : World → Prop, (∀ w : World, (Env →
 run1 Tryz.prog Z (binOp BinOp.add 3 t4_5 (Value.int IntKind.i64 1)) w fun t14_9 w =>
 ∃ n_4, n_4 < m_4 ∧ J_4 n_4 t14_9 w) →
 j_8 w) →
 run1 Tryz.prog Z (binOp BinOp.rem 3 t4_5 (Value.int IntKind.i64 5)) w fun t18_10 w =>
 run1 Tryz.prog Z (binOp BinOp.add 3 (Value.int IntKind.i64 170) t18_10) w fun t19_11 w =>
 run1 Tryz.prog Z (convert 3 5 t19_11) w fun t20_12 w =>
 run1 Tryz.prog Z (Instr.indexAt 28 t8_3 t4_5) w fun t21_13 w =>
 run0 Tryz.prog Z (Instr.storeAt 5 t21_13 t20_12) w fun w =>
 run1 Tryz.prog Z (Builtin.len_ #[28] 3 #[x0]) w fun t24_14 w =>
 run1 Tryz.prog Z (binOp BinOp.lss 3 t4_5 t24_14) w fun t25_15 w =>
 CondV t25_15 (
 run1 Tryz.prog Z (Instr.indexAt 28 x0 t4_5) w fun t30_16 w =>
 run1 Tryz.prog Z (Instr.loadAt 5 t30_16) w fun t31_17 w =>
 run1 Tryz.prog Z (Instr.indexAt 28 t8_3 t4_5) w fun t32_18 w =>
 run0 Tryz.prog Z (Instr.storeAt 5 t32_18 t31_17) w fun w =>
 j_8 w) (
 j_8 w)) (
 run1 Tryz.prog Z (Builtin.len_ #[28] 3 #[x0]) w fun t35_19 w =>
 run1 Tryz.prog Z (Instr.sliceAt 28 t8_3 none (some t35_19) none) w fun t36_20 w =>
 Q t36_20 w)
noncomputable def f18.code : Code := match Tryz.f18.body with | some c => c | none => .skip
def f18.an : An := (.sq .leaf (.sq .leaf (.sq (.sq .leaf (.bl (.lp [4] [4, 9, 10, 11, 12, 13, 14, 15, 16, 17, 18, 19, 20, 21, 22, 23, 24, 25, 26, 27, 28, 29, 30, 31, 32] (.sq (.sq .leaf (.cn .leaf .leaf)) (.sj [] [15, 16, 17, 18, 19, 20, 21, 22, 23, 24, 25, 26, 27, 28, 29, 30, 31, 32] (.bl (.sq .leaf (.sq .leaf (.cn .leaf .leaf)))) .leaf))))) (.sq .leaf .leaf))))
theorem f18.body_eq : Tryz.f18.body = some f18.code := by kernel_rfl
theorem f18.shape (Z : List PanicEntry → World → Prop) (x0 : Value) (w : World) (Q : Value → World → Prop) : vc drawD Tryz.prog 37 Z [] f18.an f18.code (fnQ Tryz.prog 37 Tryz.f18.results Q) (argEnv [x0]) w = f18.sh Z x0 w Q := by kernel_rfl
theorem f18.enters : ∀ f, f ∈ ([] : List Nat) → Enters Tryz.prog f := by
 intro f hf
 cases hf
theorem f18.calls {Z : List PanicEntry → World → Prop} {x0 : Value} {w : World} {Q : Value → World → Prop} (h : f18.sh Z x0 w Q) : CallV Tryz.prog Z 18 #[x0] w Q :=
 calls_of_vcn drawD_sound (Q := Q) (n := 37) (rs := Tryz.f18.results) (an := f18.an) (c := f18.code) (cal := []) (args := [x0]) Tryz.func18 (by kernel_rfl) rfl f18.body_eq follows (Nat.le_of_ble_eq_true (by kernel_rfl)) (enters_of_all f18.enters) ((f18.shape Z x0 w Q).mpr h)

def f19.sh (Z : List PanicEntry → World → Prop) (x0 : Value) (w : World) (Q : Value → World → Prop) : Prop :=
 run1 Tryz.prog Z (Instr.alloc 35 true (.tuple #[])) w fun t2_1 w =>
 CallV Tryz.prog Z 66 #[x0] w fun t7_2 w =>
 run1 Tryz.prog Z (Instr.alloc 35 true (.tuple #[])) w fun t5_3 w =>
 CallV Tryz.prog Z 67 #[t7_2] w fun t9_4 w =>
 run1 Tryz.prog Z (Instr.fieldAt 35 t5_3 0) w fun t10_5 w =>
 run1 Tryz.prog Z (Instr.fieldAt 24 t10_5 0) w fun t11_6 w =>
 run0 Tryz.prog Z (Instr.storeAt 22 t11_6 t9_4) w fun w =>
 CallV Tryz.prog Z 67 #[t7_2] w fun t13_7 w =>
 run1 Tryz.prog Z (Instr.fieldAt 35 t5_3 0) w fun t14_8 w =>
 run1 Tryz.prog Z (Instr.fieldAt 24 t14_8 1) w fun t15_9 w =>
 run0 Tryz.prog Z (Instr.storeAt 22 t15_9 t13_7) w fun w =>
 CallV Tryz.prog Z 68 #[t7_2] w fun t17_10 w =>
 run1 Tryz.prog Z (Instr.fieldAt 35 t5_3 1) w fun t18_11 w =>
 run1 Tryz.prog Z (Instr.fieldAt 27 t18_11 0) w fun t19_12 w =>
 run0 Tryz.prog Z (Instr.storeAt 25 t19_12 t17_10) w fun w =>
 CallV Tryz.prog Z 67 #[t7_2] w fun t21_13 w =>
 run1 Tryz.prog Z (Instr.fieldAt 35 t5_3 1) w fun t22_14 w =>
 run1 Tryz.prog Z (Instr.fieldAt 27 t22_14 1) w fun t23_15 w =>
 run0 Tryz.prog Z (Instr.storeAt 22 t23_15 t21_13) w fun w =>
 CallV Tryz.prog Z 69 #[t7_2] w fun t25_16 w =>
 run1 Tryz.prog Z (Instr.fieldAt 35 t5_3 1) w fun t26_17 w =>
 run1 Tryz.prog Z (Instr.fieldAt 27 t26_17 2) w fun t27_18 w =>
 run0 Tryz.prog Z (Instr.storeAt 2 t27_18 t25_16) w fun w =>
 run1 Tryz.prog Z (Instr.build 86 #[]) w fun t28_19 w =>
 CallV Tryz.prog Z 70 #[t28_19, t7_2] w fun t30_20 w =>
 run1 Tryz.prog Z (Instr.fieldAt 35 t5_3 2) w fun t31_21 w =>
 run0 Tryz.prog Z (Instr.storeAt 33 t31_21 t30_20) w fun w =>
 CallV Tryz.prog Z 71 #[t7_2] w fun t33_22 w =>
 run1 Tryz.prog Z (eqOp BinOp.neq 39 false true t33_22 (Value.int IntKind.i64 0)) w fun t34_23 w =>
 guardW (t34_23) false (fun k => run1 Tryz.prog Z (Instr.loadAt 35 t5_3) w k) (fun t36_24 w =>
 guardW (t34_23) false (fun k => CallV Tryz.prog Z 28 #[t36_24] w k) (fun t37_25 w =>
 guardW (t34_23) false (fun k => run1 Tryz.prog Z (eqOp BinOp.neq 39 false true t37_25 (Value.int IntKind.i64 0)) w k) (fun t38_26 w =>
 run1 Tryz.prog Z (pickV t34_23 (Value.bool true) t38_26) w fun t39_27 w =>
 CondV t39_27 (
 run1 Tryz.prog Z (Instr.build 35 #[]) w fun t40_28 w =>
 run0 Tryz.prog Z (Instr.storeAt 35 t2_1 t40_28) w fun w =>
 ∃ r_29, (do loadVar 35 (← asAddr t2_1) : Sem Value).run Tryz.prog w = .ok r_29 w ∧
 Q (Value.tuple #[r_29, (Value.int IntKind.i64 40)]) w) (
 run1 Tryz.prog Z (Instr.loadAt 35 t5_3) w fun t41_30 w =>
 run0 Tryz.prog Z (Instr.storeAt 35 t2_1 t41_30) w fun w =>
 ∃ r_31, (do loadVar 35 (← asAddr t2_1) : Sem Value).run Tryz.prog w = .ok r_31 w ∧
 Q (Value.tuple #[r_31, (Value.int IntKind.i64 0)]) w)) w) w) w
noncomputable def f19.code : Code := match Tryz.f19.body with | some c => c | none => .skip
def f19.an : An := (.sq .leaf (.sq .leaf (.sq .leaf (.sq .leaf (.sq .leaf (.sq .leaf (.sq .leaf (.sq .leaf (.sq .leaf (.sq (.sq .leaf (.cn (.sq .leaf .leaf) .leaf)) (.sq .leaf .leaf)))))))))))
theorem f19.body_eq : Tryz.f19.body = some f19.code := by kernel_rfl
theorem f19.shape (Z : List PanicEntry → World → Prop) (x0 : Value) (w : World) (Q : Value → World → Prop) : vc drawD Tryz.prog 42 Z [66, 67, 68, 69, 70, 71, 28] f19.an f19.code (fnQ Tryz.prog 42 Tryz.f19.results Q) (argEnv [x0]) w = f19.sh Z x0 w Q := by kernel_rfl
theorem f19.enters : ∀ f, f ∈ ([66, 67, 68, 69, 70, 71, 28] : List Nat) → Enters Tryz.prog f := by
 intro f hf
 simp only [List.mem_cons, List.not_mem_nil, or_false] at hf
 rcases hf with rfl | rfl | rfl | rfl | rfl | rfl | rfl
 · exact en66
 · exact en67
 · exact en68
 · exact en69
 · exact en70
 · exact en71
 · exact en28
theorem f19.calls {Z : List PanicEntry → World → Prop} {x0 : Value} {w : World} {Q : Value → World → Prop} (h : f19.sh Z x0 w Q) : CallV Tryz.prog Z 19 #[x0] w Q :=
 calls_of_vcn drawD_sound (Q := Q) (n := 42) (rs := Tryz.f19.results) (an := f19.an) (c := f19.code) (cal := [66, 67, 68, 69, 70, 71, 28]) (args := [x0]) Tryz.func19 (by kernel_rfl) rfl f19.body_eq follows (Nat.le_of_ble_eq_true (by kernel_rfl)) (enters_of_all f19.enters) ((f19.shape Z x0 w Q).mpr h)

def f20.sh (Z : List PanicEntry → World → Prop) (x0 : Value) (w : World) (Q : Value → World → Prop) : Prop :=
 run1 Tryz.prog Z (Instr.alloc 35 true (.tuple #[])) w fun t2_1 w =>
 CallV Tryz.prog Z 72 #[x0] w fun t7_2 w =>
 run1 Tryz.prog Z (Instr.alloc 35 true (.tuple #[])) w fun t5_3 w =>
 CallV Tryz.prog Z 73 #[t7_2] w fun t9_4 w =>
 run1 Tryz.prog Z (Instr.fieldAt 35 t5_3 0) w fun t10_5 w =>
 run1 Tryz.prog Z (Instr.fieldAt 24 t10_5 0) w fun t11_6 w =>
 run0 Tryz.prog Z (Instr.storeAt 22 t11_6 t9_4) w fun w =>
 CallV Tryz.prog Z 73 #[t7_2] w fun t13_7 w =>
 run1 Tryz.prog Z (Instr.fieldAt 35 t5_3 0) w fun t14_8 w =>
 run1 Tryz.prog Z (Instr.fieldAt 24 t14_8 1) w fun t15_9 w =>
 run0 Tryz.prog Z (Instr.storeAt 22 t15_9 t13_7) w fun w =>
 CallV Tryz.prog Z 74 #[t7_2] w fun t17_10 w =>
 run1 Tryz.prog Z (Instr.fieldAt 35 t5_3 1) w fun t18_11 w =>
 run1 Tryz.prog Z (Instr.fieldAt 27 t18_11 0) w fun t19_12 w =>
 run0 Tryz.prog Z (Instr.storeAt 25 t19_12 t17_10) w fun w =>
 CallV Tryz.prog Z 73 #[t7_2] w fun t21_13 w =>
 run1 Tryz.prog Z (Instr.fieldAt 35 t5_3 1) w fun t22_14 w =>
 run1 Tryz.prog Z (Instr.fieldAt 27 t22_14 1) w fun t23_15 w =>
 run0 Tryz.prog Z (Instr.storeAt 22 t23_15 t21_13) w fun w =>
 CallV Tryz.prog Z 75 #[t7_2] w fun t25_16 w =>
 run1 Tryz.prog Z (Instr.fieldAt 35 t5_3 1) w fun t26_17 w =>
 run1 Tryz.prog Z (Instr.fieldAt 27 t26_17 2) w fun t27_18 w =>
 run0 Tryz.prog Z (Instr.storeAt 2 t27_18 t25_16) w fun w =>
 CallV Tryz.prog Z 76 #[t7_2, (Value.bool false)] w fun t29_19 w =>
 run1 Tryz.prog Z (Instr.fieldAt 35 t5_3 2) w fun t30_20 w =>
 run0 Tryz.prog Z (Instr.storeAt 33 t30_20 t29_19) w fun w =>
 CallV Tryz.prog Z 77 #[t7_2] w fun t32_21 w =>
 run1 Tryz.prog Z (eqOp BinOp.neq 39 false true t32_21 (Value.int IntKind.i64 0)) w fun t33_22 w =>
 guardW (t33_22) false (fun k => run1 Tryz.prog Z (Instr.loadAt 35 t5_3) w k) (fun t35_23 w =>
 guardW (t33_22) false (fun k => CallV Tryz.prog Z 34 #[t35_23] w k) (fun t36_24 w =>
 guardW (t33_22) false (fun k => run1 Tryz.prog Z (eqOp BinOp.neq 39 false true t36_24 (Value.int IntKind.i64 0)) w k) (fun t37_25 w =>
 run1 Tryz.prog Z (pickV t33_22 (Value.bool true) t37_25) w fun t38_26 w =>
 CondV t38_26 (
 run1 Tryz.prog Z (Instr.build 35 #[]) w fun t39_27 w =>
 run0 Tryz.prog Z (Instr.storeAt 35 t2_1 t39_27) w fun w =>
 ∃ r_28, (do loadVar 35 (← asAddr t2_1) : Sem Value).run Tryz.prog w = .ok r_28 w ∧
 Q (Value.tuple #[r_28, (Value.int IntKind.i64 40)]) w) (
 run1 Tryz.prog Z (Instr.loadAt 35 t5_3) w fun t40_29 w =>
 run0 Tryz.prog Z (Instr.storeAt 35 t2_1 t40_29) w fun w =>
 ∃ r_30, (do loadVar 35 (← asAddr t2_1) : Sem Value).run Tryz.prog w = .ok r_30 w ∧
 Q (Value.tuple #[r_30, (Value.int IntKind.i64 0)]) w)) w) w) w
noncomputable def f20.code : Code := match Tryz.f20.body with | some c => c | none => .skip
def f20.an : An := (.sq .leaf (.sq .leaf (.sq .leaf (.sq .leaf (.sq .leaf (.sq .leaf (.sq .leaf (.sq .leaf (.sq .leaf (.sq (.sq .leaf (.cn (.sq .leaf .leaf) .leaf)) (.sq .leaf .leaf)))))))))))
theorem f20.body_eq : Tryz.f20.body = some f20.code := by kernel_rfl
theorem f20.shape (Z : List PanicEntry → World → Prop) (x0 : Value) (w : World) (Q : Value → World → Prop) : vc drawD Tryz.prog 41 Z [72, 73, 74, 75, 76, 77, 34] f20.an f20.code (fnQ Tryz.prog 41 Tryz.f20.results Q) (argEnv [x0]) w = f20.sh Z x0 w Q := by kernel_rfl
theorem f20.enters : ∀ f, f ∈ ([72, 73, 74, 75, 76, 77, 34] : List Nat) → Enters Tryz.prog f := by
 intro f hf
 simp only [List.mem_cons, List.not_mem_nil, or_false] at hf
 rcases hf with rfl | rfl | rfl | rfl | rfl | rfl | rfl
 · exact en72
 · exact en73
 · exact en74
 · exact en75
 · exact en76
 · exact en77
 · exact en34
theorem f20.calls {Z : List PanicEntry → World → Prop} {x0 : Value} {w : World} {Q : Value → World → Prop} (h : f20.sh Z x0 w Q) : CallV Tryz.prog Z 20 #[x0] w Q :=
 calls_of_vcn drawD_sound (Q := Q) (n := 41) (rs := Tryz.f20.results) (an := f20.an) (c := f20.code) (cal := [72, 73, 74, 75, 76, 77, 34]) (args := [x0]) Tryz.func20 (by kernel_rfl) rfl f20.body_eq follows (Nat.le_of_ble_eq_true (by kernel_rfl)) (enters_of_all f20.enters) ((f20.shape Z x0 w Q).mpr h)

def f21.sh (Z : List PanicEntry → World → Prop) (x0 : Value) (w : World) (Q : Value → World → Prop) : Prop :=
 run1 Tryz.prog Z (Builtin.len_ #[28] 3 #[x0]) w fun t7_1 w =>
 run1 Tryz.prog Z (binOp BinOp.add 3 t7_1 (Value.int IntKind.i64 64)) w fun t8_2 w =>
 run1 Tryz.prog Z (Instr.sliceAt 28 x0 none (some t8_2) none) w fun t9_3 w =>
 run1 Tryz.prog Z (Builtin.len_ #[28] 3 #[x0]) w fun t11_4 w =>
 ∃ J_5 : Nat → Value → World → Prop, (∃ m, J_5 m t11_4 w) ∧
 ∀ m_5, ∀ t4_6 : Value, ∀ w : World, J_5 m_5 t4_6 w → Env →
 run1 Tryz.prog Z (Builtin.len_ #[28] 3 #[t9_3]) w fun t14_7 w =>
 run1 Tryz.prog Z (binOp BinOp.lss 3 t4_6 t14_7) w fun t15_8 w =>
 CondV t15_8 (
 run1 Tryz.prog Z (Instr.indexAt 28 t9_3 t4_6) w fun t20_9 w =>
 run1 Tryz.prog Z (Instr.loadAt 5 t20_9) w fun t21_10 w =>
 run1 Tryz.prog Z (binOp BinOp.rem 3 t4_6 (Value.int IntKind.i64 5)) w fun t23_11 w =>
 run1 Tryz.prog Z (binOp BinOp.add 3 (Value.int IntKind.i64 170) t23_11) w fun t24_12 w =>
 run1 Tryz.prog Z (convert 3 5 t24_12) w fun t25_13 w =>
 run1 Tryz.prog Z (eqOp BinOp.neq 5 false false t21_10 t25_13) w fun t26_14 w =>
 CondV t26_14 (
 Q (Value.bool false) w) (
 run1 Tryz.prog Z (binOp BinOp.add 3 t4_6 (Value.int IntKind.i64 1)) w fun t17_15 w =>
 ∃ n_5, n_5 < m_5 ∧ J_5 n_5 t17_15 w)) (
 Q (Value.bool true) w)
noncomputable def f21.code : Code := match Tryz.f21.body with | some c => c | none => .skip
def f21.an : An := (.sq .leaf (.sq .leaf (.sq (.sq .leaf (.bl (.lp [4] [2, 4, 12, 13, 14, 15, 16, 17, 18, 19, 20, 21, 22, 23, 24, 25, 26] (.sq (.sq .leaf (.cn .leaf .leaf)) (.sq (.bl (.sq .leaf (.cn (.sq .leaf .leaf) .leaf))) .leaf))))) (.sq .leaf .leaf))))
theorem f21.body_eq : Tryz.f21.body = some f21.code := by kernel_rfl
theorem f21.shape (Z : List PanicEntry → World → Prop) (x0 : Value) (w : World) (Q : Value → World → Prop) : vc drawD Tryz.prog 27 Z [] f21.an f21.code (fnQ Tryz.prog 27 Tryz.f21.results Q) (argEnv [x0]) w = f21.sh Z x0 w Q := by kernel_rfl
theorem f21.enters : ∀ f, f ∈ ([] : List Nat) → Enters Tryz.prog f := by
 intro f hf
 cases hf
theorem f21.calls {Z : List PanicEntry → World → Prop} {x0 : Value} {w : World} {Q : Value → World → Prop} (h : f21.sh Z x0 w Q) : CallV Tryz.prog Z 21 #[x0] w Q :=
 calls_of_vcn drawD_sound (Q := Q) (n := 27) (rs := Tryz.f21.results) (an := f21.an) (c := f21.code) (cal := []) (args := [x0]) Tryz.func21 (by kernel_rfl) rfl f21.body_eq follows (Nat.le_of_ble_eq_true (by kernel_rfl)) (enters_of_all f21.enters) ((f21.shape Z x0 w Q).mpr h)

def f22.sh (Z : List PanicEntry → World → Prop) (x0 x1 : Value) (w : World) (Q : Value → World → Prop) : Prop :=
 run1 Tryz.prog Z (Instr.box 33 x1) w fun t3_1 w =>
 run1 Tryz.prog Z (Instr.fieldAt 33 t3_1 2) w fun t5_2 w =>
 run1 Tryz.prog Z (Instr.loadAt 28 t5_2) w fun t6_3 w =>
 CallV Tryz.prog Z 14 #[x0, t6_3] w fun t7_4 w =>
 run1 Tryz.prog Z (Instr.fieldAt 33 t3_1 3) w fun t9_5 w =>
 run1 Tryz.prog Z (Instr.loadAt 29 t9_5) w fun t10_6 w =>
 CallV Tryz.prog Z 78 #[x0, t10_6] w fun t11_7 w =>
 run1 Tryz.prog Z (Instr.fieldAt 33 t3_1 9) w fun t13_8 w =>
 run1 Tryz.prog Z (Instr.loadAt 30 t13_8) w fun t14_9 w =>
 CallV Tryz.prog Z 79 #[x0, t14_9] w fun t15_10 w =>
 run1 Tryz.prog Z (Instr.fieldAt 33 t3_1 10) w fun t17_11 w =>
 run1 Tryz.prog Z (Instr.loadAt 31 t17_11) w fun t18_12 w =>
 CallV Tryz.prog Z 80 #[x0, t18_12] w fun t19_13 w =>
 Q (Value.tuple #[]) w
noncomputable def f22.code : Code := match Tryz.f22.body with | some c => c | none => .skip
def f22.an : An := (.sq .leaf (.sq .leaf (.sq .leaf (.sq .leaf .leaf))))
theorem f22.body_eq : Tryz.f22.body = some f22.code := by kernel_rfl
theorem f22.shape (Z : List PanicEntry → World → Prop) (x0 x1 : Value) (w : World) (Q : Value → World → Prop) : vc drawD Tryz.prog 20 Z [14, 78, 79, 80] f22.an f22.code (fnQ Tryz.prog 20 Tryz.f22.results Q) (argEnv [x0, x1]) w = f22.sh Z x0 x1 w Q := by kernel_rfl
theorem f22.enters : ∀ f, f ∈ ([14, 78, 79, 80] : List Nat) → Enters Tryz.prog f := by
 intro f hf
 simp only [List.mem_cons, List.not_mem_nil, or_false] at hf
 rcases hf with rfl | rfl | rfl | rfl
 · exact en14
 · exact en78
 · exact en79
 · exact en80
theorem f22.calls {Z : List PanicEntry → World → Prop} {x0 x1 : Value} {w : World} {Q : Value → World → Prop} (h : f22.sh Z x0 x1 w Q) : CallV Tryz.prog Z 22 #[x0, x1] w Q :=
 calls_of_vcn drawD_sound (Q := Q) (n := 20) (rs := Tryz.f22.results) (an := f22.an) (c := f22.code) (cal := [14, 78, 79, 80]) (args := [x0, x1]) Tryz.func22 (by kernel_rfl) rfl f22.body_eq follows (Nat.le_of_ble_eq_true (by kernel_rfl)) (enters_of_all f22.enters) ((f22.shape Z x0 x1 w Q).mpr h)

def f23.sh (Z : List PanicEntry → World → Prop) (x0 : Value) (w : World) (Q : Value → World → Prop) : Prop :=
 ∃ J_1 : Nat → Value → Value → World → Prop, (∃ m, J_1 m (Value.slice none 0 0) (Value.int IntKind.i64 0) w) ∧
 ∀ m_1, ∀ t3_2 : Value, ∀ t4_3 : Value, ∀ w : World, J_1 m_1 t3_2 t4_3 w → Env →
 run1 Tryz.prog Z (Builtin.len_ #[28] 3 #[x0]) w fun t7_4 w =>
 run1 Tryz.prog Z (binOp BinOp.lss 3 t4_3 t7_4) w fun t8_5 w =>
 CondV t8_5 (
 run1 Tryz.prog Z (Instr.indexAt 28 x0 t4_3) w fun t14_6 w =>
 run1 Tryz.prog Z (Instr.loadAt 5 t14_6) w fun t15_7 w =>
 run1 Tryz.prog Z (Instr.buildSlice 28 1 #[(0, t15_7)]) w fun t16_8 w =>
 run1 Tryz.prog Z (Builtin.append_ #[28, 28] 28 #[t3_2, t16_8]) w fun t17_9 w =>
 run1 Tryz.prog Z (binOp BinOp.add 3 t4_3 (Value.int IntKind.i64 1)) w fun t10_10 w =>
 ∃ n_1, n_1 < m_1 ∧ J_1 n_1 t17_9 t10_10 w) (
 Q t3_2 w)
noncomputable def f23.code : Code := match Tryz.f23.body with | some c => c | none => .skip
def f23.an : An := (.sq .leaf (.sq .leaf (.sq (.sq .leaf (.bl (.lp [3, 4] [3, 4, 5, 6, 7, 8, 9, 10, 11, 12, 13, 14, 15, 16, 17] (.sq (.sq .leaf (.cn .leaf .leaf)) (.sq (.bl .leaf) .leaf))))) (.sq .leaf .leaf))))
theorem f23.body_eq : Tryz.f23.body = some f23.code := by kernel_rfl
theorem f23.shape (Z : List PanicEntry → World → Prop) (x0 : Value) (w : World) (Q : Value → World → Prop) : vc drawD Tryz.prog 19 Z [] f23.an f23.code (fnQ Tryz.prog 19 Tryz.f23.results Q) (argEnv [x0]) w = f23.sh Z x0 w Q := by kernel_rfl
theorem f23.enters : ∀ f, f ∈ ([] : List Nat) → Enters Tryz.prog f := by
 intro f hf
 cases hf
theorem f23.calls {Z : List PanicEntry → World → Prop} {x0 : Value} {w : World} {Q : Value → World → Prop} (h : f23.sh Z x0 w Q) : CallV Tryz.prog Z 23 #[x0] w Q :=
 calls_of_vcn drawD_sound (Q := Q) (n := 19) (rs := Tryz.f23.results) (an := f23.an) (c := f23.code) (cal := []) (args := [x0]) Tryz.func23 (by kernel_rfl) rfl f23.body_eq follows (Nat.le_of_ble_eq_true (by kernel_rfl)) (enters_of_all f23.enters) ((f23.shape Z x0 w Q).mpr h)

def f28.sh (Z : List PanicEntry → World → Prop) (x0 : Value) (w : World) (Q : Value → World → Prop) : Prop :=
 run1 Tryz.prog Z (Instr.box 35 x0) w fun t1_1 w =>
 run1 Tryz.prog Z (Instr.fieldAt 35 t1_1 0) w fun t5_2 w =>
 run1 Tryz.prog Z (Instr.loadAt 24 t5_2) w fun t6_3 w =>
 run1 Tryz.prog Z (Instr.alloc 24 true (.tuple #[])) w fun t3_4 w =>
 run0 Tryz.prog Z (Instr.storeAt 24 t3_4 t6_3) w fun w =>
 run1 Tryz.prog Z (Instr.fieldAt 24 t3_4 0) w fun t7_5 w =>
 run1 Tryz.prog Z (Instr.loadAt 22 t7_5) w fun t8_6 w =>
 run1 Tryz.prog Z (binOp BinOp.geq 22 t8_6 (Value.int IntKind.u32 1)) w fun t9_7 w =>
 guardW (t9_7) true (fun k => run1 Tryz.prog Z (Instr.fieldAt 24 t3_4 0) w k) (fun t11_8 w =>
 guardW (t9_7) true (fun k => run1 Tryz.prog Z (Instr.loadAt 22 t11_8) w k) (fun t12_9 w =>
 guardW (t9_7) true (fun k => run1 Tryz.prog Z (binOp BinOp.leq 22 t12_9 (Value.int IntKind.u32 2147483647)) w k) (fun t13_10 w =>
 run1 Tryz.prog Z (pickV t9_7 t13_10 (Value.bool false)) w fun t14_11 w =>
 guardW (t14_11) true (fun k => run1 Tryz.prog Z (Instr.fieldAt 24 t3_4 1) w k) (fun t16_12 w =>
 guardW (t14_11) true (fun k => run1 Tryz.prog Z (Instr.loadAt 22 t16_12) w k) (fun t17_13 w =>
 guardW (t14_11) true (fun k => run1 Tryz.prog Z (binOp BinOp.geq 22 t17_13 (Value.int IntKind.u32 1)) w k) (fun t18_14 w =>
 run1 Tryz.prog Z (pickV t14_11 t18_14 (Value.bool false)) w fun t19_15 w =>
 run1 Tryz.prog Z (Instr.loadAt 24 t3_4) w fun t21_16 w =>
 run1 Tryz.prog Z (Instr.build 24 #[]) w fun t22_17 w =>
 run1 Tryz.prog Z (eqOp BinOp.neq 24 false false t21_16 t22_17) w fun t23_18 w =>
 guardW (t23_18) true (fun k => k (t19_15) w) (fun t25_19 w =>
 guardW (t23_18) true (fun k => run1 Tryz.prog Z (Op.unary UnOp.not t25_19) w k) (fun t26_20 w =>
 run1 Tryz.prog Z (pickV t23_18 t26_20 (Value.bool false)) w fun t27_21 w =>
 CondV t27_21 (
 Q (Value.int IntKind.i64 40) w) (
 run1 Tryz.prog Z (Instr.fieldAt 35 t1_1 1) w fun t29_22 w =>
 run1 Tryz.prog Z (Instr.fieldAt 27 t29_22 0) w fun t30_23 w =>
 run1 Tryz.prog Z (Instr.loadAt 25 t30_23) w fun t31_24 w =>
 run1 Tryz.prog Z (binOp BinOp.lss 25 t31_24 (Value.int IntKind.i8 0)) w fun t32_25 w =>
 guardW (t32_25) false (fun k => run1 Tryz.prog Z (Instr.fieldAt 35 t1_1 1) w k) (fun t34_26 w =>
 guardW (t32_25) false (fun k => run1 Tryz.prog Z (Instr.fieldAt 27 t34_26 0) w k) (fun t35_27 w =>
 guardW (t32_25) false (fun k => run1 Tryz.prog Z (Instr.loadAt 25 t35_27) w k) (fun t36_28 w =>
 guardW (t32_25) false (fun k => run1 Tryz.prog Z (binOp BinOp.geq 25 t36_28 (Value.int IntKind.i8 7)) w k) (fun t37_29 w =>
 run1 Tryz.prog Z (pickV t32_25 (Value.bool true) t37_29) w fun t38_30 w =>
 guardW (t38_30) false (fun k => run1 Tryz.prog Z (Instr.fieldAt 35 t1_1 1) w k) (fun t40_31 w =>
 guardW (t38_30) false (fun k => run1 Tryz.prog Z (Instr.fieldAt 27 t40_31 2) w k) (fun t41_32 w =>
 guardW (t38_30) false (fun k => run1 Tryz.prog Z (Instr.loadAt 2 t41_32) w k) (fun t42_33 w =>
 guardW (t38_30) false (fun k => run1 Tryz.prog Z (binOp BinOp.lss 2 t42_33 (Value.int IntKind.i64 0)) w k) (fun t43_34 w =>
 run1 Tryz.prog Z (pickV t38_30 (Value.bool true) t43_34) w fun t44_35 w =>
 CondV t44_35 (
 Q (Value.int IntKind.i64 40) w) (
 run1 Tryz.prog Z (Instr.fieldAt 35 t1_1 2) w fun t46_36 w =>
 run1 Tryz.prog Z (Instr.fieldAt 33 t46_36 0) w fun t47_37 w =>
 run1 Tryz.prog Z (Instr.loadAt 25 t47_37) w fun t48_38 w =>
 run1 Tryz.prog Z (binOp BinOp.gtr 25 t48_38 (Value.int IntKind.i8 8)) w fun t49_39 w =>
 CondV t49_39 (
 Q (Value.int IntKind.i64 40) w) (
 run1 Tryz.prog Z (Instr.fieldAt 35 t1_1 2) w fun t50_40 w =>
 run1 Tryz.prog Z (Instr.loadAt 33 t50_40) w fun t51_41 w =>
 CallV Tryz.prog Z 87 #[t51_41] w fun t52_42 w =>
 Q t52_42 w))) w) w) w) w) w) w) w) w)) w) w) w) w) w) w) w) w
noncomputable def f28.code : Code := match Tryz.f28.body with | some c => c | none => .skip
def f28.an : An := (.sq .leaf (.sq .leaf (.sq .leaf (.sq (.bl (.sq .leaf (.cn (.sq .leaf .leaf) (.sq .leaf (.cn (.sq .leaf .leaf) (.sq .leaf (.cn (.sq .leaf .leaf) .leaf))))))) (.sq .leaf .leaf)))))
theorem f28.body_eq : Tryz.f28.body = some f28.code := by kernel_rfl
theorem f28.shape (Z : List PanicEntry → World → Prop) (x0 : Value) (w : World) (Q : Value → World → Prop) : vc drawD Tryz.prog 53 Z [87] f28.an f28.code (fnQ Tryz.prog 53 Tryz.f28.results Q) (argEnv [x0]) w = f28.sh Z x0 w Q := by kernel_rfl
theorem f28.enters : ∀ f, f ∈ ([87] : List Nat) → Enters Tryz.prog f := by
 intro f hf
 simp only [List.mem_cons, List.not_mem_nil, or_false] at hf
 rcases hf with rfl
 · exact en87
theorem f28.calls {Z : List PanicEntry → World → Prop} {x0 : Value} {w : World} {Q : Value → World → Prop} (h : f28.sh Z x0 w Q) : CallV Tryz.prog Z 28 #[x0] w Q :=
 calls_of_vcn drawD_sound (Q := Q) (n := 53) (rs := Tryz.f28.results) (an := f28.an) (c := f28.code) (cal := [87]) (args := [x0]) Tryz.func28 (by kernel_rfl) rfl f28.body_eq follows (Nat.le_of_ble_eq_true (by kernel_rfl)) (enters_of_all f28.enters) ((f28.shape Z x0 w Q).mpr h)

def f29.sh (Z : List PanicEntry → World → Prop) (x0 x1 : Value) (w : World) (Q : Value → World → Prop) : Prop :=
 run1 Tryz.prog Z (convert 22 142 x1) w fun t6_1 w =>
 CallV Tryz.prog Z 88 #[x0, t6_1, (Value.int IntKind.i64 4)] w fun t7_2 w =>
 Q (Value.tuple #[]) w
noncomputable def f29.code : Code := match Tryz.f29.body with | some c => c | none => .skip
def f29.an : An := .leaf
theorem f29.body_eq : Tryz.f29.body = some f29.code := by kernel_rfl
theorem f29.shape (Z : List PanicEntry → World → Prop) (x0 x1 : Value) (w : World) (Q : Value → World → Prop) : vc drawD Tryz.prog 8 Z [88] f29.an f29.code (fnQ Tryz.prog 8 Tryz.f29.results Q) (argEnv [x0, x1]) w = f29.sh Z x0 x1 w Q := by kernel_rfl
theorem f29.enters : ∀ f, f ∈ ([88] : List Nat) → Enters Tryz.prog f := by
 intro f hf
 simp only [List.mem_cons, List.not_mem_nil, or_false] at hf
 rcases hf with rfl
 · exact en88
theorem f29.calls {Z : List PanicEntry → World → Prop} {x0 x1 : Value} {w : World} {Q : Value → World → Prop} (h : f29.sh Z x0 x1 w Q) : CallV Tryz.prog Z 29 #[x0, x1] w Q :=
 calls_of_vcn drawD_sound (Q := Q) (n := 8) (rs := Tryz.f29.results) (an := f29.an) (c := f29.code) (cal := [88]) (args := [x0, x1]) Tryz.func29 (by kernel_rfl) rfl f29.body_eq follows (Nat.le_of_ble_eq_true (by kernel_rfl)) (enters_of_all f29.enters) ((f29.shape Z x0 x1 w Q).mpr h)

def f30.sh (Z : List PanicEntry → World → Prop) (x0 x1 : Value) (w : World) (Q : Value → World → Prop) : Prop :=
 run1 Tryz.prog Z (convert 25 142 x1) w fun t6_1 w =>
 CallV Tryz.prog Z 88 #[x0, t6_1, (Value.int IntKind.i64 1)] w fun t7_2 w =>
 Q (Value.tuple #[]) w
noncomputable def f30.code : Code := match Tryz.f30.body with | some c => c | none => .skip
def f30.an : An := .leaf
theorem f30.body_eq : Tryz.f30.body = some f30.code := by kernel_rfl
theorem f30.shape (Z : List PanicEntry → World → Prop) (x0 x1 : Value) (w : World) (Q : Value → World → Prop) : vc drawD Tryz.prog 8 Z [88] f30.an f30.code (fnQ Tryz.prog 8 Tryz.f30.results Q) (argEnv [x0, x1]) w = f30.sh Z x0 x1 w Q := by kernel_rfl
theorem f30.enters : ∀ f, f ∈ ([88] : List Nat) → Enters Tryz.prog f := by
 intro f hf
 simp only [List.mem_cons, List.not_mem_nil, or_false] at hf
 rcases hf with rfl
 · exact en88
theorem f30.calls {Z : List PanicEntry → World → Prop} {x0 x1 : Value} {w : World} {Q : Value → World → Prop} (h : f30.sh Z x0 x1 w Q) : CallV Tryz.prog Z 30 #[x0, x1] w Q :=
 calls_of_vcn drawD_sound (Q := Q) (n := 8) (rs := Tryz.f30.results) (an := f30.an) (c := f30.code) (cal := [88]) (args := [x0, x1]) Tryz.func30 (by kernel_rfl) rfl f30.body_eq follows (Nat.le_of_ble_eq_true (by kernel_rfl)) (enters_of_all f30.enters) ((f30.shape Z x0 x1 w Q).mpr h)

def f31.sh (Z : List PanicEntry → World → Prop) (x0 x1 : Value) (w : World) (Q : Value → World → Prop) : Prop :=
 run1 Tryz.prog Z (convert 2 142 x1) w fun t6_1 w =>
 CallV Tryz.prog Z 88 #[x0, t6_1, (Value.int IntKind.i64 8)] w fun t7_2 w =>
 Q (Value.tuple #[]) w
noncomputable def f31.code : Code := match Tryz.f31.body with | some c => c | none => .skip
def f31.an : An := .leaf
theorem f31.body_eq : Tryz.f31.body = some f31.code := by kernel_rfl
theorem f31.shape (Z : List PanicEntry → World → Prop) (x0 x1 : Value) (w : World) (Q : Value → World → Prop) : vc drawD Tryz.prog 8 Z [88] f31.an f31.code (fnQ Tryz.prog 8 Tryz.f31.results Q) (argEnv [x0, x1]) w = f31.sh Z x0 x1 w Q := by kernel_rfl
theorem f31.enters : ∀ f, f ∈ ([88] : List Nat) → Enters Tryz.prog f := by
 intro f hf
 simp only [List.mem_cons, List.not_mem_nil, or_false] at hf
 rcases hf with rfl
 · exact en88
theorem f31.calls {Z : List PanicEntry → World → Prop} {x0 x1 : Value} {w : World} {Q : Value → World → Prop} (h : f31.sh Z x0 x1 w Q) : CallV Tryz.prog Z 31 #[x0, x1] w Q :=
 calls_of_vcn drawD_sound (Q := Q) (n := 8) (rs := Tryz.f31.results) (an := f31.an) (c := f31.code) (cal := [88]) (args := [x0, x1]) Tryz.func31 (by kernel_rfl) rfl f31.body_eq follows (Nat.le_of_ble_eq_true (by kernel_rfl)) (enters_of_all f31.enters) ((f31.shape Z x0 x1 w Q).mpr h)

def f32.sh (Z : List PanicEntry → World → Prop) (x0 x1 x2 : Value) (w : World) (Q : Value → World → Prop) : Prop :=
 run1 Tryz.prog Z (Instr.box 86 x0) w fun t3_1 w =>
 run1 Tryz.prog Z (Instr.box 33 x2) w fun t5_2 w =>
 run1 Tryz.prog Z (Instr.fieldAt 33 t5_2 0) w fun t8_3 w =>
 run1 Tryz.prog Z (Instr.loadAt 25 t8_3) w fun t9_4 w =>
 CallV Tryz.prog Z 30 #[x1, t9_4] w fun t10_5 w =>
 run1 Tryz.prog Z (Instr.loadAt 86 t3_1) w fun t11_6 w =>
 run1 Tryz.prog Z (Instr.fieldAt 33 t5_2 0) w fun t12_7 w =>
 run1 Tryz.prog Z (Instr.loadAt 25 t12_7) w fun t13_8 w =>
 CallV Tryz.prog Z 89 #[t11_6, t13_8] w fun t14_9 w =>
 ∀ j_10 : World → Prop, (∀ w : World, (Env →
 ∀ j_11 : World → Prop, (∀ w : World, (Env →
 ∀ j_12 : World → Prop, (∀ w : World, (Env →
 ∀ j_13 : World → Prop, (∀ w : World, (Env →
 ∀ j_14 : World → Prop, (∀ w : World, (Env →
 ∀ j_15 : World → Prop, (∀ w : World, (Env →
 ∀ j_16 : World → Prop, (∀ w : World, (Env →
 ∀ j_17 : World → Prop, (∀ w : World, (Env →
 run1 Tryz.prog Z (binOp BinOp.and 143 t14_9 (Value.int IntKind.u64 256)) w fun t76_18 w =>
 run1 Tryz.prog Z (eqOp BinOp.neq 143 false true t76_18 (Value.int IntKind.u64 0)) w fun t77_19 w =>
 CondV t77_19 (
 run1 Tryz.prog Z (Instr.fieldAt 33 t5_2 10) w fun t79_20 w =>
 run1 Tryz.prog Z (Instr.loadAt 31 t79_20) w fun t80_21 w =>
 run1 Tryz.prog Z (Instr.build 86 #[(0, (Value.bool true))]) w fun t81_22 w =>
 run1 Tryz.prog Z (Instr.makeFunc (Fn.func 32) #[t81_22] #[]) w fun t82_23 w =>
 CallV Tryz.prog Z 98 #[x1, t80_21, t82_23] w fun t83_24 w =>
 Q (Value.tuple #[]) w) (
 Q (Value.tuple #[]) w)) →
 j_17 w) →
 run1 Tryz.prog Z (binOp BinOp.and 143 t14_9 (Value.int IntKind.u64 128)) w fun t69_25 w =>
 run1 Tryz.prog Z (eqOp BinOp.neq 143 false true t69_25 (Value.int IntKind.u64 0)) w fun t70_26 w =>
 CondV t70_26 (
 run1 Tryz.prog Z (Instr.fieldAt 33 t5_2 9) w fun t72_27 w =>
 run1 Tryz.prog Z (Instr.loadAt 30 t72_27) w fun t73_28 w =>
 CallV Tryz.prog Z 96 #[x1, t73_28, (Value.func (Fn.func 97) #[] #[])] w fun t74_29 w =>
 j_17 w) (
 j_17 w)) →
 j_16 w) →
 run1 Tryz.prog Z (binOp BinOp.and 143 t14_9 (Value.int IntKind.u64 64)) w fun t62_30 w =>
 run1 Tryz.prog Z (eqOp BinOp.neq 143 false true t62_30 (Value.int IntKind.u64 0)) w fun t63_31 w =>
 CondV t63_31 (
 run1 Tryz.prog Z (Instr.fieldAt 33 t5_2 8) w fun t65_32 w =>
 run1 Tryz.prog Z (Instr.loadAt 21 t65_32) w fun t66_33 w =>
 CallV Tryz.prog Z 94 #[x1, t66_33] w fun t67_34 w =>
 j_16 w) (
 j_16 w)) →
 j_15 w) →
 run1 Tryz.prog Z (binOp BinOp.and 143 t14_9 (Value.int IntKind.u64 32)) w fun t55_35 w =>
 run1 Tryz.prog Z (eqOp BinOp.neq 143 false true t55_35 (Value.int IntKind.u64 0)) w fun t56_36 w =>
 CondV t56_36 (
 run1 Tryz.prog Z (Instr.fieldAt 33 t5_2 7) w fun t58_37 w =>
 run1 Tryz.prog Z (Instr.loadAt 2 t58_37) w fun t59_38 w =>
 CallV Tryz.prog Z 31 #[x1, t59_38] w fun t60_39 w =>
 j_15 w) (
 j_15 w)) →
 j_14 w) →
 run1 Tryz.prog Z (binOp BinOp.and 143 t14_9 (Value.int IntKind.u64 16)) w fun t44_40 w =>
 run1 Tryz.prog Z (eqOp BinOp.neq 143 false true t44_40 (Value.int IntKind.u64 0)) w fun t45_41 w =>
 CondV t45_41 (
 run1 Tryz.prog Z (Instr.fieldAt 33 t5_2 5) w fun t47_42 w =>
 run1 Tryz.prog Z (Instr.loadAt 4 t47_42) w fun t48_43 w =>
 CallV Tryz.prog Z 95 #[x1, t48_43] w fun t49_44 w =>
 run1 Tryz.prog Z (Instr.fieldAt 33 t5_2 6) w fun t51_45 w =>
 run1 Tryz.prog Z (Instr.loadAt 4 t51_45) w fun t52_46 w =>
 CallV Tryz.prog Z 95 #[x1, t52_46] w fun t53_47 w =>
 j_14 w) (
 j_14 w)) →
 j_13 w) →
 run1 Tryz.prog Z (binOp BinOp.and 143 t14_9 (Value.int IntKind.u64 8)) w fun t37_48 w =>
 run1 Tryz.prog Z (eqOp BinOp.neq 143 false true t37_48 (Value.int IntKind.u64 0)) w fun t38_49 w =>
 CondV t38_49 (
 run1 Tryz.prog Z (Instr.fieldAt 33 t5_2 4) w fun t40_50 w =>
 run1 Tryz.prog Z (Instr.loadAt 21 t40_50) w fun t41_51 w =>
 CallV Tryz.prog Z 94 #[x1, t41_51] w fun t42_52 w =>
 j_13 w) (
 j_13 w)) →
 j_12 w) →
 run1 Tryz.prog Z (binOp BinOp.and 143 t14_9 (Value.int IntKind.u64 4)) w fun t30_53 w =>
 run1 Tryz.prog Z (eqOp BinOp.neq 143 false true t30_53 (Value.int IntKind.u64 0)) w fun t31_54 w =>
 CondV t31_54 (
 run1 Tryz.prog Z (Instr.fieldAt 33 t5_2 3) w fun t33_55 w =>
 run1 Tryz.prog Z (Instr.loadAt 29 t33_55) w fun t34_56 w =>
 CallV Tryz.prog Z 92 #[x1, t34_56, (Value.func (Fn.func 93) #[] #[])] w fun t35_57 w =>
 j_12 w) (
 j_12 w)) →
 j_11 w) →
 run1 Tryz.prog Z (binOp BinOp.and 143 t14_9 (Value.int IntKind.u64 2)) w fun t23_58 w =>
 run1 Tryz.prog Z (eqOp BinOp.neq 143 false true t23_58 (Value.int IntKind.u64 0)) w fun t24_59 w =>
 CondV t24_59 (
 run1 Tryz.prog Z (Instr.fieldAt 33 t5_2 2) w fun t26_60 w =>
 run1 Tryz.prog Z (Instr.loadAt 28 t26_60) w fun t27_61 w =>
 CallV Tryz.prog Z 91 #[x1, t27_61] w fun t28_62 w =>
 j_11 w) (
 j_11 w)) →
 j_10 w) →
 run1 Tryz.prog Z (binOp BinOp.and 143 t14_9 (Value.int IntKind.u64 1)) w fun t16_63 w =>
 run1 Tryz.prog Z (eqOp BinOp.neq 143 false true t16_63 (Value.int IntKind.u64 0)) w fun t17_64 w =>
 CondV t17_64 (
 run1 Tryz.prog Z (Instr.fieldAt 33 t5_2 1) w fun t19_65 w =>
 run1 Tryz.prog Z (Instr.loadAt 9 t19_65) w fun t20_66 w =>
 CallV Tryz.prog Z 90 #[x1, t20_66] w fun t21_67 w =>
 j_10 w) (
 j_10 w)
noncomputable def f32.code : Code := match Tryz.f32.body with | some c => c | none => .skip
def f32.an : An := (.sq .leaf (.sq .leaf (.sq .leaf (.sj [] [15, 16, 17, 18, 19, 20, 21] (.sq .leaf (.cn .leaf .leaf)) (.sj [] [22, 23, 24, 25, 26, 27, 28] (.sq .leaf (.cn .leaf .leaf)) (.sj [] [29, 30, 31, 32, 33, 34, 35] (.sq .leaf (.cn .leaf .leaf)) (.sj [] [36, 37, 38, 39, 40, 41, 42] (.sq .leaf (.cn .leaf .leaf)) (.sj [] [43, 44, 45, 46, 47, 48, 49, 50, 51, 52, 53] (.sq .leaf (.cn (.sq .leaf .leaf) .leaf)) (.sj [] [54, 55, 56, 57, 58, 59, 60] (.sq .leaf (.cn .leaf .leaf)) (.sj [] [61, 62, 63, 64, 65, 66, 67] (.sq .leaf (.cn .leaf .leaf)) (.sj [] [68, 69, 70, 71, 72, 73, 74] (.sq .leaf (.cn .leaf .leaf)) (.sq .leaf (.cn .leaf .leaf)))))))))))))
theorem f32.body_eq : Tryz.f32.body = some f32.code := by kernel_rfl
theorem f32.shape (Z : List PanicEntry → World → Prop) (x0 x1 x2 : Value) (w : World) (Q : Value → World → Prop) : vc drawD Tryz.prog 84 Z [30, 89, 98, 96, 94, 31, 95, 92, 91, 90] f32.an f32.code (fnQ Tryz.prog 84 Tryz.f32.results Q) (argEnv [x0, x1, x2]) w = f32.sh Z x0 x1 x2 w Q := by kernel_rfl
theorem f32.enters : ∀ f, f ∈ ([30, 89, 98, 96, 94, 31, 95, 92, 91, 90] : List Nat) → Enters Tryz.prog f := by
 intro f hf
 simp only [List.mem_cons, List.not_mem_nil, or_false] at hf
 rcases hf with rfl | rfl | rfl | rfl | rfl | rfl | rfl | rfl | rfl | rfl
 · exact en30
 · exact en89
 · exact en98
 · exact en96
 · exact en94
 · exact en31
 · exact en95
 · exact en92
 · exact en91
 · exact en90
theorem f32.calls {Z : List PanicEntry → World → Prop} {x0 x1 x2 : Value} {w : World} {Q : Value → World → Prop} (h : f32.sh Z x0 x1 x2 w Q) : CallV Tryz.prog Z 32 #[x0, x1, x2] w Q :=
 calls_of_vcn drawD_sound (Q := Q) (n := 84) (rs := Tryz.f32.results) (an := f32.an) (c := f32.code) (cal := [30, 89, 98, 96, 94, 31, 95, 92, 91, 90]) (args := [x0, x1, x2]) Tryz.func32 (by kernel_rfl) rfl f32.body_eq follows (Nat.le_of_ble_eq_true (by kernel_rfl)) (enters_of_all f32.enters) ((f32.shape Z x0 x1 x2 w Q).mpr h)

def f33.sh (Z : List PanicEntry → World → Prop) (x0 : Value) (w : World) (Q : Value → World → Prop) : Prop :=
 run1 Tryz.prog Z (eqOp BinOp.eql 79 false true x0 (Value.pointer none)) w fun t4_1 w =>
 CondV t4_1 (
 Q (Value.slice none 0 0) w) (
 runX Tryz.prog Z (nilChk x0) w fun t6_2 w =>
 run1 Tryz.prog Z (Instr.fieldAt 81 t6_2 0) w fun t7_3 w =>
 run1 Tryz.prog Z (Instr.loadAt 28 t7_3) w fun t8_4 w =>
 run1 Tryz.prog Z (Builtin.append_ #[28, 28] 28 #[(Value.slice none 0 0), t8_4]) w fun t9_5 w =>
 Q t9_5 w)
noncomputable def f33.code : Code := match Tryz.f33.body with | some c => c | none => .skip
def f33.an : An := (.sq .leaf (.sq (.sq .leaf (.cn (.sq .leaf .leaf) .leaf)) (.sq .leaf .leaf)))
theorem f33.body_eq : Tryz.f33.body = some f33.code := by kernel_rfl
theorem f33.shape (Z : List PanicEntry → World → Prop) (x0 : Value) (w : World) (Q : Value → World → Prop) : vc drawD Tryz.prog 10 Z [] f33.an f33.code (fnQ Tryz.prog 10 Tryz.f33.results Q) (argEnv [x0]) w = f33.sh Z x0 w Q := by kernel_rfl
theorem f33.enters : ∀ f, f ∈ ([] : List Nat) → Enters Tryz.prog f := by
 intro f hf
 cases hf
theorem f33.calls {Z : List PanicEntry → World → Prop} {x0 : Value} {w : World} {Q : Value → World → Prop} (h : f33.sh Z x0 w Q) : CallV Tryz.prog Z 33 #[x0] w Q :=
 calls_of_vcn drawD_sound (Q := Q) (n := 10) (rs := Tryz.f33.results) (an := f33.an) (c := f33.code) (cal := []) (args := [x0]) Tryz.func33 (by kernel_rfl) rfl f33.body_eq follows (Nat.le_of_ble_eq_true (by kernel_rfl)) (enters_of_all f33.enters) ((f33.shape Z x0 w Q).mpr h)

def f34.sh (Z : List PanicEntry → World → Prop) (x0 : Value) (w : World) (Q : Value → World → Prop) : Prop :=
 run1 Tryz.prog Z (Instr.box 35 x0) w fun t1_1 w =>
 run1 Tryz.prog Z (Instr.fieldAt 35 t1_1 0) w fun t5_2 w =>
 run1 Tryz.prog Z (Instr.fieldAt 24 t5_2 0) w fun t6_3 w =>
 run1 Tryz.prog Z (Instr.loadAt 22 t6_3) w fun t7_4 w =>
 run1 Tryz.prog Z (eqOp BinOp.eql 22 false true t7_4 (Value.int IntKind.u32 0)) w fun t8_5 w =>
 guardW (t8_5) true (fun k => run1 Tryz.prog Z (Instr.fieldAt 35 t1_1 0) w k) (fun t10_6 w =>
 guardW (t8_5) true (fun k => run1 Tryz.prog Z (Instr.fieldAt 24 t10_6 1) w k) (fun t11_7 w =>
 guardW (t8_5) true (fun k => run1 Tryz.prog Z (Instr.loadAt 22 t11_7) w k) (fun t12_8 w =>
 guardW (t8_5) true (fun k => run1 Tryz.prog Z (eqOp BinOp.eql 22 false true t12_8 (Value.int IntKind.u32 0)) w k) (fun t13_9 w =>
 run1 Tryz.prog Z (pickV t8_5 t13_9 (Value.bool false)) w fun t14_10 w =>
 run1 Tryz.prog Z (Instr.fieldAt 35 t1_1 0) w fun t15_11 w =>
 run1 Tryz.prog Z (Instr.fieldAt 24 t15_11 0) w fun t16_12 w =>
 run1 Tryz.prog Z (Instr.loadAt 22 t16_12) w fun t17_13 w =>
 run1 Tryz.prog Z (eqOp BinOp.neq 22 false true t17_13 (Value.int IntKind.u32 0)) w fun t18_14 w =>
 guardW (t18_14) true (fun k => run1 Tryz.prog Z (Instr.fieldAt 35 t1_1 0) w k) (fun t20_15 w =>
 guardW (t18_14) true (fun k => run1 Tryz.prog Z (Instr.fieldAt 24 t20_15 0) w k) (fun t21_16 w =>
 guardW (t18_14) true (fun k => run1 Tryz.prog Z (Instr.loadAt 22 t21_16) w k) (fun t22_17 w =>
 guardW (t18_14) true (fun k => run1 Tryz.prog Z (convert 22 2 t22_17) w k) (fun t23_18 w =>
 guardW (t18_14) true (fun k => run1 Tryz.prog Z (binOp BinOp.leq 2 t23_18 (Value.int IntKind.i64 2147483647)) w k) (fun t24_19 w =>
 run1 Tryz.prog Z (pickV t18_14 t24_19 (Value.bool false)) w fun t25_20 w =>
 guardW (t25_20) true (fun k => run1 Tryz.prog Z (Instr.fieldAt 35 t1_1 0) w k) (fun t27_21 w =>
 guardW (t25_20) true (fun k => run1 Tryz.prog Z (Instr.fieldAt 24 t27_21 1) w k) (fun t28_22 w =>
 guardW (t25_20) true (fun k => run1 Tryz.prog Z (Instr.loadAt 22 t28_22) w k) (fun t29_23 w =>
 guardW (t25_20) true (fun k => run1 Tryz.prog Z (eqOp BinOp.neq 22 false true t29_23 (Value.int IntKind.u32 0)) w k) (fun t30_24 w =>
 run1 Tryz.prog Z (pickV t25_20 t30_24 (Value.bool false)) w fun t31_25 w =>
 run1 Tryz.prog Z (Op.unary UnOp.not t14_10) w fun t33_26 w =>
 guardW (t33_26) true (fun k => k (t31_25) w) (fun t35_27 w =>
 guardW (t33_26) true (fun k => run1 Tryz.prog Z (Op.unary UnOp.not t35_27) w k) (fun t36_28 w =>
 run1 Tryz.prog Z (pickV t33_26 t36_28 (Value.bool false)) w fun t37_29 w =>
 CondV t37_29 (
 Q (Value.int IntKind.i64 40) w) (
 run1 Tryz.prog Z (Instr.fieldAt 35 t1_1 1) w fun t38_30 w =>
 run1 Tryz.prog Z (Instr.fieldAt 27 t38_30 0) w fun t39_31 w =>
 run1 Tryz.prog Z (Instr.loadAt 25 t39_31) w fun t40_32 w =>
 run1 Tryz.prog Z (binOp BinOp.lss 25 t40_32 (Value.int IntKind.i8 0)) w fun t41_33 w =>
 guardW (t41_33) false (fun k => run1 Tryz.prog Z (Instr.fieldAt 35 t1_1 1) w k) (fun t43_34 w =>
 guardW (t41_33) false (fun k => run1 Tryz.prog Z (Instr.fieldAt 27 t43_34 0) w k) (fun t44_35 w =>
 guardW (t41_33) false (fun k => run1 Tryz.prog Z (Instr.loadAt 25 t44_35) w k) (fun t45_36 w =>
 guardW (t41_33) false (fun k => run1 Tryz.prog Z (binOp BinOp.gtr 25 t45_36 (Value.int IntKind.i8 6)) w k) (fun t46_37 w =>
 run1 Tryz.prog Z (pickV t41_33 (Value.bool true) t46_37) w fun t47_38 w =>
 guardW (t47_38) false (fun k => run1 Tryz.prog Z (Instr.fieldAt 35 t1_1 1) w k) (fun t49_39 w =>
 guardW (t47_38) false (fun k => run1 Tryz.prog Z (Instr.fieldAt 27 t49_39 2) w k) (fun t50_40 w =>
 guardW (t47_38) false (fun k => run1 Tryz.prog Z (Instr.loadAt 2 t50_40) w k) (fun t51_41 w =>
 guardW (t47_38) false (fun k => run1 Tryz.prog Z (binOp BinOp.lss 2 t51_41 (Value.int IntKind.i64 0)) w k) (fun t52_42 w =>
 run1 Tryz.prog Z (pickV t47_38 (Value.bool true) t52_42) w fun t53_43 w =>
 guardW (t53_43) false (fun k => run1 Tryz.prog Z (Instr.fieldAt 35 t1_1 2) w k) (fun t55_44 w =>
 guardW (t53_43) false (fun k => run1 Tryz.prog Z (Instr.fieldAt 33 t55_44 0) w k) (fun t56_45 w =>
 guardW (t53_43) false (fun k => run1 Tryz.prog Z (Instr.loadAt 25 t56_45) w k) (fun t57_46 w =>
 guardW (t53_43) false (fun k => run1 Tryz.prog Z (binOp BinOp.gtr 25 t57_46 (Value.int IntKind.i8 8)) w k) (fun t58_47 w =>
 run1 Tryz.prog Z (pickV t53_43 (Value.bool true) t58_47) w fun t59_48 w =>
 CondV t59_48 (
 Q (Value.int IntKind.i64 40) w) (
 run1 Tryz.prog Z (Instr.fieldAt 35 t1_1 2) w fun t60_49 w =>
 run1 Tryz.prog Z (Instr.loadAt 33 t60_49) w fun t61_50 w =>
 CallV Tryz.prog Z 99 #[t61_50] w fun t62_51 w =>
 Q t62_51 w)) w) w) w) w) w) w) w) w) w) w) w) w)) w) w) w) w) w) w) w) w) w) w) w) w) w) w) w
noncomputable def f34.code : Code := match Tryz.f34.body with | some c => c | none => .skip
def f34.an : An := (.sq .leaf (.sq .leaf (.sq .leaf (.sq (.sq .leaf (.cn (.sq .leaf .leaf) .leaf)) (.sq (.sq .leaf (.cn (.sq .leaf .leaf) .leaf)) (.sq .leaf .leaf))))))
theorem f34.body_eq : Tryz.f34.body = some f34.code := by kernel_rfl
theorem f34.shape (Z : List PanicEntry → World → Prop) (x0 : Value) (w : World) (Q : Value → World → Prop) : vc drawD Tryz.prog 63 Z [99] f34.an f34.code (fnQ Tryz.prog 63 Tryz.f34.results Q) (argEnv [x0]) w = f34.sh Z x0 w Q := by kernel_rfl
theorem f34.enters : ∀ f, f ∈ ([99] : List Nat) → Enters Tryz.prog f := by
 intro f hf
 simp only [List.mem_cons, List.not_mem_nil, or_false] at hf
 rcases hf with rfl
 · exact en99
theorem f34.calls {Z : List PanicEntry → World → Prop} {x0 : Value} {w : World} {Q : Value → World → Prop} (h : f34.sh Z x0 w Q) : CallV Tryz.prog Z 34 #[x0] w Q :=
 calls_of_vcn drawD_sound (Q := Q) (n := 63) (rs := Tryz.f34.results) (an := f34.an) (c := f34.code) (cal := [99]) (args := [x0]) Tryz.func34 (by kernel_rfl) rfl f34.body_eq follows (Nat.le_of_ble_eq_true (by kernel_rfl)) (enters_of_all f34.enters) ((f34.shape Z x0 w Q).mpr h)

def f40.sh (Z : List PanicEntry → World → Prop) (x0 x1 : Value) (w : World) (Q : Value → World → Prop) : Prop :=
 run1 Tryz.prog Z (Instr.box 33 x0) w fun t2_1 w =>
 run1 Tryz.prog Z (Instr.box 33 x1) w fun t3_2 w =>
 run1 Tryz.prog Z (Instr.fieldAt 33 t2_1 0) w fun t6_3 w =>
 run1 Tryz.prog Z (Instr.loadAt 25 t6_3) w fun t7_4 w =>
 run1 Tryz.prog Z (Instr.fieldAt 33 t3_2 0) w fun t8_5 w =>
 run1 Tryz.prog Z (Instr.loadAt 25 t8_5) w fun t9_6 w =>
 run1 Tryz.prog Z (eqOp BinOp.neq 25 false false t7_4 t9_6) w fun t10_7 w =>
 guardW (t10_7) false (fun k => run1 Tryz.prog Z (Instr.fieldAt 33 t2_1 1) w k) (fun t12_8 w =>
 guardW (t10_7) false (fun k => run1 Tryz.prog Z (Instr.loadAt 9 t12_8) w k) (fun t13_9 w =>
 guardW (t10_7) false (fun k => run1 Tryz.prog Z (Instr.fieldAt 33 t3_2 1) w k) (fun t14_10 w =>
 guardW (t10_7) false (fun k => run1 Tryz.prog Z (Instr.loadAt 9 t14_10) w k) (fun t15_11 w =>
 guardW (t10_7) false (fun k => run1 Tryz.prog Z (eqOp BinOp.neq 9 false false t13_9 t15_11) w k) (fun t16_12 w =>
 run1 Tryz.prog Z (pickV t10_7 (Value.bool true) t16_12) w fun t17_13 w =>
 guardW (t17_13) false (fun k => run1 Tryz.prog Z (Instr.fieldAt 33 t2_1 4) w k) (fun t19_14 w =>
 guardW (t17_13) false (fun k => run1 Tryz.prog Z (Instr.loadAt 21 t19_14) w k) (fun t20_15 w =>
 guardW (t17_13) false (fun k => run1 Tryz.prog Z (Instr.fieldAt 33 t3_2 4) w k) (fun t21_16 w =>
 guardW (t17_13) false (fun k => run1 Tryz.prog Z (Instr.loadAt 21 t21_16) w k) (fun t22_17 w =>
 guardW (t17_13) false (fun k => run1 Tryz.prog Z (eqOp BinOp.neq 21 false false t20_15 t22_17) w k) (fun t23_18 w =>
 run1 Tryz.prog Z (pickV t17_13 (Value.bool true) t23_18) w fun t24_19 w =>
 guardW (t24_19) false (fun k => run1 Tryz.prog Z (Instr.fieldAt 33 t2_1 5) w k) (fun t26_20 w =>
 guardW (t24_19) false (fun k => run1 Tryz.prog Z (Instr.loadAt 4 t26_20) w k) (fun t27_21 w =>
 guardW (t24_19) false (fun k => run1 Tryz.prog Z (Instr.fieldAt 33 t3_2 5) w k) (fun t28_22 w =>
 guardW (t24_19) false (fun k => run1 Tryz.prog Z (Instr.loadAt 4 t28_22) w k) (fun t29_23 w =>
 guardW (t24_19) false (fun k => run1 Tryz.prog Z (eqOp BinOp.neq 4 false false t27_21 t29_23) w k) (fun t30_24 w =>
 run1 Tryz.prog Z (pickV t24_19 (Value.bool true) t30_24) w fun t31_25 w =>
 guardW (t31_25) false (fun k => run1 Tryz.prog Z (Instr.fieldAt 33 t2_1 6) w k) (fun t33_26 w =>
 guardW (t31_25) false (fun k => run1 Tryz.prog Z (Instr.loadAt 4 t33_26) w k) (fun t34_27 w =>
 guardW (t31_25) false (fun k => run1 Tryz.prog Z (Instr.fieldAt 33 t3_2 6) w k) (fun t35_28 w =>
 guardW (t31_25) false (fun k => run1 Tryz.prog Z (Instr.loadAt 4 t35_28) w k) (fun t36_29 w =>
 guardW (t31_25) false (fun k => run1 Tryz.prog Z (eqOp BinOp.neq 4 false false t34_27 t36_29) w k) (fun t37_30 w =>
 run1 Tryz.prog Z (pickV t31_25 (Value.bool true) t37_30) w fun t38_31 w =>
 guardW (t38_31) false (fun k => run1 Tryz.prog Z (Instr.fieldAt 33 t2_1 7) w k) (fun t40_32 w =>
 guardW (t38_31) false (fun k => run1 Tryz.prog Z (Instr.loadAt 2 t40_32) w k) (fun t41_33 w =>
 guardW (t38_31) false (fun k => run1 Tryz.prog Z (Instr.fieldAt 33 t3_2 7) w k) (fun t42_34 w =>
 guardW (t38_31) false (fun k => run1 Tryz.prog Z (Instr.loadAt 2 t42_34) w k) (fun t43_35 w =>
 guardW (t38_31) false (fun k => run1 Tryz.prog Z (eqOp BinOp.neq 2 false false t41_33 t43_35) w k) (fun t44_36 w =>
 run1 Tryz.prog Z (pickV t38_31 (Value.bool true) t44_36) w fun t45_37 w =>
 guardW (t45_37) false (fun k => run1 Tryz.prog Z (Instr.fieldAt 33 t2_1 8) w k) (fun t47_38 w =>
 guardW (t45_37) false (fun k => run1 Tryz.prog Z (Instr.loadAt 21 t47_38) w k) (fun t48_39 w =>
 guardW (t45_37) false (fun k => run1 Tryz.prog Z (Instr.fieldAt 33 t3_2 8) w k) (fun t49_40 w =>
 guardW (t45_37) false (fun k => run1 Tryz.prog Z (Instr.loadAt 21 t49_40) w k) (fun t50_41 w =>
 guardW (t45_37) false (fun k => run1 Tryz.prog Z (eqOp BinOp.neq 21 false false t48_39 t50_41) w k) (fun t51_42 w =>
 run1 Tryz.prog Z (pickV t45_37 (Value.bool true) t51_42) w fun t52_43 w =>
 CondV t52_43 (
 Q (Value.bool false) w) (
 run1 Tryz.prog Z (Instr.fieldAt 33 t2_1 2) w fun t53_44 w =>
 run1 Tryz.prog Z (Instr.loadAt 28 t53_44) w fun t54_45 w =>
 run1 Tryz.prog Z (Instr.fieldAt 33 t3_2 2) w fun t55_46 w =>
 run1 Tryz.prog Z (Instr.loadAt 28 t55_46) w fun t56_47 w =>
 CallV Tryz.prog Z 13 #[t54_45, t56_47] w fun t57_48 w =>
 run1 Tryz.prog Z (Op.unary UnOp.not t57_48) w fun t58_49 w =>
 guardW (t58_49) false (fun k => run1 Tryz.prog Z (Instr.fieldAt 33 t2_1 3) w k) (fun t60_50 w =>
 guardW (t58_49) false (fun k => run1 Tryz.prog Z (Instr.loadAt 29 t60_50) w k) (fun t61_51 w =>
 guardW (t58_49) false (fun k => run1 Tryz.prog Z (Instr.fieldAt 33 t3_2 3) w k) (fun t62_52 w =>
 guardW (t58_49) false (fun k => run1 Tryz.prog Z (Instr.loadAt 29 t62_52) w k) (fun t63_53 w =>
 guardW (t58_49) false (fun k => CallV Tryz.prog Z 107 #[t61_51, t63_53] w k) (fun t64_54 w =>
 guardW (t58_49) false (fun k => run1 Tryz.prog Z (Op.unary UnOp.not t64_54) w k) (fun t65_55 w =>
 run1 Tryz.prog Z (pickV t58_49 (Value.bool true) t65_55) w fun t66_56 w =>
 guardW (t66_56) false (fun k => run1 Tryz.prog Z (Instr.fieldAt 33 t2_1 9) w k) (fun t68_57 w =>
 guardW (t66_56) false (fun k => run1 Tryz.prog Z (Instr.loadAt 30 t68_57) w k) (fun t69_58 w =>
 guardW (t66_56) false (fun k => run1 Tryz.prog Z (Instr.fieldAt 33 t3_2 9) w k) (fun t70_59 w =>
 guardW (t66_56) false (fun k => run1 Tryz.prog Z (Instr.loadAt 30 t70_59) w k) (fun t71_60 w =>
 guardW (t66_56) false (fun k => CallV Tryz.prog Z 108 #[t69_58, t71_60] w k) (fun t72_61 w =>
 guardW (t66_56) false (fun k => run1 Tryz.prog Z (Op.unary UnOp.not t72_61) w k) (fun t73_62 w =>
 run1 Tryz.prog Z (pickV t66_56 (Value.bool true) t73_62) w fun t74_63 w =>
 guardW (t74_63) false (fun k => run1 Tryz.prog Z (Instr.fieldAt 33 t2_1 10) w k) (fun t76_64 w =>
 guardW (t74_63) false (fun k => run1 Tryz.prog Z (Instr.loadAt 31 t76_64) w k) (fun t77_65 w =>
 guardW (t74_63) false (fun k => run1 Tryz.prog Z (Builtin.len_ #[31] 3 #[t77_65]) w k) (fun t78_66 w =>
 guardW (t74_63) false (fun k => run1 Tryz.prog Z (Instr.fieldAt 33 t3_2 10) w k) (fun t79_67 w =>
 guardW (t74_63) false (fun k => run1 Tryz.prog Z (Instr.loadAt 31 t79_67) w k) (fun t80_68 w =>
 guardW (t74_63) false (fun k => run1 Tryz.prog Z (Builtin.len_ #[31] 3 #[t80_68]) w k) (fun t81_69 w =>
 guardW (t74_63) false (fun k => run1 Tryz.prog Z (eqOp BinOp.neq 3 false false t78_66 t81_69) w k) (fun t82_70 w =>
 run1 Tryz.prog Z (pickV t74_63 (Value.bool true) t82_70) w fun t83_71 w =>
 CondV t83_71 (
 Q (Value.bool false) w) (
 ∃ J_72 : Nat → Value → World → Prop, (∃ m, J_72 m (Value.int IntKind.i64 0) w) ∧
 ∀ m_72, ∀ t5_73 : Value, ∀ w : World, J_72 m_72 t5_73 w → Env →
 run1 Tryz.prog Z (Instr.fieldAt 33 t2_1 10) w fun t85_74 w =>
 run1 Tryz.prog Z (Instr.loadAt 31 t85_74) w fun t86_75 w =>
 run1 Tryz.prog Z (Builtin.len_ #[31] 3 #[t86_75]) w fun t87_76 w =>
 run1 Tryz.prog Z (binOp BinOp.lss 3 t5_73 t87_76) w fun t88_77 w =>
 CondV t88_77 (
 Drawn w fun w =>
 Pure1 Tryz.prog (Instr.fieldAt 33 t2_1 10) fun t91_78 =>
 Read1 Tryz.prog (Instr.loadAt 31 t91_78) w fun t92_79 =>
 Pure1 Tryz.prog (Instr.indexAt 31 t92_79 t5_73) fun t94_80 =>
 Read1 Tryz.prog (Instr.loadAt 33 t94_80) w fun t95_81 =>
 Pure1 Tryz.prog (Instr.fieldAt 33 t3_2 10) fun t96_82 =>
 Read1 Tryz.prog (Instr.loadAt 31 t96_82) w fun t97_83 =>
 Pure1 Tryz.prog (Instr.indexAt 31 t97_83 t5_73) fun t99_84 =>
 Read1 Tryz.prog (Instr.loadAt 33 t99_84) w fun t100_85 =>
 CallV Tryz.prog Z 40 #[t95_81, t100_85] w fun t101_86 w =>
 Still Tryz.prog (nx (Instr.loadAt 31 t96_82)) t97_83 w <|
 Still Tryz.prog (nx (Instr.loadAt 31 t91_78)) t92_79 w <|
 Pure1 Tryz.prog (Op.unary UnOp.not t101_86) fun t102_87 =>
 CondV t102_87 (
 Q (Value.bool false) w) (
 run1 Tryz.prog Z (binOp BinOp.add 3 t5_73 (Value.int IntKind.i64 1)) w fun t90_88 w =>
 ∃ n_72, n_72 < m_72 ∧ J_72 n_72 t90_88 w)) (
 Q (Value.bool true) w))) w) w) w) w) w) w) w) w) w) w) w) w) w) w) w) w) w) w) w)) w) w) w) w) w) w) w) w) w) w) w) w) w) w) w) w) w) w) w) w) w) w) w) w) w) w) w) w) w) w
noncomputable def f40.code : Code := match Tryz.f40.body with | some c => c | none => .skip
def f40.an : An := (.sq .leaf (.sq (.sq .leaf (.cn (.sq .leaf .leaf) .leaf)) (.sq (.sq .leaf (.cn (.sq .leaf .leaf) .leaf)) (.sq (.sq .leaf (.bl (.lp [5] [4, 5, 84, 85, 86, 87, 88, 89, 90, 91, 92, 93, 94, 95, 96, 97, 98, 99, 100, 101, 102] (.sq (.sq .leaf (.cn .leaf .leaf)) (.sq (.bl (.sq (.dr (.take 0 false (.take 1 true (.take 2 false (.take 3 false (.take 4 true (.take 5 false (.take 6 true (.take 7 false (.take 8 false (.take 9 true (.one 10 (.take 11 false .fin))))))))))))) (.cn (.sq .leaf .leaf) .leaf))) .leaf))))) (.sq .leaf .leaf)))))
theorem f40.body_eq : Tryz.f40.body = some f40.code := by kernel_rfl
theorem f40.shape (Z : List PanicEntry → World → Prop) (x0 x1 : Value) (w : World) (Q : Value → World → Prop) : vc drawD Tryz.prog 103 Z [13, 107, 108, 40] f40.an f40.code (fnQ Tryz.prog 103 Tryz.f40.results Q) (argEnv [x0, x1]) w = f40.sh Z x0 x1 w Q := by kernel_rfl
theorem f40.enters : ∀ f, f ∈ ([13, 107, 108, 40] : List Nat) → Enters Tryz.prog f := by
 intro f hf
 simp only [List.mem_cons, List.not_mem_nil, or_false] at hf
 rcases hf with rfl | rfl | rfl | rfl
 · exact en13
 · exact en107
 · exact en108
 · exact en40
theorem f40.calls {Z : List PanicEntry → World → Prop} {x0 x1 : Value} {w : World} {Q : Value → World → Prop} (h : f40.sh Z x0 x1 w Q) : CallV Tryz.prog Z 40 #[x0, x1] w Q :=
 calls_of_vcn drawD_sound (Q := Q) (n := 103) (rs := Tryz.f40.results) (an := f40.an) (c := f40.code) (cal := [13, 107, 108, 40]) (args := [x0, x1]) Tryz.func40 (by kernel_rfl) rfl f40.body_eq follows (Nat.le_of_ble_eq_true (by kernel_rfl)) (enters_of_all f40.enters) ((f40.shape Z x0 x1 w Q).mpr h)

def f44.sh (Z : List PanicEntry → World → Prop) (x0 : Value) (w : World) (Q : Value → World → Prop) : Prop :=
 ∃ J_1 : Nat → Value → World → Prop, (∃ m, J_1 m (Value.int IntKind.i64 1) w) ∧
 ∀ m_1, ∀ t3_2 : Value, ∀ w : World, J_1 m_1 t3_2 w → Env →
 run1 Tryz.prog Z (eqOp BinOp.eql 3 false true t3_2 (Value.int IntKind.i64 1)) w fun t8_3 w =>
 guardW (t8_3) false (fun k => k (t3_2) w) (fun t10_4 w =>
 guardW (t8_3) false (fun k => k (x0) w) (fun t11_5 w =>
 guardW (t8_3) false (fun k => run1 Tryz.prog Z (Builtin.len_ #[45] 3 #[t11_5]) w k) (fun t12_6 w =>
 guardW (t8_3) false (fun k => run1 Tryz.prog Z (binOp BinOp.leq 3 t10_4 t12_6) w k) (fun t13_7 w =>
 run1 Tryz.prog Z (pickV t8_3 (Value.bool true) t13_7) w fun t14_8 w =>
 CondV t14_8 (
 ∃ J_9 : Nat → Value → World → Prop, (∃ m, J_9 m (Value.int IntKind.i64 0) w) ∧
 ∀ m_9, ∀ t4_10 : Value, ∀ w : World, J_9 m_9 t4_10 w → Env →
 run1 Tryz.prog Z (Builtin.len_ #[45] 3 #[x0]) w fun t19_11 w =>
 run1 Tryz.prog Z (binOp BinOp.lss 3 t4_10 t19_11) w fun t20_12 w =>
 CondV t20_12 (
 ∃ J_13 : Nat → Value → World → Prop, (∃ m, J_13 m (Value.int IntKind.i64 0) w) ∧
 ∀ m_13, ∀ t5_14 : Value, ∀ w : World, J_13 m_13 t5_14 w → Env →
 run1 Tryz.prog Z (Instr.indexAt 45 x0 t4_10) w fun t26_15 w =>
 run1 Tryz.prog Z (Instr.loadAt 28 t26_15) w fun t27_16 w =>
 run1 Tryz.prog Z (Builtin.len_ #[28] 3 #[t27_16]) w fun t28_17 w =>
 run1 Tryz.prog Z (binOp BinOp.lss 3 t5_14 t28_17) w fun t29_18 w =>
 CondV t29_18 (
 Drawn w fun w =>
 Pure1 Tryz.prog (Instr.indexAt 45 x0 t4_10) fun t34_19 =>
 Read1 Tryz.prog (Instr.loadAt 28 t34_19) w fun t35_20 =>
 Pure1 Tryz.prog (binOp BinOp.quo 3 t4_10 t3_2) fun t39_21 =>
 Pure1 Tryz.prog (binOp BinOp.rem 3 t39_21 (Value.int IntKind.i64 100)) fun t40_22 =>
 Pure1 Tryz.prog (convert 3 5 t40_22) fun t41_23 =>
 Pure1 Tryz.prog (Instr.indexAt 28 t35_20 t5_14) fun t42_24 =>
 run0 Tryz.prog Z (Instr.storeAt 5 t42_24 t41_23) w fun w =>
 run1 Tryz.prog Z (binOp BinOp.add 3 t5_14 (Value.int IntKind.i64 1)) w fun t31_25 w =>
 ∃ n_13, n_13 < m_13 ∧ J_13 n_13 t31_25 w) (
 run1 Tryz.prog Z (binOp BinOp.add 3 t4_10 (Value.int IntKind.i64 1)) w fun t22_26 w =>
 ∃ n_9, n_9 < m_9 ∧ J_9 n_9 t22_26 w)) (
 CallV Tryz.prog Z 110 #[x0, t3_2, (Value.int IntKind.i64 1)] w fun t45_27 w =>
 guardW (t45_27) true (fun k => k (x0) w) (fun t47_28 w =>
 guardW (t45_27) true (fun k => k (t3_2) w) (fun t48_29 w =>
 guardW (t45_27) true (fun k => CallV Tryz.prog Z 110 #[t47_28, t48_29, (Value.int IntKind.i64 64)] w k) (fun t49_30 w =>
 run1 Tryz.prog Z (pickV t45_27 t49_30 (Value.bool false)) w fun t50_31 w =>
 run1 Tryz.prog Z (Op.unary UnOp.not t50_31) w fun t52_32 w =>
 CondV t52_32 (
 Q (Value.bool false) w) (
 run1 Tryz.prog Z (binOp BinOp.mul 3 t3_2 (Value.int IntKind.i64 100)) w fun t16_33 w =>
 ∃ n_1, n_1 < m_1 ∧ J_1 n_1 t16_33 w)) w) w) w)) (
 Q (Value.bool true) w)) w) w) w) w
noncomputable def f44.code : Code := match Tryz.f44.body with | some c => c | none => .skip
def f44.an : An := (.sq .leaf (.sq (.sq .leaf (.bl (.lp [3] [2, 3, 4, 5, 6, 7, 8, 9, 10, 11, 12, 13, 14, 15, 16, 17, 18, 19, 20, 21, 22, 23, 24, 25, 26, 27, 28, 29, 30, 31, 32, 33, 34, 35, 36, 37, 38, 39, 40, 41, 42, 43, 44, 45, 46, 47, 48, 49, 50, 51, 52] (.sq (.sq .leaf (.cn .leaf .leaf)) (.sq (.bl (.sq (.sq .leaf (.bl (.lp [4] [4, 5, 17, 18, 19, 20, 21, 22, 23, 24, 25, 26, 27, 28, 29, 30, 31, 32, 33, 34, 35, 36, 37, 38, 39, 40, 41, 42] (.sq (.sq .leaf (.cn .leaf .leaf)) (.sq (.bl (.sq .leaf (.bl (.lp [5] [5, 23, 24, 25, 26, 27, 28, 29, 30, 31, 32, 33, 34, 35, 36, 37, 38, 39, 40, 41, 42] (.sq (.sq .leaf (.cn .leaf .leaf)) (.sq (.bl (.dr (.take 0 false (.take 1 false (.take 2 false (.take 3 true (.take 4 false (.take 5 false (.take 6 false (.take 7 false (.take 8 false (.take 9 false (.take 10 false (.one 11 .fin)))))))))))))) .leaf)))))) .leaf))))) (.sq .leaf (.sq .leaf (.cn (.sq .leaf .leaf) .leaf))))) .leaf))))) (.sq .leaf .leaf)))
theorem f44.body_eq : Tryz.f44.body = some f44.code := by kernel_rfl
theorem f44.shape (Z : List PanicEntry → World → Prop) (x0 : Value) (w : World) (Q : Value → World → Prop) : vc drawD Tryz.prog 53 Z [110] f44.an f44.code (fnQ Tryz.prog 53 Tryz.f44.results Q) (argEnv [x0]) w = f44.sh Z x0 w Q := by kernel_rfl
theorem f44.enters : ∀ f, f ∈ ([110] : List Nat) → Enters Tryz.prog f := by
 intro f hf
 simp only [List.mem_cons, List.not_mem_nil, or_false] at hf
 rcases hf with rfl
 · exact en110
theorem f44.calls {Z : List PanicEntry → World → Prop} {x0 : Value} {w : World} {Q : Value → World → Prop} (h : f44.sh Z x0 w Q) : CallV Tryz.prog Z 44 #[x0] w Q :=
 calls_of_vcn drawD_sound (Q := Q) (n := 53) (rs := Tryz.f44.results) (an := f44.an) (c := f44.code) (cal := [110]) (args := [x0]) Tryz.func44 (by kernel_rfl) rfl f44.body_eq follows (Nat.le_of_ble_eq_true (by kernel_rfl)) (enters_of_all f44.enters) ((f44.shape Z x0 w Q).mpr h)

def f45.sh (Z : List PanicEntry → World → Prop) (x0 : Value) (w : World) (Q : Value → World → Prop) : Prop :=
 ∃ J_1 : Nat → Value → World → Prop, (∃ m, J_1 m (Value.int IntKind.i64 0) w) ∧
 ∀ m_1, ∀ t3_2 : Value, ∀ w : World, J_1 m_1 t3_2 w → Env →
 run1 Tryz.prog Z (Builtin.len_ #[46] 3 #[x0]) w fun t9_3 w =>
 run1 Tryz.prog Z (binOp BinOp.lss 3 t3_2 t9_3) w fun t10_4 w =>
 CondV t10_4 (
 False) (
 CallV Tryz.prog Z 111 #[x0, (Value.int IntKind.i64 1)] w fun t31_5 w =>
 CallV Tryz.prog Z 111 #[x0, (Value.int IntKind.i64 24)] w fun t33_6 w =>
 guardW (t31_5) true (fun k => k (t33_6) w) (fun t36_7 w =>
 run1 Tryz.prog Z (pickV t31_5 t36_7 (Value.bool false)) w fun t37_8 w =>
 Q t37_8 w) w)
noncomputable def f45.code : Code := match Tryz.f45.body with | some c => c | none => .skip
def f45.an : An := (.sq .leaf (.sq (.sq .leaf (.bl (.lp [3] [3, 4, 7, 8, 9, 10, 11, 12, 13, 14, 15, 16, 17, 18, 19, 20, 21, 22, 23, 24, 25, 26, 27, 28, 29] (.sq (.sq .leaf (.cn .leaf .leaf)) .leaf)))) (.sq .leaf (.sq .leaf (.sq .leaf .leaf)))))
theorem f45.body_eq : Tryz.f45.body = some f45.code := by kernel_rfl
theorem f45.shape (Z : List PanicEntry → World → Prop) (x0 : Value) (w : World) (Q : Value → World → Prop) : vc drawD Tryz.prog 38 Z [111] f45.an f45.code (fnQ Tryz.prog 38 Tryz.f45.results Q) (argEnv [x0]) w = f45.sh Z x0 w Q := by kernel_rfl
theorem f45.enters : ∀ f, f ∈ ([111] : List Nat) → Enters Tryz.prog f := by
 intro f hf
 simp only [List.mem_cons, List.not_mem_nil, or_false] at hf
 rcases hf with rfl
 · exact en111
theorem f45.calls {Z : List PanicEntry → World → Prop} {x0 : Value} {w : World} {Q : Value → World → Prop} (h : f45.sh Z x0 w Q) : CallV Tryz.prog Z 45 #[x0] w Q :=
 calls_of_vcn drawD_sound (Q := Q) (n := 38) (rs := Tryz.f45.results) (an := f45.an) (c := f45.code) (cal := [111]) (args := [x0]) Tryz.func45 (by kernel_rfl) rfl f45.body_eq follows (Nat.le_of_ble_eq_true (by kernel_rfl)) (enters_of_all f45.enters) ((f45.shape Z x0 w Q).mpr h)

def f46.sh (Z : List PanicEntry → World → Prop) (x0 : Value) (w : World) (Q : Value → World → Prop) : Prop :=
 ∃ J_1 : Nat → Value → World → Prop, (∃ m, J_1 m (Value.int IntKind.i64 0) w) ∧
 ∀ m_1, ∀ t3_2 : Value, ∀ w : World, J_1 m_1 t3_2 w → Env →
 run1 Tryz.prog Z (Builtin.len_ #[47] 3 #[x0]) w fun t9_3 w =>
 run1 Tryz.prog Z (binOp BinOp.lss 3 t3_2 t9_3) w fun t10_4 w =>
 CondV t10_4 (
 False) (
 CallV Tryz.prog Z 112 #[x0, (Value.int IntKind.i64 1)] w fun t32_5 w =>
 CallV Tryz.prog Z 112 #[x0, (Value.int IntKind.i64 24)] w fun t34_6 w =>
 guardW (t32_5) true (fun k => k (t34_6) w) (fun t37_7 w =>
 run1 Tryz.prog Z (pickV t32_5 t37_7 (Value.bool false)) w fun t38_8 w =>
 Q t38_8 w) w)
noncomputable def f46.code : Code := match Tryz.f46.body with | some c => c | none => .skip
def f46.an : An := (.sq .leaf (.sq (.sq .leaf (.bl (.lp [3] [3, 4, 7, 8, 9, 10, 11, 12, 13, 14, 15, 16, 17, 18, 19, 20, 21, 22, 23, 24, 25, 26, 27, 28, 29, 30] (.sq (.sq .leaf (.cn .leaf .leaf)) .leaf)))) (.sq .leaf (.sq .leaf (.sq .leaf .leaf)))))
theorem f46.body_eq : Tryz.f46.body = some f46.code := by kernel_rfl
theorem f46.shape (Z : List PanicEntry → World → Prop) (x0 : Value) (w : World) (Q : Value → World → Prop) : vc drawD Tryz.prog 39 Z [112] f46.an f46.code (fnQ Tryz.prog 39 Tryz.f46.results Q) (argEnv [x0]) w = f46.sh Z x0 w Q := by kernel_rfl
theorem f46.enters : ∀ f, f ∈ ([112] : List Nat) → Enters Tryz.prog f := by
 intro f hf
 simp only [List.mem_cons, List.not_mem_nil, or_false] at hf
 rcases hf with rfl
 · exact en112
theorem f46.calls {Z : List PanicEntry → World → Prop} {x0 : Value} {w : World} {Q : Value → World → Prop} (h : f46.sh Z x0 w Q) : CallV Tryz.prog Z 46 #[x0] w Q :=
 calls_of_vcn drawD_sound (Q := Q) (n := 39) (rs := Tryz.f46.results) (an := f46.an) (c := f46.code) (cal := [112]) (args := [x0]) Tryz.func46 (by kernel_rfl) rfl f46.body_eq follows (Nat.le_of_ble_eq_true (by kernel_rfl)) (enters_of_all f46.enters) ((f46.shape Z x0 w Q).mpr h)

def f47.sh (Z : List PanicEntry → World → Prop) (x0 : Value) (w : World) (Q : Value → World → Prop) : Prop :=
 ∃ J_1 : Nat → Value → World → Prop, (∃ m, J_1 m (Value.int IntKind.i64 0) w) ∧
 ∀ m_1, ∀ t3_2 : Value, ∀ w : World, J_1 m_1 t3_2 w → Env →
 run1 Tryz.prog Z (Builtin.len_ #[48] 3 #[x0]) w fun t9_3 w =>
 run1 Tryz.prog Z (binOp BinOp.lss 3 t3_2 t9_3) w fun t10_4 w =>
 CondV t10_4 (
 False) (
 CallV Tryz.prog Z 113 #[x0, (Value.int IntKind.i64 1)] w fun t33_5 w =>
 CallV Tryz.prog Z 113 #[x0, (Value.int IntKind.i64 24)] w fun t35_6 w =>
 guardW (t33_5) true (fun k => k (t35_6) w) (fun t38_7 w =>
 run1 Tryz.prog Z (pickV t33_5 t38_7 (Value.bool false)) w fun t39_8 w =>
 Q t39_8 w) w)
noncomputable def f47.code : Code := match Tryz.f47.body with | some c => c | none => .skip
def f47.an : An := (.sq .leaf (.sq (.sq .leaf (.bl (.lp [3] [3, 4, 7, 8, 9, 10, 11, 12, 13, 14, 15, 16, 17, 18, 19, 20, 21, 22, 23, 24, 25, 26, 27, 28, 29, 30, 31] (.sq (.sq .leaf (.cn .leaf .leaf)) .leaf)))) (.sq .leaf (.sq .leaf (.sq .leaf .leaf)))))
theorem f47.body_eq : Tryz.f47.body = some f47.code := by kernel_rfl
theorem f47.shape (Z : List PanicEntry → World → Prop) (x0 : Value) (w : World) (Q : Value → World → Prop) : vc drawD Tryz.prog 40 Z [113] f47.an f47.code (fnQ Tryz.prog 40 Tryz.f47.results Q) (argEnv [x0]) w = f47.sh Z x0 w Q := by kernel_rfl
theorem f47.enters : ∀ f, f ∈ ([113] : List Nat) → Enters Tryz.prog f := by
 intro f hf
 simp only [List.mem_cons, List.not_mem_nil, or_false] at hf
 rcases hf with rfl
 · exact en113
theorem f47.calls {Z : List PanicEntry → World → Prop} {x0 : Value} {w : World} {Q : Value → World → Prop} (h : f47.sh Z x0 w Q) : CallV Tryz.prog Z 47 #[x0] w Q :=
 calls_of_vcn drawD_sound (Q := Q) (n := 40) (rs := Tryz.f47.results) (an := f47.an) (c := f47.code) (cal := [113]) (args := [x0]) Tryz.func47 (by kernel_rfl) rfl f47.body_eq follows (Nat.le_of_ble_eq_true (by kernel_rfl)) (enters_of_all f47.enters) ((f47.shape Z x0 w Q).mpr h)

def f48.sh (Z : List PanicEntry → World → Prop) (x0 : Value) (w : World) (Q : Value → World → Prop) : Prop :=
 ∃ J_1 : Nat → Value → World → Prop, (∃ m, J_1 m (Value.int IntKind.i64 0) w) ∧
 ∀ m_1, ∀ t3_2 : Value, ∀ w : World, J_1 m_1 t3_2 w → Env →
 run1 Tryz.prog Z (Builtin.len_ #[49] 3 #[x0]) w fun t9_3 w =>
 run1 Tryz.prog Z (binOp BinOp.lss 3 t3_2 t9_3) w fun t10_4 w =>
 CondV t10_4 (
 ∃ J_5 : Nat → Value → World → Prop, (∃ m, J_5 m (Value.int IntKind.i64 0) w) ∧
 ∀ m_5, ∀ t4_6 : Value, ∀ w : World, J_5 m_5 t4_6 w → Env →
 run1 Tryz.prog Z (Instr.indexAt 49 x0 t3_2) w fun t16_7 w =>
 run1 Tryz.prog Z (Instr.loadAt 30 t16_7) w fun t17_8 w =>
 run1 Tryz.prog Z (Builtin.len_ #[30] 3 #[t17_8]) w fun t18_9 w =>
 run1 Tryz.prog Z (binOp BinOp.lss 3 t4_6 t18_9) w fun t19_10 w =>
 CondV t19_10 (
 Drawn w fun w =>
 Pure1 Tryz.prog (Instr.indexAt 49 x0 t3_2) fun t24_11 =>
 Read1 Tryz.prog (Instr.loadAt 30 t24_11) w fun t25_12 =>
 Pure1 Tryz.prog (binOp BinOp.sub 3 (Value.int IntKind.i64 (-1000000)) t3_2) fun t28_13 =>
 CallV Tryz.prog Z 109 #[t28_13] w fun t29_14 w =>
 Still Tryz.prog (nx (Instr.loadAt 30 t24_11)) t25_12 w <|
 Pure1 Tryz.prog (Instr.build 120 #[(1, t29_14)]) fun t30_15 =>
 Pure1 Tryz.prog (Instr.indexAt 30 t25_12 t4_6) fun t31_16 =>
 run0 Tryz.prog Z (Instr.storeAt 120 t31_16 t30_15) w fun w =>
 run1 Tryz.prog Z (binOp BinOp.add 3 t4_6 (Value.int IntKind.i64 1)) w fun t21_17 w =>
 ∃ n_5, n_5 < m_5 ∧ J_5 n_5 t21_17 w) (
 run1 Tryz.prog Z (binOp BinOp.add 3 t3_2 (Value.int IntKind.i64 1)) w fun t12_18 w =>
 ∃ n_1, n_1 < m_1 ∧ J_1 n_1 t12_18 w)) (
 CallV Tryz.prog Z 114 #[x0, (Value.int IntKind.i64 1)] w fun t33_19 w =>
 CallV Tryz.prog Z 114 #[x0, (Value.int IntKind.i64 24)] w fun t35_20 w =>
 guardW (t33_19) true (fun k => k (t35_20) w) (fun t38_21 w =>
 run1 Tryz.prog Z (pickV t33_19 t38_21 (Value.bool false)) w fun t39_22 w =>
 Q t39_22 w) w)
noncomputable def f48.code : Code := match Tryz.f48.body with | some c => c | none => .skip
def f48.an : An := (.sq .leaf (.sq (.sq .leaf (.bl (.lp [3] [3, 4, 7, 8, 9, 10, 11, 12, 13, 14, 15, 16, 17, 18, 19, 20, 21, 22, 23, 24, 25, 26, 27, 28, 29, 30, 31] (.sq (.sq .leaf (.cn .leaf .leaf)) (.sq (.bl (.sq .leaf (.bl (.lp [4] [4, 13, 14, 15, 16, 17, 18, 19, 20, 21, 22, 23, 24, 25, 26, 27, 28, 29, 30, 31] (.sq (.sq .leaf (.cn .leaf .leaf)) (.sq (.bl (.dr (.take 0 false (.take 1 false (.take 2 false (.take 3 true (.take 4 false (.take 5 false (.take 6 false (.one 7 (.take 8 false (.take 9 false (.one 10 .fin))))))))))))) .leaf)))))) .leaf))))) (.sq .leaf (.sq .leaf (.sq .leaf .leaf)))))
theorem f48.body_eq : Tryz.f48.body = some f48.code := by kernel_rfl
theorem f48.shape (Z : List PanicEntry → World → Prop) (x0 : Value) (w : World) (Q : Value → World → Prop) : vc drawD Tryz.prog 40 Z [109, 114] f48.an f48.code (fnQ Tryz.prog 40 Tryz.f48.results Q) (argEnv [x0]) w = f48.sh Z x0 w Q := by kernel_rfl
theorem f48.enters : ∀ f, f ∈ ([109, 114] : List Nat) → Enters Tryz.prog f := by
 intro f hf
 simp only [List.mem_cons, List.not_mem_nil, or_false] at hf
 rcases hf with rfl | rfl
 · exact en109
 · exact en114
theorem f48.calls {Z : List PanicEntry → World → Prop} {x0 : Value} {w : World} {Q : Value → World → Prop} (h : f48.sh Z x0 w Q) : CallV Tryz.prog Z 48 #[x0] w Q :=
 calls_of_vcn drawD_sound (Q := Q) (n := 40) (rs := Tryz.f48.results) (an := f48.an) (c := f48.code) (cal := [109, 114]) (args := [x0]) Tryz.func48 (by kernel_rfl) rfl f48.body_eq follows (Nat.le_of_ble_eq_true (by kernel_rfl)) (enters_of_all f48.enters) ((f48.shape Z x0 w Q).mpr h)

def f49.sh (Z : List PanicEntry → World → Prop) (x0 : Value) (w : World) (Q : Value → World → Prop) : Prop :=
 ∃ J_1 : Nat → Value → World → Prop, (∃ m, J_1 m (Value.int IntKind.i64 0) w) ∧
 ∀ m_1, ∀ t3_2 : Value, ∀ w : World, J_1 m_1 t3_2 w → Env →
 run1 Tryz.prog Z (Builtin.len_ #[50] 3 #[x0]) w fun t9_3 w =>
 run1 Tryz.prog Z (binOp BinOp.lss 3 t3_2 t9_3) w fun t10_4 w =>
 CondV t10_4 (
 ∃ J_5 : Nat → Value → World → Prop, (∃ m, J_5 m (Value.int IntKind.i64 0) w) ∧
 ∀ m_5, ∀ t4_6 : Value, ∀ w : World, J_5 m_5 t4_6 w → Env →
 run1 Tryz.prog Z (Instr.indexAt 50 x0 t3_2) w fun t16_7 w =>
 run1 Tryz.prog Z (Instr.loadAt 29 t16_7) w fun t17_8 w =>
 run1 Tryz.prog Z (Builtin.len_ #[29] 3 #[t17_8]) w fun t18_9 w =>
 run1 Tryz.prog Z (binOp BinOp.lss 3 t4_6 t18_9) w fun t19_10 w =>
 CondV t19_10 (
 Drawn w fun w =>
 Pure1 Tryz.prog (Instr.indexAt 50 x0 t3_2) fun t24_11 =>
 Read1 Tryz.prog (Instr.loadAt 29 t24_11) w fun t25_12 =>
 Pure1 Tryz.prog (binOp BinOp.sub 3 (Value.int IntKind.i64 (-1000000)) t3_2) fun t28_13 =>
 CallV Tryz.prog Z 109 #[t28_13] w fun t29_14 w =>
 Still Tryz.prog (nx (Instr.loadAt 29 t24_11)) t25_12 w <|
 Pure1 Tryz.prog (Instr.build 120 #[(1, t29_14)]) fun t30_15 =>
 Pure1 Tryz.prog (Instr.build 122 #[(1, t30_15)]) fun t31_16 =>
 Pure1 Tryz.prog (Instr.indexAt 29 t25_12 t4_6) fun t32_17 =>
 run0 Tryz.prog Z (Instr.storeAt 122 t32_17 t31_16) w fun w =>
 run1 Tryz.prog Z (binOp BinOp.add 3 t4_6 (Value.int IntKind.i64 1)) w fun t21_18 w =>
 ∃ n_5, n_5 < m_5 ∧ J_5 n_5 t21_18 w) (
 run1 Tryz.prog Z (binOp BinOp.add 3 t3_2 (Value.int IntKind.i64 1)) w fun t12_19 w =>
 ∃ n_1, n_1 < m_1 ∧ J_1 n_1 t12_19 w)) (
 CallV Tryz.prog Z 115 #[x0, (Value.int IntKind.i64 1)] w fun t34_20 w =>
 CallV Tryz.prog Z 115 #[x0, (Value.int IntKind.i64 24)] w fun t36_21 w =>
 guardW (t34_20) true (fun k => k (t36_21) w) (fun t39_22 w =>
 run1 Tryz.prog Z (pickV t34_20 t39_22 (Value.bool false)) w fun t40_23 w =>
 Q t40_23 w) w)
noncomputable def f49.code : Code := match Tryz.f49.body with | some c => c | none => .skip
def f49.an : An := (.sq .leaf (.sq (.sq .leaf (.bl (.lp [3] [3, 4, 7, 8, 9, 10, 11, 12, 13, 14, 15, 16, 17, 18, 19, 20, 21, 22, 23, 24, 25, 26, 27, 28, 29, 30, 31, 32] (.sq (.sq .leaf (.cn .leaf .leaf)) (.sq (.bl (.sq .leaf (.bl (.lp [4] [4, 13, 14, 15, 16, 17, 18, 19, 20, 21, 22, 23, 24, 25, 26, 27, 28, 29, 30, 31, 32] (.sq (.sq .leaf (.cn .leaf .leaf)) (.sq (.bl (.dr (.take 0 false (.take 1 false (.take 2 false (.take 3 true (.take 4 false (.take 5 false (.take 6 false (.one 7 (.take 8 false (.take 9 false (.take 10 false (.one 11 .fin)))))))))))))) .leaf)))))) .leaf))))) (.sq .leaf (.sq .leaf (.sq .leaf .leaf)))))
theorem f49.body_eq : Tryz.f49.body = some f49.code := by kernel_rfl
theorem f49.shape (Z : List PanicEntry → World → Prop) (x0 : Value) (w : World) (Q : Value → World → Prop) : vc drawD Tryz.prog 41 Z [109, 115] f49.an f49.code (fnQ Tryz.prog 41 Tryz.f49.results Q) (argEnv [x0]) w = f49.sh Z x0 w Q := by kernel_rfl
theorem f49.enters : ∀ f, f ∈ ([109, 115] : List Nat) → Enters Tryz.prog f := by
 intro f hf
 simp only [List.mem_cons, List.not_mem_nil, or_false] at hf
 rcases hf with rfl | rfl
 · exact en109
 · exact en115
theorem f49.calls {Z : List PanicEntry → World → Prop} {x0 : Value} {w : World} {Q : Value → World → Prop} (h : f49.sh Z x0 w Q) : CallV Tryz.prog Z 49 #[x0] w Q :=
 calls_of_vcn drawD_sound (Q := Q) (n := 41) (rs := Tryz.f49.results) (an := f49.an) (c := f49.code) (cal := [109, 115]) (args := [x0]) Tryz.func49 (by kernel_rfl) rfl f49.body_eq follows (Nat.le_of_ble_eq_true (by kernel_rfl)) (enters_of_all f49.enters) ((f49.shape Z x0 w Q).mpr h)

def f50.sh (Z : List PanicEntry → World → Prop) (x0 : Value) (w : World) (Q : Value → World → Prop) : Prop :=
 ∃ J_1 : Nat → Value → World → Prop, (∃ m, J_1 m (Value.int IntKind.i64 0) w) ∧
 ∀ m_1, ∀ t3_2 : Value, ∀ w : World, J_1 m_1 t3_2 w → Env →
 run1 Tryz.prog Z (Builtin.len_ #[51] 3 #[x0]) w fun t9_3 w =>
 run1 Tryz.prog Z (binOp BinOp.lss 3 t3_2 t9_3) w fun t10_4 w =>
 CondV t10_4 (
 ∃ J_5 : Nat → Value → World → Prop, (∃ m, J_5 m (Value.int IntKind.i64 0) w) ∧
 ∀ m_5, ∀ t4_6 : Value, ∀ w : World, J_5 m_5 t4_6 w → Env →
 run1 Tryz.prog Z (Instr.indexAt 51 x0 t3_2) w fun t16_7 w =>
 run1 Tryz.prog Z (Instr.loadAt 31 t16_7) w fun t17_8 w =>
 run1 Tryz.prog Z (Builtin.len_ #[31] 3 #[t17_8]) w fun t18_9 w =>
 run1 Tryz.prog Z (binOp BinOp.lss 3 t4_6 t18_9) w fun t19_10 w =>
 CondV t19_10 (
 run1 Tryz.prog Z (Instr.indexAt 51 x0 t3_2) w fun t24_11 w =>
 run1 Tryz.prog Z (Instr.loadAt 31 t24_11) w fun t25_12 w =>
 run1 Tryz.prog Z (binOp BinOp.sub 3 (Value.int IntKind.i64 (-1000000)) t3_2) w fun t28_13 w =>
 run1 Tryz.prog Z (Instr.build 33 #[(7, t28_13)]) w fun t29_14 w =>
 run1 Tryz.prog Z (Instr.indexAt 31 t25_12 t4_6) w fun t30_15 w =>
 run0 Tryz.prog Z (Instr.storeAt 33 t30_15 t29_14) w fun w =>
 run1 Tryz.prog Z (binOp BinOp.add 3 t4_6 (Value.int IntKind.i64 1)) w fun t21_16 w =>
 ∃ n_5, n_5 < m_5 ∧ J_5 n_5 t21_16 w) (
 run1 Tryz.prog Z (binOp BinOp.add 3 t3_2 (Value.int IntKind.i64 1)) w fun t12_17 w =>
 ∃ n_1, n_1 < m_1 ∧ J_1 n_1 t12_17 w)) (
 CallV Tryz.prog Z 116 #[x0, (Value.int IntKind.i64 1)] w fun t32_18 w =>
 CallV Tryz.prog Z 116 #[x0, (Value.int IntKind.i64 24)] w fun t34_19 w =>
 guardW (t32_18) true (fun k => k (t34_19) w) (fun t37_20 w =>
 run1 Tryz.prog Z (pickV t32_18 t37_20 (Value.bool false)) w fun t38_21 w =>
 Q t38_21 w) w)
noncomputable def f50.code : Code := match Tryz.f50.body with | some c => c | none => .skip
def f50.an : An := (.sq .leaf (.sq (.sq .leaf (.bl (.lp [3] [3, 4, 7, 8, 9, 10, 11, 12, 13, 14, 15, 16, 17, 18, 19, 20, 21, 22, 23, 24, 25, 26, 27, 28, 29, 30] (.sq (.sq .leaf (.cn .leaf .leaf)) (.sq (.bl (.sq .leaf (.bl (.lp [4] [4, 13, 14, 15, 16, 17, 18, 19, 20, 21, 22, 23, 24, 25, 26, 27, 28, 29, 30] (.sq (.sq .leaf (.cn .leaf .leaf)) (.sq (.bl .leaf) .leaf)))))) .leaf))))) (.sq .leaf (.sq .leaf (.sq .leaf .leaf)))))
theorem f50.body_eq : Tryz.f50.body = some f50.code := by kernel_rfl
theorem f50.shape (Z : List PanicEntry → World → Prop) (x0 : Value) (w : World) (Q : Value → World → Prop) : vc drawD Tryz.prog 39 Z [116] f50.an f50.code (fnQ Tryz.prog 39 Tryz.f50.results Q) (argEnv [x0]) w = f50.sh Z x0 w Q := by kernel_rfl
theorem f50.enters : ∀ f, f ∈ ([116] : List Nat) → Enters Tryz.prog f := by
 intro f hf
 simp only [List.mem_cons, List.not_mem_nil, or_false] at hf
 rcases hf with rfl
 · exact en116
theorem f50.calls {Z : List PanicEntry → World → Prop} {x0 : Value} {w : World} {Q : Value → World → Prop} (h : f50.sh Z x0 w Q) : CallV Tryz.prog Z 50 #[x0] w Q :=
 calls_of_vcn drawD_sound (Q := Q) (n := 39) (rs := Tryz.f50.results) (an := f50.an) (c := f50.code) (cal := [116]) (args := [x0]) Tryz.func50 (by kernel_rfl) rfl f50.body_eq follows (Nat.le_of_ble_eq_true (by kernel_rfl)) (enters_of_all f50.enters) ((f50.shape Z x0 w Q).mpr h)

def f51.sh (Z : List PanicEntry → World → Prop) (x0 : Value) (w : World) (Q : Value → World → Prop) : Prop :=
 ∃ J_1 : Nat → Value → World → Prop, (∃ m, J_1 m (Value.int IntKind.i64 0) w) ∧
 ∀ m_1, ∀ t3_2 : Value, ∀ w : World, J_1 m_1 t3_2 w → Env →
 run1 Tryz.prog Z (Builtin.len_ #[52] 3 #[x0]) w fun t9_3 w =>
 run1 Tryz.prog Z (binOp BinOp.lss 3 t3_2 t9_3) w fun t10_4 w =>
 CondV t10_4 (
 False) (
 CallV Tryz.prog Z 117 #[x0, (Value.int IntKind.i64 1)] w fun t33_5 w =>
 CallV Tryz.prog Z 117 #[x0, (Value.int IntKind.i64 24)] w fun t35_6 w =>
 guardW (t33_5) true (fun k => k (t35_6) w) (fun t38_7 w =>
 run1 Tryz.prog Z (pickV t33_5 t38_7 (Value.bool false)) w fun t39_8 w =>
 Q t39_8 w) w)
noncomputable def f51.code : Code := match Tryz.f51.body with | some c => c | none => .skip
def f51.an : An := (.sq .leaf (.sq (.sq .leaf (.bl (.lp [3] [3, 4, 7, 8, 9, 10, 11, 12, 13, 14, 15, 16, 17, 18, 19, 20, 21, 22, 23, 24, 25, 26, 27, 28, 29, 30, 31] (.sq (.sq .leaf (.cn .leaf .leaf)) .leaf)))) (.sq .leaf (.sq .leaf (.sq .leaf .leaf)))))
theorem f51.body_eq : Tryz.f51.body = some f51.code := by kernel_rfl
theorem f51.shape (Z : List PanicEntry → World → Prop) (x0 : Value) (w : World) (Q : Value → World → Prop) : vc drawD Tryz.prog 40 Z [117] f51.an f51.code (fnQ Tryz.prog 40 Tryz.f51.results Q) (argEnv [x0]) w = f51.sh Z x0 w Q := by kernel_rfl
theorem f51.enters : ∀ f, f ∈ ([117] : List Nat) → Enters Tryz.prog f := by
 intro f hf
 simp only [List.mem_cons, List.not_mem_nil, or_false] at hf
 rcases hf with rfl
 · exact en117
theorem f51.calls {Z : List PanicEntry → World → Prop} {x0 : Value} {w : World} {Q : Value → World → Prop} (h : f51.sh Z x0 w Q) : CallV Tryz.prog Z 51 #[x0] w Q :=
 calls_of_vcn drawD_sound (Q := Q) (n := 40) (rs := Tryz.f51.results) (an := f51.an) (c := f51.code) (cal := [117]) (args := [x0]) Tryz.func51 (by kernel_rfl) rfl f51.body_eq follows (Nat.le_of_ble_eq_true (by kernel_rfl)) (enters_of_all f51.enters) ((f51.shape Z x0 w Q).mpr h)

def f52.sh (Z : List PanicEntry → World → Prop) (x0 : Value) (w : World) (Q : Value → World → Prop) : Prop :=
 ∃ J_1 : Nat → Value → World → Prop, (∃ m, J_1 m (Value.int IntKind.i64 0) w) ∧
 ∀ m_1, ∀ t3_2 : Value, ∀ w : World, J_1 m_1 t3_2 w → Env →
 run1 Tryz.prog Z (Builtin.len_ #[53] 3 #[x0]) w fun t9_3 w =>
 run1 Tryz.prog Z (binOp BinOp.lss 3 t3_2 t9_3) w fun t10_4 w =>
 CondV t10_4 (
 False) (
 CallV Tryz.prog Z 118 #[x0, (Value.int IntKind.i64 1)] w fun t32_5 w =>
 CallV Tryz.prog Z 118 #[x0, (Value.int IntKind.i64 24)] w fun t34_6 w =>
 guardW (t32_5) true (fun k => k (t34_6) w) (fun t37_7 w =>
 run1 Tryz.prog Z (pickV t32_5 t37_7 (Value.bool false)) w fun t38_8 w =>
 Q t38_8 w) w)
noncomputable def f52.code : Code := match Tryz.f52.body with | some c => c | none => .skip
def f52.an : An := (.sq .leaf (.sq (.sq .leaf (.bl (.lp [3] [3, 4, 7, 8, 9, 10, 11, 12, 13, 14, 15, 16, 17, 18, 19, 20, 21, 22, 23, 24, 25, 26, 27, 28, 29, 30] (.sq (.sq .leaf (.cn .leaf .leaf)) .leaf)))) (.sq .leaf (.sq .leaf (.sq .leaf .leaf)))))
theorem f52.body_eq : Tryz.f52.body = some f52.code := by kernel_rfl
theorem f52.shape (Z : List PanicEntry → World → Prop) (x0 : Value) (w : World) (Q : Value → World → Prop) : vc drawD Tryz.prog 39 Z [118] f52.an f52.code (fnQ Tryz.prog 39 Tryz.f52.results Q) (argEnv [x0]) w = f52.sh Z x0 w Q := by kernel_rfl
theorem f52.enters : ∀ f, f ∈ ([118] : List Nat) → Enters Tryz.prog f := by
 intro f hf
 simp only [List.mem_cons, List.not_mem_nil, or_false] at hf
 rcases hf with rfl
 · exact en118
theorem f52.calls {Z : List PanicEntry → World → Prop} {x0 : Value} {w : World} {Q : Value → World → Prop} (h : f52.sh Z x0 w Q) : CallV Tryz.prog Z 52 #[x0] w Q :=
 calls_of_vcn drawD_sound (Q := Q) (n := 39) (rs := Tryz.f52.results) (an := f52.an) (c := f52.code) (cal := [118]) (args := [x0]) Tryz.func52 (by kernel_rfl) rfl f52.body_eq follows (Nat.le_of_ble_eq_true (by kernel_rfl)) (enters_of_all f52.enters) ((f52.shape Z x0 w Q).mpr h)

def f53.sh (Z : List PanicEntry → World → Prop) (x0 : Value) (w : World) (Q : Value → World → Prop) : Prop :=
 ∃ J_1 : Nat → Value → World → Prop, (∃ m, J_1 m (Value.int IntKind.i64 0) w) ∧
 ∀ m_1, ∀ t3_2 : Value, ∀ w : World, J_1 m_1 t3_2 w → Env →
 run1 Tryz.prog Z (Builtin.len_ #[54] 3 #[x0]) w fun t9_3 w =>
 run1 Tryz.prog Z (binOp BinOp.lss 3 t3_2 t9_3) w fun t10_4 w =>
 CondV t10_4 (
 False) (
 CallV Tryz.prog Z 119 #[x0, (Value.int IntKind.i64 1)] w fun t33_5 w =>
 CallV Tryz.prog Z 119 #[x0, (Value.int IntKind.i64 24)] w fun t35_6 w =>
 guardW (t33_5) true (fun k => k (t35_6) w) (fun t38_7 w =>
 run1 Tryz.prog Z (pickV t33_5 t38_7 (Value.bool false)) w fun t39_8 w =>
 Q t39_8 w) w)
noncomputable def f53.code : Code := match Tryz.f53.body with | some c => c | none => .skip
def f53.an : An := (.sq .leaf (.sq (.sq .leaf (.bl (.lp [3] [3, 4, 7, 8, 9, 10, 11, 12, 13, 14, 15, 16, 17, 18, 19, 20, 21, 22, 23, 24, 25, 26, 27, 28, 29, 30, 31] (.sq (.sq .leaf (.cn .leaf .leaf)) .leaf)))) (.sq .leaf (.sq .leaf (.sq .leaf .leaf)))))
theorem f53.body_eq : Tryz.f53.body = some f53.code := by kernel_rfl
theorem f53.shape (Z : List PanicEntry → World → Prop) (x0 : Value) (w : World) (Q : Value → World → Prop) : vc drawD Tryz.prog 40 Z [119] f53.an f53.code (fnQ Tryz.prog 40 Tryz.f53.results Q) (argEnv [x0]) w = f53.sh Z x0 w Q := by kernel_rfl
theorem f53.enters : ∀ f, f ∈ ([119] : List Nat) → Enters Tryz.prog f := by
 intro f hf
 simp only [List.mem_cons, List.not_mem_nil, or_false] at hf
 rcases hf with rfl
 · exact en119
theorem f53.calls {Z : List PanicEntry → World → Prop} {x0 : Value} {w : World} {Q : Value → World → Prop} (h : f53.sh Z x0 w Q) : CallV Tryz.prog Z 53 #[x0] w Q :=
 calls_of_vcn drawD_sound (Q := Q) (n := 40) (rs := Tryz.f53.results) (an := f53.an) (c := f53.code) (cal := [119]) (args := [x0]) Tryz.func53 (by kernel_rfl) rfl f53.body_eq follows (Nat.le_of_ble_eq_true (by kernel_rfl)) (enters_of_all f53.enters) ((f53.shape Z x0 w Q).mpr h)

def f54.sh (Z : List PanicEntry → World → Prop) (x0 : Value) (w : World) (Q : Value → World → Prop) : Prop :=
 ∃ J_1 : Nat → Value → World → Prop, (∃ m, J_1 m (Value.int IntKind.i64 0) w) ∧
 ∀ m_1, ∀ t3_2 : Value, ∀ w : World, J_1 m_1 t3_2 w → Env →
 run1 Tryz.prog Z (Builtin.len_ #[55] 3 #[x0]) w fun t9_3 w =>
 run1 Tryz.prog Z (binOp BinOp.lss 3 t3_2 t9_3) w fun t10_4 w =>
 CondV t10_4 (
 False) (
 CallV Tryz.prog Z 120 #[x0, (Value.int IntKind.i64 1)] w fun t32_5 w =>
 CallV Tryz.prog Z 120 #[x0, (Value.int IntKind.i64 24)] w fun t34_6 w =>
 guardW (t32_5) true (fun k => k (t34_6) w) (fun t37_7 w =>
 run1 Tryz.prog Z (pickV t32_5 t37_7 (Value.bool false)) w fun t38_8 w =>
 Q t38_8 w) w)
noncomputable def f54.code : Code := match Tryz.f54.body with | some c => c | none => .skip
def f54.an : An := (.sq .leaf (.sq (.sq .leaf (.bl (.lp [3] [3, 4, 7, 8, 9, 10, 11, 12, 13, 14, 15, 16, 17, 18, 19, 20, 21, 22, 23, 24, 25, 26, 27, 28, 29, 30] (.sq (.sq .leaf (.cn .leaf .leaf)) .leaf)))) (.sq .leaf (.sq .leaf (.sq .leaf .leaf)))))
theorem f54.body_eq : Tryz.f54.body = some f54.code := by kernel_rfl
theorem f54.shape (Z : List PanicEntry → World → Prop) (x0 : Value) (w : World) (Q : Value → World → Prop) : vc drawD Tryz.prog 39 Z [120] f54.an f54.code (fnQ Tryz.prog 39 Tryz.f54.results Q) (argEnv [x0]) w = f54.sh Z x0 w Q := by kernel_rfl
theorem f54.enters : ∀ f, f ∈ ([120] : List Nat) → Enters Tryz.prog f := by
 intro f hf
 simp only [List.mem_cons, List.not_mem_nil, or_false] at hf
 rcases hf with rfl
 · exact en120
theorem f54.calls {Z : List PanicEntry → World → Prop} {x0 : Value} {w : World} {Q : Value → World → Prop} (h : f54.sh Z x0 w Q) : CallV Tryz.prog Z 54 #[x0] w Q :=
 calls_of_vcn drawD_sound (Q := Q) (n := 39) (rs := Tryz.f54.results) (an := f54.an) (c := f54.code) (cal := [120]) (args := [x0]) Tryz.func54 (by kernel_rfl) rfl f54.body_eq follows (Nat.le_of_ble_eq_true (by kernel_rfl)) (enters_of_all f54.enters) ((f54.shape Z x0 w Q).mpr h)

def f55.sh (Z : List PanicEntry → World → Prop) (x0 : Value) (w : World) (Q : Value → World → Prop) : Prop :=
 ∃ J_1 : Nat → Value → World → Prop, (∃ m, J_1 m (Value.int IntKind.i64 0) w) ∧
 ∀ m_1, ∀ t3_2 : Value, ∀ w : World, J_1 m_1 t3_2 w → Env →
 run1 Tryz.prog Z (Builtin.len_ #[56] 3 #[x0]) w fun t9_3 w =>
 run1 Tryz.prog Z (binOp BinOp.lss 3 t3_2 t9_3) w fun t10_4 w =>
 CondV t10_4 (
 False) (
 CallV Tryz.prog Z 121 #[x0, (Value.int IntKind.i64 1)] w fun t33_5 w =>
 CallV Tryz.prog Z 121 #[x0, (Value.int IntKind.i64 24)] w fun t35_6 w =>
 guardW (t33_5) true (fun k => k (t35_6) w) (fun t38_7 w =>
 run1 Tryz.prog Z (pickV t33_5 t38_7 (Value.bool false)) w fun t39_8 w =>
 Q t39_8 w) w)
noncomputable def f55.code : Code := match Tryz.f55.body with | some c => c | none => .skip
def f55.an : An := (.sq .leaf (.sq (.sq .leaf (.bl (.lp [3] [3, 4, 7, 8, 9, 10, 11, 12, 13, 14, 15, 16, 17, 18, 19, 20, 21, 22, 23, 24, 25, 26, 27, 28, 29, 30, 31] (.sq (.sq .leaf (.cn .leaf .leaf)) .leaf)))) (.sq .leaf (.sq .leaf (.sq .leaf .leaf)))))
theorem f55.body_eq : Tryz.f55.body = some f55.code := by kernel_rfl
theorem f55.shape (Z : List PanicEntry → World → Prop) (x0 : Value) (w : World) (Q : Value → World → Prop) : vc drawD Tryz.prog 40 Z [121] f55.an f55.code (fnQ Tryz.prog 40 Tryz.f55.results Q) (argEnv [x0]) w = f55.sh Z x0 w Q := by kernel_rfl
theorem f55.enters : ∀ f, f ∈ ([121] : List Nat) → Enters Tryz.prog f := by
 intro f hf
 simp only [List.mem_cons, List.not_mem_nil, or_false] at hf
 rcases hf with rfl
 · exact en121
theorem f55.calls {Z : List PanicEntry → World → Prop} {x0 : Value} {w : World} {Q : Value → World → Prop} (h : f55.sh Z x0 w Q) : CallV Tryz.prog Z 55 #[x0] w Q :=
 calls_of_vcn drawD_sound (Q := Q) (n := 40) (rs := Tryz.f55.results) (an := f55.an) (c := f55.code) (cal := [121]) (args := [x0]) Tryz.func55 (by kernel_rfl) rfl f55.body_eq follows (Nat.le_of_ble_eq_true (by kernel_rfl)) (enters_of_all f55.enters) ((f55.shape Z x0 w Q).mpr h)

def f56.sh (Z : List PanicEntry → World → Prop) (x0 : Value) (w : World) (Q : Value → World → Prop) : Prop :=
 ∃ J_1 : Nat → Value → World → Prop, (∃ m, J_1 m (Value.int IntKind.i64 0) w) ∧
 ∀ m_1, ∀ t3_2 : Value, ∀ w : World, J_1 m_1 t3_2 w → Env →
 run1 Tryz.prog Z (Builtin.len_ #[57] 3 #[x0]) w fun t9_3 w =>
 run1 Tryz.prog Z (binOp BinOp.lss 3 t3_2 t9_3) w fun t10_4 w =>
 CondV t10_4 (
 False) (
 CallV Tryz.prog Z 122 #[x0, (Value.int IntKind.i64 1)] w fun t33_5 w =>
 CallV Tryz.prog Z 122 #[x0, (Value.int IntKind.i64 24)] w fun t35_6 w =>
 guardW (t33_5) true (fun k => k (t35_6) w) (fun t38_7 w =>
 run1 Tryz.prog Z (pickV t33_5 t38_7 (Value.bool false)) w fun t39_8 w =>
 Q t39_8 w) w)
noncomputable def f56.code : Code := match Tryz.f56.body with | some c => c | none => .skip
def f56.an : An := (.sq .leaf (.sq (.sq .leaf (.bl (.lp [3] [3, 4, 7, 8, 9, 10, 11, 12, 13, 14, 15, 16, 17, 18, 19, 20, 21, 22, 23, 24, 25, 26, 27, 28, 29, 30, 31] (.sq (.sq .leaf (.cn .leaf .leaf)) .leaf)))) (.sq .leaf (.sq .leaf (.sq .leaf .leaf)))))
theorem f56.body_eq : Tryz.f56.body = some f56.code := by kernel_rfl
theorem f56.shape (Z : List PanicEntry → World → Prop) (x0 : Value) (w : World) (Q : Value → World → Prop) : vc drawD Tryz.prog 40 Z [122] f56.an f56.code (fnQ Tryz.prog 40 Tryz.f56.results Q) (argEnv [x0]) w = f56.sh Z x0 w Q := by kernel_rfl
theorem f56.enters : ∀ f, f ∈ ([122] : List Nat) → Enters Tryz.prog f := by
 intro f hf
 simp only [List.mem_cons, List.not_mem_nil, or_false] at hf
 rcases hf with rfl
 · exact en122
theorem f56.calls {Z : List PanicEntry → World → Prop} {x0 : Value} {w : World} {Q : Value → World → Prop} (h : f56.sh Z x0 w Q) : CallV Tryz.prog Z 56 #[x0] w Q :=
 calls_of_vcn drawD_sound (Q := Q) (n := 40) (rs := Tryz.f56.results) (an := f56.an) (c := f56.code) (cal := [122]) (args := [x0]) Tryz.func56 (by kernel_rfl) rfl f56.body_eq follows (Nat.le_of_ble_eq_true (by kernel_rfl)) (enters_of_all f56.enters) ((f56.shape Z x0 w Q).mpr h)

def f57.sh (Z : List PanicEntry → World → Prop) (x0 : Value) (w : World) (Q : Value → World → Prop) : Prop :=
 ∃ J_1 : Nat → Value → World → Prop, (∃ m, J_1 m (Value.int IntKind.i64 0) w) ∧
 ∀ m_1, ∀ t3_2 : Value, ∀ w : World, J_1 m_1 t3_2 w → Env →
 run1 Tryz.prog Z (Builtin.len_ #[58] 3 #[x0]) w fun t9_3 w =>
 run1 Tryz.prog Z (binOp BinOp.lss 3 t3_2 t9_3) w fun t10_4 w =>
 CondV t10_4 (
 False) (
 CallV Tryz.prog Z 123 #[x0, (Value.int IntKind.i64 1)] w fun t32_5 w =>
 CallV Tryz.prog Z 123 #[x0, (Value.int IntKind.i64 24)] w fun t34_6 w =>
 guardW (t32_5) true (fun k => k (t34_6) w) (fun t37_7 w =>
 run1 Tryz.prog Z (pickV t32_5 t37_7 (Value.bool false)) w fun t38_8 w =>
 Q t38_8 w) w)
noncomputable def f57.code : Code := match Tryz.f57.body with | some c => c | none => .skip
def f57.an : An := (.sq .leaf (.sq (.sq .leaf (.bl (.lp [3] [3, 4, 7, 8, 9, 10, 11, 12, 13, 14, 15, 16, 17, 18, 19, 20, 21, 22, 23, 24, 25, 26, 27, 28, 29, 30] (.sq (.sq .leaf (.cn .leaf .leaf)) .leaf)))) (.sq .leaf (.sq .leaf (.sq .leaf .leaf)))))
theorem f57.body_eq : Tryz.f57.body = some f57.code := by kernel_rfl
theorem f57.shape (Z : List PanicEntry → World → Prop) (x0 : Value) (w : World) (Q : Value → World → Prop) : vc drawD Tryz.prog 39 Z [123] f57.an f57.code (fnQ Tryz.prog 39 Tryz.f57.results Q) (argEnv [x0]) w = f57.sh Z x0 w Q := by kernel_rfl
theorem f57.enters : ∀ f, f ∈ ([123] : List Nat) → Enters Tryz.prog f := by
 intro f hf
 simp only [List.mem_cons, List.not_mem_nil, or_false] at hf
 rcases hf with rfl
 · exact en123
theorem f57.calls {Z : List PanicEntry → World → Prop} {x0 : Value} {w : World} {Q : Value → World → Prop} (h : f57.sh Z x0 w Q) : CallV Tryz.prog Z 57 #[x0] w Q :=
 calls_of_vcn drawD_sound (Q := Q) (n := 39) (rs := Tryz.f57.results) (an := f57.an) (c := f57.code) (cal := [123]) (args := [x0]) Tryz.func57 (by kernel_rfl) rfl f57.body_eq follows (Nat.le_of_ble_eq_true (by kernel_rfl)) (enters_of_all f57.enters) ((f57.shape Z x0 w Q).mpr h)

def f58.sh (Z : List PanicEntry → World → Prop) (x0 : Value) (w : World) (Q : Value → World → Prop) : Prop :=
 ∃ J_1 : Nat → Value → World → Prop, (∃ m, J_1 m (Value.int IntKind.i64 0) w) ∧
 ∀ m_1, ∀ t3_2 : Value, ∀ w : World, J_1 m_1 t3_2 w → Env →
 run1 Tryz.prog Z (Builtin.len_ #[59] 3 #[x0]) w fun t9_3 w =>
 run1 Tryz.prog Z (binOp BinOp.lss 3 t3_2 t9_3) w fun t10_4 w =>
 CondV t10_4 (
 False) (
 CallV Tryz.prog Z 124 #[x0, (Value.int IntKind.i64 1)] w fun t34_5 w =>
 CallV Tryz.prog Z 124 #[x0, (Value.int IntKind.i64 24)] w fun t36_6 w =>
 guardW (t34_5) true (fun k => k (t36_6) w) (fun t39_7 w =>
 run1 Tryz.prog Z (pickV t34_5 t39_7 (Value.bool false)) w fun t40_8 w =>
 Q t40_8 w) w)
noncomputable def f58.code : Code := match Tryz.f58.body with | some c => c | none => .skip
def f58.an : An := (.sq .leaf (.sq (.sq .leaf (.bl (.lp [3] [3, 4, 7, 8, 9, 10, 11, 12, 13, 14, 15, 16, 17, 18, 19, 20, 21, 22, 23, 24, 25, 26, 27, 28, 29, 30, 31, 32] (.sq (.sq .leaf (.cn .leaf .leaf)) .leaf)))) (.sq .leaf (.sq .leaf (.sq .leaf .leaf)))))
theorem f58.body_eq : Tryz.f58.body = some f58.code := by kernel_rfl
theorem f58.shape (Z : List PanicEntry → World → Prop) (x0 : Value) (w : World) (Q : Value → World → Prop) : vc drawD Tryz.prog 41 Z [124] f58.an f58.code (fnQ Tryz.prog 41 Tryz.f58.results Q) (argEnv [x0]) w = f58.sh Z x0 w Q := by kernel_rfl
theorem f58.enters : ∀ f, f ∈ ([124] : List Nat) → Enters Tryz.prog f := by
 intro f hf
 simp only [List.mem_cons, List.not_mem_nil, or_false] at hf
 rcases hf with rfl
 · exact en124
theorem f58.calls {Z : List PanicEntry → World → Prop} {x0 : Value} {w : World} {Q : Value → World → Prop} (h : f58.sh Z x0 w Q) : CallV Tryz.prog Z 58 #[x0] w Q :=
 calls_of_vcn drawD_sound (Q := Q) (n := 41) (rs := Tryz.f58.results) (an := f58.an) (c := f58.code) (cal := [124]) (args := [x0]) Tryz.func58 (by kernel_rfl) rfl f58.body_eq follows (Nat.le_of_ble_eq_true (by kernel_rfl)) (enters_of_all f58.enters) ((f58.shape Z x0 w Q).mpr h)

def f59.sh (Z : List PanicEntry → World → Prop) (x0 : Value) (w : World) (Q : Value → World → Prop) : Prop :=
 ∃ J_1 : Nat → Value → World → Prop, (∃ m, J_1 m (Value.int IntKind.i64 0) w) ∧
 ∀ m_1, ∀ t3_2 : Value, ∀ w : World, J_1 m_1 t3_2 w → Env →
 run1 Tryz.prog Z (Builtin.len_ #[60] 3 #[x0]) w fun t9_3 w =>
 run1 Tryz.prog Z (binOp BinOp.lss 3 t3_2 t9_3) w fun t10_4 w =>
 CondV t10_4 (
 False) (
 CallV Tryz.prog Z 125 #[x0, (Value.int IntKind.i64 1)] w fun t32_5 w =>
 CallV Tryz.prog Z 125 #[x0, (Value.int IntKind.i64 24)] w fun t34_6 w =>
 guardW (t32_5) true (fun k => k (t34_6) w) (fun t37_7 w =>
 run1 Tryz.prog Z (pickV t32_5 t37_7 (Value.bool false)) w fun t38_8 w =>
 Q t38_8 w) w)
noncomputable def f59.code : Code := match Tryz.f59.body with | some c => c | none => .skip
def f59.an : An := (.sq .leaf (.sq (.sq .leaf (.bl (.lp [3] [3, 4, 7, 8, 9, 10, 11, 12, 13, 14, 15, 16, 17, 18, 19, 20, 21, 22, 23, 24, 25, 26, 27, 28, 29, 30] (.sq (.sq .leaf (.cn .leaf .leaf)) .leaf)))) (.sq .leaf (.sq .leaf (.sq .leaf .leaf)))))
theorem f59.body_eq : Tryz.f59.body = some f59.code := by kernel_rfl
theorem f59.shape (Z : List PanicEntry → World → Prop) (x0 : Value) (w : World) (Q : Value → World → Prop) : vc drawD Tryz.prog 39 Z [125] f59.an f59.code (fnQ Tryz.prog 39 Tryz.f59.results Q) (argEnv [x0]) w = f59.sh Z x0 w Q := by kernel_rfl
theorem f59.enters : ∀ f, f ∈ ([125] : List Nat) → Enters Tryz.prog f := by
 intro f hf
 simp only [List.mem_cons, List.not_mem_nil, or_false] at hf
 rcases hf with rfl
 · exact en125
theorem f59.calls {Z : List PanicEntry → World → Prop} {x0 : Value} {w : World} {Q : Value → World → Prop} (h : f59.sh Z x0 w Q) : CallV Tryz.prog Z 59 #[x0] w Q :=
 calls_of_vcn drawD_sound (Q := Q) (n := 39) (rs := Tryz.f59.results) (an := f59.an) (c := f59.code) (cal := [125]) (args := [x0]) Tryz.func59 (by kernel_rfl) rfl f59.body_eq follows (Nat.le_of_ble_eq_true (by kernel_rfl)) (enters_of_all f59.enters) ((f59.shape Z x0 w Q).mpr h)

def f60.sh (Z : List PanicEntry → World → Prop) (x0 : Value) (w : World) (Q : Value → World → Prop) : Prop :=
 ∃ J_1 : Nat → Value → World → Prop, (∃ m, J_1 m (Value.int IntKind.i64 0) w) ∧
 ∀ m_1, ∀ t3_2 : Value, ∀ w : World, J_1 m_1 t3_2 w → Env →
 run1 Tryz.prog Z (Builtin.len_ #[61] 3 #[x0]) w fun t9_3 w =>
 run1 Tryz.prog Z (binOp BinOp.lss 3 t3_2 t9_3) w fun t10_4 w =>
 CondV t10_4 (
 False) (
 CallV Tryz.prog Z 126 #[x0, (Value.int IntKind.i64 1)] w fun t33_5 w =>
 CallV Tryz.prog Z 126 #[x0, (Value.int IntKind.i64 24)] w fun t35_6 w =>
 guardW (t33_5) true (fun k => k (t35_6) w) (fun t38_7 w =>
 run1 Tryz.prog Z (pickV t33_5 t38_7 (Value.bool false)) w fun t39_8 w =>
 Q t39_8 w) w)
noncomputable def f60.code : Code := match Tryz.f60.body with | some c => c | none => .skip
def f60.an : An := (.sq .leaf (.sq (.sq .leaf (.bl (.lp [3] [3, 4, 7, 8, 9, 10, 11, 12, 13, 14, 15, 16, 17, 18, 19, 20, 21, 22, 23, 24, 25, 26, 27, 28, 29, 30, 31] (.sq (.sq .leaf (.cn .leaf .leaf)) .leaf)))) (.sq .leaf (.sq .leaf (.sq .leaf .leaf)))))
theorem f60.body_eq : Tryz.f60.body = some f60.code := by kernel_rfl
theorem f60.shape (Z : List PanicEntry → World → Prop) (x0 : Value) (w : World) (Q : Value → World → Prop) : vc drawD Tryz.prog 40 Z [126] f60.an f60.code (fnQ Tryz.prog 40 Tryz.f60.results Q) (argEnv [x0]) w = f60.sh Z x0 w Q := by kernel_rfl
theorem f60.enters : ∀ f, f ∈ ([126] : List Nat) → Enters Tryz.prog f := by
 intro f hf
 simp only [List.mem_cons, List.not_mem_nil, or_false] at hf
 rcases hf with rfl
 · exact en126
theorem f60.calls {Z : List PanicEntry → World → Prop} {x0 : Value} {w : World} {Q : Value → World → Prop} (h : f60.sh Z x0 w Q) : CallV Tryz.prog Z 60 #[x0] w Q :=
 calls_of_vcn drawD_sound (Q := Q) (n := 40) (rs := Tryz.f60.results) (an := f60.an) (c := f60.code) (cal := [126]) (args := [x0]) Tryz.func60 (by kernel_rfl) rfl f60.body_eq follows (Nat.le_of_ble_eq_true (by kernel_rfl)) (enters_of_all f60.enters) ((f60.shape Z x0 w Q).mpr h)

def f61.sh (Z : List PanicEntry → World → Prop) (x0 : Value) (w : World) (Q : Value → World → Prop) : Prop :=
 ∃ J_1 : Nat → Value → World → Prop, (∃ m, J_1 m (Value.int IntKind.i64 0) w) ∧
 ∀ m_1, ∀ t3_2 : Value, ∀ w : World, J_1 m_1 t3_2 w → Env →
 run1 Tryz.prog Z (Builtin.len_ #[62] 3 #[x0]) w fun t9_3 w =>
 run1 Tryz.prog Z (binOp BinOp.lss 3 t3_2 t9_3) w fun t10_4 w =>
 CondV t10_4 (
 False) (
 CallV Tryz.prog Z 127 #[x0, (Value.int IntKind.i64 1)] w fun t32_5 w =>
 CallV Tryz.prog Z 127 #[x0, (Value.int IntKind.i64 24)] w fun t34_6 w =>
 guardW (t32_5) true (fun k => k (t34_6) w) (fun t37_7 w =>
 run1 Tryz.prog Z (pickV t32_5 t37_7 (Value.bool false)) w fun t38_8 w =>
 Q t38_8 w) w)
noncomputable def f61.code : Code := match Tryz.f61.body with | some c => c | none => .skip
def f61.an : An := (.sq .leaf (.sq (.sq .leaf (.bl (.lp [3] [3, 4, 7, 8, 9, 10, 11, 12, 13, 14, 15, 16, 17, 18, 19, 20, 21, 22, 23, 24, 25, 26, 27, 28, 29, 30] (.sq (.sq .leaf (.cn .leaf .leaf)) .leaf)))) (.sq .leaf (.sq .leaf (.sq .leaf .leaf)))))
theorem f61.body_eq : Tryz.f61.body = some f61.code := by kernel_rfl
theorem f61.shape (Z : List PanicEntry → World → Prop) (x0 : Value) (w : World) (Q : Value → World → Prop) : vc drawD Tryz.prog 39 Z [127] f61.an f61.code (fnQ Tryz.prog 39 Tryz.f61.results Q) (argEnv [x0]) w = f61.sh Z x0 w Q := by kernel_rfl
theorem f61.enters : ∀ f, f ∈ ([127] : List Nat) → Enters Tryz.prog f := by
 intro f hf
 simp only [List.mem_cons, List.not_mem_nil, or_false] at hf
 rcases hf with rfl
 · exact en127
theorem f61.calls {Z : List PanicEntry → World → Prop} {x0 : Value} {w : World} {Q : Value → World → Prop} (h : f61.sh Z x0 w Q) : CallV Tryz.prog Z 61 #[x0] w Q :=
 calls_of_vcn drawD_sound (Q := Q) (n := 39) (rs := Tryz.f61.results) (an := f61.an) (c := f61.code) (cal := [127]) (args := [x0]) Tryz.func61 (by kernel_rfl) rfl f61.body_eq follows (Nat.le_of_ble_eq_true (by kernel_rfl)) (enters_of_all f61.enters) ((f61.shape Z x0 w Q).mpr h)

def f62.sh (Z : List PanicEntry → World → Prop) (x0 : Value) (w : World) (Q : Value → World → Prop) : Prop :=
 ∃ J_1 : Nat → Value → World → Prop, (∃ m, J_1 m (Value.int IntKind.i64 0) w) ∧
 ∀ m_1, ∀ t3_2 : Value, ∀ w : World, J_1 m_1 t3_2 w → Env →
 run1 Tryz.prog Z (Builtin.len_ #[63] 3 #[x0]) w fun t9_3 w =>
 run1 Tryz.prog Z (binOp BinOp.lss 3 t3_2 t9_3) w fun t10_4 w =>
 CondV t10_4 (
 False) (
 CallV Tryz.prog Z 128 #[x0, (Value.int IntKind.i64 1)] w fun t34_5 w =>
 CallV Tryz.prog Z 128 #[x0, (Value.int IntKind.i64 24)] w fun t36_6 w =>
 guardW (t34_5) true (fun k => k (t36_6) w) (fun t39_7 w =>
 run1 Tryz.prog Z (pickV t34_5 t39_7 (Value.bool false)) w fun t40_8 w =>
 Q t40_8 w) w)
noncomputable def f62.code : Code := match Tryz.f62.body with | some c => c | none => .skip
def f62.an : An := (.sq .leaf (.sq (.sq .leaf (.bl (.lp [3] [3, 4, 7, 8, 9, 10, 11, 12, 13, 14, 15, 16, 17, 18, 19, 20, 21, 22, 23, 24, 25, 26, 27, 28, 29, 30, 31, 32] (.sq (.sq .leaf (.cn .leaf .leaf)) .leaf)))) (.sq .leaf (.sq .leaf (.sq .leaf .leaf)))))
theorem f62.body_eq : Tryz.f62.body = some f62.code := by kernel_rfl
theorem f62.shape (Z : List PanicEntry → World → Prop) (x0 : Value) (w : World) (Q : Value → World → Prop) : vc drawD Tryz.prog 41 Z [128] f62.an f62.code (fnQ Tryz.prog 41 Tryz.f62.results Q) (argEnv [x0]) w = f62.sh Z x0 w Q := by kernel_rfl
theorem f62.enters : ∀ f, f ∈ ([128] : List Nat) → Enters Tryz.prog f := by
 intro f hf
 simp only [List.mem_cons, List.not_mem_nil, or_false] at hf
 rcases hf with rfl
 · exact en128
theorem f62.calls {Z : List PanicEntry → World → Prop} {x0 : Value} {w : World} {Q : Value → World → Prop} (h : f62.sh Z x0 w Q) : CallV Tryz.prog Z 62 #[x0] w Q :=
 calls_of_vcn drawD_sound (Q := Q) (n := 41) (rs := Tryz.f62.results) (an := f62.an) (c := f62.code) (cal := [128]) (args := [x0]) Tryz.func62 (by kernel_rfl) rfl f62.body_eq follows (Nat.le_of_ble_eq_true (by kernel_rfl)) (enters_of_all f62.enters) ((f62.shape Z x0 w Q).mpr h)

def f63.sh (Z : List PanicEntry → World → Prop) (x0 : Value) (w : World) (Q : Value → World → Prop) : Prop :=
 ∃ J_1 : Nat → Value → World → Prop, (∃ m, J_1 m (Value.int IntKind.i64 0) w) ∧
 ∀ m_1, ∀ t3_2 : Value, ∀ w : World, J_1 m_1 t3_2 w → Env →
 run1 Tryz.prog Z (Builtin.len_ #[64] 3 #[x0]) w fun t9_3 w =>
 run1 Tryz.prog Z (binOp BinOp.lss 3 t3_2 t9_3) w fun t10_4 w =>
 CondV t10_4 (
 False) (
 CallV Tryz.prog Z 129 #[x0, (Value.int IntKind.i64 1)] w fun t32_5 w =>
 CallV Tryz.prog Z 129 #[x0, (Value.int IntKind.i64 24)] w fun t34_6 w =>
 guardW (t32_5) true (fun k => k (t34_6) w) (fun t37_7 w =>
 run1 Tryz.prog Z (pickV t32_5 t37_7 (Value.bool false)) w fun t38_8 w =>
 Q t38_8 w) w)
noncomputable def f63.code : Code := match Tryz.f63.body with | some c => c | none => .skip
def f63.an : An := (.sq .leaf (.sq (.sq .leaf (.bl (.lp [3] [3, 4, 7, 8, 9, 10, 11, 12, 13, 14, 15, 16, 17, 18, 19, 20, 21, 22, 23, 24, 25, 26, 27, 28, 29, 30] (.sq (.sq .leaf (.cn .leaf .leaf)) .leaf)))) (.sq .leaf (.sq .leaf (.sq .leaf .leaf)))))
theorem f63.body_eq : Tryz.f63.body = some f63.code := by kernel_rfl
theorem f63.shape (Z : List PanicEntry → World → Prop) (x0 : Value) (w : World) (Q : Value → World → Prop) : vc drawD Tryz.prog 39 Z [129] f63.an f63.code (fnQ Tryz.prog 39 Tryz.f63.results Q) (argEnv [x0]) w = f63.sh Z x0 w Q := by kernel_rfl
theorem f63.enters : ∀ f, f ∈ ([129] : List Nat) → Enters Tryz.prog f := by
 intro f hf
 simp only [List.mem_cons, List.not_mem_nil, or_false] at hf
 rcases hf with rfl
 · exact en129
theorem f63.calls {Z : List PanicEntry → World → Prop} {x0 : Value} {w : World} {Q : Value → World → Prop} (h : f63.sh Z x0 w Q) : CallV Tryz.prog Z 63 #[x0] w Q :=
 calls_of_vcn drawD_sound (Q := Q) (n := 39) (rs := Tryz.f63.results) (an := f63.an) (c := f63.code) (cal := [129]) (args := [x0]) Tryz.func63 (by kernel_rfl) rfl f63.body_eq follows (Nat.le_of_ble_eq_true (by kernel_rfl)) (enters_of_all f63.enters) ((f63.shape Z x0 w Q).mpr h)

def f64.sh (Z : List PanicEntry → World → Prop) (x0 : Value) (w : World) (Q : Value → World → Prop) : Prop :=
 ∃ J_1 : Nat → Value → World → Prop, (∃ m, J_1 m (Value.int IntKind.i64 0) w) ∧
 ∀ m_1, ∀ t3_2 : Value, ∀ w : World, J_1 m_1 t3_2 w → Env →
 run1 Tryz.prog Z (Builtin.len_ #[65] 3 #[x0]) w fun t9_3 w =>
 run1 Tryz.prog Z (binOp BinOp.lss 3 t3_2 t9_3) w fun t10_4 w =>
 CondV t10_4 (
 False) (
 CallV Tryz.prog Z 130 #[x0, (Value.int IntKind.i64 1)] w fun t33_5 w =>
 CallV Tryz.prog Z 130 #[x0, (Value.int IntKind.i64 24)] w fun t35_6 w =>
 guardW (t33_5) true (fun k => k (t35_6) w) (fun t38_7 w =>
 run1 Tryz.prog Z (pickV t33_5 t38_7 (Value.bool false)) w fun t39_8 w =>
 Q t39_8 w) w)
noncomputable def f64.code : Code := match Tryz.f64.body with | some c => c | none => .skip
def f64.an : An := (.sq .leaf (.sq (.sq .leaf (.bl (.lp [3] [3, 4, 7, 8, 9, 10, 11, 12, 13, 14, 15, 16, 17, 18, 19, 20, 21, 22, 23, 24, 25, 26, 27, 28, 29, 30, 31] (.sq (.sq .leaf (.cn .leaf .leaf)) .leaf)))) (.sq .leaf (.sq .leaf (.sq .leaf .leaf)))))
theorem f64.body_eq : Tryz.f64.body = some f64.code := by kernel_rfl
theorem f64.shape (Z : List PanicEntry → World → Prop) (x0 : Value) (w : World) (Q : Value → World → Prop) : vc drawD Tryz.prog 40 Z [130] f64.an f64.code (fnQ Tryz.prog 40 Tryz.f64.results Q) (argEnv [x0]) w = f64.sh Z x0 w Q := by kernel_rfl
theorem f64.enters : ∀ f, f ∈ ([130] : List Nat) → Enters Tryz.prog f := by
 intro f hf
 simp only [List.mem_cons, List.not_mem_nil, or_false] at hf
 rcases hf with rfl
 · exact en130
theorem f64.calls {Z : List PanicEntry → World → Prop} {x0 : Value} {w : World} {Q : Value → World → Prop} (h : f64.sh Z x0 w Q) : CallV Tryz.prog Z 64 #[x0] w Q :=
 calls_of_vcn drawD_sound (Q := Q) (n := 40) (rs := Tryz.f64.results) (an := f64.an) (c := f64.code) (cal := [130]) (args := [x0]) Tryz.func64 (by kernel_rfl) rfl f64.body_eq follows (Nat.le_of_ble_eq_true (by kernel_rfl)) (enters_of_all f64.enters) ((f64.shape Z x0 w Q).mpr h)

def f66.sh (Z : List PanicEntry → World → Prop) (x0 : Value) (w : World) (Q : Value → World → Prop) : Prop :=
 run1 Tryz.prog Z (Builtin.append_ #[28, 28] 28 #[(Value.slice none 0 0), x0]) w fun t4_1 w =>
 run1 Tryz.prog Z (Instr.build 227 #[(0, (Value.bool true)), (1, t4_1)]) w fun t5_2 w =>
 run1 Tryz.prog Z (Instr.box 227 t5_2) w fun t6_3 w =>
 Q t6_3 w
noncomputable def f66.code : Code := match Tryz.f66.body with | some c => c | none => .skip
def f66.an : An := (.sq .leaf (.sq .leaf .leaf))
theorem f66.body_eq : Tryz.f66.body = some f66.code := by kernel_rfl
theorem f66.shape (Z : List PanicEntry → World → Prop) (x0 : Value) (w : World) (Q : Value → World → Prop) : vc drawD Tryz.prog 7 Z [] f66.an f66.code (fnQ Tryz.prog 7 Tryz.f66.results Q) (argEnv [x0]) w = f66.sh Z x0 w Q := by kernel_rfl
theorem f66.enters : ∀ f, f ∈ ([] : List Nat) → Enters Tryz.prog f := by
 intro f hf
 cases hf
theorem f66.calls {Z : List PanicEntry → World → Prop} {x0 : Value} {w : World} {Q : Value → World → Prop} (h : f66.sh Z x0 w Q) : CallV Tryz.prog Z 66 #[x0] w Q :=
 calls_of_vcn drawD_sound (Q := Q) (n := 7) (rs := Tryz.f66.results) (an := f66.an) (c := f66.code) (cal := []) (args := [x0]) Tryz.func66 (by kernel_rfl) rfl f66.body_eq follows (Nat.le_of_ble_eq_true (by kernel_rfl)) (enters_of_all f66.enters) ((f66.shape Z x0 w Q).mpr h)

def f67.sh (Z : List PanicEntry → World → Prop) (x0 : Value) (w : World) (Q : Value → World → Prop) : Prop :=
 CallV Tryz.prog Z 133 #[x0, (Value.int IntKind.i64 4)] w fun t4_1 w =>
 run1 Tryz.prog Z (convert 142 22 t4_1) w fun t5_2 w =>
 Q t5_2 w
noncomputable def f67.code : Code := match Tryz.f67.body with | some c => c | none => .skip
def f67.an : An := (.sq .leaf (.sq .leaf .leaf))
theorem f67.body_eq : Tryz.f67.body = some f67.code := by kernel_rfl
theorem f67.shape (Z : List PanicEntry → World → Prop) (x0 : Value) (w : World) (Q : Value → World → Prop) : vc drawD Tryz.prog 6 Z [133] f67.an f67.code (fnQ Tryz.prog 6 Tryz.f67.results Q) (argEnv [x0]) w = f67.sh Z x0 w Q := by kernel_rfl
theorem f67.enters : ∀ f, f ∈ ([133] : List Nat) → Enters Tryz.prog f := by
 intro f hf
 simp only [List.mem_cons, List.not_mem_nil, or_false] at hf
 rcases hf with rfl
 · exact en133
theorem f67.calls {Z : List PanicEntry → World → Prop} {x0 : Value} {w : World} {Q : Value → World → Prop} (h : f67.sh Z x0 w Q) : CallV Tryz.prog Z 67 #[x0] w Q :=
 calls_of_vcn drawD_sound (Q := Q) (n := 6) (rs := Tryz.f67.results) (an := f67.an) (c := f67.code) (cal := [133]) (args := [x0]) Tryz.func67 (by kernel_rfl) rfl f67.body_eq follows (Nat.le_of_ble_eq_true (by kernel_rfl)) (enters_of_all f67.enters) ((f67.shape Z x0 w Q).mpr h)

def f68.sh (Z : List PanicEntry → World → Prop) (x0 : Value) (w : World) (Q : Value → World → Prop) : Prop :=
 CallV Tryz.prog Z 133 #[x0, (Value.int IntKind.i64 1)] w fun t4_1 w =>
 run1 Tryz.prog Z (convert 142 25 t4_1) w fun t5_2 w =>
 Q t5_2 w
noncomputable def f68.code : Code := match Tryz.f68.body with | some c => c | none => .skip
def f68.an : An := (.sq .leaf (.sq .leaf .leaf))
theorem f68.body_eq : Tryz.f68.body = some f68.code := by kernel_rfl
theorem f68.shape (Z : List PanicEntry → World → Prop) (x0 : Value) (w : World) (Q : Value → World → Prop) : vc drawD Tryz.prog 6 Z [133] f68.an f68.code (fnQ Tryz.prog 6 Tryz.f68.results Q) (argEnv [x0]) w = f68.sh Z x0 w Q := by kernel_rfl
theorem f68.enters : ∀ f, f ∈ ([133] : List Nat) → Enters Tryz.prog f := by
 intro f hf
 simp only [List.mem_cons, List.not_mem_nil, or_false] at hf
 rcases hf with rfl
 · exact en133
theorem f68.calls {Z : List PanicEntry → World → Prop} {x0 : Value} {w : World} {Q : Value → World → Prop} (h : f68.sh Z x0 w Q) : CallV Tryz.prog Z 68 #[x0] w Q :=
 calls_of_vcn drawD_sound (Q := Q) (n := 6) (rs := Tryz.f68.results) (an := f68.an) (c := f68.code) (cal := [133]) (args := [x0]) Tryz.func68 (by kernel_rfl) rfl f68.body_eq follows (Nat.le_of_ble_eq_true (by kernel_rfl)) (enters_of_all f68.enters) ((f68.shape Z x0 w Q).mpr h)

def f69.sh (Z : List PanicEntry → World → Prop) (x0 : Value) (w : World) (Q : Value → World → Prop) : Prop :=
 CallV Tryz.prog Z 133 #[x0, (Value.int IntKind.i64 8)] w fun t4_1 w =>
 run1 Tryz.prog Z (convert 142 2 t4_1) w fun t5_2 w =>
 Q t5_2 w
noncomputable def f69.code : Code := match Tryz.f69.body with | some c => c | none => .skip
def f69.an : An := (.sq .leaf (.sq .leaf .leaf))
theorem f69.body_eq : Tryz.f69.body = some f69.code := by kernel_rfl
theorem f69.shape (Z : List PanicEntry → World → Prop) (x0 : Value) (w : World) (Q : Value → World → Prop) : vc drawD Tryz.prog 6 Z [133] f69.an f69.code (fnQ Tryz.prog 6 Tryz.f69.results Q) (argEnv [x0]) w = f69.sh Z x0 w Q := by kernel_rfl
theorem f69.enters : ∀ f, f ∈ ([133] : List Nat) → Enters Tryz.prog f := by
 intro f hf
 simp only [List.mem_cons, List.not_mem_nil, or_false] at hf
 rcases hf with rfl
 · exact en133
theorem f69.calls {Z : List PanicEntry → World → Prop} {x0 : Value} {w : World} {Q : Value → World → Prop} (h : f69.sh Z x0 w Q) : CallV Tryz.prog Z 69 #[x0] w Q :=
 calls_of_vcn drawD_sound (Q := Q) (n := 6) (rs := Tryz.f69.results) (an := f69.an) (c := f69.code) (cal := [133]) (args := [x0]) Tryz.func69 (by kernel_rfl) rfl f69.body_eq follows (Nat.le_of_ble_eq_true (by kernel_rfl)) (enters_of_all f69.enters) ((f69.shape Z x0 w Q).mpr h)

end Go.Proofs.YtpdehbbkpekoiaaGreatDoor
