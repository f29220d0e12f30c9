import Derived.Test.YtoeamecdkimgaaaDoorShBase
set_option linter.unusedVariables false
namespace Go.Proofs.YtoeamecdkimgaaaDoor
open Go.Sh
/-! ### 2: gosem.cut.init -/
def f2.sh (Z : List PanicEntry → World → Prop) (w : World) (Q : Value → World → Prop) : Prop :=
  runX Tryd.prog Z (callFunc 1 #[]) w fun t0_1 w =>
  Q (Value.tuple #[]) w
noncomputable def f2.code : Code := match Tryd.f2.body with | some c => c | none => .skip
def f2.an : An := .leaf
theorem f2.body_eq : Tryd.f2.body = some f2.code := by kernel_rfl
theorem f2.shape (Z : List PanicEntry → World → Prop) (w : World) (Q : Value → World → Prop) : vc drawD Tryd.prog 1 Z [] f2.an f2.code (fnQ Tryd.prog 1 Tryd.f2.results Q) (argEnv []) w = f2.sh Z  w Q := by kernel_rfl
theorem f2.enters : ∀ f, f ∈ ([] : List Nat) → Enters Tryd.prog f := by
  intro f hf
  cases hf
theorem f2.calls {Z : List PanicEntry → World → Prop} {w : World} {Q : Value → World → Prop} (h : f2.sh Z  w Q) : CallV Tryd.prog Z 2 #[] w Q :=
  calls_of_vcn drawD_sound (Q := Q) (n := 1) (rs := Tryd.f2.results) (an := f2.an) (c := f2.code) (cal := []) (args := []) Tryd.func2 (by kernel_rfl) rfl f2.body_eq follows (Nat.le_of_ble_eq_true (by kernel_rfl)) (enters_of_all f2.enters) ((f2.shape Z  w Q).mpr h)

/-! ### 3: lagoon/lagoonlaw14.ChooseRight -/
def f3.sh (Z : List PanicEntry → World → Prop) (x0 : Value) (w : World) (Q : Value → World → Prop) : Prop :=
  run1 Tryd.prog Z (Instr.box 25 x0) w fun t1_1 w =>
  run1 Tryd.prog Z (Instr.fieldAt 25 t1_1 0) w fun t14_2 w =>
  run1 Tryd.prog Z (Instr.loadAt 22 t14_2) w fun t15_3 w =>
  CallV Tryd.prog Z 7 #[t15_3] w fun t16_4 w =>
  guardW (t16_4) false (fun k => run1 Tryd.prog Z (Instr.fieldAt 25 t1_1 1) w k) (fun t18_5 w =>
  guardW (t16_4) false (fun k => run1 Tryd.prog Z (Instr.loadAt 22 t18_5) w k) (fun t19_6 w =>
  guardW (t16_4) false (fun k => CallV Tryd.prog Z 7 #[t19_6] w k) (fun t20_7 w =>
  run1 Tryd.prog Z (pickV t16_4 (Value.bool true) t20_7) w fun t21_8 w =>
  CondV t21_8 (
    Q (Value.bool true) w) (
    CallV Tryd.prog Z 8 #[] w fun t22_9 w =>
    run1 Tryd.prog Z (Instr.build 30 #[]) w fun t23_10 w =>
    run1 Tryd.prog Z (Instr.alloc 30 true (.tuple #[])) w fun t4_11 w =>
    run0 Tryd.prog Z (Instr.storeAt 30 t4_11 t23_10) w fun w =>
    Drawn w fun w =>
    Read1 Tryd.prog (Instr.loadAt 30 t4_11) w fun t25_12 =>
    Pure1 Tryd.prog (Instr.fieldAt 25 t1_1 1) fun t26_13 =>
    Read1 Tryd.prog (Instr.loadAt 22 t26_13) w fun t27_14 =>
    Read1 Tryd.prog (Instr.loadAt 30 t4_11) w fun t29_15 =>
    Pure1 Tryd.prog (Instr.fieldAt 25 t1_1 0) fun t30_16 =>
    Read1 Tryd.prog (Instr.loadAt 22 t30_16) w fun t31_17 =>
    Pure1 Tryd.prog (Instr.fieldAt 25 t1_1 2) fun t32_18 =>
    Read1 Tryd.prog (Instr.loadAt 3 t32_18) w fun t33_19 =>
    Pure1 Tryd.prog (Instr.fieldAt 25 t1_1 3) fun t34_20 =>
    Read1 Tryd.prog (Instr.loadAt 3 t34_20) w fun t35_21 =>
    Pure1 Tryd.prog (Instr.fieldAt 25 t1_1 4) fun t36_22 =>
    Read1 Tryd.prog (Instr.loadAt 23 t36_22) w fun t37_23 =>
    (
    CallV Tryd.prog Z 10 #[t25_12, t27_14] w fun t28_24 w =>
      Still Tryd.prog (nx (Instr.loadAt 23 t36_22)) t37_23 w <|
      Still Tryd.prog (nx (Instr.loadAt 3 t34_20)) t35_21 w <|
      Still Tryd.prog (nx (Instr.loadAt 3 t32_18)) t33_19 w <|
      Still Tryd.prog (nx (Instr.loadAt 22 t30_16)) t31_17 w <|
      Still Tryd.prog (nx (Instr.loadAt 30 t4_11)) t29_15 w <|
    (
    CallV Tryd.prog Z 9 #[t28_24, t29_15, t31_17, t33_19, t35_21, t37_23] w fun t38_25 w =>
    Pure1 Tryd.prog (Instr.extract t38_25 0) fun t39_26 =>
    Pure1 Tryd.prog (Instr.extract t38_25 1) fun t40_27 =>
    run1 Tryd.prog Z (Instr.alloc 33 true (.tuple #[])) w fun t5_28 w =>
    run0 Tryd.prog Z (Instr.storeAt 33 t5_28 t39_26) w fun w =>
    run1 Tryd.prog Z (Instr.loadAt 30 t4_11) w fun t41_29 w =>
    run1 Tryd.prog Z (Instr.fieldAt 25 t1_1 0) w fun t42_30 w =>
    run1 Tryd.prog Z (Instr.loadAt 22 t42_30) w fun t43_31 w =>
    CallV Tryd.prog Z 11 #[t41_29, t43_31] w fun t44_32 w =>
    guardW (t44_32) true (fun k => run1 Tryd.prog Z (Instr.loadAt 30 t4_11) w k) (fun t46_33 w =>
    guardW (t44_32) true (fun k => run1 Tryd.prog Z (Instr.fieldAt 25 t1_1 1) w k) (fun t47_34 w =>
    guardW (t44_32) true (fun k => run1 Tryd.prog Z (Instr.loadAt 22 t47_34) w k) (fun t48_35 w =>
    guardW (t44_32) true (fun k => CallV Tryd.prog Z 11 #[t46_33, t48_35] w k) (fun t49_36 w =>
    run1 Tryd.prog Z (pickV t44_32 t49_36 (Value.bool false)) w fun t50_37 w =>
    guardW (t50_37) true (fun k => run1 Tryd.prog Z (Instr.fieldAt 25 t1_1 2) w k) (fun t52_38 w =>
    guardW (t50_37) true (fun k => run1 Tryd.prog Z (Instr.loadAt 3 t52_38) w k) (fun t53_39 w =>
    guardW (t50_37) true (fun k => run1 Tryd.prog Z (binOp BinOp.geq 3 t53_39 (Value.int IntKind.i64 0)) w k) (fun t54_40 w =>
    run1 Tryd.prog Z (pickV t50_37 t54_40 (Value.bool false)) w fun t55_41 w =>
    guardW (t55_41) true (fun k => run1 Tryd.prog Z (Instr.fieldAt 25 t1_1 2) w k) (fun t57_42 w =>
    guardW (t55_41) true (fun k => run1 Tryd.prog Z (Instr.loadAt 3 t57_42) w k) (fun t58_43 w =>
    guardW (t55_41) true (fun k => run1 Tryd.prog Z (Instr.fieldAt 25 t1_1 0) w k) (fun t59_44 w =>
    guardW (t55_41) true (fun k => run1 Tryd.prog Z (Instr.loadAt 22 t59_44) w k) (fun t60_45 w =>
    guardW (t55_41) true (fun k => run1 Tryd.prog Z (Builtin.len_ #[22] 3 #[t60_45]) w k) (fun t61_46 w =>
    guardW (t55_41) true (fun k => run1 Tryd.prog Z (binOp BinOp.leq 3 t58_43 t61_46) w k) (fun t62_47 w =>
    run1 Tryd.prog Z (pickV t55_41 t62_47 (Value.bool false)) w fun t63_48 w =>
    guardW (t63_48) true (fun k => run1 Tryd.prog Z (Instr.fieldAt 25 t1_1 3) w k) (fun t65_49 w =>
    guardW (t63_48) true (fun k => run1 Tryd.prog Z (Instr.loadAt 3 t65_49) w k) (fun t66_50 w =>
    guardW (t63_48) true (fun k => run1 Tryd.prog Z (binOp BinOp.geq 3 t66_50 (Value.int IntKind.i64 0)) w k) (fun t67_51 w =>
    run1 Tryd.prog Z (pickV t63_48 t67_51 (Value.bool false)) w fun t68_52 w =>
    run1 Tryd.prog Z (Op.unary UnOp.not t22_9) w fun t70_53 w =>
    guardW (t70_53) false (fun k => k (t68_52) w) (fun t72_54 w =>
    guardW (t70_53) false (fun k => run1 Tryd.prog Z (Op.unary UnOp.not t72_54) w k) (fun t73_55 w =>
    run1 Tryd.prog Z (pickV t70_53 (Value.bool true) t73_55) w fun t74_56 w =>
    CondV t74_56 (
      Q t22_9 w) (
      run1 Tryd.prog Z (eqOp BinOp.neq 34 false true t40_27 (Value.int IntKind.i64 0)) w fun t77_57 w =>
      CondV t77_57 (
        Q (Value.bool false) w) (
        run1 Tryd.prog Z (Instr.fieldAt 33 t5_28 0) w fun t78_58 w =>
        run1 Tryd.prog Z (Instr.loadAt 31 t78_58) w fun t79_59 w =>
        run1 Tryd.prog Z (eqOp BinOp.eql 31 false true t79_59 (Value.int IntKind.i8 4)) w fun t80_60 w =>
        guardW (t80_60) false (fun k => run1 Tryd.prog Z (Instr.fieldAt 25 t1_1 0) w k) (fun t82_61 w =>
        guardW (t80_60) false (fun k => run1 Tryd.prog Z (Instr.loadAt 22 t82_61) w k) (fun t83_62 w =>
        guardW (t80_60) false (fun k => run1 Tryd.prog Z (Instr.fieldAt 25 t1_1 1) w k) (fun t84_63 w =>
        guardW (t80_60) false (fun k => run1 Tryd.prog Z (Instr.loadAt 22 t84_63) w k) (fun t85_64 w =>
        guardW (t80_60) false (fun k => CallV Tryd.prog Z 12 #[t83_62, t85_64] w k) (fun t86_65 w =>
        guardW (t80_60) false (fun k => run1 Tryd.prog Z (Op.unary UnOp.not t86_65) w k) (fun t87_66 w =>
        run1 Tryd.prog Z (pickV t80_60 (Value.bool true) t87_66) w fun t88_67 w =>
        CondV t88_67 (
          Q (Value.bool true) w) (
          run1 Tryd.prog Z (Instr.fieldAt 33 t5_28 1) w fun t89_68 w =>
          run1 Tryd.prog Z (Instr.loadAt 30 t89_68) w fun t90_69 w =>
          run1 Tryd.prog Z (Instr.loadAt 30 t4_11) w fun t91_70 w =>
          run1 Tryd.prog Z (eqOp BinOp.eql 30 false false t90_69 t91_70) w fun t92_71 w =>
          ∃ J_72 : Nat → Value → Value → World → Prop, (∃ m, J_72 m t92_71 (Value.int IntKind.i64 0) w) ∧
            ∀ m_72, ∀ t8_73 : Value, ∀ t9_74 : Value, ∀ w : World, J_72 m_72 t8_73 t9_74 w → Env →
              run1 Tryd.prog Z (Instr.fieldAt 25 t1_1 1) w fun t94_75 w =>
              run1 Tryd.prog Z (Instr.loadAt 22 t94_75) w fun t95_76 w =>
              run1 Tryd.prog Z (Builtin.len_ #[22] 3 #[t95_76]) w fun t96_77 w =>
              run1 Tryd.prog Z (binOp BinOp.lss 3 t9_74 t96_77) w fun t97_78 w =>
              CondV t97_78 (
                Drawn w fun w =>
                guardV (t8_73) false (fun k => Pure1 Tryd.prog (Instr.fieldAt 25 t1_1 1) k) (fun t102_79 =>
                guardV (t8_73) false (fun k => Read1 Tryd.prog (Instr.loadAt 22 t102_79) w k) (fun t103_80 =>
                guardV (t8_73) false (fun k => k (t9_74)) (fun t104_81 =>
                guardV (t8_73) false (fun k => Pure1 Tryd.prog (Instr.indexAt 22 t103_80 t104_81) k) (fun t105_82 =>
                guardV (t8_73) false (fun k => Pure1 Tryd.prog (Instr.fieldAt 49 t105_82 0) k) (fun t106_83 =>
                guardV (t8_73) false (fun k => Read1 Tryd.prog (Instr.loadAt 30 t106_83) w k) (fun t107_84 =>
                guardV (t8_73) false (fun k => Pure1 Tryd.prog (Instr.fieldAt 33 t5_28 1) k) (fun t108_85 =>
                guardV (t8_73) false (fun k => Read1 Tryd.prog (Instr.loadAt 30 t108_85) w k) (fun t109_86 =>
                guardV (t8_73) false (fun k => Pure1 Tryd.prog (eqOp BinOp.eql 30 false false t107_84 t109_86) k) (fun t110_87 =>
                Pure1 Tryd.prog (pickV t8_73 (Value.bool true) t110_87) fun t111_88 =>
                run1 Tryd.prog Z (binOp BinOp.add 3 t9_74 (Value.int IntKind.i64 1)) w fun t99_89 w =>
                ∃ n_72, n_72 < m_72 ∧ J_72 n_72 t111_88 t99_89 w)))))))))) (
                run1 Tryd.prog Z (Op.unary UnOp.not t8_73) w fun t113_90 w =>
                CondV t113_90 (
                  Q (Value.bool true) w) (
                  run1 Tryd.prog Z (Instr.fieldAt 25 t1_1 1) w fun t114_91 w =>
                  run1 Tryd.prog Z (Instr.loadAt 22 t114_91) w fun t115_92 w =>
                  run1 Tryd.prog Z (Instr.fieldAt 33 t5_28 1) w fun t116_93 w =>
                  run1 Tryd.prog Z (Instr.loadAt 30 t116_93) w fun t117_94 w =>
                  CallV Tryd.prog Z 13 #[t115_92, t117_94] w fun t118_95 w =>
                  run1 Tryd.prog Z (Builtin.len_ #[22] 3 #[t118_95]) w fun t120_96 w =>
                  run1 Tryd.prog Z (Instr.fieldAt 25 t1_1 1) w fun t121_97 w =>
                  run1 Tryd.prog Z (Instr.loadAt 22 t121_97) w fun t122_98 w =>
                  run1 Tryd.prog Z (Builtin.len_ #[22] 3 #[t122_98]) w fun t123_99 w =>
                  run1 Tryd.prog Z (binOp BinOp.lss 3 t120_96 t123_99) w fun t124_100 w =>
                  Drawn w fun w =>
                  Pure1 Tryd.prog (Instr.fieldAt 25 t1_1 0) fun t125_101 =>
                  Read1 Tryd.prog (Instr.loadAt 22 t125_101) w fun t126_102 =>
                  Pure1 Tryd.prog (Instr.fieldAt 25 t1_1 0) fun t127_103 =>
                  Read1 Tryd.prog (Instr.loadAt 22 t127_103) w fun t128_104 =>
                  Pure1 Tryd.prog (Instr.fieldAt 33 t5_28 1) fun t129_105 =>
                  Read1 Tryd.prog (Instr.loadAt 30 t129_105) w fun t130_106 =>
                  CallV Tryd.prog Z 13 #[t128_104, t130_106] w fun t131_107 w =>
                    Still Tryd.prog (nx (Instr.loadAt 22 t125_101)) t126_102 w <|
                  Pure1 Tryd.prog (Builtin.len_ #[22] 3 #[t131_107]) fun t132_108 =>
                  Pure1 Tryd.prog (Instr.sliceAt 22 t126_102 (some t132_108) none none) fun t133_109 =>
                  CallV Tryd.prog Z 14 #[t118_95] w fun t135_110 w =>
                  run1 Tryd.prog Z (Builtin.append_ #[22, 22] 22 #[t135_110, t133_109]) w fun t137_111 w =>
                  ∀ j_112 : Value → World → Prop, (∀ t13_113 : Value, ∀ w : World, (Env →
                      ∀ j_114 : Value → World → Prop, (∀ t13_115 : Value, ∀ w : World, (Env →
                          run1 Tryd.prog Z (Instr.fieldAt 25 t1_1 0) w fun t146_116 w =>
                          run1 Tryd.prog Z (Instr.loadAt 22 t146_116) w fun t147_117 w =>
                          CallV Tryd.prog Z 15 #[t137_111, t147_117] w fun t148_118 w =>
                          guardW (t148_118) true (fun k => run1 Tryd.prog Z (Instr.fieldAt 33 t5_28 0) w k) (fun t150_119 w =>
                          guardW (t148_118) true (fun k => run1 Tryd.prog Z (Instr.loadAt 31 t150_119) w k) (fun t151_120 w =>
                          guardW (t148_118) true (fun k => k (t13_115) w) (fun t152_121 w =>
                          guardW (t148_118) true (fun k => run1 Tryd.prog Z (eqOp BinOp.eql 31 false false t151_120 t152_121) w k) (fun t153_122 w =>
                          run1 Tryd.prog Z (pickV t148_118 t153_122 (Value.bool false)) w fun t154_123 w =>
                          Q t154_123 w) w) w) w) w) →
                          j_114 t13_115 w) →
                      guardW (t124_100) true (fun k => k (t133_109) w) (fun t141_124 w =>
                      guardW (t124_100) true (fun k => run1 Tryd.prog Z (Builtin.len_ #[22] 3 #[t141_124]) w k) (fun t142_125 w =>
                      guardW (t124_100) true (fun k => run1 Tryd.prog Z (binOp BinOp.gtr 3 t142_125 (Value.int IntKind.i64 0)) w k) (fun t143_126 w =>
                      run1 Tryd.prog Z (pickV t124_100 t143_126 (Value.bool false)) w fun t144_127 w =>
                      CondV t144_127 (
                        j_114 (Value.int IntKind.i8 3) w) (
                        j_114 t13_113 w)) w) w) w) →
                      j_112 t13_113 w) →
                  CondV t124_100 (
                    j_112 (Value.int IntKind.i8 2) w) (
                    j_112 (Value.int IntKind.i8 1) w))))) w) w) w) w) w) w))) w) w) w) w) w) w) w) w) w) w) w) w) w) w) w) w) w) w) ∧
    (
    run1 Tryd.prog Z (Instr.alloc 33 true (.tuple #[])) w fun t5_128 w =>
      Still Tryd.prog (nx (Instr.loadAt 23 t36_22)) t37_23 w <|
      Still Tryd.prog (nx (Instr.loadAt 3 t34_20)) t35_21 w <|
      Still Tryd.prog (nx (Instr.loadAt 3 t32_18)) t33_19 w <|
      Still Tryd.prog (nx (Instr.loadAt 22 t30_16)) t31_17 w <|
      Still Tryd.prog (nx (Instr.loadAt 30 t4_11)) t29_15 w <|
    CallV Tryd.prog Z 9 #[t28_24, t29_15, t31_17, t33_19, t35_21, t37_23] w fun t38_129 w =>
    Pure1 Tryd.prog (Instr.extract t38_129 0) fun t39_130 =>
    Pure1 Tryd.prog (Instr.extract t38_129 1) fun t40_131 =>
    run0 Tryd.prog Z (Instr.storeAt 33 t5_128 t39_130) w fun w =>
    run1 Tryd.prog Z (Instr.loadAt 30 t4_11) w fun t41_132 w =>
    run1 Tryd.prog Z (Instr.fieldAt 25 t1_1 0) w fun t42_133 w =>
    run1 Tryd.prog Z (Instr.loadAt 22 t42_133) w fun t43_134 w =>
    CallV Tryd.prog Z 11 #[t41_132, t43_134] w fun t44_135 w =>
    guardW (t44_135) true (fun k => run1 Tryd.prog Z (Instr.loadAt 30 t4_11) w k) (fun t46_136 w =>
    guardW (t44_135) true (fun k => run1 Tryd.prog Z (Instr.fieldAt 25 t1_1 1) w k) (fun t47_137 w =>
    guardW (t44_135) true (fun k => run1 Tryd.prog Z (Instr.loadAt 22 t47_137) w k) (fun t48_138 w =>
    guardW (t44_135) true (fun k => CallV Tryd.prog Z 11 #[t46_136, t48_138] w k) (fun t49_139 w =>
    run1 Tryd.prog Z (pickV t44_135 t49_139 (Value.bool false)) w fun t50_140 w =>
    guardW (t50_140) true (fun k => run1 Tryd.prog Z (Instr.fieldAt 25 t1_1 2) w k) (fun t52_141 w =>
    guardW (t50_140) true (fun k => run1 Tryd.prog Z (Instr.loadAt 3 t52_141) w k) (fun t53_142 w =>
    guardW (t50_140) true (fun k => run1 Tryd.prog Z (binOp BinOp.geq 3 t53_142 (Value.int IntKind.i64 0)) w k) (fun t54_143 w =>
    run1 Tryd.prog Z (pickV t50_140 t54_143 (Value.bool false)) w fun t55_144 w =>
    guardW (t55_144) true (fun k => run1 Tryd.prog Z (Instr.fieldAt 25 t1_1 2) w k) (fun t57_145 w =>
    guardW (t55_144) true (fun k => run1 Tryd.prog Z (Instr.loadAt 3 t57_145) w k) (fun t58_146 w =>
    guardW (t55_144) true (fun k => run1 Tryd.prog Z (Instr.fieldAt 25 t1_1 0) w k) (fun t59_147 w =>
    guardW (t55_144) true (fun k => run1 Tryd.prog Z (Instr.loadAt 22 t59_147) w k) (fun t60_148 w =>
    guardW (t55_144) true (fun k => run1 Tryd.prog Z (Builtin.len_ #[22] 3 #[t60_148]) w k) (fun t61_149 w =>
    guardW (t55_144) true (fun k => run1 Tryd.prog Z (binOp BinOp.leq 3 t58_146 t61_149) w k) (fun t62_150 w =>
    run1 Tryd.prog Z (pickV t55_144 t62_150 (Value.bool false)) w fun t63_151 w =>
    guardW (t63_151) true (fun k => run1 Tryd.prog Z (Instr.fieldAt 25 t1_1 3) w k) (fun t65_152 w =>
    guardW (t63_151) true (fun k => run1 Tryd.prog Z (Instr.loadAt 3 t65_152) w k) (fun t66_153 w =>
    guardW (t63_151) true (fun k => run1 Tryd.prog Z (binOp BinOp.geq 3 t66_153 (Value.int IntKind.i64 0)) w k) (fun t67_154 w =>
    run1 Tryd.prog Z (pickV t63_151 t67_154 (Value.bool false)) w fun t68_155 w =>
    run1 Tryd.prog Z (Op.unary UnOp.not t22_9) w fun t70_156 w =>
    guardW (t70_156) false (fun k => k (t68_155) w) (fun t72_157 w =>
    guardW (t70_156) false (fun k => run1 Tryd.prog Z (Op.unary UnOp.not t72_157) w k) (fun t73_158 w =>
    run1 Tryd.prog Z (pickV t70_156 (Value.bool true) t73_158) w fun t74_159 w =>
    CondV t74_159 (
      Q t22_9 w) (
      run1 Tryd.prog Z (eqOp BinOp.neq 34 false true t40_131 (Value.int IntKind.i64 0)) w fun t77_160 w =>
      CondV t77_160 (
        Q (Value.bool false) w) (
        run1 Tryd.prog Z (Instr.fieldAt 33 t5_128 0) w fun t78_161 w =>
        run1 Tryd.prog Z (Instr.loadAt 31 t78_161) w fun t79_162 w =>
        run1 Tryd.prog Z (eqOp BinOp.eql 31 false true t79_162 (Value.int IntKind.i8 4)) w fun t80_163 w =>
        guardW (t80_163) false (fun k => run1 Tryd.prog Z (Instr.fieldAt 25 t1_1 0) w k) (fun t82_164 w =>
        guardW (t80_163) false (fun k => run1 Tryd.prog Z (Instr.loadAt 22 t82_164) w k) (fun t83_165 w =>
        guardW (t80_163) false (fun k => run1 Tryd.prog Z (Instr.fieldAt 25 t1_1 1) w k) (fun t84_166 w =>
        guardW (t80_163) false (fun k => run1 Tryd.prog Z (Instr.loadAt 22 t84_166) w k) (fun t85_167 w =>
        guardW (t80_163) false (fun k => CallV Tryd.prog Z 12 #[t83_165, t85_167] w k) (fun t86_168 w =>
        guardW (t80_163) false (fun k => run1 Tryd.prog Z (Op.unary UnOp.not t86_168) w k) (fun t87_169 w =>
        run1 Tryd.prog Z (pickV t80_163 (Value.bool true) t87_169) w fun t88_170 w =>
        CondV t88_170 (
          Q (Value.bool true) w) (
          run1 Tryd.prog Z (Instr.fieldAt 33 t5_128 1) w fun t89_171 w =>
          run1 Tryd.prog Z (Instr.loadAt 30 t89_171) w fun t90_172 w =>
          run1 Tryd.prog Z (Instr.loadAt 30 t4_11) w fun t91_173 w =>
          run1 Tryd.prog Z (eqOp BinOp.eql 30 false false t90_172 t91_173) w fun t92_174 w =>
          ∃ J_175 : Nat → Value → Value → World → Prop, (∃ m, J_175 m t92_174 (Value.int IntKind.i64 0) w) ∧
            ∀ m_175, ∀ t8_176 : Value, ∀ t9_177 : Value, ∀ w : World, J_175 m_175 t8_176 t9_177 w → Env →
              run1 Tryd.prog Z (Instr.fieldAt 25 t1_1 1) w fun t94_178 w =>
              run1 Tryd.prog Z (Instr.loadAt 22 t94_178) w fun t95_179 w =>
              run1 Tryd.prog Z (Builtin.len_ #[22] 3 #[t95_179]) w fun t96_180 w =>
              run1 Tryd.prog Z (binOp BinOp.lss 3 t9_177 t96_180) w fun t97_181 w =>
              CondV t97_181 (
                Drawn w fun w =>
                guardV (t8_176) false (fun k => Pure1 Tryd.prog (Instr.fieldAt 25 t1_1 1) k) (fun t102_182 =>
                guardV (t8_176) false (fun k => Read1 Tryd.prog (Instr.loadAt 22 t102_182) w k) (fun t103_183 =>
                guardV (t8_176) false (fun k => k (t9_177)) (fun t104_184 =>
                guardV (t8_176) false (fun k => Pure1 Tryd.prog (Instr.indexAt 22 t103_183 t104_184) k) (fun t105_185 =>
                guardV (t8_176) false (fun k => Pure1 Tryd.prog (Instr.fieldAt 49 t105_185 0) k) (fun t106_186 =>
                guardV (t8_176) false (fun k => Read1 Tryd.prog (Instr.loadAt 30 t106_186) w k) (fun t107_187 =>
                guardV (t8_176) false (fun k => Pure1 Tryd.prog (Instr.fieldAt 33 t5_128 1) k) (fun t108_188 =>
                guardV (t8_176) false (fun k => Read1 Tryd.prog (Instr.loadAt 30 t108_188) w k) (fun t109_189 =>
                guardV (t8_176) false (fun k => Pure1 Tryd.prog (eqOp BinOp.eql 30 false false t107_187 t109_189) k) (fun t110_190 =>
                Pure1 Tryd.prog (pickV t8_176 (Value.bool true) t110_190) fun t111_191 =>
                run1 Tryd.prog Z (binOp BinOp.add 3 t9_177 (Value.int IntKind.i64 1)) w fun t99_192 w =>
                ∃ n_175, n_175 < m_175 ∧ J_175 n_175 t111_191 t99_192 w)))))))))) (
                run1 Tryd.prog Z (Op.unary UnOp.not t8_176) w fun t113_193 w =>
                CondV t113_193 (
                  Q (Value.bool true) w) (
                  run1 Tryd.prog Z (Instr.fieldAt 25 t1_1 1) w fun t114_194 w =>
                  run1 Tryd.prog Z (Instr.loadAt 22 t114_194) w fun t115_195 w =>
                  run1 Tryd.prog Z (Instr.fieldAt 33 t5_128 1) w fun t116_196 w =>
                  run1 Tryd.prog Z (Instr.loadAt 30 t116_196) w fun t117_197 w =>
                  CallV Tryd.prog Z 13 #[t115_195, t117_197] w fun t118_198 w =>
                  run1 Tryd.prog Z (Builtin.len_ #[22] 3 #[t118_198]) w fun t120_199 w =>
                  run1 Tryd.prog Z (Instr.fieldAt 25 t1_1 1) w fun t121_200 w =>
                  run1 Tryd.prog Z (Instr.loadAt 22 t121_200) w fun t122_201 w =>
                  run1 Tryd.prog Z (Builtin.len_ #[22] 3 #[t122_201]) w fun t123_202 w =>
                  run1 Tryd.prog Z (binOp BinOp.lss 3 t120_199 t123_202) w fun t124_203 w =>
                  Drawn w fun w =>
                  Pure1 Tryd.prog (Instr.fieldAt 25 t1_1 0) fun t125_204 =>
                  Read1 Tryd.prog (Instr.loadAt 22 t125_204) w fun t126_205 =>
                  Pure1 Tryd.prog (Instr.fieldAt 25 t1_1 0) fun t127_206 =>
                  Read1 Tryd.prog (Instr.loadAt 22 t127_206) w fun t128_207 =>
                  Pure1 Tryd.prog (Instr.fieldAt 33 t5_128 1) fun t129_208 =>
                  Read1 Tryd.prog (Instr.loadAt 30 t129_208) w fun t130_209 =>
                  CallV Tryd.prog Z 13 #[t128_207, t130_209] w fun t131_210 w =>
                    Still Tryd.prog (nx (Instr.loadAt 22 t125_204)) t126_205 w <|
                  Pure1 Tryd.prog (Builtin.len_ #[22] 3 #[t131_210]) fun t132_211 =>
                  Pure1 Tryd.prog (Instr.sliceAt 22 t126_205 (some t132_211) none none) fun t133_212 =>
                  CallV Tryd.prog Z 14 #[t118_198] w fun t135_213 w =>
                  run1 Tryd.prog Z (Builtin.append_ #[22, 22] 22 #[t135_213, t133_212]) w fun t137_214 w =>
                  ∀ j_215 : Value → World → Prop, (∀ t13_216 : Value, ∀ w : World, (Env →
                      ∀ j_217 : Value → World → Prop, (∀ t13_218 : Value, ∀ w : World, (Env →
                          run1 Tryd.prog Z (Instr.fieldAt 25 t1_1 0) w fun t146_219 w =>
                          run1 Tryd.prog Z (Instr.loadAt 22 t146_219) w fun t147_220 w =>
                          CallV Tryd.prog Z 15 #[t137_214, t147_220] w fun t148_221 w =>
                          guardW (t148_221) true (fun k => run1 Tryd.prog Z (Instr.fieldAt 33 t5_128 0) w k) (fun t150_222 w =>
                          guardW (t148_221) true (fun k => run1 Tryd.prog Z (Instr.loadAt 31 t150_222) w k) (fun t151_223 w =>
                          guardW (t148_221) true (fun k => k (t13_218) w) (fun t152_224 w =>
                          guardW (t148_221) true (fun k => run1 Tryd.prog Z (eqOp BinOp.eql 31 false false t151_223 t152_224) w k) (fun t153_225 w =>
                          run1 Tryd.prog Z (pickV t148_221 t153_225 (Value.bool false)) w fun t154_226 w =>
                          Q t154_226 w) w) w) w) w) →
                          j_217 t13_218 w) →
                      guardW (t124_203) true (fun k => k (t133_212) w) (fun t141_227 w =>
                      guardW (t124_203) true (fun k => run1 Tryd.prog Z (Builtin.len_ #[22] 3 #[t141_227]) w k) (fun t142_228 w =>
                      guardW (t124_203) true (fun k => run1 Tryd.prog Z (binOp BinOp.gtr 3 t142_228 (Value.int IntKind.i64 0)) w k) (fun t143_229 w =>
                      run1 Tryd.prog Z (pickV t124_203 t143_229 (Value.bool false)) w fun t144_230 w =>
                      CondV t144_230 (
                        j_217 (Value.int IntKind.i8 3) w) (
                        j_217 t13_216 w)) w) w) w) →
                      j_215 t13_216 w) →
                  CondV t124_203 (
                    j_215 (Value.int IntKind.i8 2) w) (
                    j_215 (Value.int IntKind.i8 1) w))))) w) w) w) w) w) w))) w) w) w) w) w) w) w) w) w) w) w) w) w) w) w) w) w) w)) ∧
    (
    run1 Tryd.prog Z (Instr.alloc 33 true (.tuple #[])) w fun t5_231 w =>
      Still Tryd.prog (nx (Instr.loadAt 23 t36_22)) t37_23 w <|
      Still Tryd.prog (nx (Instr.loadAt 3 t34_20)) t35_21 w <|
      Still Tryd.prog (nx (Instr.loadAt 3 t32_18)) t33_19 w <|
      Still Tryd.prog (nx (Instr.loadAt 22 t30_16)) t31_17 w <|
      Still Tryd.prog (nx (Instr.loadAt 30 t4_11)) t29_15 w <|
      Still Tryd.prog (nx (Instr.loadAt 22 t26_13)) t27_14 w <|
      Still Tryd.prog (nx (Instr.loadAt 30 t4_11)) t25_12 w <|
    CallV Tryd.prog Z 10 #[t25_12, t27_14] w fun t28_232 w =>
      Still Tryd.prog (nx (Instr.loadAt 23 t36_22)) t37_23 w <|
      Still Tryd.prog (nx (Instr.loadAt 3 t34_20)) t35_21 w <|
      Still Tryd.prog (nx (Instr.loadAt 3 t32_18)) t33_19 w <|
      Still Tryd.prog (nx (Instr.loadAt 22 t30_16)) t31_17 w <|
      Still Tryd.prog (nx (Instr.loadAt 30 t4_11)) t29_15 w <|
    CallV Tryd.prog Z 9 #[t28_232, t29_15, t31_17, t33_19, t35_21, t37_23] w fun t38_233 w =>
    Pure1 Tryd.prog (Instr.extract t38_233 0) fun t39_234 =>
    Pure1 Tryd.prog (Instr.extract t38_233 1) fun t40_235 =>
    run0 Tryd.prog Z (Instr.storeAt 33 t5_231 t39_234) w fun w =>
    run1 Tryd.prog Z (Instr.loadAt 30 t4_11) w fun t41_236 w =>
    run1 Tryd.prog Z (Instr.fieldAt 25 t1_1 0) w fun t42_237 w =>
    run1 Tryd.prog Z (Instr.loadAt 22 t42_237) w fun t43_238 w =>
    CallV Tryd.prog Z 11 #[t41_236, t43_238] w fun t44_239 w =>
    guardW (t44_239) true (fun k => run1 Tryd.prog Z (Instr.loadAt 30 t4_11) w k) (fun t46_240 w =>
    guardW (t44_239) true (fun k => run1 Tryd.prog Z (Instr.fieldAt 25 t1_1 1) w k) (fun t47_241 w =>
    guardW (t44_239) true (fun k => run1 Tryd.prog Z (Instr.loadAt 22 t47_241) w k) (fun t48_242 w =>
    guardW (t44_239) true (fun k => CallV Tryd.prog Z 11 #[t46_240, t48_242] w k) (fun t49_243 w =>
    run1 Tryd.prog Z (pickV t44_239 t49_243 (Value.bool false)) w fun t50_244 w =>
    guardW (t50_244) true (fun k => run1 Tryd.prog Z (Instr.fieldAt 25 t1_1 2) w k) (fun t52_245 w =>
    guardW (t50_244) true (fun k => run1 Tryd.prog Z (Instr.loadAt 3 t52_245) w k) (fun t53_246 w =>
    guardW (t50_244) true (fun k => run1 Tryd.prog Z (binOp BinOp.geq 3 t53_246 (Value.int IntKind.i64 0)) w k) (fun t54_247 w =>
    run1 Tryd.prog Z (pickV t50_244 t54_247 (Value.bool false)) w fun t55_248 w =>
    guardW (t55_248) true (fun k => run1 Tryd.prog Z (Instr.fieldAt 25 t1_1 2) w k) (fun t57_249 w =>
    guardW (t55_248) true (fun k => run1 Tryd.prog Z (Instr.loadAt 3 t57_249) w k) (fun t58_250 w =>
    guardW (t55_248) true (fun k => run1 Tryd.prog Z (Instr.fieldAt 25 t1_1 0) w k) (fun t59_251 w =>
    guardW (t55_248) true (fun k => run1 Tryd.prog Z (Instr.loadAt 22 t59_251) w k) (fun t60_252 w =>
    guardW (t55_248) true (fun k => run1 Tryd.prog Z (Builtin.len_ #[22] 3 #[t60_252]) w k) (fun t61_253 w =>
    guardW (t55_248) true (fun k => run1 Tryd.prog Z (binOp BinOp.leq 3 t58_250 t61_253) w k) (fun t62_254 w =>
    run1 Tryd.prog Z (pickV t55_248 t62_254 (Value.bool false)) w fun t63_255 w =>
    guardW (t63_255) true (fun k => run1 Tryd.prog Z (Instr.fieldAt 25 t1_1 3) w k) (fun t65_256 w =>
    guardW (t63_255) true (fun k => run1 Tryd.prog Z (Instr.loadAt 3 t65_256) w k) (fun t66_257 w =>
    guardW (t63_255) true (fun k => run1 Tryd.prog Z (binOp BinOp.geq 3 t66_257 (Value.int IntKind.i64 0)) w k) (fun t67_258 w =>
    run1 Tryd.prog Z (pickV t63_255 t67_258 (Value.bool false)) w fun t68_259 w =>
    run1 Tryd.prog Z (Op.unary UnOp.not t22_9) w fun t70_260 w =>
    guardW (t70_260) false (fun k => k (t68_259) w) (fun t72_261 w =>
    guardW (t70_260) false (fun k => run1 Tryd.prog Z (Op.unary UnOp.not t72_261) w k) (fun t73_262 w =>
    run1 Tryd.prog Z (pickV t70_260 (Value.bool true) t73_262) w fun t74_263 w =>
    CondV t74_263 (
      Q t22_9 w) (
      run1 Tryd.prog Z (eqOp BinOp.neq 34 false true t40_235 (Value.int IntKind.i64 0)) w fun t77_264 w =>
      CondV t77_264 (
        Q (Value.bool false) w) (
        run1 Tryd.prog Z (Instr.fieldAt 33 t5_231 0) w fun t78_265 w =>
        run1 Tryd.prog Z (Instr.loadAt 31 t78_265) w fun t79_266 w =>
        run1 Tryd.prog Z (eqOp BinOp.eql 31 false true t79_266 (Value.int IntKind.i8 4)) w fun t80_267 w =>
        guardW (t80_267) false (fun k => run1 Tryd.prog Z (Instr.fieldAt 25 t1_1 0) w k) (fun t82_268 w =>
        guardW (t80_267) false (fun k => run1 Tryd.prog Z (Instr.loadAt 22 t82_268) w k) (fun t83_269 w =>
        guardW (t80_267) false (fun k => run1 Tryd.prog Z (Instr.fieldAt 25 t1_1 1) w k) (fun t84_270 w =>
        guardW (t80_267) false (fun k => run1 Tryd.prog Z (Instr.loadAt 22 t84_270) w k) (fun t85_271 w =>
        guardW (t80_267) false (fun k => CallV Tryd.prog Z 12 #[t83_269, t85_271] w k) (fun t86_272 w =>
        guardW (t80_267) false (fun k => run1 Tryd.prog Z (Op.unary UnOp.not t86_272) w k) (fun t87_273 w =>
        run1 Tryd.prog Z (pickV t80_267 (Value.bool true) t87_273) w fun t88_274 w =>
        CondV t88_274 (
          Q (Value.bool true) w) (
          run1 Tryd.prog Z (Instr.fieldAt 33 t5_231 1) w fun t89_275 w =>
          run1 Tryd.prog Z (Instr.loadAt 30 t89_275) w fun t90_276 w =>
          run1 Tryd.prog Z (Instr.loadAt 30 t4_11) w fun t91_277 w =>
          run1 Tryd.prog Z (eqOp BinOp.eql 30 false false t90_276 t91_277) w fun t92_278 w =>
          ∃ J_279 : Nat → Value → Value → World → Prop, (∃ m, J_279 m t92_278 (Value.int IntKind.i64 0) w) ∧
            ∀ m_279, ∀ t8_280 : Value, ∀ t9_281 : Value, ∀ w : World, J_279 m_279 t8_280 t9_281 w → Env →
              run1 Tryd.prog Z (Instr.fieldAt 25 t1_1 1) w fun t94_282 w =>
              run1 Tryd.prog Z (Instr.loadAt 22 t94_282) w fun t95_283 w =>
              run1 Tryd.prog Z (Builtin.len_ #[22] 3 #[t95_283]) w fun t96_284 w =>
              run1 Tryd.prog Z (binOp BinOp.lss 3 t9_281 t96_284) w fun t97_285 w =>
              CondV t97_285 (
                Drawn w fun w =>
                guardV (t8_280) false (fun k => Pure1 Tryd.prog (Instr.fieldAt 25 t1_1 1) k) (fun t102_286 =>
                guardV (t8_280) false (fun k => Read1 Tryd.prog (Instr.loadAt 22 t102_286) w k) (fun t103_287 =>
                guardV (t8_280) false (fun k => k (t9_281)) (fun t104_288 =>
                guardV (t8_280) false (fun k => Pure1 Tryd.prog (Instr.indexAt 22 t103_287 t104_288) k) (fun t105_289 =>
                guardV (t8_280) false (fun k => Pure1 Tryd.prog (Instr.fieldAt 49 t105_289 0) k) (fun t106_290 =>
                guardV (t8_280) false (fun k => Read1 Tryd.prog (Instr.loadAt 30 t106_290) w k) (fun t107_291 =>
                guardV (t8_280) false (fun k => Pure1 Tryd.prog (Instr.fieldAt 33 t5_231 1) k) (fun t108_292 =>
                guardV (t8_280) false (fun k => Read1 Tryd.prog (Instr.loadAt 30 t108_292) w k) (fun t109_293 =>
                guardV (t8_280) false (fun k => Pure1 Tryd.prog (eqOp BinOp.eql 30 false false t107_291 t109_293) k) (fun t110_294 =>
                Pure1 Tryd.prog (pickV t8_280 (Value.bool true) t110_294) fun t111_295 =>
                run1 Tryd.prog Z (binOp BinOp.add 3 t9_281 (Value.int IntKind.i64 1)) w fun t99_296 w =>
                ∃ n_279, n_279 < m_279 ∧ J_279 n_279 t111_295 t99_296 w)))))))))) (
                run1 Tryd.prog Z (Op.unary UnOp.not t8_280) w fun t113_297 w =>
                CondV t113_297 (
                  Q (Value.bool true) w) (
                  run1 Tryd.prog Z (Instr.fieldAt 25 t1_1 1) w fun t114_298 w =>
                  run1 Tryd.prog Z (Instr.loadAt 22 t114_298) w fun t115_299 w =>
                  run1 Tryd.prog Z (Instr.fieldAt 33 t5_231 1) w fun t116_300 w =>
                  run1 Tryd.prog Z (Instr.loadAt 30 t116_300) w fun t117_301 w =>
                  CallV Tryd.prog Z 13 #[t115_299, t117_301] w fun t118_302 w =>
                  run1 Tryd.prog Z (Builtin.len_ #[22] 3 #[t118_302]) w fun t120_303 w =>
                  run1 Tryd.prog Z (Instr.fieldAt 25 t1_1 1) w fun t121_304 w =>
                  run1 Tryd.prog Z (Instr.loadAt 22 t121_304) w fun t122_305 w =>
                  run1 Tryd.prog Z (Builtin.len_ #[22] 3 #[t122_305]) w fun t123_306 w =>
                  run1 Tryd.prog Z (binOp BinOp.lss 3 t120_303 t123_306) w fun t124_307 w =>
                  Drawn w fun w =>
                  Pure1 Tryd.prog (Instr.fieldAt 25 t1_1 0) fun t125_308 =>
                  Read1 Tryd.prog (Instr.loadAt 22 t125_308) w fun t126_309 =>
                  Pure1 Tryd.prog (Instr.fieldAt 25 t1_1 0) fun t127_310 =>
                  Read1 Tryd.prog (Instr.loadAt 22 t127_310) w fun t128_311 =>
                  Pure1 Tryd.prog (Instr.fieldAt 33 t5_231 1) fun t129_312 =>
                  Read1 Tryd.prog (Instr.loadAt 30 t129_312) w fun t130_313 =>
                  CallV Tryd.prog Z 13 #[t128_311, t130_313] w fun t131_314 w =>
                    Still Tryd.prog (nx (Instr.loadAt 22 t125_308)) t126_309 w <|
                  Pure1 Tryd.prog (Builtin.len_ #[22] 3 #[t131_314]) fun t132_315 =>
                  Pure1 Tryd.prog (Instr.sliceAt 22 t126_309 (some t132_315) none none) fun t133_316 =>
                  CallV Tryd.prog Z 14 #[t118_302] w fun t135_317 w =>
                  run1 Tryd.prog Z (Builtin.append_ #[22, 22] 22 #[t135_317, t133_316]) w fun t137_318 w =>
                  ∀ j_319 : Value → World → Prop, (∀ t13_320 : Value, ∀ w : World, (Env →
                      ∀ j_321 : Value → World → Prop, (∀ t13_322 : Value, ∀ w : World, (Env →
                          run1 Tryd.prog Z (Instr.fieldAt 25 t1_1 0) w fun t146_323 w =>
                          run1 Tryd.prog Z (Instr.loadAt 22 t146_323) w fun t147_324 w =>
                          CallV Tryd.prog Z 15 #[t137_318, t147_324] w fun t148_325 w =>
                          guardW (t148_325) true (fun k => run1 Tryd.prog Z (Instr.fieldAt 33 t5_231 0) w k) (fun t150_326 w =>
                          guardW (t148_325) true (fun k => run1 Tryd.prog Z (Instr.loadAt 31 t150_326) w k) (fun t151_327 w =>
                          guardW (t148_325) true (fun k => k (t13_322) w) (fun t152_328 w =>
                          guardW (t148_325) true (fun k => run1 Tryd.prog Z (eqOp BinOp.eql 31 false false t151_327 t152_328) w k) (fun t153_329 w =>
                          run1 Tryd.prog Z (pickV t148_325 t153_329 (Value.bool false)) w fun t154_330 w =>
                          Q t154_330 w) w) w) w) w) →
                          j_321 t13_322 w) →
                      guardW (t124_307) true (fun k => k (t133_316) w) (fun t141_331 w =>
                      guardW (t124_307) true (fun k => run1 Tryd.prog Z (Builtin.len_ #[22] 3 #[t141_331]) w k) (fun t142_332 w =>
                      guardW (t124_307) true (fun k => run1 Tryd.prog Z (binOp BinOp.gtr 3 t142_332 (Value.int IntKind.i64 0)) w k) (fun t143_333 w =>
                      run1 Tryd.prog Z (pickV t124_307 t143_333 (Value.bool false)) w fun t144_334 w =>
                      CondV t144_334 (
                        j_321 (Value.int IntKind.i8 3) w) (
                        j_321 t13_320 w)) w) w) w) →
                      j_319 t13_320 w) →
                  CondV t124_307 (
                    j_319 (Value.int IntKind.i8 2) w) (
                    j_319 (Value.int IntKind.i8 1) w))))) w) w) w) w) w) w))) w) w) w) w) w) w) w) w) w) w) w) w) w) w) w) w) w) w))) w) w) w
noncomputable def f3.code : Code := match Tryd.f3.body with | some c => c | none => .skip
def f3.an : An := (.sq .leaf (.sq (.sq .leaf (.cn (.sq .leaf .leaf) .leaf)) (.sq .leaf (.sq .leaf (.sq (.dr (.take 0 true (.take 1 false (.take 2 true (.take 4 true (.take 5 false (.take 6 true (.take 7 false (.take 8 true (.take 9 false (.take 10 true (.take 11 false (.take 12 true (.two 3 (.two 13 (.take 14 false (.take 15 false (.take 16 false (.one 17 (.one 18 (.take 19 false .fin)))))) 17 (.one 13 (.take 14 false (.take 15 false (.take 16 false (.one 18 (.take 19 false .fin))))))) 17 (.one 3 (.one 13 (.take 14 false (.take 15 false (.take 16 false (.one 18 (.take 19 false .fin))))))))))))))))))))) (.sq .leaf (.sq (.sq .leaf (.cn (.sq .leaf .leaf) .leaf)) (.sq (.sq .leaf (.cn (.sq .leaf .leaf) .leaf)) (.sq (.sq .leaf (.cn (.sq .leaf .leaf) .leaf)) (.sq .leaf (.sq (.sq .leaf (.bl (.lp [8, 9] [8, 9, 93, 94, 95, 96, 97, 98, 99, 100, 101, 102, 103, 104, 105, 106, 107, 108, 109, 110, 111] (.sq (.sq .leaf (.cn .leaf .leaf)) (.sq (.bl (.dr (.take 0 false (.take 1 false (.take 2 false (.take 3 true (.take 4 false (.take 5 false (.take 6 false (.take 7 true (.take 8 false (.take 9 true (.take 10 false (.take 11 false (.take 12 false .fin))))))))))))))) .leaf))))) (.sq (.sq .leaf (.cn (.sq .leaf .leaf) .leaf)) (.sq .leaf (.sq .leaf (.sq (.dr (.take 0 false (.take 1 true (.take 2 false (.take 3 true (.take 4 false (.take 5 true (.one 6 (.take 7 false (.take 8 false (.take 9 false .fin))))))))))) (.sq .leaf (.sq .leaf (.sj [13] [13, 138] (.sq .leaf (.cn .leaf .leaf)) (.sj [13] [13, 139, 140, 141, 142, 143, 144] (.sq .leaf (.cn .leaf .leaf)) (.sq .leaf .leaf))))))))))))))))))))
theorem f3.body_eq : Tryd.f3.body = some f3.code := by kernel_rfl
theorem f3.shape (Z : List PanicEntry → World → Prop) (x0 : Value) (w : World) (Q : Value → World → Prop) : vc drawD Tryd.prog 155 Z [7, 8, 10, 9, 11, 12, 13, 14, 15] f3.an f3.code (fnQ Tryd.prog 155 Tryd.f3.results Q) (argEnv [x0]) w = f3.sh Z x0 w Q := by kernel_rfl
theorem f3.enters : ∀ f, f ∈ ([7, 8, 10, 9, 11, 12, 13, 14, 15] : List Nat) → Enters Tryd.prog f := by
  intro f hf
  simp only [List.mem_cons, List.not_mem_nil, or_false] at hf
  rcases hf with rfl | rfl | rfl | rfl | rfl | rfl | rfl | rfl | rfl
  · exact en7
  · exact en8
  · exact en10
  · exact en9
  · exact en11
  · exact en12
  · exact en13
  · exact en14
  · exact en15
theorem f3.calls {Z : List PanicEntry → World → Prop} {x0 : Value} {w : World} {Q : Value → World → Prop} (h : f3.sh Z x0 w Q) : CallV Tryd.prog Z 3 #[x0] w Q :=
  calls_of_vcn drawD_sound (Q := Q) (n := 155) (rs := Tryd.f3.results) (an := f3.an) (c := f3.code) (cal := [7, 8, 10, 9, 11, 12, 13, 14, 15]) (args := [x0]) Tryd.func3 (by kernel_rfl) rfl f3.body_eq follows (Nat.le_of_ble_eq_true (by kernel_rfl)) (enters_of_all f3.enters) ((f3.shape Z x0 w Q).mpr h)

/-! ### 4: lagoon/lagoonlaw14.ChooseMore -/
def f4.sh (Z : List PanicEntry → World → Prop) (x0 x1 x2 : Value) (w : World) (Q : Value → World → Prop) : Prop :=
  run1 Tryd.prog Z (Instr.box 54 x0) w fun t3_1 w =>
  run1 Tryd.prog Z (Instr.fieldAt 54 t3_1 2) w fun t13_2 w =>
  run1 Tryd.prog Z (Instr.loadAt 22 t13_2) w fun t14_3 w =>
  CallV Tryd.prog Z 7 #[t14_3] w fun t15_4 w =>
  CondV t15_4 (
    Q (Value.bool true) w) (
    CallV Tryd.prog Z 8 #[] w fun t16_5 w =>
    run1 Tryd.prog Z (Instr.loadAt 54 t3_1) w fun t18_6 w =>
    CallV Tryd.prog Z 16 #[t18_6] w fun t19_7 w =>
    run1 Tryd.prog Z (Instr.extract t19_7 0) w fun t20_8 w =>
    run1 Tryd.prog Z (Instr.extract t19_7 1) w fun t21_9 w =>
    run1 Tryd.prog Z (Instr.alloc 33 true (.tuple #[])) w fun t8_10 w =>
    run0 Tryd.prog Z (Instr.storeAt 33 t8_10 t20_8) w fun w =>
    run1 Tryd.prog Z (Op.unary UnOp.not t16_5) w fun t23_11 w =>
    guardW (t23_11) false (fun k => k (t21_9) w) (fun t25_12 w =>
    guardW (t23_11) false (fun k => run1 Tryd.prog Z (eqOp BinOp.neq 34 false true t25_12 (Value.int IntKind.i64 0)) w k) (fun t26_13 w =>
    run1 Tryd.prog Z (pickV t23_11 (Value.bool true) t26_13) w fun t27_14 w =>
    guardW (t27_14) false (fun k => run1 Tryd.prog Z (Instr.fieldAt 33 t8_10 0) w k) (fun t29_15 w =>
    guardW (t27_14) false (fun k => run1 Tryd.prog Z (Instr.loadAt 31 t29_15) w k) (fun t30_16 w =>
    guardW (t27_14) false (fun k => run1 Tryd.prog Z (eqOp BinOp.eql 31 false true t30_16 (Value.int IntKind.i8 4)) w k) (fun t31_17 w =>
    run1 Tryd.prog Z (pickV t27_14 (Value.bool true) t31_17) w fun t32_18 w =>
    guardW (t32_18) false (fun k => run1 Tryd.prog Z (Instr.fieldAt 54 t3_1 5) w k) (fun t34_19 w =>
    guardW (t32_18) false (fun k => run1 Tryd.prog Z (Instr.loadAt 23 t34_19) w k) (fun t35_20 w =>
    guardW (t32_18) false (fun k => run1 Tryd.prog Z (binOp BinOp.geq 23 t35_20 (Value.float FloatKind.f64 0)) w k) (fun t36_21 w =>
    guardW (t32_18) false (fun k => run1 Tryd.prog Z (Op.unary UnOp.not t36_21) w k) (fun t37_22 w =>
    run1 Tryd.prog Z (pickV t32_18 (Value.bool true) t37_22) w fun t38_23 w =>
    CondV t38_23 (
      Q t16_5 w) (
      run1 Tryd.prog Z (Instr.fieldAt 54 t3_1 3) w fun t41_24 w =>
      run1 Tryd.prog Z (Instr.loadAt 3 t41_24) w fun t42_25 w =>
      run1 Tryd.prog Z (binOp BinOp.lss 3 x1 t42_25) w fun t43_26 w =>
      guardW (t43_26) false (fun k => k (x1) w) (fun t45_27 w =>
      guardW (t43_26) false (fun k => run1 Tryd.prog Z (Instr.fieldAt 54 t3_1 2) w k) (fun t46_28 w =>
      guardW (t43_26) false (fun k => run1 Tryd.prog Z (Instr.loadAt 22 t46_28) w k) (fun t47_29 w =>
      guardW (t43_26) false (fun k => run1 Tryd.prog Z (Builtin.len_ #[22] 3 #[t47_29]) w k) (fun t48_30 w =>
      guardW (t43_26) false (fun k => run1 Tryd.prog Z (binOp BinOp.gtr 3 t45_27 t48_30) w k) (fun t49_31 w =>
      run1 Tryd.prog Z (pickV t43_26 (Value.bool true) t49_31) w fun t50_32 w =>
      guardW (t50_32) false (fun k => k (x2) w) (fun t52_33 w =>
      guardW (t50_32) false (fun k => run1 Tryd.prog Z (Instr.fieldAt 54 t3_1 4) w k) (fun t53_34 w =>
      guardW (t50_32) false (fun k => run1 Tryd.prog Z (Instr.loadAt 3 t53_34) w k) (fun t54_35 w =>
      guardW (t50_32) false (fun k => run1 Tryd.prog Z (binOp BinOp.lss 3 t52_33 t54_35) w k) (fun t55_36 w =>
      run1 Tryd.prog Z (pickV t50_32 (Value.bool true) t55_36) w fun t56_37 w =>
      CondV t56_37 (
        Q (Value.bool true) w) (
        run1 Tryd.prog Z (Instr.loadAt 54 t3_1) w fun t57_38 w =>
        run1 Tryd.prog Z (Instr.alloc 54 true (.tuple #[])) w fun t10_39 w =>
        run0 Tryd.prog Z (Instr.storeAt 54 t10_39 t57_38) w fun w =>
        run1 Tryd.prog Z (Instr.fieldAt 54 t10_39 3) w fun t59_40 w =>
        run0 Tryd.prog Z (Instr.storeAt 3 t59_40 x1) w fun w =>
        run1 Tryd.prog Z (Instr.fieldAt 54 t10_39 4) w fun t61_41 w =>
        run0 Tryd.prog Z (Instr.storeAt 3 t61_41 x2) w fun w =>
        run1 Tryd.prog Z (Instr.fieldAt 54 t3_1 5) w fun t62_42 w =>
        run1 Tryd.prog Z (Instr.loadAt 23 t62_42) w fun t63_43 w =>
        run1 Tryd.prog Z (binOp BinOp.mul 23 (Value.float FloatKind.f64 4611686018427387904) t63_43) w fun t64_44 w =>
        run1 Tryd.prog Z (binOp BinOp.add 23 t64_44 (Value.float FloatKind.f64 4607182418800017408)) w fun t65_45 w =>
        run1 Tryd.prog Z (Instr.fieldAt 54 t10_39 5) w fun t66_46 w =>
        run0 Tryd.prog Z (Instr.storeAt 23 t66_46 t65_45) w fun w =>
        ∀ j_47 : World → Prop, (∀ w : World, (Env →
            run1 Tryd.prog Z (Instr.loadAt 54 t10_39) w fun t74_48 w =>
            CallV Tryd.prog Z 16 #[t74_48] w fun t75_49 w =>
            run1 Tryd.prog Z (Instr.extract t75_49 0) w fun t76_50 w =>
            run1 Tryd.prog Z (Instr.extract t75_49 1) w fun t77_51 w =>
            run1 Tryd.prog Z (Instr.alloc 33 true (.tuple #[])) w fun t11_52 w =>
            run0 Tryd.prog Z (Instr.storeAt 33 t11_52 t76_50) w fun w =>
            run1 Tryd.prog Z (eqOp BinOp.eql 34 false true t77_51 (Value.int IntKind.i64 0)) w fun t79_53 w =>
            guardW (t79_53) true (fun k => run1 Tryd.prog Z (Instr.fieldAt 33 t11_52 0) w k) (fun t81_54 w =>
            guardW (t79_53) true (fun k => run1 Tryd.prog Z (Instr.loadAt 31 t81_54) w k) (fun t82_55 w =>
            guardW (t79_53) true (fun k => run1 Tryd.prog Z (Instr.fieldAt 33 t8_10 0) w k) (fun t83_56 w =>
            guardW (t79_53) true (fun k => run1 Tryd.prog Z (Instr.loadAt 31 t83_56) w k) (fun t84_57 w =>
            guardW (t79_53) true (fun k => run1 Tryd.prog Z (eqOp BinOp.eql 31 false false t82_55 t84_57) w k) (fun t85_58 w =>
            run1 Tryd.prog Z (pickV t79_53 t85_58 (Value.bool false)) w fun t86_59 w =>
            guardW (t86_59) true (fun k => run1 Tryd.prog Z (Instr.fieldAt 33 t11_52 1) w k) (fun t88_60 w =>
            guardW (t86_59) true (fun k => run1 Tryd.prog Z (Instr.loadAt 30 t88_60) w k) (fun t89_61 w =>
            guardW (t86_59) true (fun k => run1 Tryd.prog Z (Instr.fieldAt 33 t8_10 1) w k) (fun t90_62 w =>
            guardW (t86_59) true (fun k => run1 Tryd.prog Z (Instr.loadAt 30 t90_62) w k) (fun t91_63 w =>
            guardW (t86_59) true (fun k => run1 Tryd.prog Z (eqOp BinOp.eql 30 false false t89_61 t91_63) w k) (fun t92_64 w =>
            run1 Tryd.prog Z (pickV t86_59 t92_64 (Value.bool false)) w fun t93_65 w =>
            guardW (t93_65) true (fun k => run1 Tryd.prog Z (Instr.fieldAt 33 t11_52 2) w k) (fun t95_66 w =>
            guardW (t93_65) true (fun k => run1 Tryd.prog Z (Instr.loadAt 4 t95_66) w k) (fun t96_67 w =>
            guardW (t93_65) true (fun k => k (t96_67) w) (fun t97_68 w =>
            guardW (t97_68) false (fun k => run1 Tryd.prog Z (Instr.fieldAt 33 t8_10 2) w k) (fun t98_69 w =>
            guardW (t97_68) false (fun k => run1 Tryd.prog Z (Instr.loadAt 4 t98_69) w k) (fun t99_70 w =>
            guardW (t97_68) false (fun k => run1 Tryd.prog Z (Op.unary UnOp.not t99_70) w k) (fun t100_71 w =>
            guardW (t93_65) true (fun k => run1 Tryd.prog Z (pickV t97_68 (Value.bool true) t100_71) w k) (fun t101_72 w =>
            run1 Tryd.prog Z (pickV t93_65 t101_72 (Value.bool false)) w fun t102_73 w =>
            Q t102_73 w) w) w) w) w) w) w) w) w) w) w) w) w) w) w) w) w) w) →
            j_47 w) →
        run1 Tryd.prog Z (Instr.fieldAt 54 t3_1 5) w fun t67_74 w =>
        run1 Tryd.prog Z (Instr.loadAt 23 t67_74) w fun t68_75 w =>
        run1 Tryd.prog Z (binOp BinOp.gtr 23 t68_75 (Value.float FloatKind.f64 9094988921128908188)) w fun t69_76 w =>
        CondV t69_76 (
          run1 Tryd.prog Z (Instr.fieldAt 54 t3_1 5) w fun t70_77 w =>
          run1 Tryd.prog Z (Instr.loadAt 23 t70_77) w fun t71_78 w =>
          run1 Tryd.prog Z (Instr.fieldAt 54 t10_39 5) w fun t72_79 w =>
          run0 Tryd.prog Z (Instr.storeAt 23 t72_79 t71_78) w fun w =>
          j_47 w) (
          j_47 w))) w) w) w) w) w) w) w) w) w)) w) w) w) w) w) w) w) w) w)
noncomputable def f4.code : Code := match Tryd.f4.body with | some c => c | none => .skip
def f4.an : An := (.sq .leaf (.sq (.sq .leaf (.cn (.sq .leaf .leaf) .leaf)) (.sq .leaf (.sq .leaf (.sq (.sq .leaf (.cn (.sq .leaf .leaf) .leaf)) (.sq (.sq .leaf (.cn (.sq .leaf .leaf) .leaf)) (.sq .leaf (.sq .leaf (.sq .leaf (.sq .leaf (.sj [] [67, 68, 69, 70, 71, 72] (.sq .leaf (.cn .leaf .leaf)) (.sq .leaf (.sq .leaf .leaf)))))))))))))
theorem f4.body_eq : Tryd.f4.body = some f4.code := by kernel_rfl
theorem f4.shape (Z : List PanicEntry → World → Prop) (x0 x1 x2 : Value) (w : World) (Q : Value → World → Prop) : vc drawD Tryd.prog 103 Z [7, 8, 16] f4.an f4.code (fnQ Tryd.prog 103 Tryd.f4.results Q) (argEnv [x0, x1, x2]) w = f4.sh Z x0 x1 x2 w Q := by kernel_rfl
theorem f4.enters : ∀ f, f ∈ ([7, 8, 16] : List Nat) → Enters Tryd.prog f := by
  intro f hf
  simp only [List.mem_cons, List.not_mem_nil, or_false] at hf
  rcases hf with rfl | rfl | rfl
  · exact en7
  · exact en8
  · exact en16
theorem f4.calls {Z : List PanicEntry → World → Prop} {x0 x1 x2 : Value} {w : World} {Q : Value → World → Prop} (h : f4.sh Z x0 x1 x2 w Q) : CallV Tryd.prog Z 4 #[x0, x1, x2] w Q :=
  calls_of_vcn drawD_sound (Q := Q) (n := 103) (rs := Tryd.f4.results) (an := f4.an) (c := f4.code) (cal := [7, 8, 16]) (args := [x0, x1, x2]) Tryd.func4 (by kernel_rfl) rfl f4.body_eq follows (Nat.le_of_ble_eq_true (by kernel_rfl)) (enters_of_all f4.enters) ((f4.shape Z x0 x1 x2 w Q).mpr h)

/-! ### 5: lagoon/lagoonlaw14.ChooseHand -/
def f5.sh (Z : List PanicEntry → World → Prop) (x0 : Value) (w : World) (Q : Value → World → Prop) : Prop :=
  run1 Tryd.prog Z (Instr.box 54 x0) w fun t1_1 w =>
  run1 Tryd.prog Z (Instr.fieldAt 54 t1_1 2) w fun t11_2 w =>
  run1 Tryd.prog Z (Instr.loadAt 22 t11_2) w fun t12_3 w =>
  CallV Tryd.prog Z 7 #[t12_3] w fun t13_4 w =>
  CondV t13_4 (
    Q (Value.bool true) w) (
    CallV Tryd.prog Z 8 #[] w fun t14_5 w =>
    run1 Tryd.prog Z (Instr.fieldAt 54 t1_1 4) w fun t15_6 w =>
    run1 Tryd.prog Z (Instr.loadAt 3 t15_6) w fun t16_7 w =>
    run1 Tryd.prog Z (Instr.fieldAt 54 t1_1 2) w fun t17_8 w =>
    run1 Tryd.prog Z (Instr.loadAt 22 t17_8) w fun t18_9 w =>
    run1 Tryd.prog Z (Builtin.len_ #[22] 3 #[t18_9]) w fun t19_10 w =>
    run1 Tryd.prog Z (Instr.fieldAt 54 t1_1 3) w fun t20_11 w =>
    run0 Tryd.prog Z (Instr.storeAt 3 t20_11 t19_10) w fun w =>
    run1 Tryd.prog Z (Instr.loadAt 54 t1_1) w fun t22_12 w =>
    CallV Tryd.prog Z 16 #[t22_12] w fun t23_13 w =>
    run1 Tryd.prog Z (Instr.extract t23_13 0) w fun t24_14 w =>
    run1 Tryd.prog Z (Instr.extract t23_13 1) w fun t25_15 w =>
    run1 Tryd.prog Z (Instr.alloc 33 true (.tuple #[])) w fun t5_16 w =>
    run0 Tryd.prog Z (Instr.storeAt 33 t5_16 t24_14) w fun w =>
    run1 Tryd.prog Z (Instr.fieldAt 54 t1_1 3) w fun t26_17 w =>
    run0 Tryd.prog Z (Instr.storeAt 3 t26_17 (Value.int IntKind.i64 0)) w fun w =>
    run1 Tryd.prog Z (Instr.fieldAt 54 t1_1 4) w fun t27_18 w =>
    run1 Tryd.prog Z (Instr.loadAt 3 t27_18) w fun t28_19 w =>
    run1 Tryd.prog Z (binOp BinOp.rem 3 t28_19 (Value.int IntKind.i64 1000)) w fun t29_20 w =>
    run1 Tryd.prog Z (Instr.fieldAt 54 t1_1 4) w fun t30_21 w =>
    run1 Tryd.prog Z (Instr.loadAt 3 t30_21) w fun t31_22 w =>
    run1 Tryd.prog Z (binOp BinOp.rem 3 t31_22 (Value.int IntKind.i64 1000)) w fun t32_23 w =>
    run1 Tryd.prog Z (binOp BinOp.mul 3 t29_20 t32_23) w fun t33_24 w =>
    run1 Tryd.prog Z (binOp BinOp.add 3 (Value.int IntKind.i64 1) t33_24) w fun t34_25 w =>
    run1 Tryd.prog Z (Instr.fieldAt 54 t1_1 4) w fun t35_26 w =>
    run0 Tryd.prog Z (Instr.storeAt 3 t35_26 t34_25) w fun w =>
    run1 Tryd.prog Z (Instr.fieldAt 54 t1_1 5) w fun t36_27 w =>
    run0 Tryd.prog Z (Instr.storeAt 23 t36_27 (Value.float FloatKind.f64 13830554455654793216)) w fun w =>
    run1 Tryd.prog Z (Instr.loadAt 54 t1_1) w fun t38_28 w =>
    CallV Tryd.prog Z 16 #[t38_28] w fun t39_29 w =>
    run1 Tryd.prog Z (Instr.extract t39_29 0) w fun t40_30 w =>
    run1 Tryd.prog Z (Instr.extract t39_29 1) w fun t41_31 w =>
    run1 Tryd.prog Z (Instr.alloc 33 true (.tuple #[])) w fun t7_32 w =>
    run0 Tryd.prog Z (Instr.storeAt 33 t7_32 t40_30) w fun w =>
    run1 Tryd.prog Z (Op.unary UnOp.not t14_5) w fun t43_33 w =>
    guardW (t43_33) false (fun k => run1 Tryd.prog Z (Instr.fieldAt 54 t1_1 1) w k) (fun t45_34 w =>
    guardW (t43_33) false (fun k => run1 Tryd.prog Z (Instr.loadAt 30 t45_34) w k) (fun t46_35 w =>
    guardW (t43_33) false (fun k => run1 Tryd.prog Z (Instr.fieldAt 54 t1_1 2) w k) (fun t47_36 w =>
    guardW (t43_33) false (fun k => run1 Tryd.prog Z (Instr.loadAt 22 t47_36) w k) (fun t48_37 w =>
    guardW (t43_33) false (fun k => CallV Tryd.prog Z 11 #[t46_35, t48_37] w k) (fun t49_38 w =>
    guardW (t43_33) false (fun k => run1 Tryd.prog Z (Op.unary UnOp.not t49_38) w k) (fun t50_39 w =>
    run1 Tryd.prog Z (pickV t43_33 (Value.bool true) t50_39) w fun t51_40 w =>
    CondV t51_40 (
      guardW (t14_5) true (fun k => k (t25_15) w) (fun t54_41 w =>
      guardW (t14_5) true (fun k => run1 Tryd.prog Z (eqOp BinOp.eql 34 false true t54_41 (Value.int IntKind.i64 1)) w k) (fun t55_42 w =>
      run1 Tryd.prog Z (pickV t14_5 t55_42 (Value.bool false)) w fun t56_43 w =>
      guardW (t56_43) true (fun k => k (t41_31) w) (fun t58_44 w =>
      guardW (t56_43) true (fun k => run1 Tryd.prog Z (eqOp BinOp.eql 34 false true t58_44 (Value.int IntKind.i64 1)) w k) (fun t59_45 w =>
      run1 Tryd.prog Z (pickV t56_43 t59_45 (Value.bool false)) w fun t60_46 w =>
      Q t60_46 w) w) w) w) w) (
      run1 Tryd.prog Z (Instr.fieldAt 54 t1_1 0) w fun t61_47 w =>
      run1 Tryd.prog Z (Instr.loadAt 30 t61_47) w fun t62_48 w =>
      run1 Tryd.prog Z (Instr.fieldAt 54 t1_1 1) w fun t63_49 w =>
      run1 Tryd.prog Z (Instr.loadAt 30 t63_49) w fun t64_50 w =>
      CallV Tryd.prog Z 17 #[t62_48, t64_50] w fun t65_51 w =>
      run1 Tryd.prog Z (binOp BinOp.lss 3 t65_51 (Value.int IntKind.i64 0)) w fun t66_52 w =>
      Drawn w fun w =>
      Pure1 Tryd.prog (Instr.fieldAt 54 t1_1 0) fun t67_53 =>
      Read1 Tryd.prog (Instr.loadAt 30 t67_53) w fun t68_54 =>
      Pure1 Tryd.prog (Instr.fieldAt 54 t1_1 1) fun t69_55 =>
      Read1 Tryd.prog (Instr.loadAt 30 t69_55) w fun t70_56 =>
      Pure1 Tryd.prog (Instr.fieldAt 54 t1_1 2) fun t71_57 =>
      Read1 Tryd.prog (Instr.loadAt 22 t71_57) w fun t72_58 =>
      CallV Tryd.prog Z 10 #[t70_56, t72_58] w fun t73_59 w =>
        Still Tryd.prog (nx (Instr.loadAt 30 t67_53)) t68_54 w <|
      CallV Tryd.prog Z 17 #[t68_54, t73_59] w fun t74_60 w =>
      Pure1 Tryd.prog (binOp BinOp.lss 3 t74_60 (Value.int IntKind.i64 0)) fun t75_61 =>
      run1 Tryd.prog Z (eqOp BinOp.eql 34 false true t25_15 (Value.int IntKind.i64 0)) w fun t77_62 w =>
      guardW (t77_62) true (fun k => run1 Tryd.prog Z (Instr.fieldAt 33 t5_16 0) w k) (fun t79_63 w =>
      guardW (t77_62) true (fun k => run1 Tryd.prog Z (Instr.loadAt 31 t79_63) w k) (fun t80_64 w =>
      guardW (t77_62) true (fun k => run1 Tryd.prog Z (eqOp BinOp.eql 31 false true t80_64 (Value.int IntKind.i8 4)) w k) (fun t81_65 w =>
      guardW (t77_62) true (fun k => k (t66_52) w) (fun t82_66 w =>
      guardW (t77_62) true (fun k => run1 Tryd.prog Z (eqOp BinOp.neq 4 false false t81_65 t82_66) w k) (fun t83_67 w =>
      run1 Tryd.prog Z (pickV t77_62 t83_67 (Value.bool false)) w fun t84_68 w =>
      guardW (t84_68) false (fun k => k (t25_15) w) (fun t86_69 w =>
      guardW (t84_68) false (fun k => run1 Tryd.prog Z (eqOp BinOp.neq 34 false true t86_69 (Value.int IntKind.i64 0)) w k) (fun t87_70 w =>
      guardW (t84_68) false (fun k => k (t87_70) w) (fun t88_71 w =>
      guardW (t88_71) true (fun k => k (t16_7) w) (fun t89_72 w =>
      guardW (t88_71) true (fun k => run1 Tryd.prog Z (binOp BinOp.geq 3 t89_72 (Value.int IntKind.i64 0)) w k) (fun t90_73 w =>
      guardW (t84_68) false (fun k => run1 Tryd.prog Z (pickV t88_71 t90_73 (Value.bool false)) w k) (fun t91_74 w =>
      run1 Tryd.prog Z (pickV t84_68 (Value.bool true) t91_74) w fun t92_75 w =>
      CondV t92_75 (
        Q (Value.bool false) w) (
        run1 Tryd.prog Z (eqOp BinOp.eql 34 false true t41_31 (Value.int IntKind.i64 0)) w fun t94_76 w =>
        guardW (t94_76) true (fun k => run1 Tryd.prog Z (Instr.fieldAt 33 t7_32 0) w k) (fun t96_77 w =>
        guardW (t94_76) true (fun k => run1 Tryd.prog Z (Instr.loadAt 31 t96_77) w k) (fun t97_78 w =>
        guardW (t94_76) true (fun k => run1 Tryd.prog Z (eqOp BinOp.eql 31 false true t97_78 (Value.int IntKind.i8 4)) w k) (fun t98_79 w =>
        guardW (t94_76) true (fun k => k (t66_52) w) (fun t99_80 w =>
        guardW (t94_76) true (fun k => k (t99_80) w) (fun t100_81 w =>
        guardW (t100_81) false (fun k => k (t75_61) w) (fun t101_82 w =>
        guardW (t94_76) true (fun k => run1 Tryd.prog Z (pickV t100_81 (Value.bool true) t101_82) w k) (fun t102_83 w =>
        guardW (t94_76) true (fun k => run1 Tryd.prog Z (eqOp BinOp.eql 4 false false t98_79 t102_83) w k) (fun t103_84 w =>
        run1 Tryd.prog Z (pickV t94_76 t103_84 (Value.bool false)) w fun t104_85 w =>
        Q t104_85 w) w) w) w) w) w) w) w) w)) w) w) w) w) w) w) w) w) w) w) w)) w) w) w) w) w) w)
noncomputable def f5.code : Code := match Tryd.f5.body with | some c => c | none => .skip
def f5.an : An := (.sq .leaf (.sq (.sq .leaf (.cn (.sq .leaf .leaf) .leaf)) (.sq .leaf (.sq .leaf (.sq .leaf (.sq .leaf (.sq .leaf (.sq .leaf (.sq .leaf (.sq .leaf (.sq (.sq .leaf (.cn (.sq .leaf .leaf) .leaf)) (.sq .leaf (.sq (.dr (.take 0 false (.take 1 true (.take 2 false (.take 3 true (.take 4 false (.take 5 true (.one 6 (.one 7 (.take 8 false (.take 9 false .fin))))))))))) (.sq (.sq .leaf (.cn (.sq .leaf .leaf) .leaf)) (.sq .leaf .leaf)))))))))))))))
theorem f5.body_eq : Tryd.f5.body = some f5.code := by kernel_rfl
theorem f5.shape (Z : List PanicEntry → World → Prop) (x0 : Value) (w : World) (Q : Value → World → Prop) : vc drawD Tryd.prog 105 Z [7, 8, 16, 11, 17, 10] f5.an f5.code (fnQ Tryd.prog 105 Tryd.f5.results Q) (argEnv [x0]) w = f5.sh Z x0 w Q := by kernel_rfl
theorem f5.enters : ∀ f, f ∈ ([7, 8, 16, 11, 17, 10] : List Nat) → Enters Tryd.prog f := by
  intro f hf
  simp only [List.mem_cons, List.not_mem_nil, or_false] at hf
  rcases hf with rfl | rfl | rfl | rfl | rfl | rfl
  · exact en7
  · exact en8
  · exact en16
  · exact en11
  · exact en17
  · exact en10
theorem f5.calls {Z : List PanicEntry → World → Prop} {x0 : Value} {w : World} {Q : Value → World → Prop} (h : f5.sh Z x0 w Q) : CallV Tryd.prog Z 5 #[x0] w Q :=
  calls_of_vcn drawD_sound (Q := Q) (n := 105) (rs := Tryd.f5.results) (an := f5.an) (c := f5.code) (cal := [7, 8, 16, 11, 17, 10]) (args := [x0]) Tryd.func5 (by kernel_rfl) rfl f5.body_eq follows (Nat.le_of_ble_eq_true (by kernel_rfl)) (enters_of_all f5.enters) ((f5.shape Z x0 w Q).mpr h)

/-! ### 6: lagoon/lagoonlaw14.ChooseSizes -/
def f6.sh (Z : List PanicEntry → World → Prop) (x0 x1 x2 : Value) (w : World) (Q : Value → World → Prop) : Prop :=
  CallV Tryd.prog Z 7 #[x0] w fun t15_1 w =>
  CondV t15_1 (
    Q (Value.bool true) w) (
    CallV Tryd.prog Z 8 #[] w fun t16_2 w =>
    CallV Tryd.prog Z 18 #[x0] w fun t18_3 w =>
    CallV Tryd.prog Z 19 #[t18_3] w fun t20_4 w =>
    CallV Tryd.prog Z 20 #[x0] w fun t22_5 w =>
    CallV Tryd.prog Z 21 #[t20_4, x1, x2] w fun t26_6 w =>
    CallV Tryd.prog Z 21 #[x1, t20_4, x2] w fun t30_7 w =>
    CallV Tryd.prog Z 21 #[(Value.int IntKind.i64 0), x1, x2] w fun t33_8 w =>
    guardW (t16_2) true (fun k => k (t20_4) w) (fun t36_9 w =>
    guardW (t16_2) true (fun k => k (t22_5) w) (fun t37_10 w =>
    guardW (t16_2) true (fun k => run1 Tryd.prog Z (eqOp BinOp.eql 3 false false t36_9 t37_10) w k) (fun t38_11 w =>
    run1 Tryd.prog Z (pickV t16_2 t38_11 (Value.bool false)) w fun t39_12 w =>
    guardW (t39_12) true (fun k => k (t26_6) w) (fun t41_13 w =>
    guardW (t39_12) true (fun k => k (t22_5) w) (fun t42_14 w =>
    guardW (t39_12) true (fun k => k (x1) w) (fun t43_15 w =>
    guardW (t39_12) true (fun k => k (x2) w) (fun t44_16 w =>
    guardW (t39_12) true (fun k => CallV Tryd.prog Z 22 #[t42_14, t43_15, t44_16] w k) (fun t45_17 w =>
    guardW (t39_12) true (fun k => run1 Tryd.prog Z (eqOp BinOp.eql 4 false false t41_13 t45_17) w k) (fun t46_18 w =>
    run1 Tryd.prog Z (pickV t39_12 t46_18 (Value.bool false)) w fun t47_19 w =>
    guardW (t47_19) true (fun k => k (t30_7) w) (fun t49_20 w =>
    guardW (t47_19) true (fun k => k (x1) w) (fun t50_21 w =>
    guardW (t47_19) true (fun k => k (t22_5) w) (fun t51_22 w =>
    guardW (t47_19) true (fun k => k (x2) w) (fun t52_23 w =>
    guardW (t47_19) true (fun k => CallV Tryd.prog Z 22 #[t50_21, t51_22, t52_23] w k) (fun t53_24 w =>
    guardW (t47_19) true (fun k => run1 Tryd.prog Z (eqOp BinOp.eql 4 false false t49_20 t53_24) w k) (fun t54_25 w =>
    run1 Tryd.prog Z (pickV t47_19 t54_25 (Value.bool false)) w fun t55_26 w =>
    guardW (t55_26) true (fun k => k (t33_8) w) (fun t57_27 w =>
    guardW (t55_26) true (fun k => k (x1) w) (fun t58_28 w =>
    guardW (t55_26) true (fun k => k (x2) w) (fun t59_29 w =>
    guardW (t55_26) true (fun k => CallV Tryd.prog Z 22 #[(Value.int IntKind.i64 0), t58_28, t59_29] w k) (fun t60_30 w =>
    guardW (t55_26) true (fun k => run1 Tryd.prog Z (eqOp BinOp.eql 4 false false t57_27 t60_30) w k) (fun t61_31 w =>
    run1 Tryd.prog Z (pickV t55_26 t61_31 (Value.bool false)) w fun t62_32 w =>
    guardW (t62_32) true (fun k => k (t18_3) w) (fun t64_33 w =>
    guardW (t62_32) true (fun k => k (x0) w) (fun t65_34 w =>
    guardW (t62_32) true (fun k => CallV Tryd.prog Z 15 #[t64_33, t65_34] w k) (fun t66_35 w =>
    run1 Tryd.prog Z (pickV t62_32 t66_35 (Value.bool false)) w fun t67_36 w =>
    guardW (t67_36) true (fun k => k (t18_3) w) (fun t69_37 w =>
    guardW (t67_36) true (fun k => CallV Tryd.prog Z 23 #[t69_37] w k) (fun t70_38 w =>
    run1 Tryd.prog Z (pickV t67_36 t70_38 (Value.bool false)) w fun t71_39 w =>
    Q t71_39 w) w) w) w) w) w) w) w) w) w) w) w) w) w) w) w) w) w) w) w) w) w) w) w) w) w)
noncomputable def f6.code : Code := match Tryd.f6.body with | some c => c | none => .skip
def f6.an : An := (.sq .leaf (.sq (.sq .leaf (.cn (.sq .leaf .leaf) .leaf)) (.sq .leaf (.sq .leaf (.sq .leaf (.sq .leaf (.sq .leaf (.sq .leaf (.sq .leaf (.sq .leaf .leaf))))))))))
theorem f6.body_eq : Tryd.f6.body = some f6.code := by kernel_rfl
theorem f6.shape (Z : List PanicEntry → World → Prop) (x0 x1 x2 : Value) (w : World) (Q : Value → World → Prop) : vc drawD Tryd.prog 72 Z [7, 8, 18, 19, 20, 21, 22, 15, 23] f6.an f6.code (fnQ Tryd.prog 72 Tryd.f6.results Q) (argEnv [x0, x1, x2]) w = f6.sh Z x0 x1 x2 w Q := by kernel_rfl
theorem f6.enters : ∀ f, f ∈ ([7, 8, 18, 19, 20, 21, 22, 15, 23] : List Nat) → Enters Tryd.prog f := by
  intro f hf
  simp only [List.mem_cons, List.not_mem_nil, or_false] at hf
  rcases hf with rfl | rfl | rfl | rfl | rfl | rfl | rfl | rfl | rfl
  · exact en7
  · exact en8
  · exact en18
  · exact en19
  · exact en20
  · exact en21
  · exact en22
  · exact en15
  · exact en23
theorem f6.calls {Z : List PanicEntry → World → Prop} {x0 x1 x2 : Value} {w : World} {Q : Value → World → Prop} (h : f6.sh Z x0 x1 x2 w Q) : CallV Tryd.prog Z 6 #[x0, x1, x2] w Q :=
  calls_of_vcn drawD_sound (Q := Q) (n := 72) (rs := Tryd.f6.results) (an := f6.an) (c := f6.code) (cal := [7, 8, 18, 19, 20, 21, 22, 15, 23]) (args := [x0, x1, x2]) Tryd.func6 (by kernel_rfl) rfl f6.body_eq follows (Nat.le_of_ble_eq_true (by kernel_rfl)) (enters_of_all f6.enters) ((f6.shape Z x0 x1 x2 w Q).mpr h)

/-! ### 7: lagoon/lagoonref00.LargeTxns -/
def f7.sh (Z : List PanicEntry → World → Prop) (x0 : Value) (w : World) (Q : Value → World → Prop) : Prop :=
  ∃ J_1 : Nat → Value → Value → World → Prop, (∃ m, J_1 m (Value.int IntKind.i64 0) (Value.int IntKind.i64 0) w) ∧
    ∀ m_1, ∀ t3_2 : Value, ∀ t4_3 : Value, ∀ w : World, J_1 m_1 t3_2 t4_3 w → Env →
      run1 Tryd.prog Z (Builtin.len_ #[22] 3 #[x0]) w fun t7_4 w =>
      run1 Tryd.prog Z (binOp BinOp.lss 3 t4_3 t7_4) w fun t8_5 w =>
      guardW (t8_5) true (fun k => k (t3_2) w) (fun t10_6 w =>
      guardW (t8_5) true (fun k => run1 Tryd.prog Z (binOp BinOp.leq 3 t10_6 (Value.int IntKind.i64 1000000)) w k) (fun t11_7 w =>
      run1 Tryd.prog Z (pickV t8_5 t11_7 (Value.bool false)) w fun t12_8 w =>
      CondV t12_8 (
        run1 Tryd.prog Z (Instr.indexAt 22 x0 t4_3) w fun t17_9 w =>
        run1 Tryd.prog Z (Instr.fieldAt 49 t17_9 2) w fun t18_10 w =>
        run1 Tryd.prog Z (Instr.loadAt 47 t18_10) w fun t19_11 w =>
        CallV Tryd.prog Z 24 #[t19_11] w fun t20_12 w =>
        CondV t20_12 (
          Q (Value.bool true) w) (
          run1 Tryd.prog Z (binOp BinOp.add 3 t3_2 (Value.int IntKind.i64 1)) w fun t22_13 w =>
          run1 Tryd.prog Z (Instr.indexAt 22 x0 t4_3) w fun t25_14 w =>
          run1 Tryd.prog Z (Instr.fieldAt 49 t25_14 2) w fun t26_15 w =>
          run1 Tryd.prog Z (Instr.loadAt 47 t26_15) w fun t27_16 w =>
          CallV Tryd.prog Z 25 #[t27_16] w fun t28_17 w =>
          run1 Tryd.prog Z (binOp BinOp.add 3 t22_13 t28_17) w fun t29_18 w =>
          run1 Tryd.prog Z (binOp BinOp.add 3 t4_3 (Value.int IntKind.i64 1)) w fun t14_19 w =>
          ∃ n_1, n_1 < m_1 ∧ J_1 n_1 t29_18 t14_19 w)) (
        run1 Tryd.prog Z (binOp BinOp.gtr 3 t3_2 (Value.int IntKind.i64 1000000)) w fun t31_20 w =>
        Q t31_20 w)) w) w
noncomputable def f7.code : Code := match Tryd.f7.body with | some c => c | none => .skip
def f7.an : An := (.sq .leaf (.sq .leaf (.sq (.sq .leaf (.bl (.lp [3, 4] [2, 3, 4, 5, 6, 7, 8, 9, 10, 11, 12, 13, 14, 15, 16, 17, 18, 19, 20, 21, 22, 23, 24, 25, 26, 27, 28, 29] (.sq (.sq .leaf (.cn .leaf .leaf)) (.sq (.bl (.sq (.sq .leaf (.cn (.sq .leaf .leaf) .leaf)) .leaf)) .leaf))))) (.sq .leaf .leaf))))
theorem f7.body_eq : Tryd.f7.body = some f7.code := by kernel_rfl
theorem f7.shape (Z : List PanicEntry → World → Prop) (x0 : Value) (w : World) (Q : Value → World → Prop) : vc drawD Tryd.prog 32 Z [24, 25] f7.an f7.code (fnQ Tryd.prog 32 Tryd.f7.results Q) (argEnv [x0]) w = f7.sh Z x0 w Q := by kernel_rfl
theorem f7.enters : ∀ f, f ∈ ([24, 25] : List Nat) → Enters Tryd.prog f := by
  intro f hf
  simp only [List.mem_cons, List.not_mem_nil, or_false] at hf
  rcases hf with rfl | rfl
  · exact en24
  · exact en25
theorem f7.calls {Z : List PanicEntry → World → Prop} {x0 : Value} {w : World} {Q : Value → World → Prop} (h : f7.sh Z x0 w Q) : CallV Tryd.prog Z 7 #[x0] w Q :=
  calls_of_vcn drawD_sound (Q := Q) (n := 32) (rs := Tryd.f7.results) (an := f7.an) (c := f7.code) (cal := [24, 25]) (args := [x0]) Tryd.func7 (by kernel_rfl) rfl f7.body_eq follows (Nat.le_of_ble_eq_true (by kernel_rfl)) (enters_of_all f7.enters) ((f7.shape Z x0 w Q).mpr h)

/-! ### 8: lagoon/lagoonlaw14.lives -/
def f8.sh (Z : List PanicEntry → World → Prop) (w : World) (Q : Value → World → Prop) : Prop :=
  run1 Tryd.prog Z (Instr.build 30 #[]) w fun t4_1 w =>
  run1 Tryd.prog Z (Instr.build 30 #[]) w fun t5_2 w =>
  CallV Tryd.prog Z 26 #[] w fun t6_3 w =>
  CallV Tryd.prog Z 9 #[t4_1, t5_2, t6_3, (Value.int IntKind.i64 1), (Value.int IntKind.i64 0), (Value.float FloatKind.f64 0)] w fun t7_4 w =>
  run1 Tryd.prog Z (Instr.extract t7_4 0) w fun t8_5 w =>
  run1 Tryd.prog Z (Instr.extract t7_4 1) w fun t9_6 w =>
  run1 Tryd.prog Z (Instr.alloc 33 true (.tuple #[])) w fun t1_7 w =>
  run0 Tryd.prog Z (Instr.storeAt 33 t1_7 t8_5) w fun w =>
  run1 Tryd.prog Z (eqOp BinOp.eql 34 false true t9_6 (Value.int IntKind.i64 0)) w fun t11_8 w =>
  guardW (t11_8) true (fun k => run1 Tryd.prog Z (Instr.fieldAt 33 t1_7 0) w k) (fun t13_9 w =>
  guardW (t11_8) true (fun k => run1 Tryd.prog Z (Instr.loadAt 31 t13_9) w k) (fun t14_10 w =>
  guardW (t11_8) true (fun k => run1 Tryd.prog Z (eqOp BinOp.eql 31 false true t14_10 (Value.int IntKind.i8 1)) w k) (fun t15_11 w =>
  run1 Tryd.prog Z (pickV t11_8 t15_11 (Value.bool false)) w fun t16_12 w =>
  guardW (t16_12) true (fun k => run1 Tryd.prog Z (Instr.fieldAt 33 t1_7 2) w k) (fun t18_13 w =>
  guardW (t16_12) true (fun k => run1 Tryd.prog Z (Instr.loadAt 4 t18_13) w k) (fun t19_14 w =>
  run1 Tryd.prog Z (pickV t16_12 t19_14 (Value.bool false)) w fun t20_15 w =>
  guardW (t20_15) true (fun k => CallV Tryd.prog Z 26 #[] w k) (fun t22_16 w =>
  guardW (t20_15) true (fun k => CallV Tryd.prog Z 19 #[t22_16] w k) (fun t23_17 w =>
  guardW (t20_15) true (fun k => run1 Tryd.prog Z (eqOp BinOp.eql 3 false true t23_17 (Value.int IntKind.i64 26)) w k) (fun t24_18 w =>
  run1 Tryd.prog Z (pickV t20_15 t24_18 (Value.bool false)) w fun t25_19 w =>
  Q t25_19 w) w) w) w) w) w) w) w) w
noncomputable def f8.code : Code := match Tryd.f8.body with | some c => c | none => .skip
def f8.an : An := (.sq .leaf (.sq .leaf (.sq .leaf .leaf)))
theorem f8.body_eq : Tryd.f8.body = some f8.code := by kernel_rfl
theorem f8.shape (Z : List PanicEntry → World → Prop) (w : World) (Q : Value → World → Prop) : vc drawD Tryd.prog 26 Z [26, 9, 19] f8.an f8.code (fnQ Tryd.prog 26 Tryd.f8.results Q) (argEnv []) w = f8.sh Z  w Q := by kernel_rfl
theorem f8.enters : ∀ f, f ∈ ([26, 9, 19] : List Nat) → Enters Tryd.prog f := by
  intro f hf
  simp only [List.mem_cons, List.not_mem_nil, or_false] at hf
  rcases hf with rfl | rfl | rfl
  · exact en26
  · exact en9
  · exact en19
theorem f8.calls {Z : List PanicEntry → World → Prop} {w : World} {Q : Value → World → Prop} (h : f8.sh Z  w Q) : CallV Tryd.prog Z 8 #[] w Q :=
  calls_of_vcn drawD_sound (Q := Q) (n := 26) (rs := Tryd.f8.results) (an := f8.an) (c := f8.code) (cal := [26, 9, 19]) (args := []) Tryd.func8 (by kernel_rfl) rfl f8.body_eq follows (Nat.le_of_ble_eq_true (by kernel_rfl)) (enters_of_all f8.enters) ((f8.shape Z  w Q).mpr h)

/-! ### 9: lagoon/choose.Way -/
def f9.sh (Z : List PanicEntry → World → Prop) (x0 x1 x2 x3 x4 x5 : Value) (w : World) (Q : Value → World → Prop) : Prop :=
  run1 Tryd.prog Z (Instr.box 30 x0) w fun t6_1 w =>
  run1 Tryd.prog Z (Instr.box 30 x1) w fun t7_2 w =>
  run1 Tryd.prog Z (Instr.alloc 33 true (.tuple #[])) w fun t12_3 w =>
  run1 Tryd.prog Z (Instr.loadAt 30 t7_2) w fun t16_4 w =>
  CallV Tryd.prog Z 27 #[t16_4, x2] w fun t18_5 w =>
  run1 Tryd.prog Z (Op.unary UnOp.not t18_5) w fun t19_6 w =>
  guardW (t19_6) false (fun k => k (x3) w) (fun t21_7 w =>
  guardW (t19_6) false (fun k => run1 Tryd.prog Z (binOp BinOp.lss 3 t21_7 (Value.int IntKind.i64 0)) w k) (fun t22_8 w =>
  run1 Tryd.prog Z (pickV t19_6 (Value.bool true) t22_8) w fun t23_9 w =>
  guardW (t23_9) false (fun k => k (x3) w) (fun t25_10 w =>
  guardW (t23_9) false (fun k => k (x2) w) (fun t26_11 w =>
  guardW (t23_9) false (fun k => run1 Tryd.prog Z (Builtin.len_ #[22] 3 #[t26_11]) w k) (fun t27_12 w =>
  guardW (t23_9) false (fun k => run1 Tryd.prog Z (binOp BinOp.gtr 3 t25_10 t27_12) w k) (fun t28_13 w =>
  run1 Tryd.prog Z (pickV t23_9 (Value.bool true) t28_13) w fun t29_14 w =>
  guardW (t29_14) false (fun k => k (x4) w) (fun t31_15 w =>
  guardW (t29_14) false (fun k => run1 Tryd.prog Z (binOp BinOp.lss 3 t31_15 (Value.int IntKind.i64 0)) w k) (fun t32_16 w =>
  run1 Tryd.prog Z (pickV t29_14 (Value.bool true) t32_16) w fun t33_17 w =>
  CondV t33_17 (
    run1 Tryd.prog Z (Instr.build 33 #[]) w fun t34_18 w =>
    run0 Tryd.prog Z (Instr.storeAt 33 t12_3 t34_18) w fun w =>
    ∃ r_19, (do loadVar 33 (← asAddr t12_3) : Sem Value).run Tryd.prog w = .ok r_19 w ∧
    Q (Value.tuple #[r_19, (Value.int IntKind.i64 1)]) w) (
    run1 Tryd.prog Z (Instr.loadAt 30 t6_1) w fun t35_20 w =>
    run1 Tryd.prog Z (Instr.loadAt 30 t7_2) w fun t36_21 w =>
    CallV Tryd.prog Z 28 #[t35_20, t36_21] w fun t37_22 w =>
    run1 Tryd.prog Z (binOp BinOp.lss 3 t37_22 (Value.int IntKind.i64 0)) w fun t38_23 w =>
    CondV t38_23 (
      run1 Tryd.prog Z (Instr.build 33 #[(0, (Value.int IntKind.i8 4))]) w fun t39_24 w =>
      run0 Tryd.prog Z (Instr.storeAt 33 t12_3 t39_24) w fun w =>
      ∃ r_25, (do loadVar 33 (← asAddr t12_3) : Sem Value).run Tryd.prog w = .ok r_25 w ∧
      Q (Value.tuple #[r_25, (Value.int IntKind.i64 0)]) w) (
      run1 Tryd.prog Z (Instr.makeFunc (Fn.func 30) #[] #[t6_1]) w fun t41_26 w =>
      CallV Tryd.prog Z 29 #[x2, t41_26] w fun t42_27 w =>
      run1 Tryd.prog Z (Instr.loadAt 30 t7_2) w fun t43_28 w =>
      run1 Tryd.prog Z (Builtin.len_ #[22] 3 #[x2]) w fun t45_29 w =>
      run1 Tryd.prog Z (binOp BinOp.sub 3 t45_29 t42_27) w fun t47_30 w =>
      run1 Tryd.prog Z (binOp BinOp.leq 3 t47_30 x3) w fun t49_31 w =>
      run1 Tryd.prog Z (Instr.build 33 #[(1, t43_28), (2, t49_31)]) w fun t50_32 w =>
      run1 Tryd.prog Z (Instr.alloc 33 true (.tuple #[])) w fun t15_33 w =>
      run0 Tryd.prog Z (Instr.storeAt 33 t15_33 t50_32) w fun w =>
      ∀ j_34 : World → Prop, (∀ w : World, (Env →
          run1 Tryd.prog Z (Instr.fieldAt 33 t15_33 2) w fun t60_35 w =>
          run1 Tryd.prog Z (Instr.loadAt 4 t60_35) w fun t61_36 w =>
          run1 Tryd.prog Z (Op.unary UnOp.not t61_36) w fun t62_37 w =>
          guardW (t62_37) true (fun k => k (x2) w) (fun t64_38 w =>
          guardW (t62_37) true (fun k => k (t42_27) w) (fun t65_39 w =>
          guardW (t62_37) true (fun k => run1 Tryd.prog Z (Instr.sliceAt 22 t64_38 (some t65_39) none none) w k) (fun t66_40 w =>
          guardW (t62_37) true (fun k => CallV Tryd.prog Z 19 #[t66_40] w k) (fun t67_41 w =>
          guardW (t62_37) true (fun k => k (x4) w) (fun t68_42 w =>
          guardW (t62_37) true (fun k => k (x5) w) (fun t69_43 w =>
          guardW (t62_37) true (fun k => CallV Tryd.prog Z 21 #[t67_41, t68_42, t69_43] w k) (fun t70_44 w =>
          guardW (t62_37) true (fun k => run1 Tryd.prog Z (Op.unary UnOp.not t70_44) w k) (fun t71_45 w =>
          run1 Tryd.prog Z (pickV t62_37 t71_45 (Value.bool false)) w fun t72_46 w =>
          CondV t72_46 (
            run1 Tryd.prog Z (Instr.build 33 #[(0, (Value.int IntKind.i8 4))]) w fun t73_47 w =>
            run0 Tryd.prog Z (Instr.storeAt 33 t12_3 t73_47) w fun w =>
            ∃ r_48, (do loadVar 33 (← asAddr t12_3) : Sem Value).run Tryd.prog w = .ok r_48 w ∧
            Q (Value.tuple #[r_48, (Value.int IntKind.i64 0)]) w) (
            run1 Tryd.prog Z (Instr.fieldAt 33 t15_33 0) w fun t74_49 w =>
            run0 Tryd.prog Z (Instr.storeAt 31 t74_49 (Value.int IntKind.i8 1)) w fun w =>
            ∀ j_50 : World → Prop, (∀ w : World, (Env →
                run1 Tryd.prog Z (Instr.loadAt 33 t15_33) w fun t93_51 w =>
                run0 Tryd.prog Z (Instr.storeAt 33 t12_3 t93_51) w fun w =>
                ∃ r_52, (do loadVar 33 (← asAddr t12_3) : Sem Value).run Tryd.prog w = .ok r_52 w ∧
                Q (Value.tuple #[r_52, (Value.int IntKind.i64 0)]) w) →
                j_50 w) →
            ∀ j_53 : World → Prop, (∀ w : World, (Env →
                run1 Tryd.prog Z (Instr.fieldAt 33 t15_33 0) w fun t89_54 w =>
                run1 Tryd.prog Z (Instr.loadAt 31 t89_54) w fun t90_55 w =>
                run1 Tryd.prog Z (binOp BinOp.add 31 t90_55 (Value.int IntKind.i8 1)) w fun t91_56 w =>
                run1 Tryd.prog Z (Instr.fieldAt 33 t15_33 0) w fun t92_57 w =>
                run0 Tryd.prog Z (Instr.storeAt 31 t92_57 t91_56) w fun w =>
                j_50 w) →
                j_53 w) →
            run1 Tryd.prog Z (Instr.fieldAt 33 t15_33 1) w fun t76_58 w =>
            run1 Tryd.prog Z (Instr.loadAt 30 t76_58) w fun t77_59 w =>
            run1 Tryd.prog Z (Instr.loadAt 30 t6_1) w fun t78_60 w =>
            run1 Tryd.prog Z (eqOp BinOp.eql 30 false false t77_59 t78_60) w fun t79_61 w =>
            CondV t79_61 (
              j_50 w) (
              run1 Tryd.prog Z (Builtin.len_ #[22] 3 #[x2]) w fun t83_62 w =>
              run1 Tryd.prog Z (binOp BinOp.lss 3 t42_27 t83_62) w fun t84_63 w =>
              CondV t84_63 (
                run1 Tryd.prog Z (Instr.fieldAt 33 t15_33 0) w fun t85_64 w =>
                run1 Tryd.prog Z (Instr.loadAt 31 t85_64) w fun t86_65 w =>
                run1 Tryd.prog Z (binOp BinOp.add 31 t86_65 (Value.int IntKind.i8 1)) w fun t87_66 w =>
                run1 Tryd.prog Z (Instr.fieldAt 33 t15_33 0) w fun t88_67 w =>
                run0 Tryd.prog Z (Instr.storeAt 31 t88_67 t87_66) w fun w =>
                j_53 w) (
                j_53 w)))) w) w) w) w) w) w) w) w) →
          j_34 w) →
      run1 Tryd.prog Z (binOp BinOp.gtr 3 t42_27 (Value.int IntKind.i64 0)) w fun t52_68 w =>
      CondV t52_68 (
        run1 Tryd.prog Z (binOp BinOp.sub 3 t42_27 (Value.int IntKind.i64 1)) w fun t55_69 w =>
        run1 Tryd.prog Z (Instr.indexAt 22 x2 t55_69) w fun t56_70 w =>
        run1 Tryd.prog Z (Instr.fieldAt 49 t56_70 0) w fun t57_71 w =>
        run1 Tryd.prog Z (Instr.loadAt 30 t57_71) w fun t58_72 w =>
        run1 Tryd.prog Z (Instr.fieldAt 33 t15_33 1) w fun t59_73 w =>
        run0 Tryd.prog Z (Instr.storeAt 30 t59_73 t58_72) w fun w =>
        j_34 w) (
        j_34 w)))) w) w) w) w) w) w) w) w
noncomputable def f9.code : Code := match Tryd.f9.body with | some c => c | none => .skip
def f9.an : An := (.sq .leaf (.sq (.sq .leaf (.cn (.sq .leaf .leaf) .leaf)) (.sq (.sq .leaf (.cn (.sq .leaf .leaf) .leaf)) (.sq .leaf (.sq .leaf (.sj [] [51, 52, 53, 54, 55, 56, 57, 58, 59] (.sq .leaf (.cn .leaf .leaf)) (.sq (.sq .leaf (.cn (.sq .leaf .leaf) .leaf)) (.sq .leaf (.sj [] [75, 76, 77, 78, 79, 80, 81, 82, 83, 84, 85, 86, 87, 88, 89, 90, 91, 92] (.bl (.sj [] [75, 76, 77, 78, 79, 80, 81, 82, 83, 84, 85, 86, 87, 88] (.bl (.sq (.bl (.sq (.bl (.sq (.sq (.sq .leaf (.cn .leaf .leaf)) (.sq .leaf (.cn .leaf .leaf))) .leaf)) .leaf)) .leaf)) (.sq .leaf .leaf))) (.sq .leaf .leaf))))))))))
theorem f9.body_eq : Tryd.f9.body = some f9.code := by kernel_rfl
theorem f9.shape (Z : List PanicEntry → World → Prop) (x0 x1 x2 x3 x4 x5 : Value) (w : World) (Q : Value → World → Prop) : vc drawD Tryd.prog 94 Z [27, 28, 29, 19, 21] f9.an f9.code (fnQ Tryd.prog 94 Tryd.f9.results Q) (argEnv [x0, x1, x2, x3, x4, x5]) w = f9.sh Z x0 x1 x2 x3 x4 x5 w Q := by kernel_rfl
theorem f9.enters : ∀ f, f ∈ ([27, 28, 29, 19, 21] : List Nat) → Enters Tryd.prog f := by
  intro f hf
  simp only [List.mem_cons, List.not_mem_nil, or_false] at hf
  rcases hf with rfl | rfl | rfl | rfl | rfl
  · exact en27
  · exact en28
  · exact en29
  · exact en19
  · exact en21
theorem f9.calls {Z : List PanicEntry → World → Prop} {x0 x1 x2 x3 x4 x5 : Value} {w : World} {Q : Value → World → Prop} (h : f9.sh Z x0 x1 x2 x3 x4 x5 w Q) : CallV Tryd.prog Z 9 #[x0, x1, x2, x3, x4, x5] w Q :=
  calls_of_vcn drawD_sound (Q := Q) (n := 94) (rs := Tryd.f9.results) (an := f9.an) (c := f9.code) (cal := [27, 28, 29, 19, 21]) (args := [x0, x1, x2, x3, x4, x5]) Tryd.func9 (by kernel_rfl) rfl f9.body_eq follows (Nat.le_of_ble_eq_true (by kernel_rfl)) (enters_of_all f9.enters) ((f9.shape Z x0 x1 x2 x3 x4 x5 w Q).mpr h)

/-! ### 10: lagoon/lagoonlaw14.last -/
def f10.sh (Z : List PanicEntry → World → Prop) (x0 x1 : Value) (w : World) (Q : Value → World → Prop) : Prop :=
  run1 Tryd.prog Z (Instr.box 30 x0) w fun t2_1 w =>
  run1 Tryd.prog Z (Instr.alloc 30 true (.tuple #[])) w fun t4_2 w =>
  run1 Tryd.prog Z (Builtin.len_ #[22] 3 #[x1]) w fun t6_3 w =>
  run1 Tryd.prog Z (binOp BinOp.gtr 3 t6_3 (Value.int IntKind.i64 0)) w fun t7_4 w =>
  CondV t7_4 (
    run1 Tryd.prog Z (Builtin.len_ #[22] 3 #[x1]) w fun t10_5 w =>
    run1 Tryd.prog Z (binOp BinOp.sub 3 t10_5 (Value.int IntKind.i64 1)) w fun t11_6 w =>
    run1 Tryd.prog Z (Instr.indexAt 22 x1 t11_6) w fun t12_7 w =>
    run1 Tryd.prog Z (Instr.fieldAt 49 t12_7 0) w fun t13_8 w =>
    run1 Tryd.prog Z (Instr.loadAt 30 t13_8) w fun t14_9 w =>
    run0 Tryd.prog Z (Instr.storeAt 30 t4_2 t14_9) w fun w =>
    ∃ r_10, (do loadVar 30 (← asAddr t4_2) : Sem Value).run Tryd.prog w = .ok r_10 w ∧
    Q r_10 w) (
    run1 Tryd.prog Z (Instr.loadAt 30 t2_1) w fun t15_11 w =>
    run0 Tryd.prog Z (Instr.storeAt 30 t4_2 t15_11) w fun w =>
    ∃ r_12, (do loadVar 30 (← asAddr t4_2) : Sem Value).run Tryd.prog w = .ok r_12 w ∧
    Q r_12 w)
noncomputable def f10.code : Code := match Tryd.f10.body with | some c => c | none => .skip
def f10.an : An := (.sq .leaf (.sq (.sq .leaf (.cn (.sq .leaf .leaf) .leaf)) (.sq .leaf .leaf)))
theorem f10.body_eq : Tryd.f10.body = some f10.code := by kernel_rfl
theorem f10.shape (Z : List PanicEntry → World → Prop) (x0 x1 : Value) (w : World) (Q : Value → World → Prop) : vc drawD Tryd.prog 16 Z [] f10.an f10.code (fnQ Tryd.prog 16 Tryd.f10.results Q) (argEnv [x0, x1]) w = f10.sh Z x0 x1 w Q := by kernel_rfl
theorem f10.enters : ∀ f, f ∈ ([] : List Nat) → Enters Tryd.prog f := by
  intro f hf
  cases hf
theorem f10.calls {Z : List PanicEntry → World → Prop} {x0 x1 : Value} {w : World} {Q : Value → World → Prop} (h : f10.sh Z x0 x1 w Q) : CallV Tryd.prog Z 10 #[x0, x1] w Q :=
  calls_of_vcn drawD_sound (Q := Q) (n := 16) (rs := Tryd.f10.results) (an := f10.an) (c := f10.code) (cal := []) (args := [x0, x1]) Tryd.func10 (by kernel_rfl) rfl f10.body_eq follows (Nat.le_of_ble_eq_true (by kernel_rfl)) (enters_of_all f10.enters) ((f10.shape Z x0 x1 w Q).mpr h)

/-! ### 11: lagoon/lagoonlaw14.rises -/
def f11.sh (Z : List PanicEntry → World → Prop) (x0 x1 : Value) (w : World) (Q : Value → World → Prop) : Prop :=
  run1 Tryd.prog Z (Instr.box 30 x0) w fun t2_1 w =>
  ∃ J_2 : Nat → Value → World → Prop, (∃ m, J_2 m (Value.int IntKind.i64 0) w) ∧
    ∀ m_2, ∀ t5_3 : Value, ∀ w : World, J_2 m_2 t5_3 w → Env →
      run1 Tryd.prog Z (Builtin.len_ #[22] 3 #[x1]) w fun t8_4 w =>
      run1 Tryd.prog Z (binOp BinOp.lss 3 t5_3 t8_4) w fun t9_5 w =>
      CondV t9_5 (
        Drawn w fun w =>
        Read1 Tryd.prog (Instr.loadAt 30 t2_1) w fun t12_6 =>
        Pure1 Tryd.prog (Instr.indexAt 22 x1 t5_3) fun t15_7 =>
        Pure1 Tryd.prog (Instr.fieldAt 49 t15_7 0) fun t16_8 =>
        Read1 Tryd.prog (Instr.loadAt 30 t16_8) w fun t17_9 =>
        CallV Tryd.prog Z 17 #[t12_6, t17_9] w fun t18_10 w =>
        Pure1 Tryd.prog (binOp BinOp.geq 3 t18_10 (Value.int IntKind.i64 0)) fun t19_11 =>
        CondV t19_11 (
          Q (Value.bool false) w) (
          run1 Tryd.prog Z (Instr.indexAt 22 x1 t5_3) w fun t22_12 w =>
          run1 Tryd.prog Z (Instr.fieldAt 49 t22_12 0) w fun t23_13 w =>
          run1 Tryd.prog Z (Instr.loadAt 30 t23_13) w fun t24_14 w =>
          run0 Tryd.prog Z (Instr.storeAt 30 t2_1 t24_14) w fun w =>
          run1 Tryd.prog Z (binOp BinOp.add 3 t5_3 (Value.int IntKind.i64 1)) w fun t11_15 w =>
          ∃ n_2, n_2 < m_2 ∧ J_2 n_2 t11_15 w)) (
        Q (Value.bool true) w)
noncomputable def f11.code : Code := match Tryd.f11.body with | some c => c | none => .skip
def f11.an : An := (.sq .leaf (.sq (.sq .leaf (.bl (.lp [5] [4, 5, 6, 7, 8, 9, 10, 11, 12, 13, 14, 15, 16, 17, 18, 19, 20, 21, 22, 23, 24] (.sq (.sq .leaf (.cn .leaf .leaf)) (.sq (.bl (.sq (.sq (.dr (.take 0 true (.take 1 false (.take 2 false (.take 3 false (.take 4 false (.take 5 true (.one 6 (.take 7 false .fin))))))))) (.cn (.sq .leaf .leaf) .leaf)) .leaf)) .leaf))))) (.sq .leaf .leaf)))
theorem f11.body_eq : Tryd.f11.body = some f11.code := by kernel_rfl
theorem f11.shape (Z : List PanicEntry → World → Prop) (x0 x1 : Value) (w : World) (Q : Value → World → Prop) : vc drawD Tryd.prog 25 Z [17] f11.an f11.code (fnQ Tryd.prog 25 Tryd.f11.results Q) (argEnv [x0, x1]) w = f11.sh Z x0 x1 w Q := by kernel_rfl
theorem f11.enters : ∀ f, f ∈ ([17] : List Nat) → Enters Tryd.prog f := by
  intro f hf
  simp only [List.mem_cons, List.not_mem_nil, or_false] at hf
  rcases hf with rfl
  · exact en17
theorem f11.calls {Z : List PanicEntry → World → Prop} {x0 x1 : Value} {w : World} {Q : Value → World → Prop} (h : f11.sh Z x0 x1 w Q) : CallV Tryd.prog Z 11 #[x0, x1] w Q :=
  calls_of_vcn drawD_sound (Q := Q) (n := 25) (rs := Tryd.f11.results) (an := f11.an) (c := f11.code) (cal := [17]) (args := [x0, x1]) Tryd.func11 (by kernel_rfl) rfl f11.body_eq follows (Nat.le_of_ble_eq_true (by kernel_rfl)) (enters_of_all f11.enters) ((f11.shape Z x0 x1 w Q).mpr h)

/-! ### 12: lagoon/lagoonlaw14.agree -/
def f12.sh (Z : List PanicEntry → World → Prop) (x0 x1 : Value) (w : World) (Q : Value → World → Prop) : Prop :=
  ∃ J_1 : Nat → Value → World → Prop, (∃ m, J_1 m (Value.int IntKind.i64 0) w) ∧
    ∀ m_1, ∀ t5_2 : Value, ∀ w : World, J_1 m_1 t5_2 w → Env →
      run1 Tryd.prog Z (Builtin.len_ #[22] 3 #[x0]) w fun t9_3 w =>
      run1 Tryd.prog Z (binOp BinOp.lss 3 t5_2 t9_3) w fun t10_4 w =>
      CondV t10_4 (
        ∃ J_5 : Nat → Value → World → Prop, (∃ m, J_5 m (Value.int IntKind.i64 0) w) ∧
          ∀ m_5, ∀ t6_6 : Value, ∀ w : World, J_5 m_5 t6_6 w → Env →
            run1 Tryd.prog Z (Builtin.len_ #[22] 3 #[x1]) w fun t15_7 w =>
            run1 Tryd.prog Z (binOp BinOp.lss 3 t6_6 t15_7) w fun t16_8 w =>
            CondV t16_8 (
              Drawn w fun w =>
              Pure1 Tryd.prog (Instr.indexAt 22 x0 t5_2) fun t21_9 =>
              Pure1 Tryd.prog (Instr.fieldAt 49 t21_9 0) fun t22_10 =>
              Read1 Tryd.prog (Instr.loadAt 30 t22_10) w fun t23_11 =>
              Pure1 Tryd.prog (Instr.indexAt 22 x1 t6_6) fun t26_12 =>
              Pure1 Tryd.prog (Instr.fieldAt 49 t26_12 0) fun t27_13 =>
              Read1 Tryd.prog (Instr.loadAt 30 t27_13) w fun t28_14 =>
              Pure1 Tryd.prog (eqOp BinOp.eql 30 false false t23_11 t28_14) fun t29_15 =>
              guardV (t29_15) true (fun k => k (x0)) (fun t31_16 =>
              guardV (t29_15) true (fun k => k (t5_2)) (fun t32_17 =>
              guardV (t29_15) true (fun k => Pure1 Tryd.prog (binOp BinOp.add 3 t32_17 (Value.int IntKind.i64 1)) k) (fun t33_18 =>
              guardV (t29_15) true (fun k => Pure1 Tryd.prog (Instr.sliceAt 22 t31_16 none (some t33_18) none) k) (fun t34_19 =>
              guardV (t29_15) true (fun k => k (x1)) (fun t35_20 =>
              guardV (t29_15) true (fun k => k (t6_6)) (fun t36_21 =>
              guardV (t29_15) true (fun k => Pure1 Tryd.prog (binOp BinOp.add 3 t36_21 (Value.int IntKind.i64 1)) k) (fun t37_22 =>
              guardV (t29_15) true (fun k => Pure1 Tryd.prog (Instr.sliceAt 22 t35_20 none (some t37_22) none) k) (fun t38_23 =>
              guardW (t29_15) true (fun k => CallV Tryd.prog Z 15 #[t34_19, t38_23] w k) (fun t39_24 w =>
                Still Tryd.prog (nx (Instr.loadAt 30 t27_13)) t28_14 w <|
                Still Tryd.prog (nx (Instr.loadAt 30 t22_10)) t23_11 w <|
                guardV (t29_15) true (fun k => Pure1 Tryd.prog (Op.unary UnOp.not t39_24) k) (fun t40_25 =>
                Pure1 Tryd.prog (pickV t29_15 t40_25 (Value.bool false)) fun t41_26 =>
                CondV t41_26 (
                  Q (Value.bool false) w) (
                  run1 Tryd.prog Z (binOp BinOp.add 3 t6_6 (Value.int IntKind.i64 1)) w fun t18_27 w =>
                  ∃ n_5, n_5 < m_5 ∧ J_5 n_5 t18_27 w))) w))))))))) (
              run1 Tryd.prog Z (binOp BinOp.add 3 t5_2 (Value.int IntKind.i64 1)) w fun t12_28 w =>
              ∃ n_1, n_1 < m_1 ∧ J_1 n_1 t12_28 w)) (
        Q (Value.bool true) w)
noncomputable def f12.code : Code := match Tryd.f12.body with | some c => c | none => .skip
def f12.an : An := (.sq .leaf (.sq (.sq .leaf (.bl (.lp [5] [4, 5, 6, 7, 8, 9, 10, 11, 12, 13, 14, 15, 16, 17, 18, 19, 20, 21, 22, 23, 24, 25, 26, 27, 28, 29, 30, 31, 32, 33, 34, 35, 36, 37, 38, 39, 40, 41] (.sq (.sq .leaf (.cn .leaf .leaf)) (.sq (.bl (.sq .leaf (.bl (.lp [6] [4, 6, 13, 14, 15, 16, 17, 18, 19, 20, 21, 22, 23, 24, 25, 26, 27, 28, 29, 30, 31, 32, 33, 34, 35, 36, 37, 38, 39, 40, 41] (.sq (.sq .leaf (.cn .leaf .leaf)) (.sq (.bl (.sq (.dr (.take 0 false (.take 1 false (.take 2 false (.take 3 false (.take 4 true (.take 5 false (.take 6 false (.take 7 false (.take 8 false (.take 9 true (.take 10 false (.take 11 false (.take 12 false (.take 13 false (.take 14 false (.take 15 false (.take 16 false (.take 17 false (.take 18 false (.take 19 false (.one 20 (.take 21 false (.take 22 false .fin)))))))))))))))))))))))) (.cn (.sq .leaf .leaf) .leaf))) .leaf)))))) .leaf))))) (.sq .leaf .leaf)))
theorem f12.body_eq : Tryd.f12.body = some f12.code := by kernel_rfl
theorem f12.shape (Z : List PanicEntry → World → Prop) (x0 x1 : Value) (w : World) (Q : Value → World → Prop) : vc drawD Tryd.prog 42 Z [15] f12.an f12.code (fnQ Tryd.prog 42 Tryd.f12.results Q) (argEnv [x0, x1]) w = f12.sh Z x0 x1 w Q := by kernel_rfl
theorem f12.enters : ∀ f, f ∈ ([15] : List Nat) → Enters Tryd.prog f := by
  intro f hf
  simp only [List.mem_cons, List.not_mem_nil, or_false] at hf
  rcases hf with rfl
  · exact en15
theorem f12.calls {Z : List PanicEntry → World → Prop} {x0 x1 : Value} {w : World} {Q : Value → World → Prop} (h : f12.sh Z x0 x1 w Q) : CallV Tryd.prog Z 12 #[x0, x1] w Q :=
  calls_of_vcn drawD_sound (Q := Q) (n := 42) (rs := Tryd.f12.results) (an := f12.an) (c := f12.code) (cal := [15]) (args := [x0, x1]) Tryd.func12 (by kernel_rfl) rfl f12.body_eq follows (Nat.le_of_ble_eq_true (by kernel_rfl)) (enters_of_all f12.enters) ((f12.shape Z x0 x1 w Q).mpr h)

/-! ### 13: lagoon/lagoonlaw14.upTo -/
def f13.sh (Z : List PanicEntry → World → Prop) (x0 x1 : Value) (w : World) (Q : Value → World → Prop) : Prop :=
  run1 Tryd.prog Z (Instr.box 30 x1) w fun t3_1 w =>
  ∃ J_2 : Nat → Value → Value → World → Prop, (∃ m, J_2 m (Value.slice none 0 0) (Value.int IntKind.i64 0) w) ∧
    ∀ m_2, ∀ t5_3 : Value, ∀ t6_4 : Value, ∀ w : World, J_2 m_2 t5_3 t6_4 w → Env →
      run1 Tryd.prog Z (Builtin.len_ #[22] 3 #[x0]) w fun t9_5 w =>
      run1 Tryd.prog Z (binOp BinOp.lss 3 t6_4 t9_5) w fun t10_6 w =>
      CondV t10_6 (
        ∀ j_7 : Value → World → Prop, (∀ t5_8 : Value, ∀ w : World, (Env →
            run1 Tryd.prog Z (binOp BinOp.add 3 t6_4 (Value.int IntKind.i64 1)) w fun t12_9 w =>
            ∃ n_2, n_2 < m_2 ∧ J_2 n_2 t5_8 t12_9 w) →
            j_7 t5_8 w) →
        Drawn w fun w =>
        Pure1 Tryd.prog (Instr.indexAt 22 x0 t6_4) fun t15_10 =>
        Pure1 Tryd.prog (Instr.fieldAt 49 t15_10 0) fun t16_11 =>
        Read1 Tryd.prog (Instr.loadAt 30 t16_11) w fun t17_12 =>
        Read1 Tryd.prog (Instr.loadAt 30 t3_1) w fun t18_13 =>
        CallV Tryd.prog Z 17 #[t17_12, t18_13] w fun t19_14 w =>
        Pure1 Tryd.prog (binOp BinOp.leq 3 t19_14 (Value.int IntKind.i64 0)) fun t20_15 =>
        CondV t20_15 (
          run1 Tryd.prog Z (Instr.indexAt 22 x0 t6_4) w fun t24_16 w =>
          run1 Tryd.prog Z (Instr.loadAt 49 t24_16) w fun t25_17 w =>
          run1 Tryd.prog Z (Instr.buildSlice 22 1 #[(0, t25_17)]) w fun t26_18 w =>
          run1 Tryd.prog Z (Builtin.append_ #[22, 22] 22 #[t5_3, t26_18]) w fun t27_19 w =>
          j_7 t27_19 w) (
          j_7 t5_3 w)) (
        Q t5_3 w)
noncomputable def f13.code : Code := match Tryd.f13.body with | some c => c | none => .skip
def f13.an : An := (.sq .leaf (.sq .leaf (.sq (.sq .leaf (.bl (.lp [5, 6] [5, 6, 7, 8, 9, 10, 11, 12, 13, 14, 15, 16, 17, 18, 19, 20, 21, 22, 23, 24, 25, 26, 27] (.sq (.sq .leaf (.cn .leaf .leaf)) (.sj [5] [5, 13, 14, 15, 16, 17, 18, 19, 20, 21, 22, 23, 24, 25, 26, 27] (.bl (.sq (.dr (.take 0 false (.take 1 false (.take 2 false (.take 3 false (.take 4 true (.take 5 true (.one 6 (.take 7 false .fin))))))))) (.cn .leaf .leaf))) .leaf))))) (.sq .leaf .leaf))))
theorem f13.body_eq : Tryd.f13.body = some f13.code := by kernel_rfl
theorem f13.shape (Z : List PanicEntry → World → Prop) (x0 x1 : Value) (w : World) (Q : Value → World → Prop) : vc drawD Tryd.prog 29 Z [17] f13.an f13.code (fnQ Tryd.prog 29 Tryd.f13.results Q) (argEnv [x0, x1]) w = f13.sh Z x0 x1 w Q := by kernel_rfl
theorem f13.enters : ∀ f, f ∈ ([17] : List Nat) → Enters Tryd.prog f := by
  intro f hf
  simp only [List.mem_cons, List.not_mem_nil, or_false] at hf
  rcases hf with rfl
  · exact en17
theorem f13.calls {Z : List PanicEntry → World → Prop} {x0 x1 : Value} {w : World} {Q : Value → World → Prop} (h : f13.sh Z x0 x1 w Q) : CallV Tryd.prog Z 13 #[x0, x1] w Q :=
  calls_of_vcn drawD_sound (Q := Q) (n := 29) (rs := Tryd.f13.results) (an := f13.an) (c := f13.code) (cal := [17]) (args := [x0, x1]) Tryd.func13 (by kernel_rfl) rfl f13.body_eq follows (Nat.le_of_ble_eq_true (by kernel_rfl)) (enters_of_all f13.enters) ((f13.shape Z x0 x1 w Q).mpr h)

/-! ### 14: lagoon/lagoonref00.CopyTxns -/
def f14.sh (Z : List PanicEntry → World → Prop) (x0 : Value) (w : World) (Q : Value → World → Prop) : Prop :=
  ∃ J_1 : Nat → Value → Value → World → Prop, (∃ m, J_1 m (Value.slice none 0 0) (Value.int IntKind.i64 0) w) ∧
    ∀ m_1, ∀ t3_2 : Value, ∀ t4_3 : Value, ∀ w : World, J_1 m_1 t3_2 t4_3 w → Env →
      run1 Tryd.prog Z (Builtin.len_ #[22] 3 #[x0]) w fun t7_4 w =>
      run1 Tryd.prog Z (binOp BinOp.lss 3 t4_3 t7_4) w fun t8_5 w =>
      CondV t8_5 (
        run1 Tryd.prog Z (Instr.indexAt 22 x0 t4_3) w fun t14_6 w =>
        run1 Tryd.prog Z (Instr.loadAt 49 t14_6) w fun t15_7 w =>
        CallV Tryd.prog Z 31 #[t15_7] w fun t16_8 w =>
        run1 Tryd.prog Z (Instr.buildSlice 22 1 #[(0, t16_8)]) w fun t17_9 w =>
        run1 Tryd.prog Z (Builtin.append_ #[22, 22] 22 #[t3_2, t17_9]) w fun t18_10 w =>
        run1 Tryd.prog Z (binOp BinOp.add 3 t4_3 (Value.int IntKind.i64 1)) w fun t10_11 w =>
        ∃ n_1, n_1 < m_1 ∧ J_1 n_1 t18_10 t10_11 w) (
        Q t3_2 w)
noncomputable def f14.code : Code := match Tryd.f14.body with | some c => c | none => .skip
def f14.an : An := (.sq .leaf (.sq .leaf (.sq (.sq .leaf (.bl (.lp [3, 4] [3, 4, 5, 6, 7, 8, 9, 10, 11, 12, 13, 14, 15, 16, 17, 18] (.sq (.sq .leaf (.cn .leaf .leaf)) (.sq (.bl .leaf) .leaf))))) (.sq .leaf .leaf))))
theorem f14.body_eq : Tryd.f14.body = some f14.code := by kernel_rfl
theorem f14.shape (Z : List PanicEntry → World → Prop) (x0 : Value) (w : World) (Q : Value → World → Prop) : vc drawD Tryd.prog 20 Z [31] f14.an f14.code (fnQ Tryd.prog 20 Tryd.f14.results Q) (argEnv [x0]) w = f14.sh Z x0 w Q := by kernel_rfl
theorem f14.enters : ∀ f, f ∈ ([31] : List Nat) → Enters Tryd.prog f := by
  intro f hf
  simp only [List.mem_cons, List.not_mem_nil, or_false] at hf
  rcases hf with rfl
  · exact en31
theorem f14.calls {Z : List PanicEntry → World → Prop} {x0 : Value} {w : World} {Q : Value → World → Prop} (h : f14.sh Z x0 w Q) : CallV Tryd.prog Z 14 #[x0] w Q :=
  calls_of_vcn drawD_sound (Q := Q) (n := 20) (rs := Tryd.f14.results) (an := f14.an) (c := f14.code) (cal := [31]) (args := [x0]) Tryd.func14 (by kernel_rfl) rfl f14.body_eq follows (Nat.le_of_ble_eq_true (by kernel_rfl)) (enters_of_all f14.enters) ((f14.shape Z x0 w Q).mpr h)

/-! ### 15: lagoon/lagoonref00.EqTxns -/
def f15.sh (Z : List PanicEntry → World → Prop) (x0 x1 : Value) (w : World) (Q : Value → World → Prop) : Prop :=
  run1 Tryd.prog Z (Builtin.len_ #[22] 3 #[x0]) w fun t7_1 w =>
  run1 Tryd.prog Z (Builtin.len_ #[22] 3 #[x1]) w fun t9_2 w =>
  run1 Tryd.prog Z (eqOp BinOp.neq 3 false false t7_1 t9_2) w fun t10_3 w =>
  CondV t10_3 (
    Q (Value.bool false) w) (
    ∃ J_4 : Nat → Value → World → Prop, (∃ m, J_4 m (Value.int IntKind.i64 0) w) ∧
      ∀ m_4, ∀ t5_5 : Value, ∀ w : World, J_4 m_4 t5_5 w → Env →
        run1 Tryd.prog Z (Builtin.len_ #[22] 3 #[x0]) w fun t13_6 w =>
        run1 Tryd.prog Z (binOp BinOp.lss 3 t5_5 t13_6) w fun t14_7 w =>
        CondV t14_7 (
          Drawn w fun w =>
          Pure1 Tryd.prog (Instr.indexAt 22 x0 t5_5) fun t19_8 =>
          Read1 Tryd.prog (Instr.loadAt 49 t19_8) w fun t20_9 =>
          Pure1 Tryd.prog (Instr.indexAt 22 x1 t5_5) fun t23_10 =>
          Read1 Tryd.prog (Instr.loadAt 49 t23_10) w fun t24_11 =>
          CallV Tryd.prog Z 32 #[t20_9, t24_11] w fun t25_12 w =>
          Pure1 Tryd.prog (Op.unary UnOp.not t25_12) fun t26_13 =>
          CondV t26_13 (
            Q (Value.bool false) w) (
            run1 Tryd.prog Z (binOp BinOp.add 3 t5_5 (Value.int IntKind.i64 1)) w fun t16_14 w =>
            ∃ n_4, n_4 < m_4 ∧ J_4 n_4 t16_14 w)) (
          Q (Value.bool true) w))
noncomputable def f15.code : Code := match Tryd.f15.body with | some c => c | none => .skip
def f15.an : An := (.sq .leaf (.sq (.sq .leaf (.cn (.sq .leaf .leaf) .leaf)) (.sq (.sq .leaf (.bl (.lp [5] [4, 5, 11, 12, 13, 14, 15, 16, 17, 18, 19, 20, 21, 22, 23, 24, 25, 26] (.sq (.sq .leaf (.cn .leaf .leaf)) (.sq (.bl (.sq (.dr (.take 0 false (.take 1 false (.take 2 false (.take 3 true (.take 4 false (.take 5 false (.take 6 false (.take 7 true (.one 8 (.take 9 false .fin))))))))))) (.cn (.sq .leaf .leaf) .leaf))) .leaf))))) (.sq .leaf .leaf))))
theorem f15.body_eq : Tryd.f15.body = some f15.code := by kernel_rfl
theorem f15.shape (Z : List PanicEntry → World → Prop) (x0 x1 : Value) (w : World) (Q : Value → World → Prop) : vc drawD Tryd.prog 27 Z [32] f15.an f15.code (fnQ Tryd.prog 27 Tryd.f15.results Q) (argEnv [x0, x1]) w = f15.sh Z x0 x1 w Q := by kernel_rfl
theorem f15.enters : ∀ f, f ∈ ([32] : List Nat) → Enters Tryd.prog f := by
  intro f hf
  simp only [List.mem_cons, List.not_mem_nil, or_false] at hf
  rcases hf with rfl
  · exact en32
theorem f15.calls {Z : List PanicEntry → World → Prop} {x0 x1 : Value} {w : World} {Q : Value → World → Prop} (h : f15.sh Z x0 x1 w Q) : CallV Tryd.prog Z 15 #[x0, x1] w Q :=
  calls_of_vcn drawD_sound (Q := Q) (n := 27) (rs := Tryd.f15.results) (an := f15.an) (c := f15.code) (cal := [32]) (args := [x0, x1]) Tryd.func15 (by kernel_rfl) rfl f15.body_eq follows (Nat.le_of_ble_eq_true (by kernel_rfl)) (enters_of_all f15.enters) ((f15.shape Z x0 x1 w Q).mpr h)

/-! ### 16: lagoon/lagoonlaw14.ask -/
def f16.sh (Z : List PanicEntry → World → Prop) (x0 : Value) (w : World) (Q : Value → World → Prop) : Prop :=
  run1 Tryd.prog Z (Instr.box 54 x0) w fun t1_1 w =>
  run1 Tryd.prog Z (Instr.alloc 33 true (.tuple #[])) w fun t2_2 w =>
  run1 Tryd.prog Z (Instr.fieldAt 54 t1_1 0) w fun t4_3 w =>
  run1 Tryd.prog Z (Instr.loadAt 30 t4_3) w fun t5_4 w =>
  run1 Tryd.prog Z (Instr.fieldAt 54 t1_1 1) w fun t6_5 w =>
  run1 Tryd.prog Z (Instr.loadAt 30 t6_5) w fun t7_6 w =>
  run1 Tryd.prog Z (Instr.fieldAt 54 t1_1 2) w fun t8_7 w =>
  run1 Tryd.prog Z (Instr.loadAt 22 t8_7) w fun t9_8 w =>
  run1 Tryd.prog Z (Instr.fieldAt 54 t1_1 3) w fun t10_9 w =>
  run1 Tryd.prog Z (Instr.loadAt 3 t10_9) w fun t11_10 w =>
  run1 Tryd.prog Z (Instr.fieldAt 54 t1_1 4) w fun t12_11 w =>
  run1 Tryd.prog Z (Instr.loadAt 3 t12_11) w fun t13_12 w =>
  run1 Tryd.prog Z (Instr.fieldAt 54 t1_1 5) w fun t14_13 w =>
  run1 Tryd.prog Z (Instr.loadAt 23 t14_13) w fun t15_14 w =>
  CallV Tryd.prog Z 9 #[t5_4, t7_6, t9_8, t11_10, t13_12, t15_14] w fun t16_15 w =>
  run1 Tryd.prog Z (Instr.extract t16_15 0) w fun t17_16 w =>
  run1 Tryd.prog Z (Instr.extract t16_15 1) w fun t18_17 w =>
  run0 Tryd.prog Z (Instr.storeAt 33 t2_2 t17_16) w fun w =>
  ∃ r_18, (do loadVar 33 (← asAddr t2_2) : Sem Value).run Tryd.prog w = .ok r_18 w ∧
  Q (Value.tuple #[r_18, t18_17]) w
noncomputable def f16.code : Code := match Tryd.f16.body with | some c => c | none => .skip
def f16.an : An := (.sq .leaf (.sq .leaf .leaf))
theorem f16.body_eq : Tryd.f16.body = some f16.code := by kernel_rfl
theorem f16.shape (Z : List PanicEntry → World → Prop) (x0 : Value) (w : World) (Q : Value → World → Prop) : vc drawD Tryd.prog 19 Z [9] f16.an f16.code (fnQ Tryd.prog 19 Tryd.f16.results Q) (argEnv [x0]) w = f16.sh Z x0 w Q := by kernel_rfl
theorem f16.enters : ∀ f, f ∈ ([9] : List Nat) → Enters Tryd.prog f := by
  intro f hf
  simp only [List.mem_cons, List.not_mem_nil, or_false] at hf
  rcases hf with rfl
  · exact en9
theorem f16.calls {Z : List PanicEntry → World → Prop} {x0 : Value} {w : World} {Q : Value → World → Prop} (h : f16.sh Z x0 w Q) : CallV Tryd.prog Z 16 #[x0] w Q :=
  calls_of_vcn drawD_sound (Q := Q) (n := 19) (rs := Tryd.f16.results) (an := f16.an) (c := f16.code) (cal := [9]) (args := [x0]) Tryd.func16 (by kernel_rfl) rfl f16.body_eq follows (Nat.le_of_ble_eq_true (by kernel_rfl)) (enters_of_all f16.enters) ((f16.shape Z x0 w Q).mpr h)

/-! ### 17: lagoon/lagoonref00.Compare -/
def f17.sh (Z : List PanicEntry → World → Prop) (x0 x1 : Value) (w : World) (Q : Value → World → Prop) : Prop :=
  run1 Tryd.prog Z (Instr.box 30 x0) w fun t2_1 w =>
  run1 Tryd.prog Z (Instr.box 30 x1) w fun t3_2 w =>
  run1 Tryd.prog Z (Instr.fieldAt 30 t2_1 0) w fun t6_3 w =>
  run1 Tryd.prog Z (Instr.loadAt 28 t6_3) w fun t7_4 w =>
  run1 Tryd.prog Z (Instr.fieldAt 30 t3_2 0) w fun t8_5 w =>
  run1 Tryd.prog Z (Instr.loadAt 28 t8_5) w fun t9_6 w =>
  run1 Tryd.prog Z (binOp BinOp.lss 28 t7_4 t9_6) w fun t10_7 w =>
  guardW (t10_7) false (fun k => run1 Tryd.prog Z (Instr.fieldAt 30 t2_1 0) w k) (fun t12_8 w =>
  guardW (t10_7) false (fun k => run1 Tryd.prog Z (Instr.loadAt 28 t12_8) w k) (fun t13_9 w =>
  guardW (t10_7) false (fun k => run1 Tryd.prog Z (Instr.fieldAt 30 t3_2 0) w k) (fun t14_10 w =>
  guardW (t10_7) false (fun k => run1 Tryd.prog Z (Instr.loadAt 28 t14_10) w k) (fun t15_11 w =>
  guardW (t10_7) false (fun k => run1 Tryd.prog Z (eqOp BinOp.eql 28 false false t13_9 t15_11) w k) (fun t16_12 w =>
  guardW (t10_7) false (fun k => k (t16_12) w) (fun t17_13 w =>
  guardW (t17_13) true (fun k => run1 Tryd.prog Z (Instr.fieldAt 30 t2_1 1) w k) (fun t18_14 w =>
  guardW (t17_13) true (fun k => run1 Tryd.prog Z (Instr.loadAt 28 t18_14) w k) (fun t19_15 w =>
  guardW (t17_13) true (fun k => run1 Tryd.prog Z (Instr.fieldAt 30 t3_2 1) w k) (fun t20_16 w =>
  guardW (t17_13) true (fun k => run1 Tryd.prog Z (Instr.loadAt 28 t20_16) w k) (fun t21_17 w =>
  guardW (t17_13) true (fun k => run1 Tryd.prog Z (binOp BinOp.lss 28 t19_15 t21_17) w k) (fun t22_18 w =>
  guardW (t10_7) false (fun k => run1 Tryd.prog Z (pickV t17_13 t22_18 (Value.bool false)) w k) (fun t23_19 w =>
  run1 Tryd.prog Z (pickV t10_7 (Value.bool true) t23_19) w fun t24_20 w =>
  CondV t24_20 (
    Q (Value.int IntKind.i64 (-1)) w) (
    run1 Tryd.prog Z (Instr.loadAt 30 t2_1) w fun t26_21 w =>
    run1 Tryd.prog Z (Instr.loadAt 30 t3_2) w fun t27_22 w =>
    run1 Tryd.prog Z (eqOp BinOp.eql 30 false false t26_21 t27_22) w fun t28_23 w =>
    CondV t28_23 (
      Q (Value.int IntKind.i64 0) w) (
      Q (Value.int IntKind.i64 1) w))) w) w) w) w) w) w) w) w) w) w) w) w
noncomputable def f17.code : Code := match Tryd.f17.body with | some c => c | none => .skip
def f17.an : An := (.sq .leaf (.sq (.bl (.sq .leaf (.cn (.sq .leaf .leaf) (.sq .leaf (.cn (.sq .leaf .leaf) .leaf))))) (.sq .leaf .leaf)))
theorem f17.body_eq : Tryd.f17.body = some f17.code := by kernel_rfl
theorem f17.shape (Z : List PanicEntry → World → Prop) (x0 x1 : Value) (w : World) (Q : Value → World → Prop) : vc drawD Tryd.prog 29 Z [] f17.an f17.code (fnQ Tryd.prog 29 Tryd.f17.results Q) (argEnv [x0, x1]) w = f17.sh Z x0 x1 w Q := by kernel_rfl
theorem f17.enters : ∀ f, f ∈ ([] : List Nat) → Enters Tryd.prog f := by
  intro f hf
  cases hf
theorem f17.calls {Z : List PanicEntry → World → Prop} {x0 x1 : Value} {w : World} {Q : Value → World → Prop} (h : f17.sh Z x0 x1 w Q) : CallV Tryd.prog Z 17 #[x0, x1] w Q :=
  calls_of_vcn drawD_sound (Q := Q) (n := 29) (rs := Tryd.f17.results) (an := f17.an) (c := f17.code) (cal := []) (args := [x0, x1]) Tryd.func17 (by kernel_rfl) rfl f17.body_eq follows (Nat.le_of_ble_eq_true (by kernel_rfl)) (enters_of_all f17.enters) ((f17.shape Z x0 x1 w Q).mpr h)

/-! ### 18: lagoon/lagoonref00.WideTxns -/
def f18.sh (Z : List PanicEntry → World → Prop) (x0 : Value) (w : World) (Q : Value → World → Prop) : Prop :=
  run1 Tryd.prog Z (Builtin.len_ #[22] 3 #[x0]) w fun t6_1 w =>
  run1 Tryd.prog Z (binOp BinOp.add 3 t6_1 (Value.int IntKind.i64 64)) w fun t7_2 w =>
  run1 Tryd.prog Z (Instr.makeSlice 22 t7_2 t7_2) w fun t8_3 w =>
  ∃ J_4 : Nat → Value → World → Prop, (∃ m, J_4 m (Value.int IntKind.i64 0) w) ∧
    ∀ m_4, ∀ t4_5 : Value, ∀ w : World, J_4 m_4 t4_5 w → Env →
      run1 Tryd.prog Z (Builtin.len_ #[22] 3 #[t8_3]) w fun t11_6 w =>
      run1 Tryd.prog Z (binOp BinOp.lss 3 t4_5 t11_6) w fun t12_7 w =>
      CondV t12_7 (
        ∀ j_8 : World → Prop, (∀ w : World, (Env →
            run1 Tryd.prog Z (binOp BinOp.add 3 t4_5 (Value.int IntKind.i64 1)) w fun t14_9 w =>
            ∃ n_4, n_4 < m_4 ∧ J_4 n_4 t14_9 w) →
            j_8 w) →
        run1 Tryd.prog Z (Builtin.len_ #[22] 3 #[x0]) w fun t17_10 w =>
        run1 Tryd.prog Z (binOp BinOp.lss 3 t4_5 t17_10) w fun t18_11 w =>
        CondV t18_11 (
          run1 Tryd.prog Z (Instr.indexAt 22 x0 t4_5) w fun t23_12 w =>
          run1 Tryd.prog Z (Instr.loadAt 49 t23_12) w fun t24_13 w =>
          CallV Tryd.prog Z 33 #[t24_13] w fun t25_14 w =>
          run1 Tryd.prog Z (Instr.indexAt 22 t8_3 t4_5) w fun t26_15 w =>
          run0 Tryd.prog Z (Instr.storeAt 49 t26_15 t25_14) w fun w =>
          j_8 w) (
          run1 Tryd.prog Z (binOp BinOp.sub 3 (Value.int IntKind.i64 (-3000000)) t4_5) w fun t30_16 w =>
          run1 Tryd.prog Z (Instr.build 41 #[(2, t30_16)]) w fun t31_17 w =>
          run1 Tryd.prog Z (Instr.build 49 #[(1, t31_17)]) w fun t32_18 w =>
          run1 Tryd.prog Z (Instr.indexAt 22 t8_3 t4_5) w fun t33_19 w =>
          run0 Tryd.prog Z (Instr.storeAt 49 t33_19 t32_18) w fun w =>
          j_8 w)) (
        run1 Tryd.prog Z (Builtin.len_ #[22] 3 #[x0]) w fun t36_20 w =>
        run1 Tryd.prog Z (Instr.sliceAt 22 t8_3 none (some t36_20) none) w fun t37_21 w =>
        Q t37_21 w)
noncomputable def f18.code : Code := match Tryd.f18.body with | some c => c | none => .skip
def f18.an : An := (.sq .leaf (.sq .leaf (.sq (.sq .leaf (.bl (.lp [4] [4, 9, 10, 11, 12, 13, 14, 15, 16, 17, 18, 19, 20, 21, 22, 23, 24, 25, 26, 27, 28, 29, 30, 31, 32, 33] (.sq (.sq .leaf (.cn .leaf .leaf)) (.sj [] [15, 16, 17, 18, 19, 20, 21, 22, 23, 24, 25, 26, 27, 28, 29, 30, 31, 32, 33] (.bl (.sq .leaf (.cn .leaf .leaf))) .leaf))))) (.sq .leaf .leaf))))
theorem f18.body_eq : Tryd.f18.body = some f18.code := by kernel_rfl
theorem f18.shape (Z : List PanicEntry → World → Prop) (x0 : Value) (w : World) (Q : Value → World → Prop) : vc drawD Tryd.prog 38 Z [33] f18.an f18.code (fnQ Tryd.prog 38 Tryd.f18.results Q) (argEnv [x0]) w = f18.sh Z x0 w Q := by kernel_rfl
theorem f18.enters : ∀ f, f ∈ ([33] : List Nat) → Enters Tryd.prog f := by
  intro f hf
  simp only [List.mem_cons, List.not_mem_nil, or_false] at hf
  rcases hf with rfl
  · exact en33
theorem f18.calls {Z : List PanicEntry → World → Prop} {x0 : Value} {w : World} {Q : Value → World → Prop} (h : f18.sh Z x0 w Q) : CallV Tryd.prog Z 18 #[x0] w Q :=
  calls_of_vcn drawD_sound (Q := Q) (n := 38) (rs := Tryd.f18.results) (an := f18.an) (c := f18.code) (cal := [33]) (args := [x0]) Tryd.func18 (by kernel_rfl) rfl f18.body_eq follows (Nat.le_of_ble_eq_true (by kernel_rfl)) (enters_of_all f18.enters) ((f18.shape Z x0 w Q).mpr h)

/-! ### 19: lagoon/choose.Size -/
def f19.sh (Z : List PanicEntry → World → Prop) (x0 : Value) (w : World) (Q : Value → World → Prop) : Prop :=
  run1 Tryd.prog Z (Builtin.len_ #[22] 3 #[x0]) w fun t9_1 w =>
  ∃ J_2 : Nat → Value → Value → World → Prop, (∃ m, J_2 m (Value.int IntKind.i64 0) (Value.int IntKind.i64 0) w) ∧
    ∀ m_2, ∀ t3_3 : Value, ∀ t10_4 : Value, ∀ w : World, J_2 m_2 t3_3 t10_4 w → Env →
      run1 Tryd.prog Z (binOp BinOp.lss 3 t10_4 t9_1) w fun t11_5 w =>
      CondV t11_5 (
        ∀ j_6 : Value → World → Prop, (∀ t3_7 : Value, ∀ w : World, (Env →
            run1 Tryd.prog Z (binOp BinOp.add 3 t10_4 (Value.int IntKind.i64 1)) w fun t25_8 w =>
            ∃ n_2, n_2 < m_2 ∧ J_2 n_2 t3_7 t25_8 w) →
            j_6 t3_7 w) →
        run1 Tryd.prog Z (Instr.indexAt 22 x0 t10_4) w fun t12_9 w =>
        run1 Tryd.prog Z (Instr.loadAt 49 t12_9) w fun t13_10 w =>
        run1 Tryd.prog Z (Instr.alloc 49 true (.tuple #[])) w fun t5_11 w =>
        run0 Tryd.prog Z (Instr.storeAt 49 t5_11 t13_10) w fun w =>
        run1 Tryd.prog Z (Instr.loadAt 49 t5_11) w fun t15_12 w =>
        CallV Tryd.prog Z 34 #[t15_12] w fun t16_13 w =>
        run1 Tryd.prog Z (Instr.extract t16_13 0) w fun t17_14 w =>
        run1 Tryd.prog Z (Instr.extract t16_13 1) w fun t18_15 w =>
        run1 Tryd.prog Z (eqOp BinOp.eql 34 false true t18_15 (Value.int IntKind.i64 0)) w fun t20_16 w =>
        CondV t20_16 (
          run1 Tryd.prog Z (Builtin.len_ #[42] 3 #[t17_14]) w fun t23_17 w =>
          run1 Tryd.prog Z (binOp BinOp.add 3 t3_3 t23_17) w fun t24_18 w =>
          j_6 t24_18 w) (
          j_6 t3_3 w)) (
        Q t3_3 w)
noncomputable def f19.code : Code := match Tryd.f19.body with | some c => c | none => .skip
def f19.an : An := (.sq .leaf (.sq .leaf (.sq (.sq .leaf (.bl (.lp [3, 10] [3, 5, 6, 7, 10, 11, 12, 13, 14, 15, 16, 17, 18, 19, 20, 21, 22, 23, 24, 25] (.sq .leaf (.sq (.cn .leaf .leaf) (.sj [3] [3, 5, 6, 7, 12, 13, 14, 15, 16, 17, 18, 19, 20, 21, 22, 23, 24] (.bl (.sq .leaf (.sq .leaf (.sq .leaf (.cn .leaf .leaf))))) .leaf)))))) (.sq .leaf .leaf))))
theorem f19.body_eq : Tryd.f19.body = some f19.code := by kernel_rfl
theorem f19.shape (Z : List PanicEntry → World → Prop) (x0 : Value) (w : World) (Q : Value → World → Prop) : vc drawD Tryd.prog 27 Z [34] f19.an f19.code (fnQ Tryd.prog 27 Tryd.f19.results Q) (argEnv [x0]) w = f19.sh Z x0 w Q := by kernel_rfl
theorem f19.enters : ∀ f, f ∈ ([34] : List Nat) → Enters Tryd.prog f := by
  intro f hf
  simp only [List.mem_cons, List.not_mem_nil, or_false] at hf
  rcases hf with rfl
  · exact en34
theorem f19.calls {Z : List PanicEntry → World → Prop} {x0 : Value} {w : World} {Q : Value → World → Prop} (h : f19.sh Z x0 w Q) : CallV Tryd.prog Z 19 #[x0] w Q :=
  calls_of_vcn drawD_sound (Q := Q) (n := 27) (rs := Tryd.f19.results) (an := f19.an) (c := f19.code) (cal := [34]) (args := [x0]) Tryd.func19 (by kernel_rfl) rfl f19.body_eq follows (Nat.le_of_ble_eq_true (by kernel_rfl)) (enters_of_all f19.enters) ((f19.shape Z x0 w Q).mpr h)

/-! ### 20: lagoon/lagoonref14.Size -/
def f20.sh (Z : List PanicEntry → World → Prop) (x0 : Value) (w : World) (Q : Value → World → Prop) : Prop :=
  ∃ J_1 : Nat → Value → Value → World → Prop, (∃ m, J_1 m (Value.int IntKind.i64 0) (Value.int IntKind.i64 0) w) ∧
    ∀ m_1, ∀ t3_2 : Value, ∀ t4_3 : Value, ∀ w : World, J_1 m_1 t3_2 t4_3 w → Env →
      run1 Tryd.prog Z (Builtin.len_ #[22] 3 #[x0]) w fun t9_4 w =>
      run1 Tryd.prog Z (binOp BinOp.lss 3 t4_3 t9_4) w fun t10_5 w =>
      CondV t10_5 (
        ∀ j_6 : Value → World → Prop, (∀ t3_7 : Value, ∀ w : World, (Env →
            run1 Tryd.prog Z (binOp BinOp.add 3 t4_3 (Value.int IntKind.i64 1)) w fun t12_8 w =>
            ∃ n_1, n_1 < m_1 ∧ J_1 n_1 t3_7 t12_8 w) →
            j_6 t3_7 w) →
        run1 Tryd.prog Z (Instr.indexAt 22 x0 t4_3) w fun t16_9 w =>
        run1 Tryd.prog Z (Instr.loadAt 49 t16_9) w fun t17_10 w =>
        CallV Tryd.prog Z 35 #[t17_10] w fun t18_11 w =>
        run1 Tryd.prog Z (Instr.extract t18_11 0) w fun t19_12 w =>
        run1 Tryd.prog Z (Instr.extract t18_11 1) w fun t20_13 w =>
        run1 Tryd.prog Z (eqOp BinOp.eql 34 false true t20_13 (Value.int IntKind.i64 0)) w fun t22_14 w =>
        CondV t22_14 (
          run1 Tryd.prog Z (Builtin.len_ #[42] 3 #[t19_12]) w fun t25_15 w =>
          run1 Tryd.prog Z (binOp BinOp.add 3 t3_2 t25_15) w fun t26_16 w =>
          j_6 t26_16 w) (
          j_6 t3_2 w)) (
        Q t3_2 w)
noncomputable def f20.code : Code := match Tryd.f20.body with | some c => c | none => .skip
def f20.an : An := (.sq .leaf (.sq .leaf (.sq (.sq .leaf (.bl (.lp [3, 4] [3, 4, 5, 6, 7, 8, 9, 10, 11, 12, 13, 14, 15, 16, 17, 18, 19, 20, 21, 22, 23, 24, 25, 26] (.sq (.sq .leaf (.cn .leaf .leaf)) (.sj [3] [3, 5, 6, 13, 14, 15, 16, 17, 18, 19, 20, 21, 22, 23, 24, 25, 26] (.bl (.sq .leaf (.sq .leaf (.cn .leaf .leaf)))) .leaf))))) (.sq .leaf .leaf))))
theorem f20.body_eq : Tryd.f20.body = some f20.code := by kernel_rfl
theorem f20.shape (Z : List PanicEntry → World → Prop) (x0 : Value) (w : World) (Q : Value → World → Prop) : vc drawD Tryd.prog 28 Z [35] f20.an f20.code (fnQ Tryd.prog 28 Tryd.f20.results Q) (argEnv [x0]) w = f20.sh Z x0 w Q := by kernel_rfl
theorem f20.enters : ∀ f, f ∈ ([35] : List Nat) → Enters Tryd.prog f := by
  intro f hf
  simp only [List.mem_cons, List.not_mem_nil, or_false] at hf
  rcases hf with rfl
  · exact en35
theorem f20.calls {Z : List PanicEntry → World → Prop} {x0 : Value} {w : World} {Q : Value → World → Prop} (h : f20.sh Z x0 w Q) : CallV Tryd.prog Z 20 #[x0] w Q :=
  calls_of_vcn drawD_sound (Q := Q) (n := 28) (rs := Tryd.f20.results) (an := f20.an) (c := f20.code) (cal := [35]) (args := [x0]) Tryd.func20 (by kernel_rfl) rfl f20.body_eq follows (Nat.le_of_ble_eq_true (by kernel_rfl)) (enters_of_all f20.enters) ((f20.shape Z x0 w Q).mpr h)

/-! ### 21: lagoon/choose.Under -/
def f21.sh (Z : List PanicEntry → World → Prop) (x0 x1 x2 : Value) (w : World) (Q : Value → World → Prop) : Prop :=
  run1 Tryd.prog Z (convert 3 23 x1) w fun t10_1 w =>
  run1 Tryd.prog Z (binOp BinOp.mul 23 x2 t10_1) w fun t11_2 w =>
  run1 Tryd.prog Z (convert 3 23 x0) w fun t13_3 w =>
  run1 Tryd.prog Z (binOp BinOp.leq 23 t13_3 t11_2) w fun t15_4 w =>
  Q t15_4 w
noncomputable def f21.code : Code := match Tryd.f21.body with | some c => c | none => .skip
def f21.an : An := (.sq .leaf (.sq .leaf (.sq .leaf .leaf)))
theorem f21.body_eq : Tryd.f21.body = some f21.code := by kernel_rfl
theorem f21.shape (Z : List PanicEntry → World → Prop) (x0 x1 x2 : Value) (w : World) (Q : Value → World → Prop) : vc drawD Tryd.prog 16 Z [] f21.an f21.code (fnQ Tryd.prog 16 Tryd.f21.results Q) (argEnv [x0, x1, x2]) w = f21.sh Z x0 x1 x2 w Q := by kernel_rfl
theorem f21.enters : ∀ f, f ∈ ([] : List Nat) → Enters Tryd.prog f := by
  intro f hf
  cases hf
theorem f21.calls {Z : List PanicEntry → World → Prop} {x0 x1 x2 : Value} {w : World} {Q : Value → World → Prop} (h : f21.sh Z x0 x1 x2 w Q) : CallV Tryd.prog Z 21 #[x0, x1, x2] w Q :=
  calls_of_vcn drawD_sound (Q := Q) (n := 16) (rs := Tryd.f21.results) (an := f21.an) (c := f21.code) (cal := []) (args := [x0, x1, x2]) Tryd.func21 (by kernel_rfl) rfl f21.body_eq follows (Nat.le_of_ble_eq_true (by kernel_rfl)) (enters_of_all f21.enters) ((f21.shape Z x0 x1 x2 w Q).mpr h)

/-! ### 22: lagoon/lagoonref14.Under -/
def f22.sh (Z : List PanicEntry → World → Prop) (x0 x1 x2 : Value) (w : World) (Q : Value → World → Prop) : Prop :=
  run1 Tryd.prog Z (convert 3 23 x1) w fun t10_1 w =>
  run1 Tryd.prog Z (binOp BinOp.mul 23 x2 t10_1) w fun t11_2 w =>
  run1 Tryd.prog Z (convert 3 23 x0) w fun t13_3 w =>
  run1 Tryd.prog Z (binOp BinOp.leq 23 t13_3 t11_2) w fun t15_4 w =>
  Q t15_4 w
noncomputable def f22.code : Code := match Tryd.f22.body with | some c => c | none => .skip
def f22.an : An := (.sq .leaf (.sq .leaf (.sq .leaf .leaf)))
theorem f22.body_eq : Tryd.f22.body = some f22.code := by kernel_rfl
theorem f22.shape (Z : List PanicEntry → World → Prop) (x0 x1 x2 : Value) (w : World) (Q : Value → World → Prop) : vc drawD Tryd.prog 16 Z [] f22.an f22.code (fnQ Tryd.prog 16 Tryd.f22.results Q) (argEnv [x0, x1, x2]) w = f22.sh Z x0 x1 x2 w Q := by kernel_rfl
theorem f22.enters : ∀ f, f ∈ ([] : List Nat) → Enters Tryd.prog f := by
  intro f hf
  cases hf
theorem f22.calls {Z : List PanicEntry → World → Prop} {x0 x1 x2 : Value} {w : World} {Q : Value → World → Prop} (h : f22.sh Z x0 x1 x2 w Q) : CallV Tryd.prog Z 22 #[x0, x1, x2] w Q :=
  calls_of_vcn drawD_sound (Q := Q) (n := 16) (rs := Tryd.f22.results) (an := f22.an) (c := f22.code) (cal := []) (args := [x0, x1, x2]) Tryd.func22 (by kernel_rfl) rfl f22.body_eq follows (Nat.le_of_ble_eq_true (by kernel_rfl)) (enters_of_all f22.enters) ((f22.shape Z x0 x1 x2 w Q).mpr h)

/-! ### 23: lagoon/lagoonref00.SpareTxns -/
def f23.sh (Z : List PanicEntry → World → Prop) (x0 : Value) (w : World) (Q : Value → World → Prop) : Prop :=
  run1 Tryd.prog Z (Builtin.len_ #[22] 3 #[x0]) w fun t9_1 w =>
  run1 Tryd.prog Z (binOp BinOp.add 3 t9_1 (Value.int IntKind.i64 64)) w fun t10_2 w =>
  run1 Tryd.prog Z (Instr.sliceAt 22 x0 none (some t10_2) none) w fun t11_3 w =>
  run1 Tryd.prog Z (Builtin.len_ #[22] 3 #[x0]) w fun t13_4 w =>
  ∃ J_5 : Nat → Value → World → Prop, (∃ m, J_5 m t13_4 w) ∧
    ∀ m_5, ∀ t4_6 : Value, ∀ w : World, J_5 m_5 t4_6 w → Env →
      run1 Tryd.prog Z (Builtin.len_ #[22] 3 #[t11_3]) w fun t16_7 w =>
      run1 Tryd.prog Z (binOp BinOp.lss 3 t4_6 t16_7) w fun t17_8 w =>
      CondV t17_8 (
        run1 Tryd.prog Z (Instr.indexAt 22 t11_3 t4_6) w fun t22_9 w =>
        run1 Tryd.prog Z (Instr.fieldAt 49 t22_9 1) w fun t23_10 w =>
        run1 Tryd.prog Z (Instr.fieldAt 41 t23_10 2) w fun t24_11 w =>
        run1 Tryd.prog Z (Instr.loadAt 2 t24_11) w fun t25_12 w =>
        run1 Tryd.prog Z (binOp BinOp.sub 3 (Value.int IntKind.i64 (-3000000)) t4_6) w fun t27_13 w =>
        run1 Tryd.prog Z (eqOp BinOp.eql 2 false false t25_12 t27_13) w fun t28_14 w =>
        run1 Tryd.prog Z (Op.unary UnOp.not t28_14) w fun t29_15 w =>
        CondV t29_15 (
          Q (Value.bool false) w) (
          run1 Tryd.prog Z (binOp BinOp.add 3 t4_6 (Value.int IntKind.i64 1)) w fun t19_16 w =>
          ∃ n_5, n_5 < m_5 ∧ J_5 n_5 t19_16 w)) (
        ∃ J_17 : Nat → Value → World → Prop, (∃ m, J_17 m (Value.int IntKind.i64 0) w) ∧
          ∀ m_17, ∀ t5_18 : Value, ∀ w : World, J_17 m_17 t5_18 w → Env →
            run1 Tryd.prog Z (Builtin.len_ #[22] 3 #[x0]) w fun t32_19 w =>
            run1 Tryd.prog Z (binOp BinOp.lss 3 t5_18 t32_19) w fun t33_20 w =>
            CondV t33_20 (
              run1 Tryd.prog Z (Instr.indexAt 22 x0 t5_18) w fun t38_21 w =>
              run1 Tryd.prog Z (Instr.fieldAt 49 t38_21 2) w fun t39_22 w =>
              run1 Tryd.prog Z (Instr.loadAt 47 t39_22) w fun t40_23 w =>
              CallV Tryd.prog Z 36 #[t40_23] w fun t41_24 w =>
              run1 Tryd.prog Z (Op.unary UnOp.not t41_24) w fun t43_25 w =>
              CondV t43_25 (
                Q (Value.bool false) w) (
                run1 Tryd.prog Z (binOp BinOp.add 3 t5_18 (Value.int IntKind.i64 1)) w fun t35_26 w =>
                ∃ n_17, n_17 < m_17 ∧ J_17 n_17 t35_26 w)) (
              Q (Value.bool true) w))
noncomputable def f23.code : Code := match Tryd.f23.body with | some c => c | none => .skip
def f23.an : An := (.sq .leaf (.sq .leaf (.sq (.sq .leaf (.bl (.lp [4] [2, 4, 14, 15, 16, 17, 18, 19, 20, 21, 22, 23, 24, 25, 26, 27, 28, 29] (.sq (.sq .leaf (.cn .leaf .leaf)) (.sq (.bl (.sq .leaf (.cn (.sq .leaf .leaf) .leaf))) .leaf))))) (.sq (.sq .leaf (.bl (.lp [5] [2, 5, 6, 30, 31, 32, 33, 34, 35, 36, 37, 38, 39, 40, 41, 42, 43] (.sq (.sq .leaf (.cn .leaf .leaf)) (.sq (.bl (.sq .leaf (.sq .leaf (.cn (.sq .leaf .leaf) .leaf)))) .leaf))))) (.sq .leaf .leaf)))))
theorem f23.body_eq : Tryd.f23.body = some f23.code := by kernel_rfl
theorem f23.shape (Z : List PanicEntry → World → Prop) (x0 : Value) (w : World) (Q : Value → World → Prop) : vc drawD Tryd.prog 44 Z [36] f23.an f23.code (fnQ Tryd.prog 44 Tryd.f23.results Q) (argEnv [x0]) w = f23.sh Z x0 w Q := by kernel_rfl
theorem f23.enters : ∀ f, f ∈ ([36] : List Nat) → Enters Tryd.prog f := by
  intro f hf
  simp only [List.mem_cons, List.not_mem_nil, or_false] at hf
  rcases hf with rfl
  · exact en36
theorem f23.calls {Z : List PanicEntry → World → Prop} {x0 : Value} {w : World} {Q : Value → World → Prop} (h : f23.sh Z x0 w Q) : CallV Tryd.prog Z 23 #[x0] w Q :=
  calls_of_vcn drawD_sound (Q := Q) (n := 44) (rs := Tryd.f23.results) (an := f23.an) (c := f23.code) (cal := [36]) (args := [x0]) Tryd.func23 (by kernel_rfl) rfl f23.body_eq follows (Nat.le_of_ble_eq_true (by kernel_rfl)) (enters_of_all f23.enters) ((f23.shape Z x0 w Q).mpr h)

/-! ### 24: lagoon/lagoonref00.Large -/
def f24.sh (Z : List PanicEntry → World → Prop) (x0 : Value) (w : World) (Q : Value → World → Prop) : Prop :=
  run1 Tryd.prog Z (Instr.box 47 x0) w fun t1_1 w =>
  run1 Tryd.prog Z (Instr.loadAt 47 t1_1) w fun t3_2 w =>
  CallV Tryd.prog Z 25 #[t3_2] w fun t4_3 w =>
  run1 Tryd.prog Z (binOp BinOp.gtr 3 t4_3 (Value.int IntKind.i64 20000)) w fun t5_4 w =>
  Q t5_4 w
noncomputable def f24.code : Code := match Tryd.f24.body with | some c => c | none => .skip
def f24.an : An := (.sq .leaf (.sq .leaf .leaf))
theorem f24.body_eq : Tryd.f24.body = some f24.code := by kernel_rfl
theorem f24.shape (Z : List PanicEntry → World → Prop) (x0 : Value) (w : World) (Q : Value → World → Prop) : vc drawD Tryd.prog 6 Z [25] f24.an f24.code (fnQ Tryd.prog 6 Tryd.f24.results Q) (argEnv [x0]) w = f24.sh Z x0 w Q := by kernel_rfl
theorem f24.enters : ∀ f, f ∈ ([25] : List Nat) → Enters Tryd.prog f := by
  intro f hf
  simp only [List.mem_cons, List.not_mem_nil, or_false] at hf
  rcases hf with rfl
  · exact en25
theorem f24.calls {Z : List PanicEntry → World → Prop} {x0 : Value} {w : World} {Q : Value → World → Prop} (h : f24.sh Z x0 w Q) : CallV Tryd.prog Z 24 #[x0] w Q :=
  calls_of_vcn drawD_sound (Q := Q) (n := 6) (rs := Tryd.f24.results) (an := f24.an) (c := f24.code) (cal := [25]) (args := [x0]) Tryd.func24 (by kernel_rfl) rfl f24.body_eq follows (Nat.le_of_ble_eq_true (by kernel_rfl)) (enters_of_all f24.enters) ((f24.shape Z x0 w Q).mpr h)

/-! ### 25: lagoon/lagoonref00.Parts -/
def f25.sh (Z : List PanicEntry → World → Prop) (x0 : Value) (w : World) (Q : Value → World → Prop) : Prop :=
  run1 Tryd.prog Z (Instr.box 47 x0) w fun t1_1 w =>
  run1 Tryd.prog Z (Instr.loadAt 47 t1_1) w fun t3_2 w =>
  CallV Tryd.prog Z 37 #[t3_2, (Value.int IntKind.i64 0)] w fun t4_3 w =>
  Q t4_3 w
noncomputable def f25.code : Code := match Tryd.f25.body with | some c => c | none => .skip
def f25.an : An := (.sq .leaf (.sq .leaf .leaf))
theorem f25.body_eq : Tryd.f25.body = some f25.code := by kernel_rfl
theorem f25.shape (Z : List PanicEntry → World → Prop) (x0 : Value) (w : World) (Q : Value → World → Prop) : vc drawD Tryd.prog 5 Z [37] f25.an f25.code (fnQ Tryd.prog 5 Tryd.f25.results Q) (argEnv [x0]) w = f25.sh Z x0 w Q := by kernel_rfl
theorem f25.enters : ∀ f, f ∈ ([37] : List Nat) → Enters Tryd.prog f := by
  intro f hf
  simp only [List.mem_cons, List.not_mem_nil, or_false] at hf
  rcases hf with rfl
  · exact en37
theorem f25.calls {Z : List PanicEntry → World → Prop} {x0 : Value} {w : World} {Q : Value → World → Prop} (h : f25.sh Z x0 w Q) : CallV Tryd.prog Z 25 #[x0] w Q :=
  calls_of_vcn drawD_sound (Q := Q) (n := 5) (rs := Tryd.f25.results) (an := f25.an) (c := f25.code) (cal := [37]) (args := [x0]) Tryd.func25 (by kernel_rfl) rfl f25.body_eq follows (Nat.le_of_ble_eq_true (by kernel_rfl)) (enters_of_all f25.enters) ((f25.shape Z x0 w Q).mpr h)

/-! ### 26: lagoon/lagoonlaw14.least -/
def f26.sh (Z : List PanicEntry → World → Prop) (w : World) (Q : Value → World → Prop) : Prop :=
  run1 Tryd.prog Z (Instr.build 30 #[(0, (Value.int IntKind.u32 1)), (1, (Value.int IntKind.u32 1))]) w fun t1_1 w =>
  run1 Tryd.prog Z (Instr.build 47 #[(0, (Value.int IntKind.i8 7)), (8, (Value.int IntKind.i32 1))]) w fun t2_2 w =>
  run1 Tryd.prog Z (Instr.build 49 #[(0, t1_1), (2, t2_2)]) w fun t3_3 w =>
  run1 Tryd.prog Z (Instr.buildSlice 22 1 #[(0, t3_3)]) w fun t4_4 w =>
  Q t4_4 w
noncomputable def f26.code : Code := match Tryd.f26.body with | some c => c | none => .skip
def f26.an : An := (.sq .leaf (.sq .leaf .leaf))
theorem f26.body_eq : Tryd.f26.body = some f26.code := by kernel_rfl
theorem f26.shape (Z : List PanicEntry → World → Prop) (w : World) (Q : Value → World → Prop) : vc drawD Tryd.prog 5 Z [] f26.an f26.code (fnQ Tryd.prog 5 Tryd.f26.results Q) (argEnv []) w = f26.sh Z  w Q := by kernel_rfl
theorem f26.enters : ∀ f, f ∈ ([] : List Nat) → Enters Tryd.prog f := by
  intro f hf
  cases hf
theorem f26.calls {Z : List PanicEntry → World → Prop} {w : World} {Q : Value → World → Prop} (h : f26.sh Z  w Q) : CallV Tryd.prog Z 26 #[] w Q :=
  calls_of_vcn drawD_sound (Q := Q) (n := 5) (rs := Tryd.f26.results) (an := f26.an) (c := f26.code) (cal := []) (args := []) Tryd.func26 (by kernel_rfl) rfl f26.body_eq follows (Nat.le_of_ble_eq_true (by kernel_rfl)) (enters_of_all f26.enters) ((f26.shape Z  w Q).mpr h)

/-! ### 27: lagoon/txn.Rises -/
def f27.sh (Z : List PanicEntry → World → Prop) (x0 x1 : Value) (w : World) (Q : Value → World → Prop) : Prop :=
  run1 Tryd.prog Z (Instr.box 30 x0) w fun t2_1 w =>
  run1 Tryd.prog Z (Builtin.len_ #[22] 3 #[x1]) w fun t8_2 w =>
  ∃ J_3 : Nat → Value → World → Prop, (∃ m, J_3 m (Value.int IntKind.i64 0) w) ∧
    ∀ m_3, ∀ t9_4 : Value, ∀ w : World, J_3 m_3 t9_4 w → Env →
      run1 Tryd.prog Z (binOp BinOp.lss 3 t9_4 t8_2) w fun t10_5 w =>
      CondV t10_5 (
        run1 Tryd.prog Z (Instr.indexAt 22 x1 t9_4) w fun t11_6 w =>
        run1 Tryd.prog Z (Instr.loadAt 49 t11_6) w fun t12_7 w =>
        run1 Tryd.prog Z (Instr.alloc 49 true (.tuple #[])) w fun t6_8 w =>
        run0 Tryd.prog Z (Instr.storeAt 49 t6_8 t12_7) w fun w =>
        run1 Tryd.prog Z (Instr.loadAt 30 t2_1) w fun t13_9 w =>
        run1 Tryd.prog Z (Instr.fieldAt 49 t6_8 0) w fun t14_10 w =>
        run1 Tryd.prog Z (Instr.loadAt 30 t14_10) w fun t15_11 w =>
        CallV Tryd.prog Z 28 #[t13_9, t15_11] w fun t16_12 w =>
        run1 Tryd.prog Z (binOp BinOp.geq 3 t16_12 (Value.int IntKind.i64 0)) w fun t17_13 w =>
        CondV t17_13 (
          Q (Value.bool false) w) (
          run1 Tryd.prog Z (Instr.fieldAt 49 t6_8 0) w fun t18_14 w =>
          run1 Tryd.prog Z (Instr.loadAt 30 t18_14) w fun t19_15 w =>
          run0 Tryd.prog Z (Instr.storeAt 30 t2_1 t19_15) w fun w =>
          run1 Tryd.prog Z (binOp BinOp.add 3 t9_4 (Value.int IntKind.i64 1)) w fun t20_16 w =>
          ∃ n_3, n_3 < m_3 ∧ J_3 n_3 t20_16 w)) (
        Q (Value.bool true) w)
noncomputable def f27.code : Code := match Tryd.f27.body with | some c => c | none => .skip
def f27.an : An := (.sq .leaf (.sq (.sq .leaf (.bl (.lp [9] [4, 6, 9, 10, 11, 12, 13, 14, 15, 16, 17, 18, 19, 20] (.sq .leaf (.sq (.cn .leaf .leaf) (.sq (.bl (.sq .leaf (.sq (.sq .leaf (.cn (.sq .leaf .leaf) .leaf)) .leaf))) .leaf)))))) (.sq .leaf .leaf)))
theorem f27.body_eq : Tryd.f27.body = some f27.code := by kernel_rfl
theorem f27.shape (Z : List PanicEntry → World → Prop) (x0 x1 : Value) (w : World) (Q : Value → World → Prop) : vc drawD Tryd.prog 21 Z [28] f27.an f27.code (fnQ Tryd.prog 21 Tryd.f27.results Q) (argEnv [x0, x1]) w = f27.sh Z x0 x1 w Q := by kernel_rfl
theorem f27.enters : ∀ f, f ∈ ([28] : List Nat) → Enters Tryd.prog f := by
  intro f hf
  simp only [List.mem_cons, List.not_mem_nil, or_false] at hf
  rcases hf with rfl
  · exact en28
theorem f27.calls {Z : List PanicEntry → World → Prop} {x0 x1 : Value} {w : World} {Q : Value → World → Prop} (h : f27.sh Z x0 x1 w Q) : CallV Tryd.prog Z 27 #[x0, x1] w Q :=
  calls_of_vcn drawD_sound (Q := Q) (n := 21) (rs := Tryd.f27.results) (an := f27.an) (c := f27.code) (cal := [28]) (args := [x0, x1]) Tryd.func27 (by kernel_rfl) rfl f27.body_eq follows (Nat.le_of_ble_eq_true (by kernel_rfl)) (enters_of_all f27.enters) ((f27.shape Z x0 x1 w Q).mpr h)

/-! ### 28: lagoon/txn.Compare -/
def f28.sh (Z : List PanicEntry → World → Prop) (x0 x1 : Value) (w : World) (Q : Value → World → Prop) : Prop :=
  run1 Tryd.prog Z (Instr.box 30 x0) w fun t2_1 w =>
  run1 Tryd.prog Z (Instr.box 30 x1) w fun t3_2 w =>
  Drawn w fun w =>
  Pure1 Tryd.prog (Instr.fieldAt 30 t2_1 0) fun t5_3 =>
  Read1 Tryd.prog (Instr.loadAt 28 t5_3) w fun t6_4 =>
  Pure1 Tryd.prog (Instr.fieldAt 30 t3_2 0) fun t7_5 =>
  Read1 Tryd.prog (Instr.loadAt 28 t7_5) w fun t8_6 =>
  Pure1 Tryd.prog (Instr.fieldAt 30 t2_1 1) fun t10_7 =>
  Read1 Tryd.prog (Instr.loadAt 28 t10_7) w fun t11_8 =>
  Pure1 Tryd.prog (Instr.fieldAt 30 t3_2 1) fun t12_9 =>
  Read1 Tryd.prog (Instr.loadAt 28 t12_9) w fun t13_10 =>
  CallV Tryd.prog Z 39 #[t6_4, t8_6] w fun t9_11 w =>
    Still Tryd.prog (nx (Instr.loadAt 28 t12_9)) t13_10 w <|
    Still Tryd.prog (nx (Instr.loadAt 28 t10_7)) t11_8 w <|
  CallV Tryd.prog Z 39 #[t11_8, t13_10] w fun t14_12 w =>
  run1 Tryd.prog Z (Instr.buildSlice 96 2 #[(0, t9_11), (1, t14_12)]) w fun t15_13 w =>
  CallV Tryd.prog Z 38 #[t15_13] w fun t16_14 w =>
  Q t16_14 w
noncomputable def f28.code : Code := match Tryd.f28.body with | some c => c | none => .skip
def f28.an : An := (.sq .leaf (.sq (.dr (.take 0 false (.take 1 true (.take 2 false (.take 3 true (.take 5 false (.take 6 true (.take 7 false (.take 8 true (.one 4 (.one 9 (.one 10 (.one 11 (.take 12 false .fin)))))))))))))) .leaf))
theorem f28.body_eq : Tryd.f28.body = some f28.code := by kernel_rfl
theorem f28.shape (Z : List PanicEntry → World → Prop) (x0 x1 : Value) (w : World) (Q : Value → World → Prop) : vc drawD Tryd.prog 17 Z [39, 38] f28.an f28.code (fnQ Tryd.prog 17 Tryd.f28.results Q) (argEnv [x0, x1]) w = f28.sh Z x0 x1 w Q := by kernel_rfl
theorem f28.enters : ∀ f, f ∈ ([39, 38] : List Nat) → Enters Tryd.prog f := by
  intro f hf
  simp only [List.mem_cons, List.not_mem_nil, or_false] at hf
  rcases hf with rfl | rfl
  · exact en39
  · exact en38
theorem f28.calls {Z : List PanicEntry → World → Prop} {x0 x1 : Value} {w : World} {Q : Value → World → Prop} (h : f28.sh Z x0 x1 w Q) : CallV Tryd.prog Z 28 #[x0, x1] w Q :=
  calls_of_vcn drawD_sound (Q := Q) (n := 17) (rs := Tryd.f28.results) (an := f28.an) (c := f28.code) (cal := [39, 38]) (args := [x0, x1]) Tryd.func28 (by kernel_rfl) rfl f28.body_eq follows (Nat.le_of_ble_eq_true (by kernel_rfl)) (enters_of_all f28.enters) ((f28.shape Z x0 x1 w Q).mpr h)

/-! ### 29: lagoon/choose.first[lagoon/api.Txn] -/
def f29.sh (Z : List PanicEntry → World → Prop) (x0 x1 : Value) (w : World) (Q : Value → World → Prop) : Prop :=
  run1 Tryd.prog Z (Builtin.len_ #[22] 3 #[x0]) w fun t9_1 w =>
  ∃ J_2 : Nat → Value → Value → World → Prop, (∃ m, J_2 m (Value.int IntKind.i64 0) t9_1 w) ∧
    ∀ m_2, ∀ t5_3 : Value, ∀ t6_4 : Value, ∀ w : World, J_2 m_2 t5_3 t6_4 w → Env →
      run1 Tryd.prog Z (binOp BinOp.lss 3 t5_3 t6_4) w fun t12_5 w =>
      CondV t12_5 (
        run1 Tryd.prog Z (binOp BinOp.add 3 t5_3 t6_4) w fun t15_6 w =>
        run1 Tryd.prog Z (binOp BinOp.quo 3 t15_6 (Value.int IntKind.i64 2)) w fun t16_7 w =>
        run1 Tryd.prog Z (Instr.indexAt 22 x0 t16_7) w fun t20_8 w =>
        run1 Tryd.prog Z (Instr.loadAt 49 t20_8) w fun t21_9 w =>
        runX Tryd.prog Z (callVal x1 #[t21_9]) w fun t22_10 w =>
        run1 Tryd.prog Z (binOp BinOp.leq 3 t22_10 (Value.int IntKind.i64 0)) w fun t23_11 w =>
        CondV t23_11 (
          run1 Tryd.prog Z (binOp BinOp.add 3 t16_7 (Value.int IntKind.i64 1)) w fun t25_12 w =>
          ∃ n_2, n_2 < m_2 ∧ J_2 n_2 t25_12 t6_4 w) (
          ∃ n_2, n_2 < m_2 ∧ J_2 n_2 t5_3 t16_7 w)) (
        Q t5_3 w)
noncomputable def f29.code : Code := match Tryd.f29.body with | some c => c | none => .skip
def f29.an : An := (.sq .leaf (.sq .leaf (.sq (.bl (.lp [5, 6] [5, 6, 7, 10, 11, 12, 13, 14, 15, 16, 17, 18, 19, 20, 21, 22, 23, 24, 25, 26] (.sq (.sq .leaf (.cn .leaf .leaf)) (.bl (.sq .leaf (.sq .leaf (.cn .leaf .leaf))))))) (.sq .leaf .leaf))))
theorem f29.body_eq : Tryd.f29.body = some f29.code := by kernel_rfl
theorem f29.shape (Z : List PanicEntry → World → Prop) (x0 x1 : Value) (w : World) (Q : Value → World → Prop) : vc drawD Tryd.prog 28 Z [] f29.an f29.code (fnQ Tryd.prog 28 Tryd.f29.results Q) (argEnv [x0, x1]) w = f29.sh Z x0 x1 w Q := by kernel_rfl
theorem f29.enters : ∀ f, f ∈ ([] : List Nat) → Enters Tryd.prog f := by
  intro f hf
  cases hf
theorem f29.calls {Z : List PanicEntry → World → Prop} {x0 x1 : Value} {w : World} {Q : Value → World → Prop} (h : f29.sh Z x0 x1 w Q) : CallV Tryd.prog Z 29 #[x0, x1] w Q :=
  calls_of_vcn drawD_sound (Q := Q) (n := 28) (rs := Tryd.f29.results) (an := f29.an) (c := f29.code) (cal := []) (args := [x0, x1]) Tryd.func29 (by kernel_rfl) rfl f29.body_eq follows (Nat.le_of_ble_eq_true (by kernel_rfl)) (enters_of_all f29.enters) ((f29.shape Z x0 x1 w Q).mpr h)

/-! ### 30: lagoon/choose.Way$1 -/
def f30.sh (Z : List PanicEntry → World → Prop) (x0 x1 : Value) (w : World) (Q : Value → World → Prop) : Prop :=
  run1 Tryd.prog Z (Instr.box 49 x0) w fun t2_1 w =>
  run1 Tryd.prog Z (Instr.fieldAt 49 t2_1 0) w fun t4_2 w =>
  run1 Tryd.prog Z (Instr.loadAt 30 t4_2) w fun t5_3 w =>
  run1 Tryd.prog Z (Instr.loadAt 30 x1) w fun t6_4 w =>
  CallV Tryd.prog Z 28 #[t5_3, t6_4] w fun t7_5 w =>
  Q t7_5 w
noncomputable def f30.code : Code := match Tryd.f30.body with | some c => c | none => .skip
def f30.an : An := (.sq .leaf (.sq .leaf .leaf))
theorem f30.body_eq : Tryd.f30.body = some f30.code := by kernel_rfl
theorem f30.shape (Z : List PanicEntry → World → Prop) (x0 x1 : Value) (w : World) (Q : Value → World → Prop) : vc drawD Tryd.prog 8 Z [28] f30.an f30.code (fnQ Tryd.prog 8 Tryd.f30.results Q) (argEnv [x0, x1]) w = f30.sh Z x0 x1 w Q := by kernel_rfl
theorem f30.enters : ∀ f, f ∈ ([28] : List Nat) → Enters Tryd.prog f := by
  intro f hf
  simp only [List.mem_cons, List.not_mem_nil, or_false] at hf
  rcases hf with rfl
  · exact en28
theorem f30.calls {Z : List PanicEntry → World → Prop} {x0 x1 : Value} {w : World} {Q : Value → World → Prop} (h : f30.sh Z x0 x1 w Q) : CallV Tryd.prog Z 30 #[x0, x1] w Q :=
  calls_of_vcn drawD_sound (Q := Q) (n := 8) (rs := Tryd.f30.results) (an := f30.an) (c := f30.code) (cal := [28]) (args := [x0, x1]) Tryd.func30 (by kernel_rfl) rfl f30.body_eq follows (Nat.le_of_ble_eq_true (by kernel_rfl)) (enters_of_all f30.enters) ((f30.shape Z x0 x1 w Q).mpr h)

/-! ### 31: lagoon/lagoonref00.CopyTxn -/
def f31.sh (Z : List PanicEntry → World → Prop) (x0 : Value) (w : World) (Q : Value → World → Prop) : Prop :=
  run1 Tryd.prog Z (Instr.box 49 x0) w fun t1_1 w =>
  run1 Tryd.prog Z (Instr.alloc 49 true (.tuple #[])) w fun t2_2 w =>
  run1 Tryd.prog Z (Instr.fieldAt 49 t1_1 2) w fun t3_3 w =>
  run1 Tryd.prog Z (Instr.loadAt 47 t3_3) w fun t4_4 w =>
  CallV Tryd.prog Z 40 #[t4_4] w fun t5_5 w =>
  run1 Tryd.prog Z (Instr.fieldAt 49 t1_1 2) w fun t6_6 w =>
  run0 Tryd.prog Z (Instr.storeAt 47 t6_6 t5_5) w fun w =>
  run1 Tryd.prog Z (Instr.loadAt 49 t1_1) w fun t7_7 w =>
  run0 Tryd.prog Z (Instr.storeAt 49 t2_2 t7_7) w fun w =>
  ∃ r_8, (do loadVar 49 (← asAddr t2_2) : Sem Value).run Tryd.prog w = .ok r_8 w ∧
  Q r_8 w
noncomputable def f31.code : Code := match Tryd.f31.body with | some c => c | none => .skip
def f31.an : An := (.sq .leaf (.sq .leaf (.sq .leaf .leaf)))
theorem f31.body_eq : Tryd.f31.body = some f31.code := by kernel_rfl
theorem f31.shape (Z : List PanicEntry → World → Prop) (x0 : Value) (w : World) (Q : Value → World → Prop) : vc drawD Tryd.prog 8 Z [40] f31.an f31.code (fnQ Tryd.prog 8 Tryd.f31.results Q) (argEnv [x0]) w = f31.sh Z x0 w Q := by kernel_rfl
theorem f31.enters : ∀ f, f ∈ ([40] : List Nat) → Enters Tryd.prog f := by
  intro f hf
  simp only [List.mem_cons, List.not_mem_nil, or_false] at hf
  rcases hf with rfl
  · exact en40
theorem f31.calls {Z : List PanicEntry → World → Prop} {x0 : Value} {w : World} {Q : Value → World → Prop} (h : f31.sh Z x0 w Q) : CallV Tryd.prog Z 31 #[x0] w Q :=
  calls_of_vcn drawD_sound (Q := Q) (n := 8) (rs := Tryd.f31.results) (an := f31.an) (c := f31.code) (cal := [40]) (args := [x0]) Tryd.func31 (by kernel_rfl) rfl f31.body_eq follows (Nat.le_of_ble_eq_true (by kernel_rfl)) (enters_of_all f31.enters) ((f31.shape Z x0 w Q).mpr h)

/-! ### 32: lagoon/lagoonref00.EqTxn -/
def f32.sh (Z : List PanicEntry → World → Prop) (x0 x1 : Value) (w : World) (Q : Value → World → Prop) : Prop :=
  run1 Tryd.prog Z (Instr.box 49 x0) w fun t2_1 w =>
  run1 Tryd.prog Z (Instr.box 49 x1) w fun t3_2 w =>
  run1 Tryd.prog Z (Instr.fieldAt 49 t2_1 0) w fun t5_3 w =>
  run1 Tryd.prog Z (Instr.loadAt 30 t5_3) w fun t6_4 w =>
  run1 Tryd.prog Z (Instr.fieldAt 49 t3_2 0) w fun t7_5 w =>
  run1 Tryd.prog Z (Instr.loadAt 30 t7_5) w fun t8_6 w =>
  run1 Tryd.prog Z (eqOp BinOp.eql 30 false false t6_4 t8_6) w fun t9_7 w =>
  guardW (t9_7) true (fun k => run1 Tryd.prog Z (Instr.fieldAt 49 t2_1 1) w k) (fun t11_8 w =>
  guardW (t9_7) true (fun k => run1 Tryd.prog Z (Instr.loadAt 41 t11_8) w k) (fun t12_9 w =>
  guardW (t9_7) true (fun k => run1 Tryd.prog Z (Instr.fieldAt 49 t3_2 1) w k) (fun t13_10 w =>
  guardW (t9_7) true (fun k => run1 Tryd.prog Z (Instr.loadAt 41 t13_10) w k) (fun t14_11 w =>
  guardW (t9_7) true (fun k => run1 Tryd.prog Z (eqOp BinOp.eql 41 false false t12_9 t14_11) w k) (fun t15_12 w =>
  run1 Tryd.prog Z (pickV t9_7 t15_12 (Value.bool false)) w fun t16_13 w =>
  guardW (t16_13) true (fun k => run1 Tryd.prog Z (Instr.fieldAt 49 t2_1 2) w k) (fun t18_14 w =>
  guardW (t16_13) true (fun k => run1 Tryd.prog Z (Instr.loadAt 47 t18_14) w k) (fun t19_15 w =>
  guardW (t16_13) true (fun k => run1 Tryd.prog Z (Instr.fieldAt 49 t3_2 2) w k) (fun t20_16 w =>
  guardW (t16_13) true (fun k => run1 Tryd.prog Z (Instr.loadAt 47 t20_16) w k) (fun t21_17 w =>
  guardW (t16_13) true (fun k => CallV Tryd.prog Z 41 #[t19_15, t21_17] w k) (fun t22_18 w =>
  run1 Tryd.prog Z (pickV t16_13 t22_18 (Value.bool false)) w fun t23_19 w =>
  Q t23_19 w) w) w) w) w) w) w) w) w) w) w
noncomputable def f32.code : Code := match Tryd.f32.body with | some c => c | none => .skip
def f32.an : An := (.sq .leaf (.sq .leaf .leaf))
theorem f32.body_eq : Tryd.f32.body = some f32.code := by kernel_rfl
theorem f32.shape (Z : List PanicEntry → World → Prop) (x0 x1 : Value) (w : World) (Q : Value → World → Prop) : vc drawD Tryd.prog 24 Z [41] f32.an f32.code (fnQ Tryd.prog 24 Tryd.f32.results Q) (argEnv [x0, x1]) w = f32.sh Z x0 x1 w Q := by kernel_rfl
theorem f32.enters : ∀ f, f ∈ ([41] : List Nat) → Enters Tryd.prog f := by
  intro f hf
  simp only [List.mem_cons, List.not_mem_nil, or_false] at hf
  rcases hf with rfl
  · exact en41
theorem f32.calls {Z : List PanicEntry → World → Prop} {x0 x1 : Value} {w : World} {Q : Value → World → Prop} (h : f32.sh Z x0 x1 w Q) : CallV Tryd.prog Z 32 #[x0, x1] w Q :=
  calls_of_vcn drawD_sound (Q := Q) (n := 24) (rs := Tryd.f32.results) (an := f32.an) (c := f32.code) (cal := [41]) (args := [x0, x1]) Tryd.func32 (by kernel_rfl) rfl f32.body_eq follows (Nat.le_of_ble_eq_true (by kernel_rfl)) (enters_of_all f32.enters) ((f32.shape Z x0 x1 w Q).mpr h)

/-! ### 33: lagoon/lagoonref00.WideTxn -/
def f33.sh (Z : List PanicEntry → World → Prop) (x0 : Value) (w : World) (Q : Value → World → Prop) : Prop :=
  run1 Tryd.prog Z (Instr.box 49 x0) w fun t1_1 w =>
  run1 Tryd.prog Z (Instr.alloc 49 true (.tuple #[])) w fun t2_2 w =>
  run1 Tryd.prog Z (Instr.fieldAt 49 t1_1 2) w fun t3_3 w =>
  run1 Tryd.prog Z (Instr.loadAt 47 t3_3) w fun t4_4 w =>
  CallV Tryd.prog Z 42 #[t4_4] w fun t5_5 w =>
  run1 Tryd.prog Z (Instr.fieldAt 49 t1_1 2) w fun t6_6 w =>
  run0 Tryd.prog Z (Instr.storeAt 47 t6_6 t5_5) w fun w =>
  run1 Tryd.prog Z (Instr.loadAt 49 t1_1) w fun t7_7 w =>
  run0 Tryd.prog Z (Instr.storeAt 49 t2_2 t7_7) w fun w =>
  ∃ r_8, (do loadVar 49 (← asAddr t2_2) : Sem Value).run Tryd.prog w = .ok r_8 w ∧
  Q r_8 w
noncomputable def f33.code : Code := match Tryd.f33.body with | some c => c | none => .skip
def f33.an : An := (.sq .leaf (.sq .leaf (.sq .leaf .leaf)))
theorem f33.body_eq : Tryd.f33.body = some f33.code := by kernel_rfl
theorem f33.shape (Z : List PanicEntry → World → Prop) (x0 : Value) (w : World) (Q : Value → World → Prop) : vc drawD Tryd.prog 8 Z [42] f33.an f33.code (fnQ Tryd.prog 8 Tryd.f33.results Q) (argEnv [x0]) w = f33.sh Z x0 w Q := by kernel_rfl
theorem f33.enters : ∀ f, f ∈ ([42] : List Nat) → Enters Tryd.prog f := by
  intro f hf
  simp only [List.mem_cons, List.not_mem_nil, or_false] at hf
  rcases hf with rfl
  · exact en42
theorem f33.calls {Z : List PanicEntry → World → Prop} {x0 : Value} {w : World} {Q : Value → World → Prop} (h : f33.sh Z x0 w Q) : CallV Tryd.prog Z 33 #[x0] w Q :=
  calls_of_vcn drawD_sound (Q := Q) (n := 8) (rs := Tryd.f33.results) (an := f33.an) (c := f33.code) (cal := [42]) (args := [x0]) Tryd.func33 (by kernel_rfl) rfl f33.body_eq follows (Nat.le_of_ble_eq_true (by kernel_rfl)) (enters_of_all f33.enters) ((f33.shape Z x0 w Q).mpr h)

/-! ### 34: lagoon/txn.Write -/
def f34.sh (Z : List PanicEntry → World → Prop) (x0 : Value) (w : World) (Q : Value → World → Prop) : Prop :=
  run1 Tryd.prog Z (Instr.box 49 x0) w fun t1_1 w =>
  run1 Tryd.prog Z (Instr.loadAt 49 t1_1) w fun t5_2 w =>
  CallV Tryd.prog Z 43 #[t5_2] w fun t6_3 w =>
  run1 Tryd.prog Z (eqOp BinOp.neq 34 false true t6_3 (Value.int IntKind.i64 0)) w fun t7_4 w =>
  CondV t7_4 (
    Q (Value.tuple #[(Value.slice none 0 0), (Value.int IntKind.i64 40)]) w) (
    run1 Tryd.prog Z (Instr.build 79 #[]) w fun t8_5 w =>
    run1 Tryd.prog Z (Instr.box 79 t8_5) w fun t9_6 w =>
    run1 Tryd.prog Z (Instr.fieldAt 49 t1_1 0) w fun t11_7 w =>
    run1 Tryd.prog Z (Instr.fieldAt 30 t11_7 0) w fun t12_8 w =>
    run1 Tryd.prog Z (Instr.loadAt 28 t12_8) w fun t13_9 w =>
    CallV Tryd.prog Z 44 #[t9_6, t13_9] w fun t14_10 w =>
    run1 Tryd.prog Z (Instr.fieldAt 49 t1_1 0) w fun t16_11 w =>
    run1 Tryd.prog Z (Instr.fieldAt 30 t16_11 1) w fun t17_12 w =>
    run1 Tryd.prog Z (Instr.loadAt 28 t17_12) w fun t18_13 w =>
    CallV Tryd.prog Z 44 #[t9_6, t18_13] w fun t19_14 w =>
    run1 Tryd.prog Z (Instr.fieldAt 49 t1_1 1) w fun t21_15 w =>
    run1 Tryd.prog Z (Instr.fieldAt 41 t21_15 0) w fun t22_16 w =>
    run1 Tryd.prog Z (Instr.loadAt 31 t22_16) w fun t23_17 w =>
    CallV Tryd.prog Z 45 #[t9_6, t23_17] w fun t24_18 w =>
    run1 Tryd.prog Z (Instr.fieldAt 49 t1_1 1) w fun t26_19 w =>
    run1 Tryd.prog Z (Instr.fieldAt 41 t26_19 1) w fun t27_20 w =>
    run1 Tryd.prog Z (Instr.loadAt 28 t27_20) w fun t28_21 w =>
    CallV Tryd.prog Z 44 #[t9_6, t28_21] w fun t29_22 w =>
    run1 Tryd.prog Z (Instr.fieldAt 49 t1_1 1) w fun t31_23 w =>
    run1 Tryd.prog Z (Instr.fieldAt 41 t31_23 2) w fun t32_24 w =>
    run1 Tryd.prog Z (Instr.loadAt 2 t32_24) w fun t33_25 w =>
    CallV Tryd.prog Z 46 #[t9_6, t33_25] w fun t34_26 w =>
    run1 Tryd.prog Z (Instr.build 84 #[]) w fun t35_27 w =>
    run1 Tryd.prog Z (Instr.fieldAt 49 t1_1 2) w fun t37_28 w =>
    run1 Tryd.prog Z (Instr.loadAt 47 t37_28) w fun t38_29 w =>
    CallV Tryd.prog Z 47 #[t35_27, t9_6, t38_29] w fun t39_30 w =>
    CallV Tryd.prog Z 48 #[t9_6] w fun t41_31 w =>
    Q (Value.tuple #[t41_31, (Value.int IntKind.i64 0)]) w)
noncomputable def f34.code : Code := match Tryd.f34.body with | some c => c | none => .skip
def f34.an : An := (.sq .leaf (.sq (.sq .leaf (.cn (.sq .leaf .leaf) .leaf)) (.sq .leaf (.sq .leaf (.sq .leaf (.sq .leaf (.sq .leaf (.sq .leaf (.sq .leaf (.sq .leaf .leaf))))))))))
theorem f34.body_eq : Tryd.f34.body = some f34.code := by kernel_rfl
theorem f34.shape (Z : List PanicEntry → World → Prop) (x0 : Value) (w : World) (Q : Value → World → Prop) : vc drawD Tryd.prog 42 Z [43, 44, 45, 46, 47, 48] f34.an f34.code (fnQ Tryd.prog 42 Tryd.f34.results Q) (argEnv [x0]) w = f34.sh Z x0 w Q := by kernel_rfl
theorem f34.enters : ∀ f, f ∈ ([43, 44, 45, 46, 47, 48] : List Nat) → Enters Tryd.prog f := by
  intro f hf
  simp only [List.mem_cons, List.not_mem_nil, or_false] at hf
  rcases hf with rfl | rfl | rfl | rfl | rfl | rfl
  · exact en43
  · exact en44
  · exact en45
  · exact en46
  · exact en47
  · exact en48
theorem f34.calls {Z : List PanicEntry → World → Prop} {x0 : Value} {w : World} {Q : Value → World → Prop} (h : f34.sh Z x0 w Q) : CallV Tryd.prog Z 34 #[x0] w Q :=
  calls_of_vcn drawD_sound (Q := Q) (n := 42) (rs := Tryd.f34.results) (an := f34.an) (c := f34.code) (cal := [43, 44, 45, 46, 47, 48]) (args := [x0]) Tryd.func34 (by kernel_rfl) rfl f34.body_eq follows (Nat.le_of_ble_eq_true (by kernel_rfl)) (enters_of_all f34.enters) ((f34.shape Z x0 w Q).mpr h)

/-! ### 35: lagoon/lagoonref04.Write -/
def f35.sh (Z : List PanicEntry → World → Prop) (x0 : Value) (w : World) (Q : Value → World → Prop) : Prop :=
  run1 Tryd.prog Z (Instr.box 49 x0) w fun t1_1 w =>
  run1 Tryd.prog Z (Instr.loadAt 49 t1_1) w fun t5_2 w =>
  CallV Tryd.prog Z 49 #[t5_2] w fun t6_3 w =>
  run1 Tryd.prog Z (eqOp BinOp.neq 34 false true t6_3 (Value.int IntKind.i64 0)) w fun t7_4 w =>
  CondV t7_4 (
    Q (Value.tuple #[(Value.slice none 0 0), (Value.int IntKind.i64 40)]) w) (
    run1 Tryd.prog Z (Instr.fieldAt 49 t1_1 0) w fun t8_5 w =>
    run1 Tryd.prog Z (Instr.fieldAt 30 t8_5 0) w fun t9_6 w =>
    run1 Tryd.prog Z (Instr.loadAt 28 t9_6) w fun t10_7 w =>
    CallV Tryd.prog Z 50 #[t10_7] w fun t11_8 w =>
    run1 Tryd.prog Z (Instr.fieldAt 49 t1_1 0) w fun t13_9 w =>
    run1 Tryd.prog Z (Instr.fieldAt 30 t13_9 1) w fun t14_10 w =>
    run1 Tryd.prog Z (Instr.loadAt 28 t14_10) w fun t15_11 w =>
    CallV Tryd.prog Z 50 #[t15_11] w fun t16_12 w =>
    CallV Tryd.prog Z 51 #[t11_8, t16_12] w fun t17_13 w =>
    run1 Tryd.prog Z (Instr.fieldAt 49 t1_1 1) w fun t19_14 w =>
    run1 Tryd.prog Z (Instr.fieldAt 41 t19_14 0) w fun t20_15 w =>
    run1 Tryd.prog Z (Instr.loadAt 31 t20_15) w fun t21_16 w =>
    CallV Tryd.prog Z 52 #[t21_16] w fun t22_17 w =>
    CallV Tryd.prog Z 51 #[t17_13, t22_17] w fun t23_18 w =>
    run1 Tryd.prog Z (Instr.fieldAt 49 t1_1 1) w fun t25_19 w =>
    run1 Tryd.prog Z (Instr.fieldAt 41 t25_19 1) w fun t26_20 w =>
    run1 Tryd.prog Z (Instr.loadAt 28 t26_20) w fun t27_21 w =>
    CallV Tryd.prog Z 50 #[t27_21] w fun t28_22 w =>
    CallV Tryd.prog Z 51 #[t23_18, t28_22] w fun t29_23 w =>
    run1 Tryd.prog Z (Instr.fieldAt 49 t1_1 1) w fun t31_24 w =>
    run1 Tryd.prog Z (Instr.fieldAt 41 t31_24 2) w fun t32_25 w =>
    run1 Tryd.prog Z (Instr.loadAt 2 t32_25) w fun t33_26 w =>
    CallV Tryd.prog Z 53 #[t33_26] w fun t34_27 w =>
    CallV Tryd.prog Z 51 #[t29_23, t34_27] w fun t35_28 w =>
    run1 Tryd.prog Z (Instr.fieldAt 49 t1_1 2) w fun t37_29 w =>
    run1 Tryd.prog Z (Instr.loadAt 47 t37_29) w fun t38_30 w =>
    CallV Tryd.prog Z 54 #[t35_28, t38_30, (Value.bool false)] w fun t39_31 w =>
    Q (Value.tuple #[t39_31, (Value.int IntKind.i64 0)]) w)
noncomputable def f35.code : Code := match Tryd.f35.body with | some c => c | none => .skip
def f35.an : An := (.sq .leaf (.sq (.sq .leaf (.cn (.sq .leaf .leaf) .leaf)) (.sq .leaf (.sq .leaf (.sq .leaf (.sq .leaf (.sq .leaf (.sq .leaf .leaf))))))))
theorem f35.body_eq : Tryd.f35.body = some f35.code := by kernel_rfl
theorem f35.shape (Z : List PanicEntry → World → Prop) (x0 : Value) (w : World) (Q : Value → World → Prop) : vc drawD Tryd.prog 40 Z [49, 50, 51, 52, 53, 54] f35.an f35.code (fnQ Tryd.prog 40 Tryd.f35.results Q) (argEnv [x0]) w = f35.sh Z x0 w Q := by kernel_rfl
theorem f35.enters : ∀ f, f ∈ ([49, 50, 51, 52, 53, 54] : List Nat) → Enters Tryd.prog f := by
  intro f hf
  simp only [List.mem_cons, List.not_mem_nil, or_false] at hf
  rcases hf with rfl | rfl | rfl | rfl | rfl | rfl
  · exact en49
  · exact en50
  · exact en51
  · exact en52
  · exact en53
  · exact en54
theorem f35.calls {Z : List PanicEntry → World → Prop} {x0 : Value} {w : World} {Q : Value → World → Prop} (h : f35.sh Z x0 w Q) : CallV Tryd.prog Z 35 #[x0] w Q :=
  calls_of_vcn drawD_sound (Q := Q) (n := 40) (rs := Tryd.f35.results) (an := f35.an) (c := f35.code) (cal := [49, 50, 51, 52, 53, 54]) (args := [x0]) Tryd.func35 (by kernel_rfl) rfl f35.body_eq follows (Nat.le_of_ble_eq_true (by kernel_rfl)) (enters_of_all f35.enters) ((f35.shape Z x0 w Q).mpr h)

/-! ### 36: lagoon/lagoonref00.SpareRequest -/
def f36.sh (Z : List PanicEntry → World → Prop) (x0 : Value) (w : World) (Q : Value → World → Prop) : Prop :=
  run1 Tryd.prog Z (Instr.box 47 x0) w fun t1_1 w =>
  run1 Tryd.prog Z (Instr.fieldAt 47 t1_1 2) w fun t3_2 w =>
  run1 Tryd.prog Z (Instr.loadAt 42 t3_2) w fun t4_3 w =>
  CallV Tryd.prog Z 55 #[t4_3] w fun t5_4 w =>
  guardW (t5_4) true (fun k => run1 Tryd.prog Z (Instr.fieldAt 47 t1_1 3) w k) (fun t7_5 w =>
  guardW (t5_4) true (fun k => run1 Tryd.prog Z (Instr.loadAt 43 t7_5) w k) (fun t8_6 w =>
  guardW (t5_4) true (fun k => CallV Tryd.prog Z 56 #[t8_6] w k) (fun t9_7 w =>
  run1 Tryd.prog Z (pickV t5_4 t9_7 (Value.bool false)) w fun t10_8 w =>
  guardW (t10_8) true (fun k => run1 Tryd.prog Z (Instr.fieldAt 47 t1_1 9) w k) (fun t12_9 w =>
  guardW (t10_8) true (fun k => run1 Tryd.prog Z (Instr.loadAt 44 t12_9) w k) (fun t13_10 w =>
  guardW (t10_8) true (fun k => CallV Tryd.prog Z 57 #[t13_10] w k) (fun t14_11 w =>
  run1 Tryd.prog Z (pickV t10_8 t14_11 (Value.bool false)) w fun t15_12 w =>
  guardW (t15_12) true (fun k => run1 Tryd.prog Z (Instr.fieldAt 47 t1_1 10) w k) (fun t17_13 w =>
  guardW (t15_12) true (fun k => run1 Tryd.prog Z (Instr.loadAt 45 t17_13) w k) (fun t18_14 w =>
  guardW (t15_12) true (fun k => CallV Tryd.prog Z 58 #[t18_14] w k) (fun t19_15 w =>
  run1 Tryd.prog Z (pickV t15_12 t19_15 (Value.bool false)) w fun t20_16 w =>
  Q t20_16 w) w) w) w) w) w) w) w) w) w
noncomputable def f36.code : Code := match Tryd.f36.body with | some c => c | none => .skip
def f36.an : An := (.sq .leaf (.sq .leaf .leaf))
theorem f36.body_eq : Tryd.f36.body = some f36.code := by kernel_rfl
theorem f36.shape (Z : List PanicEntry → World → Prop) (x0 : Value) (w : World) (Q : Value → World → Prop) : vc drawD Tryd.prog 21 Z [55, 56, 57, 58] f36.an f36.code (fnQ Tryd.prog 21 Tryd.f36.results Q) (argEnv [x0]) w = f36.sh Z x0 w Q := by kernel_rfl
theorem f36.enters : ∀ f, f ∈ ([55, 56, 57, 58] : List Nat) → Enters Tryd.prog f := by
  intro f hf
  simp only [List.mem_cons, List.not_mem_nil, or_false] at hf
  rcases hf with rfl | rfl | rfl | rfl
  · exact en55
  · exact en56
  · exact en57
  · exact en58
theorem f36.calls {Z : List PanicEntry → World → Prop} {x0 : Value} {w : World} {Q : Value → World → Prop} (h : f36.sh Z x0 w Q) : CallV Tryd.prog Z 36 #[x0] w Q :=
  calls_of_vcn drawD_sound (Q := Q) (n := 21) (rs := Tryd.f36.results) (an := f36.an) (c := f36.code) (cal := [55, 56, 57, 58]) (args := [x0]) Tryd.func36 (by kernel_rfl) rfl f36.body_eq follows (Nat.le_of_ble_eq_true (by kernel_rfl)) (enters_of_all f36.enters) ((f36.shape Z x0 w Q).mpr h)

/-! ### 37: lagoon/lagoonref00.parts -/
def f37.sh (Z : List PanicEntry → World → Prop) (x0 x1 : Value) (w : World) (Q : Value → World → Prop) : Prop :=
  run1 Tryd.prog Z (Instr.box 47 x0) w fun t2_1 w =>
  run1 Tryd.prog Z (binOp BinOp.add 3 x1 (Value.int IntKind.i64 1)) w fun t7_2 w =>
  run1 Tryd.prog Z (Instr.fieldAt 47 t2_1 2) w fun t8_3 w =>
  run1 Tryd.prog Z (Instr.loadAt 42 t8_3) w fun t9_4 w =>
  run1 Tryd.prog Z (Builtin.len_ #[42] 3 #[t9_4]) w fun t10_5 w =>
  run1 Tryd.prog Z (binOp BinOp.add 3 t7_2 t10_5) w fun t11_6 w =>
  run1 Tryd.prog Z (Instr.fieldAt 47 t2_1 3) w fun t12_7 w =>
  run1 Tryd.prog Z (Instr.loadAt 43 t12_7) w fun t13_8 w =>
  run1 Tryd.prog Z (Builtin.len_ #[43] 3 #[t13_8]) w fun t14_9 w =>
  run1 Tryd.prog Z (binOp BinOp.add 3 t11_6 t14_9) w fun t15_10 w =>
  run1 Tryd.prog Z (Instr.fieldAt 47 t2_1 9) w fun t16_11 w =>
  run1 Tryd.prog Z (Instr.loadAt 44 t16_11) w fun t17_12 w =>
  run1 Tryd.prog Z (Builtin.len_ #[44] 3 #[t17_12]) w fun t18_13 w =>
  run1 Tryd.prog Z (binOp BinOp.add 3 t15_10 t18_13) w fun t19_14 w =>
  ∃ J_15 : Nat → Value → Value → World → Prop, (∃ m, J_15 m t19_14 (Value.int IntKind.i64 0) w) ∧
    ∀ m_15, ∀ t1_16 : Value, ∀ t5_17 : Value, ∀ w : World, J_15 m_15 t1_16 t5_17 w → Env →
      run1 Tryd.prog Z (Instr.fieldAt 47 t2_1 10) w fun t21_18 w =>
      run1 Tryd.prog Z (Instr.loadAt 45 t21_18) w fun t22_19 w =>
      run1 Tryd.prog Z (Builtin.len_ #[45] 3 #[t22_19]) w fun t23_20 w =>
      run1 Tryd.prog Z (binOp BinOp.lss 3 t5_17 t23_20) w fun t24_21 w =>
      guardW (t24_21) true (fun k => k (t1_16) w) (fun t26_22 w =>
      guardW (t24_21) true (fun k => run1 Tryd.prog Z (binOp BinOp.leq 3 t26_22 (Value.int IntKind.i64 20000)) w k) (fun t27_23 w =>
      run1 Tryd.prog Z (pickV t24_21 t27_23 (Value.bool false)) w fun t28_24 w =>
      CondV t28_24 (
        run1 Tryd.prog Z (Instr.fieldAt 47 t2_1 10) w fun t31_25 w =>
        run1 Tryd.prog Z (Instr.loadAt 45 t31_25) w fun t32_26 w =>
        run1 Tryd.prog Z (Instr.indexAt 45 t32_26 t5_17) w fun t34_27 w =>
        run1 Tryd.prog Z (Instr.loadAt 47 t34_27) w fun t35_28 w =>
        CallV Tryd.prog Z 37 #[t35_28, t1_16] w fun t37_29 w =>
        run1 Tryd.prog Z (binOp BinOp.add 3 t5_17 (Value.int IntKind.i64 1)) w fun t30_30 w =>
        ∃ n_15, n_15 < m_15 ∧ J_15 n_15 t37_29 t30_30 w) (
        Q t1_16 w)) w) w
noncomputable def f37.code : Code := match Tryd.f37.body with | some c => c | none => .skip
def f37.an : An := (.sq .leaf (.sq .leaf (.sq (.sq .leaf (.bl (.lp [1, 5] [1, 5, 20, 21, 22, 23, 24, 25, 26, 27, 28, 29, 30, 31, 32, 33, 34, 35, 36, 37] (.sq (.sq .leaf (.cn .leaf .leaf)) (.sq (.bl .leaf) .leaf))))) (.sq .leaf .leaf))))
theorem f37.body_eq : Tryd.f37.body = some f37.code := by kernel_rfl
theorem f37.shape (Z : List PanicEntry → World → Prop) (x0 x1 : Value) (w : World) (Q : Value → World → Prop) : vc drawD Tryd.prog 39 Z [37] f37.an f37.code (fnQ Tryd.prog 39 Tryd.f37.results Q) (argEnv [x0, x1]) w = f37.sh Z x0 x1 w Q := by kernel_rfl
theorem f37.enters : ∀ f, f ∈ ([37] : List Nat) → Enters Tryd.prog f := by
  intro f hf
  simp only [List.mem_cons, List.not_mem_nil, or_false] at hf
  rcases hf with rfl
  · exact en37
theorem f37.calls {Z : List PanicEntry → World → Prop} {x0 x1 : Value} {w : World} {Q : Value → World → Prop} (h : f37.sh Z x0 x1 w Q) : CallV Tryd.prog Z 37 #[x0, x1] w Q :=
  calls_of_vcn drawD_sound (Q := Q) (n := 39) (rs := Tryd.f37.results) (an := f37.an) (c := f37.code) (cal := [37]) (args := [x0, x1]) Tryd.func37 (by kernel_rfl) rfl f37.body_eq follows (Nat.le_of_ble_eq_true (by kernel_rfl)) (enters_of_all f37.enters) ((f37.shape Z x0 x1 w Q).mpr h)

/-! ### 38: cmp.Or[int] -/
def f38.sh (Z : List PanicEntry → World → Prop) (x0 : Value) (w : World) (Q : Value → World → Prop) : Prop :=
  run1 Tryd.prog Z (Builtin.len_ #[96] 3 #[x0]) w fun t7_1 w =>
  ∃ J_2 : Nat → Value → World → Prop, (∃ m, J_2 m (Value.int IntKind.i64 0) w) ∧
    ∀ m_2, ∀ t8_3 : Value, ∀ w : World, J_2 m_2 t8_3 w → Env →
      run1 Tryd.prog Z (binOp BinOp.lss 3 t8_3 t7_1) w fun t9_4 w =>
      CondV t9_4 (
        run1 Tryd.prog Z (Instr.indexAt 96 x0 t8_3) w fun t10_5 w =>
        run1 Tryd.prog Z (Instr.loadAt 3 t10_5) w fun t11_6 w =>
        run1 Tryd.prog Z (eqOp BinOp.neq 3 false false t11_6 (Value.int IntKind.i64 0)) w fun t14_7 w =>
        CondV t14_7 (
          Q t11_6 w) (
          run1 Tryd.prog Z (binOp BinOp.add 3 t8_3 (Value.int IntKind.i64 1)) w fun t16_8 w =>
          ∃ n_2, n_2 < m_2 ∧ J_2 n_2 t16_8 w)) (
        Q (Value.int IntKind.i64 0) w)
noncomputable def f38.code : Code := match Tryd.f38.body with | some c => c | none => .skip
def f38.an : An := (.sq .leaf (.sq .leaf (.sq (.sq .leaf (.bl (.lp [8] [2, 5, 8, 9, 10, 11, 12, 13, 14, 15, 16] (.sq .leaf (.sq (.cn .leaf .leaf) (.sq (.bl (.sq .leaf (.sq .leaf (.cn (.sq .leaf .leaf) .leaf)))) .leaf)))))) (.sq .leaf .leaf))))
theorem f38.body_eq : Tryd.f38.body = some f38.code := by kernel_rfl
theorem f38.shape (Z : List PanicEntry → World → Prop) (x0 : Value) (w : World) (Q : Value → World → Prop) : vc drawD Tryd.prog 18 Z [] f38.an f38.code (fnQ Tryd.prog 18 Tryd.f38.results Q) (argEnv [x0]) w = f38.sh Z x0 w Q := by kernel_rfl
theorem f38.enters : ∀ f, f ∈ ([] : List Nat) → Enters Tryd.prog f := by
  intro f hf
  cases hf
theorem f38.calls {Z : List PanicEntry → World → Prop} {x0 : Value} {w : World} {Q : Value → World → Prop} (h : f38.sh Z x0 w Q) : CallV Tryd.prog Z 38 #[x0] w Q :=
  calls_of_vcn drawD_sound (Q := Q) (n := 18) (rs := Tryd.f38.results) (an := f38.an) (c := f38.code) (cal := []) (args := [x0]) Tryd.func38 (by kernel_rfl) rfl f38.body_eq follows (Nat.le_of_ble_eq_true (by kernel_rfl)) (enters_of_all f38.enters) ((f38.shape Z x0 w Q).mpr h)

/-! ### 39: cmp.Compare[uint32] -/
def f39.sh (Z : List PanicEntry → World → Prop) (x0 x1 : Value) (w : World) (Q : Value → World → Prop) : Prop :=
  CallV Tryd.prog Z 59 #[x0] w fun t8_1 w =>
  CallV Tryd.prog Z 59 #[x1] w fun t10_2 w =>
  CondV t8_1 (
    CondV t10_2 (
      Q (Value.int IntKind.i64 0) w) (
      Q (Value.int IntKind.i64 (-1)) w)) (
    CondV t10_2 (
      Q (Value.int IntKind.i64 1) w) (
      run1 Tryd.prog Z (binOp BinOp.lss 28 x0 x1) w fun t16_3 w =>
      CondV t16_3 (
        Q (Value.int IntKind.i64 (-1)) w) (
        run1 Tryd.prog Z (binOp BinOp.gtr 28 x0 x1) w fun t19_4 w =>
        CondV t19_4 (
          Q (Value.int IntKind.i64 1) w) (
          Q (Value.int IntKind.i64 0) w))))
noncomputable def f39.code : Code := match Tryd.f39.body with | some c => c | none => .skip
def f39.an : An := (.sq .leaf (.sq .leaf (.sq .leaf (.sq (.sq .leaf (.cn (.sq (.sq .leaf (.cn (.sq .leaf .leaf) .leaf)) (.sq .leaf .leaf)) .leaf)) (.sq (.sq .leaf (.cn (.sq .leaf .leaf) .leaf)) (.sq (.sq .leaf (.cn (.sq .leaf .leaf) .leaf)) (.sq (.sq .leaf (.cn (.sq .leaf .leaf) .leaf)) (.sq .leaf .leaf))))))))
theorem f39.body_eq : Tryd.f39.body = some f39.code := by kernel_rfl
theorem f39.shape (Z : List PanicEntry → World → Prop) (x0 x1 : Value) (w : World) (Q : Value → World → Prop) : vc drawD Tryd.prog 20 Z [59] f39.an f39.code (fnQ Tryd.prog 20 Tryd.f39.results Q) (argEnv [x0, x1]) w = f39.sh Z x0 x1 w Q := by kernel_rfl
theorem f39.enters : ∀ f, f ∈ ([59] : List Nat) → Enters Tryd.prog f := by
  intro f hf
  simp only [List.mem_cons, List.not_mem_nil, or_false] at hf
  rcases hf with rfl
  · exact en59
theorem f39.calls {Z : List PanicEntry → World → Prop} {x0 x1 : Value} {w : World} {Q : Value → World → Prop} (h : f39.sh Z x0 x1 w Q) : CallV Tryd.prog Z 39 #[x0, x1] w Q :=
  calls_of_vcn drawD_sound (Q := Q) (n := 20) (rs := Tryd.f39.results) (an := f39.an) (c := f39.code) (cal := [59]) (args := [x0, x1]) Tryd.func39 (by kernel_rfl) rfl f39.body_eq follows (Nat.le_of_ble_eq_true (by kernel_rfl)) (enters_of_all f39.enters) ((f39.shape Z x0 x1 w Q).mpr h)

/-! ### 40: lagoon/lagoonref00.CopyRequest -/
def f40.sh (Z : List PanicEntry → World → Prop) (x0 : Value) (w : World) (Q : Value → World → Prop) : Prop :=
  run1 Tryd.prog Z (Instr.box 47 x0) w fun t1_1 w =>
  run1 Tryd.prog Z (Instr.alloc 47 true (.tuple #[])) w fun t2_2 w =>
  run1 Tryd.prog Z (Instr.loadAt 47 t1_1) w fun t5_3 w =>
  run1 Tryd.prog Z (Instr.alloc 47 true (.tuple #[])) w fun t3_4 w =>
  run0 Tryd.prog Z (Instr.storeAt 47 t3_4 t5_3) w fun w =>
  run1 Tryd.prog Z (Instr.fieldAt 47 t1_1 2) w fun t6_5 w =>
  run1 Tryd.prog Z (Instr.loadAt 42 t6_5) w fun t7_6 w =>
  CallV Tryd.prog Z 60 #[t7_6] w fun t8_7 w =>
  run1 Tryd.prog Z (Instr.fieldAt 47 t3_4 2) w fun t9_8 w =>
  run0 Tryd.prog Z (Instr.storeAt 42 t9_8 t8_7) w fun w =>
  run1 Tryd.prog Z (Instr.fieldAt 47 t1_1 3) w fun t10_9 w =>
  run1 Tryd.prog Z (Instr.loadAt 43 t10_9) w fun t11_10 w =>
  CallV Tryd.prog Z 61 #[t11_10] w fun t12_11 w =>
  run1 Tryd.prog Z (Instr.fieldAt 47 t3_4 3) w fun t13_12 w =>
  run0 Tryd.prog Z (Instr.storeAt 43 t13_12 t12_11) w fun w =>
  run1 Tryd.prog Z (Instr.fieldAt 47 t1_1 9) w fun t14_13 w =>
  run1 Tryd.prog Z (Instr.loadAt 44 t14_13) w fun t15_14 w =>
  CallV Tryd.prog Z 62 #[t15_14] w fun t16_15 w =>
  run1 Tryd.prog Z (Instr.fieldAt 47 t3_4 9) w fun t17_16 w =>
  run0 Tryd.prog Z (Instr.storeAt 44 t17_16 t16_15) w fun w =>
  run1 Tryd.prog Z (Instr.fieldAt 47 t3_4 10) w fun t18_17 w =>
  run0 Tryd.prog Z (Instr.storeAt 45 t18_17 (Value.slice none 0 0)) w fun w =>
  ∃ J_18 : Nat → Value → World → Prop, (∃ m, J_18 m (Value.int IntKind.i64 0) w) ∧
    ∀ m_18, ∀ t4_19 : Value, ∀ w : World, J_18 m_18 t4_19 w → Env →
      run1 Tryd.prog Z (Instr.fieldAt 47 t1_1 10) w fun t20_20 w =>
      run1 Tryd.prog Z (Instr.loadAt 45 t20_20) w fun t21_21 w =>
      run1 Tryd.prog Z (Builtin.len_ #[45] 3 #[t21_21]) w fun t22_22 w =>
      run1 Tryd.prog Z (binOp BinOp.lss 3 t4_19 t22_22) w fun t23_23 w =>
      CondV t23_23 (
        Drawn w fun w =>
        Pure1 Tryd.prog (Instr.fieldAt 47 t3_4 10) fun t26_24 =>
        Read1 Tryd.prog (Instr.loadAt 45 t26_24) w fun t27_25 =>
        Pure1 Tryd.prog (Instr.fieldAt 47 t1_1 10) fun t28_26 =>
        Read1 Tryd.prog (Instr.loadAt 45 t28_26) w fun t29_27 =>
        Pure1 Tryd.prog (Instr.indexAt 45 t29_27 t4_19) fun t31_28 =>
        Read1 Tryd.prog (Instr.loadAt 47 t31_28) w fun t32_29 =>
        CallV Tryd.prog Z 40 #[t32_29] w fun t33_30 w =>
          Still Tryd.prog (nx (Instr.loadAt 45 t28_26)) t29_27 w <|
          Still Tryd.prog (nx (Instr.loadAt 45 t26_24)) t27_25 w <|
        run1 Tryd.prog Z (Instr.buildSlice 45 1 #[(0, t33_30)]) w fun t34_31 w =>
          Still Tryd.prog (nx (Instr.loadAt 45 t28_26)) t29_27 w <|
          Still Tryd.prog (nx (Instr.loadAt 45 t26_24)) t27_25 w <|
        run1 Tryd.prog Z (Builtin.append_ #[45, 45] 45 #[t27_25, t34_31]) w fun t35_32 w =>
          Still Tryd.prog (nx (Instr.loadAt 45 t28_26)) t29_27 w <|
        Pure1 Tryd.prog (Instr.fieldAt 47 t3_4 10) fun t36_33 =>
        run0 Tryd.prog Z (Instr.storeAt 45 t36_33 t35_32) w fun w =>
        run1 Tryd.prog Z (binOp BinOp.add 3 t4_19 (Value.int IntKind.i64 1)) w fun t25_34 w =>
        ∃ n_18, n_18 < m_18 ∧ J_18 n_18 t25_34 w) (
        run1 Tryd.prog Z (Instr.loadAt 47 t3_4) w fun t37_35 w =>
        run0 Tryd.prog Z (Instr.storeAt 47 t2_2 t37_35) w fun w =>
        ∃ r_36, (do loadVar 47 (← asAddr t2_2) : Sem Value).run Tryd.prog w = .ok r_36 w ∧
        Q r_36 w)
noncomputable def f40.code : Code := match Tryd.f40.body with | some c => c | none => .skip
def f40.an : An := (.sq .leaf (.sq .leaf (.sq .leaf (.sq .leaf (.sq .leaf (.sq .leaf (.sq (.sq .leaf (.bl (.lp [4] [4, 19, 20, 21, 22, 23, 24, 25, 26, 27, 28, 29, 30, 31, 32, 33, 34, 35, 36] (.sq (.sq .leaf (.cn .leaf .leaf)) (.sq (.bl (.dr (.take 0 false (.take 1 true (.take 2 false (.take 3 true (.take 4 false (.take 5 false (.take 6 true (.one 7 (.one 8 (.one 9 (.take 10 false (.one 11 .fin)))))))))))))) .leaf))))) (.sq .leaf .leaf))))))))
theorem f40.body_eq : Tryd.f40.body = some f40.code := by kernel_rfl
theorem f40.shape (Z : List PanicEntry → World → Prop) (x0 : Value) (w : World) (Q : Value → World → Prop) : vc drawD Tryd.prog 38 Z [60, 61, 62, 40] f40.an f40.code (fnQ Tryd.prog 38 Tryd.f40.results Q) (argEnv [x0]) w = f40.sh Z x0 w Q := by kernel_rfl
theorem f40.enters : ∀ f, f ∈ ([60, 61, 62, 40] : List Nat) → Enters Tryd.prog f := by
  intro f hf
  simp only [List.mem_cons, List.not_mem_nil, or_false] at hf
  rcases hf with rfl | rfl | rfl | rfl
  · exact en60
  · exact en61
  · exact en62
  · exact en40
theorem f40.calls {Z : List PanicEntry → World → Prop} {x0 : Value} {w : World} {Q : Value → World → Prop} (h : f40.sh Z x0 w Q) : CallV Tryd.prog Z 40 #[x0] w Q :=
  calls_of_vcn drawD_sound (Q := Q) (n := 38) (rs := Tryd.f40.results) (an := f40.an) (c := f40.code) (cal := [60, 61, 62, 40]) (args := [x0]) Tryd.func40 (by kernel_rfl) rfl f40.body_eq follows (Nat.le_of_ble_eq_true (by kernel_rfl)) (enters_of_all f40.enters) ((f40.shape Z x0 w Q).mpr h)

/-! ### 41: lagoon/lagoonref00.EqRequest -/
def f41.sh (Z : List PanicEntry → World → Prop) (x0 x1 : Value) (w : World) (Q : Value → World → Prop) : Prop :=
  run1 Tryd.prog Z (Instr.box 47 x0) w fun t2_1 w =>
  run1 Tryd.prog Z (Instr.box 47 x1) w fun t3_2 w =>
  run1 Tryd.prog Z (Instr.fieldAt 47 t2_1 0) w fun t6_3 w =>
  run1 Tryd.prog Z (Instr.loadAt 31 t6_3) w fun t7_4 w =>
  run1 Tryd.prog Z (Instr.fieldAt 47 t3_2 0) w fun t8_5 w =>
  run1 Tryd.prog Z (Instr.loadAt 31 t8_5) w fun t9_6 w =>
  run1 Tryd.prog Z (eqOp BinOp.neq 31 false false t7_4 t9_6) w fun t10_7 w =>
  guardW (t10_7) false (fun k => run1 Tryd.prog Z (Instr.fieldAt 47 t2_1 1) w k) (fun t12_8 w =>
  guardW (t10_7) false (fun k => run1 Tryd.prog Z (Instr.loadAt 9 t12_8) w k) (fun t13_9 w =>
  guardW (t10_7) false (fun k => run1 Tryd.prog Z (Instr.fieldAt 47 t3_2 1) w k) (fun t14_10 w =>
  guardW (t10_7) false (fun k => run1 Tryd.prog Z (Instr.loadAt 9 t14_10) w k) (fun t15_11 w =>
  guardW (t10_7) false (fun k => run1 Tryd.prog Z (eqOp BinOp.neq 9 false false t13_9 t15_11) w k) (fun t16_12 w =>
  run1 Tryd.prog Z (pickV t10_7 (Value.bool true) t16_12) w fun t17_13 w =>
  guardW (t17_13) false (fun k => run1 Tryd.prog Z (Instr.fieldAt 47 t2_1 4) w k) (fun t19_14 w =>
  guardW (t17_13) false (fun k => run1 Tryd.prog Z (Instr.loadAt 21 t19_14) w k) (fun t20_15 w =>
  guardW (t17_13) false (fun k => run1 Tryd.prog Z (Instr.fieldAt 47 t3_2 4) w k) (fun t21_16 w =>
  guardW (t17_13) false (fun k => run1 Tryd.prog Z (Instr.loadAt 21 t21_16) w k) (fun t22_17 w =>
  guardW (t17_13) false (fun k => run1 Tryd.prog Z (eqOp BinOp.neq 21 false false t20_15 t22_17) w k) (fun t23_18 w =>
  run1 Tryd.prog Z (pickV t17_13 (Value.bool true) t23_18) w fun t24_19 w =>
  guardW (t24_19) false (fun k => run1 Tryd.prog Z (Instr.fieldAt 47 t2_1 5) w k) (fun t26_20 w =>
  guardW (t24_19) false (fun k => run1 Tryd.prog Z (Instr.loadAt 4 t26_20) w k) (fun t27_21 w =>
  guardW (t24_19) false (fun k => run1 Tryd.prog Z (Instr.fieldAt 47 t3_2 5) w k) (fun t28_22 w =>
  guardW (t24_19) false (fun k => run1 Tryd.prog Z (Instr.loadAt 4 t28_22) w k) (fun t29_23 w =>
  guardW (t24_19) false (fun k => run1 Tryd.prog Z (eqOp BinOp.neq 4 false false t27_21 t29_23) w k) (fun t30_24 w =>
  run1 Tryd.prog Z (pickV t24_19 (Value.bool true) t30_24) w fun t31_25 w =>
  guardW (t31_25) false (fun k => run1 Tryd.prog Z (Instr.fieldAt 47 t2_1 6) w k) (fun t33_26 w =>
  guardW (t31_25) false (fun k => run1 Tryd.prog Z (Instr.loadAt 4 t33_26) w k) (fun t34_27 w =>
  guardW (t31_25) false (fun k => run1 Tryd.prog Z (Instr.fieldAt 47 t3_2 6) w k) (fun t35_28 w =>
  guardW (t31_25) false (fun k => run1 Tryd.prog Z (Instr.loadAt 4 t35_28) w k) (fun t36_29 w =>
  guardW (t31_25) false (fun k => run1 Tryd.prog Z (eqOp BinOp.neq 4 false false t34_27 t36_29) w k) (fun t37_30 w =>
  run1 Tryd.prog Z (pickV t31_25 (Value.bool true) t37_30) w fun t38_31 w =>
  guardW (t38_31) false (fun k => run1 Tryd.prog Z (Instr.fieldAt 47 t2_1 7) w k) (fun t40_32 w =>
  guardW (t38_31) false (fun k => run1 Tryd.prog Z (Instr.loadAt 2 t40_32) w k) (fun t41_33 w =>
  guardW (t38_31) false (fun k => run1 Tryd.prog Z (Instr.fieldAt 47 t3_2 7) w k) (fun t42_34 w =>
  guardW (t38_31) false (fun k => run1 Tryd.prog Z (Instr.loadAt 2 t42_34) w k) (fun t43_35 w =>
  guardW (t38_31) false (fun k => run1 Tryd.prog Z (eqOp BinOp.neq 2 false false t41_33 t43_35) w k) (fun t44_36 w =>
  run1 Tryd.prog Z (pickV t38_31 (Value.bool true) t44_36) w fun t45_37 w =>
  guardW (t45_37) false (fun k => run1 Tryd.prog Z (Instr.fieldAt 47 t2_1 8) w k) (fun t47_38 w =>
  guardW (t45_37) false (fun k => run1 Tryd.prog Z (Instr.loadAt 21 t47_38) w k) (fun t48_39 w =>
  guardW (t45_37) false (fun k => run1 Tryd.prog Z (Instr.fieldAt 47 t3_2 8) w k) (fun t49_40 w =>
  guardW (t45_37) false (fun k => run1 Tryd.prog Z (Instr.loadAt 21 t49_40) w k) (fun t50_41 w =>
  guardW (t45_37) false (fun k => run1 Tryd.prog Z (eqOp BinOp.neq 21 false false t48_39 t50_41) w k) (fun t51_42 w =>
  run1 Tryd.prog Z (pickV t45_37 (Value.bool true) t51_42) w fun t52_43 w =>
  CondV t52_43 (
    Q (Value.bool false) w) (
    run1 Tryd.prog Z (Instr.fieldAt 47 t2_1 2) w fun t53_44 w =>
    run1 Tryd.prog Z (Instr.loadAt 42 t53_44) w fun t54_45 w =>
    run1 Tryd.prog Z (Instr.fieldAt 47 t3_2 2) w fun t55_46 w =>
    run1 Tryd.prog Z (Instr.loadAt 42 t55_46) w fun t56_47 w =>
    CallV Tryd.prog Z 63 #[t54_45, t56_47] w fun t57_48 w =>
    run1 Tryd.prog Z (Op.unary UnOp.not t57_48) w fun t58_49 w =>
    guardW (t58_49) false (fun k => run1 Tryd.prog Z (Instr.fieldAt 47 t2_1 3) w k) (fun t60_50 w =>
    guardW (t58_49) false (fun k => run1 Tryd.prog Z (Instr.loadAt 43 t60_50) w k) (fun t61_51 w =>
    guardW (t58_49) false (fun k => run1 Tryd.prog Z (Instr.fieldAt 47 t3_2 3) w k) (fun t62_52 w =>
    guardW (t58_49) false (fun k => run1 Tryd.prog Z (Instr.loadAt 43 t62_52) w k) (fun t63_53 w =>
    guardW (t58_49) false (fun k => CallV Tryd.prog Z 64 #[t61_51, t63_53] w k) (fun t64_54 w =>
    guardW (t58_49) false (fun k => run1 Tryd.prog Z (Op.unary UnOp.not t64_54) w k) (fun t65_55 w =>
    run1 Tryd.prog Z (pickV t58_49 (Value.bool true) t65_55) w fun t66_56 w =>
    guardW (t66_56) false (fun k => run1 Tryd.prog Z (Instr.fieldAt 47 t2_1 9) w k) (fun t68_57 w =>
    guardW (t66_56) false (fun k => run1 Tryd.prog Z (Instr.loadAt 44 t68_57) w k) (fun t69_58 w =>
    guardW (t66_56) false (fun k => run1 Tryd.prog Z (Instr.fieldAt 47 t3_2 9) w k) (fun t70_59 w =>
    guardW (t66_56) false (fun k => run1 Tryd.prog Z (Instr.loadAt 44 t70_59) w k) (fun t71_60 w =>
    guardW (t66_56) false (fun k => CallV Tryd.prog Z 65 #[t69_58, t71_60] w k) (fun t72_61 w =>
    guardW (t66_56) false (fun k => run1 Tryd.prog Z (Op.unary UnOp.not t72_61) w k) (fun t73_62 w =>
    run1 Tryd.prog Z (pickV t66_56 (Value.bool true) t73_62) w fun t74_63 w =>
    guardW (t74_63) false (fun k => run1 Tryd.prog Z (Instr.fieldAt 47 t2_1 10) w k) (fun t76_64 w =>
    guardW (t74_63) false (fun k => run1 Tryd.prog Z (Instr.loadAt 45 t76_64) w k) (fun t77_65 w =>
    guardW (t74_63) false (fun k => run1 Tryd.prog Z (Builtin.len_ #[45] 3 #[t77_65]) w k) (fun t78_66 w =>
    guardW (t74_63) false (fun k => run1 Tryd.prog Z (Instr.fieldAt 47 t3_2 10) w k) (fun t79_67 w =>
    guardW (t74_63) false (fun k => run1 Tryd.prog Z (Instr.loadAt 45 t79_67) w k) (fun t80_68 w =>
    guardW (t74_63) false (fun k => run1 Tryd.prog Z (Builtin.len_ #[45] 3 #[t80_68]) w k) (fun t81_69 w =>
    guardW (t74_63) false (fun k => run1 Tryd.prog Z (eqOp BinOp.neq 3 false false t78_66 t81_69) w k) (fun t82_70 w =>
    run1 Tryd.prog Z (pickV t74_63 (Value.bool true) t82_70) w fun t83_71 w =>
    CondV t83_71 (
      Q (Value.bool false) w) (
      ∃ J_72 : Nat → Value → World → Prop, (∃ m, J_72 m (Value.int IntKind.i64 0) w) ∧
        ∀ m_72, ∀ t5_73 : Value, ∀ w : World, J_72 m_72 t5_73 w → Env →
          run1 Tryd.prog Z (Instr.fieldAt 47 t2_1 10) w fun t85_74 w =>
          run1 Tryd.prog Z (Instr.loadAt 45 t85_74) w fun t86_75 w =>
          run1 Tryd.prog Z (Builtin.len_ #[45] 3 #[t86_75]) w fun t87_76 w =>
          run1 Tryd.prog Z (binOp BinOp.lss 3 t5_73 t87_76) w fun t88_77 w =>
          CondV t88_77 (
            Drawn w fun w =>
            Pure1 Tryd.prog (Instr.fieldAt 47 t2_1 10) fun t91_78 =>
            Read1 Tryd.prog (Instr.loadAt 45 t91_78) w fun t92_79 =>
            Pure1 Tryd.prog (Instr.indexAt 45 t92_79 t5_73) fun t94_80 =>
            Read1 Tryd.prog (Instr.loadAt 47 t94_80) w fun t95_81 =>
            Pure1 Tryd.prog (Instr.fieldAt 47 t3_2 10) fun t96_82 =>
            Read1 Tryd.prog (Instr.loadAt 45 t96_82) w fun t97_83 =>
            Pure1 Tryd.prog (Instr.indexAt 45 t97_83 t5_73) fun t99_84 =>
            Read1 Tryd.prog (Instr.loadAt 47 t99_84) w fun t100_85 =>
            CallV Tryd.prog Z 41 #[t95_81, t100_85] w fun t101_86 w =>
              Still Tryd.prog (nx (Instr.loadAt 45 t96_82)) t97_83 w <|
              Still Tryd.prog (nx (Instr.loadAt 45 t91_78)) t92_79 w <|
            Pure1 Tryd.prog (Op.unary UnOp.not t101_86) fun t102_87 =>
            CondV t102_87 (
              Q (Value.bool false) w) (
              run1 Tryd.prog Z (binOp BinOp.add 3 t5_73 (Value.int IntKind.i64 1)) w fun t90_88 w =>
              ∃ n_72, n_72 < m_72 ∧ J_72 n_72 t90_88 w)) (
            Q (Value.bool true) w))) w) w) w) w) w) w) w) w) w) w) w) w) w) w) w) w) w) w) w)) w) w) w) w) w) w) w) w) w) w) w) w) w) w) w) w) w) w) w) w) w) w) w) w) w) w) w) w) w) w
noncomputable def f41.code : Code := match Tryd.f41.body with | some c => c | none => .skip
def f41.an : An := (.sq .leaf (.sq (.sq .leaf (.cn (.sq .leaf .leaf) .leaf)) (.sq (.sq .leaf (.cn (.sq .leaf .leaf) .leaf)) (.sq (.sq .leaf (.bl (.lp [5] [4, 5, 84, 85, 86, 87, 88, 89, 90, 91, 92, 93, 94, 95, 96, 97, 98, 99, 100, 101, 102] (.sq (.sq .leaf (.cn .leaf .leaf)) (.sq (.bl (.sq (.dr (.take 0 false (.take 1 true (.take 2 false (.take 3 false (.take 4 true (.take 5 false (.take 6 true (.take 7 false (.take 8 false (.take 9 true (.one 10 (.take 11 false .fin))))))))))))) (.cn (.sq .leaf .leaf) .leaf))) .leaf))))) (.sq .leaf .leaf)))))
theorem f41.body_eq : Tryd.f41.body = some f41.code := by kernel_rfl
theorem f41.shape (Z : List PanicEntry → World → Prop) (x0 x1 : Value) (w : World) (Q : Value → World → Prop) : vc drawD Tryd.prog 103 Z [63, 64, 65, 41] f41.an f41.code (fnQ Tryd.prog 103 Tryd.f41.results Q) (argEnv [x0, x1]) w = f41.sh Z x0 x1 w Q := by kernel_rfl
theorem f41.enters : ∀ f, f ∈ ([63, 64, 65, 41] : List Nat) → Enters Tryd.prog f := by
  intro f hf
  simp only [List.mem_cons, List.not_mem_nil, or_false] at hf
  rcases hf with rfl | rfl | rfl | rfl
  · exact en63
  · exact en64
  · exact en65
  · exact en41
theorem f41.calls {Z : List PanicEntry → World → Prop} {x0 x1 : Value} {w : World} {Q : Value → World → Prop} (h : f41.sh Z x0 x1 w Q) : CallV Tryd.prog Z 41 #[x0, x1] w Q :=
  calls_of_vcn drawD_sound (Q := Q) (n := 103) (rs := Tryd.f41.results) (an := f41.an) (c := f41.code) (cal := [63, 64, 65, 41]) (args := [x0, x1]) Tryd.func41 (by kernel_rfl) rfl f41.body_eq follows (Nat.le_of_ble_eq_true (by kernel_rfl)) (enters_of_all f41.enters) ((f41.shape Z x0 x1 w Q).mpr h)

/-! ### 42: lagoon/lagoonref00.WideRequest -/
def f42.sh (Z : List PanicEntry → World → Prop) (x0 : Value) (w : World) (Q : Value → World → Prop) : Prop :=
  run1 Tryd.prog Z (Instr.box 47 x0) w fun t1_1 w =>
  run1 Tryd.prog Z (Instr.alloc 47 true (.tuple #[])) w fun t2_2 w =>
  run1 Tryd.prog Z (Instr.fieldAt 47 t1_1 2) w fun t3_3 w =>
  run1 Tryd.prog Z (Instr.loadAt 42 t3_3) w fun t4_4 w =>
  CallV Tryd.prog Z 66 #[t4_4] w fun t5_5 w =>
  run1 Tryd.prog Z (Instr.fieldAt 47 t1_1 2) w fun t6_6 w =>
  run0 Tryd.prog Z (Instr.storeAt 42 t6_6 t5_5) w fun w =>
  run1 Tryd.prog Z (Instr.fieldAt 47 t1_1 3) w fun t7_7 w =>
  run1 Tryd.prog Z (Instr.loadAt 43 t7_7) w fun t8_8 w =>
  CallV Tryd.prog Z 67 #[t8_8] w fun t9_9 w =>
  run1 Tryd.prog Z (Instr.fieldAt 47 t1_1 3) w fun t10_10 w =>
  run0 Tryd.prog Z (Instr.storeAt 43 t10_10 t9_9) w fun w =>
  run1 Tryd.prog Z (Instr.fieldAt 47 t1_1 9) w fun t11_11 w =>
  run1 Tryd.prog Z (Instr.loadAt 44 t11_11) w fun t12_12 w =>
  CallV Tryd.prog Z 68 #[t12_12] w fun t13_13 w =>
  run1 Tryd.prog Z (Instr.fieldAt 47 t1_1 9) w fun t14_14 w =>
  run0 Tryd.prog Z (Instr.storeAt 44 t14_14 t13_13) w fun w =>
  run1 Tryd.prog Z (Instr.fieldAt 47 t1_1 10) w fun t15_15 w =>
  run1 Tryd.prog Z (Instr.loadAt 45 t15_15) w fun t16_16 w =>
  CallV Tryd.prog Z 69 #[t16_16] w fun t17_17 w =>
  run1 Tryd.prog Z (Instr.fieldAt 47 t1_1 10) w fun t18_18 w =>
  run0 Tryd.prog Z (Instr.storeAt 45 t18_18 t17_17) w fun w =>
  run1 Tryd.prog Z (Instr.loadAt 47 t1_1) w fun t19_19 w =>
  run0 Tryd.prog Z (Instr.storeAt 47 t2_2 t19_19) w fun w =>
  ∃ r_20, (do loadVar 47 (← asAddr t2_2) : Sem Value).run Tryd.prog w = .ok r_20 w ∧
  Q r_20 w
noncomputable def f42.code : Code := match Tryd.f42.body with | some c => c | none => .skip
def f42.an : An := (.sq .leaf (.sq .leaf (.sq .leaf (.sq .leaf (.sq .leaf (.sq .leaf .leaf))))))
theorem f42.body_eq : Tryd.f42.body = some f42.code := by kernel_rfl
theorem f42.shape (Z : List PanicEntry → World → Prop) (x0 : Value) (w : World) (Q : Value → World → Prop) : vc drawD Tryd.prog 20 Z [66, 67, 68, 69] f42.an f42.code (fnQ Tryd.prog 20 Tryd.f42.results Q) (argEnv [x0]) w = f42.sh Z x0 w Q := by kernel_rfl
theorem f42.enters : ∀ f, f ∈ ([66, 67, 68, 69] : List Nat) → Enters Tryd.prog f := by
  intro f hf
  simp only [List.mem_cons, List.not_mem_nil, or_false] at hf
  rcases hf with rfl | rfl | rfl | rfl
  · exact en66
  · exact en67
  · exact en68
  · exact en69
theorem f42.calls {Z : List PanicEntry → World → Prop} {x0 : Value} {w : World} {Q : Value → World → Prop} (h : f42.sh Z x0 w Q) : CallV Tryd.prog Z 42 #[x0] w Q :=
  calls_of_vcn drawD_sound (Q := Q) (n := 20) (rs := Tryd.f42.results) (an := f42.an) (c := f42.code) (cal := [66, 67, 68, 69]) (args := [x0]) Tryd.func42 (by kernel_rfl) rfl f42.body_eq follows (Nat.le_of_ble_eq_true (by kernel_rfl)) (enters_of_all f42.enters) ((f42.shape Z x0 w Q).mpr h)

/-! ### 43: lagoon/txn.Check -/
def f43.sh (Z : List PanicEntry → World → Prop) (x0 : Value) (w : World) (Q : Value → World → Prop) : Prop :=
  run1 Tryd.prog Z (Instr.box 49 x0) w fun t1_1 w =>
  run1 Tryd.prog Z (Instr.fieldAt 49 t1_1 0) w fun t5_2 w =>
  run1 Tryd.prog Z (Instr.loadAt 30 t5_2) w fun t6_3 w =>
  run1 Tryd.prog Z (Instr.alloc 30 true (.tuple #[])) w fun t3_4 w =>
  run0 Tryd.prog Z (Instr.storeAt 30 t3_4 t6_3) w fun w =>
  run1 Tryd.prog Z (Instr.fieldAt 30 t3_4 0) w fun t7_5 w =>
  run1 Tryd.prog Z (Instr.loadAt 28 t7_5) w fun t8_6 w =>
  run1 Tryd.prog Z (binOp BinOp.geq 28 t8_6 (Value.int IntKind.u32 1)) w fun t9_7 w =>
  guardW (t9_7) true (fun k => run1 Tryd.prog Z (Instr.fieldAt 30 t3_4 0) w k) (fun t11_8 w =>
  guardW (t9_7) true (fun k => run1 Tryd.prog Z (Instr.loadAt 28 t11_8) w k) (fun t12_9 w =>
  guardW (t9_7) true (fun k => run1 Tryd.prog Z (binOp BinOp.leq 28 t12_9 (Value.int IntKind.u32 2147483647)) w k) (fun t13_10 w =>
  run1 Tryd.prog Z (pickV t9_7 t13_10 (Value.bool false)) w fun t14_11 w =>
  guardW (t14_11) true (fun k => run1 Tryd.prog Z (Instr.fieldAt 30 t3_4 1) w k) (fun t16_12 w =>
  guardW (t14_11) true (fun k => run1 Tryd.prog Z (Instr.loadAt 28 t16_12) w k) (fun t17_13 w =>
  guardW (t14_11) true (fun k => run1 Tryd.prog Z (binOp BinOp.geq 28 t17_13 (Value.int IntKind.u32 1)) w k) (fun t18_14 w =>
  run1 Tryd.prog Z (pickV t14_11 t18_14 (Value.bool false)) w fun t19_15 w =>
  run1 Tryd.prog Z (Instr.loadAt 30 t3_4) w fun t21_16 w =>
  run1 Tryd.prog Z (Instr.build 30 #[]) w fun t22_17 w =>
  run1 Tryd.prog Z (eqOp BinOp.neq 30 false false t21_16 t22_17) w fun t23_18 w =>
  guardW (t23_18) true (fun k => k (t19_15) w) (fun t25_19 w =>
  guardW (t23_18) true (fun k => run1 Tryd.prog Z (Op.unary UnOp.not t25_19) w k) (fun t26_20 w =>
  run1 Tryd.prog Z (pickV t23_18 t26_20 (Value.bool false)) w fun t27_21 w =>
  CondV t27_21 (
    Q (Value.int IntKind.i64 40) w) (
    run1 Tryd.prog Z (Instr.fieldAt 49 t1_1 1) w fun t29_22 w =>
    run1 Tryd.prog Z (Instr.fieldAt 41 t29_22 0) w fun t30_23 w =>
    run1 Tryd.prog Z (Instr.loadAt 31 t30_23) w fun t31_24 w =>
    run1 Tryd.prog Z (binOp BinOp.lss 31 t31_24 (Value.int IntKind.i8 0)) w fun t32_25 w =>
    guardW (t32_25) false (fun k => run1 Tryd.prog Z (Instr.fieldAt 49 t1_1 1) w k) (fun t34_26 w =>
    guardW (t32_25) false (fun k => run1 Tryd.prog Z (Instr.fieldAt 41 t34_26 0) w k) (fun t35_27 w =>
    guardW (t32_25) false (fun k => run1 Tryd.prog Z (Instr.loadAt 31 t35_27) w k) (fun t36_28 w =>
    guardW (t32_25) false (fun k => run1 Tryd.prog Z (binOp BinOp.geq 31 t36_28 (Value.int IntKind.i8 7)) w k) (fun t37_29 w =>
    run1 Tryd.prog Z (pickV t32_25 (Value.bool true) t37_29) w fun t38_30 w =>
    guardW (t38_30) false (fun k => run1 Tryd.prog Z (Instr.fieldAt 49 t1_1 1) w k) (fun t40_31 w =>
    guardW (t38_30) false (fun k => run1 Tryd.prog Z (Instr.fieldAt 41 t40_31 2) w k) (fun t41_32 w =>
    guardW (t38_30) false (fun k => run1 Tryd.prog Z (Instr.loadAt 2 t41_32) w k) (fun t42_33 w =>
    guardW (t38_30) false (fun k => run1 Tryd.prog Z (binOp BinOp.lss 2 t42_33 (Value.int IntKind.i64 0)) w k) (fun t43_34 w =>
    run1 Tryd.prog Z (pickV t38_30 (Value.bool true) t43_34) w fun t44_35 w =>
    CondV t44_35 (
      Q (Value.int IntKind.i64 40) w) (
      run1 Tryd.prog Z (Instr.fieldAt 49 t1_1 2) w fun t46_36 w =>
      run1 Tryd.prog Z (Instr.fieldAt 47 t46_36 0) w fun t47_37 w =>
      run1 Tryd.prog Z (Instr.loadAt 31 t47_37) w fun t48_38 w =>
      run1 Tryd.prog Z (binOp BinOp.gtr 31 t48_38 (Value.int IntKind.i8 8)) w fun t49_39 w =>
      CondV t49_39 (
        Q (Value.int IntKind.i64 40) w) (
        run1 Tryd.prog Z (Instr.fieldAt 49 t1_1 2) w fun t50_40 w =>
        run1 Tryd.prog Z (Instr.loadAt 47 t50_40) w fun t51_41 w =>
        CallV Tryd.prog Z 70 #[t51_41] w fun t52_42 w =>
        Q t52_42 w))) w) w) w) w) w) w) w) w)) w) w) w) w) w) w) w) w
noncomputable def f43.code : Code := match Tryd.f43.body with | some c => c | none => .skip
def f43.an : An := (.sq .leaf (.sq .leaf (.sq .leaf (.sq (.bl (.sq .leaf (.cn (.sq .leaf .leaf) (.sq .leaf (.cn (.sq .leaf .leaf) (.sq .leaf (.cn (.sq .leaf .leaf) .leaf))))))) (.sq .leaf .leaf)))))
theorem f43.body_eq : Tryd.f43.body = some f43.code := by kernel_rfl
theorem f43.shape (Z : List PanicEntry → World → Prop) (x0 : Value) (w : World) (Q : Value → World → Prop) : vc drawD Tryd.prog 53 Z [70] f43.an f43.code (fnQ Tryd.prog 53 Tryd.f43.results Q) (argEnv [x0]) w = f43.sh Z x0 w Q := by kernel_rfl
theorem f43.enters : ∀ f, f ∈ ([70] : List Nat) → Enters Tryd.prog f := by
  intro f hf
  simp only [List.mem_cons, List.not_mem_nil, or_false] at hf
  rcases hf with rfl
  · exact en70
theorem f43.calls {Z : List PanicEntry → World → Prop} {x0 : Value} {w : World} {Q : Value → World → Prop} (h : f43.sh Z x0 w Q) : CallV Tryd.prog Z 43 #[x0] w Q :=
  calls_of_vcn drawD_sound (Q := Q) (n := 53) (rs := Tryd.f43.results) (an := f43.an) (c := f43.code) (cal := [70]) (args := [x0]) Tryd.func43 (by kernel_rfl) rfl f43.body_eq follows (Nat.le_of_ble_eq_true (by kernel_rfl)) (enters_of_all f43.enters) ((f43.shape Z x0 w Q).mpr h)

/-! ### 44: (*lagoon/pack.Writer).Uint32 -/
def f44.sh (Z : List PanicEntry → World → Prop) (x0 x1 : Value) (w : World) (Q : Value → World → Prop) : Prop :=
  run1 Tryd.prog Z (convert 28 107 x1) w fun t6_1 w =>
  CallV Tryd.prog Z 71 #[x0, t6_1, (Value.int IntKind.i64 4)] w fun t7_2 w =>
  Q (Value.tuple #[]) w
noncomputable def f44.code : Code := match Tryd.f44.body with | some c => c | none => .skip
def f44.an : An := .leaf
theorem f44.body_eq : Tryd.f44.body = some f44.code := by kernel_rfl
theorem f44.shape (Z : List PanicEntry → World → Prop) (x0 x1 : Value) (w : World) (Q : Value → World → Prop) : vc drawD Tryd.prog 8 Z [71] f44.an f44.code (fnQ Tryd.prog 8 Tryd.f44.results Q) (argEnv [x0, x1]) w = f44.sh Z x0 x1 w Q := by kernel_rfl
theorem f44.enters : ∀ f, f ∈ ([71] : List Nat) → Enters Tryd.prog f := by
  intro f hf
  simp only [List.mem_cons, List.not_mem_nil, or_false] at hf
  rcases hf with rfl
  · exact en71
theorem f44.calls {Z : List PanicEntry → World → Prop} {x0 x1 : Value} {w : World} {Q : Value → World → Prop} (h : f44.sh Z x0 x1 w Q) : CallV Tryd.prog Z 44 #[x0, x1] w Q :=
  calls_of_vcn drawD_sound (Q := Q) (n := 8) (rs := Tryd.f44.results) (an := f44.an) (c := f44.code) (cal := [71]) (args := [x0, x1]) Tryd.func44 (by kernel_rfl) rfl f44.body_eq follows (Nat.le_of_ble_eq_true (by kernel_rfl)) (enters_of_all f44.enters) ((f44.shape Z x0 x1 w Q).mpr h)

/-! ### 45: (*lagoon/pack.Writer).Int8 -/
def f45.sh (Z : List PanicEntry → World → Prop) (x0 x1 : Value) (w : World) (Q : Value → World → Prop) : Prop :=
  run1 Tryd.prog Z (convert 31 107 x1) w fun t6_1 w =>
  CallV Tryd.prog Z 71 #[x0, t6_1, (Value.int IntKind.i64 1)] w fun t7_2 w =>
  Q (Value.tuple #[]) w
noncomputable def f45.code : Code := match Tryd.f45.body with | some c => c | none => .skip
def f45.an : An := .leaf
theorem f45.body_eq : Tryd.f45.body = some f45.code := by kernel_rfl
theorem f45.shape (Z : List PanicEntry → World → Prop) (x0 x1 : Value) (w : World) (Q : Value → World → Prop) : vc drawD Tryd.prog 8 Z [71] f45.an f45.code (fnQ Tryd.prog 8 Tryd.f45.results Q) (argEnv [x0, x1]) w = f45.sh Z x0 x1 w Q := by kernel_rfl
theorem f45.enters : ∀ f, f ∈ ([71] : List Nat) → Enters Tryd.prog f := by
  intro f hf
  simp only [List.mem_cons, List.not_mem_nil, or_false] at hf
  rcases hf with rfl
  · exact en71
theorem f45.calls {Z : List PanicEntry → World → Prop} {x0 x1 : Value} {w : World} {Q : Value → World → Prop} (h : f45.sh Z x0 x1 w Q) : CallV Tryd.prog Z 45 #[x0, x1] w Q :=
  calls_of_vcn drawD_sound (Q := Q) (n := 8) (rs := Tryd.f45.results) (an := f45.an) (c := f45.code) (cal := [71]) (args := [x0, x1]) Tryd.func45 (by kernel_rfl) rfl f45.body_eq follows (Nat.le_of_ble_eq_true (by kernel_rfl)) (enters_of_all f45.enters) ((f45.shape Z x0 x1 w Q).mpr h)

/-! ### 46: (*lagoon/pack.Writer).Int64 -/
def f46.sh (Z : List PanicEntry → World → Prop) (x0 x1 : Value) (w : World) (Q : Value → World → Prop) : Prop :=
  run1 Tryd.prog Z (convert 2 107 x1) w fun t6_1 w =>
  CallV Tryd.prog Z 71 #[x0, t6_1, (Value.int IntKind.i64 8)] w fun t7_2 w =>
  Q (Value.tuple #[]) w
noncomputable def f46.code : Code := match Tryd.f46.body with | some c => c | none => .skip
def f46.an : An := .leaf
theorem f46.body_eq : Tryd.f46.body = some f46.code := by kernel_rfl
theorem f46.shape (Z : List PanicEntry → World → Prop) (x0 x1 : Value) (w : World) (Q : Value → World → Prop) : vc drawD Tryd.prog 8 Z [71] f46.an f46.code (fnQ Tryd.prog 8 Tryd.f46.results Q) (argEnv [x0, x1]) w = f46.sh Z x0 x1 w Q := by kernel_rfl
theorem f46.enters : ∀ f, f ∈ ([71] : List Nat) → Enters Tryd.prog f := by
  intro f hf
  simp only [List.mem_cons, List.not_mem_nil, or_false] at hf
  rcases hf with rfl
  · exact en71
theorem f46.calls {Z : List PanicEntry → World → Prop} {x0 x1 : Value} {w : World} {Q : Value → World → Prop} (h : f46.sh Z x0 x1 w Q) : CallV Tryd.prog Z 46 #[x0, x1] w Q :=
  calls_of_vcn drawD_sound (Q := Q) (n := 8) (rs := Tryd.f46.results) (an := f46.an) (c := f46.code) (cal := [71]) (args := [x0, x1]) Tryd.func46 (by kernel_rfl) rfl f46.body_eq follows (Nat.le_of_ble_eq_true (by kernel_rfl)) (enters_of_all f46.enters) ((f46.shape Z x0 x1 w Q).mpr h)

/-! ### 47: (lagoon/txn.layer).put -/
def f47.sh (Z : List PanicEntry → World → Prop) (x0 x1 x2 : Value) (w : World) (Q : Value → World → Prop) : Prop :=
  run1 Tryd.prog Z (Instr.box 84 x0) w fun t3_1 w =>
  run1 Tryd.prog Z (Instr.box 47 x2) w fun t5_2 w =>
  run1 Tryd.prog Z (Instr.fieldAt 47 t5_2 0) w fun t8_3 w =>
  run1 Tryd.prog Z (Instr.loadAt 31 t8_3) w fun t9_4 w =>
  CallV Tryd.prog Z 45 #[x1, t9_4] w fun t10_5 w =>
  run1 Tryd.prog Z (Instr.loadAt 84 t3_1) w fun t11_6 w =>
  run1 Tryd.prog Z (Instr.fieldAt 47 t5_2 0) w fun t12_7 w =>
  run1 Tryd.prog Z (Instr.loadAt 31 t12_7) w fun t13_8 w =>
  CallV Tryd.prog Z 72 #[t11_6, t13_8] w fun t14_9 w =>
  ∀ j_10 : World → Prop, (∀ w : World, (Env →
      ∀ j_11 : World → Prop, (∀ w : World, (Env →
          ∀ j_12 : World → Prop, (∀ w : World, (Env →
              ∀ j_13 : World → Prop, (∀ w : World, (Env →
                  ∀ j_14 : World → Prop, (∀ w : World, (Env →
                      ∀ j_15 : World → Prop, (∀ w : World, (Env →
                          ∀ j_16 : World → Prop, (∀ w : World, (Env →
                              ∀ j_17 : World → Prop, (∀ w : World, (Env →
                                  run1 Tryd.prog Z (binOp BinOp.and 108 t14_9 (Value.int IntKind.u64 256)) w fun t76_18 w =>
                                  run1 Tryd.prog Z (eqOp BinOp.neq 108 false true t76_18 (Value.int IntKind.u64 0)) w fun t77_19 w =>
                                  CondV t77_19 (
                                    run1 Tryd.prog Z (Instr.fieldAt 47 t5_2 10) w fun t79_20 w =>
                                    run1 Tryd.prog Z (Instr.loadAt 45 t79_20) w fun t80_21 w =>
                                    run1 Tryd.prog Z (Instr.build 84 #[(0, (Value.bool true))]) w fun t81_22 w =>
                                    run1 Tryd.prog Z (Instr.makeFunc (Fn.func 47) #[t81_22] #[]) w fun t82_23 w =>
                                    CallV Tryd.prog Z 81 #[x1, t80_21, t82_23] w fun t83_24 w =>
                                    Q (Value.tuple #[]) w) (
                                    Q (Value.tuple #[]) w)) →
                                  j_17 w) →
                              run1 Tryd.prog Z (binOp BinOp.and 108 t14_9 (Value.int IntKind.u64 128)) w fun t69_25 w =>
                              run1 Tryd.prog Z (eqOp BinOp.neq 108 false true t69_25 (Value.int IntKind.u64 0)) w fun t70_26 w =>
                              CondV t70_26 (
                                run1 Tryd.prog Z (Instr.fieldAt 47 t5_2 9) w fun t72_27 w =>
                                run1 Tryd.prog Z (Instr.loadAt 44 t72_27) w fun t73_28 w =>
                                CallV Tryd.prog Z 79 #[x1, t73_28, (Value.func (Fn.func 80) #[] #[])] w fun t74_29 w =>
                                j_17 w) (
                                j_17 w)) →
                              j_16 w) →
                          run1 Tryd.prog Z (binOp BinOp.and 108 t14_9 (Value.int IntKind.u64 64)) w fun t62_30 w =>
                          run1 Tryd.prog Z (eqOp BinOp.neq 108 false true t62_30 (Value.int IntKind.u64 0)) w fun t63_31 w =>
                          CondV t63_31 (
                            run1 Tryd.prog Z (Instr.fieldAt 47 t5_2 8) w fun t65_32 w =>
                            run1 Tryd.prog Z (Instr.loadAt 21 t65_32) w fun t66_33 w =>
                            CallV Tryd.prog Z 77 #[x1, t66_33] w fun t67_34 w =>
                            j_16 w) (
                            j_16 w)) →
                          j_15 w) →
                      run1 Tryd.prog Z (binOp BinOp.and 108 t14_9 (Value.int IntKind.u64 32)) w fun t55_35 w =>
                      run1 Tryd.prog Z (eqOp BinOp.neq 108 false true t55_35 (Value.int IntKind.u64 0)) w fun t56_36 w =>
                      CondV t56_36 (
                        run1 Tryd.prog Z (Instr.fieldAt 47 t5_2 7) w fun t58_37 w =>
                        run1 Tryd.prog Z (Instr.loadAt 2 t58_37) w fun t59_38 w =>
                        CallV Tryd.prog Z 46 #[x1, t59_38] w fun t60_39 w =>
                        j_15 w) (
                        j_15 w)) →
                      j_14 w) →
                  run1 Tryd.prog Z (binOp BinOp.and 108 t14_9 (Value.int IntKind.u64 16)) w fun t44_40 w =>
                  run1 Tryd.prog Z (eqOp BinOp.neq 108 false true t44_40 (Value.int IntKind.u64 0)) w fun t45_41 w =>
                  CondV t45_41 (
                    run1 Tryd.prog Z (Instr.fieldAt 47 t5_2 5) w fun t47_42 w =>
                    run1 Tryd.prog Z (Instr.loadAt 4 t47_42) w fun t48_43 w =>
                    CallV Tryd.prog Z 78 #[x1, t48_43] w fun t49_44 w =>
                    run1 Tryd.prog Z (Instr.fieldAt 47 t5_2 6) w fun t51_45 w =>
                    run1 Tryd.prog Z (Instr.loadAt 4 t51_45) w fun t52_46 w =>
                    CallV Tryd.prog Z 78 #[x1, t52_46] w fun t53_47 w =>
                    j_14 w) (
                    j_14 w)) →
                  j_13 w) →
              run1 Tryd.prog Z (binOp BinOp.and 108 t14_9 (Value.int IntKind.u64 8)) w fun t37_48 w =>
              run1 Tryd.prog Z (eqOp BinOp.neq 108 false true t37_48 (Value.int IntKind.u64 0)) w fun t38_49 w =>
              CondV t38_49 (
                run1 Tryd.prog Z (Instr.fieldAt 47 t5_2 4) w fun t40_50 w =>
                run1 Tryd.prog Z (Instr.loadAt 21 t40_50) w fun t41_51 w =>
                CallV Tryd.prog Z 77 #[x1, t41_51] w fun t42_52 w =>
                j_13 w) (
                j_13 w)) →
              j_12 w) →
          run1 Tryd.prog Z (binOp BinOp.and 108 t14_9 (Value.int IntKind.u64 4)) w fun t30_53 w =>
          run1 Tryd.prog Z (eqOp BinOp.neq 108 false true t30_53 (Value.int IntKind.u64 0)) w fun t31_54 w =>
          CondV t31_54 (
            run1 Tryd.prog Z (Instr.fieldAt 47 t5_2 3) w fun t33_55 w =>
            run1 Tryd.prog Z (Instr.loadAt 43 t33_55) w fun t34_56 w =>
            CallV Tryd.prog Z 75 #[x1, t34_56, (Value.func (Fn.func 76) #[] #[])] w fun t35_57 w =>
            j_12 w) (
            j_12 w)) →
          j_11 w) →
      run1 Tryd.prog Z (binOp BinOp.and 108 t14_9 (Value.int IntKind.u64 2)) w fun t23_58 w =>
      run1 Tryd.prog Z (eqOp BinOp.neq 108 false true t23_58 (Value.int IntKind.u64 0)) w fun t24_59 w =>
      CondV t24_59 (
        run1 Tryd.prog Z (Instr.fieldAt 47 t5_2 2) w fun t26_60 w =>
        run1 Tryd.prog Z (Instr.loadAt 42 t26_60) w fun t27_61 w =>
        CallV Tryd.prog Z 74 #[x1, t27_61] w fun t28_62 w =>
        j_11 w) (
        j_11 w)) →
      j_10 w) →
  run1 Tryd.prog Z (binOp BinOp.and 108 t14_9 (Value.int IntKind.u64 1)) w fun t16_63 w =>
  run1 Tryd.prog Z (eqOp BinOp.neq 108 false true t16_63 (Value.int IntKind.u64 0)) w fun t17_64 w =>
  CondV t17_64 (
    run1 Tryd.prog Z (Instr.fieldAt 47 t5_2 1) w fun t19_65 w =>
    run1 Tryd.prog Z (Instr.loadAt 9 t19_65) w fun t20_66 w =>
    CallV Tryd.prog Z 73 #[x1, t20_66] w fun t21_67 w =>
    j_10 w) (
    j_10 w)
noncomputable def f47.code : Code := match Tryd.f47.body with | some c => c | none => .skip
def f47.an : An := (.sq .leaf (.sq .leaf (.sq .leaf (.sj [] [15, 16, 17, 18, 19, 20, 21] (.sq .leaf (.cn .leaf .leaf)) (.sj [] [22, 23, 24, 25, 26, 27, 28] (.sq .leaf (.cn .leaf .leaf)) (.sj [] [29, 30, 31, 32, 33, 34, 35] (.sq .leaf (.cn .leaf .leaf)) (.sj [] [36, 37, 38, 39, 40, 41, 42] (.sq .leaf (.cn .leaf .leaf)) (.sj [] [43, 44, 45, 46, 47, 48, 49, 50, 51, 52, 53] (.sq .leaf (.cn (.sq .leaf .leaf) .leaf)) (.sj [] [54, 55, 56, 57, 58, 59, 60] (.sq .leaf (.cn .leaf .leaf)) (.sj [] [61, 62, 63, 64, 65, 66, 67] (.sq .leaf (.cn .leaf .leaf)) (.sj [] [68, 69, 70, 71, 72, 73, 74] (.sq .leaf (.cn .leaf .leaf)) (.sq .leaf (.cn .leaf .leaf)))))))))))))
theorem f47.body_eq : Tryd.f47.body = some f47.code := by kernel_rfl
theorem f47.shape (Z : List PanicEntry → World → Prop) (x0 x1 x2 : Value) (w : World) (Q : Value → World → Prop) : vc drawD Tryd.prog 84 Z [45, 72, 81, 79, 77, 46, 78, 75, 74, 73] f47.an f47.code (fnQ Tryd.prog 84 Tryd.f47.results Q) (argEnv [x0, x1, x2]) w = f47.sh Z x0 x1 x2 w Q := by kernel_rfl
theorem f47.enters : ∀ f, f ∈ ([45, 72, 81, 79, 77, 46, 78, 75, 74, 73] : List Nat) → Enters Tryd.prog f := by
  intro f hf
  simp only [List.mem_cons, List.not_mem_nil, or_false] at hf
  rcases hf with rfl | rfl | rfl | rfl | rfl | rfl | rfl | rfl | rfl | rfl
  · exact en45
  · exact en72
  · exact en81
  · exact en79
  · exact en77
  · exact en46
  · exact en78
  · exact en75
  · exact en74
  · exact en73
theorem f47.calls {Z : List PanicEntry → World → Prop} {x0 x1 x2 : Value} {w : World} {Q : Value → World → Prop} (h : f47.sh Z x0 x1 x2 w Q) : CallV Tryd.prog Z 47 #[x0, x1, x2] w Q :=
  calls_of_vcn drawD_sound (Q := Q) (n := 84) (rs := Tryd.f47.results) (an := f47.an) (c := f47.code) (cal := [45, 72, 81, 79, 77, 46, 78, 75, 74, 73]) (args := [x0, x1, x2]) Tryd.func47 (by kernel_rfl) rfl f47.body_eq follows (Nat.le_of_ble_eq_true (by kernel_rfl)) (enters_of_all f47.enters) ((f47.shape Z x0 x1 x2 w Q).mpr h)

/-! ### 48: (*lagoon/pack.Writer).Bytes -/
def f48.sh (Z : List PanicEntry → World → Prop) (x0 : Value) (w : World) (Q : Value → World → Prop) : Prop :=
  run1 Tryd.prog Z (eqOp BinOp.eql 77 false true x0 (Value.pointer none)) w fun t4_1 w =>
  CondV t4_1 (
    Q (Value.slice none 0 0) w) (
    runX Tryd.prog Z (nilChk x0) w fun t6_2 w =>
    run1 Tryd.prog Z (Instr.fieldAt 79 t6_2 0) w fun t7_3 w =>
    run1 Tryd.prog Z (Instr.loadAt 42 t7_3) w fun t8_4 w =>
    run1 Tryd.prog Z (Builtin.append_ #[42, 42] 42 #[(Value.slice none 0 0), t8_4]) w fun t9_5 w =>
    Q t9_5 w)
noncomputable def f48.code : Code := match Tryd.f48.body with | some c => c | none => .skip
def f48.an : An := (.sq .leaf (.sq (.sq .leaf (.cn (.sq .leaf .leaf) .leaf)) (.sq .leaf .leaf)))
theorem f48.body_eq : Tryd.f48.body = some f48.code := by kernel_rfl
theorem f48.shape (Z : List PanicEntry → World → Prop) (x0 : Value) (w : World) (Q : Value → World → Prop) : vc drawD Tryd.prog 10 Z [] f48.an f48.code (fnQ Tryd.prog 10 Tryd.f48.results Q) (argEnv [x0]) w = f48.sh Z x0 w Q := by kernel_rfl
theorem f48.enters : ∀ f, f ∈ ([] : List Nat) → Enters Tryd.prog f := by
  intro f hf
  cases hf
theorem f48.calls {Z : List PanicEntry → World → Prop} {x0 : Value} {w : World} {Q : Value → World → Prop} (h : f48.sh Z x0 w Q) : CallV Tryd.prog Z 48 #[x0] w Q :=
  calls_of_vcn drawD_sound (Q := Q) (n := 10) (rs := Tryd.f48.results) (an := f48.an) (c := f48.code) (cal := []) (args := [x0]) Tryd.func48 (by kernel_rfl) rfl f48.body_eq follows (Nat.le_of_ble_eq_true (by kernel_rfl)) (enters_of_all f48.enters) ((f48.shape Z x0 w Q).mpr h)

/-! ### 49: lagoon/lagoonref04.Check -/
def f49.sh (Z : List PanicEntry → World → Prop) (x0 : Value) (w : World) (Q : Value → World → Prop) : Prop :=
  run1 Tryd.prog Z (Instr.box 49 x0) w fun t1_1 w =>
  run1 Tryd.prog Z (Instr.fieldAt 49 t1_1 0) w fun t5_2 w =>
  run1 Tryd.prog Z (Instr.fieldAt 30 t5_2 0) w fun t6_3 w =>
  run1 Tryd.prog Z (Instr.loadAt 28 t6_3) w fun t7_4 w =>
  run1 Tryd.prog Z (eqOp BinOp.eql 28 false true t7_4 (Value.int IntKind.u32 0)) w fun t8_5 w =>
  guardW (t8_5) true (fun k => run1 Tryd.prog Z (Instr.fieldAt 49 t1_1 0) w k) (fun t10_6 w =>
  guardW (t8_5) true (fun k => run1 Tryd.prog Z (Instr.fieldAt 30 t10_6 1) w k) (fun t11_7 w =>
  guardW (t8_5) true (fun k => run1 Tryd.prog Z (Instr.loadAt 28 t11_7) w k) (fun t12_8 w =>
  guardW (t8_5) true (fun k => run1 Tryd.prog Z (eqOp BinOp.eql 28 false true t12_8 (Value.int IntKind.u32 0)) w k) (fun t13_9 w =>
  run1 Tryd.prog Z (pickV t8_5 t13_9 (Value.bool false)) w fun t14_10 w =>
  run1 Tryd.prog Z (Instr.fieldAt 49 t1_1 0) w fun t15_11 w =>
  run1 Tryd.prog Z (Instr.fieldAt 30 t15_11 0) w fun t16_12 w =>
  run1 Tryd.prog Z (Instr.loadAt 28 t16_12) w fun t17_13 w =>
  run1 Tryd.prog Z (eqOp BinOp.neq 28 false true t17_13 (Value.int IntKind.u32 0)) w fun t18_14 w =>
  guardW (t18_14) true (fun k => run1 Tryd.prog Z (Instr.fieldAt 49 t1_1 0) w k) (fun t20_15 w =>
  guardW (t18_14) true (fun k => run1 Tryd.prog Z (Instr.fieldAt 30 t20_15 0) w k) (fun t21_16 w =>
  guardW (t18_14) true (fun k => run1 Tryd.prog Z (Instr.loadAt 28 t21_16) w k) (fun t22_17 w =>
  guardW (t18_14) true (fun k => run1 Tryd.prog Z (convert 28 2 t22_17) w k) (fun t23_18 w =>
  guardW (t18_14) true (fun k => run1 Tryd.prog Z (binOp BinOp.leq 2 t23_18 (Value.int IntKind.i64 2147483647)) w k) (fun t24_19 w =>
  run1 Tryd.prog Z (pickV t18_14 t24_19 (Value.bool false)) w fun t25_20 w =>
  guardW (t25_20) true (fun k => run1 Tryd.prog Z (Instr.fieldAt 49 t1_1 0) w k) (fun t27_21 w =>
  guardW (t25_20) true (fun k => run1 Tryd.prog Z (Instr.fieldAt 30 t27_21 1) w k) (fun t28_22 w =>
  guardW (t25_20) true (fun k => run1 Tryd.prog Z (Instr.loadAt 28 t28_22) w k) (fun t29_23 w =>
  guardW (t25_20) true (fun k => run1 Tryd.prog Z (eqOp BinOp.neq 28 false true t29_23 (Value.int IntKind.u32 0)) w k) (fun t30_24 w =>
  run1 Tryd.prog Z (pickV t25_20 t30_24 (Value.bool false)) w fun t31_25 w =>
  run1 Tryd.prog Z (Op.unary UnOp.not t14_10) w fun t33_26 w =>
  guardW (t33_26) true (fun k => k (t31_25) w) (fun t35_27 w =>
  guardW (t33_26) true (fun k => run1 Tryd.prog Z (Op.unary UnOp.not t35_27) w k) (fun t36_28 w =>
  run1 Tryd.prog Z (pickV t33_26 t36_28 (Value.bool false)) w fun t37_29 w =>
  CondV t37_29 (
    Q (Value.int IntKind.i64 40) w) (
    run1 Tryd.prog Z (Instr.fieldAt 49 t1_1 1) w fun t38_30 w =>
    run1 Tryd.prog Z (Instr.fieldAt 41 t38_30 0) w fun t39_31 w =>
    run1 Tryd.prog Z (Instr.loadAt 31 t39_31) w fun t40_32 w =>
    run1 Tryd.prog Z (binOp BinOp.lss 31 t40_32 (Value.int IntKind.i8 0)) w fun t41_33 w =>
    guardW (t41_33) false (fun k => run1 Tryd.prog Z (Instr.fieldAt 49 t1_1 1) w k) (fun t43_34 w =>
    guardW (t41_33) false (fun k => run1 Tryd.prog Z (Instr.fieldAt 41 t43_34 0) w k) (fun t44_35 w =>
    guardW (t41_33) false (fun k => run1 Tryd.prog Z (Instr.loadAt 31 t44_35) w k) (fun t45_36 w =>
    guardW (t41_33) false (fun k => run1 Tryd.prog Z (binOp BinOp.gtr 31 t45_36 (Value.int IntKind.i8 6)) w k) (fun t46_37 w =>
    run1 Tryd.prog Z (pickV t41_33 (Value.bool true) t46_37) w fun t47_38 w =>
    guardW (t47_38) false (fun k => run1 Tryd.prog Z (Instr.fieldAt 49 t1_1 1) w k) (fun t49_39 w =>
    guardW (t47_38) false (fun k => run1 Tryd.prog Z (Instr.fieldAt 41 t49_39 2) w k) (fun t50_40 w =>
    guardW (t47_38) false (fun k => run1 Tryd.prog Z (Instr.loadAt 2 t50_40) w k) (fun t51_41 w =>
    guardW (t47_38) false (fun k => run1 Tryd.prog Z (binOp BinOp.lss 2 t51_41 (Value.int IntKind.i64 0)) w k) (fun t52_42 w =>
    run1 Tryd.prog Z (pickV t47_38 (Value.bool true) t52_42) w fun t53_43 w =>
    guardW (t53_43) false (fun k => run1 Tryd.prog Z (Instr.fieldAt 49 t1_1 2) w k) (fun t55_44 w =>
    guardW (t53_43) false (fun k => run1 Tryd.prog Z (Instr.fieldAt 47 t55_44 0) w k) (fun t56_45 w =>
    guardW (t53_43) false (fun k => run1 Tryd.prog Z (Instr.loadAt 31 t56_45) w k) (fun t57_46 w =>
    guardW (t53_43) false (fun k => run1 Tryd.prog Z (binOp BinOp.gtr 31 t57_46 (Value.int IntKind.i8 8)) w k) (fun t58_47 w =>
    run1 Tryd.prog Z (pickV t53_43 (Value.bool true) t58_47) w fun t59_48 w =>
    CondV t59_48 (
      Q (Value.int IntKind.i64 40) w) (
      run1 Tryd.prog Z (Instr.fieldAt 49 t1_1 2) w fun t60_49 w =>
      run1 Tryd.prog Z (Instr.loadAt 47 t60_49) w fun t61_50 w =>
      CallV Tryd.prog Z 82 #[t61_50] w fun t62_51 w =>
      Q t62_51 w)) w) w) w) w) w) w) w) w) w) w) w) w)) w) w) w) w) w) w) w) w) w) w) w) w) w) w) w
noncomputable def f49.code : Code := match Tryd.f49.body with | some c => c | none => .skip
def f49.an : An := (.sq .leaf (.sq .leaf (.sq .leaf (.sq (.sq .leaf (.cn (.sq .leaf .leaf) .leaf)) (.sq (.sq .leaf (.cn (.sq .leaf .leaf) .leaf)) (.sq .leaf .leaf))))))
theorem f49.body_eq : Tryd.f49.body = some f49.code := by kernel_rfl
theorem f49.shape (Z : List PanicEntry → World → Prop) (x0 : Value) (w : World) (Q : Value → World → Prop) : vc drawD Tryd.prog 63 Z [82] f49.an f49.code (fnQ Tryd.prog 63 Tryd.f49.results Q) (argEnv [x0]) w = f49.sh Z x0 w Q := by kernel_rfl
theorem f49.enters : ∀ f, f ∈ ([82] : List Nat) → Enters Tryd.prog f := by
  intro f hf
  simp only [List.mem_cons, List.not_mem_nil, or_false] at hf
  rcases hf with rfl
  · exact en82
theorem f49.calls {Z : List PanicEntry → World → Prop} {x0 : Value} {w : World} {Q : Value → World → Prop} (h : f49.sh Z x0 w Q) : CallV Tryd.prog Z 49 #[x0] w Q :=
  calls_of_vcn drawD_sound (Q := Q) (n := 63) (rs := Tryd.f49.results) (an := f49.an) (c := f49.code) (cal := [82]) (args := [x0]) Tryd.func49 (by kernel_rfl) rfl f49.body_eq follows (Nat.le_of_ble_eq_true (by kernel_rfl)) (enters_of_all f49.enters) ((f49.shape Z x0 w Q).mpr h)

/-! ### 50: lagoon/lagoonref01.Uint32 -/
def f50.sh (Z : List PanicEntry → World → Prop) (x0 : Value) (w : World) (Q : Value → World → Prop) : Prop :=
  run1 Tryd.prog Z (convert 28 107 x0) w fun t4_1 w =>
  CallV Tryd.prog Z 83 #[t4_1, (Value.int IntKind.i64 4)] w fun t5_2 w =>
  Q t5_2 w
noncomputable def f50.code : Code := match Tryd.f50.body with | some c => c | none => .skip
def f50.an : An := (.sq .leaf (.sq .leaf .leaf))
theorem f50.body_eq : Tryd.f50.body = some f50.code := by kernel_rfl
theorem f50.shape (Z : List PanicEntry → World → Prop) (x0 : Value) (w : World) (Q : Value → World → Prop) : vc drawD Tryd.prog 6 Z [83] f50.an f50.code (fnQ Tryd.prog 6 Tryd.f50.results Q) (argEnv [x0]) w = f50.sh Z x0 w Q := by kernel_rfl
theorem f50.enters : ∀ f, f ∈ ([83] : List Nat) → Enters Tryd.prog f := by
  intro f hf
  simp only [List.mem_cons, List.not_mem_nil, or_false] at hf
  rcases hf with rfl
  · exact en83
theorem f50.calls {Z : List PanicEntry → World → Prop} {x0 : Value} {w : World} {Q : Value → World → Prop} (h : f50.sh Z x0 w Q) : CallV Tryd.prog Z 50 #[x0] w Q :=
  calls_of_vcn drawD_sound (Q := Q) (n := 6) (rs := Tryd.f50.results) (an := f50.an) (c := f50.code) (cal := [83]) (args := [x0]) Tryd.func50 (by kernel_rfl) rfl f50.body_eq follows (Nat.le_of_ble_eq_true (by kernel_rfl)) (enters_of_all f50.enters) ((f50.shape Z x0 w Q).mpr h)

/-! ### 51: lagoon/lagoonref04.behind -/
def f51.sh (Z : List PanicEntry → World → Prop) (x0 x1 : Value) (w : World) (Q : Value → World → Prop) : Prop :=
  ∃ J_1 : Nat → Value → Value → World → Prop, (∃ m, J_1 m x0 (Value.int IntKind.i64 0) w) ∧
    ∀ m_1, ∀ t0_2 : Value, ∀ t5_3 : Value, ∀ w : World, J_1 m_1 t0_2 t5_3 w → Env →
      run1 Tryd.prog Z (Builtin.len_ #[42] 3 #[x1]) w fun t8_4 w =>
      run1 Tryd.prog Z (binOp BinOp.lss 3 t5_3 t8_4) w fun t9_5 w =>
      CondV t9_5 (
        run1 Tryd.prog Z (Instr.indexAt 42 x1 t5_3) w fun t15_6 w =>
        run1 Tryd.prog Z (Instr.loadAt 5 t15_6) w fun t16_7 w =>
        run1 Tryd.prog Z (Instr.buildSlice 42 1 #[(0, t16_7)]) w fun t17_8 w =>
        run1 Tryd.prog Z (Builtin.append_ #[42, 42] 42 #[t0_2, t17_8]) w fun t18_9 w =>
        run1 Tryd.prog Z (binOp BinOp.add 3 t5_3 (Value.int IntKind.i64 1)) w fun t11_10 w =>
        ∃ n_1, n_1 < m_1 ∧ J_1 n_1 t18_9 t11_10 w) (
        Q t0_2 w)
noncomputable def f51.code : Code := match Tryd.f51.body with | some c => c | none => .skip
def f51.an : An := (.sq .leaf (.sq (.sq .leaf (.bl (.lp [0, 5] [0, 5, 6, 7, 8, 9, 10, 11, 12, 13, 14, 15, 16, 17, 18] (.sq (.sq .leaf (.cn .leaf .leaf)) (.sq (.bl .leaf) .leaf))))) (.sq .leaf .leaf)))
theorem f51.body_eq : Tryd.f51.body = some f51.code := by kernel_rfl
theorem f51.shape (Z : List PanicEntry → World → Prop) (x0 x1 : Value) (w : World) (Q : Value → World → Prop) : vc drawD Tryd.prog 20 Z [] f51.an f51.code (fnQ Tryd.prog 20 Tryd.f51.results Q) (argEnv [x0, x1]) w = f51.sh Z x0 x1 w Q := by kernel_rfl
theorem f51.enters : ∀ f, f ∈ ([] : List Nat) → Enters Tryd.prog f := by
  intro f hf
  cases hf
theorem f51.calls {Z : List PanicEntry → World → Prop} {x0 x1 : Value} {w : World} {Q : Value → World → Prop} (h : f51.sh Z x0 x1 w Q) : CallV Tryd.prog Z 51 #[x0, x1] w Q :=
  calls_of_vcn drawD_sound (Q := Q) (n := 20) (rs := Tryd.f51.results) (an := f51.an) (c := f51.code) (cal := []) (args := [x0, x1]) Tryd.func51 (by kernel_rfl) rfl f51.body_eq follows (Nat.le_of_ble_eq_true (by kernel_rfl)) (enters_of_all f51.enters) ((f51.shape Z x0 x1 w Q).mpr h)

/-! ### 52: lagoon/lagoonref01.Int8 -/
def f52.sh (Z : List PanicEntry → World → Prop) (x0 : Value) (w : World) (Q : Value → World → Prop) : Prop :=
  run1 Tryd.prog Z (convert 31 3 x0) w fun t5_1 w =>
  ∀ j_2 : Value → World → Prop, (∀ t3_3 : Value, ∀ w : World, (Env →
      run1 Tryd.prog Z (convert 3 5 t3_3) w fun t11_4 w =>
      run1 Tryd.prog Z (Instr.buildSlice 42 1 #[(0, t11_4)]) w fun t12_5 w =>
      Q t12_5 w) →
      j_2 t3_3 w) →
  run1 Tryd.prog Z (binOp BinOp.lss 3 t5_1 (Value.int IntKind.i64 0)) w fun t7_6 w =>
  CondV t7_6 (
    run1 Tryd.prog Z (binOp BinOp.add 3 t5_1 (Value.int IntKind.i64 256)) w fun t9_7 w =>
    j_2 t9_7 w) (
    j_2 t5_1 w)
noncomputable def f52.code : Code := match Tryd.f52.body with | some c => c | none => .skip
def f52.an : An := (.sq .leaf (.sq .leaf (.sj [3] [3, 6, 7, 8, 9] (.sq .leaf (.cn .leaf .leaf)) (.sq .leaf .leaf))))
theorem f52.body_eq : Tryd.f52.body = some f52.code := by kernel_rfl
theorem f52.shape (Z : List PanicEntry → World → Prop) (x0 : Value) (w : World) (Q : Value → World → Prop) : vc drawD Tryd.prog 13 Z [] f52.an f52.code (fnQ Tryd.prog 13 Tryd.f52.results Q) (argEnv [x0]) w = f52.sh Z x0 w Q := by kernel_rfl
theorem f52.enters : ∀ f, f ∈ ([] : List Nat) → Enters Tryd.prog f := by
  intro f hf
  cases hf
theorem f52.calls {Z : List PanicEntry → World → Prop} {x0 : Value} {w : World} {Q : Value → World → Prop} (h : f52.sh Z x0 w Q) : CallV Tryd.prog Z 52 #[x0] w Q :=
  calls_of_vcn drawD_sound (Q := Q) (n := 13) (rs := Tryd.f52.results) (an := f52.an) (c := f52.code) (cal := []) (args := [x0]) Tryd.func52 (by kernel_rfl) rfl f52.body_eq follows (Nat.le_of_ble_eq_true (by kernel_rfl)) (enters_of_all f52.enters) ((f52.shape Z x0 w Q).mpr h)

/-! ### 53: lagoon/lagoonref01.Int64 -/
def f53.sh (Z : List PanicEntry → World → Prop) (x0 : Value) (w : World) (Q : Value → World → Prop) : Prop :=
  run1 Tryd.prog Z (binOp BinOp.geq 2 x0 (Value.int IntKind.i64 0)) w fun t6_1 w =>
  CondV t6_1 (
    run1 Tryd.prog Z (convert 2 107 x0) w fun t8_2 w =>
    CallV Tryd.prog Z 83 #[t8_2, (Value.int IntKind.i64 8)] w fun t9_3 w =>
    Q t9_3 w) (
    run1 Tryd.prog Z (binOp BinOp.sub 2 (Value.int IntKind.i64 (-1)) x0) w fun t11_4 w =>
    run1 Tryd.prog Z (convert 2 107 t11_4) w fun t12_5 w =>
    CallV Tryd.prog Z 83 #[t12_5, (Value.int IntKind.i64 8)] w fun t13_6 w =>
    ∃ J_7 : Nat → Value → World → Prop, (∃ m, J_7 m (Value.int IntKind.i64 0) w) ∧
      ∀ m_7, ∀ t4_8 : Value, ∀ w : World, J_7 m_7 t4_8 w → Env →
        run1 Tryd.prog Z (Builtin.len_ #[42] 3 #[t13_6]) w fun t16_9 w =>
        run1 Tryd.prog Z (binOp BinOp.lss 3 t4_8 t16_9) w fun t17_10 w =>
        CondV t17_10 (
          run1 Tryd.prog Z (Instr.indexAt 42 t13_6 t4_8) w fun t24_11 w =>
          run1 Tryd.prog Z (Instr.loadAt 5 t24_11) w fun t25_12 w =>
          run1 Tryd.prog Z (binOp BinOp.sub 5 (Value.int IntKind.u8 255) t25_12) w fun t26_13 w =>
          run1 Tryd.prog Z (Instr.indexAt 42 t13_6 t4_8) w fun t27_14 w =>
          run0 Tryd.prog Z (Instr.storeAt 5 t27_14 t26_13) w fun w =>
          run1 Tryd.prog Z (binOp BinOp.add 3 t4_8 (Value.int IntKind.i64 1)) w fun t19_15 w =>
          ∃ n_7, n_7 < m_7 ∧ J_7 n_7 t19_15 w) (
          Q t13_6 w))
noncomputable def f53.code : Code := match Tryd.f53.body with | some c => c | none => .skip
def f53.an : An := (.sq .leaf (.sq (.sq .leaf (.cn (.sq .leaf .leaf) .leaf)) (.sq .leaf (.sq (.sq .leaf (.bl (.lp [4] [4, 14, 15, 16, 17, 18, 19, 20, 21, 22, 23, 24, 25, 26, 27] (.sq (.sq .leaf (.cn .leaf .leaf)) (.sq (.bl .leaf) .leaf))))) (.sq .leaf .leaf)))))
theorem f53.body_eq : Tryd.f53.body = some f53.code := by kernel_rfl
theorem f53.shape (Z : List PanicEntry → World → Prop) (x0 : Value) (w : World) (Q : Value → World → Prop) : vc drawD Tryd.prog 29 Z [83] f53.an f53.code (fnQ Tryd.prog 29 Tryd.f53.results Q) (argEnv [x0]) w = f53.sh Z x0 w Q := by kernel_rfl
theorem f53.enters : ∀ f, f ∈ ([83] : List Nat) → Enters Tryd.prog f := by
  intro f hf
  simp only [List.mem_cons, List.not_mem_nil, or_false] at hf
  rcases hf with rfl
  · exact en83
theorem f53.calls {Z : List PanicEntry → World → Prop} {x0 : Value} {w : World} {Q : Value → World → Prop} (h : f53.sh Z x0 w Q) : CallV Tryd.prog Z 53 #[x0] w Q :=
  calls_of_vcn drawD_sound (Q := Q) (n := 29) (rs := Tryd.f53.results) (an := f53.an) (c := f53.code) (cal := [83]) (args := [x0]) Tryd.func53 (by kernel_rfl) rfl f53.body_eq follows (Nat.le_of_ble_eq_true (by kernel_rfl)) (enters_of_all f53.enters) ((f53.shape Z x0 w Q).mpr h)

/-! ### 54: lagoon/lagoonref04.request -/
def f54.sh (Z : List PanicEntry → World → Prop) (x0 x1 x2 : Value) (w : World) (Q : Value → World → Prop) : Prop :=
  run1 Tryd.prog Z (Instr.box 47 x1) w fun t4_1 w =>
  run1 Tryd.prog Z (Instr.fieldAt 47 t4_1 0) w fun t12_2 w =>
  run1 Tryd.prog Z (Instr.loadAt 31 t12_2) w fun t13_3 w =>
  CallV Tryd.prog Z 84 #[t13_3] w fun t14_4 w =>
  run1 Tryd.prog Z (Instr.fieldAt 47 t4_1 0) w fun t16_5 w =>
  run1 Tryd.prog Z (Instr.loadAt 31 t16_5) w fun t17_6 w =>
  CallV Tryd.prog Z 52 #[t17_6] w fun t18_7 w =>
  CallV Tryd.prog Z 51 #[x0, t18_7] w fun t19_8 w =>
  ∃ J_9 : Nat → Value → Value → World → Prop, (∃ m, J_9 m t19_8 (Value.int IntKind.i64 0) w) ∧
    ∀ m_9, ∀ t0_10 : Value, ∀ t8_11 : Value, ∀ w : World, J_9 m_9 t0_10 t8_11 w → Env →
      run1 Tryd.prog Z (Builtin.len_ #[9] 3 #[t14_4]) w fun t22_12 w =>
      run1 Tryd.prog Z (binOp BinOp.lss 3 t8_11 t22_12) w fun t23_13 w =>
      CondV t23_13 (
        ∀ j_14 : Value → World → Prop, (∀ t0_15 : Value, ∀ w : World, (Env →
            run1 Tryd.prog Z (binOp BinOp.add 3 t8_11 (Value.int IntKind.i64 1)) w fun t25_16 w =>
            ∃ n_9, n_9 < m_9 ∧ J_9 n_9 t0_15 t25_16 w) →
            j_14 t0_15 w) →
        run1 Tryd.prog Z (Instr.index 9 t14_4 t8_11) w fun t28_17 w =>
        run1 Tryd.prog Z (eqOp BinOp.eql 5 false true t28_17 (Value.int IntKind.u8 112)) w fun t30_18 w =>
        CondV t30_18 (
          run1 Tryd.prog Z (Instr.fieldAt 47 t4_1 1) w fun t32_19 w =>
          run1 Tryd.prog Z (Instr.loadAt 9 t32_19) w fun t33_20 w =>
          CallV Tryd.prog Z 85 #[t33_20] w fun t34_21 w =>
          CallV Tryd.prog Z 51 #[t0_10, t34_21] w fun t35_22 w =>
          j_14 t35_22 w) (
          run1 Tryd.prog Z (eqOp BinOp.eql 5 false true t28_17 (Value.int IntKind.u8 100)) w fun t37_23 w =>
          CondV t37_23 (
            run1 Tryd.prog Z (Instr.fieldAt 47 t4_1 2) w fun t39_24 w =>
            run1 Tryd.prog Z (Instr.loadAt 42 t39_24) w fun t40_25 w =>
            CallV Tryd.prog Z 86 #[t40_25] w fun t41_26 w =>
            CallV Tryd.prog Z 51 #[t0_10, t41_26] w fun t42_27 w =>
            j_14 t42_27 w) (
            run1 Tryd.prog Z (eqOp BinOp.eql 5 false true t28_17 (Value.int IntKind.u8 97)) w fun t44_28 w =>
            CondV t44_28 (
              run1 Tryd.prog Z (Instr.fieldAt 47 t4_1 3) w fun t46_29 w =>
              run1 Tryd.prog Z (Instr.loadAt 43 t46_29) w fun t47_30 w =>
              run1 Tryd.prog Z (Builtin.len_ #[43] 3 #[t47_30]) w fun t48_31 w =>
              run1 Tryd.prog Z (convert 3 21 t48_31) w fun t49_32 w =>
              CallV Tryd.prog Z 87 #[t49_32] w fun t50_33 w =>
              CallV Tryd.prog Z 51 #[t0_10, t50_33] w fun t51_34 w =>
              ∃ J_35 : Nat → Value → Value → World → Prop, (∃ m, J_35 m t51_34 (Value.int IntKind.i64 0) w) ∧
                ∀ m_35, ∀ t0_36 : Value, ∀ t9_37 : Value, ∀ w : World, J_35 m_35 t0_36 t9_37 w → Env →
                  run1 Tryd.prog Z (Instr.fieldAt 47 t4_1 3) w fun t53_38 w =>
                  run1 Tryd.prog Z (Instr.loadAt 43 t53_38) w fun t54_39 w =>
                  run1 Tryd.prog Z (Builtin.len_ #[43] 3 #[t54_39]) w fun t55_40 w =>
                  run1 Tryd.prog Z (binOp BinOp.lss 3 t9_37 t55_40) w fun t56_41 w =>
                  CondV t56_41 (
                    run1 Tryd.prog Z (Instr.fieldAt 47 t4_1 3) w fun t60_42 w =>
                    run1 Tryd.prog Z (Instr.loadAt 43 t60_42) w fun t61_43 w =>
                    run1 Tryd.prog Z (Instr.indexAt 43 t61_43 t9_37) w fun t63_44 w =>
                    run1 Tryd.prog Z (Instr.fieldAt 116 t63_44 0) w fun t64_45 w =>
                    run1 Tryd.prog Z (Instr.loadAt 31 t64_45) w fun t65_46 w =>
                    CallV Tryd.prog Z 52 #[t65_46] w fun t66_47 w =>
                    CallV Tryd.prog Z 51 #[t0_36, t66_47] w fun t67_48 w =>
                    run1 Tryd.prog Z (Instr.fieldAt 47 t4_1 3) w fun t69_49 w =>
                    run1 Tryd.prog Z (Instr.loadAt 43 t69_49) w fun t70_50 w =>
                    run1 Tryd.prog Z (Instr.indexAt 43 t70_50 t9_37) w fun t72_51 w =>
                    run1 Tryd.prog Z (Instr.fieldAt 116 t72_51 1) w fun t73_52 w =>
                    run1 Tryd.prog Z (Instr.loadAt 114 t73_52) w fun t74_53 w =>
                    CallV Tryd.prog Z 88 #[t67_48, t74_53] w fun t75_54 w =>
                    run1 Tryd.prog Z (binOp BinOp.add 3 t9_37 (Value.int IntKind.i64 1)) w fun t58_55 w =>
                    ∃ n_35, n_35 < m_35 ∧ J_35 n_35 t75_54 t58_55 w) (
                    j_14 t0_36 w)) (
              run1 Tryd.prog Z (eqOp BinOp.eql 5 false true t28_17 (Value.int IntKind.u8 118)) w fun t77_56 w =>
              CondV t77_56 (
                run1 Tryd.prog Z (Instr.fieldAt 47 t4_1 4) w fun t79_57 w =>
                run1 Tryd.prog Z (Instr.loadAt 21 t79_57) w fun t80_58 w =>
                CallV Tryd.prog Z 87 #[t80_58] w fun t81_59 w =>
                CallV Tryd.prog Z 51 #[t0_10, t81_59] w fun t82_60 w =>
                j_14 t82_60 w) (
                run1 Tryd.prog Z (eqOp BinOp.eql 5 false true t28_17 (Value.int IntKind.u8 102)) w fun t84_61 w =>
                CondV t84_61 (
                  run1 Tryd.prog Z (Instr.fieldAt 47 t4_1 5) w fun t86_62 w =>
                  run1 Tryd.prog Z (Instr.loadAt 4 t86_62) w fun t87_63 w =>
                  CallV Tryd.prog Z 89 #[t87_63] w fun t88_64 w =>
                  CallV Tryd.prog Z 51 #[t0_10, t88_64] w fun t89_65 w =>
                  run1 Tryd.prog Z (Instr.fieldAt 47 t4_1 6) w fun t91_66 w =>
                  run1 Tryd.prog Z (Instr.loadAt 4 t91_66) w fun t92_67 w =>
                  CallV Tryd.prog Z 89 #[t92_67] w fun t93_68 w =>
                  CallV Tryd.prog Z 51 #[t89_65, t93_68] w fun t94_69 w =>
                  j_14 t94_69 w) (
                  run1 Tryd.prog Z (eqOp BinOp.eql 5 false true t28_17 (Value.int IntKind.u8 115)) w fun t96_70 w =>
                  CondV t96_70 (
                    run1 Tryd.prog Z (Op.unary UnOp.not x2) w fun t98_71 w =>
                    CondV t98_71 (
                      run1 Tryd.prog Z (Instr.fieldAt 47 t4_1 7) w fun t100_72 w =>
                      run1 Tryd.prog Z (Instr.loadAt 2 t100_72) w fun t101_73 w =>
                      CallV Tryd.prog Z 53 #[t101_73] w fun t102_74 w =>
                      CallV Tryd.prog Z 51 #[t0_10, t102_74] w fun t103_75 w =>
                      j_14 t103_75 w) (
                      j_14 t0_10 w)) (
                    run1 Tryd.prog Z (eqOp BinOp.eql 5 false true t28_17 (Value.int IntKind.u8 116)) w fun t105_76 w =>
                    CondV t105_76 (
                      run1 Tryd.prog Z (Instr.fieldAt 47 t4_1 8) w fun t107_77 w =>
                      run1 Tryd.prog Z (Instr.loadAt 21 t107_77) w fun t108_78 w =>
                      CallV Tryd.prog Z 87 #[t108_78] w fun t109_79 w =>
                      CallV Tryd.prog Z 51 #[t0_10, t109_79] w fun t110_80 w =>
                      j_14 t110_80 w) (
                      run1 Tryd.prog Z (eqOp BinOp.eql 5 false true t28_17 (Value.int IntKind.u8 119)) w fun t112_81 w =>
                      CondV t112_81 (
                        run1 Tryd.prog Z (Op.unary UnOp.not x2) w fun t114_82 w =>
                        CondV t114_82 (
                          run1 Tryd.prog Z (Instr.fieldAt 47 t4_1 9) w fun t116_83 w =>
                          run1 Tryd.prog Z (Instr.loadAt 44 t116_83) w fun t117_84 w =>
                          run1 Tryd.prog Z (Builtin.len_ #[44] 3 #[t117_84]) w fun t118_85 w =>
                          run1 Tryd.prog Z (convert 3 21 t118_85) w fun t119_86 w =>
                          CallV Tryd.prog Z 87 #[t119_86] w fun t120_87 w =>
                          CallV Tryd.prog Z 51 #[t0_10, t120_87] w fun t121_88 w =>
                          ∃ J_89 : Nat → Value → Value → World → Prop, (∃ m, J_89 m t121_88 (Value.int IntKind.i64 0) w) ∧
                            ∀ m_89, ∀ t0_90 : Value, ∀ t10_91 : Value, ∀ w : World, J_89 m_89 t0_90 t10_91 w → Env →
                              run1 Tryd.prog Z (Instr.fieldAt 47 t4_1 9) w fun t123_92 w =>
                              run1 Tryd.prog Z (Instr.loadAt 44 t123_92) w fun t124_93 w =>
                              run1 Tryd.prog Z (Builtin.len_ #[44] 3 #[t124_93]) w fun t125_94 w =>
                              run1 Tryd.prog Z (binOp BinOp.lss 3 t10_91 t125_94) w fun t126_95 w =>
                              CondV t126_95 (
                                run1 Tryd.prog Z (Instr.fieldAt 47 t4_1 9) w fun t130_96 w =>
                                run1 Tryd.prog Z (Instr.loadAt 44 t130_96) w fun t131_97 w =>
                                run1 Tryd.prog Z (Instr.indexAt 44 t131_97 t10_91) w fun t133_98 w =>
                                run1 Tryd.prog Z (Instr.loadAt 114 t133_98) w fun t134_99 w =>
                                CallV Tryd.prog Z 88 #[t0_90, t134_99] w fun t135_100 w =>
                                run1 Tryd.prog Z (binOp BinOp.add 3 t10_91 (Value.int IntKind.i64 1)) w fun t128_101 w =>
                                ∃ n_89, n_89 < m_89 ∧ J_89 n_89 t135_100 t128_101 w) (
                                j_14 t0_90 w)) (
                          j_14 t0_10 w)) (
                        run1 Tryd.prog Z (eqOp BinOp.eql 5 false true t28_17 (Value.int IntKind.u8 111)) w fun t137_102 w =>
                        CondV t137_102 (
                          run1 Tryd.prog Z (Instr.fieldAt 47 t4_1 10) w fun t139_103 w =>
                          run1 Tryd.prog Z (Instr.loadAt 45 t139_103) w fun t140_104 w =>
                          run1 Tryd.prog Z (Builtin.len_ #[45] 3 #[t140_104]) w fun t141_105 w =>
                          run1 Tryd.prog Z (convert 3 21 t141_105) w fun t142_106 w =>
                          CallV Tryd.prog Z 87 #[t142_106] w fun t143_107 w =>
                          CallV Tryd.prog Z 51 #[t0_10, t143_107] w fun t144_108 w =>
                          ∃ J_109 : Nat → Value → Value → World → Prop, (∃ m, J_109 m t144_108 (Value.int IntKind.i64 0) w) ∧
                            ∀ m_109, ∀ t0_110 : Value, ∀ t11_111 : Value, ∀ w : World, J_109 m_109 t0_110 t11_111 w → Env →
                              run1 Tryd.prog Z (Instr.fieldAt 47 t4_1 10) w fun t146_112 w =>
                              run1 Tryd.prog Z (Instr.loadAt 45 t146_112) w fun t147_113 w =>
                              run1 Tryd.prog Z (Builtin.len_ #[45] 3 #[t147_113]) w fun t148_114 w =>
                              run1 Tryd.prog Z (binOp BinOp.lss 3 t11_111 t148_114) w fun t149_115 w =>
                              CondV t149_115 (
                                run1 Tryd.prog Z (Instr.fieldAt 47 t4_1 10) w fun t153_116 w =>
                                run1 Tryd.prog Z (Instr.loadAt 45 t153_116) w fun t154_117 w =>
                                run1 Tryd.prog Z (Instr.indexAt 45 t154_117 t11_111) w fun t156_118 w =>
                                run1 Tryd.prog Z (Instr.loadAt 47 t156_118) w fun t157_119 w =>
                                CallV Tryd.prog Z 54 #[t0_110, t157_119, (Value.bool true)] w fun t158_120 w =>
                                run1 Tryd.prog Z (binOp BinOp.add 3 t11_111 (Value.int IntKind.i64 1)) w fun t151_121 w =>
                                ∃ n_109, n_109 < m_109 ∧ J_109 n_109 t158_120 t151_121 w) (
                                j_14 t0_110 w)) (
                          j_14 t0_10 w)))))))))) (
        Q t0_10 w)
noncomputable def f54.code : Code := match Tryd.f54.body with | some c => c | none => .skip
def f54.an : An := (.sq .leaf (.sq .leaf (.sq .leaf (.sq (.sq .leaf (.bl (.lp [0, 8] [0, 8, 9, 10, 11, 20, 21, 22, 23, 24, 25, 26, 27, 28, 29, 30, 31, 32, 33, 34, 35, 36, 37, 38, 39, 40, 41, 42, 43, 44, 45, 46, 47, 48, 49, 50, 51, 52, 53, 54, 55, 56, 57, 58, 59, 60, 61, 62, 63, 64, 65, 66, 67, 68, 69, 70, 71, 72, 73, 74, 75, 76, 77, 78, 79, 80, 81, 82, 83, 84, 85, 86, 87, 88, 89, 90, 91, 92, 93, 94, 95, 96, 97, 98, 99, 100, 101, 102, 103, 104, 105, 106, 107, 108, 109, 110, 111, 112, 113, 114, 115, 116, 117, 118, 119, 120, 121, 122, 123, 124, 125, 126, 127, 128, 129, 130, 131, 132, 133, 134, 135, 136, 137, 138, 139, 140, 141, 142, 143, 144, 145, 146, 147, 148, 149, 150, 151, 152, 153, 154, 155, 156, 157, 158] (.sq (.sq .leaf (.cn .leaf .leaf)) (.sj [0] [0, 9, 10, 11, 26, 27, 28, 29, 30, 31, 32, 33, 34, 35, 36, 37, 38, 39, 40, 41, 42, 43, 44, 45, 46, 47, 48, 49, 50, 51, 52, 53, 54, 55, 56, 57, 58, 59, 60, 61, 62, 63, 64, 65, 66, 67, 68, 69, 70, 71, 72, 73, 74, 75, 76, 77, 78, 79, 80, 81, 82, 83, 84, 85, 86, 87, 88, 89, 90, 91, 92, 93, 94, 95, 96, 97, 98, 99, 100, 101, 102, 103, 104, 105, 106, 107, 108, 109, 110, 111, 112, 113, 114, 115, 116, 117, 118, 119, 120, 121, 122, 123, 124, 125, 126, 127, 128, 129, 130, 131, 132, 133, 134, 135, 136, 137, 138, 139, 140, 141, 142, 143, 144, 145, 146, 147, 148, 149, 150, 151, 152, 153, 154, 155, 156, 157, 158] (.bl (.sq .leaf (.bl (.sq .leaf (.cn .leaf (.sq .leaf (.cn .leaf (.sq .leaf (.cn (.sq .leaf (.sq .leaf (.bl (.lp [0, 9] [0, 9, 52, 53, 54, 55, 56, 57, 58, 59, 60, 61, 62, 63, 64, 65, 66, 67, 68, 69, 70, 71, 72, 73, 74, 75] (.sq (.sq .leaf (.cn .leaf .leaf)) (.sq (.bl (.sq .leaf .leaf)) .leaf)))))) (.sq .leaf (.cn .leaf (.sq .leaf (.cn (.sq .leaf .leaf) (.sq .leaf (.cn (.sq .leaf (.cn .leaf .leaf)) (.sq .leaf (.cn .leaf (.sq .leaf (.cn (.sq .leaf (.cn (.sq .leaf (.sq .leaf (.bl (.lp [0, 10] [0, 10, 122, 123, 124, 125, 126, 127, 128, 129, 130, 131, 132, 133, 134, 135] (.sq (.sq .leaf (.cn .leaf .leaf)) (.sq (.bl .leaf) .leaf)))))) .leaf)) (.sq .leaf (.cn (.sq .leaf (.sq .leaf (.bl (.lp [0, 11] [0, 11, 145, 146, 147, 148, 149, 150, 151, 152, 153, 154, 155, 156, 157, 158] (.sq (.sq .leaf (.cn .leaf .leaf)) (.sq (.bl .leaf) .leaf)))))) .leaf))))))))))))))))))))) .leaf))))) (.sq .leaf .leaf)))))
theorem f54.body_eq : Tryd.f54.body = some f54.code := by kernel_rfl
theorem f54.shape (Z : List PanicEntry → World → Prop) (x0 x1 x2 : Value) (w : World) (Q : Value → World → Prop) : vc drawD Tryd.prog 160 Z [84, 52, 51, 85, 86, 87, 88, 89, 53, 54] f54.an f54.code (fnQ Tryd.prog 160 Tryd.f54.results Q) (argEnv [x0, x1, x2]) w = f54.sh Z x0 x1 x2 w Q := by kernel_rfl
theorem f54.enters : ∀ f, f ∈ ([84, 52, 51, 85, 86, 87, 88, 89, 53, 54] : List Nat) → Enters Tryd.prog f := by
  intro f hf
  simp only [List.mem_cons, List.not_mem_nil, or_false] at hf
  rcases hf with rfl | rfl | rfl | rfl | rfl | rfl | rfl | rfl | rfl | rfl
  · exact en84
  · exact en52
  · exact en51
  · exact en85
  · exact en86
  · exact en87
  · exact en88
  · exact en89
  · exact en53
  · exact en54
theorem f54.calls {Z : List PanicEntry → World → Prop} {x0 x1 x2 : Value} {w : World} {Q : Value → World → Prop} (h : f54.sh Z x0 x1 x2 w Q) : CallV Tryd.prog Z 54 #[x0, x1, x2] w Q :=
  calls_of_vcn drawD_sound (Q := Q) (n := 160) (rs := Tryd.f54.results) (an := f54.an) (c := f54.code) (cal := [84, 52, 51, 85, 86, 87, 88, 89, 53, 54]) (args := [x0, x1, x2]) Tryd.func54 (by kernel_rfl) rfl f54.body_eq follows (Nat.le_of_ble_eq_true (by kernel_rfl)) (enters_of_all f54.enters) ((f54.shape Z x0 x1 x2 w Q).mpr h)

/-! ### 55: lagoon/lagoonref00.SpareBytes -/
def f55.sh (Z : List PanicEntry → World → Prop) (x0 : Value) (w : World) (Q : Value → World → Prop) : Prop :=
  run1 Tryd.prog Z (Builtin.len_ #[42] 3 #[x0]) w fun t7_1 w =>
  run1 Tryd.prog Z (binOp BinOp.add 3 t7_1 (Value.int IntKind.i64 64)) w fun t8_2 w =>
  run1 Tryd.prog Z (Instr.sliceAt 42 x0 none (some t8_2) none) w fun t9_3 w =>
  run1 Tryd.prog Z (Builtin.len_ #[42] 3 #[x0]) w fun t11_4 w =>
  ∃ J_5 : Nat → Value → World → Prop, (∃ m, J_5 m t11_4 w) ∧
    ∀ m_5, ∀ t4_6 : Value, ∀ w : World, J_5 m_5 t4_6 w → Env →
      run1 Tryd.prog Z (Builtin.len_ #[42] 3 #[t9_3]) w fun t14_7 w =>
      run1 Tryd.prog Z (binOp BinOp.lss 3 t4_6 t14_7) w fun t15_8 w =>
      CondV t15_8 (
        run1 Tryd.prog Z (Instr.indexAt 42 t9_3 t4_6) w fun t20_9 w =>
        run1 Tryd.prog Z (Instr.loadAt 5 t20_9) w fun t21_10 w =>
        run1 Tryd.prog Z (binOp BinOp.rem 3 t4_6 (Value.int IntKind.i64 5)) w fun t23_11 w =>
        run1 Tryd.prog Z (binOp BinOp.add 3 (Value.int IntKind.i64 170) t23_11) w fun t24_12 w =>
        run1 Tryd.prog Z (convert 3 5 t24_12) w fun t25_13 w =>
        run1 Tryd.prog Z (eqOp BinOp.neq 5 false false t21_10 t25_13) w fun t26_14 w =>
        CondV t26_14 (
          Q (Value.bool false) w) (
          run1 Tryd.prog Z (binOp BinOp.add 3 t4_6 (Value.int IntKind.i64 1)) w fun t17_15 w =>
          ∃ n_5, n_5 < m_5 ∧ J_5 n_5 t17_15 w)) (
        Q (Value.bool true) w)
noncomputable def f55.code : Code := match Tryd.f55.body with | some c => c | none => .skip
def f55.an : An := (.sq .leaf (.sq .leaf (.sq (.sq .leaf (.bl (.lp [4] [2, 4, 12, 13, 14, 15, 16, 17, 18, 19, 20, 21, 22, 23, 24, 25, 26] (.sq (.sq .leaf (.cn .leaf .leaf)) (.sq (.bl (.sq .leaf (.cn (.sq .leaf .leaf) .leaf))) .leaf))))) (.sq .leaf .leaf))))
theorem f55.body_eq : Tryd.f55.body = some f55.code := by kernel_rfl
theorem f55.shape (Z : List PanicEntry → World → Prop) (x0 : Value) (w : World) (Q : Value → World → Prop) : vc drawD Tryd.prog 27 Z [] f55.an f55.code (fnQ Tryd.prog 27 Tryd.f55.results Q) (argEnv [x0]) w = f55.sh Z x0 w Q := by kernel_rfl
theorem f55.enters : ∀ f, f ∈ ([] : List Nat) → Enters Tryd.prog f := by
  intro f hf
  cases hf
theorem f55.calls {Z : List PanicEntry → World → Prop} {x0 : Value} {w : World} {Q : Value → World → Prop} (h : f55.sh Z x0 w Q) : CallV Tryd.prog Z 55 #[x0] w Q :=
  calls_of_vcn drawD_sound (Q := Q) (n := 27) (rs := Tryd.f55.results) (an := f55.an) (c := f55.code) (cal := []) (args := [x0]) Tryd.func55 (by kernel_rfl) rfl f55.body_eq follows (Nat.le_of_ble_eq_true (by kernel_rfl)) (enters_of_all f55.enters) ((f55.shape Z x0 w Q).mpr h)

/-! ### 56: lagoon/lagoonref00.SpareAcl -/
def f56.sh (Z : List PanicEntry → World → Prop) (x0 : Value) (w : World) (Q : Value → World → Prop) : Prop :=
  run1 Tryd.prog Z (Builtin.len_ #[43] 3 #[x0]) w fun t7_1 w =>
  run1 Tryd.prog Z (binOp BinOp.add 3 t7_1 (Value.int IntKind.i64 64)) w fun t8_2 w =>
  run1 Tryd.prog Z (Instr.sliceAt 43 x0 none (some t8_2) none) w fun t9_3 w =>
  run1 Tryd.prog Z (Builtin.len_ #[43] 3 #[x0]) w fun t11_4 w =>
  ∃ J_5 : Nat → Value → World → Prop, (∃ m, J_5 m t11_4 w) ∧
    ∀ m_5, ∀ t4_6 : Value, ∀ w : World, J_5 m_5 t4_6 w → Env →
      run1 Tryd.prog Z (Builtin.len_ #[43] 3 #[t9_3]) w fun t14_7 w =>
      run1 Tryd.prog Z (binOp BinOp.lss 3 t4_6 t14_7) w fun t15_8 w =>
      CondV t15_8 (
        Drawn w fun w =>
        Pure1 Tryd.prog (Instr.indexAt 43 t9_3 t4_6) fun t20_9 =>
        Pure1 Tryd.prog (Instr.fieldAt 116 t20_9 1) fun t21_10 =>
        Pure1 Tryd.prog (Instr.fieldAt 114 t21_10 1) fun t22_11 =>
        Read1 Tryd.prog (Instr.loadAt 9 t22_11) w fun t23_12 =>
        Pure1 Tryd.prog (binOp BinOp.sub 3 (Value.int IntKind.i64 (-3000000)) t4_6) fun t25_13 =>
        CallV Tryd.prog Z 90 #[t25_13] w fun t26_14 w =>
          Still Tryd.prog (nx (Instr.loadAt 9 t22_11)) t23_12 w <|
        Pure1 Tryd.prog (eqOp BinOp.eql 9 false false t23_12 t26_14) fun t27_15 =>
        Pure1 Tryd.prog (Op.unary UnOp.not t27_15) fun t28_16 =>
        CondV t28_16 (
          Q (Value.bool false) w) (
          run1 Tryd.prog Z (binOp BinOp.add 3 t4_6 (Value.int IntKind.i64 1)) w fun t17_17 w =>
          ∃ n_5, n_5 < m_5 ∧ J_5 n_5 t17_17 w)) (
        Q (Value.bool true) w)
noncomputable def f56.code : Code := match Tryd.f56.body with | some c => c | none => .skip
def f56.an : An := (.sq .leaf (.sq .leaf (.sq (.sq .leaf (.bl (.lp [4] [2, 4, 12, 13, 14, 15, 16, 17, 18, 19, 20, 21, 22, 23, 24, 25, 26, 27, 28] (.sq (.sq .leaf (.cn .leaf .leaf)) (.sq (.bl (.sq (.dr (.take 0 false (.take 1 false (.take 2 false (.take 3 false (.take 4 false (.take 5 true (.take 6 false (.take 7 false (.one 8 (.take 9 false (.take 10 false .fin)))))))))))) (.cn (.sq .leaf .leaf) .leaf))) .leaf))))) (.sq .leaf .leaf))))
theorem f56.body_eq : Tryd.f56.body = some f56.code := by kernel_rfl
theorem f56.shape (Z : List PanicEntry → World → Prop) (x0 : Value) (w : World) (Q : Value → World → Prop) : vc drawD Tryd.prog 29 Z [90] f56.an f56.code (fnQ Tryd.prog 29 Tryd.f56.results Q) (argEnv [x0]) w = f56.sh Z x0 w Q := by kernel_rfl
theorem f56.enters : ∀ f, f ∈ ([90] : List Nat) → Enters Tryd.prog f := by
  intro f hf
  simp only [List.mem_cons, List.not_mem_nil, or_false] at hf
  rcases hf with rfl
  · exact en90
theorem f56.calls {Z : List PanicEntry → World → Prop} {x0 : Value} {w : World} {Q : Value → World → Prop} (h : f56.sh Z x0 w Q) : CallV Tryd.prog Z 56 #[x0] w Q :=
  calls_of_vcn drawD_sound (Q := Q) (n := 29) (rs := Tryd.f56.results) (an := f56.an) (c := f56.code) (cal := [90]) (args := [x0]) Tryd.func56 (by kernel_rfl) rfl f56.body_eq follows (Nat.le_of_ble_eq_true (by kernel_rfl)) (enters_of_all f56.enters) ((f56.shape Z x0 w Q).mpr h)

/-! ### 57: lagoon/lagoonref00.SpareIds -/
def f57.sh (Z : List PanicEntry → World → Prop) (x0 : Value) (w : World) (Q : Value → World → Prop) : Prop :=
  run1 Tryd.prog Z (Builtin.len_ #[44] 3 #[x0]) w fun t7_1 w =>
  run1 Tryd.prog Z (binOp BinOp.add 3 t7_1 (Value.int IntKind.i64 64)) w fun t8_2 w =>
  run1 Tryd.prog Z (Instr.sliceAt 44 x0 none (some t8_2) none) w fun t9_3 w =>
  run1 Tryd.prog Z (Builtin.len_ #[44] 3 #[x0]) w fun t11_4 w =>
  ∃ J_5 : Nat → Value → World → Prop, (∃ m, J_5 m t11_4 w) ∧
    ∀ m_5, ∀ t4_6 : Value, ∀ w : World, J_5 m_5 t4_6 w → Env →
      run1 Tryd.prog Z (Builtin.len_ #[44] 3 #[t9_3]) w fun t14_7 w =>
      run1 Tryd.prog Z (binOp BinOp.lss 3 t4_6 t14_7) w fun t15_8 w =>
      CondV t15_8 (
        Drawn w fun w =>
        Pure1 Tryd.prog (Instr.indexAt 44 t9_3 t4_6) fun t20_9 =>
        Pure1 Tryd.prog (Instr.fieldAt 114 t20_9 1) fun t21_10 =>
        Read1 Tryd.prog (Instr.loadAt 9 t21_10) w fun t22_11 =>
        Pure1 Tryd.prog (binOp BinOp.sub 3 (Value.int IntKind.i64 (-3000000)) t4_6) fun t24_12 =>
        CallV Tryd.prog Z 90 #[t24_12] w fun t25_13 w =>
          Still Tryd.prog (nx (Instr.loadAt 9 t21_10)) t22_11 w <|
        Pure1 Tryd.prog (eqOp BinOp.eql 9 false false t22_11 t25_13) fun t26_14 =>
        Pure1 Tryd.prog (Op.unary UnOp.not t26_14) fun t27_15 =>
        CondV t27_15 (
          Q (Value.bool false) w) (
          run1 Tryd.prog Z (binOp BinOp.add 3 t4_6 (Value.int IntKind.i64 1)) w fun t17_16 w =>
          ∃ n_5, n_5 < m_5 ∧ J_5 n_5 t17_16 w)) (
        Q (Value.bool true) w)
noncomputable def f57.code : Code := match Tryd.f57.body with | some c => c | none => .skip
def f57.an : An := (.sq .leaf (.sq .leaf (.sq (.sq .leaf (.bl (.lp [4] [2, 4, 12, 13, 14, 15, 16, 17, 18, 19, 20, 21, 22, 23, 24, 25, 26, 27] (.sq (.sq .leaf (.cn .leaf .leaf)) (.sq (.bl (.sq (.dr (.take 0 false (.take 1 false (.take 2 false (.take 3 false (.take 4 true (.take 5 false (.take 6 false (.one 7 (.take 8 false (.take 9 false .fin))))))))))) (.cn (.sq .leaf .leaf) .leaf))) .leaf))))) (.sq .leaf .leaf))))
theorem f57.body_eq : Tryd.f57.body = some f57.code := by kernel_rfl
theorem f57.shape (Z : List PanicEntry → World → Prop) (x0 : Value) (w : World) (Q : Value → World → Prop) : vc drawD Tryd.prog 28 Z [90] f57.an f57.code (fnQ Tryd.prog 28 Tryd.f57.results Q) (argEnv [x0]) w = f57.sh Z x0 w Q := by kernel_rfl
theorem f57.enters : ∀ f, f ∈ ([90] : List Nat) → Enters Tryd.prog f := by
  intro f hf
  simp only [List.mem_cons, List.not_mem_nil, or_false] at hf
  rcases hf with rfl
  · exact en90
theorem f57.calls {Z : List PanicEntry → World → Prop} {x0 : Value} {w : World} {Q : Value → World → Prop} (h : f57.sh Z x0 w Q) : CallV Tryd.prog Z 57 #[x0] w Q :=
  calls_of_vcn drawD_sound (Q := Q) (n := 28) (rs := Tryd.f57.results) (an := f57.an) (c := f57.code) (cal := [90]) (args := [x0]) Tryd.func57 (by kernel_rfl) rfl f57.body_eq follows (Nat.le_of_ble_eq_true (by kernel_rfl)) (enters_of_all f57.enters) ((f57.shape Z x0 w Q).mpr h)

/-! ### 58: lagoon/lagoonref00.SpareRequests -/
def f58.sh (Z : List PanicEntry → World → Prop) (x0 : Value) (w : World) (Q : Value → World → Prop) : Prop :=
  run1 Tryd.prog Z (Builtin.len_ #[45] 3 #[x0]) w fun t9_1 w =>
  run1 Tryd.prog Z (binOp BinOp.add 3 t9_1 (Value.int IntKind.i64 64)) w fun t10_2 w =>
  run1 Tryd.prog Z (Instr.sliceAt 45 x0 none (some t10_2) none) w fun t11_3 w =>
  run1 Tryd.prog Z (Builtin.len_ #[45] 3 #[x0]) w fun t13_4 w =>
  ∃ J_5 : Nat → Value → World → Prop, (∃ m, J_5 m t13_4 w) ∧
    ∀ m_5, ∀ t4_6 : Value, ∀ w : World, J_5 m_5 t4_6 w → Env →
      run1 Tryd.prog Z (Builtin.len_ #[45] 3 #[t11_3]) w fun t16_7 w =>
      run1 Tryd.prog Z (binOp BinOp.lss 3 t4_6 t16_7) w fun t17_8 w =>
      CondV t17_8 (
        run1 Tryd.prog Z (Instr.indexAt 45 t11_3 t4_6) w fun t22_9 w =>
        run1 Tryd.prog Z (Instr.fieldAt 47 t22_9 7) w fun t23_10 w =>
        run1 Tryd.prog Z (Instr.loadAt 2 t23_10) w fun t24_11 w =>
        run1 Tryd.prog Z (binOp BinOp.sub 3 (Value.int IntKind.i64 (-3000000)) t4_6) w fun t26_12 w =>
        run1 Tryd.prog Z (eqOp BinOp.eql 2 false false t24_11 t26_12) w fun t27_13 w =>
        run1 Tryd.prog Z (Op.unary UnOp.not t27_13) w fun t28_14 w =>
        CondV t28_14 (
          Q (Value.bool false) w) (
          run1 Tryd.prog Z (binOp BinOp.add 3 t4_6 (Value.int IntKind.i64 1)) w fun t19_15 w =>
          ∃ n_5, n_5 < m_5 ∧ J_5 n_5 t19_15 w)) (
        ∃ J_16 : Nat → Value → World → Prop, (∃ m, J_16 m (Value.int IntKind.i64 0) w) ∧
          ∀ m_16, ∀ t5_17 : Value, ∀ w : World, J_16 m_16 t5_17 w → Env →
            run1 Tryd.prog Z (Builtin.len_ #[45] 3 #[x0]) w fun t31_18 w =>
            run1 Tryd.prog Z (binOp BinOp.lss 3 t5_17 t31_18) w fun t32_19 w =>
            CondV t32_19 (
              run1 Tryd.prog Z (Instr.indexAt 45 x0 t5_17) w fun t37_20 w =>
              run1 Tryd.prog Z (Instr.loadAt 47 t37_20) w fun t38_21 w =>
              CallV Tryd.prog Z 36 #[t38_21] w fun t39_22 w =>
              run1 Tryd.prog Z (Op.unary UnOp.not t39_22) w fun t41_23 w =>
              CondV t41_23 (
                Q (Value.bool false) w) (
                run1 Tryd.prog Z (binOp BinOp.add 3 t5_17 (Value.int IntKind.i64 1)) w fun t34_24 w =>
                ∃ n_16, n_16 < m_16 ∧ J_16 n_16 t34_24 w)) (
              Q (Value.bool true) w))
noncomputable def f58.code : Code := match Tryd.f58.body with | some c => c | none => .skip
def f58.an : An := (.sq .leaf (.sq .leaf (.sq (.sq .leaf (.bl (.lp [4] [2, 4, 14, 15, 16, 17, 18, 19, 20, 21, 22, 23, 24, 25, 26, 27, 28] (.sq (.sq .leaf (.cn .leaf .leaf)) (.sq (.bl (.sq .leaf (.cn (.sq .leaf .leaf) .leaf))) .leaf))))) (.sq (.sq .leaf (.bl (.lp [5] [2, 5, 6, 29, 30, 31, 32, 33, 34, 35, 36, 37, 38, 39, 40, 41] (.sq (.sq .leaf (.cn .leaf .leaf)) (.sq (.bl (.sq .leaf (.sq .leaf (.cn (.sq .leaf .leaf) .leaf)))) .leaf))))) (.sq .leaf .leaf)))))
theorem f58.body_eq : Tryd.f58.body = some f58.code := by kernel_rfl
theorem f58.shape (Z : List PanicEntry → World → Prop) (x0 : Value) (w : World) (Q : Value → World → Prop) : vc drawD Tryd.prog 42 Z [36] f58.an f58.code (fnQ Tryd.prog 42 Tryd.f58.results Q) (argEnv [x0]) w = f58.sh Z x0 w Q := by kernel_rfl
theorem f58.enters : ∀ f, f ∈ ([36] : List Nat) → Enters Tryd.prog f := by
  intro f hf
  simp only [List.mem_cons, List.not_mem_nil, or_false] at hf
  rcases hf with rfl
  · exact en36
theorem f58.calls {Z : List PanicEntry → World → Prop} {x0 : Value} {w : World} {Q : Value → World → Prop} (h : f58.sh Z x0 w Q) : CallV Tryd.prog Z 58 #[x0] w Q :=
  calls_of_vcn drawD_sound (Q := Q) (n := 42) (rs := Tryd.f58.results) (an := f58.an) (c := f58.code) (cal := [36]) (args := [x0]) Tryd.func58 (by kernel_rfl) rfl f58.body_eq follows (Nat.le_of_ble_eq_true (by kernel_rfl)) (enters_of_all f58.enters) ((f58.shape Z x0 w Q).mpr h)

end Go.Proofs.YtoeamecdkimgaaaDoor
