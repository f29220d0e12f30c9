import Derived.Test.YtejenmcjfhdcdaaShBase
set_option linter.unusedVariables false
namespace Go.Proofs.Ytejenmcjfhdcdaa
open Go.Sh
/-! ### 2: gosem.cut.init -/
def f2.sh (Z : List PanicEntry → World → Prop) (w : World) (Q : Value → World → Prop) : Prop :=
  runX Try.prog Z (callFunc 1 #[]) w fun t0_1 w =>
  Q (Value.tuple #[]) w
noncomputable def f2.code : Code := match Try.f2.body with | some c => c | none => .skip
def f2.an : An := .leaf
theorem f2.body_eq : Try.f2.body = some f2.code := by kernel_rfl
theorem f2.shape (Z : List PanicEntry → World → Prop) (w : World) (Q : Value → World → Prop) : vc drawD Try.prog 1 Z [] f2.an f2.code (fnQ Try.prog 1 Try.f2.results Q) (argEnv []) w = f2.sh Z  w Q := by kernel_rfl
theorem f2.enters : ∀ f, f ∈ ([] : List Nat) → Enters Try.prog f := by
  intro f hf
  cases hf
theorem f2.calls {Z : List PanicEntry → World → Prop} {w : World} {Q : Value → World → Prop} (h : f2.sh Z  w Q) : CallV Try.prog Z 2 #[] w Q :=
  calls_of_vcn drawD_sound (Q := Q) (n := 1) (rs := Try.f2.results) (an := f2.an) (c := f2.code) (cal := []) (args := []) Try.func2 (by kernel_rfl) rfl f2.body_eq follows (Nat.le_of_ble_eq_true (by kernel_rfl)) (enters_of_all f2.enters) ((f2.shape Z  w Q).mpr h)

/-! ### 3: lagoon/lagoonlaw22.LinkOnce -/
def f3.sh (Z : List PanicEntry → World → Prop) (x0 x1 : Value) (w : World) (Q : Value → World → Prop) : Prop :=
  CallV Try.prog Z 6 #[] w fun t19_1 w =>
  ∃ J_2 : Nat → Value → World → Prop, (∃ m, J_2 m (Value.int IntKind.i64 0) w) ∧
    ∀ m_2, ∀ t6_3 : Value, ∀ w : World, J_2 m_2 t6_3 w → Env →
      run1 Try.prog Z (Builtin.len_ #[22] 3 #[x0]) w fun t22_4 w =>
      run1 Try.prog Z (binOp BinOp.lss 3 t6_3 t22_4) w fun t23_5 w =>
      guardW (t23_5) true (fun k => k (t6_3) w) (fun t25_6 w =>
      guardW (t23_5) true (fun k => run1 Try.prog Z (binOp BinOp.lss 3 t25_6 (Value.int IntKind.i64 40)) w k) (fun t26_7 w =>
      run1 Try.prog Z (pickV t23_5 t26_7 (Value.bool false)) w fun t27_8 w =>
      CondV t27_8 (
        run1 Try.prog Z (Instr.indexAt 22 x0 t6_3) w fun t32_9 w =>
        run1 Try.prog Z (Instr.loadAt 25 t32_9) w fun t33_10 w =>
        run1 Try.prog Z (Builtin.len_ #[25] 3 #[t33_10]) w fun t34_11 w =>
        run1 Try.prog Z (binOp BinOp.gtr 3 t34_11 (Value.int IntKind.i64 4194304)) w fun t35_12 w =>
        CondV t35_12 (
          Q t19_1 w) (
          run1 Try.prog Z (binOp BinOp.add 3 t6_3 (Value.int IntKind.i64 1)) w fun t29_13 w =>
          ∃ n_2, n_2 < m_2 ∧ J_2 n_2 t29_13 w)) (
        CallV Try.prog Z 7 #[(Value.int IntKind.i64 3)] w fun t38_14 w =>
        run1 Try.prog Z (Instr.extract t38_14 0) w fun t39_15 w =>
        run1 Try.prog Z (Instr.extract t38_14 1) w fun t40_16 w =>
        run1 Try.prog Z (eqOp BinOp.neq 27 false true t40_16 (Value.int IntKind.i64 0)) w fun t42_17 w =>
        guardW (t42_17) false (fun k => k (t39_15) w) (fun t44_18 w =>
        guardW (t42_17) false (fun k => run1 Try.prog Z (eqOp BinOp.eql 26 false true t44_18 (Value.pointer none)) w k) (fun t45_19 w =>
        run1 Try.prog Z (pickV t42_17 (Value.bool true) t45_19) w fun t46_20 w =>
        CondV t46_20 (
          Q (Value.bool false) w) (
          ∃ J_21 : Nat → Value → Value → World → Prop, (∃ m, J_21 m (Value.slice none 0 0) (Value.int IntKind.i64 0) w) ∧
            ∀ m_21, ∀ t9_22 : Value, ∀ t10_23 : Value, ∀ w : World, J_21 m_21 t9_22 t10_23 w → Env →
              run1 Try.prog Z (Builtin.len_ #[22] 3 #[x0]) w fun t49_24 w =>
              run1 Try.prog Z (binOp BinOp.lss 3 t10_23 t49_24) w fun t50_25 w =>
              guardW (t50_25) true (fun k => k (t10_23) w) (fun t52_26 w =>
              guardW (t50_25) true (fun k => run1 Try.prog Z (binOp BinOp.lss 3 t52_26 (Value.int IntKind.i64 40)) w k) (fun t53_27 w =>
              run1 Try.prog Z (pickV t50_25 t53_27 (Value.bool false)) w fun t54_28 w =>
              CondV t54_28 (
                ∀ j_29 : Value → World → Prop, (∀ t9_30 : Value, ∀ w : World, (Env →
                    run1 Try.prog Z (binOp BinOp.add 3 t10_23 (Value.int IntKind.i64 1)) w fun t56_31 w =>
                    ∃ n_21, n_21 < m_21 ∧ J_21 n_21 t9_30 t56_31 w) →
                    j_29 t9_30 w) →
                run1 Try.prog Z (Instr.indexAt 22 x0 t10_23) w fun t60_32 w =>
                run1 Try.prog Z (Instr.loadAt 25 t60_32) w fun t61_33 w =>
                CallV Try.prog Z 9 #[t61_33] w fun t62_34 w =>
                CallV Try.prog Z 8 #[t39_15, (Value.int IntKind.i8 2), (Value.int IntKind.i8 0), t62_34] w fun t63_35 w =>
                run1 Try.prog Z (eqOp BinOp.eql 27 false true t63_35 (Value.int IntKind.i64 0)) w fun t64_36 w =>
                CondV t64_36 (
                  run1 Try.prog Z (Instr.indexAt 22 x0 t10_23) w fun t68_37 w =>
                  run1 Try.prog Z (Instr.loadAt 25 t68_37) w fun t69_38 w =>
                  run1 Try.prog Z (Instr.buildSlice 22 1 #[(0, t69_38)]) w fun t70_39 w =>
                  run1 Try.prog Z (Builtin.append_ #[22, 22] 22 #[t9_22, t70_39]) w fun t71_40 w =>
                  j_29 t71_40 w) (
                  run1 Try.prog Z (Instr.indexAt 22 x0 t10_23) w fun t74_41 w =>
                  run1 Try.prog Z (Instr.loadAt 25 t74_41) w fun t75_42 w =>
                  run1 Try.prog Z (Builtin.len_ #[25] 3 #[t75_42]) w fun t76_43 w =>
                  run1 Try.prog Z (binOp BinOp.gtr 3 t76_43 (Value.int IntKind.i64 0)) w fun t77_44 w =>
                  guardW (t77_44) true (fun k => k (x0) w) (fun t79_45 w =>
                  guardW (t77_44) true (fun k => k (t10_23) w) (fun t80_46 w =>
                  guardW (t77_44) true (fun k => run1 Try.prog Z (Instr.indexAt 22 t79_45 t80_46) w k) (fun t81_47 w =>
                  guardW (t77_44) true (fun k => run1 Try.prog Z (Instr.loadAt 25 t81_47) w k) (fun t82_48 w =>
                  guardW (t77_44) true (fun k => run1 Try.prog Z (Builtin.len_ #[25] 3 #[t82_48]) w k) (fun t83_49 w =>
                  guardW (t77_44) true (fun k => run1 Try.prog Z (binOp BinOp.leq 3 t83_49 (Value.int IntKind.i64 8192)) w k) (fun t84_50 w =>
                  run1 Try.prog Z (pickV t77_44 t84_50 (Value.bool false)) w fun t85_51 w =>
                  CondV t85_51 (
                    Q (Value.bool false) w) (
                    j_29 t9_22 w)) w) w) w) w) w) w)) (
                ∃ J_52 : Nat → Value → Value → World → Prop, (∃ m, J_52 m t9_22 (Value.int IntKind.i64 0) w) ∧
                  ∀ m_52, ∀ t9_53 : Value, ∀ t11_54 : Value, ∀ w : World, J_52 m_52 t9_53 t11_54 w → Env →
                    run1 Try.prog Z (Builtin.len_ #[22] 3 #[t9_53]) w fun t87_55 w =>
                    run1 Try.prog Z (binOp BinOp.gtr 3 t87_55 (Value.int IntKind.i64 0)) w fun t88_56 w =>
                    CondV t88_56 (
                      ∀ j_57 : Value → World → Prop, (∀ t9_58 : Value, ∀ w : World, (Env →
                          run1 Try.prog Z (binOp BinOp.add 3 t11_54 (Value.int IntKind.i64 1)) w fun t90_59 w =>
                          ∃ n_52, n_52 < m_52 ∧ J_52 n_52 t9_58 t90_59 w) →
                          j_57 t9_58 w) →
                      ∀ j_60 : Value → World → Prop, (∀ t12_61 : Value, ∀ w : World, (Env →
                          CallV Try.prog Z 10 #[t39_15, t12_61] w fun t112_62 w =>
                          run1 Try.prog Z (Instr.extract t112_62 0) w fun t113_63 w =>
                          run1 Try.prog Z (Instr.extract t112_62 1) w fun t114_64 w =>
                          run1 Try.prog Z (Instr.alloc 34 true (.tuple #[])) w fun t13_65 w =>
                          run0 Try.prog Z (Instr.storeAt 34 t13_65 t113_63) w fun w =>
                          Drawn w fun w =>
                          Pure1 Try.prog (eqOp BinOp.neq 27 false true t114_64 (Value.int IntKind.i64 0)) fun t116_66 =>
                          guardV (t116_66) false (fun k => Pure1 Try.prog (Instr.fieldAt 34 t13_65 2) k) (fun t118_67 =>
                          guardV (t116_66) false (fun k => Read1 Try.prog (Instr.loadAt 25 t118_67) w k) (fun t119_68 =>
                          guardV (t116_66) false (fun k => k (t9_53)) (fun t120_69 =>
                          guardV (t116_66) false (fun k => k (t12_61)) (fun t121_70 =>
                          guardV (t116_66) false (fun k => Pure1 Try.prog (Instr.indexAt 22 t120_69 t121_70) k) (fun t122_71 =>
                          guardV (t116_66) false (fun k => Read1 Try.prog (Instr.loadAt 25 t122_71) w k) (fun t123_72 =>
                          guardW (t116_66) false (fun k => CallV Try.prog Z 11 #[t119_68, t123_72] w k) (fun t124_73 w =>
                            guardV (t116_66) false (fun k => Pure1 Try.prog (Op.unary UnOp.not t124_73) k) (fun t125_74 =>
                            Pure1 Try.prog (pickV t116_66 (Value.bool true) t125_74) fun t126_75 =>
                            guardV (t126_75) false (fun k => Pure1 Try.prog (Instr.fieldAt 34 t13_65 3) k) (fun t128_76 =>
                            guardV (t126_75) false (fun k => Read1 Try.prog (Instr.loadAt 4 t128_76) w k) (fun t129_77 =>
                            Pure1 Try.prog (pickV t126_75 (Value.bool true) t129_77) fun t130_78 =>
                            guardV (t130_78) false (fun k => k (t39_15)) (fun t132_79 =>
                            guardV (t130_78) false (fun k => k (t9_53)) (fun t134_80 =>
                            guardV (t130_78) false (fun k => Pure1 Try.prog (Builtin.len_ #[22] 3 #[t134_80]) k) (fun t135_81 =>
                            guardV (t130_78) false (fun k => Pure1 Try.prog (binOp BinOp.sub 3 t135_81 (Value.int IntKind.i64 1)) k) (fun t136_82 =>
                            guardW (t130_78) false (fun k => CallV Try.prog Z 12 #[t132_79] w k) (fun t133_83 w =>
                              Still Try.prog (gSem (t126_75) false (nx (Instr.loadAt 4 t128_76))) t129_77 w <|
                              guardV (t130_78) false (fun k => Pure1 Try.prog (eqOp BinOp.neq 3 false false t133_83 t136_82) k) (fun t137_84 =>
                              Pure1 Try.prog (pickV t130_78 (Value.bool true) t137_84) fun t138_85 =>
                              CondV t138_85 (
                                Q (Value.bool false) w) (
                                ∃ J_86 : Nat → Value → Value → World → Prop, (∃ m, J_86 m (Value.slice none 0 0) (Value.int IntKind.i64 0) w) ∧
                                  ∀ m_86, ∀ t15_87 : Value, ∀ t16_88 : Value, ∀ w : World, J_86 m_86 t15_87 t16_88 w → Env →
                                    run1 Try.prog Z (Builtin.len_ #[22] 3 #[t9_53]) w fun t141_89 w =>
                                    run1 Try.prog Z (binOp BinOp.lss 3 t16_88 t141_89) w fun t142_90 w =>
                                    CondV t142_90 (
                                      ∀ j_91 : Value → World → Prop, (∀ t15_92 : Value, ∀ w : World, (Env →
                                          run1 Try.prog Z (binOp BinOp.add 3 t16_88 (Value.int IntKind.i64 1)) w fun t144_93 w =>
                                          ∃ n_86, n_86 < m_86 ∧ J_86 n_86 t15_92 t144_93 w) →
                                          j_91 t15_92 w) →
                                      run1 Try.prog Z (eqOp BinOp.neq 3 false false t16_88 t12_61) w fun t147_94 w =>
                                      CondV t147_94 (
                                        run1 Try.prog Z (Instr.indexAt 22 t9_53 t16_88) w fun t151_95 w =>
                                        run1 Try.prog Z (Instr.loadAt 25 t151_95) w fun t152_96 w =>
                                        run1 Try.prog Z (Instr.buildSlice 22 1 #[(0, t152_96)]) w fun t153_97 w =>
                                        run1 Try.prog Z (Builtin.append_ #[22, 22] 22 #[t15_87, t153_97]) w fun t154_98 w =>
                                        j_91 t154_98 w) (
                                        j_91 t15_87 w)) (
                                      j_57 t15_87 w)))) w)))))))) w))))))) →
                          j_60 t12_61 w) →
                      run1 Try.prog Z (Builtin.len_ #[23] 3 #[x1]) w fun t93_99 w =>
                      run1 Try.prog Z (binOp BinOp.lss 3 t11_54 t93_99) w fun t94_100 w =>
                      guardW (t94_100) true (fun k => k (x1) w) (fun t96_101 w =>
                      guardW (t94_100) true (fun k => k (t11_54) w) (fun t97_102 w =>
                      guardW (t94_100) true (fun k => run1 Try.prog Z (Instr.indexAt 23 t96_101 t97_102) w k) (fun t98_103 w =>
                      guardW (t94_100) true (fun k => run1 Try.prog Z (Instr.loadAt 3 t98_103) w k) (fun t99_104 w =>
                      guardW (t94_100) true (fun k => run1 Try.prog Z (binOp BinOp.geq 3 t99_104 (Value.int IntKind.i64 0)) w k) (fun t100_105 w =>
                      run1 Try.prog Z (pickV t94_100 t100_105 (Value.bool false)) w fun t101_106 w =>
                      CondV t101_106 (
                        run1 Try.prog Z (Instr.indexAt 23 x1 t11_54) w fun t104_107 w =>
                        run1 Try.prog Z (Instr.loadAt 3 t104_107) w fun t105_108 w =>
                        run1 Try.prog Z (Builtin.len_ #[22] 3 #[t9_53]) w fun t107_109 w =>
                        run1 Try.prog Z (binOp BinOp.rem 3 t105_108 t107_109) w fun t108_110 w =>
                        j_60 t108_110 w) (
                        j_60 (Value.int IntKind.i64 0) w)) w) w) w) w) w) (
                      CallV Try.prog Z 10 #[t39_15, (Value.int IntKind.i64 0)] w fun t158_111 w =>
                      run1 Try.prog Z (Instr.extract t158_111 0) w fun t159_112 w =>
                      run1 Try.prog Z (Instr.extract t158_111 1) w fun t160_113 w =>
                      run1 Try.prog Z (Instr.alloc 34 true (.tuple #[])) w fun t17_114 w =>
                      run0 Try.prog Z (Instr.storeAt 34 t17_114 t159_112) w fun w =>
                      guardW (t19_1) true (fun k => k (t160_113) w) (fun t163_115 w =>
                      guardW (t19_1) true (fun k => run1 Try.prog Z (eqOp BinOp.eql 27 false true t163_115 (Value.int IntKind.i64 220)) w k) (fun t164_116 w =>
                      run1 Try.prog Z (pickV t19_1 t164_116 (Value.bool false)) w fun t165_117 w =>
                      guardW (t165_117) true (fun k => k (t39_15) w) (fun t167_118 w =>
                      guardW (t165_117) true (fun k => CallV Try.prog Z 12 #[t167_118] w k) (fun t168_119 w =>
                      guardW (t165_117) true (fun k => run1 Try.prog Z (eqOp BinOp.eql 3 false true t168_119 (Value.int IntKind.i64 0)) w k) (fun t169_120 w =>
                      run1 Try.prog Z (pickV t165_117 t169_120 (Value.bool false)) w fun t170_121 w =>
                      Q t170_121 w) w) w) w) w) w))) w) w)) w) w)) w) w
noncomputable def f3.code : Code := match Try.f3.body with | some c => c | none => .skip
def f3.an : An := (.sq .leaf (.sq .leaf (.sq (.sq .leaf (.bl (.lp [6] [4, 6, 20, 21, 22, 23, 24, 25, 26, 27, 28, 29, 30, 31, 32, 33, 34, 35, 36] (.sq (.sq .leaf (.cn .leaf .leaf)) (.sq (.bl (.sq .leaf (.cn (.sq .leaf .leaf) .leaf))) .leaf))))) (.sq .leaf (.sq (.sq .leaf (.cn (.sq .leaf .leaf) .leaf)) (.sq .leaf (.sq (.sq .leaf (.bl (.lp [9, 10] [4, 9, 10, 47, 48, 49, 50, 51, 52, 53, 54, 55, 56, 57, 58, 59, 60, 61, 62, 63, 64, 65, 66, 67, 68, 69, 70, 71, 72, 73, 74, 75, 76, 77, 78, 79, 80, 81, 82, 83, 84, 85] (.sq (.sq .leaf (.cn .leaf .leaf)) (.sj [9] [4, 9, 57, 58, 59, 60, 61, 62, 63, 64, 65, 66, 67, 68, 69, 70, 71, 72, 73, 74, 75, 76, 77, 78, 79, 80, 81, 82, 83, 84, 85] (.bl (.sq .leaf (.cn .leaf (.sq .leaf (.cn (.sq .leaf .leaf) .leaf))))) .leaf))))) (.sq (.sq .leaf (.bl (.lp [9, 11] [4, 9, 11, 12, 13, 14, 15, 16, 86, 87, 88, 89, 90, 91, 92, 93, 94, 95, 96, 97, 98, 99, 100, 101, 102, 103, 104, 105, 106, 107, 108, 109, 110, 111, 112, 113, 114, 115, 116, 117, 118, 119, 120, 121, 122, 123, 124, 125, 126, 127, 128, 129, 130, 131, 132, 133, 134, 135, 136, 137, 138, 139, 140, 141, 142, 143, 144, 145, 146, 147, 148, 149, 150, 151, 152, 153, 154, 155] (.sq (.sq .leaf (.cn .leaf .leaf)) (.sj [9] [4, 9, 12, 13, 14, 15, 16, 91, 92, 93, 94, 95, 96, 97, 98, 99, 100, 101, 102, 103, 104, 105, 106, 107, 108, 109, 110, 111, 112, 113, 114, 115, 116, 117, 118, 119, 120, 121, 122, 123, 124, 125, 126, 127, 128, 129, 130, 131, 132, 133, 134, 135, 136, 137, 138, 139, 140, 141, 142, 143, 144, 145, 146, 147, 148, 149, 150, 151, 152, 153, 154, 155] (.bl (.sq .leaf (.sj [12] [12, 91, 92, 93, 94, 95, 96, 97, 98, 99, 100, 101, 102, 103, 104, 105, 106, 107, 108] (.sq .leaf (.cn .leaf .leaf)) (.sq .leaf (.sq (.sq (.dr (.take 0 false (.take 1 false (.take 2 false (.take 3 false (.take 4 true (.take 5 false (.take 6 false (.take 7 false (.take 8 true (.one 9 (.take 10 false (.take 11 false (.take 12 false (.take 13 false (.take 14 true (.take 15 false (.take 16 false (.take 17 false (.take 19 false (.take 20 false (.take 21 false (.one 18 (.take 22 false (.take 23 false .fin))))))))))))))))))))))))) (.cn (.sq .leaf .leaf) .leaf)) (.sq .leaf (.sq (.sq .leaf (.bl (.lp [15, 16] [15, 16, 139, 140, 141, 142, 143, 144, 145, 146, 147, 148, 149, 150, 151, 152, 153, 154] (.sq (.sq .leaf (.cn .leaf .leaf)) (.sj [15] [15, 145, 146, 147, 148, 149, 150, 151, 152, 153, 154] (.bl (.sq .leaf (.cn .leaf .leaf))) .leaf))))) .leaf))))))) .leaf))))) (.sq .leaf (.sq .leaf .leaf))))))))))
theorem f3.body_eq : Try.f3.body = some f3.code := by kernel_rfl
theorem f3.shape (Z : List PanicEntry → World → Prop) (x0 x1 : Value) (w : World) (Q : Value → World → Prop) : vc drawD Try.prog 171 Z [6, 7, 9, 8, 10, 11, 12] f3.an f3.code (fnQ Try.prog 171 Try.f3.results Q) (argEnv [x0, x1]) w = f3.sh Z x0 x1 w Q := by kernel_rfl
theorem f3.enters : ∀ f, f ∈ ([6, 7, 9, 8, 10, 11, 12] : List Nat) → Enters Try.prog f := by
  intro f hf
  simp only [List.mem_cons, List.not_mem_nil, or_false] at hf
  rcases hf with rfl | rfl | rfl | rfl | rfl | rfl | rfl
  · exact en6
  · exact en7
  · exact en9
  · exact en8
  · exact en10
  · exact en11
  · exact en12
theorem f3.calls {Z : List PanicEntry → World → Prop} {x0 x1 : Value} {w : World} {Q : Value → World → Prop} (h : f3.sh Z x0 x1 w Q) : CallV Try.prog Z 3 #[x0, x1] w Q :=
  calls_of_vcn drawD_sound (Q := Q) (n := 171) (rs := Try.f3.results) (an := f3.an) (c := f3.code) (cal := [6, 7, 9, 8, 10, 11, 12]) (args := [x0, x1]) Try.func3 (by kernel_rfl) rfl f3.body_eq follows (Nat.le_of_ble_eq_true (by kernel_rfl)) (enters_of_all f3.enters) ((f3.shape Z x0 x1 w Q).mpr h)

/-! ### 4: lagoon/lagoonlaw22.LinkArrives -/
def f4.sh (Z : List PanicEntry → World → Prop) (x0 x1 : Value) (w : World) (Q : Value → World → Prop) : Prop :=
  CallV Try.prog Z 6 #[] w fun t16_1 w =>
  CallV Try.prog Z 13 #[x1] w fun t18_2 w =>
  CondV t18_2 (
    Q t16_1 w) (
    CallV Try.prog Z 7 #[x0] w fun t22_3 w =>
    run1 Try.prog Z (Instr.extract t22_3 0) w fun t23_4 w =>
    run1 Try.prog Z (Instr.extract t22_3 1) w fun t24_5 w =>
    run1 Try.prog Z (eqOp BinOp.neq 27 false true t24_5 (Value.int IntKind.i64 0)) w fun t26_6 w =>
    guardW (t26_6) false (fun k => k (t23_4) w) (fun t28_7 w =>
    guardW (t26_6) false (fun k => run1 Try.prog Z (eqOp BinOp.eql 26 false true t28_7 (Value.pointer none)) w k) (fun t29_8 w =>
    run1 Try.prog Z (pickV t26_6 (Value.bool true) t29_8) w fun t30_9 w =>
    CondV t30_9 (
      guardW (t16_1) true (fun k => k (t23_4) w) (fun t33_10 w =>
      guardW (t16_1) true (fun k => run1 Try.prog Z (eqOp BinOp.eql 26 false true t33_10 (Value.pointer none)) w k) (fun t34_11 w =>
      run1 Try.prog Z (pickV t16_1 t34_11 (Value.bool false)) w fun t35_12 w =>
      guardW (t35_12) true (fun k => k (x0) w) (fun t37_13 w =>
      guardW (t35_12) true (fun k => run1 Try.prog Z (binOp BinOp.lss 3 t37_13 (Value.int IntKind.i64 1)) w k) (fun t38_14 w =>
      guardW (t35_12) true (fun k => k (t38_14) w) (fun t39_15 w =>
      guardW (t39_15) false (fun k => k (x0) w) (fun t40_16 w =>
      guardW (t39_15) false (fun k => run1 Try.prog Z (binOp BinOp.gtr 3 t40_16 (Value.int IntKind.i64 7)) w k) (fun t41_17 w =>
      guardW (t35_12) true (fun k => run1 Try.prog Z (pickV t39_15 (Value.bool true) t41_17) w k) (fun t42_18 w =>
      run1 Try.prog Z (pickV t35_12 t42_18 (Value.bool false)) w fun t43_19 w =>
      Q t43_19 w) w) w) w) w) w) w) w) w) (
      ∃ J_20 : Nat → Value → Value → Value → World → Prop, (∃ m, J_20 m (Value.slice none 0 0) (Value.int IntKind.i64 0) (Value.int IntKind.i64 0) w) ∧
        ∀ m_20, ∀ t8_21 : Value, ∀ t9_22 : Value, ∀ t10_23 : Value, ∀ w : World, J_20 m_20 t8_21 t9_22 t10_23 w → Env →
          run1 Try.prog Z (Builtin.len_ #[40] 3 #[x1]) w fun t46_24 w =>
          run1 Try.prog Z (binOp BinOp.lss 3 t10_23 t46_24) w fun t47_25 w =>
          CondV t47_25 (
            ∀ j_26 : Value → Value → World → Prop, (∀ t8_27 : Value, ∀ t9_28 : Value, ∀ w : World, (Env →
                run1 Try.prog Z (binOp BinOp.add 3 t10_23 (Value.int IntKind.i64 1)) w fun t49_29 w =>
                ∃ n_20, n_20 < m_20 ∧ J_20 n_20 t8_27 t9_28 t49_29 w) →
                j_26 t8_27 t9_28 w) →
            run1 Try.prog Z (Instr.indexAt 40 x1 t10_23) w fun t52_30 w =>
            run1 Try.prog Z (Instr.loadAt 43 t52_30) w fun t53_31 w =>
            run1 Try.prog Z (Instr.alloc 43 true (.tuple #[])) w fun t11_32 w =>
            run0 Try.prog Z (Instr.storeAt 43 t11_32 t53_31) w fun w =>
            ∀ j_33 : Value → Value → World → Prop, (∀ t8_34 : Value, ∀ t9_35 : Value, ∀ w : World, (Env →
                CallV Try.prog Z 12 #[t23_4] w fun t148_36 w =>
                run1 Try.prog Z (eqOp BinOp.neq 3 false false t148_36 t9_35) w fun t150_37 w =>
                CondV t150_37 (
                  Q (Value.bool false) w) (
                  j_26 t8_34 t9_35 w)) →
                j_33 t8_34 t9_35 w) →
            run1 Try.prog Z (Instr.fieldAt 43 t11_32 0) w fun t54_38 w =>
            run1 Try.prog Z (Instr.loadAt 3 t54_38) w fun t55_39 w =>
            run1 Try.prog Z (eqOp BinOp.eql 3 false true t55_39 (Value.int IntKind.i64 1)) w fun t57_40 w =>
            CondV t57_40 (
              Drawn w fun w =>
              Pure1 Try.prog (Instr.fieldAt 43 t11_32 2) fun t59_41 =>
              Read1 Try.prog (Instr.loadAt 31 t59_41) w fun t60_42 =>
              Pure1 Try.prog (Instr.fieldAt 43 t11_32 3) fun t61_43 =>
              Read1 Try.prog (Instr.loadAt 31 t61_43) w fun t62_44 =>
              Pure1 Try.prog (Instr.fieldAt 43 t11_32 4) fun t63_45 =>
              Read1 Try.prog (Instr.loadAt 25 t63_45) w fun t64_46 =>
              CallV Try.prog Z 9 #[t64_46] w fun t65_47 w =>
                Still Try.prog (nx (Instr.loadAt 31 t61_43)) t62_44 w <|
                Still Try.prog (nx (Instr.loadAt 31 t59_41)) t60_42 w <|
              CallV Try.prog Z 8 #[t23_4, t60_42, t62_44, t65_47] w fun t66_48 w =>
              Pure1 Try.prog (eqOp BinOp.eql 27 false true t66_48 (Value.int IntKind.i64 0)) fun t67_49 =>
              CondV t67_49 (
                run1 Try.prog Z (Instr.loadAt 43 t11_32) w fun t69_50 w =>
                run1 Try.prog Z (Instr.buildSlice 40 1 #[(0, t69_50)]) w fun t70_51 w =>
                run1 Try.prog Z (Builtin.append_ #[40, 40] 40 #[t8_21, t70_51]) w fun t71_52 w =>
                run1 Try.prog Z (binOp BinOp.add 3 t9_22 (Value.int IntKind.i64 1)) w fun t73_53 w =>
                j_33 t71_52 t73_53 w) (
                j_33 t8_21 t9_22 w)) (
              run1 Try.prog Z (eqOp BinOp.eql 3 false true t55_39 (Value.int IntKind.i64 3)) w fun t75_54 w =>
              CondV t75_54 (
                run1 Try.prog Z (Instr.fieldAt 43 t11_32 5) w fun t77_55 w =>
                run1 Try.prog Z (Instr.loadAt 3 t77_55) w fun t78_56 w =>
                CallV Try.prog Z 14 #[t23_4, t78_56] w fun t79_57 w =>
                run1 Try.prog Z (eqOp BinOp.eql 27 false true t79_57 (Value.int IntKind.i64 0)) w fun t80_58 w =>
                CondV t80_58 (
                  run1 Try.prog Z (binOp BinOp.add 3 t9_22 (Value.int IntKind.i64 1)) w fun t82_59 w =>
                  j_33 t8_21 t82_59 w) (
                  j_33 t8_21 t9_22 w)) (
                run1 Try.prog Z (eqOp BinOp.eql 3 false true t55_39 (Value.int IntKind.i64 4)) w fun t84_60 w =>
                CondV t84_60 (
                  run1 Try.prog Z (Instr.fieldAt 43 t11_32 5) w fun t86_61 w =>
                  run1 Try.prog Z (Instr.loadAt 3 t86_61) w fun t87_62 w =>
                  run1 Try.prog Z (Instr.fieldAt 43 t11_32 6) w fun t88_63 w =>
                  run1 Try.prog Z (Instr.loadAt 3 t88_63) w fun t89_64 w =>
                  run1 Try.prog Z (Instr.fieldAt 43 t11_32 7) w fun t90_65 w =>
                  run1 Try.prog Z (Instr.loadAt 5 t90_65) w fun t91_66 w =>
                  CallV Try.prog Z 15 #[t23_4, t87_62, t89_64, t91_66] w fun t92_67 w =>
                  j_33 t8_21 t9_22 w) (
                  run1 Try.prog Z (eqOp BinOp.eql 3 false true t55_39 (Value.int IntKind.i64 2)) w fun t94_68 w =>
                  CondV t94_68 (
                    run1 Try.prog Z (Instr.fieldAt 43 t11_32 5) w fun t97_69 w =>
                    run1 Try.prog Z (Instr.loadAt 3 t97_69) w fun t98_70 w =>
                    CallV Try.prog Z 10 #[t23_4, t98_70] w fun t99_71 w =>
                    run1 Try.prog Z (Instr.extract t99_71 0) w fun t100_72 w =>
                    run1 Try.prog Z (Instr.extract t99_71 1) w fun t101_73 w =>
                    run1 Try.prog Z (Instr.alloc 34 true (.tuple #[])) w fun t12_74 w =>
                    run0 Try.prog Z (Instr.storeAt 34 t12_74 t100_72) w fun w =>
                    run1 Try.prog Z (eqOp BinOp.neq 27 false true t101_73 (Value.int IntKind.i64 0)) w fun t103_75 w =>
                    CondV t103_75 (
                      j_26 t8_21 t9_22 w) (
                      run1 Try.prog Z (binOp BinOp.sub 3 t9_22 (Value.int IntKind.i64 1)) w fun t105_76 w =>
                      ∃ J_77 : Nat → Value → Value → World → Prop, (∃ m, J_77 m (Value.bool false) (Value.int IntKind.i64 0) w) ∧
                        ∀ m_77, ∀ t14_78 : Value, ∀ t15_79 : Value, ∀ w : World, J_77 m_77 t14_78 t15_79 w → Env →
                          run1 Try.prog Z (Builtin.len_ #[40] 3 #[t8_21]) w fun t108_80 w =>
                          run1 Try.prog Z (binOp BinOp.lss 3 t15_79 t108_80) w fun t109_81 w =>
                          CondV t109_81 (
                            Drawn w fun w =>
                            guardV (t14_78) false (fun k => k (t8_21)) (fun t114_82 =>
                            guardV (t14_78) false (fun k => k (t15_79)) (fun t115_83 =>
                            guardV (t14_78) false (fun k => Pure1 Try.prog (Instr.indexAt 40 t114_82 t115_83) k) (fun t116_84 =>
                            guardV (t14_78) false (fun k => Pure1 Try.prog (Instr.fieldAt 43 t116_84 2) k) (fun t117_85 =>
                            guardV (t14_78) false (fun k => Read1 Try.prog (Instr.loadAt 31 t117_85) w k) (fun t118_86 =>
                            guardV (t14_78) false (fun k => Pure1 Try.prog (Instr.fieldAt 34 t12_74 0) k) (fun t119_87 =>
                            guardV (t14_78) false (fun k => Read1 Try.prog (Instr.loadAt 31 t119_87) w k) (fun t120_88 =>
                            guardV (t14_78) false (fun k => Pure1 Try.prog (eqOp BinOp.eql 31 false false t118_86 t120_88) k) (fun t121_89 =>
                            guardV (t14_78) false (fun k => k (t121_89)) (fun t122_90 =>
                            guardV (t122_90) true (fun k => k (t8_21)) (fun t123_91 =>
                            guardV (t122_90) true (fun k => k (t15_79)) (fun t124_92 =>
                            guardV (t122_90) true (fun k => Pure1 Try.prog (Instr.indexAt 40 t123_91 t124_92) k) (fun t125_93 =>
                            guardV (t122_90) true (fun k => Pure1 Try.prog (Instr.fieldAt 43 t125_93 3) k) (fun t126_94 =>
                            guardV (t122_90) true (fun k => Read1 Try.prog (Instr.loadAt 31 t126_94) w k) (fun t127_95 =>
                            guardV (t122_90) true (fun k => Pure1 Try.prog (Instr.fieldAt 34 t12_74 1) k) (fun t128_96 =>
                            guardV (t122_90) true (fun k => Read1 Try.prog (Instr.loadAt 31 t128_96) w k) (fun t129_97 =>
                            guardV (t122_90) true (fun k => Pure1 Try.prog (eqOp BinOp.eql 31 false false t127_95 t129_97) k) (fun t130_98 =>
                            guardV (t14_78) false (fun k => Pure1 Try.prog (pickV t122_90 t130_98 (Value.bool false)) k) (fun t131_99 =>
                            guardV (t14_78) false (fun k => k (t131_99)) (fun t132_100 =>
                            guardV (t132_100) true (fun k => k (t8_21)) (fun t133_101 =>
                            guardV (t132_100) true (fun k => k (t15_79)) (fun t134_102 =>
                            guardV (t132_100) true (fun k => Pure1 Try.prog (Instr.indexAt 40 t133_101 t134_102) k) (fun t135_103 =>
                            guardV (t132_100) true (fun k => Pure1 Try.prog (Instr.fieldAt 43 t135_103 4) k) (fun t136_104 =>
                            guardV (t132_100) true (fun k => Read1 Try.prog (Instr.loadAt 25 t136_104) w k) (fun t137_105 =>
                            guardV (t132_100) true (fun k => Pure1 Try.prog (Instr.fieldAt 34 t12_74 2) k) (fun t138_106 =>
                            guardV (t132_100) true (fun k => Read1 Try.prog (Instr.loadAt 25 t138_106) w k) (fun t139_107 =>
                            guardV (t132_100) true (fun k => Pure1 Try.prog (Instr.fieldAt 34 t12_74 3) k) (fun t140_108 =>
                            guardV (t132_100) true (fun k => Read1 Try.prog (Instr.loadAt 4 t140_108) w k) (fun t141_109 =>
                            guardW (t132_100) true (fun k => CallV Try.prog Z 16 #[t137_105, t139_107, t141_109] w k) (fun t142_110 w =>
                              Still Try.prog (gSem (t122_90) true (nx (Instr.loadAt 31 t128_96))) t129_97 w <|
                              Still Try.prog (gSem (t122_90) true (nx (Instr.loadAt 31 t126_94))) t127_95 w <|
                              Still Try.prog (gSem (t14_78) false (nx (Instr.loadAt 31 t119_87))) t120_88 w <|
                              Still Try.prog (gSem (t14_78) false (nx (Instr.loadAt 31 t117_85))) t118_86 w <|
                              guardV (t14_78) false (fun k => Pure1 Try.prog (pickV t132_100 t142_110 (Value.bool false)) k) (fun t143_111 =>
                              Pure1 Try.prog (pickV t14_78 (Value.bool true) t143_111) fun t144_112 =>
                              run1 Try.prog Z (binOp BinOp.add 3 t15_79 (Value.int IntKind.i64 1)) w fun t111_113 w =>
                              ∃ n_77, n_77 < m_77 ∧ J_77 n_77 t144_112 t111_113 w)) w))))))))))))))))))))))))))))) (
                            run1 Try.prog Z (Op.unary UnOp.not t14_78) w fun t146_114 w =>
                            CondV t146_114 (
                              Q (Value.bool false) w) (
                              j_33 t8_21 t105_76 w)))) (
                    j_33 t8_21 t9_22 w))))) (
            Q t16_1 w))) w) w)
noncomputable def f4.code : Code := match Try.f4.body with | some c => c | none => .skip
def f4.an : An := (.sq .leaf (.sq .leaf (.sq (.sq .leaf (.cn (.sq .leaf .leaf) .leaf)) (.sq .leaf (.sq (.sq .leaf (.cn (.sq .leaf .leaf) .leaf)) (.sq .leaf (.sq .leaf (.sq (.sq .leaf (.bl (.lp [8, 9, 10] [4, 8, 9, 10, 11, 12, 13, 14, 15, 44, 45, 46, 47, 48, 49, 50, 51, 52, 53, 54, 55, 56, 57, 58, 59, 60, 61, 62, 63, 64, 65, 66, 67, 68, 69, 70, 71, 72, 73, 74, 75, 76, 77, 78, 79, 80, 81, 82, 83, 84, 85, 86, 87, 88, 89, 90, 91, 92, 93, 94, 95, 96, 97, 98, 99, 100, 101, 102, 103, 104, 105, 106, 107, 108, 109, 110, 111, 112, 113, 114, 115, 116, 117, 118, 119, 120, 121, 122, 123, 124, 125, 126, 127, 128, 129, 130, 131, 132, 133, 134, 135, 136, 137, 138, 139, 140, 141, 142, 143, 144, 145, 146, 147, 148, 149, 150] (.sq (.sq .leaf (.cn .leaf .leaf)) (.sj [8, 9] [4, 8, 9, 11, 12, 13, 14, 15, 50, 51, 52, 53, 54, 55, 56, 57, 58, 59, 60, 61, 62, 63, 64, 65, 66, 67, 68, 69, 70, 71, 72, 73, 74, 75, 76, 77, 78, 79, 80, 81, 82, 83, 84, 85, 86, 87, 88, 89, 90, 91, 92, 93, 94, 95, 96, 97, 98, 99, 100, 101, 102, 103, 104, 105, 106, 107, 108, 109, 110, 111, 112, 113, 114, 115, 116, 117, 118, 119, 120, 121, 122, 123, 124, 125, 126, 127, 128, 129, 130, 131, 132, 133, 134, 135, 136, 137, 138, 139, 140, 141, 142, 143, 144, 145, 146, 147, 148, 149, 150] (.bl (.sq .leaf (.sj [8, 9] [4, 8, 9, 12, 13, 14, 15, 54, 55, 56, 57, 58, 59, 60, 61, 62, 63, 64, 65, 66, 67, 68, 69, 70, 71, 72, 73, 74, 75, 76, 77, 78, 79, 80, 81, 82, 83, 84, 85, 86, 87, 88, 89, 90, 91, 92, 93, 94, 95, 96, 97, 98, 99, 100, 101, 102, 103, 104, 105, 106, 107, 108, 109, 110, 111, 112, 113, 114, 115, 116, 117, 118, 119, 120, 121, 122, 123, 124, 125, 126, 127, 128, 129, 130, 131, 132, 133, 134, 135, 136, 137, 138, 139, 140, 141, 142, 143, 144, 145, 146] (.sq .leaf (.bl (.sq .leaf (.cn (.sq (.dr (.take 0 false (.take 1 false (.take 2 true (.take 3 false (.take 4 true (.take 5 false (.take 6 true (.one 7 (.one 8 (.take 9 false .fin))))))))))) (.cn (.sq .leaf .leaf) .leaf)) (.sq .leaf (.cn (.sq .leaf (.cn .leaf .leaf)) (.sq .leaf (.cn .leaf (.sq .leaf (.cn (.sq .leaf (.sq (.sq .leaf (.cn .leaf .leaf)) (.sq .leaf (.sq .leaf (.sq (.sq .leaf (.bl (.lp [14, 15] [14, 15, 106, 107, 108, 109, 110, 111, 112, 113, 114, 115, 116, 117, 118, 119, 120, 121, 122, 123, 124, 125, 126, 127, 128, 129, 130, 131, 132, 133, 134, 135, 136, 137, 138, 139, 140, 141, 142, 143, 144] (.sq (.sq .leaf (.cn .leaf .leaf)) (.sq (.bl (.dr (.take 0 false (.take 1 false (.take 2 false (.take 3 false (.take 4 false (.take 5 false (.take 6 true (.take 7 false (.take 8 true (.take 9 false (.take 10 false (.take 11 false (.take 12 false (.take 13 false (.take 14 false (.take 15 true (.take 16 false (.take 17 true (.take 18 false (.take 19 false (.take 20 false (.take 21 false (.take 22 false (.take 23 false (.take 24 false (.take 25 true (.take 26 false (.take 27 true (.take 28 false (.take 29 true (.one 30 (.take 31 false (.take 32 false (.take 33 false .fin)))))))))))))))))))))))))))))))))))) .leaf))))) (.sq .leaf (.cn (.sq .leaf .leaf) .leaf))))))) .leaf)))))))))) (.sq .leaf (.cn (.sq .leaf .leaf) .leaf))))) .leaf))))) (.sq .leaf .leaf)))))))))
theorem f4.body_eq : Try.f4.body = some f4.code := by kernel_rfl
theorem f4.shape (Z : List PanicEntry → World → Prop) (x0 x1 : Value) (w : World) (Q : Value → World → Prop) : vc drawD Try.prog 152 Z [6, 13, 7, 12, 9, 8, 14, 15, 10, 16] f4.an f4.code (fnQ Try.prog 152 Try.f4.results Q) (argEnv [x0, x1]) w = f4.sh Z x0 x1 w Q := by kernel_rfl
theorem f4.enters : ∀ f, f ∈ ([6, 13, 7, 12, 9, 8, 14, 15, 10, 16] : List Nat) → Enters Try.prog f := by
  intro f hf
  simp only [List.mem_cons, List.not_mem_nil, or_false] at hf
  rcases hf with rfl | rfl | rfl | rfl | rfl | rfl | rfl | rfl | rfl | rfl
  · exact en6
  · exact en13
  · exact en7
  · exact en12
  · exact en9
  · exact en8
  · exact en14
  · exact en15
  · exact en10
  · exact en16
theorem f4.calls {Z : List PanicEntry → World → Prop} {x0 x1 : Value} {w : World} {Q : Value → World → Prop} (h : f4.sh Z x0 x1 w Q) : CallV Try.prog Z 4 #[x0, x1] w Q :=
  calls_of_vcn drawD_sound (Q := Q) (n := 152) (rs := Try.f4.results) (an := f4.an) (c := f4.code) (cal := [6, 13, 7, 12, 9, 8, 14, 15, 10, 16]) (args := [x0, x1]) Try.func4 (by kernel_rfl) rfl f4.body_eq follows (Nat.le_of_ble_eq_true (by kernel_rfl)) (enters_of_all f4.enters) ((f4.shape Z x0 x1 w Q).mpr h)

/-! ### 5: lagoon/lagoonlaw22.LinkNil -/
def f5.sh (Z : List PanicEntry → World → Prop) (x0 : Value) (w : World) (Q : Value → World → Prop) : Prop :=
  run1 Try.prog Z (Instr.box 43 x0) w fun t1_1 w =>
  CallV Try.prog Z 6 #[] w fun t7_2 w =>
  run1 Try.prog Z (Instr.loadAt 43 t1_1) w fun t8_3 w =>
  run1 Try.prog Z (Instr.buildSlice 40 1 #[(0, t8_3)]) w fun t9_4 w =>
  CallV Try.prog Z 13 #[t9_4] w fun t10_5 w =>
  CondV t10_5 (
    Q t7_2 w) (
    run1 Try.prog Z (Instr.loadAt 43 t1_1) w fun t13_6 w =>
    CallV Try.prog Z 17 #[(Value.pointer none), t13_6] w fun t14_7 w =>
    run1 Try.prog Z (Instr.build 51 #[]) w fun t15_8 w =>
    run1 Try.prog Z (Instr.box 51 t15_8) w fun t16_9 w =>
    run1 Try.prog Z (Instr.loadAt 43 t1_1) w fun t17_10 w =>
    CallV Try.prog Z 17 #[t16_9, t17_10] w fun t18_11 w =>
    guardW (t7_2) true (fun k => k (t14_7) w) (fun t21_12 w =>
    run1 Try.prog Z (pickV t7_2 t21_12 (Value.bool false)) w fun t22_13 w =>
    guardW (t22_13) true (fun k => k (t18_11) w) (fun t24_14 w =>
    run1 Try.prog Z (pickV t22_13 t24_14 (Value.bool false)) w fun t25_15 w =>
    Q t25_15 w) w) w)
noncomputable def f5.code : Code := match Try.f5.body with | some c => c | none => .skip
def f5.an : An := (.sq .leaf (.sq .leaf (.sq (.sq .leaf (.cn (.sq .leaf .leaf) .leaf)) (.sq .leaf (.sq .leaf (.sq .leaf (.sq .leaf .leaf)))))))
theorem f5.body_eq : Try.f5.body = some f5.code := by kernel_rfl
theorem f5.shape (Z : List PanicEntry → World → Prop) (x0 : Value) (w : World) (Q : Value → World → Prop) : vc drawD Try.prog 26 Z [6, 13, 17] f5.an f5.code (fnQ Try.prog 26 Try.f5.results Q) (argEnv [x0]) w = f5.sh Z x0 w Q := by kernel_rfl
theorem f5.enters : ∀ f, f ∈ ([6, 13, 17] : List Nat) → Enters Try.prog f := by
  intro f hf
  simp only [List.mem_cons, List.not_mem_nil, or_false] at hf
  rcases hf with rfl | rfl | rfl
  · exact en6
  · exact en13
  · exact en17
theorem f5.calls {Z : List PanicEntry → World → Prop} {x0 : Value} {w : World} {Q : Value → World → Prop} (h : f5.sh Z x0 w Q) : CallV Try.prog Z 5 #[x0] w Q :=
  calls_of_vcn drawD_sound (Q := Q) (n := 26) (rs := Try.f5.results) (an := f5.an) (c := f5.code) (cal := [6, 13, 17]) (args := [x0]) Try.func5 (by kernel_rfl) rfl f5.body_eq follows (Nat.le_of_ble_eq_true (by kernel_rfl)) (enters_of_all f5.enters) ((f5.shape Z x0 w Q).mpr h)

/-! ### 6: lagoon/lagoonlaw22.works -/
def f6.sh (Z : List PanicEntry → World → Prop) (w : World) (Q : Value → World → Prop) : Prop :=
  CallV Try.prog Z 7 #[(Value.int IntKind.i64 2)] w fun t7_1 w =>
  run1 Try.prog Z (Instr.extract t7_1 0) w fun t8_2 w =>
  run1 Try.prog Z (Instr.extract t7_1 1) w fun t9_3 w =>
  run1 Try.prog Z (eqOp BinOp.neq 27 false true t9_3 (Value.int IntKind.i64 0)) w fun t11_4 w =>
  guardW (t11_4) false (fun k => k (t8_2) w) (fun t13_5 w =>
  guardW (t11_4) false (fun k => run1 Try.prog Z (eqOp BinOp.eql 26 false true t13_5 (Value.pointer none)) w k) (fun t14_6 w =>
  run1 Try.prog Z (pickV t11_4 (Value.bool true) t14_6) w fun t15_7 w =>
  CondV t15_7 (
    Q (Value.bool false) w) (
    run1 Try.prog Z (Instr.buildSlice 25 1 #[(0, (Value.int IntKind.u8 7))]) w fun t17_8 w =>
    CallV Try.prog Z 8 #[t8_2, (Value.int IntKind.i8 0), (Value.int IntKind.i8 1), t17_8] w fun t18_9 w =>
    CallV Try.prog Z 10 #[t8_2, (Value.int IntKind.i64 0)] w fun t21_10 w =>
    run1 Try.prog Z (Instr.extract t21_10 0) w fun t22_11 w =>
    run1 Try.prog Z (Instr.extract t21_10 1) w fun t23_12 w =>
    run1 Try.prog Z (Instr.alloc 34 true (.tuple #[])) w fun t4_13 w =>
    run0 Try.prog Z (Instr.storeAt 34 t4_13 t22_11) w fun w =>
    run1 Try.prog Z (eqOp BinOp.eql 27 false true t18_9 (Value.int IntKind.i64 0)) w fun t25_14 w =>
    guardW (t25_14) true (fun k => k (t23_12) w) (fun t27_15 w =>
    guardW (t25_14) true (fun k => k (t18_9) w) (fun t28_16 w =>
    guardW (t25_14) true (fun k => run1 Try.prog Z (eqOp BinOp.eql 27 false false t27_15 t28_16) w k) (fun t29_17 w =>
    run1 Try.prog Z (pickV t25_14 t29_17 (Value.bool false)) w fun t30_18 w =>
    guardW (t30_18) true (fun k => run1 Try.prog Z (Instr.fieldAt 34 t4_13 0) w k) (fun t32_19 w =>
    guardW (t30_18) true (fun k => run1 Try.prog Z (Instr.loadAt 31 t32_19) w k) (fun t33_20 w =>
    guardW (t30_18) true (fun k => run1 Try.prog Z (eqOp BinOp.eql 31 false true t33_20 (Value.int IntKind.i8 0)) w k) (fun t34_21 w =>
    run1 Try.prog Z (pickV t30_18 t34_21 (Value.bool false)) w fun t35_22 w =>
    guardW (t35_22) true (fun k => run1 Try.prog Z (Instr.fieldAt 34 t4_13 1) w k) (fun t37_23 w =>
    guardW (t35_22) true (fun k => run1 Try.prog Z (Instr.loadAt 31 t37_23) w k) (fun t38_24 w =>
    guardW (t35_22) true (fun k => run1 Try.prog Z (eqOp BinOp.eql 31 false true t38_24 (Value.int IntKind.i8 1)) w k) (fun t39_25 w =>
    run1 Try.prog Z (pickV t35_22 t39_25 (Value.bool false)) w fun t40_26 w =>
    guardW (t40_26) true (fun k => run1 Try.prog Z (Instr.fieldAt 34 t4_13 3) w k) (fun t42_27 w =>
    guardW (t40_26) true (fun k => run1 Try.prog Z (Instr.loadAt 4 t42_27) w k) (fun t43_28 w =>
    guardW (t40_26) true (fun k => run1 Try.prog Z (Op.unary UnOp.not t43_28) w k) (fun t44_29 w =>
    run1 Try.prog Z (pickV t40_26 t44_29 (Value.bool false)) w fun t45_30 w =>
    guardW (t45_30) true (fun k => run1 Try.prog Z (Instr.fieldAt 34 t4_13 2) w k) (fun t47_31 w =>
    guardW (t45_30) true (fun k => run1 Try.prog Z (Instr.loadAt 25 t47_31) w k) (fun t48_32 w =>
    guardW (t45_30) true (fun k => run1 Try.prog Z (Instr.buildSlice 25 1 #[(0, (Value.int IntKind.u8 7))]) w k) (fun t49_33 w =>
    guardW (t45_30) true (fun k => CallV Try.prog Z 11 #[t48_32, t49_33] w k) (fun t50_34 w =>
    run1 Try.prog Z (pickV t45_30 t50_34 (Value.bool false)) w fun t51_35 w =>
    guardW (t51_35) true (fun k => k (t8_2) w) (fun t53_36 w =>
    guardW (t51_35) true (fun k => CallV Try.prog Z 12 #[t53_36] w k) (fun t54_37 w =>
    guardW (t51_35) true (fun k => run1 Try.prog Z (eqOp BinOp.eql 3 false true t54_37 (Value.int IntKind.i64 0)) w k) (fun t55_38 w =>
    run1 Try.prog Z (pickV t51_35 t55_38 (Value.bool false)) w fun t56_39 w =>
    Q t56_39 w) w) w) w) w) w) w) w) w) w) w) w) w) w) w) w) w) w) w) w)) w) w
noncomputable def f6.code : Code := match Try.f6.body with | some c => c | none => .skip
def f6.an : An := (.sq .leaf (.sq .leaf (.sq (.sq .leaf (.cn (.sq .leaf .leaf) .leaf)) (.sq .leaf (.sq .leaf (.sq .leaf .leaf))))))
theorem f6.body_eq : Try.f6.body = some f6.code := by kernel_rfl
theorem f6.shape (Z : List PanicEntry → World → Prop) (w : World) (Q : Value → World → Prop) : vc drawD Try.prog 57 Z [7, 8, 10, 11, 12] f6.an f6.code (fnQ Try.prog 57 Try.f6.results Q) (argEnv []) w = f6.sh Z  w Q := by kernel_rfl
theorem f6.enters : ∀ f, f ∈ ([7, 8, 10, 11, 12] : List Nat) → Enters Try.prog f := by
  intro f hf
  simp only [List.mem_cons, List.not_mem_nil, or_false] at hf
  rcases hf with rfl | rfl | rfl | rfl | rfl
  · exact en7
  · exact en8
  · exact en10
  · exact en11
  · exact en12
theorem f6.calls {Z : List PanicEntry → World → Prop} {w : World} {Q : Value → World → Prop} (h : f6.sh Z  w Q) : CallV Try.prog Z 6 #[] w Q :=
  calls_of_vcn drawD_sound (Q := Q) (n := 57) (rs := Try.f6.results) (an := f6.an) (c := f6.code) (cal := [7, 8, 10, 11, 12]) (args := []) Try.func6 (by kernel_rfl) rfl f6.body_eq follows (Nat.le_of_ble_eq_true (by kernel_rfl)) (enters_of_all f6.enters) ((f6.shape Z  w Q).mpr h)

/-! ### 7: lagoon/link.New -/
def f7.sh (Z : List PanicEntry → World → Prop) (x0 : Value) (w : World) (Q : Value → World → Prop) : Prop :=
  run1 Try.prog Z (binOp BinOp.lss 3 x0 (Value.int IntKind.i64 1)) w fun t5_1 w =>
  guardW (t5_1) false (fun k => k (x0) w) (fun t7_2 w =>
  guardW (t5_1) false (fun k => run1 Try.prog Z (binOp BinOp.gtr 3 t7_2 (Value.int IntKind.i64 7)) w k) (fun t8_3 w =>
  run1 Try.prog Z (pickV t5_1 (Value.bool true) t8_3) w fun t9_4 w =>
  CondV t9_4 (
    Q (Value.tuple #[(Value.pointer none), (Value.int IntKind.i64 1)]) w) (
    run1 Try.prog Z (Instr.build 51 #[(0, x0)]) w fun t11_5 w =>
    run1 Try.prog Z (Instr.box 51 t11_5) w fun t12_6 w =>
    Q (Value.tuple #[t12_6, (Value.int IntKind.i64 0)]) w)) w) w
noncomputable def f7.code : Code := match Try.f7.body with | some c => c | none => .skip
def f7.an : An := (.sq .leaf (.sq (.sq .leaf (.cn (.sq .leaf .leaf) .leaf)) (.sq .leaf .leaf)))
theorem f7.body_eq : Try.f7.body = some f7.code := by kernel_rfl
theorem f7.shape (Z : List PanicEntry → World → Prop) (x0 : Value) (w : World) (Q : Value → World → Prop) : vc drawD Try.prog 13 Z [] f7.an f7.code (fnQ Try.prog 13 Try.f7.results Q) (argEnv [x0]) w = f7.sh Z x0 w Q := by kernel_rfl
theorem f7.enters : ∀ f, f ∈ ([] : List Nat) → Enters Try.prog f := by
  intro f hf
  cases hf
theorem f7.calls {Z : List PanicEntry → World → Prop} {x0 : Value} {w : World} {Q : Value → World → Prop} (h : f7.sh Z x0 w Q) : CallV Try.prog Z 7 #[x0] w Q :=
  calls_of_vcn drawD_sound (Q := Q) (n := 13) (rs := Try.f7.results) (an := f7.an) (c := f7.code) (cal := []) (args := [x0]) Try.func7 (by kernel_rfl) rfl f7.body_eq follows (Nat.le_of_ble_eq_true (by kernel_rfl)) (enters_of_all f7.enters) ((f7.shape Z x0 w Q).mpr h)

/-! ### 8: (*lagoon/link.Net).Send -/
def f8.sh (Z : List PanicEntry → World → Prop) (x0 x1 x2 x3 : Value) (w : World) (Q : Value → World → Prop) : Prop :=
  CallV Try.prog Z 18 #[x0] w fun t10_1 w =>
  guardW (t10_1) false (fun k => k (x0) w) (fun t12_2 w =>
  guardW (t10_1) false (fun k => k (x1) w) (fun t13_3 w =>
  guardW (t10_1) false (fun k => CallV Try.prog Z 19 #[t12_2, t13_3] w k) (fun t14_4 w =>
  guardW (t10_1) false (fun k => run1 Try.prog Z (Op.unary UnOp.not t14_4) w k) (fun t15_5 w =>
  run1 Try.prog Z (pickV t10_1 (Value.bool true) t15_5) w fun t16_6 w =>
  guardW (t16_6) false (fun k => k (x0) w) (fun t18_7 w =>
  guardW (t16_6) false (fun k => k (x2) w) (fun t19_8 w =>
  guardW (t16_6) false (fun k => CallV Try.prog Z 19 #[t18_7, t19_8] w k) (fun t20_9 w =>
  guardW (t16_6) false (fun k => run1 Try.prog Z (Op.unary UnOp.not t20_9) w k) (fun t21_10 w =>
  run1 Try.prog Z (pickV t16_6 (Value.bool true) t21_10) w fun t22_11 w =>
  guardW (t22_11) false (fun k => k (x1) w) (fun t24_12 w =>
  guardW (t22_11) false (fun k => k (x2) w) (fun t25_13 w =>
  guardW (t22_11) false (fun k => run1 Try.prog Z (eqOp BinOp.eql 31 false false t24_12 t25_13) w k) (fun t26_14 w =>
  run1 Try.prog Z (pickV t22_11 (Value.bool true) t26_14) w fun t27_15 w =>
  guardW (t27_15) false (fun k => k (x3) w) (fun t29_16 w =>
  guardW (t27_15) false (fun k => run1 Try.prog Z (Builtin.len_ #[25] 3 #[t29_16]) w k) (fun t30_17 w =>
  guardW (t27_15) false (fun k => run1 Try.prog Z (binOp BinOp.lss 3 t30_17 (Value.int IntKind.i64 1)) w k) (fun t31_18 w =>
  run1 Try.prog Z (pickV t27_15 (Value.bool true) t31_18) w fun t32_19 w =>
  guardW (t32_19) false (fun k => k (x3) w) (fun t34_20 w =>
  guardW (t32_19) false (fun k => run1 Try.prog Z (Builtin.len_ #[25] 3 #[t34_20]) w k) (fun t35_21 w =>
  guardW (t32_19) false (fun k => run1 Try.prog Z (binOp BinOp.gtr 3 t35_21 (Value.int IntKind.i64 8192)) w k) (fun t36_22 w =>
  run1 Try.prog Z (pickV t32_19 (Value.bool true) t36_22) w fun t37_23 w =>
  CondV t37_23 (
    Q (Value.int IntKind.i64 1) w) (
    Drawn w fun w =>
    PureV Try.prog (nilChk x0) fun t40_24 =>
    Pure1 Try.prog (Instr.fieldAt 51 t40_24 1) fun t41_25 =>
    Read1 Try.prog (Instr.loadAt 49 t41_25) w fun t42_26 =>
    Pure1 Try.prog (Instr.build 34 #[(0, x1), (1, x2), (2, x3)]) fun t46_27 =>
    CallV Try.prog Z 20 #[t46_27] w fun t47_28 w =>
      Still Try.prog (nx (Instr.loadAt 49 t41_25)) t42_26 w <|
    run1 Try.prog Z (Instr.buildSlice 49 1 #[(0, t47_28)]) w fun t48_29 w =>
      Still Try.prog (nx (Instr.loadAt 49 t41_25)) t42_26 w <|
    run1 Try.prog Z (Builtin.append_ #[49, 49] 49 #[t42_26, t48_29]) w fun t49_30 w =>
    PureV Try.prog (nilChk x0) fun t50_31 =>
    Pure1 Try.prog (Instr.fieldAt 51 t50_31 1) fun t51_32 =>
    run0 Try.prog Z (Instr.storeAt 49 t51_32 t49_30) w fun w =>
    Q (Value.int IntKind.i64 0) w)) w) w) w) w) w) w) w) w) w) w) w) w) w) w) w) w) w
noncomputable def f8.code : Code := match Try.f8.body with | some c => c | none => .skip
def f8.an : An := (.sq .leaf (.sq (.sq .leaf (.cn (.sq .leaf .leaf) .leaf)) (.sq (.dr (.take 0 false (.take 1 false (.take 2 false (.take 3 false (.take 4 true (.take 5 false (.take 6 false (.take 7 false (.take 8 false (.one 9 (.one 10 (.one 11 (.take 12 false (.take 13 false (.one 14 .fin)))))))))))))))) (.sq .leaf .leaf))))
theorem f8.body_eq : Try.f8.body = some f8.code := by kernel_rfl
theorem f8.shape (Z : List PanicEntry → World → Prop) (x0 x1 x2 x3 : Value) (w : World) (Q : Value → World → Prop) : vc drawD Try.prog 52 Z [18, 19, 20] f8.an f8.code (fnQ Try.prog 52 Try.f8.results Q) (argEnv [x0, x1, x2, x3]) w = f8.sh Z x0 x1 x2 x3 w Q := by kernel_rfl
theorem f8.enters : ∀ f, f ∈ ([18, 19, 20] : List Nat) → Enters Try.prog f := by
  intro f hf
  simp only [List.mem_cons, List.not_mem_nil, or_false] at hf
  rcases hf with rfl | rfl | rfl
  · exact en18
  · exact en19
  · exact en20
theorem f8.calls {Z : List PanicEntry → World → Prop} {x0 x1 x2 x3 : Value} {w : World} {Q : Value → World → Prop} (h : f8.sh Z x0 x1 x2 x3 w Q) : CallV Try.prog Z 8 #[x0, x1, x2, x3] w Q :=
  calls_of_vcn drawD_sound (Q := Q) (n := 52) (rs := Try.f8.results) (an := f8.an) (c := f8.code) (cal := [18, 19, 20]) (args := [x0, x1, x2, x3]) Try.func8 (by kernel_rfl) rfl f8.body_eq follows (Nat.le_of_ble_eq_true (by kernel_rfl)) (enters_of_all f8.enters) ((f8.shape Z x0 x1 x2 x3 w Q).mpr h)

/-! ### 9: lagoon/lagoonref00.CopyBytes -/
def f9.sh (Z : List PanicEntry → World → Prop) (x0 : Value) (w : World) (Q : Value → World → Prop) : Prop :=
  ∃ J_1 : Nat → Value → Value → World → Prop, (∃ m, J_1 m (Value.slice none 0 0) (Value.int IntKind.i64 0) w) ∧
    ∀ m_1, ∀ t3_2 : Value, ∀ t4_3 : Value, ∀ w : World, J_1 m_1 t3_2 t4_3 w → Env →
      run1 Try.prog Z (Builtin.len_ #[25] 3 #[x0]) w fun t7_4 w =>
      run1 Try.prog Z (binOp BinOp.lss 3 t4_3 t7_4) w fun t8_5 w =>
      CondV t8_5 (
        run1 Try.prog Z (Instr.indexAt 25 x0 t4_3) w fun t14_6 w =>
        run1 Try.prog Z (Instr.loadAt 5 t14_6) w fun t15_7 w =>
        run1 Try.prog Z (Instr.buildSlice 25 1 #[(0, t15_7)]) w fun t16_8 w =>
        run1 Try.prog Z (Builtin.append_ #[25, 25] 25 #[t3_2, t16_8]) w fun t17_9 w =>
        run1 Try.prog Z (binOp BinOp.add 3 t4_3 (Value.int IntKind.i64 1)) w fun t10_10 w =>
        ∃ n_1, n_1 < m_1 ∧ J_1 n_1 t17_9 t10_10 w) (
        Q t3_2 w)
noncomputable def f9.code : Code := match Try.f9.body with | some c => c | none => .skip
def f9.an : An := (.sq .leaf (.sq .leaf (.sq (.sq .leaf (.bl (.lp [3, 4] [3, 4, 5, 6, 7, 8, 9, 10, 11, 12, 13, 14, 15, 16, 17] (.sq (.sq .leaf (.cn .leaf .leaf)) (.sq (.bl .leaf) .leaf))))) (.sq .leaf .leaf))))
theorem f9.body_eq : Try.f9.body = some f9.code := by kernel_rfl
theorem f9.shape (Z : List PanicEntry → World → Prop) (x0 : Value) (w : World) (Q : Value → World → Prop) : vc drawD Try.prog 19 Z [] f9.an f9.code (fnQ Try.prog 19 Try.f9.results Q) (argEnv [x0]) w = f9.sh Z x0 w Q := by kernel_rfl
theorem f9.enters : ∀ f, f ∈ ([] : List Nat) → Enters Try.prog f := by
  intro f hf
  cases hf
theorem f9.calls {Z : List PanicEntry → World → Prop} {x0 : Value} {w : World} {Q : Value → World → Prop} (h : f9.sh Z x0 w Q) : CallV Try.prog Z 9 #[x0] w Q :=
  calls_of_vcn drawD_sound (Q := Q) (n := 19) (rs := Try.f9.results) (an := f9.an) (c := f9.code) (cal := []) (args := [x0]) Try.func9 (by kernel_rfl) rfl f9.body_eq follows (Nat.le_of_ble_eq_true (by kernel_rfl)) (enters_of_all f9.enters) ((f9.shape Z x0 w Q).mpr h)

/-! ### 10: (*lagoon/link.Net).Take -/
def f10.sh (Z : List PanicEntry → World → Prop) (x0 x1 : Value) (w : World) (Q : Value → World → Prop) : Prop :=
  run1 Try.prog Z (Instr.box 26 x0) w fun t2_1 w =>
  run1 Try.prog Z (Instr.box 3 x1) w fun t3_2 w =>
  run1 Try.prog Z (Instr.alloc 34 true (.tuple #[])) w fun t4_3 w =>
  run1 Try.prog Z (Instr.alloc 34 true (.tuple #[])) w fun t6_4 w =>
  run1 Try.prog Z (Instr.loadAt 26 t2_1) w fun t8_5 w =>
  run1 Try.prog Z (Instr.loadAt 3 t3_2) w fun t9_6 w =>
  run1 Try.prog Z (Instr.makeFunc (Fn.func 22) #[] #[t6_4, t2_1, t3_2]) w fun t10_7 w =>
  CallV Try.prog Z 21 #[t8_5, t9_6, t10_7] w fun t11_8 w =>
  run1 Try.prog Z (Instr.loadAt 34 t6_4) w fun t12_9 w =>
  run0 Try.prog Z (Instr.storeAt 34 t4_3 t12_9) w fun w =>
  ∃ r_10, (do loadVar 34 (← asAddr t4_3) : Sem Value).run Try.prog w = .ok r_10 w ∧
  Q (Value.tuple #[r_10, t11_8]) w
noncomputable def f10.code : Code := match Try.f10.body with | some c => c | none => .skip
def f10.an : An := (.sq .leaf (.sq .leaf (.sq .leaf (.sq .leaf .leaf))))
theorem f10.body_eq : Try.f10.body = some f10.code := by kernel_rfl
theorem f10.shape (Z : List PanicEntry → World → Prop) (x0 x1 : Value) (w : World) (Q : Value → World → Prop) : vc drawD Try.prog 14 Z [21] f10.an f10.code (fnQ Try.prog 14 Try.f10.results Q) (argEnv [x0, x1]) w = f10.sh Z x0 x1 w Q := by kernel_rfl
theorem f10.enters : ∀ f, f ∈ ([21] : List Nat) → Enters Try.prog f := by
  intro f hf
  simp only [List.mem_cons, List.not_mem_nil, or_false] at hf
  rcases hf with rfl
  · exact en21
theorem f10.calls {Z : List PanicEntry → World → Prop} {x0 x1 : Value} {w : World} {Q : Value → World → Prop} (h : f10.sh Z x0 x1 w Q) : CallV Try.prog Z 10 #[x0, x1] w Q :=
  calls_of_vcn drawD_sound (Q := Q) (n := 14) (rs := Try.f10.results) (an := f10.an) (c := f10.code) (cal := [21]) (args := [x0, x1]) Try.func10 (by kernel_rfl) rfl f10.body_eq follows (Nat.le_of_ble_eq_true (by kernel_rfl)) (enters_of_all f10.enters) ((f10.shape Z x0 x1 w Q).mpr h)

/-! ### 11: lagoon/lagoonref00.EqBytes -/
def f11.sh (Z : List PanicEntry → World → Prop) (x0 x1 : Value) (w : World) (Q : Value → World → Prop) : Prop :=
  run1 Try.prog Z (Builtin.len_ #[25] 3 #[x0]) w fun t7_1 w =>
  run1 Try.prog Z (Builtin.len_ #[25] 3 #[x1]) w fun t9_2 w =>
  run1 Try.prog Z (eqOp BinOp.neq 3 false false t7_1 t9_2) w fun t10_3 w =>
  CondV t10_3 (
    Q (Value.bool false) w) (
    ∃ J_4 : Nat → Value → World → Prop, (∃ m, J_4 m (Value.int IntKind.i64 0) w) ∧
      ∀ m_4, ∀ t5_5 : Value, ∀ w : World, J_4 m_4 t5_5 w → Env →
        run1 Try.prog Z (Builtin.len_ #[25] 3 #[x0]) w fun t13_6 w =>
        run1 Try.prog Z (binOp BinOp.lss 3 t5_5 t13_6) w fun t14_7 w =>
        CondV t14_7 (
          Drawn w fun w =>
          Pure1 Try.prog (Instr.indexAt 25 x0 t5_5) fun t19_8 =>
          Read1 Try.prog (Instr.loadAt 5 t19_8) w fun t20_9 =>
          Pure1 Try.prog (Instr.indexAt 25 x1 t5_5) fun t23_10 =>
          Read1 Try.prog (Instr.loadAt 5 t23_10) w fun t24_11 =>
          Pure1 Try.prog (eqOp BinOp.neq 5 false false t20_9 t24_11) fun t25_12 =>
          CondV t25_12 (
            Q (Value.bool false) w) (
            run1 Try.prog Z (binOp BinOp.add 3 t5_5 (Value.int IntKind.i64 1)) w fun t16_13 w =>
            ∃ n_4, n_4 < m_4 ∧ J_4 n_4 t16_13 w)) (
          Q (Value.bool true) w))
noncomputable def f11.code : Code := match Try.f11.body with | some c => c | none => .skip
def f11.an : An := (.sq .leaf (.sq (.sq .leaf (.cn (.sq .leaf .leaf) .leaf)) (.sq (.sq .leaf (.bl (.lp [5] [4, 5, 11, 12, 13, 14, 15, 16, 17, 18, 19, 20, 21, 22, 23, 24, 25] (.sq (.sq .leaf (.cn .leaf .leaf)) (.sq (.bl (.sq (.dr (.take 0 false (.take 1 false (.take 2 false (.take 3 true (.take 4 false (.take 5 false (.take 6 false (.take 7 true (.take 8 false .fin)))))))))) (.cn (.sq .leaf .leaf) .leaf))) .leaf))))) (.sq .leaf .leaf))))
theorem f11.body_eq : Try.f11.body = some f11.code := by kernel_rfl
theorem f11.shape (Z : List PanicEntry → World → Prop) (x0 x1 : Value) (w : World) (Q : Value → World → Prop) : vc drawD Try.prog 26 Z [] f11.an f11.code (fnQ Try.prog 26 Try.f11.results Q) (argEnv [x0, x1]) w = f11.sh Z x0 x1 w Q := by kernel_rfl
theorem f11.enters : ∀ f, f ∈ ([] : List Nat) → Enters Try.prog f := by
  intro f hf
  cases hf
theorem f11.calls {Z : List PanicEntry → World → Prop} {x0 x1 : Value} {w : World} {Q : Value → World → Prop} (h : f11.sh Z x0 x1 w Q) : CallV Try.prog Z 11 #[x0, x1] w Q :=
  calls_of_vcn drawD_sound (Q := Q) (n := 26) (rs := Try.f11.results) (an := f11.an) (c := f11.code) (cal := []) (args := [x0, x1]) Try.func11 (by kernel_rfl) rfl f11.body_eq follows (Nat.le_of_ble_eq_true (by kernel_rfl)) (enters_of_all f11.enters) ((f11.shape Z x0 x1 w Q).mpr h)

/-! ### 12: (*lagoon/link.Net).Len -/
def f12.sh (Z : List PanicEntry → World → Prop) (x0 : Value) (w : World) (Q : Value → World → Prop) : Prop :=
  CallV Try.prog Z 18 #[x0] w fun t4_1 w =>
  CondV t4_1 (
    Q (Value.int IntKind.i64 0) w) (
    runX Try.prog Z (nilChk x0) w fun t6_2 w =>
    run1 Try.prog Z (Instr.fieldAt 51 t6_2 1) w fun t7_3 w =>
    run1 Try.prog Z (Instr.loadAt 49 t7_3) w fun t8_4 w =>
    run1 Try.prog Z (Builtin.len_ #[49] 3 #[t8_4]) w fun t9_5 w =>
    Q t9_5 w)
noncomputable def f12.code : Code := match Try.f12.body with | some c => c | none => .skip
def f12.an : An := (.sq .leaf (.sq (.sq .leaf (.cn (.sq .leaf .leaf) .leaf)) (.sq .leaf .leaf)))
theorem f12.body_eq : Try.f12.body = some f12.code := by kernel_rfl
theorem f12.shape (Z : List PanicEntry → World → Prop) (x0 : Value) (w : World) (Q : Value → World → Prop) : vc drawD Try.prog 10 Z [18] f12.an f12.code (fnQ Try.prog 10 Try.f12.results Q) (argEnv [x0]) w = f12.sh Z x0 w Q := by kernel_rfl
theorem f12.enters : ∀ f, f ∈ ([18] : List Nat) → Enters Try.prog f := by
  intro f hf
  simp only [List.mem_cons, List.not_mem_nil, or_false] at hf
  rcases hf with rfl
  · exact en18
theorem f12.calls {Z : List PanicEntry → World → Prop} {x0 : Value} {w : World} {Q : Value → World → Prop} (h : f12.sh Z x0 w Q) : CallV Try.prog Z 12 #[x0] w Q :=
  calls_of_vcn drawD_sound (Q := Q) (n := 10) (rs := Try.f12.results) (an := f12.an) (c := f12.code) (cal := [18]) (args := [x0]) Try.func12 (by kernel_rfl) rfl f12.body_eq follows (Nat.le_of_ble_eq_true (by kernel_rfl)) (enters_of_all f12.enters) ((f12.shape Z x0 w Q).mpr h)

/-! ### 13: lagoon/lagoonlaw22.long -/
def f13.sh (Z : List PanicEntry → World → Prop) (x0 : Value) (w : World) (Q : Value → World → Prop) : Prop :=
  ∃ J_1 : Nat → Value → Value → Value → World → Prop, (∃ m, J_1 m (Value.int IntKind.i64 0) (Value.int IntKind.i64 0) (Value.int IntKind.i64 0) w) ∧
    ∀ m_1, ∀ t3_2 : Value, ∀ t4_3 : Value, ∀ t5_4 : Value, ∀ w : World, J_1 m_1 t3_2 t4_3 t5_4 w → Env →
      run1 Try.prog Z (Builtin.len_ #[40] 3 #[x0]) w fun t8_5 w =>
      run1 Try.prog Z (binOp BinOp.lss 3 t5_4 t8_5) w fun t9_6 w =>
      guardW (t9_6) true (fun k => k (t3_2) w) (fun t11_7 w =>
      guardW (t9_6) true (fun k => run1 Try.prog Z (binOp BinOp.leq 3 t11_7 (Value.int IntKind.i64 67108864)) w k) (fun t12_8 w =>
      run1 Try.prog Z (pickV t9_6 t12_8 (Value.bool false)) w fun t13_9 w =>
      CondV t13_9 (
        ∀ j_10 : Value → Value → World → Prop, (∀ t3_11 : Value, ∀ t4_12 : Value, ∀ w : World, (Env →
            run1 Try.prog Z (binOp BinOp.add 3 t5_4 (Value.int IntKind.i64 1)) w fun t15_13 w =>
            ∃ n_1, n_1 < m_1 ∧ J_1 n_1 t3_11 t4_12 t15_13 w) →
            j_10 t3_11 t4_12 w) →
        run1 Try.prog Z (binOp BinOp.add 3 t3_2 (Value.int IntKind.i64 1)) w fun t17_14 w =>
        run1 Try.prog Z (Instr.indexAt 40 x0 t5_4) w fun t20_15 w =>
        run1 Try.prog Z (Instr.fieldAt 43 t20_15 4) w fun t21_16 w =>
        run1 Try.prog Z (Instr.loadAt 25 t21_16) w fun t22_17 w =>
        run1 Try.prog Z (Builtin.len_ #[25] 3 #[t22_17]) w fun t23_18 w =>
        run1 Try.prog Z (binOp BinOp.add 3 t17_14 t23_18) w fun t24_19 w =>
        run1 Try.prog Z (Instr.indexAt 40 x0 t5_4) w fun t28_20 w =>
        run1 Try.prog Z (Instr.fieldAt 43 t28_20 4) w fun t29_21 w =>
        run1 Try.prog Z (Instr.loadAt 25 t29_21) w fun t30_22 w =>
        run1 Try.prog Z (Builtin.len_ #[25] 3 #[t30_22]) w fun t31_23 w =>
        run1 Try.prog Z (Builtin.max_ #[3, 3] 3 #[t4_3, t31_23]) w fun t32_24 w =>
        run1 Try.prog Z (Instr.indexAt 40 x0 t5_4) w fun t35_25 w =>
        run1 Try.prog Z (Instr.fieldAt 43 t35_25 0) w fun t36_26 w =>
        run1 Try.prog Z (Instr.loadAt 3 t36_26) w fun t37_27 w =>
        run1 Try.prog Z (eqOp BinOp.eql 3 false true t37_27 (Value.int IntKind.i64 3)) w fun t38_28 w =>
        CondV t38_28 (
          run1 Try.prog Z (binOp BinOp.add 3 t24_19 t32_24) w fun t41_29 w =>
          j_10 t41_29 t32_24 w) (
          j_10 t24_19 t32_24 w)) (
        run1 Try.prog Z (binOp BinOp.gtr 3 t3_2 (Value.int IntKind.i64 67108864)) w fun t43_30 w =>
        Q t43_30 w)) w) w
noncomputable def f13.code : Code := match Try.f13.body with | some c => c | none => .skip
def f13.an : An := (.sq .leaf (.sq .leaf (.sq (.sq .leaf (.bl (.lp [3, 4, 5] [3, 4, 5, 6, 7, 8, 9, 10, 11, 12, 13, 14, 15, 16, 17, 18, 19, 20, 21, 22, 23, 24, 25, 26, 27, 28, 29, 30, 31, 32, 33, 34, 35, 36, 37, 38, 39, 40, 41] (.sq (.sq .leaf (.cn .leaf .leaf)) (.sj [3, 4] [3, 4, 16, 17, 18, 19, 20, 21, 22, 23, 24, 25, 26, 27, 28, 29, 30, 31, 32, 33, 34, 35, 36, 37, 38, 39, 40, 41] (.bl (.sq .leaf (.sq .leaf (.sq .leaf (.cn .leaf .leaf))))) .leaf))))) (.sq .leaf .leaf))))
theorem f13.body_eq : Try.f13.body = some f13.code := by kernel_rfl
theorem f13.shape (Z : List PanicEntry → World → Prop) (x0 : Value) (w : World) (Q : Value → World → Prop) : vc drawD Try.prog 44 Z [] f13.an f13.code (fnQ Try.prog 44 Try.f13.results Q) (argEnv [x0]) w = f13.sh Z x0 w Q := by kernel_rfl
theorem f13.enters : ∀ f, f ∈ ([] : List Nat) → Enters Try.prog f := by
  intro f hf
  cases hf
theorem f13.calls {Z : List PanicEntry → World → Prop} {x0 : Value} {w : World} {Q : Value → World → Prop} (h : f13.sh Z x0 w Q) : CallV Try.prog Z 13 #[x0] w Q :=
  calls_of_vcn drawD_sound (Q := Q) (n := 44) (rs := Try.f13.results) (an := f13.an) (c := f13.code) (cal := []) (args := [x0]) Try.func13 (by kernel_rfl) rfl f13.body_eq follows (Nat.le_of_ble_eq_true (by kernel_rfl)) (enters_of_all f13.enters) ((f13.shape Z x0 w Q).mpr h)

/-! ### 14: (*lagoon/link.Net).Double -/
def f14.sh (Z : List PanicEntry → World → Prop) (x0 x1 : Value) (w : World) (Q : Value → World → Prop) : Prop :=
  run1 Try.prog Z (Instr.makeFunc (Fn.func 23) #[x0] #[]) w fun t8_1 w =>
  CallV Try.prog Z 21 #[x0, x1, t8_1] w fun t9_2 w =>
  Q t9_2 w
noncomputable def f14.code : Code := match Try.f14.body with | some c => c | none => .skip
def f14.an : An := (.sq .leaf (.sq .leaf .leaf))
theorem f14.body_eq : Try.f14.body = some f14.code := by kernel_rfl
theorem f14.shape (Z : List PanicEntry → World → Prop) (x0 x1 : Value) (w : World) (Q : Value → World → Prop) : vc drawD Try.prog 10 Z [21] f14.an f14.code (fnQ Try.prog 10 Try.f14.results Q) (argEnv [x0, x1]) w = f14.sh Z x0 x1 w Q := by kernel_rfl
theorem f14.enters : ∀ f, f ∈ ([21] : List Nat) → Enters Try.prog f := by
  intro f hf
  simp only [List.mem_cons, List.not_mem_nil, or_false] at hf
  rcases hf with rfl
  · exact en21
theorem f14.calls {Z : List PanicEntry → World → Prop} {x0 x1 : Value} {w : World} {Q : Value → World → Prop} (h : f14.sh Z x0 x1 w Q) : CallV Try.prog Z 14 #[x0, x1] w Q :=
  calls_of_vcn drawD_sound (Q := Q) (n := 10) (rs := Try.f14.results) (an := f14.an) (c := f14.code) (cal := [21]) (args := [x0, x1]) Try.func14 (by kernel_rfl) rfl f14.body_eq follows (Nat.le_of_ble_eq_true (by kernel_rfl)) (enters_of_all f14.enters) ((f14.shape Z x0 x1 w Q).mpr h)

/-! ### 15: (*lagoon/link.Net).Spoil -/
def f15.sh (Z : List PanicEntry → World → Prop) (x0 x1 x2 x3 : Value) (w : World) (Q : Value → World → Prop) : Prop :=
  run1 Try.prog Z (Instr.box 3 x2) w fun t6_1 w =>
  run1 Try.prog Z (Instr.box 5 x3) w fun t7_2 w =>
  run1 Try.prog Z (Instr.makeFunc (Fn.func 24) #[] #[t6_1, t7_2]) w fun t11_3 w =>
  CallV Try.prog Z 21 #[x0, x1, t11_3] w fun t12_4 w =>
  Q t12_4 w
noncomputable def f15.code : Code := match Try.f15.body with | some c => c | none => .skip
def f15.an : An := (.sq .leaf (.sq .leaf .leaf))
theorem f15.body_eq : Try.f15.body = some f15.code := by kernel_rfl
theorem f15.shape (Z : List PanicEntry → World → Prop) (x0 x1 x2 x3 : Value) (w : World) (Q : Value → World → Prop) : vc drawD Try.prog 13 Z [21] f15.an f15.code (fnQ Try.prog 13 Try.f15.results Q) (argEnv [x0, x1, x2, x3]) w = f15.sh Z x0 x1 x2 x3 w Q := by kernel_rfl
theorem f15.enters : ∀ f, f ∈ ([21] : List Nat) → Enters Try.prog f := by
  intro f hf
  simp only [List.mem_cons, List.not_mem_nil, or_false] at hf
  rcases hf with rfl
  · exact en21
theorem f15.calls {Z : List PanicEntry → World → Prop} {x0 x1 x2 x3 : Value} {w : World} {Q : Value → World → Prop} (h : f15.sh Z x0 x1 x2 x3 w Q) : CallV Try.prog Z 15 #[x0, x1, x2, x3] w Q :=
  calls_of_vcn drawD_sound (Q := Q) (n := 13) (rs := Try.f15.results) (an := f15.an) (c := f15.code) (cal := [21]) (args := [x0, x1, x2, x3]) Try.func15 (by kernel_rfl) rfl f15.body_eq follows (Nat.le_of_ble_eq_true (by kernel_rfl)) (enters_of_all f15.enters) ((f15.shape Z x0 x1 x2 x3 w Q).mpr h)

/-! ### 16: lagoon/lagoonlaw22.near -/
def f16.sh (Z : List PanicEntry → World → Prop) (x0 x1 x2 : Value) (w : World) (Q : Value → World → Prop) : Prop :=
  run1 Try.prog Z (Builtin.len_ #[25] 3 #[x0]) w fun t10_1 w =>
  run1 Try.prog Z (Builtin.len_ #[25] 3 #[x1]) w fun t12_2 w =>
  run1 Try.prog Z (eqOp BinOp.neq 3 false false t10_1 t12_2) w fun t13_3 w =>
  CondV t13_3 (
    Q (Value.bool false) w) (
    ∃ J_4 : Nat → Value → Value → World → Prop, (∃ m, J_4 m (Value.int IntKind.i64 0) (Value.int IntKind.i64 0) w) ∧
      ∀ m_4, ∀ t7_5 : Value, ∀ t8_6 : Value, ∀ w : World, J_4 m_4 t7_5 t8_6 w → Env →
        run1 Try.prog Z (Builtin.len_ #[25] 3 #[x0]) w fun t16_7 w =>
        run1 Try.prog Z (binOp BinOp.lss 3 t8_6 t16_7) w fun t17_8 w =>
        CondV t17_8 (
          ∀ j_9 : Value → World → Prop, (∀ t7_10 : Value, ∀ w : World, (Env →
              run1 Try.prog Z (binOp BinOp.add 3 t8_6 (Value.int IntKind.i64 1)) w fun t19_11 w =>
              ∃ n_4, n_4 < m_4 ∧ J_4 n_4 t7_10 t19_11 w) →
              j_9 t7_10 w) →
          Drawn w fun w =>
          Pure1 Try.prog (Instr.indexAt 25 x0 t8_6) fun t22_12 =>
          Read1 Try.prog (Instr.loadAt 5 t22_12) w fun t23_13 =>
          Pure1 Try.prog (Instr.indexAt 25 x1 t8_6) fun t26_14 =>
          Read1 Try.prog (Instr.loadAt 5 t26_14) w fun t27_15 =>
          Pure1 Try.prog (eqOp BinOp.neq 5 false false t23_13 t27_15) fun t28_16 =>
          CondV t28_16 (
            run1 Try.prog Z (binOp BinOp.add 3 t7_5 (Value.int IntKind.i64 1)) w fun t30_17 w =>
            j_9 t30_17 w) (
            j_9 t7_5 w)) (
          run1 Try.prog Z (eqOp BinOp.eql 3 false true t7_5 (Value.int IntKind.i64 0)) w fun t32_18 w =>
          guardW (t32_18) true (fun k => k (x2) w) (fun t34_19 w =>
          guardW (t32_18) true (fun k => run1 Try.prog Z (Op.unary UnOp.not t34_19) w k) (fun t35_20 w =>
          run1 Try.prog Z (pickV t32_18 t35_20 (Value.bool false)) w fun t36_21 w =>
          guardW (t36_21) false (fun k => k (t7_5) w) (fun t38_22 w =>
          guardW (t36_21) false (fun k => run1 Try.prog Z (eqOp BinOp.eql 3 false true t38_22 (Value.int IntKind.i64 1)) w k) (fun t39_23 w =>
          guardW (t36_21) false (fun k => k (t39_23) w) (fun t40_24 w =>
          guardW (t40_24) true (fun k => k (x2) w) (fun t41_25 w =>
          guardW (t36_21) false (fun k => run1 Try.prog Z (pickV t40_24 t41_25 (Value.bool false)) w k) (fun t42_26 w =>
          run1 Try.prog Z (pickV t36_21 (Value.bool true) t42_26) w fun t43_27 w =>
          Q t43_27 w) w) w) w) w) w) w) w))
noncomputable def f16.code : Code := match Try.f16.body with | some c => c | none => .skip
def f16.an : An := (.sq .leaf (.sq (.sq .leaf (.cn (.sq .leaf .leaf) .leaf)) (.sq .leaf (.sq (.sq .leaf (.bl (.lp [7, 8] [7, 8, 14, 15, 16, 17, 18, 19, 20, 21, 22, 23, 24, 25, 26, 27, 28, 29, 30] (.sq (.sq .leaf (.cn .leaf .leaf)) (.sj [7] [7, 20, 21, 22, 23, 24, 25, 26, 27, 28, 29, 30] (.bl (.sq (.dr (.take 0 false (.take 1 false (.take 2 false (.take 3 true (.take 4 false (.take 5 false (.take 6 false (.take 7 true (.take 8 false .fin)))))))))) (.cn .leaf .leaf))) .leaf))))) (.sq .leaf .leaf)))))
theorem f16.body_eq : Try.f16.body = some f16.code := by kernel_rfl
theorem f16.shape (Z : List PanicEntry → World → Prop) (x0 x1 x2 : Value) (w : World) (Q : Value → World → Prop) : vc drawD Try.prog 44 Z [] f16.an f16.code (fnQ Try.prog 44 Try.f16.results Q) (argEnv [x0, x1, x2]) w = f16.sh Z x0 x1 x2 w Q := by kernel_rfl
theorem f16.enters : ∀ f, f ∈ ([] : List Nat) → Enters Try.prog f := by
  intro f hf
  cases hf
theorem f16.calls {Z : List PanicEntry → World → Prop} {x0 x1 x2 : Value} {w : World} {Q : Value → World → Prop} (h : f16.sh Z x0 x1 x2 w Q) : CallV Try.prog Z 16 #[x0, x1, x2] w Q :=
  calls_of_vcn drawD_sound (Q := Q) (n := 44) (rs := Try.f16.results) (an := f16.an) (c := f16.code) (cal := []) (args := [x0, x1, x2]) Try.func16 (by kernel_rfl) rfl f16.body_eq follows (Nat.le_of_ble_eq_true (by kernel_rfl)) (enters_of_all f16.enters) ((f16.shape Z x0 x1 x2 w Q).mpr h)

/-! ### 17: lagoon/lagoonlaw22.nothing -/
def f17.sh (Z : List PanicEntry → World → Prop) (x0 x1 : Value) (w : World) (Q : Value → World → Prop) : Prop :=
  run1 Try.prog Z (Instr.box 43 x1) w fun t3_1 w =>
  Drawn w fun w =>
  Pure1 Try.prog (Instr.fieldAt 43 t3_1 2) fun t12_2 =>
  Read1 Try.prog (Instr.loadAt 31 t12_2) w fun t13_3 =>
  Pure1 Try.prog (Instr.fieldAt 43 t3_1 3) fun t14_4 =>
  Read1 Try.prog (Instr.loadAt 31 t14_4) w fun t15_5 =>
  Pure1 Try.prog (Instr.fieldAt 43 t3_1 4) fun t16_6 =>
  Read1 Try.prog (Instr.loadAt 25 t16_6) w fun t17_7 =>
  CallV Try.prog Z 9 #[t17_7] w fun t18_8 w =>
    Still Try.prog (nx (Instr.loadAt 31 t14_4)) t15_5 w <|
    Still Try.prog (nx (Instr.loadAt 31 t12_2)) t13_3 w <|
  CallV Try.prog Z 8 #[x0, t13_3, t15_5, t18_8] w fun t19_9 w =>
  run1 Try.prog Z (Instr.fieldAt 43 t3_1 5) w fun t22_10 w =>
  run1 Try.prog Z (Instr.loadAt 3 t22_10) w fun t23_11 w =>
  CallV Try.prog Z 10 #[x0, t23_11] w fun t24_12 w =>
  run1 Try.prog Z (Instr.extract t24_12 0) w fun t25_13 w =>
  run1 Try.prog Z (Instr.extract t24_12 1) w fun t26_14 w =>
  run1 Try.prog Z (Instr.alloc 34 true (.tuple #[])) w fun t6_15 w =>
  run0 Try.prog Z (Instr.storeAt 34 t6_15 t25_13) w fun w =>
  run1 Try.prog Z (Instr.fieldAt 43 t3_1 5) w fun t28_16 w =>
  run1 Try.prog Z (Instr.loadAt 3 t28_16) w fun t29_17 w =>
  CallV Try.prog Z 14 #[x0, t29_17] w fun t30_18 w =>
  run1 Try.prog Z (Instr.fieldAt 43 t3_1 5) w fun t32_19 w =>
  run1 Try.prog Z (Instr.loadAt 3 t32_19) w fun t33_20 w =>
  run1 Try.prog Z (Instr.fieldAt 43 t3_1 6) w fun t34_21 w =>
  run1 Try.prog Z (Instr.loadAt 3 t34_21) w fun t35_22 w =>
  run1 Try.prog Z (Instr.fieldAt 43 t3_1 7) w fun t36_23 w =>
  run1 Try.prog Z (Instr.loadAt 5 t36_23) w fun t37_24 w =>
  CallV Try.prog Z 15 #[x0, t33_20, t35_22, t37_24] w fun t38_25 w =>
  run1 Try.prog Z (Instr.loadAt 34 t6_15) w fun t39_26 w =>
  run1 Try.prog Z (Instr.buildSlice 49 1 #[(0, t39_26)]) w fun t40_27 w =>
  run1 Try.prog Z (Instr.build 34 #[]) w fun t41_28 w =>
  run1 Try.prog Z (Instr.buildSlice 49 1 #[(0, t41_28)]) w fun t42_29 w =>
  CallV Try.prog Z 25 #[t40_27, t42_29] w fun t43_30 w =>
  guardW (t43_30) true (fun k => k (t19_9) w) (fun t46_31 w =>
  guardW (t43_30) true (fun k => run1 Try.prog Z (eqOp BinOp.eql 27 false true t46_31 (Value.int IntKind.i64 1)) w k) (fun t47_32 w =>
  run1 Try.prog Z (pickV t43_30 t47_32 (Value.bool false)) w fun t48_33 w =>
  guardW (t48_33) true (fun k => k (t26_14) w) (fun t50_34 w =>
  guardW (t48_33) true (fun k => k (t19_9) w) (fun t51_35 w =>
  guardW (t48_33) true (fun k => run1 Try.prog Z (eqOp BinOp.eql 27 false false t50_34 t51_35) w k) (fun t52_36 w =>
  run1 Try.prog Z (pickV t48_33 t52_36 (Value.bool false)) w fun t53_37 w =>
  guardW (t53_37) true (fun k => k (t30_18) w) (fun t55_38 w =>
  guardW (t53_37) true (fun k => k (t19_9) w) (fun t56_39 w =>
  guardW (t53_37) true (fun k => run1 Try.prog Z (eqOp BinOp.eql 27 false false t55_38 t56_39) w k) (fun t57_40 w =>
  run1 Try.prog Z (pickV t53_37 t57_40 (Value.bool false)) w fun t58_41 w =>
  guardW (t58_41) true (fun k => k (t38_25) w) (fun t60_42 w =>
  guardW (t58_41) true (fun k => k (t19_9) w) (fun t61_43 w =>
  guardW (t58_41) true (fun k => run1 Try.prog Z (eqOp BinOp.eql 27 false false t60_42 t61_43) w k) (fun t62_44 w =>
  run1 Try.prog Z (pickV t58_41 t62_44 (Value.bool false)) w fun t63_45 w =>
  guardW (t63_45) true (fun k => k (x0) w) (fun t65_46 w =>
  guardW (t63_45) true (fun k => CallV Try.prog Z 12 #[t65_46] w k) (fun t66_47 w =>
  guardW (t63_45) true (fun k => run1 Try.prog Z (eqOp BinOp.eql 3 false true t66_47 (Value.int IntKind.i64 0)) w k) (fun t67_48 w =>
  run1 Try.prog Z (pickV t63_45 t67_48 (Value.bool false)) w fun t68_49 w =>
  guardW (t68_49) true (fun k => k (x0) w) (fun t70_50 w =>
  guardW (t68_49) true (fun k => CallV Try.prog Z 26 #[t70_50] w k) (fun t71_51 w =>
  guardW (t68_49) true (fun k => run1 Try.prog Z (Builtin.len_ #[49] 3 #[t71_51]) w k) (fun t72_52 w =>
  guardW (t68_49) true (fun k => run1 Try.prog Z (eqOp BinOp.eql 3 false true t72_52 (Value.int IntKind.i64 0)) w k) (fun t73_53 w =>
  run1 Try.prog Z (pickV t68_49 t73_53 (Value.bool false)) w fun t74_54 w =>
  Q t74_54 w) w) w) w) w) w) w) w) w) w) w) w) w) w) w) w) w) w) w
noncomputable def f17.code : Code := match Try.f17.body with | some c => c | none => .skip
def f17.an : An := (.sq .leaf (.sq (.dr (.take 0 false (.take 1 false (.take 2 true (.take 3 false (.take 4 true (.take 5 false (.take 6 true (.one 7 (.one 8 (.take 9 false .fin))))))))))) (.sq .leaf (.sq .leaf (.sq .leaf (.sq .leaf (.sq .leaf .leaf)))))))
theorem f17.body_eq : Try.f17.body = some f17.code := by kernel_rfl
theorem f17.shape (Z : List PanicEntry → World → Prop) (x0 x1 : Value) (w : World) (Q : Value → World → Prop) : vc drawD Try.prog 75 Z [9, 8, 10, 14, 15, 25, 12, 26] f17.an f17.code (fnQ Try.prog 75 Try.f17.results Q) (argEnv [x0, x1]) w = f17.sh Z x0 x1 w Q := by kernel_rfl
theorem f17.enters : ∀ f, f ∈ ([9, 8, 10, 14, 15, 25, 12, 26] : List Nat) → Enters Try.prog f := by
  intro f hf
  simp only [List.mem_cons, List.not_mem_nil, or_false] at hf
  rcases hf with rfl | rfl | rfl | rfl | rfl | rfl | rfl | rfl
  · exact en9
  · exact en8
  · exact en10
  · exact en14
  · exact en15
  · exact en25
  · exact en12
  · exact en26
theorem f17.calls {Z : List PanicEntry → World → Prop} {x0 x1 : Value} {w : World} {Q : Value → World → Prop} (h : f17.sh Z x0 x1 w Q) : CallV Try.prog Z 17 #[x0, x1] w Q :=
  calls_of_vcn drawD_sound (Q := Q) (n := 75) (rs := Try.f17.results) (an := f17.an) (c := f17.code) (cal := [9, 8, 10, 14, 15, 25, 12, 26]) (args := [x0, x1]) Try.func17 (by kernel_rfl) rfl f17.body_eq follows (Nat.le_of_ble_eq_true (by kernel_rfl)) (enters_of_all f17.enters) ((f17.shape Z x0 x1 w Q).mpr h)

/-! ### 18: (*lagoon/link.Net).none -/
def f18.sh (Z : List PanicEntry → World → Prop) (x0 : Value) (w : World) (Q : Value → World → Prop) : Prop :=
  run1 Try.prog Z (eqOp BinOp.eql 26 false true x0 (Value.pointer none)) w fun t4_1 w =>
  guardW (t4_1) false (fun k => k (x0) w) (fun t6_2 w =>
  guardW (t4_1) false (fun k => runX Try.prog Z (nilChk t6_2) w k) (fun t7_3 w =>
  guardW (t4_1) false (fun k => run1 Try.prog Z (Instr.fieldAt 51 t7_3 0) w k) (fun t8_4 w =>
  guardW (t4_1) false (fun k => run1 Try.prog Z (Instr.loadAt 3 t8_4) w k) (fun t9_5 w =>
  guardW (t4_1) false (fun k => run1 Try.prog Z (eqOp BinOp.eql 3 false true t9_5 (Value.int IntKind.i64 0)) w k) (fun t10_6 w =>
  run1 Try.prog Z (pickV t4_1 (Value.bool true) t10_6) w fun t11_7 w =>
  Q t11_7 w) w) w) w) w) w
noncomputable def f18.code : Code := match Try.f18.body with | some c => c | none => .skip
def f18.an : An := (.sq .leaf (.sq .leaf .leaf))
theorem f18.body_eq : Try.f18.body = some f18.code := by kernel_rfl
theorem f18.shape (Z : List PanicEntry → World → Prop) (x0 : Value) (w : World) (Q : Value → World → Prop) : vc drawD Try.prog 12 Z [] f18.an f18.code (fnQ Try.prog 12 Try.f18.results Q) (argEnv [x0]) w = f18.sh Z x0 w Q := by kernel_rfl
theorem f18.enters : ∀ f, f ∈ ([] : List Nat) → Enters Try.prog f := by
  intro f hf
  cases hf
theorem f18.calls {Z : List PanicEntry → World → Prop} {x0 : Value} {w : World} {Q : Value → World → Prop} (h : f18.sh Z x0 w Q) : CallV Try.prog Z 18 #[x0] w Q :=
  calls_of_vcn drawD_sound (Q := Q) (n := 12) (rs := Try.f18.results) (an := f18.an) (c := f18.code) (cal := []) (args := [x0]) Try.func18 (by kernel_rfl) rfl f18.body_eq follows (Nat.le_of_ble_eq_true (by kernel_rfl)) (enters_of_all f18.enters) ((f18.shape Z x0 w Q).mpr h)

/-! ### 19: (*lagoon/link.Net).has -/
def f19.sh (Z : List PanicEntry → World → Prop) (x0 x1 : Value) (w : World) (Q : Value → World → Prop) : Prop :=
  run1 Try.prog Z (binOp BinOp.geq 31 x1 (Value.int IntKind.i8 0)) w fun t6_1 w =>
  guardW (t6_1) true (fun k => k (x1) w) (fun t8_2 w =>
  guardW (t6_1) true (fun k => run1 Try.prog Z (convert 31 3 t8_2) w k) (fun t9_3 w =>
  guardW (t6_1) true (fun k => k (x0) w) (fun t10_4 w =>
  guardW (t6_1) true (fun k => runX Try.prog Z (nilChk t10_4) w k) (fun t11_5 w =>
  guardW (t6_1) true (fun k => run1 Try.prog Z (Instr.fieldAt 51 t11_5 0) w k) (fun t12_6 w =>
  guardW (t6_1) true (fun k => run1 Try.prog Z (Instr.loadAt 3 t12_6) w k) (fun t13_7 w =>
  guardW (t6_1) true (fun k => run1 Try.prog Z (binOp BinOp.lss 3 t9_3 t13_7) w k) (fun t14_8 w =>
  run1 Try.prog Z (pickV t6_1 t14_8 (Value.bool false)) w fun t15_9 w =>
  Q t15_9 w) w) w) w) w) w) w) w
noncomputable def f19.code : Code := match Try.f19.body with | some c => c | none => .skip
def f19.an : An := (.sq .leaf (.sq .leaf .leaf))
theorem f19.body_eq : Try.f19.body = some f19.code := by kernel_rfl
theorem f19.shape (Z : List PanicEntry → World → Prop) (x0 x1 : Value) (w : World) (Q : Value → World → Prop) : vc drawD Try.prog 16 Z [] f19.an f19.code (fnQ Try.prog 16 Try.f19.results Q) (argEnv [x0, x1]) w = f19.sh Z x0 x1 w Q := by kernel_rfl
theorem f19.enters : ∀ f, f ∈ ([] : List Nat) → Enters Try.prog f := by
  intro f hf
  cases hf
theorem f19.calls {Z : List PanicEntry → World → Prop} {x0 x1 : Value} {w : World} {Q : Value → World → Prop} (h : f19.sh Z x0 x1 w Q) : CallV Try.prog Z 19 #[x0, x1] w Q :=
  calls_of_vcn drawD_sound (Q := Q) (n := 16) (rs := Try.f19.results) (an := f19.an) (c := f19.code) (cal := []) (args := [x0, x1]) Try.func19 (by kernel_rfl) rfl f19.body_eq follows (Nat.le_of_ble_eq_true (by kernel_rfl)) (enters_of_all f19.enters) ((f19.shape Z x0 x1 w Q).mpr h)

/-! ### 20: lagoon/link.own -/
def f20.sh (Z : List PanicEntry → World → Prop) (x0 : Value) (w : World) (Q : Value → World → Prop) : Prop :=
  run1 Try.prog Z (Instr.box 34 x0) w fun t1_1 w =>
  run1 Try.prog Z (Instr.alloc 34 true (.tuple #[])) w fun t2_2 w =>
  run1 Try.prog Z (Instr.fieldAt 34 t1_1 2) w fun t4_3 w =>
  run1 Try.prog Z (Instr.loadAt 25 t4_3) w fun t5_4 w =>
  run1 Try.prog Z (Builtin.len_ #[25] 3 #[t5_4]) w fun t6_5 w =>
  run1 Try.prog Z (Instr.makeSlice 25 t6_5 t6_5) w fun t7_6 w =>
  run1 Try.prog Z (Instr.fieldAt 34 t1_1 2) w fun t9_7 w =>
  run1 Try.prog Z (Instr.loadAt 25 t9_7) w fun t10_8 w =>
  run1 Try.prog Z (Builtin.copy_ #[25, 25] 3 #[t7_6, t10_8]) w fun t11_9 w =>
  run1 Try.prog Z (Builtin.len_ #[25] 3 #[t7_6]) w fun t14_10 w =>
  run1 Try.prog Z (Builtin.len_ #[25] 3 #[t7_6]) w fun t16_11 w =>
  run1 Try.prog Z (Instr.sliceAt 25 t7_6 none (some t14_10) (some t16_11)) w fun t17_12 w =>
  run1 Try.prog Z (Instr.fieldAt 34 t1_1 2) w fun t18_13 w =>
  run0 Try.prog Z (Instr.storeAt 25 t18_13 t17_12) w fun w =>
  run1 Try.prog Z (Instr.loadAt 34 t1_1) w fun t19_14 w =>
  run0 Try.prog Z (Instr.storeAt 34 t2_2 t19_14) w fun w =>
  ∃ r_15, (do loadVar 34 (← asAddr t2_2) : Sem Value).run Try.prog w = .ok r_15 w ∧
  Q r_15 w
noncomputable def f20.code : Code := match Try.f20.body with | some c => c | none => .skip
def f20.an : An := (.sq .leaf (.sq .leaf (.sq .leaf (.sq .leaf (.sq .leaf .leaf)))))
theorem f20.body_eq : Try.f20.body = some f20.code := by kernel_rfl
theorem f20.shape (Z : List PanicEntry → World → Prop) (x0 : Value) (w : World) (Q : Value → World → Prop) : vc drawD Try.prog 20 Z [] f20.an f20.code (fnQ Try.prog 20 Try.f20.results Q) (argEnv [x0]) w = f20.sh Z x0 w Q := by kernel_rfl
theorem f20.enters : ∀ f, f ∈ ([] : List Nat) → Enters Try.prog f := by
  intro f hf
  cases hf
theorem f20.calls {Z : List PanicEntry → World → Prop} {x0 : Value} {w : World} {Q : Value → World → Prop} (h : f20.sh Z x0 w Q) : CallV Try.prog Z 20 #[x0] w Q :=
  calls_of_vcn drawD_sound (Q := Q) (n := 20) (rs := Try.f20.results) (an := f20.an) (c := f20.code) (cal := []) (args := [x0]) Try.func20 (by kernel_rfl) rfl f20.body_eq follows (Nat.le_of_ble_eq_true (by kernel_rfl)) (enters_of_all f20.enters) ((f20.shape Z x0 w Q).mpr h)

/-! ### 21: (*lagoon/link.Net).at -/
def f21.sh (Z : List PanicEntry → World → Prop) (x0 x1 x2 : Value) (w : World) (Q : Value → World → Prop) : Prop :=
  CallV Try.prog Z 18 #[x0] w fun t9_1 w =>
  CondV t9_1 (
    Q (Value.int IntKind.i64 1) w) (
    run1 Try.prog Z (binOp BinOp.lss 3 x1 (Value.int IntKind.i64 0)) w fun t12_2 w =>
    guardW (t12_2) false (fun k => k (x1) w) (fun t14_3 w =>
    guardW (t12_2) false (fun k => k (x0) w) (fun t15_4 w =>
    guardW (t12_2) false (fun k => runX Try.prog Z (nilChk t15_4) w k) (fun t16_5 w =>
    guardW (t12_2) false (fun k => run1 Try.prog Z (Instr.fieldAt 51 t16_5 1) w k) (fun t17_6 w =>
    guardW (t12_2) false (fun k => run1 Try.prog Z (Instr.loadAt 49 t17_6) w k) (fun t18_7 w =>
    guardW (t12_2) false (fun k => run1 Try.prog Z (Builtin.len_ #[49] 3 #[t18_7]) w k) (fun t19_8 w =>
    guardW (t12_2) false (fun k => run1 Try.prog Z (binOp BinOp.geq 3 t14_3 t19_8) w k) (fun t20_9 w =>
    run1 Try.prog Z (pickV t12_2 (Value.bool true) t20_9) w fun t21_10 w =>
    CondV t21_10 (
      Q (Value.int IntKind.i64 220) w) (
      runX Try.prog Z (nilChk x0) w fun t24_11 w =>
      run1 Try.prog Z (Instr.fieldAt 51 t24_11 1) w fun t25_12 w =>
      run1 Try.prog Z (Instr.loadAt 49 t25_12) w fun t26_13 w =>
      run1 Try.prog Z (Instr.indexAt 49 t26_13 x1) w fun t28_14 w =>
      runX Try.prog Z (callVal x2 #[t28_14]) w fun t29_15 w =>
      Q t29_15 w)) w) w) w) w) w) w) w)
noncomputable def f21.code : Code := match Try.f21.body with | some c => c | none => .skip
def f21.an : An := (.sq .leaf (.sq (.bl (.sq .leaf (.cn (.sq .leaf .leaf) (.sq .leaf (.cn (.sq .leaf .leaf) .leaf))))) (.sq .leaf .leaf)))
theorem f21.body_eq : Try.f21.body = some f21.code := by kernel_rfl
theorem f21.shape (Z : List PanicEntry → World → Prop) (x0 x1 x2 : Value) (w : World) (Q : Value → World → Prop) : vc drawD Try.prog 30 Z [18] f21.an f21.code (fnQ Try.prog 30 Try.f21.results Q) (argEnv [x0, x1, x2]) w = f21.sh Z x0 x1 x2 w Q := by kernel_rfl
theorem f21.enters : ∀ f, f ∈ ([18] : List Nat) → Enters Try.prog f := by
  intro f hf
  simp only [List.mem_cons, List.not_mem_nil, or_false] at hf
  rcases hf with rfl
  · exact en18
theorem f21.calls {Z : List PanicEntry → World → Prop} {x0 x1 x2 : Value} {w : World} {Q : Value → World → Prop} (h : f21.sh Z x0 x1 x2 w Q) : CallV Try.prog Z 21 #[x0, x1, x2] w Q :=
  calls_of_vcn drawD_sound (Q := Q) (n := 30) (rs := Try.f21.results) (an := f21.an) (c := f21.code) (cal := [18]) (args := [x0, x1, x2]) Try.func21 (by kernel_rfl) rfl f21.body_eq follows (Nat.le_of_ble_eq_true (by kernel_rfl)) (enters_of_all f21.enters) ((f21.shape Z x0 x1 x2 w Q).mpr h)

/-! ### 22: (*lagoon/link.Net).Take$1 -/
def f22.sh (Z : List PanicEntry → World → Prop) (x0 x1 x2 x3 : Value) (w : World) (Q : Value → World → Prop) : Prop :=
  runX Try.prog Z (nilChk x0) w fun t8_1 w =>
  run1 Try.prog Z (Instr.loadAt 34 t8_1) w fun t9_2 w =>
  run0 Try.prog Z (Instr.storeAt 34 x1 t9_2) w fun w =>
  run1 Try.prog Z (Instr.loadAt 26 x2) w fun t10_3 w =>
  runX Try.prog Z (nilChk t10_3) w fun t11_4 w =>
  run1 Try.prog Z (Instr.fieldAt 51 t11_4 1) w fun t12_5 w =>
  run1 Try.prog Z (Instr.loadAt 49 t12_5) w fun t13_6 w =>
  run1 Try.prog Z (Builtin.len_ #[49] 3 #[t13_6]) w fun t14_7 w =>
  run1 Try.prog Z (binOp BinOp.sub 3 t14_7 (Value.int IntKind.i64 1)) w fun t15_8 w =>
  Drawn w fun w =>
  Read1 Try.prog (Instr.loadAt 26 x2) w fun t16_9 =>
  PureV Try.prog (nilChk t16_9) fun t17_10 =>
  Pure1 Try.prog (Instr.fieldAt 51 t17_10 1) fun t18_11 =>
  Read1 Try.prog (Instr.loadAt 49 t18_11) w fun t19_12 =>
  Read1 Try.prog (Instr.loadAt 3 x3) w fun t20_13 =>
  Pure1 Try.prog (Instr.sliceAt 49 t19_12 (some t20_13) none none) fun t21_14 =>
  Read1 Try.prog (Instr.loadAt 26 x2) w fun t22_15 =>
  PureV Try.prog (nilChk t22_15) fun t23_16 =>
  Pure1 Try.prog (Instr.fieldAt 51 t23_16 1) fun t24_17 =>
  Read1 Try.prog (Instr.loadAt 49 t24_17) w fun t25_18 =>
  Read1 Try.prog (Instr.loadAt 3 x3) w fun t26_19 =>
  Pure1 Try.prog (binOp BinOp.add 3 t26_19 (Value.int IntKind.i64 1)) fun t27_20 =>
  Pure1 Try.prog (Instr.sliceAt 49 t25_18 (some t27_20) none none) fun t28_21 =>
  run1 Try.prog Z (Builtin.copy_ #[49, 49] 3 #[t21_14, t28_21]) w fun t29_22 w =>
    Still Try.prog (nx (Instr.loadAt 3 x3)) t26_19 w <|
    Still Try.prog (nx (Instr.loadAt 49 t24_17)) t25_18 w <|
    Still Try.prog (nx (Instr.loadAt 26 x2)) t22_15 w <|
    Still Try.prog (nx (Instr.loadAt 3 x3)) t20_13 w <|
    Still Try.prog (nx (Instr.loadAt 49 t18_11)) t19_12 w <|
    Still Try.prog (nx (Instr.loadAt 26 x2)) t16_9 w <|
  run1 Try.prog Z (Instr.loadAt 26 x2) w fun t30_23 w =>
  runX Try.prog Z (nilChk t30_23) w fun t31_24 w =>
  run1 Try.prog Z (Instr.fieldAt 51 t31_24 1) w fun t32_25 w =>
  run1 Try.prog Z (Instr.loadAt 49 t32_25) w fun t33_26 w =>
  run1 Try.prog Z (Instr.build 34 #[]) w fun t35_27 w =>
  run1 Try.prog Z (Instr.indexAt 49 t33_26 t15_8) w fun t36_28 w =>
  run0 Try.prog Z (Instr.storeAt 34 t36_28 t35_27) w fun w =>
  Drawn w fun w =>
  Read1 Try.prog (Instr.loadAt 26 x2) w fun t37_29 =>
  Read1 Try.prog (Instr.loadAt 26 x2) w fun t38_30 =>
  PureV Try.prog (nilChk t38_30) fun t39_31 =>
  Pure1 Try.prog (Instr.fieldAt 51 t39_31 1) fun t40_32 =>
  Read1 Try.prog (Instr.loadAt 49 t40_32) w fun t41_33 =>
  Pure1 Try.prog (Instr.sliceAt 49 t41_33 none (some t15_8) none) fun t43_34 =>
  PureV Try.prog (nilChk t37_29) fun t44_35 =>
  Pure1 Try.prog (Instr.fieldAt 51 t44_35 1) fun t45_36 =>
  run0 Try.prog Z (Instr.storeAt 49 t45_36 t43_34) w fun w =>
  Q (Value.int IntKind.i64 0) w
noncomputable def f22.code : Code := match Try.f22.body with | some c => c | none => .skip
def f22.an : An := (.sq .leaf (.sq .leaf (.sq .leaf (.sq (.dr (.take 0 true (.take 1 false (.take 2 false (.take 3 true (.take 4 true (.take 5 false (.take 6 true (.take 7 false (.take 8 false (.take 9 true (.take 10 true (.take 11 false (.take 12 false (.one 13 .fin))))))))))))))) (.sq .leaf (.sq (.dr (.take 0 true (.take 1 true (.take 2 false (.take 3 false (.take 4 true (.take 5 false (.take 6 false (.take 7 false (.take 8 false (.one 9 .fin))))))))))) (.sq .leaf .leaf)))))))
theorem f22.body_eq : Try.f22.body = some f22.code := by kernel_rfl
theorem f22.shape (Z : List PanicEntry → World → Prop) (x0 x1 x2 x3 : Value) (w : World) (Q : Value → World → Prop) : vc drawD Try.prog 46 Z [] f22.an f22.code (fnQ Try.prog 46 Try.f22.results Q) (argEnv [x0, x1, x2, x3]) w = f22.sh Z x0 x1 x2 x3 w Q := by kernel_rfl
theorem f22.enters : ∀ f, f ∈ ([] : List Nat) → Enters Try.prog f := by
  intro f hf
  cases hf
theorem f22.calls {Z : List PanicEntry → World → Prop} {x0 x1 x2 x3 : Value} {w : World} {Q : Value → World → Prop} (h : f22.sh Z x0 x1 x2 x3 w Q) : CallV Try.prog Z 22 #[x0, x1, x2, x3] w Q :=
  calls_of_vcn drawD_sound (Q := Q) (n := 46) (rs := Try.f22.results) (an := f22.an) (c := f22.code) (cal := []) (args := [x0, x1, x2, x3]) Try.func22 (by kernel_rfl) rfl f22.body_eq follows (Nat.le_of_ble_eq_true (by kernel_rfl)) (enters_of_all f22.enters) ((f22.shape Z x0 x1 x2 x3 w Q).mpr h)

/-! ### 23: (*lagoon/link.Net).again -/
def f23.sh (Z : List PanicEntry → World → Prop) (x0 x1 : Value) (w : World) (Q : Value → World → Prop) : Prop :=
  Drawn w fun w =>
  PureV Try.prog (nilChk x0) fun t7_1 =>
  Pure1 Try.prog (Instr.fieldAt 51 t7_1 1) fun t8_2 =>
  Read1 Try.prog (Instr.loadAt 49 t8_2) w fun t9_3 =>
  PureV Try.prog (nilChk x1) fun t11_4 =>
  Read1 Try.prog (Instr.loadAt 34 t11_4) w fun t12_5 =>
  CallV Try.prog Z 20 #[t12_5] w fun t13_6 w =>
    Still Try.prog (nx (Instr.loadAt 49 t8_2)) t9_3 w <|
  run1 Try.prog Z (Instr.buildSlice 49 1 #[(0, t13_6)]) w fun t14_7 w =>
    Still Try.prog (nx (Instr.loadAt 49 t8_2)) t9_3 w <|
  run1 Try.prog Z (Builtin.append_ #[49, 49] 49 #[t9_3, t14_7]) w fun t15_8 w =>
  PureV Try.prog (nilChk x0) fun t16_9 =>
  Pure1 Try.prog (Instr.fieldAt 51 t16_9 1) fun t17_10 =>
  run0 Try.prog Z (Instr.storeAt 49 t17_10 t15_8) w fun w =>
  Q (Value.int IntKind.i64 0) w
noncomputable def f23.code : Code := match Try.f23.body with | some c => c | none => .skip
def f23.an : An := (.sq .leaf (.sq (.dr (.take 0 false (.take 1 false (.take 2 false (.take 3 false (.take 4 true (.take 5 false (.take 6 false (.take 7 true (.one 8 (.one 9 (.one 10 (.take 11 false (.take 12 false (.one 13 .fin))))))))))))))) (.sq .leaf .leaf)))
theorem f23.body_eq : Try.f23.body = some f23.code := by kernel_rfl
theorem f23.shape (Z : List PanicEntry → World → Prop) (x0 x1 : Value) (w : World) (Q : Value → World → Prop) : vc drawD Try.prog 18 Z [20] f23.an f23.code (fnQ Try.prog 18 Try.f23.results Q) (argEnv [x0, x1]) w = f23.sh Z x0 x1 w Q := by kernel_rfl
theorem f23.enters : ∀ f, f ∈ ([20] : List Nat) → Enters Try.prog f := by
  intro f hf
  simp only [List.mem_cons, List.not_mem_nil, or_false] at hf
  rcases hf with rfl
  · exact en20
theorem f23.calls {Z : List PanicEntry → World → Prop} {x0 x1 : Value} {w : World} {Q : Value → World → Prop} (h : f23.sh Z x0 x1 w Q) : CallV Try.prog Z 23 #[x0, x1] w Q :=
  calls_of_vcn drawD_sound (Q := Q) (n := 18) (rs := Try.f23.results) (an := f23.an) (c := f23.code) (cal := [20]) (args := [x0, x1]) Try.func23 (by kernel_rfl) rfl f23.body_eq follows (Nat.le_of_ble_eq_true (by kernel_rfl)) (enters_of_all f23.enters) ((f23.shape Z x0 x1 w Q).mpr h)

/-! ### 24: (*lagoon/link.Net).Spoil$1 -/
def f24.sh (Z : List PanicEntry → World → Prop) (x0 x1 x2 : Value) (w : World) (Q : Value → World → Prop) : Prop :=
  Drawn w fun w =>
  Read1 Try.prog (Instr.loadAt 3 x1) w fun t6_1 =>
  Pure1 Try.prog (binOp BinOp.lss 3 t6_1 (Value.int IntKind.i64 0)) fun t7_2 =>
  guardV (t7_2) false (fun k => Read1 Try.prog (Instr.loadAt 3 x1) w k) (fun t9_3 =>
  guardV (t7_2) false (fun k => k (x0)) (fun t10_4 =>
  guardV (t7_2) false (fun k => PureV Try.prog (nilChk t10_4) k) (fun t11_5 =>
  guardV (t7_2) false (fun k => Pure1 Try.prog (Instr.fieldAt 34 t11_5 2) k) (fun t12_6 =>
  guardV (t7_2) false (fun k => Read1 Try.prog (Instr.loadAt 25 t12_6) w k) (fun t13_7 =>
  guardV (t7_2) false (fun k => Pure1 Try.prog (Builtin.len_ #[25] 3 #[t13_7]) k) (fun t14_8 =>
  guardV (t7_2) false (fun k => Pure1 Try.prog (binOp BinOp.geq 3 t9_3 t14_8) k) (fun t15_9 =>
  Pure1 Try.prog (pickV t7_2 (Value.bool true) t15_9) fun t16_10 =>
  guardV (t16_10) false (fun k => Read1 Try.prog (Instr.loadAt 5 x2) w k) (fun t18_11 =>
  guardV (t16_10) false (fun k => Pure1 Try.prog (eqOp BinOp.eql 5 false true t18_11 (Value.int IntKind.u8 0)) k) (fun t19_12 =>
  Pure1 Try.prog (pickV t16_10 (Value.bool true) t19_12) fun t20_13 =>
  CondV t20_13 (
    Q (Value.int IntKind.i64 1) w) (
    runX Try.prog Z (nilChk x0) w fun t23_14 w =>
    run1 Try.prog Z (Instr.fieldAt 34 t23_14 3) w fun t24_15 w =>
    run1 Try.prog Z (Instr.loadAt 4 t24_15) w fun t25_16 w =>
    CondV t25_16 (
      Q (Value.int IntKind.i64 220) w) (
      Drawn w fun w =>
      PureV Try.prog (nilChk x0) fun t27_17 =>
      Pure1 Try.prog (Instr.fieldAt 34 t27_17 2) fun t28_18 =>
      Read1 Try.prog (Instr.loadAt 25 t28_18) w fun t29_19 =>
      Read1 Try.prog (Instr.loadAt 3 x1) w fun t30_20 =>
      Pure1 Try.prog (Instr.indexAt 25 t29_19 t30_20) fun t31_21 =>
      Read1 Try.prog (Instr.loadAt 5 t31_21) w fun t32_22 =>
      Read1 Try.prog (Instr.loadAt 5 x2) w fun t33_23 =>
      Pure1 Try.prog (binOp BinOp.xor 5 t32_22 t33_23) fun t34_24 =>
      Pure1 Try.prog (Instr.indexAt 25 t29_19 t30_20) fun t35_25 =>
      run0 Try.prog Z (Instr.storeAt 5 t35_25 t34_24) w fun w =>
      runX Try.prog Z (nilChk x0) w fun t37_26 w =>
      run1 Try.prog Z (Instr.fieldAt 34 t37_26 3) w fun t38_27 w =>
      run0 Try.prog Z (Instr.storeAt 4 t38_27 (Value.bool true)) w fun w =>
      Q (Value.int IntKind.i64 0) w)))))))))))
noncomputable def f24.code : Code := match Try.f24.body with | some c => c | none => .skip
def f24.an : An := (.sq .leaf (.sq (.bl (.sq (.dr (.take 0 true (.take 1 false (.take 2 false (.take 3 true (.take 4 false (.take 5 false (.take 6 false (.take 7 true (.take 8 false (.take 9 false (.take 10 false (.take 11 false (.take 12 true (.take 13 false (.take 14 false (.take 15 false .fin))))))))))))))))) (.cn (.sq .leaf .leaf) (.sq .leaf (.cn (.sq .leaf .leaf) .leaf))))) (.sq (.dr (.take 0 false (.take 1 false (.take 2 false (.take 3 true (.take 4 true (.take 5 false (.take 6 true (.take 7 true (.take 8 false (.take 9 false (.one 10 .fin)))))))))))) (.sq .leaf (.sq .leaf .leaf)))))
theorem f24.body_eq : Try.f24.body = some f24.code := by kernel_rfl
theorem f24.shape (Z : List PanicEntry → World → Prop) (x0 x1 x2 : Value) (w : World) (Q : Value → World → Prop) : vc drawD Try.prog 39 Z [] f24.an f24.code (fnQ Try.prog 39 Try.f24.results Q) (argEnv [x0, x1, x2]) w = f24.sh Z x0 x1 x2 w Q := by kernel_rfl
theorem f24.enters : ∀ f, f ∈ ([] : List Nat) → Enters Try.prog f := by
  intro f hf
  cases hf
theorem f24.calls {Z : List PanicEntry → World → Prop} {x0 x1 x2 : Value} {w : World} {Q : Value → World → Prop} (h : f24.sh Z x0 x1 x2 w Q) : CallV Try.prog Z 24 #[x0, x1, x2] w Q :=
  calls_of_vcn drawD_sound (Q := Q) (n := 39) (rs := Try.f24.results) (an := f24.an) (c := f24.code) (cal := []) (args := [x0, x1, x2]) Try.func24 (by kernel_rfl) rfl f24.body_eq follows (Nat.le_of_ble_eq_true (by kernel_rfl)) (enters_of_all f24.enters) ((f24.shape Z x0 x1 x2 w Q).mpr h)

/-! ### 25: lagoon/lagoonref00.EqMessages -/
def f25.sh (Z : List PanicEntry → World → Prop) (x0 x1 : Value) (w : World) (Q : Value → World → Prop) : Prop :=
  run1 Try.prog Z (Builtin.len_ #[49] 3 #[x0]) w fun t7_1 w =>
  run1 Try.prog Z (Builtin.len_ #[49] 3 #[x1]) w fun t9_2 w =>
  run1 Try.prog Z (eqOp BinOp.neq 3 false false t7_1 t9_2) w fun t10_3 w =>
  CondV t10_3 (
    Q (Value.bool false) w) (
    ∃ J_4 : Nat → Value → World → Prop, (∃ m, J_4 m (Value.int IntKind.i64 0) w) ∧
      ∀ m_4, ∀ t5_5 : Value, ∀ w : World, J_4 m_4 t5_5 w → Env →
        run1 Try.prog Z (Builtin.len_ #[49] 3 #[x0]) w fun t13_6 w =>
        run1 Try.prog Z (binOp BinOp.lss 3 t5_5 t13_6) w fun t14_7 w =>
        CondV t14_7 (
          Drawn w fun w =>
          Pure1 Try.prog (Instr.indexAt 49 x0 t5_5) fun t19_8 =>
          Pure1 Try.prog (Instr.fieldAt 34 t19_8 0) fun t20_9 =>
          Read1 Try.prog (Instr.loadAt 31 t20_9) w fun t21_10 =>
          Pure1 Try.prog (Instr.indexAt 49 x1 t5_5) fun t24_11 =>
          Pure1 Try.prog (Instr.fieldAt 34 t24_11 0) fun t25_12 =>
          Read1 Try.prog (Instr.loadAt 31 t25_12) w fun t26_13 =>
          Pure1 Try.prog (eqOp BinOp.neq 31 false false t21_10 t26_13) fun t27_14 =>
          guardV (t27_14) false (fun k => k (x0)) (fun t29_15 =>
          guardV (t27_14) false (fun k => k (t5_5)) (fun t30_16 =>
          guardV (t27_14) false (fun k => Pure1 Try.prog (Instr.indexAt 49 t29_15 t30_16) k) (fun t31_17 =>
          guardV (t27_14) false (fun k => Pure1 Try.prog (Instr.fieldAt 34 t31_17 1) k) (fun t32_18 =>
          guardV (t27_14) false (fun k => Read1 Try.prog (Instr.loadAt 31 t32_18) w k) (fun t33_19 =>
          guardV (t27_14) false (fun k => k (x1)) (fun t34_20 =>
          guardV (t27_14) false (fun k => k (t5_5)) (fun t35_21 =>
          guardV (t27_14) false (fun k => Pure1 Try.prog (Instr.indexAt 49 t34_20 t35_21) k) (fun t36_22 =>
          guardV (t27_14) false (fun k => Pure1 Try.prog (Instr.fieldAt 34 t36_22 1) k) (fun t37_23 =>
          guardV (t27_14) false (fun k => Read1 Try.prog (Instr.loadAt 31 t37_23) w k) (fun t38_24 =>
          guardV (t27_14) false (fun k => Pure1 Try.prog (eqOp BinOp.neq 31 false false t33_19 t38_24) k) (fun t39_25 =>
          Pure1 Try.prog (pickV t27_14 (Value.bool true) t39_25) fun t40_26 =>
          guardV (t40_26) false (fun k => k (x0)) (fun t42_27 =>
          guardV (t40_26) false (fun k => k (t5_5)) (fun t43_28 =>
          guardV (t40_26) false (fun k => Pure1 Try.prog (Instr.indexAt 49 t42_27 t43_28) k) (fun t44_29 =>
          guardV (t40_26) false (fun k => Pure1 Try.prog (Instr.fieldAt 34 t44_29 3) k) (fun t45_30 =>
          guardV (t40_26) false (fun k => Read1 Try.prog (Instr.loadAt 4 t45_30) w k) (fun t46_31 =>
          guardV (t40_26) false (fun k => k (x1)) (fun t47_32 =>
          guardV (t40_26) false (fun k => k (t5_5)) (fun t48_33 =>
          guardV (t40_26) false (fun k => Pure1 Try.prog (Instr.indexAt 49 t47_32 t48_33) k) (fun t49_34 =>
          guardV (t40_26) false (fun k => Pure1 Try.prog (Instr.fieldAt 34 t49_34 3) k) (fun t50_35 =>
          guardV (t40_26) false (fun k => Read1 Try.prog (Instr.loadAt 4 t50_35) w k) (fun t51_36 =>
          guardV (t40_26) false (fun k => Pure1 Try.prog (eqOp BinOp.neq 4 false false t46_31 t51_36) k) (fun t52_37 =>
          Pure1 Try.prog (pickV t40_26 (Value.bool true) t52_37) fun t53_38 =>
          guardV (t53_38) false (fun k => k (x0)) (fun t55_39 =>
          guardV (t53_38) false (fun k => k (t5_5)) (fun t56_40 =>
          guardV (t53_38) false (fun k => Pure1 Try.prog (Instr.indexAt 49 t55_39 t56_40) k) (fun t57_41 =>
          guardV (t53_38) false (fun k => Pure1 Try.prog (Instr.fieldAt 34 t57_41 2) k) (fun t58_42 =>
          guardV (t53_38) false (fun k => Read1 Try.prog (Instr.loadAt 25 t58_42) w k) (fun t59_43 =>
          guardV (t53_38) false (fun k => k (x1)) (fun t60_44 =>
          guardV (t53_38) false (fun k => k (t5_5)) (fun t61_45 =>
          guardV (t53_38) false (fun k => Pure1 Try.prog (Instr.indexAt 49 t60_44 t61_45) k) (fun t62_46 =>
          guardV (t53_38) false (fun k => Pure1 Try.prog (Instr.fieldAt 34 t62_46 2) k) (fun t63_47 =>
          guardV (t53_38) false (fun k => Read1 Try.prog (Instr.loadAt 25 t63_47) w k) (fun t64_48 =>
          guardW (t53_38) false (fun k => CallV Try.prog Z 11 #[t59_43, t64_48] w k) (fun t65_49 w =>
            Still Try.prog (gSem (t40_26) false (nx (Instr.loadAt 4 t50_35))) t51_36 w <|
            Still Try.prog (gSem (t40_26) false (nx (Instr.loadAt 4 t45_30))) t46_31 w <|
            Still Try.prog (gSem (t27_14) false (nx (Instr.loadAt 31 t37_23))) t38_24 w <|
            Still Try.prog (gSem (t27_14) false (nx (Instr.loadAt 31 t32_18))) t33_19 w <|
            Still Try.prog (nx (Instr.loadAt 31 t25_12)) t26_13 w <|
            Still Try.prog (nx (Instr.loadAt 31 t20_9)) t21_10 w <|
            guardV (t53_38) false (fun k => Pure1 Try.prog (Op.unary UnOp.not t65_49) k) (fun t66_50 =>
            Pure1 Try.prog (pickV t53_38 (Value.bool true) t66_50) fun t67_51 =>
            CondV t67_51 (
              Q (Value.bool false) w) (
              run1 Try.prog Z (binOp BinOp.add 3 t5_5 (Value.int IntKind.i64 1)) w fun t16_52 w =>
              ∃ n_4, n_4 < m_4 ∧ J_4 n_4 t16_52 w))) w))))))))))))))))))))))))))))))))) (
          Q (Value.bool true) w))
noncomputable def f25.code : Code := match Try.f25.body with | some c => c | none => .skip
def f25.an : An := (.sq .leaf (.sq (.sq .leaf (.cn (.sq .leaf .leaf) .leaf)) (.sq (.sq .leaf (.bl (.lp [5] [4, 5, 11, 12, 13, 14, 15, 16, 17, 18, 19, 20, 21, 22, 23, 24, 25, 26, 27, 28, 29, 30, 31, 32, 33, 34, 35, 36, 37, 38, 39, 40, 41, 42, 43, 44, 45, 46, 47, 48, 49, 50, 51, 52, 53, 54, 55, 56, 57, 58, 59, 60, 61, 62, 63, 64, 65, 66, 67] (.sq (.sq .leaf (.cn .leaf .leaf)) (.sq (.bl (.sq (.dr (.take 0 false (.take 1 false (.take 2 false (.take 3 false (.take 4 true (.take 5 false (.take 6 false (.take 7 false (.take 8 false (.take 9 true (.take 10 false (.take 11 false (.take 12 false (.take 13 false (.take 14 false (.take 15 false (.take 16 true (.take 17 false (.take 18 false (.take 19 false (.take 20 false (.take 21 true (.take 22 false (.take 23 false (.take 24 false (.take 25 false (.take 26 false (.take 27 false (.take 28 false (.take 29 true (.take 30 false (.take 31 false (.take 32 false (.take 33 false (.take 34 true (.take 35 false (.take 36 false (.take 37 false (.take 38 false (.take 39 false (.take 40 false (.take 41 false (.take 42 true (.take 43 false (.take 44 false (.take 45 false (.take 46 false (.take 47 true (.one 48 (.take 49 false (.take 50 false .fin)))))))))))))))))))))))))))))))))))))))))))))))))))) (.cn (.sq .leaf .leaf) .leaf))) .leaf))))) (.sq .leaf .leaf))))
theorem f25.body_eq : Try.f25.body = some f25.code := by kernel_rfl
theorem f25.shape (Z : List PanicEntry → World → Prop) (x0 x1 : Value) (w : World) (Q : Value → World → Prop) : vc drawD Try.prog 68 Z [11] f25.an f25.code (fnQ Try.prog 68 Try.f25.results Q) (argEnv [x0, x1]) w = f25.sh Z x0 x1 w Q := by kernel_rfl
theorem f25.enters : ∀ f, f ∈ ([11] : List Nat) → Enters Try.prog f := by
  intro f hf
  simp only [List.mem_cons, List.not_mem_nil, or_false] at hf
  rcases hf with rfl
  · exact en11
theorem f25.calls {Z : List PanicEntry → World → Prop} {x0 x1 : Value} {w : World} {Q : Value → World → Prop} (h : f25.sh Z x0 x1 w Q) : CallV Try.prog Z 25 #[x0, x1] w Q :=
  calls_of_vcn drawD_sound (Q := Q) (n := 68) (rs := Try.f25.results) (an := f25.an) (c := f25.code) (cal := [11]) (args := [x0, x1]) Try.func25 (by kernel_rfl) rfl f25.body_eq follows (Nat.le_of_ble_eq_true (by kernel_rfl)) (enters_of_all f25.enters) ((f25.shape Z x0 x1 w Q).mpr h)

/-! ### 26: (*lagoon/link.Net).All -/
def f26.sh (Z : List PanicEntry → World → Prop) (x0 : Value) (w : World) (Q : Value → World → Prop) : Prop :=
  CallV Try.prog Z 18 #[x0] w fun t7_1 w =>
  CondV t7_1 (
    Q (Value.slice none 0 0) w) (
    runX Try.prog Z (nilChk x0) w fun t9_2 w =>
    run1 Try.prog Z (Instr.fieldAt 51 t9_2 1) w fun t10_3 w =>
    run1 Try.prog Z (Instr.loadAt 49 t10_3) w fun t11_4 w =>
    run1 Try.prog Z (Builtin.len_ #[49] 3 #[t11_4]) w fun t12_5 w =>
    ∃ J_6 : Nat → Value → Value → World → Prop, (∃ m, J_6 m (Value.slice none 0 0) (Value.int IntKind.i64 0) w) ∧
      ∀ m_6, ∀ t3_7 : Value, ∀ t13_8 : Value, ∀ w : World, J_6 m_6 t3_7 t13_8 w → Env →
        run1 Try.prog Z (binOp BinOp.lss 3 t13_8 t12_5) w fun t14_9 w =>
        CondV t14_9 (
          run1 Try.prog Z (Instr.indexAt 49 t11_4 t13_8) w fun t15_10 w =>
          run1 Try.prog Z (Instr.loadAt 34 t15_10) w fun t16_11 w =>
          run1 Try.prog Z (Instr.alloc 34 true (.tuple #[])) w fun t5_12 w =>
          run0 Try.prog Z (Instr.storeAt 34 t5_12 t16_11) w fun w =>
          run1 Try.prog Z (Instr.loadAt 34 t5_12) w fun t18_13 w =>
          CallV Try.prog Z 20 #[t18_13] w fun t19_14 w =>
          run1 Try.prog Z (Instr.buildSlice 49 1 #[(0, t19_14)]) w fun t20_15 w =>
          run1 Try.prog Z (Builtin.append_ #[49, 49] 49 #[t3_7, t20_15]) w fun t21_16 w =>
          run1 Try.prog Z (binOp BinOp.add 3 t13_8 (Value.int IntKind.i64 1)) w fun t22_17 w =>
          ∃ n_6, n_6 < m_6 ∧ J_6 n_6 t21_16 t22_17 w) (
          Q t3_7 w))
noncomputable def f26.code : Code := match Try.f26.body with | some c => c | none => .skip
def f26.an : An := (.sq .leaf (.sq (.sq .leaf (.cn (.sq .leaf .leaf) .leaf)) (.sq .leaf (.sq (.sq .leaf (.bl (.lp [3, 13] [3, 5, 13, 14, 15, 16, 17, 18, 19, 20, 21, 22] (.sq .leaf (.sq (.cn .leaf .leaf) (.sq (.bl (.sq .leaf .leaf)) .leaf)))))) (.sq .leaf .leaf)))))
theorem f26.body_eq : Try.f26.body = some f26.code := by kernel_rfl
theorem f26.shape (Z : List PanicEntry → World → Prop) (x0 : Value) (w : World) (Q : Value → World → Prop) : vc drawD Try.prog 24 Z [18, 20] f26.an f26.code (fnQ Try.prog 24 Try.f26.results Q) (argEnv [x0]) w = f26.sh Z x0 w Q := by kernel_rfl
theorem f26.enters : ∀ f, f ∈ ([18, 20] : List Nat) → Enters Try.prog f := by
  intro f hf
  simp only [List.mem_cons, List.not_mem_nil, or_false] at hf
  rcases hf with rfl | rfl
  · exact en18
  · exact en20
theorem f26.calls {Z : List PanicEntry → World → Prop} {x0 : Value} {w : World} {Q : Value → World → Prop} (h : f26.sh Z x0 w Q) : CallV Try.prog Z 26 #[x0] w Q :=
  calls_of_vcn drawD_sound (Q := Q) (n := 24) (rs := Try.f26.results) (an := f26.an) (c := f26.code) (cal := [18, 20]) (args := [x0]) Try.func26 (by kernel_rfl) rfl f26.body_eq follows (Nat.le_of_ble_eq_true (by kernel_rfl)) (enters_of_all f26.enters) ((f26.shape Z x0 w Q).mpr h)

end Go.Proofs.Ytejenmcjfhdcdaa
