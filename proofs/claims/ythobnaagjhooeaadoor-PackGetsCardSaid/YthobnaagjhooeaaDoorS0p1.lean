import Derived.Test.YthobnaagjhooeaaDoorShBase
set_option linter.unusedVariables false
namespace Go.Proofs.YthobnaagjhooeaaDoor
open Go.Sh
/-! ### 63: lagoon/lagoonref00.grownIds -/
def f63.sh (Z : List PanicEntry → World → Prop) (x0 x1 : Value) (w : World) (Q : Value → World → Prop) : Prop :=
  ∃ J_1 : Nat → Value → Value → World → Prop, (∃ m, J_1 m (Value.slice none 0 0) (Value.int IntKind.i64 0) w) ∧
    ∀ m_1, ∀ t5_2 : Value, ∀ t6_3 : Value, ∀ w : World, J_1 m_1 t5_2 t6_3 w → Env →
      run1 Tryd.prog Z (Builtin.len_ #[45] 3 #[x0]) w fun t14_4 w =>
      run1 Tryd.prog Z (binOp BinOp.lss 3 t6_3 t14_4) w fun t15_5 w =>
      CondV t15_5 (
        run1 Tryd.prog Z (Instr.indexAt 45 x0 t6_3) w fun t20_6 w =>
        run1 Tryd.prog Z (Instr.loadAt 112 t20_6) w fun t21_7 w =>
        ∃ J_8 : Nat → Value → Value → World → Prop, (∃ m, J_8 m t21_7 (Value.int IntKind.i64 0) w) ∧
          ∀ m_8, ∀ t7_9 : Value, ∀ t8_10 : Value, ∀ w : World, J_8 m_8 t7_9 t8_10 w → Env →
            run1 Tryd.prog Z (binOp BinOp.lss 3 t8_10 x1) w fun t24_11 w =>
            CondV t24_11 (
              run1 Tryd.prog Z (binOp BinOp.sub 3 (Value.int IntKind.i64 (-2000000)) t6_3) w fun t29_12 w =>
              CallV Tryd.prog Z 60 #[t29_12] w fun t30_13 w =>
              run1 Tryd.prog Z (Instr.build 114 #[(1, t30_13)]) w fun t31_14 w =>
              run1 Tryd.prog Z (Instr.buildSlice 112 1 #[(0, t31_14)]) w fun t32_15 w =>
              run1 Tryd.prog Z (Builtin.append_ #[112, 112] 112 #[t7_9, t32_15]) w fun t33_16 w =>
              run1 Tryd.prog Z (binOp BinOp.add 3 t8_10 (Value.int IntKind.i64 1)) w fun t26_17 w =>
              ∃ n_8, n_8 < m_8 ∧ J_8 n_8 t33_16 t26_17 w) (
              run1 Tryd.prog Z (Instr.buildSlice 45 1 #[(0, t7_9)]) w fun t36_18 w =>
              run1 Tryd.prog Z (Builtin.append_ #[45, 45] 45 #[t5_2, t36_18]) w fun t37_19 w =>
              run1 Tryd.prog Z (binOp BinOp.add 3 t6_3 (Value.int IntKind.i64 1)) w fun t17_20 w =>
              ∃ n_1, n_1 < m_1 ∧ J_1 n_1 t37_19 t17_20 w)) (
        ∃ J_21 : Nat → Value → World → Prop, (∃ m, J_21 m (Value.int IntKind.i64 0) w) ∧
          ∀ m_21, ∀ t9_22 : Value, ∀ w : World, J_21 m_21 t9_22 w → Env →
            run1 Tryd.prog Z (Builtin.len_ #[45] 3 #[x0]) w fun t40_23 w =>
            run1 Tryd.prog Z (binOp BinOp.lss 3 t9_22 t40_23) w fun t41_24 w =>
            CondV t41_24 (
              run1 Tryd.prog Z (Instr.indexAt 45 x0 t9_22) w fun t46_25 w =>
              run1 Tryd.prog Z (Instr.loadAt 112 t46_25) w fun t47_26 w =>
              run1 Tryd.prog Z (Builtin.len_ #[112] 3 #[t47_26]) w fun t48_27 w =>
              ∃ J_28 : Nat → Value → World → Prop, (∃ m, J_28 m (Value.int IntKind.i64 0) w) ∧
                ∀ m_28, ∀ t11_29 : Value, ∀ w : World, J_28 m_28 t11_29 w → Env →
                  run1 Tryd.prog Z (binOp BinOp.add 3 t48_27 x1) w fun t52_30 w =>
                  run1 Tryd.prog Z (binOp BinOp.lss 3 t11_29 t52_30) w fun t53_31 w =>
                  CondV t53_31 (
                    Drawn w fun w =>
                    Pure1 Tryd.prog (binOp BinOp.lss 3 t11_29 t48_27) fun t58_32 =>
                    guardV (t58_32) true (fun k => k (x0)) (fun t60_33 =>
                    guardV (t58_32) true (fun k => k (t9_22)) (fun t61_34 =>
                    guardV (t58_32) true (fun k => Pure1 Tryd.prog (Instr.indexAt 45 t60_33 t61_34) k) (fun t62_35 =>
                    guardV (t58_32) true (fun k => Read1 Tryd.prog (Instr.loadAt 112 t62_35) w k) (fun t63_36 =>
                    guardV (t58_32) true (fun k => k (t11_29)) (fun t64_37 =>
                    guardV (t58_32) true (fun k => Pure1 Tryd.prog (Instr.indexAt 112 t63_36 t64_37) k) (fun t65_38 =>
                    guardV (t58_32) true (fun k => Pure1 Tryd.prog (Instr.fieldAt 114 t65_38 1) k) (fun t66_39 =>
                    guardV (t58_32) true (fun k => Read1 Tryd.prog (Instr.loadAt 9 t66_39) w k) (fun t67_40 =>
                    guardV (t58_32) true (fun k => k (t9_22)) (fun t68_41 =>
                    guardV (t58_32) true (fun k => Pure1 Tryd.prog (binOp BinOp.sub 3 (Value.int IntKind.i64 (-1000000)) t68_41) k) (fun t69_42 =>
                    guardW (t58_32) true (fun k => CallV Tryd.prog Z 60 #[t69_42] w k) (fun t70_43 w =>
                      Still Tryd.prog (gSem (t58_32) true (nx (Instr.loadAt 9 t66_39))) t67_40 w <|
                      Still Tryd.prog (gSem (t58_32) true (nx (Instr.loadAt 112 t62_35))) t63_36 w <|
                      guardV (t58_32) true (fun k => Pure1 Tryd.prog (eqOp BinOp.eql 9 false false t67_40 t70_43) k) (fun t71_44 =>
                      guardV (t58_32) true (fun k => Pure1 Tryd.prog (Op.unary UnOp.not t71_44) k) (fun t72_45 =>
                      Pure1 Tryd.prog (pickV t58_32 t72_45 (Value.bool false)) fun t73_46 =>
                      guardV (t73_46) false (fun k => k (t11_29)) (fun t75_47 =>
                      guardV (t73_46) false (fun k => k (t48_27)) (fun t76_48 =>
                      guardV (t73_46) false (fun k => Pure1 Tryd.prog (binOp BinOp.lss 3 t75_47 t76_48) k) (fun t77_49 =>
                      guardV (t73_46) false (fun k => k (t77_49)) (fun t78_50 =>
                      guardV (t78_50) true (fun k => k (t5_2)) (fun t79_51 =>
                      guardV (t78_50) true (fun k => k (t9_22)) (fun t80_52 =>
                      guardV (t78_50) true (fun k => Pure1 Tryd.prog (Instr.indexAt 45 t79_51 t80_52) k) (fun t81_53 =>
                      guardV (t78_50) true (fun k => Read1 Tryd.prog (Instr.loadAt 112 t81_53) w k) (fun t82_54 =>
                      guardV (t78_50) true (fun k => k (t11_29)) (fun t83_55 =>
                      guardV (t78_50) true (fun k => Pure1 Tryd.prog (Instr.indexAt 112 t82_54 t83_55) k) (fun t84_56 =>
                      guardV (t78_50) true (fun k => Pure1 Tryd.prog (Instr.fieldAt 114 t84_56 1) k) (fun t85_57 =>
                      guardV (t78_50) true (fun k => Read1 Tryd.prog (Instr.loadAt 9 t85_57) w k) (fun t86_58 =>
                      guardV (t78_50) true (fun k => k (t9_22)) (fun t87_59 =>
                      guardV (t78_50) true (fun k => Pure1 Tryd.prog (binOp BinOp.sub 3 (Value.int IntKind.i64 (-1000000)) t87_59) k) (fun t88_60 =>
                      guardW (t78_50) true (fun k => CallV Tryd.prog Z 60 #[t88_60] w k) (fun t89_61 w =>
                        Still Tryd.prog (gSem (t78_50) true (nx (Instr.loadAt 9 t85_57))) t86_58 w <|
                        Still Tryd.prog (gSem (t78_50) true (nx (Instr.loadAt 112 t81_53))) t82_54 w <|
                        Still Tryd.prog (gSem (t58_32) true (nx (Instr.loadAt 9 t66_39))) t67_40 w <|
                        Still Tryd.prog (gSem (t58_32) true (nx (Instr.loadAt 112 t62_35))) t63_36 w <|
                        guardV (t78_50) true (fun k => Pure1 Tryd.prog (eqOp BinOp.eql 9 false false t86_58 t89_61) k) (fun t90_62 =>
                        guardV (t78_50) true (fun k => Pure1 Tryd.prog (Op.unary UnOp.not t90_62) k) (fun t91_63 =>
                        guardV (t73_46) false (fun k => Pure1 Tryd.prog (pickV t78_50 t91_63 (Value.bool false)) k) (fun t92_64 =>
                        Pure1 Tryd.prog (pickV t73_46 (Value.bool true) t92_64) fun t93_65 =>
                        guardV (t93_65) false (fun k => k (t11_29)) (fun t95_66 =>
                        guardV (t93_65) false (fun k => k (t48_27)) (fun t96_67 =>
                        guardV (t93_65) false (fun k => Pure1 Tryd.prog (binOp BinOp.geq 3 t95_66 t96_67) k) (fun t97_68 =>
                        guardV (t93_65) false (fun k => k (t97_68)) (fun t98_69 =>
                        guardV (t98_69) true (fun k => k (t5_2)) (fun t99_70 =>
                        guardV (t98_69) true (fun k => k (t9_22)) (fun t100_71 =>
                        guardV (t98_69) true (fun k => Pure1 Tryd.prog (Instr.indexAt 45 t99_70 t100_71) k) (fun t101_72 =>
                        guardV (t98_69) true (fun k => Read1 Tryd.prog (Instr.loadAt 112 t101_72) w k) (fun t102_73 =>
                        guardV (t98_69) true (fun k => k (t11_29)) (fun t103_74 =>
                        guardV (t98_69) true (fun k => Pure1 Tryd.prog (Instr.indexAt 112 t102_73 t103_74) k) (fun t104_75 =>
                        guardV (t98_69) true (fun k => Pure1 Tryd.prog (Instr.fieldAt 114 t104_75 1) k) (fun t105_76 =>
                        guardV (t98_69) true (fun k => Read1 Tryd.prog (Instr.loadAt 9 t105_76) w k) (fun t106_77 =>
                        guardV (t98_69) true (fun k => k (t9_22)) (fun t107_78 =>
                        guardV (t98_69) true (fun k => Pure1 Tryd.prog (binOp BinOp.sub 3 (Value.int IntKind.i64 (-2000000)) t107_78) k) (fun t108_79 =>
                        guardW (t98_69) true (fun k => CallV Tryd.prog Z 60 #[t108_79] w k) (fun t109_80 w =>
                          Still Tryd.prog (gSem (t98_69) true (nx (Instr.loadAt 9 t105_76))) t106_77 w <|
                          Still Tryd.prog (gSem (t98_69) true (nx (Instr.loadAt 112 t101_72))) t102_73 w <|
                          Still Tryd.prog (gSem (t78_50) true (nx (Instr.loadAt 9 t85_57))) t86_58 w <|
                          Still Tryd.prog (gSem (t78_50) true (nx (Instr.loadAt 112 t81_53))) t82_54 w <|
                          Still Tryd.prog (gSem (t58_32) true (nx (Instr.loadAt 9 t66_39))) t67_40 w <|
                          Still Tryd.prog (gSem (t58_32) true (nx (Instr.loadAt 112 t62_35))) t63_36 w <|
                          guardV (t98_69) true (fun k => Pure1 Tryd.prog (eqOp BinOp.eql 9 false false t106_77 t109_80) k) (fun t110_81 =>
                          guardV (t98_69) true (fun k => Pure1 Tryd.prog (Op.unary UnOp.not t110_81) k) (fun t111_82 =>
                          guardV (t93_65) false (fun k => Pure1 Tryd.prog (pickV t98_69 t111_82 (Value.bool false)) k) (fun t112_83 =>
                          Pure1 Tryd.prog (pickV t93_65 (Value.bool true) t112_83) fun t113_84 =>
                          CondV t113_84 (
                            Q (Value.bool false) w) (
                            run1 Tryd.prog Z (binOp BinOp.add 3 t11_29 (Value.int IntKind.i64 1)) w fun t55_85 w =>
                            ∃ n_28, n_28 < m_28 ∧ J_28 n_28 t55_85 w))))) w)))))))))))))))))) w))))))))))))))))) w))))))))))) (
                    run1 Tryd.prog Z (binOp BinOp.add 3 t9_22 (Value.int IntKind.i64 1)) w fun t43_86 w =>
                    ∃ n_21, n_21 < m_21 ∧ J_21 n_21 t43_86 w)) (
              Q (Value.bool true) w))
noncomputable def f63.code : Code := match Tryd.f63.body with | some c => c | none => .skip
def f63.an : An := (.sq .leaf (.sq .leaf (.sq (.sq .leaf (.bl (.lp [5, 6] [5, 6, 7, 8, 12, 13, 14, 15, 16, 17, 18, 19, 20, 21, 22, 23, 24, 25, 26, 27, 28, 29, 30, 31, 32, 33, 34, 35, 36, 37] (.sq (.sq .leaf (.cn .leaf .leaf)) (.sq (.bl (.sq .leaf (.sq (.sq .leaf (.bl (.lp [7, 8] [7, 8, 22, 23, 24, 25, 26, 27, 28, 29, 30, 31, 32, 33] (.sq (.sq .leaf (.cn .leaf .leaf)) (.sq (.bl .leaf) .leaf))))) .leaf))) .leaf))))) (.sq (.sq .leaf (.bl (.lp [9] [4, 9, 10, 11, 38, 39, 40, 41, 42, 43, 44, 45, 46, 47, 48, 49, 50, 51, 52, 53, 54, 55, 56, 57, 58, 59, 60, 61, 62, 63, 64, 65, 66, 67, 68, 69, 70, 71, 72, 73, 74, 75, 76, 77, 78, 79, 80, 81, 82, 83, 84, 85, 86, 87, 88, 89, 90, 91, 92, 93, 94, 95, 96, 97, 98, 99, 100, 101, 102, 103, 104, 105, 106, 107, 108, 109, 110, 111, 112, 113] (.sq (.sq .leaf (.cn .leaf .leaf)) (.sq (.bl (.sq .leaf (.sq .leaf (.bl (.lp [11] [4, 11, 49, 50, 51, 52, 53, 54, 55, 56, 57, 58, 59, 60, 61, 62, 63, 64, 65, 66, 67, 68, 69, 70, 71, 72, 73, 74, 75, 76, 77, 78, 79, 80, 81, 82, 83, 84, 85, 86, 87, 88, 89, 90, 91, 92, 93, 94, 95, 96, 97, 98, 99, 100, 101, 102, 103, 104, 105, 106, 107, 108, 109, 110, 111, 112, 113] (.sq (.sq .leaf (.cn .leaf .leaf)) (.sq (.bl (.sq (.dr (.take 0 false (.take 1 false (.take 2 false (.take 3 false (.take 4 false (.take 5 false (.take 6 false (.take 7 true (.take 8 false (.take 9 false (.take 10 false (.take 11 true (.take 12 false (.take 13 false (.one 14 (.take 15 false (.take 16 false (.take 17 false (.take 18 false (.take 19 false (.take 20 false (.take 21 false (.take 22 false (.take 23 false (.take 24 false (.take 25 false (.take 26 true (.take 27 false (.take 28 false (.take 29 false (.take 30 true (.take 31 false (.take 32 false (.one 33 (.take 34 false (.take 35 false (.take 36 false (.take 37 false (.take 38 false (.take 39 false (.take 40 false (.take 41 false (.take 42 false (.take 43 false (.take 44 false (.take 45 false (.take 46 true (.take 47 false (.take 48 false (.take 49 false (.take 50 true (.take 51 false (.take 52 false (.one 53 (.take 54 false (.take 55 false (.take 56 false (.take 57 false .fin))))))))))))))))))))))))))))))))))))))))))))))))))))))))))) (.cn (.sq .leaf .leaf) .leaf))) .leaf))))))) .leaf))))) (.sq .leaf .leaf)))))
theorem f63.body_eq : Tryd.f63.body = some f63.code := by kernel_rfl
theorem f63.shape (Z : List PanicEntry → World → Prop) (x0 x1 : Value) (w : World) (Q : Value → World → Prop) : vc drawD Tryd.prog 114 Z [60] f63.an f63.code (fnQ Tryd.prog 114 Tryd.f63.results Q) (argEnv [x0, x1]) w = f63.sh Z x0 x1 w Q := by kernel_rfl
theorem f63.enters : ∀ f, f ∈ ([60] : List Nat) → Enters Tryd.prog f := by
  intro f hf
  simp only [List.mem_cons, List.not_mem_nil, or_false] at hf
  rcases hf with rfl
  · exact en60
theorem f63.calls {Z : List PanicEntry → World → Prop} {x0 x1 : Value} {w : World} {Q : Value → World → Prop} (h : f63.sh Z x0 x1 w Q) : CallV Tryd.prog Z 63 #[x0, x1] w Q :=
  calls_of_vcn drawD_sound (Q := Q) (n := 114) (rs := Tryd.f63.results) (an := f63.an) (c := f63.code) (cal := [60]) (args := [x0, x1]) Tryd.func63 (by kernel_rfl) rfl f63.body_eq follows (Nat.le_of_ble_eq_true (by kernel_rfl)) (enters_of_all f63.enters) ((f63.shape Z x0 x1 w Q).mpr h)

/-! ### 64: lagoon/lagoonref00.grownAcl -/
def f64.sh (Z : List PanicEntry → World → Prop) (x0 x1 : Value) (w : World) (Q : Value → World → Prop) : Prop :=
  ∃ J_1 : Nat → Value → Value → World → Prop, (∃ m, J_1 m (Value.slice none 0 0) (Value.int IntKind.i64 0) w) ∧
    ∀ m_1, ∀ t5_2 : Value, ∀ t6_3 : Value, ∀ w : World, J_1 m_1 t5_2 t6_3 w → Env →
      run1 Tryd.prog Z (Builtin.len_ #[46] 3 #[x0]) w fun t14_4 w =>
      run1 Tryd.prog Z (binOp BinOp.lss 3 t6_3 t14_4) w fun t15_5 w =>
      CondV t15_5 (
        run1 Tryd.prog Z (Instr.indexAt 46 x0 t6_3) w fun t20_6 w =>
        run1 Tryd.prog Z (Instr.loadAt 116 t20_6) w fun t21_7 w =>
        ∃ J_8 : Nat → Value → Value → World → Prop, (∃ m, J_8 m t21_7 (Value.int IntKind.i64 0) w) ∧
          ∀ m_8, ∀ t7_9 : Value, ∀ t8_10 : Value, ∀ w : World, J_8 m_8 t7_9 t8_10 w → Env →
            run1 Tryd.prog Z (binOp BinOp.lss 3 t8_10 x1) w fun t24_11 w =>
            CondV t24_11 (
              run1 Tryd.prog Z (binOp BinOp.sub 3 (Value.int IntKind.i64 (-2000000)) t6_3) w fun t29_12 w =>
              CallV Tryd.prog Z 60 #[t29_12] w fun t30_13 w =>
              run1 Tryd.prog Z (Instr.build 114 #[(1, t30_13)]) w fun t31_14 w =>
              run1 Tryd.prog Z (Instr.build 119 #[(1, t31_14)]) w fun t32_15 w =>
              run1 Tryd.prog Z (Instr.buildSlice 116 1 #[(0, t32_15)]) w fun t33_16 w =>
              run1 Tryd.prog Z (Builtin.append_ #[116, 116] 116 #[t7_9, t33_16]) w fun t34_17 w =>
              run1 Tryd.prog Z (binOp BinOp.add 3 t8_10 (Value.int IntKind.i64 1)) w fun t26_18 w =>
              ∃ n_8, n_8 < m_8 ∧ J_8 n_8 t34_17 t26_18 w) (
              run1 Tryd.prog Z (Instr.buildSlice 46 1 #[(0, t7_9)]) w fun t37_19 w =>
              run1 Tryd.prog Z (Builtin.append_ #[46, 46] 46 #[t5_2, t37_19]) w fun t38_20 w =>
              run1 Tryd.prog Z (binOp BinOp.add 3 t6_3 (Value.int IntKind.i64 1)) w fun t17_21 w =>
              ∃ n_1, n_1 < m_1 ∧ J_1 n_1 t38_20 t17_21 w)) (
        ∃ J_22 : Nat → Value → World → Prop, (∃ m, J_22 m (Value.int IntKind.i64 0) w) ∧
          ∀ m_22, ∀ t9_23 : Value, ∀ w : World, J_22 m_22 t9_23 w → Env →
            run1 Tryd.prog Z (Builtin.len_ #[46] 3 #[x0]) w fun t41_24 w =>
            run1 Tryd.prog Z (binOp BinOp.lss 3 t9_23 t41_24) w fun t42_25 w =>
            CondV t42_25 (
              run1 Tryd.prog Z (Instr.indexAt 46 x0 t9_23) w fun t47_26 w =>
              run1 Tryd.prog Z (Instr.loadAt 116 t47_26) w fun t48_27 w =>
              run1 Tryd.prog Z (Builtin.len_ #[116] 3 #[t48_27]) w fun t49_28 w =>
              ∃ J_29 : Nat → Value → World → Prop, (∃ m, J_29 m (Value.int IntKind.i64 0) w) ∧
                ∀ m_29, ∀ t11_30 : Value, ∀ w : World, J_29 m_29 t11_30 w → Env →
                  run1 Tryd.prog Z (binOp BinOp.add 3 t49_28 x1) w fun t53_31 w =>
                  run1 Tryd.prog Z (binOp BinOp.lss 3 t11_30 t53_31) w fun t54_32 w =>
                  CondV t54_32 (
                    Drawn w fun w =>
                    Pure1 Tryd.prog (binOp BinOp.lss 3 t11_30 t49_28) fun t59_33 =>
                    guardV (t59_33) true (fun k => k (x0)) (fun t61_34 =>
                    guardV (t59_33) true (fun k => k (t9_23)) (fun t62_35 =>
                    guardV (t59_33) true (fun k => Pure1 Tryd.prog (Instr.indexAt 46 t61_34 t62_35) k) (fun t63_36 =>
                    guardV (t59_33) true (fun k => Read1 Tryd.prog (Instr.loadAt 116 t63_36) w k) (fun t64_37 =>
                    guardV (t59_33) true (fun k => k (t11_30)) (fun t65_38 =>
                    guardV (t59_33) true (fun k => Pure1 Tryd.prog (Instr.indexAt 116 t64_37 t65_38) k) (fun t66_39 =>
                    guardV (t59_33) true (fun k => Pure1 Tryd.prog (Instr.fieldAt 119 t66_39 1) k) (fun t67_40 =>
                    guardV (t59_33) true (fun k => Pure1 Tryd.prog (Instr.fieldAt 114 t67_40 1) k) (fun t68_41 =>
                    guardV (t59_33) true (fun k => Read1 Tryd.prog (Instr.loadAt 9 t68_41) w k) (fun t69_42 =>
                    guardV (t59_33) true (fun k => k (t9_23)) (fun t70_43 =>
                    guardV (t59_33) true (fun k => Pure1 Tryd.prog (binOp BinOp.sub 3 (Value.int IntKind.i64 (-1000000)) t70_43) k) (fun t71_44 =>
                    guardW (t59_33) true (fun k => CallV Tryd.prog Z 60 #[t71_44] w k) (fun t72_45 w =>
                      Still Tryd.prog (gSem (t59_33) true (nx (Instr.loadAt 9 t68_41))) t69_42 w <|
                      Still Tryd.prog (gSem (t59_33) true (nx (Instr.loadAt 116 t63_36))) t64_37 w <|
                      guardV (t59_33) true (fun k => Pure1 Tryd.prog (eqOp BinOp.eql 9 false false t69_42 t72_45) k) (fun t73_46 =>
                      guardV (t59_33) true (fun k => Pure1 Tryd.prog (Op.unary UnOp.not t73_46) k) (fun t74_47 =>
                      Pure1 Tryd.prog (pickV t59_33 t74_47 (Value.bool false)) fun t75_48 =>
                      guardV (t75_48) false (fun k => k (t11_30)) (fun t77_49 =>
                      guardV (t75_48) false (fun k => k (t49_28)) (fun t78_50 =>
                      guardV (t75_48) false (fun k => Pure1 Tryd.prog (binOp BinOp.lss 3 t77_49 t78_50) k) (fun t79_51 =>
                      guardV (t75_48) false (fun k => k (t79_51)) (fun t80_52 =>
                      guardV (t80_52) true (fun k => k (t5_2)) (fun t81_53 =>
                      guardV (t80_52) true (fun k => k (t9_23)) (fun t82_54 =>
                      guardV (t80_52) true (fun k => Pure1 Tryd.prog (Instr.indexAt 46 t81_53 t82_54) k) (fun t83_55 =>
                      guardV (t80_52) true (fun k => Read1 Tryd.prog (Instr.loadAt 116 t83_55) w k) (fun t84_56 =>
                      guardV (t80_52) true (fun k => k (t11_30)) (fun t85_57 =>
                      guardV (t80_52) true (fun k => Pure1 Tryd.prog (Instr.indexAt 116 t84_56 t85_57) k) (fun t86_58 =>
                      guardV (t80_52) true (fun k => Pure1 Tryd.prog (Instr.fieldAt 119 t86_58 1) k) (fun t87_59 =>
                      guardV (t80_52) true (fun k => Pure1 Tryd.prog (Instr.fieldAt 114 t87_59 1) k) (fun t88_60 =>
                      guardV (t80_52) true (fun k => Read1 Tryd.prog (Instr.loadAt 9 t88_60) w k) (fun t89_61 =>
                      guardV (t80_52) true (fun k => k (t9_23)) (fun t90_62 =>
                      guardV (t80_52) true (fun k => Pure1 Tryd.prog (binOp BinOp.sub 3 (Value.int IntKind.i64 (-1000000)) t90_62) k) (fun t91_63 =>
                      guardW (t80_52) true (fun k => CallV Tryd.prog Z 60 #[t91_63] w k) (fun t92_64 w =>
                        Still Tryd.prog (gSem (t80_52) true (nx (Instr.loadAt 9 t88_60))) t89_61 w <|
                        Still Tryd.prog (gSem (t80_52) true (nx (Instr.loadAt 116 t83_55))) t84_56 w <|
                        Still Tryd.prog (gSem (t59_33) true (nx (Instr.loadAt 9 t68_41))) t69_42 w <|
                        Still Tryd.prog (gSem (t59_33) true (nx (Instr.loadAt 116 t63_36))) t64_37 w <|
                        guardV (t80_52) true (fun k => Pure1 Tryd.prog (eqOp BinOp.eql 9 false false t89_61 t92_64) k) (fun t93_65 =>
                        guardV (t80_52) true (fun k => Pure1 Tryd.prog (Op.unary UnOp.not t93_65) k) (fun t94_66 =>
                        guardV (t75_48) false (fun k => Pure1 Tryd.prog (pickV t80_52 t94_66 (Value.bool false)) k) (fun t95_67 =>
                        Pure1 Tryd.prog (pickV t75_48 (Value.bool true) t95_67) fun t96_68 =>
                        guardV (t96_68) false (fun k => k (t11_30)) (fun t98_69 =>
                        guardV (t96_68) false (fun k => k (t49_28)) (fun t99_70 =>
                        guardV (t96_68) false (fun k => Pure1 Tryd.prog (binOp BinOp.geq 3 t98_69 t99_70) k) (fun t100_71 =>
                        guardV (t96_68) false (fun k => k (t100_71)) (fun t101_72 =>
                        guardV (t101_72) true (fun k => k (t5_2)) (fun t102_73 =>
                        guardV (t101_72) true (fun k => k (t9_23)) (fun t103_74 =>
                        guardV (t101_72) true (fun k => Pure1 Tryd.prog (Instr.indexAt 46 t102_73 t103_74) k) (fun t104_75 =>
                        guardV (t101_72) true (fun k => Read1 Tryd.prog (Instr.loadAt 116 t104_75) w k) (fun t105_76 =>
                        guardV (t101_72) true (fun k => k (t11_30)) (fun t106_77 =>
                        guardV (t101_72) true (fun k => Pure1 Tryd.prog (Instr.indexAt 116 t105_76 t106_77) k) (fun t107_78 =>
                        guardV (t101_72) true (fun k => Pure1 Tryd.prog (Instr.fieldAt 119 t107_78 1) k) (fun t108_79 =>
                        guardV (t101_72) true (fun k => Pure1 Tryd.prog (Instr.fieldAt 114 t108_79 1) k) (fun t109_80 =>
                        guardV (t101_72) true (fun k => Read1 Tryd.prog (Instr.loadAt 9 t109_80) w k) (fun t110_81 =>
                        guardV (t101_72) true (fun k => k (t9_23)) (fun t111_82 =>
                        guardV (t101_72) true (fun k => Pure1 Tryd.prog (binOp BinOp.sub 3 (Value.int IntKind.i64 (-2000000)) t111_82) k) (fun t112_83 =>
                        guardW (t101_72) true (fun k => CallV Tryd.prog Z 60 #[t112_83] w k) (fun t113_84 w =>
                          Still Tryd.prog (gSem (t101_72) true (nx (Instr.loadAt 9 t109_80))) t110_81 w <|
                          Still Tryd.prog (gSem (t101_72) true (nx (Instr.loadAt 116 t104_75))) t105_76 w <|
                          Still Tryd.prog (gSem (t80_52) true (nx (Instr.loadAt 9 t88_60))) t89_61 w <|
                          Still Tryd.prog (gSem (t80_52) true (nx (Instr.loadAt 116 t83_55))) t84_56 w <|
                          Still Tryd.prog (gSem (t59_33) true (nx (Instr.loadAt 9 t68_41))) t69_42 w <|
                          Still Tryd.prog (gSem (t59_33) true (nx (Instr.loadAt 116 t63_36))) t64_37 w <|
                          guardV (t101_72) true (fun k => Pure1 Tryd.prog (eqOp BinOp.eql 9 false false t110_81 t113_84) k) (fun t114_85 =>
                          guardV (t101_72) true (fun k => Pure1 Tryd.prog (Op.unary UnOp.not t114_85) k) (fun t115_86 =>
                          guardV (t96_68) false (fun k => Pure1 Tryd.prog (pickV t101_72 t115_86 (Value.bool false)) k) (fun t116_87 =>
                          Pure1 Tryd.prog (pickV t96_68 (Value.bool true) t116_87) fun t117_88 =>
                          CondV t117_88 (
                            Q (Value.bool false) w) (
                            run1 Tryd.prog Z (binOp BinOp.add 3 t11_30 (Value.int IntKind.i64 1)) w fun t56_89 w =>
                            ∃ n_29, n_29 < m_29 ∧ J_29 n_29 t56_89 w))))) w))))))))))))))))))) w)))))))))))))))))) w)))))))))))) (
                    run1 Tryd.prog Z (binOp BinOp.add 3 t9_23 (Value.int IntKind.i64 1)) w fun t44_90 w =>
                    ∃ n_22, n_22 < m_22 ∧ J_22 n_22 t44_90 w)) (
              Q (Value.bool true) w))
noncomputable def f64.code : Code := match Tryd.f64.body with | some c => c | none => .skip
def f64.an : An := (.sq .leaf (.sq .leaf (.sq (.sq .leaf (.bl (.lp [5, 6] [5, 6, 7, 8, 12, 13, 14, 15, 16, 17, 18, 19, 20, 21, 22, 23, 24, 25, 26, 27, 28, 29, 30, 31, 32, 33, 34, 35, 36, 37, 38] (.sq (.sq .leaf (.cn .leaf .leaf)) (.sq (.bl (.sq .leaf (.sq (.sq .leaf (.bl (.lp [7, 8] [7, 8, 22, 23, 24, 25, 26, 27, 28, 29, 30, 31, 32, 33, 34] (.sq (.sq .leaf (.cn .leaf .leaf)) (.sq (.bl .leaf) .leaf))))) .leaf))) .leaf))))) (.sq (.sq .leaf (.bl (.lp [9] [4, 9, 10, 11, 39, 40, 41, 42, 43, 44, 45, 46, 47, 48, 49, 50, 51, 52, 53, 54, 55, 56, 57, 58, 59, 60, 61, 62, 63, 64, 65, 66, 67, 68, 69, 70, 71, 72, 73, 74, 75, 76, 77, 78, 79, 80, 81, 82, 83, 84, 85, 86, 87, 88, 89, 90, 91, 92, 93, 94, 95, 96, 97, 98, 99, 100, 101, 102, 103, 104, 105, 106, 107, 108, 109, 110, 111, 112, 113, 114, 115, 116, 117] (.sq (.sq .leaf (.cn .leaf .leaf)) (.sq (.bl (.sq .leaf (.sq .leaf (.bl (.lp [11] [4, 11, 50, 51, 52, 53, 54, 55, 56, 57, 58, 59, 60, 61, 62, 63, 64, 65, 66, 67, 68, 69, 70, 71, 72, 73, 74, 75, 76, 77, 78, 79, 80, 81, 82, 83, 84, 85, 86, 87, 88, 89, 90, 91, 92, 93, 94, 95, 96, 97, 98, 99, 100, 101, 102, 103, 104, 105, 106, 107, 108, 109, 110, 111, 112, 113, 114, 115, 116, 117] (.sq (.sq .leaf (.cn .leaf .leaf)) (.sq (.bl (.sq (.dr (.take 0 false (.take 1 false (.take 2 false (.take 3 false (.take 4 false (.take 5 false (.take 6 false (.take 7 true (.take 8 false (.take 9 false (.take 10 false (.take 11 false (.take 12 true (.take 13 false (.take 14 false (.one 15 (.take 16 false (.take 17 false (.take 18 false (.take 19 false (.take 20 false (.take 21 false (.take 22 false (.take 23 false (.take 24 false (.take 25 false (.take 26 false (.take 27 true (.take 28 false (.take 29 false (.take 30 false (.take 31 false (.take 32 true (.take 33 false (.take 34 false (.one 35 (.take 36 false (.take 37 false (.take 38 false (.take 39 false (.take 40 false (.take 41 false (.take 42 false (.take 43 false (.take 44 false (.take 45 false (.take 46 false (.take 47 false (.take 48 true (.take 49 false (.take 50 false (.take 51 false (.take 52 false (.take 53 true (.take 54 false (.take 55 false (.one 56 (.take 57 false (.take 58 false (.take 59 false (.take 60 false .fin)))))))))))))))))))))))))))))))))))))))))))))))))))))))))))))) (.cn (.sq .leaf .leaf) .leaf))) .leaf))))))) .leaf))))) (.sq .leaf .leaf)))))
theorem f64.body_eq : Tryd.f64.body = some f64.code := by kernel_rfl
theorem f64.shape (Z : List PanicEntry → World → Prop) (x0 x1 : Value) (w : World) (Q : Value → World → Prop) : vc drawD Tryd.prog 118 Z [60] f64.an f64.code (fnQ Tryd.prog 118 Tryd.f64.results Q) (argEnv [x0, x1]) w = f64.sh Z x0 x1 w Q := by kernel_rfl
theorem f64.enters : ∀ f, f ∈ ([60] : List Nat) → Enters Tryd.prog f := by
  intro f hf
  simp only [List.mem_cons, List.not_mem_nil, or_false] at hf
  rcases hf with rfl
  · exact en60
theorem f64.calls {Z : List PanicEntry → World → Prop} {x0 x1 : Value} {w : World} {Q : Value → World → Prop} (h : f64.sh Z x0 x1 w Q) : CallV Tryd.prog Z 64 #[x0, x1] w Q :=
  calls_of_vcn drawD_sound (Q := Q) (n := 118) (rs := Tryd.f64.results) (an := f64.an) (c := f64.code) (cal := [60]) (args := [x0, x1]) Tryd.func64 (by kernel_rfl) rfl f64.body_eq follows (Nat.le_of_ble_eq_true (by kernel_rfl)) (enters_of_all f64.enters) ((f64.shape Z x0 x1 w Q).mpr h)

/-! ### 65: lagoon/lagoonref00.grownRequests -/
def f65.sh (Z : List PanicEntry → World → Prop) (x0 x1 : Value) (w : World) (Q : Value → World → Prop) : Prop :=
  ∃ J_1 : Nat → Value → Value → World → Prop, (∃ m, J_1 m (Value.slice none 0 0) (Value.int IntKind.i64 0) w) ∧
    ∀ m_1, ∀ t5_2 : Value, ∀ t6_3 : Value, ∀ w : World, J_1 m_1 t5_2 t6_3 w → Env →
      run1 Tryd.prog Z (Builtin.len_ #[47] 3 #[x0]) w fun t14_4 w =>
      run1 Tryd.prog Z (binOp BinOp.lss 3 t6_3 t14_4) w fun t15_5 w =>
      CondV t15_5 (
        run1 Tryd.prog Z (Instr.indexAt 47 x0 t6_3) w fun t20_6 w =>
        run1 Tryd.prog Z (Instr.loadAt 121 t20_6) w fun t21_7 w =>
        ∃ J_8 : Nat → Value → Value → World → Prop, (∃ m, J_8 m t21_7 (Value.int IntKind.i64 0) w) ∧
          ∀ m_8, ∀ t7_9 : Value, ∀ t8_10 : Value, ∀ w : World, J_8 m_8 t7_9 t8_10 w → Env →
            run1 Tryd.prog Z (binOp BinOp.lss 3 t8_10 x1) w fun t24_11 w =>
            CondV t24_11 (
              run1 Tryd.prog Z (binOp BinOp.sub 3 (Value.int IntKind.i64 (-2000000)) t6_3) w fun t29_12 w =>
              run1 Tryd.prog Z (Instr.build 123 #[(7, t29_12)]) w fun t30_13 w =>
              run1 Tryd.prog Z (Instr.buildSlice 121 1 #[(0, t30_13)]) w fun t31_14 w =>
              run1 Tryd.prog Z (Builtin.append_ #[121, 121] 121 #[t7_9, t31_14]) w fun t32_15 w =>
              run1 Tryd.prog Z (binOp BinOp.add 3 t8_10 (Value.int IntKind.i64 1)) w fun t26_16 w =>
              ∃ n_8, n_8 < m_8 ∧ J_8 n_8 t32_15 t26_16 w) (
              run1 Tryd.prog Z (Instr.buildSlice 47 1 #[(0, t7_9)]) w fun t35_17 w =>
              run1 Tryd.prog Z (Builtin.append_ #[47, 47] 47 #[t5_2, t35_17]) w fun t36_18 w =>
              run1 Tryd.prog Z (binOp BinOp.add 3 t6_3 (Value.int IntKind.i64 1)) w fun t17_19 w =>
              ∃ n_1, n_1 < m_1 ∧ J_1 n_1 t36_18 t17_19 w)) (
        ∃ J_20 : Nat → Value → World → Prop, (∃ m, J_20 m (Value.int IntKind.i64 0) w) ∧
          ∀ m_20, ∀ t9_21 : Value, ∀ w : World, J_20 m_20 t9_21 w → Env →
            run1 Tryd.prog Z (Builtin.len_ #[47] 3 #[x0]) w fun t39_22 w =>
            run1 Tryd.prog Z (binOp BinOp.lss 3 t9_21 t39_22) w fun t40_23 w =>
            CondV t40_23 (
              run1 Tryd.prog Z (Instr.indexAt 47 x0 t9_21) w fun t45_24 w =>
              run1 Tryd.prog Z (Instr.loadAt 121 t45_24) w fun t46_25 w =>
              run1 Tryd.prog Z (Builtin.len_ #[121] 3 #[t46_25]) w fun t47_26 w =>
              ∃ J_27 : Nat → Value → World → Prop, (∃ m, J_27 m (Value.int IntKind.i64 0) w) ∧
                ∀ m_27, ∀ t11_28 : Value, ∀ w : World, J_27 m_27 t11_28 w → Env →
                  run1 Tryd.prog Z (binOp BinOp.add 3 t47_26 x1) w fun t51_29 w =>
                  run1 Tryd.prog Z (binOp BinOp.lss 3 t11_28 t51_29) w fun t52_30 w =>
                  CondV t52_30 (
                    run1 Tryd.prog Z (binOp BinOp.lss 3 t11_28 t47_26) w fun t57_31 w =>
                    guardW (t57_31) true (fun k => k (x0) w) (fun t59_32 w =>
                    guardW (t57_31) true (fun k => k (t9_21) w) (fun t60_33 w =>
                    guardW (t57_31) true (fun k => run1 Tryd.prog Z (Instr.indexAt 47 t59_32 t60_33) w k) (fun t61_34 w =>
                    guardW (t57_31) true (fun k => run1 Tryd.prog Z (Instr.loadAt 121 t61_34) w k) (fun t62_35 w =>
                    guardW (t57_31) true (fun k => k (t11_28) w) (fun t63_36 w =>
                    guardW (t57_31) true (fun k => run1 Tryd.prog Z (Instr.indexAt 121 t62_35 t63_36) w k) (fun t64_37 w =>
                    guardW (t57_31) true (fun k => run1 Tryd.prog Z (Instr.fieldAt 123 t64_37 7) w k) (fun t65_38 w =>
                    guardW (t57_31) true (fun k => run1 Tryd.prog Z (Instr.loadAt 2 t65_38) w k) (fun t66_39 w =>
                    guardW (t57_31) true (fun k => k (t9_21) w) (fun t67_40 w =>
                    guardW (t57_31) true (fun k => run1 Tryd.prog Z (binOp BinOp.sub 3 (Value.int IntKind.i64 (-1000000)) t67_40) w k) (fun t68_41 w =>
                    guardW (t57_31) true (fun k => run1 Tryd.prog Z (eqOp BinOp.eql 2 false false t66_39 t68_41) w k) (fun t69_42 w =>
                    guardW (t57_31) true (fun k => run1 Tryd.prog Z (Op.unary UnOp.not t69_42) w k) (fun t70_43 w =>
                    run1 Tryd.prog Z (pickV t57_31 t70_43 (Value.bool false)) w fun t71_44 w =>
                    guardW (t71_44) false (fun k => k (t11_28) w) (fun t73_45 w =>
                    guardW (t71_44) false (fun k => k (t47_26) w) (fun t74_46 w =>
                    guardW (t71_44) false (fun k => run1 Tryd.prog Z (binOp BinOp.lss 3 t73_45 t74_46) w k) (fun t75_47 w =>
                    guardW (t71_44) false (fun k => k (t75_47) w) (fun t76_48 w =>
                    guardW (t76_48) true (fun k => k (t5_2) w) (fun t77_49 w =>
                    guardW (t76_48) true (fun k => k (t9_21) w) (fun t78_50 w =>
                    guardW (t76_48) true (fun k => run1 Tryd.prog Z (Instr.indexAt 47 t77_49 t78_50) w k) (fun t79_51 w =>
                    guardW (t76_48) true (fun k => run1 Tryd.prog Z (Instr.loadAt 121 t79_51) w k) (fun t80_52 w =>
                    guardW (t76_48) true (fun k => k (t11_28) w) (fun t81_53 w =>
                    guardW (t76_48) true (fun k => run1 Tryd.prog Z (Instr.indexAt 121 t80_52 t81_53) w k) (fun t82_54 w =>
                    guardW (t76_48) true (fun k => run1 Tryd.prog Z (Instr.fieldAt 123 t82_54 7) w k) (fun t83_55 w =>
                    guardW (t76_48) true (fun k => run1 Tryd.prog Z (Instr.loadAt 2 t83_55) w k) (fun t84_56 w =>
                    guardW (t76_48) true (fun k => k (t9_21) w) (fun t85_57 w =>
                    guardW (t76_48) true (fun k => run1 Tryd.prog Z (binOp BinOp.sub 3 (Value.int IntKind.i64 (-1000000)) t85_57) w k) (fun t86_58 w =>
                    guardW (t76_48) true (fun k => run1 Tryd.prog Z (eqOp BinOp.eql 2 false false t84_56 t86_58) w k) (fun t87_59 w =>
                    guardW (t76_48) true (fun k => run1 Tryd.prog Z (Op.unary UnOp.not t87_59) w k) (fun t88_60 w =>
                    guardW (t71_44) false (fun k => run1 Tryd.prog Z (pickV t76_48 t88_60 (Value.bool false)) w k) (fun t89_61 w =>
                    run1 Tryd.prog Z (pickV t71_44 (Value.bool true) t89_61) w fun t90_62 w =>
                    guardW (t90_62) false (fun k => k (t11_28) w) (fun t92_63 w =>
                    guardW (t90_62) false (fun k => k (t47_26) w) (fun t93_64 w =>
                    guardW (t90_62) false (fun k => run1 Tryd.prog Z (binOp BinOp.geq 3 t92_63 t93_64) w k) (fun t94_65 w =>
                    guardW (t90_62) false (fun k => k (t94_65) w) (fun t95_66 w =>
                    guardW (t95_66) true (fun k => k (t5_2) w) (fun t96_67 w =>
                    guardW (t95_66) true (fun k => k (t9_21) w) (fun t97_68 w =>
                    guardW (t95_66) true (fun k => run1 Tryd.prog Z (Instr.indexAt 47 t96_67 t97_68) w k) (fun t98_69 w =>
                    guardW (t95_66) true (fun k => run1 Tryd.prog Z (Instr.loadAt 121 t98_69) w k) (fun t99_70 w =>
                    guardW (t95_66) true (fun k => k (t11_28) w) (fun t100_71 w =>
                    guardW (t95_66) true (fun k => run1 Tryd.prog Z (Instr.indexAt 121 t99_70 t100_71) w k) (fun t101_72 w =>
                    guardW (t95_66) true (fun k => run1 Tryd.prog Z (Instr.fieldAt 123 t101_72 7) w k) (fun t102_73 w =>
                    guardW (t95_66) true (fun k => run1 Tryd.prog Z (Instr.loadAt 2 t102_73) w k) (fun t103_74 w =>
                    guardW (t95_66) true (fun k => k (t9_21) w) (fun t104_75 w =>
                    guardW (t95_66) true (fun k => run1 Tryd.prog Z (binOp BinOp.sub 3 (Value.int IntKind.i64 (-2000000)) t104_75) w k) (fun t105_76 w =>
                    guardW (t95_66) true (fun k => run1 Tryd.prog Z (eqOp BinOp.eql 2 false false t103_74 t105_76) w k) (fun t106_77 w =>
                    guardW (t95_66) true (fun k => run1 Tryd.prog Z (Op.unary UnOp.not t106_77) w k) (fun t107_78 w =>
                    guardW (t90_62) false (fun k => run1 Tryd.prog Z (pickV t95_66 t107_78 (Value.bool false)) w k) (fun t108_79 w =>
                    run1 Tryd.prog Z (pickV t90_62 (Value.bool true) t108_79) w fun t109_80 w =>
                    CondV t109_80 (
                      Q (Value.bool false) w) (
                      run1 Tryd.prog Z (binOp BinOp.add 3 t11_28 (Value.int IntKind.i64 1)) w fun t54_81 w =>
                      ∃ n_27, n_27 < m_27 ∧ J_27 n_27 t54_81 w)) w) w) w) w) w) w) w) w) w) w) w) w) w) w) w) w) w) w) w) w) w) w) w) w) w) w) w) w) w) w) w) w) w) w) w) w) w) w) w) w) w) w) w) w) w) w) (
                    run1 Tryd.prog Z (binOp BinOp.add 3 t9_21 (Value.int IntKind.i64 1)) w fun t42_82 w =>
                    ∃ n_20, n_20 < m_20 ∧ J_20 n_20 t42_82 w)) (
              Q (Value.bool true) w))
noncomputable def f65.code : Code := match Tryd.f65.body with | some c => c | none => .skip
def f65.an : An := (.sq .leaf (.sq .leaf (.sq (.sq .leaf (.bl (.lp [5, 6] [5, 6, 7, 8, 12, 13, 14, 15, 16, 17, 18, 19, 20, 21, 22, 23, 24, 25, 26, 27, 28, 29, 30, 31, 32, 33, 34, 35, 36] (.sq (.sq .leaf (.cn .leaf .leaf)) (.sq (.bl (.sq .leaf (.sq (.sq .leaf (.bl (.lp [7, 8] [7, 8, 22, 23, 24, 25, 26, 27, 28, 29, 30, 31, 32] (.sq (.sq .leaf (.cn .leaf .leaf)) (.sq (.bl .leaf) .leaf))))) .leaf))) .leaf))))) (.sq (.sq .leaf (.bl (.lp [9] [4, 9, 10, 11, 37, 38, 39, 40, 41, 42, 43, 44, 45, 46, 47, 48, 49, 50, 51, 52, 53, 54, 55, 56, 57, 58, 59, 60, 61, 62, 63, 64, 65, 66, 67, 68, 69, 70, 71, 72, 73, 74, 75, 76, 77, 78, 79, 80, 81, 82, 83, 84, 85, 86, 87, 88, 89, 90, 91, 92, 93, 94, 95, 96, 97, 98, 99, 100, 101, 102, 103, 104, 105, 106, 107, 108, 109] (.sq (.sq .leaf (.cn .leaf .leaf)) (.sq (.bl (.sq .leaf (.sq .leaf (.bl (.lp [11] [4, 11, 48, 49, 50, 51, 52, 53, 54, 55, 56, 57, 58, 59, 60, 61, 62, 63, 64, 65, 66, 67, 68, 69, 70, 71, 72, 73, 74, 75, 76, 77, 78, 79, 80, 81, 82, 83, 84, 85, 86, 87, 88, 89, 90, 91, 92, 93, 94, 95, 96, 97, 98, 99, 100, 101, 102, 103, 104, 105, 106, 107, 108, 109] (.sq (.sq .leaf (.cn .leaf .leaf)) (.sq (.bl (.sq .leaf (.cn (.sq .leaf .leaf) .leaf))) .leaf))))))) .leaf))))) (.sq .leaf .leaf)))))
theorem f65.body_eq : Tryd.f65.body = some f65.code := by kernel_rfl
theorem f65.shape (Z : List PanicEntry → World → Prop) (x0 x1 : Value) (w : World) (Q : Value → World → Prop) : vc drawD Tryd.prog 110 Z [] f65.an f65.code (fnQ Tryd.prog 110 Tryd.f65.results Q) (argEnv [x0, x1]) w = f65.sh Z x0 x1 w Q := by kernel_rfl
theorem f65.enters : ∀ f, f ∈ ([] : List Nat) → Enters Tryd.prog f := by
  intro f hf
  cases hf
theorem f65.calls {Z : List PanicEntry → World → Prop} {x0 x1 : Value} {w : World} {Q : Value → World → Prop} (h : f65.sh Z x0 x1 w Q) : CallV Tryd.prog Z 65 #[x0, x1] w Q :=
  calls_of_vcn drawD_sound (Q := Q) (n := 110) (rs := Tryd.f65.results) (an := f65.an) (c := f65.code) (cal := []) (args := [x0, x1]) Tryd.func65 (by kernel_rfl) rfl f65.body_eq follows (Nat.le_of_ble_eq_true (by kernel_rfl)) (enters_of_all f65.enters) ((f65.shape Z x0 x1 w Q).mpr h)

/-! ### 66: lagoon/lagoonref00.grownTxns -/
def f66.sh (Z : List PanicEntry → World → Prop) (x0 x1 : Value) (w : World) (Q : Value → World → Prop) : Prop :=
  ∃ J_1 : Nat → Value → Value → World → Prop, (∃ m, J_1 m (Value.slice none 0 0) (Value.int IntKind.i64 0) w) ∧
    ∀ m_1, ∀ t5_2 : Value, ∀ t6_3 : Value, ∀ w : World, J_1 m_1 t5_2 t6_3 w → Env →
      run1 Tryd.prog Z (Builtin.len_ #[48] 3 #[x0]) w fun t14_4 w =>
      run1 Tryd.prog Z (binOp BinOp.lss 3 t6_3 t14_4) w fun t15_5 w =>
      CondV t15_5 (
        run1 Tryd.prog Z (Instr.indexAt 48 x0 t6_3) w fun t20_6 w =>
        run1 Tryd.prog Z (Instr.loadAt 125 t20_6) w fun t21_7 w =>
        ∃ J_8 : Nat → Value → Value → World → Prop, (∃ m, J_8 m t21_7 (Value.int IntKind.i64 0) w) ∧
          ∀ m_8, ∀ t7_9 : Value, ∀ t8_10 : Value, ∀ w : World, J_8 m_8 t7_9 t8_10 w → Env →
            run1 Tryd.prog Z (binOp BinOp.lss 3 t8_10 x1) w fun t24_11 w =>
            CondV t24_11 (
              run1 Tryd.prog Z (binOp BinOp.sub 3 (Value.int IntKind.i64 (-2000000)) t6_3) w fun t29_12 w =>
              run1 Tryd.prog Z (Instr.build 127 #[(2, t29_12)]) w fun t30_13 w =>
              run1 Tryd.prog Z (Instr.build 131 #[(1, t30_13)]) w fun t31_14 w =>
              run1 Tryd.prog Z (Instr.buildSlice 125 1 #[(0, t31_14)]) w fun t32_15 w =>
              run1 Tryd.prog Z (Builtin.append_ #[125, 125] 125 #[t7_9, t32_15]) w fun t33_16 w =>
              run1 Tryd.prog Z (binOp BinOp.add 3 t8_10 (Value.int IntKind.i64 1)) w fun t26_17 w =>
              ∃ n_8, n_8 < m_8 ∧ J_8 n_8 t33_16 t26_17 w) (
              run1 Tryd.prog Z (Instr.buildSlice 48 1 #[(0, t7_9)]) w fun t36_18 w =>
              run1 Tryd.prog Z (Builtin.append_ #[48, 48] 48 #[t5_2, t36_18]) w fun t37_19 w =>
              run1 Tryd.prog Z (binOp BinOp.add 3 t6_3 (Value.int IntKind.i64 1)) w fun t17_20 w =>
              ∃ n_1, n_1 < m_1 ∧ J_1 n_1 t37_19 t17_20 w)) (
        ∃ J_21 : Nat → Value → World → Prop, (∃ m, J_21 m (Value.int IntKind.i64 0) w) ∧
          ∀ m_21, ∀ t9_22 : Value, ∀ w : World, J_21 m_21 t9_22 w → Env →
            run1 Tryd.prog Z (Builtin.len_ #[48] 3 #[x0]) w fun t40_23 w =>
            run1 Tryd.prog Z (binOp BinOp.lss 3 t9_22 t40_23) w fun t41_24 w =>
            CondV t41_24 (
              run1 Tryd.prog Z (Instr.indexAt 48 x0 t9_22) w fun t46_25 w =>
              run1 Tryd.prog Z (Instr.loadAt 125 t46_25) w fun t47_26 w =>
              run1 Tryd.prog Z (Builtin.len_ #[125] 3 #[t47_26]) w fun t48_27 w =>
              ∃ J_28 : Nat → Value → World → Prop, (∃ m, J_28 m (Value.int IntKind.i64 0) w) ∧
                ∀ m_28, ∀ t11_29 : Value, ∀ w : World, J_28 m_28 t11_29 w → Env →
                  run1 Tryd.prog Z (binOp BinOp.add 3 t48_27 x1) w fun t52_30 w =>
                  run1 Tryd.prog Z (binOp BinOp.lss 3 t11_29 t52_30) w fun t53_31 w =>
                  CondV t53_31 (
                    run1 Tryd.prog Z (binOp BinOp.lss 3 t11_29 t48_27) w fun t58_32 w =>
                    guardW (t58_32) true (fun k => k (x0) w) (fun t60_33 w =>
                    guardW (t58_32) true (fun k => k (t9_22) w) (fun t61_34 w =>
                    guardW (t58_32) true (fun k => run1 Tryd.prog Z (Instr.indexAt 48 t60_33 t61_34) w k) (fun t62_35 w =>
                    guardW (t58_32) true (fun k => run1 Tryd.prog Z (Instr.loadAt 125 t62_35) w k) (fun t63_36 w =>
                    guardW (t58_32) true (fun k => k (t11_29) w) (fun t64_37 w =>
                    guardW (t58_32) true (fun k => run1 Tryd.prog Z (Instr.indexAt 125 t63_36 t64_37) w k) (fun t65_38 w =>
                    guardW (t58_32) true (fun k => run1 Tryd.prog Z (Instr.fieldAt 131 t65_38 1) w k) (fun t66_39 w =>
                    guardW (t58_32) true (fun k => run1 Tryd.prog Z (Instr.fieldAt 127 t66_39 2) w k) (fun t67_40 w =>
                    guardW (t58_32) true (fun k => run1 Tryd.prog Z (Instr.loadAt 2 t67_40) w k) (fun t68_41 w =>
                    guardW (t58_32) true (fun k => k (t9_22) w) (fun t69_42 w =>
                    guardW (t58_32) true (fun k => run1 Tryd.prog Z (binOp BinOp.sub 3 (Value.int IntKind.i64 (-1000000)) t69_42) w k) (fun t70_43 w =>
                    guardW (t58_32) true (fun k => run1 Tryd.prog Z (eqOp BinOp.eql 2 false false t68_41 t70_43) w k) (fun t71_44 w =>
                    guardW (t58_32) true (fun k => run1 Tryd.prog Z (Op.unary UnOp.not t71_44) w k) (fun t72_45 w =>
                    run1 Tryd.prog Z (pickV t58_32 t72_45 (Value.bool false)) w fun t73_46 w =>
                    guardW (t73_46) false (fun k => k (t11_29) w) (fun t75_47 w =>
                    guardW (t73_46) false (fun k => k (t48_27) w) (fun t76_48 w =>
                    guardW (t73_46) false (fun k => run1 Tryd.prog Z (binOp BinOp.lss 3 t75_47 t76_48) w k) (fun t77_49 w =>
                    guardW (t73_46) false (fun k => k (t77_49) w) (fun t78_50 w =>
                    guardW (t78_50) true (fun k => k (t5_2) w) (fun t79_51 w =>
                    guardW (t78_50) true (fun k => k (t9_22) w) (fun t80_52 w =>
                    guardW (t78_50) true (fun k => run1 Tryd.prog Z (Instr.indexAt 48 t79_51 t80_52) w k) (fun t81_53 w =>
                    guardW (t78_50) true (fun k => run1 Tryd.prog Z (Instr.loadAt 125 t81_53) w k) (fun t82_54 w =>
                    guardW (t78_50) true (fun k => k (t11_29) w) (fun t83_55 w =>
                    guardW (t78_50) true (fun k => run1 Tryd.prog Z (Instr.indexAt 125 t82_54 t83_55) w k) (fun t84_56 w =>
                    guardW (t78_50) true (fun k => run1 Tryd.prog Z (Instr.fieldAt 131 t84_56 1) w k) (fun t85_57 w =>
                    guardW (t78_50) true (fun k => run1 Tryd.prog Z (Instr.fieldAt 127 t85_57 2) w k) (fun t86_58 w =>
                    guardW (t78_50) true (fun k => run1 Tryd.prog Z (Instr.loadAt 2 t86_58) w k) (fun t87_59 w =>
                    guardW (t78_50) true (fun k => k (t9_22) w) (fun t88_60 w =>
                    guardW (t78_50) true (fun k => run1 Tryd.prog Z (binOp BinOp.sub 3 (Value.int IntKind.i64 (-1000000)) t88_60) w k) (fun t89_61 w =>
                    guardW (t78_50) true (fun k => run1 Tryd.prog Z (eqOp BinOp.eql 2 false false t87_59 t89_61) w k) (fun t90_62 w =>
                    guardW (t78_50) true (fun k => run1 Tryd.prog Z (Op.unary UnOp.not t90_62) w k) (fun t91_63 w =>
                    guardW (t73_46) false (fun k => run1 Tryd.prog Z (pickV t78_50 t91_63 (Value.bool false)) w k) (fun t92_64 w =>
                    run1 Tryd.prog Z (pickV t73_46 (Value.bool true) t92_64) w fun t93_65 w =>
                    guardW (t93_65) false (fun k => k (t11_29) w) (fun t95_66 w =>
                    guardW (t93_65) false (fun k => k (t48_27) w) (fun t96_67 w =>
                    guardW (t93_65) false (fun k => run1 Tryd.prog Z (binOp BinOp.geq 3 t95_66 t96_67) w k) (fun t97_68 w =>
                    guardW (t93_65) false (fun k => k (t97_68) w) (fun t98_69 w =>
                    guardW (t98_69) true (fun k => k (t5_2) w) (fun t99_70 w =>
                    guardW (t98_69) true (fun k => k (t9_22) w) (fun t100_71 w =>
                    guardW (t98_69) true (fun k => run1 Tryd.prog Z (Instr.indexAt 48 t99_70 t100_71) w k) (fun t101_72 w =>
                    guardW (t98_69) true (fun k => run1 Tryd.prog Z (Instr.loadAt 125 t101_72) w k) (fun t102_73 w =>
                    guardW (t98_69) true (fun k => k (t11_29) w) (fun t103_74 w =>
                    guardW (t98_69) true (fun k => run1 Tryd.prog Z (Instr.indexAt 125 t102_73 t103_74) w k) (fun t104_75 w =>
                    guardW (t98_69) true (fun k => run1 Tryd.prog Z (Instr.fieldAt 131 t104_75 1) w k) (fun t105_76 w =>
                    guardW (t98_69) true (fun k => run1 Tryd.prog Z (Instr.fieldAt 127 t105_76 2) w k) (fun t106_77 w =>
                    guardW (t98_69) true (fun k => run1 Tryd.prog Z (Instr.loadAt 2 t106_77) w k) (fun t107_78 w =>
                    guardW (t98_69) true (fun k => k (t9_22) w) (fun t108_79 w =>
                    guardW (t98_69) true (fun k => run1 Tryd.prog Z (binOp BinOp.sub 3 (Value.int IntKind.i64 (-2000000)) t108_79) w k) (fun t109_80 w =>
                    guardW (t98_69) true (fun k => run1 Tryd.prog Z (eqOp BinOp.eql 2 false false t107_78 t109_80) w k) (fun t110_81 w =>
                    guardW (t98_69) true (fun k => run1 Tryd.prog Z (Op.unary UnOp.not t110_81) w k) (fun t111_82 w =>
                    guardW (t93_65) false (fun k => run1 Tryd.prog Z (pickV t98_69 t111_82 (Value.bool false)) w k) (fun t112_83 w =>
                    run1 Tryd.prog Z (pickV t93_65 (Value.bool true) t112_83) w fun t113_84 w =>
                    CondV t113_84 (
                      Q (Value.bool false) w) (
                      run1 Tryd.prog Z (binOp BinOp.add 3 t11_29 (Value.int IntKind.i64 1)) w fun t55_85 w =>
                      ∃ n_28, n_28 < m_28 ∧ J_28 n_28 t55_85 w)) w) w) w) w) w) w) w) w) w) w) w) w) w) w) w) w) w) w) w) w) w) w) w) w) w) w) w) w) w) w) w) w) w) w) w) w) w) w) w) w) w) w) w) w) w) w) w) w) w) (
                    run1 Tryd.prog Z (binOp BinOp.add 3 t9_22 (Value.int IntKind.i64 1)) w fun t43_86 w =>
                    ∃ n_21, n_21 < m_21 ∧ J_21 n_21 t43_86 w)) (
              Q (Value.bool true) w))
noncomputable def f66.code : Code := match Tryd.f66.body with | some c => c | none => .skip
def f66.an : An := (.sq .leaf (.sq .leaf (.sq (.sq .leaf (.bl (.lp [5, 6] [5, 6, 7, 8, 12, 13, 14, 15, 16, 17, 18, 19, 20, 21, 22, 23, 24, 25, 26, 27, 28, 29, 30, 31, 32, 33, 34, 35, 36, 37] (.sq (.sq .leaf (.cn .leaf .leaf)) (.sq (.bl (.sq .leaf (.sq (.sq .leaf (.bl (.lp [7, 8] [7, 8, 22, 23, 24, 25, 26, 27, 28, 29, 30, 31, 32, 33] (.sq (.sq .leaf (.cn .leaf .leaf)) (.sq (.bl .leaf) .leaf))))) .leaf))) .leaf))))) (.sq (.sq .leaf (.bl (.lp [9] [4, 9, 10, 11, 38, 39, 40, 41, 42, 43, 44, 45, 46, 47, 48, 49, 50, 51, 52, 53, 54, 55, 56, 57, 58, 59, 60, 61, 62, 63, 64, 65, 66, 67, 68, 69, 70, 71, 72, 73, 74, 75, 76, 77, 78, 79, 80, 81, 82, 83, 84, 85, 86, 87, 88, 89, 90, 91, 92, 93, 94, 95, 96, 97, 98, 99, 100, 101, 102, 103, 104, 105, 106, 107, 108, 109, 110, 111, 112, 113] (.sq (.sq .leaf (.cn .leaf .leaf)) (.sq (.bl (.sq .leaf (.sq .leaf (.bl (.lp [11] [4, 11, 49, 50, 51, 52, 53, 54, 55, 56, 57, 58, 59, 60, 61, 62, 63, 64, 65, 66, 67, 68, 69, 70, 71, 72, 73, 74, 75, 76, 77, 78, 79, 80, 81, 82, 83, 84, 85, 86, 87, 88, 89, 90, 91, 92, 93, 94, 95, 96, 97, 98, 99, 100, 101, 102, 103, 104, 105, 106, 107, 108, 109, 110, 111, 112, 113] (.sq (.sq .leaf (.cn .leaf .leaf)) (.sq (.bl (.sq .leaf (.cn (.sq .leaf .leaf) .leaf))) .leaf))))))) .leaf))))) (.sq .leaf .leaf)))))
theorem f66.body_eq : Tryd.f66.body = some f66.code := by kernel_rfl
theorem f66.shape (Z : List PanicEntry → World → Prop) (x0 x1 : Value) (w : World) (Q : Value → World → Prop) : vc drawD Tryd.prog 114 Z [] f66.an f66.code (fnQ Tryd.prog 114 Tryd.f66.results Q) (argEnv [x0, x1]) w = f66.sh Z x0 x1 w Q := by kernel_rfl
theorem f66.enters : ∀ f, f ∈ ([] : List Nat) → Enters Tryd.prog f := by
  intro f hf
  cases hf
theorem f66.calls {Z : List PanicEntry → World → Prop} {x0 x1 : Value} {w : World} {Q : Value → World → Prop} (h : f66.sh Z x0 x1 w Q) : CallV Tryd.prog Z 66 #[x0, x1] w Q :=
  calls_of_vcn drawD_sound (Q := Q) (n := 114) (rs := Tryd.f66.results) (an := f66.an) (c := f66.code) (cal := []) (args := [x0, x1]) Tryd.func66 (by kernel_rfl) rfl f66.body_eq follows (Nat.le_of_ble_eq_true (by kernel_rfl)) (enters_of_all f66.enters) ((f66.shape Z x0 x1 w Q).mpr h)

/-! ### 67: lagoon/lagoonref00.grownResults -/
def f67.sh (Z : List PanicEntry → World → Prop) (x0 x1 : Value) (w : World) (Q : Value → World → Prop) : Prop :=
  ∃ J_1 : Nat → Value → Value → World → Prop, (∃ m, J_1 m (Value.slice none 0 0) (Value.int IntKind.i64 0) w) ∧
    ∀ m_1, ∀ t5_2 : Value, ∀ t6_3 : Value, ∀ w : World, J_1 m_1 t5_2 t6_3 w → Env →
      run1 Tryd.prog Z (Builtin.len_ #[49] 3 #[x0]) w fun t14_4 w =>
      run1 Tryd.prog Z (binOp BinOp.lss 3 t6_3 t14_4) w fun t15_5 w =>
      CondV t15_5 (
        run1 Tryd.prog Z (Instr.indexAt 49 x0 t6_3) w fun t20_6 w =>
        run1 Tryd.prog Z (Instr.loadAt 133 t20_6) w fun t21_7 w =>
        ∃ J_8 : Nat → Value → Value → World → Prop, (∃ m, J_8 m t21_7 (Value.int IntKind.i64 0) w) ∧
          ∀ m_8, ∀ t7_9 : Value, ∀ t8_10 : Value, ∀ w : World, J_8 m_8 t7_9 t8_10 w → Env →
            run1 Tryd.prog Z (binOp BinOp.lss 3 t8_10 x1) w fun t24_11 w =>
            CondV t24_11 (
              run1 Tryd.prog Z (binOp BinOp.sub 3 (Value.int IntKind.i64 (-2000000)) t6_3) w fun t29_12 w =>
              run1 Tryd.prog Z (Instr.build 137 #[(6, t29_12)]) w fun t30_13 w =>
              run1 Tryd.prog Z (Instr.buildSlice 133 1 #[(0, t30_13)]) w fun t31_14 w =>
              run1 Tryd.prog Z (Builtin.append_ #[133, 133] 133 #[t7_9, t31_14]) w fun t32_15 w =>
              run1 Tryd.prog Z (binOp BinOp.add 3 t8_10 (Value.int IntKind.i64 1)) w fun t26_16 w =>
              ∃ n_8, n_8 < m_8 ∧ J_8 n_8 t32_15 t26_16 w) (
              run1 Tryd.prog Z (Instr.buildSlice 49 1 #[(0, t7_9)]) w fun t35_17 w =>
              run1 Tryd.prog Z (Builtin.append_ #[49, 49] 49 #[t5_2, t35_17]) w fun t36_18 w =>
              run1 Tryd.prog Z (binOp BinOp.add 3 t6_3 (Value.int IntKind.i64 1)) w fun t17_19 w =>
              ∃ n_1, n_1 < m_1 ∧ J_1 n_1 t36_18 t17_19 w)) (
        ∃ J_20 : Nat → Value → World → Prop, (∃ m, J_20 m (Value.int IntKind.i64 0) w) ∧
          ∀ m_20, ∀ t9_21 : Value, ∀ w : World, J_20 m_20 t9_21 w → Env →
            run1 Tryd.prog Z (Builtin.len_ #[49] 3 #[x0]) w fun t39_22 w =>
            run1 Tryd.prog Z (binOp BinOp.lss 3 t9_21 t39_22) w fun t40_23 w =>
            CondV t40_23 (
              run1 Tryd.prog Z (Instr.indexAt 49 x0 t9_21) w fun t45_24 w =>
              run1 Tryd.prog Z (Instr.loadAt 133 t45_24) w fun t46_25 w =>
              run1 Tryd.prog Z (Builtin.len_ #[133] 3 #[t46_25]) w fun t47_26 w =>
              ∃ J_27 : Nat → Value → World → Prop, (∃ m, J_27 m (Value.int IntKind.i64 0) w) ∧
                ∀ m_27, ∀ t11_28 : Value, ∀ w : World, J_27 m_27 t11_28 w → Env →
                  run1 Tryd.prog Z (binOp BinOp.add 3 t47_26 x1) w fun t51_29 w =>
                  run1 Tryd.prog Z (binOp BinOp.lss 3 t11_28 t51_29) w fun t52_30 w =>
                  CondV t52_30 (
                    run1 Tryd.prog Z (binOp BinOp.lss 3 t11_28 t47_26) w fun t57_31 w =>
                    guardW (t57_31) true (fun k => k (x0) w) (fun t59_32 w =>
                    guardW (t57_31) true (fun k => k (t9_21) w) (fun t60_33 w =>
                    guardW (t57_31) true (fun k => run1 Tryd.prog Z (Instr.indexAt 49 t59_32 t60_33) w k) (fun t61_34 w =>
                    guardW (t57_31) true (fun k => run1 Tryd.prog Z (Instr.loadAt 133 t61_34) w k) (fun t62_35 w =>
                    guardW (t57_31) true (fun k => k (t11_28) w) (fun t63_36 w =>
                    guardW (t57_31) true (fun k => run1 Tryd.prog Z (Instr.indexAt 133 t62_35 t63_36) w k) (fun t64_37 w =>
                    guardW (t57_31) true (fun k => run1 Tryd.prog Z (Instr.fieldAt 137 t64_37 6) w k) (fun t65_38 w =>
                    guardW (t57_31) true (fun k => run1 Tryd.prog Z (Instr.loadAt 2 t65_38) w k) (fun t66_39 w =>
                    guardW (t57_31) true (fun k => k (t9_21) w) (fun t67_40 w =>
                    guardW (t57_31) true (fun k => run1 Tryd.prog Z (binOp BinOp.sub 3 (Value.int IntKind.i64 (-1000000)) t67_40) w k) (fun t68_41 w =>
                    guardW (t57_31) true (fun k => run1 Tryd.prog Z (eqOp BinOp.eql 2 false false t66_39 t68_41) w k) (fun t69_42 w =>
                    guardW (t57_31) true (fun k => run1 Tryd.prog Z (Op.unary UnOp.not t69_42) w k) (fun t70_43 w =>
                    run1 Tryd.prog Z (pickV t57_31 t70_43 (Value.bool false)) w fun t71_44 w =>
                    guardW (t71_44) false (fun k => k (t11_28) w) (fun t73_45 w =>
                    guardW (t71_44) false (fun k => k (t47_26) w) (fun t74_46 w =>
                    guardW (t71_44) false (fun k => run1 Tryd.prog Z (binOp BinOp.lss 3 t73_45 t74_46) w k) (fun t75_47 w =>
                    guardW (t71_44) false (fun k => k (t75_47) w) (fun t76_48 w =>
                    guardW (t76_48) true (fun k => k (t5_2) w) (fun t77_49 w =>
                    guardW (t76_48) true (fun k => k (t9_21) w) (fun t78_50 w =>
                    guardW (t76_48) true (fun k => run1 Tryd.prog Z (Instr.indexAt 49 t77_49 t78_50) w k) (fun t79_51 w =>
                    guardW (t76_48) true (fun k => run1 Tryd.prog Z (Instr.loadAt 133 t79_51) w k) (fun t80_52 w =>
                    guardW (t76_48) true (fun k => k (t11_28) w) (fun t81_53 w =>
                    guardW (t76_48) true (fun k => run1 Tryd.prog Z (Instr.indexAt 133 t80_52 t81_53) w k) (fun t82_54 w =>
                    guardW (t76_48) true (fun k => run1 Tryd.prog Z (Instr.fieldAt 137 t82_54 6) w k) (fun t83_55 w =>
                    guardW (t76_48) true (fun k => run1 Tryd.prog Z (Instr.loadAt 2 t83_55) w k) (fun t84_56 w =>
                    guardW (t76_48) true (fun k => k (t9_21) w) (fun t85_57 w =>
                    guardW (t76_48) true (fun k => run1 Tryd.prog Z (binOp BinOp.sub 3 (Value.int IntKind.i64 (-1000000)) t85_57) w k) (fun t86_58 w =>
                    guardW (t76_48) true (fun k => run1 Tryd.prog Z (eqOp BinOp.eql 2 false false t84_56 t86_58) w k) (fun t87_59 w =>
                    guardW (t76_48) true (fun k => run1 Tryd.prog Z (Op.unary UnOp.not t87_59) w k) (fun t88_60 w =>
                    guardW (t71_44) false (fun k => run1 Tryd.prog Z (pickV t76_48 t88_60 (Value.bool false)) w k) (fun t89_61 w =>
                    run1 Tryd.prog Z (pickV t71_44 (Value.bool true) t89_61) w fun t90_62 w =>
                    guardW (t90_62) false (fun k => k (t11_28) w) (fun t92_63 w =>
                    guardW (t90_62) false (fun k => k (t47_26) w) (fun t93_64 w =>
                    guardW (t90_62) false (fun k => run1 Tryd.prog Z (binOp BinOp.geq 3 t92_63 t93_64) w k) (fun t94_65 w =>
                    guardW (t90_62) false (fun k => k (t94_65) w) (fun t95_66 w =>
                    guardW (t95_66) true (fun k => k (t5_2) w) (fun t96_67 w =>
                    guardW (t95_66) true (fun k => k (t9_21) w) (fun t97_68 w =>
                    guardW (t95_66) true (fun k => run1 Tryd.prog Z (Instr.indexAt 49 t96_67 t97_68) w k) (fun t98_69 w =>
                    guardW (t95_66) true (fun k => run1 Tryd.prog Z (Instr.loadAt 133 t98_69) w k) (fun t99_70 w =>
                    guardW (t95_66) true (fun k => k (t11_28) w) (fun t100_71 w =>
                    guardW (t95_66) true (fun k => run1 Tryd.prog Z (Instr.indexAt 133 t99_70 t100_71) w k) (fun t101_72 w =>
                    guardW (t95_66) true (fun k => run1 Tryd.prog Z (Instr.fieldAt 137 t101_72 6) w k) (fun t102_73 w =>
                    guardW (t95_66) true (fun k => run1 Tryd.prog Z (Instr.loadAt 2 t102_73) w k) (fun t103_74 w =>
                    guardW (t95_66) true (fun k => k (t9_21) w) (fun t104_75 w =>
                    guardW (t95_66) true (fun k => run1 Tryd.prog Z (binOp BinOp.sub 3 (Value.int IntKind.i64 (-2000000)) t104_75) w k) (fun t105_76 w =>
                    guardW (t95_66) true (fun k => run1 Tryd.prog Z (eqOp BinOp.eql 2 false false t103_74 t105_76) w k) (fun t106_77 w =>
                    guardW (t95_66) true (fun k => run1 Tryd.prog Z (Op.unary UnOp.not t106_77) w k) (fun t107_78 w =>
                    guardW (t90_62) false (fun k => run1 Tryd.prog Z (pickV t95_66 t107_78 (Value.bool false)) w k) (fun t108_79 w =>
                    run1 Tryd.prog Z (pickV t90_62 (Value.bool true) t108_79) w fun t109_80 w =>
                    CondV t109_80 (
                      Q (Value.bool false) w) (
                      run1 Tryd.prog Z (binOp BinOp.add 3 t11_28 (Value.int IntKind.i64 1)) w fun t54_81 w =>
                      ∃ n_27, n_27 < m_27 ∧ J_27 n_27 t54_81 w)) w) w) w) w) w) w) w) w) w) w) w) w) w) w) w) w) w) w) w) w) w) w) w) w) w) w) w) w) w) w) w) w) w) w) w) w) w) w) w) w) w) w) w) w) w) w) (
                    run1 Tryd.prog Z (binOp BinOp.add 3 t9_21 (Value.int IntKind.i64 1)) w fun t42_82 w =>
                    ∃ n_20, n_20 < m_20 ∧ J_20 n_20 t42_82 w)) (
              Q (Value.bool true) w))
noncomputable def f67.code : Code := match Tryd.f67.body with | some c => c | none => .skip
def f67.an : An := (.sq .leaf (.sq .leaf (.sq (.sq .leaf (.bl (.lp [5, 6] [5, 6, 7, 8, 12, 13, 14, 15, 16, 17, 18, 19, 20, 21, 22, 23, 24, 25, 26, 27, 28, 29, 30, 31, 32, 33, 34, 35, 36] (.sq (.sq .leaf (.cn .leaf .leaf)) (.sq (.bl (.sq .leaf (.sq (.sq .leaf (.bl (.lp [7, 8] [7, 8, 22, 23, 24, 25, 26, 27, 28, 29, 30, 31, 32] (.sq (.sq .leaf (.cn .leaf .leaf)) (.sq (.bl .leaf) .leaf))))) .leaf))) .leaf))))) (.sq (.sq .leaf (.bl (.lp [9] [4, 9, 10, 11, 37, 38, 39, 40, 41, 42, 43, 44, 45, 46, 47, 48, 49, 50, 51, 52, 53, 54, 55, 56, 57, 58, 59, 60, 61, 62, 63, 64, 65, 66, 67, 68, 69, 70, 71, 72, 73, 74, 75, 76, 77, 78, 79, 80, 81, 82, 83, 84, 85, 86, 87, 88, 89, 90, 91, 92, 93, 94, 95, 96, 97, 98, 99, 100, 101, 102, 103, 104, 105, 106, 107, 108, 109] (.sq (.sq .leaf (.cn .leaf .leaf)) (.sq (.bl (.sq .leaf (.sq .leaf (.bl (.lp [11] [4, 11, 48, 49, 50, 51, 52, 53, 54, 55, 56, 57, 58, 59, 60, 61, 62, 63, 64, 65, 66, 67, 68, 69, 70, 71, 72, 73, 74, 75, 76, 77, 78, 79, 80, 81, 82, 83, 84, 85, 86, 87, 88, 89, 90, 91, 92, 93, 94, 95, 96, 97, 98, 99, 100, 101, 102, 103, 104, 105, 106, 107, 108, 109] (.sq (.sq .leaf (.cn .leaf .leaf)) (.sq (.bl (.sq .leaf (.cn (.sq .leaf .leaf) .leaf))) .leaf))))))) .leaf))))) (.sq .leaf .leaf)))))
theorem f67.body_eq : Tryd.f67.body = some f67.code := by kernel_rfl
theorem f67.shape (Z : List PanicEntry → World → Prop) (x0 x1 : Value) (w : World) (Q : Value → World → Prop) : vc drawD Tryd.prog 110 Z [] f67.an f67.code (fnQ Tryd.prog 110 Tryd.f67.results Q) (argEnv [x0, x1]) w = f67.sh Z x0 x1 w Q := by kernel_rfl
theorem f67.enters : ∀ f, f ∈ ([] : List Nat) → Enters Tryd.prog f := by
  intro f hf
  cases hf
theorem f67.calls {Z : List PanicEntry → World → Prop} {x0 x1 : Value} {w : World} {Q : Value → World → Prop} (h : f67.sh Z x0 x1 w Q) : CallV Tryd.prog Z 67 #[x0, x1] w Q :=
  calls_of_vcn drawD_sound (Q := Q) (n := 110) (rs := Tryd.f67.results) (an := f67.an) (c := f67.code) (cal := []) (args := [x0, x1]) Tryd.func67 (by kernel_rfl) rfl f67.body_eq follows (Nat.le_of_ble_eq_true (by kernel_rfl)) (enters_of_all f67.enters) ((f67.shape Z x0 x1 w Q).mpr h)

/-! ### 68: lagoon/lagoonref00.grownNodes -/
def f68.sh (Z : List PanicEntry → World → Prop) (x0 x1 : Value) (w : World) (Q : Value → World → Prop) : Prop :=
  ∃ J_1 : Nat → Value → Value → World → Prop, (∃ m, J_1 m (Value.slice none 0 0) (Value.int IntKind.i64 0) w) ∧
    ∀ m_1, ∀ t5_2 : Value, ∀ t6_3 : Value, ∀ w : World, J_1 m_1 t5_2 t6_3 w → Env →
      run1 Tryd.prog Z (Builtin.len_ #[50] 3 #[x0]) w fun t14_4 w =>
      run1 Tryd.prog Z (binOp BinOp.lss 3 t6_3 t14_4) w fun t15_5 w =>
      CondV t15_5 (
        run1 Tryd.prog Z (Instr.indexAt 50 x0 t6_3) w fun t20_6 w =>
        run1 Tryd.prog Z (Instr.loadAt 139 t20_6) w fun t21_7 w =>
        ∃ J_8 : Nat → Value → Value → World → Prop, (∃ m, J_8 m t21_7 (Value.int IntKind.i64 0) w) ∧
          ∀ m_8, ∀ t7_9 : Value, ∀ t8_10 : Value, ∀ w : World, J_8 m_8 t7_9 t8_10 w → Env →
            run1 Tryd.prog Z (binOp BinOp.lss 3 t8_10 x1) w fun t24_11 w =>
            CondV t24_11 (
              run1 Tryd.prog Z (binOp BinOp.sub 3 (Value.int IntKind.i64 (-2000000)) t6_3) w fun t29_12 w =>
              CallV Tryd.prog Z 60 #[t29_12] w fun t30_13 w =>
              run1 Tryd.prog Z (Instr.build 141 #[(0, t30_13)]) w fun t31_14 w =>
              run1 Tryd.prog Z (Instr.buildSlice 139 1 #[(0, t31_14)]) w fun t32_15 w =>
              run1 Tryd.prog Z (Builtin.append_ #[139, 139] 139 #[t7_9, t32_15]) w fun t33_16 w =>
              run1 Tryd.prog Z (binOp BinOp.add 3 t8_10 (Value.int IntKind.i64 1)) w fun t26_17 w =>
              ∃ n_8, n_8 < m_8 ∧ J_8 n_8 t33_16 t26_17 w) (
              run1 Tryd.prog Z (Instr.buildSlice 50 1 #[(0, t7_9)]) w fun t36_18 w =>
              run1 Tryd.prog Z (Builtin.append_ #[50, 50] 50 #[t5_2, t36_18]) w fun t37_19 w =>
              run1 Tryd.prog Z (binOp BinOp.add 3 t6_3 (Value.int IntKind.i64 1)) w fun t17_20 w =>
              ∃ n_1, n_1 < m_1 ∧ J_1 n_1 t37_19 t17_20 w)) (
        ∃ J_21 : Nat → Value → World → Prop, (∃ m, J_21 m (Value.int IntKind.i64 0) w) ∧
          ∀ m_21, ∀ t9_22 : Value, ∀ w : World, J_21 m_21 t9_22 w → Env →
            run1 Tryd.prog Z (Builtin.len_ #[50] 3 #[x0]) w fun t40_23 w =>
            run1 Tryd.prog Z (binOp BinOp.lss 3 t9_22 t40_23) w fun t41_24 w =>
            CondV t41_24 (
              run1 Tryd.prog Z (Instr.indexAt 50 x0 t9_22) w fun t46_25 w =>
              run1 Tryd.prog Z (Instr.loadAt 139 t46_25) w fun t47_26 w =>
              run1 Tryd.prog Z (Builtin.len_ #[139] 3 #[t47_26]) w fun t48_27 w =>
              ∃ J_28 : Nat → Value → World → Prop, (∃ m, J_28 m (Value.int IntKind.i64 0) w) ∧
                ∀ m_28, ∀ t11_29 : Value, ∀ w : World, J_28 m_28 t11_29 w → Env →
                  run1 Tryd.prog Z (binOp BinOp.add 3 t48_27 x1) w fun t52_30 w =>
                  run1 Tryd.prog Z (binOp BinOp.lss 3 t11_29 t52_30) w fun t53_31 w =>
                  CondV t53_31 (
                    Drawn w fun w =>
                    Pure1 Tryd.prog (binOp BinOp.lss 3 t11_29 t48_27) fun t58_32 =>
                    guardV (t58_32) true (fun k => k (x0)) (fun t60_33 =>
                    guardV (t58_32) true (fun k => k (t9_22)) (fun t61_34 =>
                    guardV (t58_32) true (fun k => Pure1 Tryd.prog (Instr.indexAt 50 t60_33 t61_34) k) (fun t62_35 =>
                    guardV (t58_32) true (fun k => Read1 Tryd.prog (Instr.loadAt 139 t62_35) w k) (fun t63_36 =>
                    guardV (t58_32) true (fun k => k (t11_29)) (fun t64_37 =>
                    guardV (t58_32) true (fun k => Pure1 Tryd.prog (Instr.indexAt 139 t63_36 t64_37) k) (fun t65_38 =>
                    guardV (t58_32) true (fun k => Pure1 Tryd.prog (Instr.fieldAt 141 t65_38 0) k) (fun t66_39 =>
                    guardV (t58_32) true (fun k => Read1 Tryd.prog (Instr.loadAt 9 t66_39) w k) (fun t67_40 =>
                    guardV (t58_32) true (fun k => k (t9_22)) (fun t68_41 =>
                    guardV (t58_32) true (fun k => Pure1 Tryd.prog (binOp BinOp.sub 3 (Value.int IntKind.i64 (-1000000)) t68_41) k) (fun t69_42 =>
                    guardW (t58_32) true (fun k => CallV Tryd.prog Z 60 #[t69_42] w k) (fun t70_43 w =>
                      Still Tryd.prog (gSem (t58_32) true (nx (Instr.loadAt 9 t66_39))) t67_40 w <|
                      Still Tryd.prog (gSem (t58_32) true (nx (Instr.loadAt 139 t62_35))) t63_36 w <|
                      guardV (t58_32) true (fun k => Pure1 Tryd.prog (eqOp BinOp.eql 9 false false t67_40 t70_43) k) (fun t71_44 =>
                      guardV (t58_32) true (fun k => Pure1 Tryd.prog (Op.unary UnOp.not t71_44) k) (fun t72_45 =>
                      Pure1 Tryd.prog (pickV t58_32 t72_45 (Value.bool false)) fun t73_46 =>
                      guardV (t73_46) false (fun k => k (t11_29)) (fun t75_47 =>
                      guardV (t73_46) false (fun k => k (t48_27)) (fun t76_48 =>
                      guardV (t73_46) false (fun k => Pure1 Tryd.prog (binOp BinOp.lss 3 t75_47 t76_48) k) (fun t77_49 =>
                      guardV (t73_46) false (fun k => k (t77_49)) (fun t78_50 =>
                      guardV (t78_50) true (fun k => k (t5_2)) (fun t79_51 =>
                      guardV (t78_50) true (fun k => k (t9_22)) (fun t80_52 =>
                      guardV (t78_50) true (fun k => Pure1 Tryd.prog (Instr.indexAt 50 t79_51 t80_52) k) (fun t81_53 =>
                      guardV (t78_50) true (fun k => Read1 Tryd.prog (Instr.loadAt 139 t81_53) w k) (fun t82_54 =>
                      guardV (t78_50) true (fun k => k (t11_29)) (fun t83_55 =>
                      guardV (t78_50) true (fun k => Pure1 Tryd.prog (Instr.indexAt 139 t82_54 t83_55) k) (fun t84_56 =>
                      guardV (t78_50) true (fun k => Pure1 Tryd.prog (Instr.fieldAt 141 t84_56 0) k) (fun t85_57 =>
                      guardV (t78_50) true (fun k => Read1 Tryd.prog (Instr.loadAt 9 t85_57) w k) (fun t86_58 =>
                      guardV (t78_50) true (fun k => k (t9_22)) (fun t87_59 =>
                      guardV (t78_50) true (fun k => Pure1 Tryd.prog (binOp BinOp.sub 3 (Value.int IntKind.i64 (-1000000)) t87_59) k) (fun t88_60 =>
                      guardW (t78_50) true (fun k => CallV Tryd.prog Z 60 #[t88_60] w k) (fun t89_61 w =>
                        Still Tryd.prog (gSem (t78_50) true (nx (Instr.loadAt 9 t85_57))) t86_58 w <|
                        Still Tryd.prog (gSem (t78_50) true (nx (Instr.loadAt 139 t81_53))) t82_54 w <|
                        Still Tryd.prog (gSem (t58_32) true (nx (Instr.loadAt 9 t66_39))) t67_40 w <|
                        Still Tryd.prog (gSem (t58_32) true (nx (Instr.loadAt 139 t62_35))) t63_36 w <|
                        guardV (t78_50) true (fun k => Pure1 Tryd.prog (eqOp BinOp.eql 9 false false t86_58 t89_61) k) (fun t90_62 =>
                        guardV (t78_50) true (fun k => Pure1 Tryd.prog (Op.unary UnOp.not t90_62) k) (fun t91_63 =>
                        guardV (t73_46) false (fun k => Pure1 Tryd.prog (pickV t78_50 t91_63 (Value.bool false)) k) (fun t92_64 =>
                        Pure1 Tryd.prog (pickV t73_46 (Value.bool true) t92_64) fun t93_65 =>
                        guardV (t93_65) false (fun k => k (t11_29)) (fun t95_66 =>
                        guardV (t93_65) false (fun k => k (t48_27)) (fun t96_67 =>
                        guardV (t93_65) false (fun k => Pure1 Tryd.prog (binOp BinOp.geq 3 t95_66 t96_67) k) (fun t97_68 =>
                        guardV (t93_65) false (fun k => k (t97_68)) (fun t98_69 =>
                        guardV (t98_69) true (fun k => k (t5_2)) (fun t99_70 =>
                        guardV (t98_69) true (fun k => k (t9_22)) (fun t100_71 =>
                        guardV (t98_69) true (fun k => Pure1 Tryd.prog (Instr.indexAt 50 t99_70 t100_71) k) (fun t101_72 =>
                        guardV (t98_69) true (fun k => Read1 Tryd.prog (Instr.loadAt 139 t101_72) w k) (fun t102_73 =>
                        guardV (t98_69) true (fun k => k (t11_29)) (fun t103_74 =>
                        guardV (t98_69) true (fun k => Pure1 Tryd.prog (Instr.indexAt 139 t102_73 t103_74) k) (fun t104_75 =>
                        guardV (t98_69) true (fun k => Pure1 Tryd.prog (Instr.fieldAt 141 t104_75 0) k) (fun t105_76 =>
                        guardV (t98_69) true (fun k => Read1 Tryd.prog (Instr.loadAt 9 t105_76) w k) (fun t106_77 =>
                        guardV (t98_69) true (fun k => k (t9_22)) (fun t107_78 =>
                        guardV (t98_69) true (fun k => Pure1 Tryd.prog (binOp BinOp.sub 3 (Value.int IntKind.i64 (-2000000)) t107_78) k) (fun t108_79 =>
                        guardW (t98_69) true (fun k => CallV Tryd.prog Z 60 #[t108_79] w k) (fun t109_80 w =>
                          Still Tryd.prog (gSem (t98_69) true (nx (Instr.loadAt 9 t105_76))) t106_77 w <|
                          Still Tryd.prog (gSem (t98_69) true (nx (Instr.loadAt 139 t101_72))) t102_73 w <|
                          Still Tryd.prog (gSem (t78_50) true (nx (Instr.loadAt 9 t85_57))) t86_58 w <|
                          Still Tryd.prog (gSem (t78_50) true (nx (Instr.loadAt 139 t81_53))) t82_54 w <|
                          Still Tryd.prog (gSem (t58_32) true (nx (Instr.loadAt 9 t66_39))) t67_40 w <|
                          Still Tryd.prog (gSem (t58_32) true (nx (Instr.loadAt 139 t62_35))) t63_36 w <|
                          guardV (t98_69) true (fun k => Pure1 Tryd.prog (eqOp BinOp.eql 9 false false t106_77 t109_80) k) (fun t110_81 =>
                          guardV (t98_69) true (fun k => Pure1 Tryd.prog (Op.unary UnOp.not t110_81) k) (fun t111_82 =>
                          guardV (t93_65) false (fun k => Pure1 Tryd.prog (pickV t98_69 t111_82 (Value.bool false)) k) (fun t112_83 =>
                          Pure1 Tryd.prog (pickV t93_65 (Value.bool true) t112_83) fun t113_84 =>
                          CondV t113_84 (
                            Q (Value.bool false) w) (
                            run1 Tryd.prog Z (binOp BinOp.add 3 t11_29 (Value.int IntKind.i64 1)) w fun t55_85 w =>
                            ∃ n_28, n_28 < m_28 ∧ J_28 n_28 t55_85 w))))) w)))))))))))))))))) w))))))))))))))))) w))))))))))) (
                    run1 Tryd.prog Z (binOp BinOp.add 3 t9_22 (Value.int IntKind.i64 1)) w fun t43_86 w =>
                    ∃ n_21, n_21 < m_21 ∧ J_21 n_21 t43_86 w)) (
              Q (Value.bool true) w))
noncomputable def f68.code : Code := match Tryd.f68.body with | some c => c | none => .skip
def f68.an : An := (.sq .leaf (.sq .leaf (.sq (.sq .leaf (.bl (.lp [5, 6] [5, 6, 7, 8, 12, 13, 14, 15, 16, 17, 18, 19, 20, 21, 22, 23, 24, 25, 26, 27, 28, 29, 30, 31, 32, 33, 34, 35, 36, 37] (.sq (.sq .leaf (.cn .leaf .leaf)) (.sq (.bl (.sq .leaf (.sq (.sq .leaf (.bl (.lp [7, 8] [7, 8, 22, 23, 24, 25, 26, 27, 28, 29, 30, 31, 32, 33] (.sq (.sq .leaf (.cn .leaf .leaf)) (.sq (.bl .leaf) .leaf))))) .leaf))) .leaf))))) (.sq (.sq .leaf (.bl (.lp [9] [4, 9, 10, 11, 38, 39, 40, 41, 42, 43, 44, 45, 46, 47, 48, 49, 50, 51, 52, 53, 54, 55, 56, 57, 58, 59, 60, 61, 62, 63, 64, 65, 66, 67, 68, 69, 70, 71, 72, 73, 74, 75, 76, 77, 78, 79, 80, 81, 82, 83, 84, 85, 86, 87, 88, 89, 90, 91, 92, 93, 94, 95, 96, 97, 98, 99, 100, 101, 102, 103, 104, 105, 106, 107, 108, 109, 110, 111, 112, 113] (.sq (.sq .leaf (.cn .leaf .leaf)) (.sq (.bl (.sq .leaf (.sq .leaf (.bl (.lp [11] [4, 11, 49, 50, 51, 52, 53, 54, 55, 56, 57, 58, 59, 60, 61, 62, 63, 64, 65, 66, 67, 68, 69, 70, 71, 72, 73, 74, 75, 76, 77, 78, 79, 80, 81, 82, 83, 84, 85, 86, 87, 88, 89, 90, 91, 92, 93, 94, 95, 96, 97, 98, 99, 100, 101, 102, 103, 104, 105, 106, 107, 108, 109, 110, 111, 112, 113] (.sq (.sq .leaf (.cn .leaf .leaf)) (.sq (.bl (.sq (.dr (.take 0 false (.take 1 false (.take 2 false (.take 3 false (.take 4 false (.take 5 false (.take 6 false (.take 7 true (.take 8 false (.take 9 false (.take 10 false (.take 11 true (.take 12 false (.take 13 false (.one 14 (.take 15 false (.take 16 false (.take 17 false (.take 18 false (.take 19 false (.take 20 false (.take 21 false (.take 22 false (.take 23 false (.take 24 false (.take 25 false (.take 26 true (.take 27 false (.take 28 false (.take 29 false (.take 30 true (.take 31 false (.take 32 false (.one 33 (.take 34 false (.take 35 false (.take 36 false (.take 37 false (.take 38 false (.take 39 false (.take 40 false (.take 41 false (.take 42 false (.take 43 false (.take 44 false (.take 45 false (.take 46 true (.take 47 false (.take 48 false (.take 49 false (.take 50 true (.take 51 false (.take 52 false (.one 53 (.take 54 false (.take 55 false (.take 56 false (.take 57 false .fin))))))))))))))))))))))))))))))))))))))))))))))))))))))))))) (.cn (.sq .leaf .leaf) .leaf))) .leaf))))))) .leaf))))) (.sq .leaf .leaf)))))
theorem f68.body_eq : Tryd.f68.body = some f68.code := by kernel_rfl
theorem f68.shape (Z : List PanicEntry → World → Prop) (x0 x1 : Value) (w : World) (Q : Value → World → Prop) : vc drawD Tryd.prog 114 Z [60] f68.an f68.code (fnQ Tryd.prog 114 Tryd.f68.results Q) (argEnv [x0, x1]) w = f68.sh Z x0 x1 w Q := by kernel_rfl
theorem f68.enters : ∀ f, f ∈ ([60] : List Nat) → Enters Tryd.prog f := by
  intro f hf
  simp only [List.mem_cons, List.not_mem_nil, or_false] at hf
  rcases hf with rfl
  · exact en60
theorem f68.calls {Z : List PanicEntry → World → Prop} {x0 x1 : Value} {w : World} {Q : Value → World → Prop} (h : f68.sh Z x0 x1 w Q) : CallV Tryd.prog Z 68 #[x0, x1] w Q :=
  calls_of_vcn drawD_sound (Q := Q) (n := 114) (rs := Tryd.f68.results) (an := f68.an) (c := f68.code) (cal := [60]) (args := [x0, x1]) Tryd.func68 (by kernel_rfl) rfl f68.body_eq follows (Nat.le_of_ble_eq_true (by kernel_rfl)) (enters_of_all f68.enters) ((f68.shape Z x0 x1 w Q).mpr h)

/-! ### 69: lagoon/lagoonref00.grownSessions -/
def f69.sh (Z : List PanicEntry → World → Prop) (x0 x1 : Value) (w : World) (Q : Value → World → Prop) : Prop :=
  ∃ J_1 : Nat → Value → Value → World → Prop, (∃ m, J_1 m (Value.slice none 0 0) (Value.int IntKind.i64 0) w) ∧
    ∀ m_1, ∀ t5_2 : Value, ∀ t6_3 : Value, ∀ w : World, J_1 m_1 t5_2 t6_3 w → Env →
      run1 Tryd.prog Z (Builtin.len_ #[51] 3 #[x0]) w fun t14_4 w =>
      run1 Tryd.prog Z (binOp BinOp.lss 3 t6_3 t14_4) w fun t15_5 w =>
      CondV t15_5 (
        run1 Tryd.prog Z (Instr.indexAt 51 x0 t6_3) w fun t20_6 w =>
        run1 Tryd.prog Z (Instr.loadAt 143 t20_6) w fun t21_7 w =>
        ∃ J_8 : Nat → Value → Value → World → Prop, (∃ m, J_8 m t21_7 (Value.int IntKind.i64 0) w) ∧
          ∀ m_8, ∀ t7_9 : Value, ∀ t8_10 : Value, ∀ w : World, J_8 m_8 t7_9 t8_10 w → Env →
            run1 Tryd.prog Z (binOp BinOp.lss 3 t8_10 x1) w fun t24_11 w =>
            CondV t24_11 (
              run1 Tryd.prog Z (binOp BinOp.sub 3 (Value.int IntKind.i64 (-2000000)) t6_3) w fun t29_12 w =>
              run1 Tryd.prog Z (Instr.build 145 #[(0, t29_12)]) w fun t30_13 w =>
              run1 Tryd.prog Z (Instr.buildSlice 143 1 #[(0, t30_13)]) w fun t31_14 w =>
              run1 Tryd.prog Z (Builtin.append_ #[143, 143] 143 #[t7_9, t31_14]) w fun t32_15 w =>
              run1 Tryd.prog Z (binOp BinOp.add 3 t8_10 (Value.int IntKind.i64 1)) w fun t26_16 w =>
              ∃ n_8, n_8 < m_8 ∧ J_8 n_8 t32_15 t26_16 w) (
              run1 Tryd.prog Z (Instr.buildSlice 51 1 #[(0, t7_9)]) w fun t35_17 w =>
              run1 Tryd.prog Z (Builtin.append_ #[51, 51] 51 #[t5_2, t35_17]) w fun t36_18 w =>
              run1 Tryd.prog Z (binOp BinOp.add 3 t6_3 (Value.int IntKind.i64 1)) w fun t17_19 w =>
              ∃ n_1, n_1 < m_1 ∧ J_1 n_1 t36_18 t17_19 w)) (
        ∃ J_20 : Nat → Value → World → Prop, (∃ m, J_20 m (Value.int IntKind.i64 0) w) ∧
          ∀ m_20, ∀ t9_21 : Value, ∀ w : World, J_20 m_20 t9_21 w → Env →
            run1 Tryd.prog Z (Builtin.len_ #[51] 3 #[x0]) w fun t39_22 w =>
            run1 Tryd.prog Z (binOp BinOp.lss 3 t9_21 t39_22) w fun t40_23 w =>
            CondV t40_23 (
              run1 Tryd.prog Z (Instr.indexAt 51 x0 t9_21) w fun t45_24 w =>
              run1 Tryd.prog Z (Instr.loadAt 143 t45_24) w fun t46_25 w =>
              run1 Tryd.prog Z (Builtin.len_ #[143] 3 #[t46_25]) w fun t47_26 w =>
              ∃ J_27 : Nat → Value → World → Prop, (∃ m, J_27 m (Value.int IntKind.i64 0) w) ∧
                ∀ m_27, ∀ t11_28 : Value, ∀ w : World, J_27 m_27 t11_28 w → Env →
                  run1 Tryd.prog Z (binOp BinOp.add 3 t47_26 x1) w fun t51_29 w =>
                  run1 Tryd.prog Z (binOp BinOp.lss 3 t11_28 t51_29) w fun t52_30 w =>
                  CondV t52_30 (
                    run1 Tryd.prog Z (binOp BinOp.lss 3 t11_28 t47_26) w fun t57_31 w =>
                    guardW (t57_31) true (fun k => k (x0) w) (fun t59_32 w =>
                    guardW (t57_31) true (fun k => k (t9_21) w) (fun t60_33 w =>
                    guardW (t57_31) true (fun k => run1 Tryd.prog Z (Instr.indexAt 51 t59_32 t60_33) w k) (fun t61_34 w =>
                    guardW (t57_31) true (fun k => run1 Tryd.prog Z (Instr.loadAt 143 t61_34) w k) (fun t62_35 w =>
                    guardW (t57_31) true (fun k => k (t11_28) w) (fun t63_36 w =>
                    guardW (t57_31) true (fun k => run1 Tryd.prog Z (Instr.indexAt 143 t62_35 t63_36) w k) (fun t64_37 w =>
                    guardW (t57_31) true (fun k => run1 Tryd.prog Z (Instr.fieldAt 145 t64_37 0) w k) (fun t65_38 w =>
                    guardW (t57_31) true (fun k => run1 Tryd.prog Z (Instr.loadAt 2 t65_38) w k) (fun t66_39 w =>
                    guardW (t57_31) true (fun k => k (t9_21) w) (fun t67_40 w =>
                    guardW (t57_31) true (fun k => run1 Tryd.prog Z (binOp BinOp.sub 3 (Value.int IntKind.i64 (-1000000)) t67_40) w k) (fun t68_41 w =>
                    guardW (t57_31) true (fun k => run1 Tryd.prog Z (eqOp BinOp.eql 2 false false t66_39 t68_41) w k) (fun t69_42 w =>
                    guardW (t57_31) true (fun k => run1 Tryd.prog Z (Op.unary UnOp.not t69_42) w k) (fun t70_43 w =>
                    run1 Tryd.prog Z (pickV t57_31 t70_43 (Value.bool false)) w fun t71_44 w =>
                    guardW (t71_44) false (fun k => k (t11_28) w) (fun t73_45 w =>
                    guardW (t71_44) false (fun k => k (t47_26) w) (fun t74_46 w =>
                    guardW (t71_44) false (fun k => run1 Tryd.prog Z (binOp BinOp.lss 3 t73_45 t74_46) w k) (fun t75_47 w =>
                    guardW (t71_44) false (fun k => k (t75_47) w) (fun t76_48 w =>
                    guardW (t76_48) true (fun k => k (t5_2) w) (fun t77_49 w =>
                    guardW (t76_48) true (fun k => k (t9_21) w) (fun t78_50 w =>
                    guardW (t76_48) true (fun k => run1 Tryd.prog Z (Instr.indexAt 51 t77_49 t78_50) w k) (fun t79_51 w =>
                    guardW (t76_48) true (fun k => run1 Tryd.prog Z (Instr.loadAt 143 t79_51) w k) (fun t80_52 w =>
                    guardW (t76_48) true (fun k => k (t11_28) w) (fun t81_53 w =>
                    guardW (t76_48) true (fun k => run1 Tryd.prog Z (Instr.indexAt 143 t80_52 t81_53) w k) (fun t82_54 w =>
                    guardW (t76_48) true (fun k => run1 Tryd.prog Z (Instr.fieldAt 145 t82_54 0) w k) (fun t83_55 w =>
                    guardW (t76_48) true (fun k => run1 Tryd.prog Z (Instr.loadAt 2 t83_55) w k) (fun t84_56 w =>
                    guardW (t76_48) true (fun k => k (t9_21) w) (fun t85_57 w =>
                    guardW (t76_48) true (fun k => run1 Tryd.prog Z (binOp BinOp.sub 3 (Value.int IntKind.i64 (-1000000)) t85_57) w k) (fun t86_58 w =>
                    guardW (t76_48) true (fun k => run1 Tryd.prog Z (eqOp BinOp.eql 2 false false t84_56 t86_58) w k) (fun t87_59 w =>
                    guardW (t76_48) true (fun k => run1 Tryd.prog Z (Op.unary UnOp.not t87_59) w k) (fun t88_60 w =>
                    guardW (t71_44) false (fun k => run1 Tryd.prog Z (pickV t76_48 t88_60 (Value.bool false)) w k) (fun t89_61 w =>
                    run1 Tryd.prog Z (pickV t71_44 (Value.bool true) t89_61) w fun t90_62 w =>
                    guardW (t90_62) false (fun k => k (t11_28) w) (fun t92_63 w =>
                    guardW (t90_62) false (fun k => k (t47_26) w) (fun t93_64 w =>
                    guardW (t90_62) false (fun k => run1 Tryd.prog Z (binOp BinOp.geq 3 t92_63 t93_64) w k) (fun t94_65 w =>
                    guardW (t90_62) false (fun k => k (t94_65) w) (fun t95_66 w =>
                    guardW (t95_66) true (fun k => k (t5_2) w) (fun t96_67 w =>
                    guardW (t95_66) true (fun k => k (t9_21) w) (fun t97_68 w =>
                    guardW (t95_66) true (fun k => run1 Tryd.prog Z (Instr.indexAt 51 t96_67 t97_68) w k) (fun t98_69 w =>
                    guardW (t95_66) true (fun k => run1 Tryd.prog Z (Instr.loadAt 143 t98_69) w k) (fun t99_70 w =>
                    guardW (t95_66) true (fun k => k (t11_28) w) (fun t100_71 w =>
                    guardW (t95_66) true (fun k => run1 Tryd.prog Z (Instr.indexAt 143 t99_70 t100_71) w k) (fun t101_72 w =>
                    guardW (t95_66) true (fun k => run1 Tryd.prog Z (Instr.fieldAt 145 t101_72 0) w k) (fun t102_73 w =>
                    guardW (t95_66) true (fun k => run1 Tryd.prog Z (Instr.loadAt 2 t102_73) w k) (fun t103_74 w =>
                    guardW (t95_66) true (fun k => k (t9_21) w) (fun t104_75 w =>
                    guardW (t95_66) true (fun k => run1 Tryd.prog Z (binOp BinOp.sub 3 (Value.int IntKind.i64 (-2000000)) t104_75) w k) (fun t105_76 w =>
                    guardW (t95_66) true (fun k => run1 Tryd.prog Z (eqOp BinOp.eql 2 false false t103_74 t105_76) w k) (fun t106_77 w =>
                    guardW (t95_66) true (fun k => run1 Tryd.prog Z (Op.unary UnOp.not t106_77) w k) (fun t107_78 w =>
                    guardW (t90_62) false (fun k => run1 Tryd.prog Z (pickV t95_66 t107_78 (Value.bool false)) w k) (fun t108_79 w =>
                    run1 Tryd.prog Z (pickV t90_62 (Value.bool true) t108_79) w fun t109_80 w =>
                    CondV t109_80 (
                      Q (Value.bool false) w) (
                      run1 Tryd.prog Z (binOp BinOp.add 3 t11_28 (Value.int IntKind.i64 1)) w fun t54_81 w =>
                      ∃ n_27, n_27 < m_27 ∧ J_27 n_27 t54_81 w)) w) w) w) w) w) w) w) w) w) w) w) w) w) w) w) w) w) w) w) w) w) w) w) w) w) w) w) w) w) w) w) w) w) w) w) w) w) w) w) w) w) w) w) w) w) w) (
                    run1 Tryd.prog Z (binOp BinOp.add 3 t9_21 (Value.int IntKind.i64 1)) w fun t42_82 w =>
                    ∃ n_20, n_20 < m_20 ∧ J_20 n_20 t42_82 w)) (
              Q (Value.bool true) w))
noncomputable def f69.code : Code := match Tryd.f69.body with | some c => c | none => .skip
def f69.an : An := (.sq .leaf (.sq .leaf (.sq (.sq .leaf (.bl (.lp [5, 6] [5, 6, 7, 8, 12, 13, 14, 15, 16, 17, 18, 19, 20, 21, 22, 23, 24, 25, 26, 27, 28, 29, 30, 31, 32, 33, 34, 35, 36] (.sq (.sq .leaf (.cn .leaf .leaf)) (.sq (.bl (.sq .leaf (.sq (.sq .leaf (.bl (.lp [7, 8] [7, 8, 22, 23, 24, 25, 26, 27, 28, 29, 30, 31, 32] (.sq (.sq .leaf (.cn .leaf .leaf)) (.sq (.bl .leaf) .leaf))))) .leaf))) .leaf))))) (.sq (.sq .leaf (.bl (.lp [9] [4, 9, 10, 11, 37, 38, 39, 40, 41, 42, 43, 44, 45, 46, 47, 48, 49, 50, 51, 52, 53, 54, 55, 56, 57, 58, 59, 60, 61, 62, 63, 64, 65, 66, 67, 68, 69, 70, 71, 72, 73, 74, 75, 76, 77, 78, 79, 80, 81, 82, 83, 84, 85, 86, 87, 88, 89, 90, 91, 92, 93, 94, 95, 96, 97, 98, 99, 100, 101, 102, 103, 104, 105, 106, 107, 108, 109] (.sq (.sq .leaf (.cn .leaf .leaf)) (.sq (.bl (.sq .leaf (.sq .leaf (.bl (.lp [11] [4, 11, 48, 49, 50, 51, 52, 53, 54, 55, 56, 57, 58, 59, 60, 61, 62, 63, 64, 65, 66, 67, 68, 69, 70, 71, 72, 73, 74, 75, 76, 77, 78, 79, 80, 81, 82, 83, 84, 85, 86, 87, 88, 89, 90, 91, 92, 93, 94, 95, 96, 97, 98, 99, 100, 101, 102, 103, 104, 105, 106, 107, 108, 109] (.sq (.sq .leaf (.cn .leaf .leaf)) (.sq (.bl (.sq .leaf (.cn (.sq .leaf .leaf) .leaf))) .leaf))))))) .leaf))))) (.sq .leaf .leaf)))))
theorem f69.body_eq : Tryd.f69.body = some f69.code := by kernel_rfl
theorem f69.shape (Z : List PanicEntry → World → Prop) (x0 x1 : Value) (w : World) (Q : Value → World → Prop) : vc drawD Tryd.prog 110 Z [] f69.an f69.code (fnQ Tryd.prog 110 Tryd.f69.results Q) (argEnv [x0, x1]) w = f69.sh Z x0 x1 w Q := by kernel_rfl
theorem f69.enters : ∀ f, f ∈ ([] : List Nat) → Enters Tryd.prog f := by
  intro f hf
  cases hf
theorem f69.calls {Z : List PanicEntry → World → Prop} {x0 x1 : Value} {w : World} {Q : Value → World → Prop} (h : f69.sh Z x0 x1 w Q) : CallV Tryd.prog Z 69 #[x0, x1] w Q :=
  calls_of_vcn drawD_sound (Q := Q) (n := 110) (rs := Tryd.f69.results) (an := f69.an) (c := f69.code) (cal := []) (args := [x0, x1]) Tryd.func69 (by kernel_rfl) rfl f69.body_eq follows (Nat.le_of_ble_eq_true (by kernel_rfl)) (enters_of_all f69.enters) ((f69.shape Z x0 x1 w Q).mpr h)

/-! ### 70: lagoon/lagoonref00.grownChanges -/
def f70.sh (Z : List PanicEntry → World → Prop) (x0 x1 : Value) (w : World) (Q : Value → World → Prop) : Prop :=
  ∃ J_1 : Nat → Value → Value → World → Prop, (∃ m, J_1 m (Value.slice none 0 0) (Value.int IntKind.i64 0) w) ∧
    ∀ m_1, ∀ t5_2 : Value, ∀ t6_3 : Value, ∀ w : World, J_1 m_1 t5_2 t6_3 w → Env →
      run1 Tryd.prog Z (Builtin.len_ #[52] 3 #[x0]) w fun t14_4 w =>
      run1 Tryd.prog Z (binOp BinOp.lss 3 t6_3 t14_4) w fun t15_5 w =>
      CondV t15_5 (
        run1 Tryd.prog Z (Instr.indexAt 52 x0 t6_3) w fun t20_6 w =>
        run1 Tryd.prog Z (Instr.loadAt 147 t20_6) w fun t21_7 w =>
        ∃ J_8 : Nat → Value → Value → World → Prop, (∃ m, J_8 m t21_7 (Value.int IntKind.i64 0) w) ∧
          ∀ m_8, ∀ t7_9 : Value, ∀ t8_10 : Value, ∀ w : World, J_8 m_8 t7_9 t8_10 w → Env →
            run1 Tryd.prog Z (binOp BinOp.lss 3 t8_10 x1) w fun t24_11 w =>
            CondV t24_11 (
              run1 Tryd.prog Z (binOp BinOp.sub 3 (Value.int IntKind.i64 (-2000000)) t6_3) w fun t29_12 w =>
              CallV Tryd.prog Z 60 #[t29_12] w fun t30_13 w =>
              run1 Tryd.prog Z (Instr.build 149 #[(1, t30_13)]) w fun t31_14 w =>
              run1 Tryd.prog Z (Instr.buildSlice 147 1 #[(0, t31_14)]) w fun t32_15 w =>
              run1 Tryd.prog Z (Builtin.append_ #[147, 147] 147 #[t7_9, t32_15]) w fun t33_16 w =>
              run1 Tryd.prog Z (binOp BinOp.add 3 t8_10 (Value.int IntKind.i64 1)) w fun t26_17 w =>
              ∃ n_8, n_8 < m_8 ∧ J_8 n_8 t33_16 t26_17 w) (
              run1 Tryd.prog Z (Instr.buildSlice 52 1 #[(0, t7_9)]) w fun t36_18 w =>
              run1 Tryd.prog Z (Builtin.append_ #[52, 52] 52 #[t5_2, t36_18]) w fun t37_19 w =>
              run1 Tryd.prog Z (binOp BinOp.add 3 t6_3 (Value.int IntKind.i64 1)) w fun t17_20 w =>
              ∃ n_1, n_1 < m_1 ∧ J_1 n_1 t37_19 t17_20 w)) (
        ∃ J_21 : Nat → Value → World → Prop, (∃ m, J_21 m (Value.int IntKind.i64 0) w) ∧
          ∀ m_21, ∀ t9_22 : Value, ∀ w : World, J_21 m_21 t9_22 w → Env →
            run1 Tryd.prog Z (Builtin.len_ #[52] 3 #[x0]) w fun t40_23 w =>
            run1 Tryd.prog Z (binOp BinOp.lss 3 t9_22 t40_23) w fun t41_24 w =>
            CondV t41_24 (
              run1 Tryd.prog Z (Instr.indexAt 52 x0 t9_22) w fun t46_25 w =>
              run1 Tryd.prog Z (Instr.loadAt 147 t46_25) w fun t47_26 w =>
              run1 Tryd.prog Z (Builtin.len_ #[147] 3 #[t47_26]) w fun t48_27 w =>
              ∃ J_28 : Nat → Value → World → Prop, (∃ m, J_28 m (Value.int IntKind.i64 0) w) ∧
                ∀ m_28, ∀ t11_29 : Value, ∀ w : World, J_28 m_28 t11_29 w → Env →
                  run1 Tryd.prog Z (binOp BinOp.add 3 t48_27 x1) w fun t52_30 w =>
                  run1 Tryd.prog Z (binOp BinOp.lss 3 t11_29 t52_30) w fun t53_31 w =>
                  CondV t53_31 (
                    Drawn w fun w =>
                    Pure1 Tryd.prog (binOp BinOp.lss 3 t11_29 t48_27) fun t58_32 =>
                    guardV (t58_32) true (fun k => k (x0)) (fun t60_33 =>
                    guardV (t58_32) true (fun k => k (t9_22)) (fun t61_34 =>
                    guardV (t58_32) true (fun k => Pure1 Tryd.prog (Instr.indexAt 52 t60_33 t61_34) k) (fun t62_35 =>
                    guardV (t58_32) true (fun k => Read1 Tryd.prog (Instr.loadAt 147 t62_35) w k) (fun t63_36 =>
                    guardV (t58_32) true (fun k => k (t11_29)) (fun t64_37 =>
                    guardV (t58_32) true (fun k => Pure1 Tryd.prog (Instr.indexAt 147 t63_36 t64_37) k) (fun t65_38 =>
                    guardV (t58_32) true (fun k => Pure1 Tryd.prog (Instr.fieldAt 149 t65_38 1) k) (fun t66_39 =>
                    guardV (t58_32) true (fun k => Read1 Tryd.prog (Instr.loadAt 9 t66_39) w k) (fun t67_40 =>
                    guardV (t58_32) true (fun k => k (t9_22)) (fun t68_41 =>
                    guardV (t58_32) true (fun k => Pure1 Tryd.prog (binOp BinOp.sub 3 (Value.int IntKind.i64 (-1000000)) t68_41) k) (fun t69_42 =>
                    guardW (t58_32) true (fun k => CallV Tryd.prog Z 60 #[t69_42] w k) (fun t70_43 w =>
                      Still Tryd.prog (gSem (t58_32) true (nx (Instr.loadAt 9 t66_39))) t67_40 w <|
                      Still Tryd.prog (gSem (t58_32) true (nx (Instr.loadAt 147 t62_35))) t63_36 w <|
                      guardV (t58_32) true (fun k => Pure1 Tryd.prog (eqOp BinOp.eql 9 false false t67_40 t70_43) k) (fun t71_44 =>
                      guardV (t58_32) true (fun k => Pure1 Tryd.prog (Op.unary UnOp.not t71_44) k) (fun t72_45 =>
                      Pure1 Tryd.prog (pickV t58_32 t72_45 (Value.bool false)) fun t73_46 =>
                      guardV (t73_46) false (fun k => k (t11_29)) (fun t75_47 =>
                      guardV (t73_46) false (fun k => k (t48_27)) (fun t76_48 =>
                      guardV (t73_46) false (fun k => Pure1 Tryd.prog (binOp BinOp.lss 3 t75_47 t76_48) k) (fun t77_49 =>
                      guardV (t73_46) false (fun k => k (t77_49)) (fun t78_50 =>
                      guardV (t78_50) true (fun k => k (t5_2)) (fun t79_51 =>
                      guardV (t78_50) true (fun k => k (t9_22)) (fun t80_52 =>
                      guardV (t78_50) true (fun k => Pure1 Tryd.prog (Instr.indexAt 52 t79_51 t80_52) k) (fun t81_53 =>
                      guardV (t78_50) true (fun k => Read1 Tryd.prog (Instr.loadAt 147 t81_53) w k) (fun t82_54 =>
                      guardV (t78_50) true (fun k => k (t11_29)) (fun t83_55 =>
                      guardV (t78_50) true (fun k => Pure1 Tryd.prog (Instr.indexAt 147 t82_54 t83_55) k) (fun t84_56 =>
                      guardV (t78_50) true (fun k => Pure1 Tryd.prog (Instr.fieldAt 149 t84_56 1) k) (fun t85_57 =>
                      guardV (t78_50) true (fun k => Read1 Tryd.prog (Instr.loadAt 9 t85_57) w k) (fun t86_58 =>
                      guardV (t78_50) true (fun k => k (t9_22)) (fun t87_59 =>
                      guardV (t78_50) true (fun k => Pure1 Tryd.prog (binOp BinOp.sub 3 (Value.int IntKind.i64 (-1000000)) t87_59) k) (fun t88_60 =>
                      guardW (t78_50) true (fun k => CallV Tryd.prog Z 60 #[t88_60] w k) (fun t89_61 w =>
                        Still Tryd.prog (gSem (t78_50) true (nx (Instr.loadAt 9 t85_57))) t86_58 w <|
                        Still Tryd.prog (gSem (t78_50) true (nx (Instr.loadAt 147 t81_53))) t82_54 w <|
                        Still Tryd.prog (gSem (t58_32) true (nx (Instr.loadAt 9 t66_39))) t67_40 w <|
                        Still Tryd.prog (gSem (t58_32) true (nx (Instr.loadAt 147 t62_35))) t63_36 w <|
                        guardV (t78_50) true (fun k => Pure1 Tryd.prog (eqOp BinOp.eql 9 false false t86_58 t89_61) k) (fun t90_62 =>
                        guardV (t78_50) true (fun k => Pure1 Tryd.prog (Op.unary UnOp.not t90_62) k) (fun t91_63 =>
                        guardV (t73_46) false (fun k => Pure1 Tryd.prog (pickV t78_50 t91_63 (Value.bool false)) k) (fun t92_64 =>
                        Pure1 Tryd.prog (pickV t73_46 (Value.bool true) t92_64) fun t93_65 =>
                        guardV (t93_65) false (fun k => k (t11_29)) (fun t95_66 =>
                        guardV (t93_65) false (fun k => k (t48_27)) (fun t96_67 =>
                        guardV (t93_65) false (fun k => Pure1 Tryd.prog (binOp BinOp.geq 3 t95_66 t96_67) k) (fun t97_68 =>
                        guardV (t93_65) false (fun k => k (t97_68)) (fun t98_69 =>
                        guardV (t98_69) true (fun k => k (t5_2)) (fun t99_70 =>
                        guardV (t98_69) true (fun k => k (t9_22)) (fun t100_71 =>
                        guardV (t98_69) true (fun k => Pure1 Tryd.prog (Instr.indexAt 52 t99_70 t100_71) k) (fun t101_72 =>
                        guardV (t98_69) true (fun k => Read1 Tryd.prog (Instr.loadAt 147 t101_72) w k) (fun t102_73 =>
                        guardV (t98_69) true (fun k => k (t11_29)) (fun t103_74 =>
                        guardV (t98_69) true (fun k => Pure1 Tryd.prog (Instr.indexAt 147 t102_73 t103_74) k) (fun t104_75 =>
                        guardV (t98_69) true (fun k => Pure1 Tryd.prog (Instr.fieldAt 149 t104_75 1) k) (fun t105_76 =>
                        guardV (t98_69) true (fun k => Read1 Tryd.prog (Instr.loadAt 9 t105_76) w k) (fun t106_77 =>
                        guardV (t98_69) true (fun k => k (t9_22)) (fun t107_78 =>
                        guardV (t98_69) true (fun k => Pure1 Tryd.prog (binOp BinOp.sub 3 (Value.int IntKind.i64 (-2000000)) t107_78) k) (fun t108_79 =>
                        guardW (t98_69) true (fun k => CallV Tryd.prog Z 60 #[t108_79] w k) (fun t109_80 w =>
                          Still Tryd.prog (gSem (t98_69) true (nx (Instr.loadAt 9 t105_76))) t106_77 w <|
                          Still Tryd.prog (gSem (t98_69) true (nx (Instr.loadAt 147 t101_72))) t102_73 w <|
                          Still Tryd.prog (gSem (t78_50) true (nx (Instr.loadAt 9 t85_57))) t86_58 w <|
                          Still Tryd.prog (gSem (t78_50) true (nx (Instr.loadAt 147 t81_53))) t82_54 w <|
                          Still Tryd.prog (gSem (t58_32) true (nx (Instr.loadAt 9 t66_39))) t67_40 w <|
                          Still Tryd.prog (gSem (t58_32) true (nx (Instr.loadAt 147 t62_35))) t63_36 w <|
                          guardV (t98_69) true (fun k => Pure1 Tryd.prog (eqOp BinOp.eql 9 false false t106_77 t109_80) k) (fun t110_81 =>
                          guardV (t98_69) true (fun k => Pure1 Tryd.prog (Op.unary UnOp.not t110_81) k) (fun t111_82 =>
                          guardV (t93_65) false (fun k => Pure1 Tryd.prog (pickV t98_69 t111_82 (Value.bool false)) k) (fun t112_83 =>
                          Pure1 Tryd.prog (pickV t93_65 (Value.bool true) t112_83) fun t113_84 =>
                          CondV t113_84 (
                            Q (Value.bool false) w) (
                            run1 Tryd.prog Z (binOp BinOp.add 3 t11_29 (Value.int IntKind.i64 1)) w fun t55_85 w =>
                            ∃ n_28, n_28 < m_28 ∧ J_28 n_28 t55_85 w))))) w)))))))))))))))))) w))))))))))))))))) w))))))))))) (
                    run1 Tryd.prog Z (binOp BinOp.add 3 t9_22 (Value.int IntKind.i64 1)) w fun t43_86 w =>
                    ∃ n_21, n_21 < m_21 ∧ J_21 n_21 t43_86 w)) (
              Q (Value.bool true) w))
noncomputable def f70.code : Code := match Tryd.f70.body with | some c => c | none => .skip
def f70.an : An := (.sq .leaf (.sq .leaf (.sq (.sq .leaf (.bl (.lp [5, 6] [5, 6, 7, 8, 12, 13, 14, 15, 16, 17, 18, 19, 20, 21, 22, 23, 24, 25, 26, 27, 28, 29, 30, 31, 32, 33, 34, 35, 36, 37] (.sq (.sq .leaf (.cn .leaf .leaf)) (.sq (.bl (.sq .leaf (.sq (.sq .leaf (.bl (.lp [7, 8] [7, 8, 22, 23, 24, 25, 26, 27, 28, 29, 30, 31, 32, 33] (.sq (.sq .leaf (.cn .leaf .leaf)) (.sq (.bl .leaf) .leaf))))) .leaf))) .leaf))))) (.sq (.sq .leaf (.bl (.lp [9] [4, 9, 10, 11, 38, 39, 40, 41, 42, 43, 44, 45, 46, 47, 48, 49, 50, 51, 52, 53, 54, 55, 56, 57, 58, 59, 60, 61, 62, 63, 64, 65, 66, 67, 68, 69, 70, 71, 72, 73, 74, 75, 76, 77, 78, 79, 80, 81, 82, 83, 84, 85, 86, 87, 88, 89, 90, 91, 92, 93, 94, 95, 96, 97, 98, 99, 100, 101, 102, 103, 104, 105, 106, 107, 108, 109, 110, 111, 112, 113] (.sq (.sq .leaf (.cn .leaf .leaf)) (.sq (.bl (.sq .leaf (.sq .leaf (.bl (.lp [11] [4, 11, 49, 50, 51, 52, 53, 54, 55, 56, 57, 58, 59, 60, 61, 62, 63, 64, 65, 66, 67, 68, 69, 70, 71, 72, 73, 74, 75, 76, 77, 78, 79, 80, 81, 82, 83, 84, 85, 86, 87, 88, 89, 90, 91, 92, 93, 94, 95, 96, 97, 98, 99, 100, 101, 102, 103, 104, 105, 106, 107, 108, 109, 110, 111, 112, 113] (.sq (.sq .leaf (.cn .leaf .leaf)) (.sq (.bl (.sq (.dr (.take 0 false (.take 1 false (.take 2 false (.take 3 false (.take 4 false (.take 5 false (.take 6 false (.take 7 true (.take 8 false (.take 9 false (.take 10 false (.take 11 true (.take 12 false (.take 13 false (.one 14 (.take 15 false (.take 16 false (.take 17 false (.take 18 false (.take 19 false (.take 20 false (.take 21 false (.take 22 false (.take 23 false (.take 24 false (.take 25 false (.take 26 true (.take 27 false (.take 28 false (.take 29 false (.take 30 true (.take 31 false (.take 32 false (.one 33 (.take 34 false (.take 35 false (.take 36 false (.take 37 false (.take 38 false (.take 39 false (.take 40 false (.take 41 false (.take 42 false (.take 43 false (.take 44 false (.take 45 false (.take 46 true (.take 47 false (.take 48 false (.take 49 false (.take 50 true (.take 51 false (.take 52 false (.one 53 (.take 54 false (.take 55 false (.take 56 false (.take 57 false .fin))))))))))))))))))))))))))))))))))))))))))))))))))))))))))) (.cn (.sq .leaf .leaf) .leaf))) .leaf))))))) .leaf))))) (.sq .leaf .leaf)))))
theorem f70.body_eq : Tryd.f70.body = some f70.code := by kernel_rfl
theorem f70.shape (Z : List PanicEntry → World → Prop) (x0 x1 : Value) (w : World) (Q : Value → World → Prop) : vc drawD Tryd.prog 114 Z [60] f70.an f70.code (fnQ Tryd.prog 114 Tryd.f70.results Q) (argEnv [x0, x1]) w = f70.sh Z x0 x1 w Q := by kernel_rfl
theorem f70.enters : ∀ f, f ∈ ([60] : List Nat) → Enters Tryd.prog f := by
  intro f hf
  simp only [List.mem_cons, List.not_mem_nil, or_false] at hf
  rcases hf with rfl
  · exact en60
theorem f70.calls {Z : List PanicEntry → World → Prop} {x0 x1 : Value} {w : World} {Q : Value → World → Prop} (h : f70.sh Z x0 x1 w Q) : CallV Tryd.prog Z 70 #[x0, x1] w Q :=
  calls_of_vcn drawD_sound (Q := Q) (n := 114) (rs := Tryd.f70.results) (an := f70.an) (c := f70.code) (cal := [60]) (args := [x0, x1]) Tryd.func70 (by kernel_rfl) rfl f70.body_eq follows (Nat.le_of_ble_eq_true (by kernel_rfl)) (enters_of_all f70.enters) ((f70.shape Z x0 x1 w Q).mpr h)

/-! ### 71: lagoon/lagoonref00.grownFiles -/
def f71.sh (Z : List PanicEntry → World → Prop) (x0 x1 : Value) (w : World) (Q : Value → World → Prop) : Prop :=
  ∃ J_1 : Nat → Value → Value → World → Prop, (∃ m, J_1 m (Value.slice none 0 0) (Value.int IntKind.i64 0) w) ∧
    ∀ m_1, ∀ t5_2 : Value, ∀ t6_3 : Value, ∀ w : World, J_1 m_1 t5_2 t6_3 w → Env →
      run1 Tryd.prog Z (Builtin.len_ #[53] 3 #[x0]) w fun t14_4 w =>
      run1 Tryd.prog Z (binOp BinOp.lss 3 t6_3 t14_4) w fun t15_5 w =>
      CondV t15_5 (
        run1 Tryd.prog Z (Instr.indexAt 53 x0 t6_3) w fun t20_6 w =>
        run1 Tryd.prog Z (Instr.loadAt 151 t20_6) w fun t21_7 w =>
        ∃ J_8 : Nat → Value → Value → World → Prop, (∃ m, J_8 m t21_7 (Value.int IntKind.i64 0) w) ∧
          ∀ m_8, ∀ t7_9 : Value, ∀ t8_10 : Value, ∀ w : World, J_8 m_8 t7_9 t8_10 w → Env →
            run1 Tryd.prog Z (binOp BinOp.lss 3 t8_10 x1) w fun t24_11 w =>
            CondV t24_11 (
              run1 Tryd.prog Z (binOp BinOp.sub 3 (Value.int IntKind.i64 (-2000000)) t6_3) w fun t29_12 w =>
              CallV Tryd.prog Z 60 #[t29_12] w fun t30_13 w =>
              run1 Tryd.prog Z (Instr.build 153 #[(0, t30_13)]) w fun t31_14 w =>
              run1 Tryd.prog Z (Instr.buildSlice 151 1 #[(0, t31_14)]) w fun t32_15 w =>
              run1 Tryd.prog Z (Builtin.append_ #[151, 151] 151 #[t7_9, t32_15]) w fun t33_16 w =>
              run1 Tryd.prog Z (binOp BinOp.add 3 t8_10 (Value.int IntKind.i64 1)) w fun t26_17 w =>
              ∃ n_8, n_8 < m_8 ∧ J_8 n_8 t33_16 t26_17 w) (
              run1 Tryd.prog Z (Instr.buildSlice 53 1 #[(0, t7_9)]) w fun t36_18 w =>
              run1 Tryd.prog Z (Builtin.append_ #[53, 53] 53 #[t5_2, t36_18]) w fun t37_19 w =>
              run1 Tryd.prog Z (binOp BinOp.add 3 t6_3 (Value.int IntKind.i64 1)) w fun t17_20 w =>
              ∃ n_1, n_1 < m_1 ∧ J_1 n_1 t37_19 t17_20 w)) (
        ∃ J_21 : Nat → Value → World → Prop, (∃ m, J_21 m (Value.int IntKind.i64 0) w) ∧
          ∀ m_21, ∀ t9_22 : Value, ∀ w : World, J_21 m_21 t9_22 w → Env →
            run1 Tryd.prog Z (Builtin.len_ #[53] 3 #[x0]) w fun t40_23 w =>
            run1 Tryd.prog Z (binOp BinOp.lss 3 t9_22 t40_23) w fun t41_24 w =>
            CondV t41_24 (
              run1 Tryd.prog Z (Instr.indexAt 53 x0 t9_22) w fun t46_25 w =>
              run1 Tryd.prog Z (Instr.loadAt 151 t46_25) w fun t47_26 w =>
              run1 Tryd.prog Z (Builtin.len_ #[151] 3 #[t47_26]) w fun t48_27 w =>
              ∃ J_28 : Nat → Value → World → Prop, (∃ m, J_28 m (Value.int IntKind.i64 0) w) ∧
                ∀ m_28, ∀ t11_29 : Value, ∀ w : World, J_28 m_28 t11_29 w → Env →
                  run1 Tryd.prog Z (binOp BinOp.add 3 t48_27 x1) w fun t52_30 w =>
                  run1 Tryd.prog Z (binOp BinOp.lss 3 t11_29 t52_30) w fun t53_31 w =>
                  CondV t53_31 (
                    Drawn w fun w =>
                    Pure1 Tryd.prog (binOp BinOp.lss 3 t11_29 t48_27) fun t58_32 =>
                    guardV (t58_32) true (fun k => k (x0)) (fun t60_33 =>
                    guardV (t58_32) true (fun k => k (t9_22)) (fun t61_34 =>
                    guardV (t58_32) true (fun k => Pure1 Tryd.prog (Instr.indexAt 53 t60_33 t61_34) k) (fun t62_35 =>
                    guardV (t58_32) true (fun k => Read1 Tryd.prog (Instr.loadAt 151 t62_35) w k) (fun t63_36 =>
                    guardV (t58_32) true (fun k => k (t11_29)) (fun t64_37 =>
                    guardV (t58_32) true (fun k => Pure1 Tryd.prog (Instr.indexAt 151 t63_36 t64_37) k) (fun t65_38 =>
                    guardV (t58_32) true (fun k => Pure1 Tryd.prog (Instr.fieldAt 153 t65_38 0) k) (fun t66_39 =>
                    guardV (t58_32) true (fun k => Read1 Tryd.prog (Instr.loadAt 9 t66_39) w k) (fun t67_40 =>
                    guardV (t58_32) true (fun k => k (t9_22)) (fun t68_41 =>
                    guardV (t58_32) true (fun k => Pure1 Tryd.prog (binOp BinOp.sub 3 (Value.int IntKind.i64 (-1000000)) t68_41) k) (fun t69_42 =>
                    guardW (t58_32) true (fun k => CallV Tryd.prog Z 60 #[t69_42] w k) (fun t70_43 w =>
                      Still Tryd.prog (gSem (t58_32) true (nx (Instr.loadAt 9 t66_39))) t67_40 w <|
                      Still Tryd.prog (gSem (t58_32) true (nx (Instr.loadAt 151 t62_35))) t63_36 w <|
                      guardV (t58_32) true (fun k => Pure1 Tryd.prog (eqOp BinOp.eql 9 false false t67_40 t70_43) k) (fun t71_44 =>
                      guardV (t58_32) true (fun k => Pure1 Tryd.prog (Op.unary UnOp.not t71_44) k) (fun t72_45 =>
                      Pure1 Tryd.prog (pickV t58_32 t72_45 (Value.bool false)) fun t73_46 =>
                      guardV (t73_46) false (fun k => k (t11_29)) (fun t75_47 =>
                      guardV (t73_46) false (fun k => k (t48_27)) (fun t76_48 =>
                      guardV (t73_46) false (fun k => Pure1 Tryd.prog (binOp BinOp.lss 3 t75_47 t76_48) k) (fun t77_49 =>
                      guardV (t73_46) false (fun k => k (t77_49)) (fun t78_50 =>
                      guardV (t78_50) true (fun k => k (t5_2)) (fun t79_51 =>
                      guardV (t78_50) true (fun k => k (t9_22)) (fun t80_52 =>
                      guardV (t78_50) true (fun k => Pure1 Tryd.prog (Instr.indexAt 53 t79_51 t80_52) k) (fun t81_53 =>
                      guardV (t78_50) true (fun k => Read1 Tryd.prog (Instr.loadAt 151 t81_53) w k) (fun t82_54 =>
                      guardV (t78_50) true (fun k => k (t11_29)) (fun t83_55 =>
                      guardV (t78_50) true (fun k => Pure1 Tryd.prog (Instr.indexAt 151 t82_54 t83_55) k) (fun t84_56 =>
                      guardV (t78_50) true (fun k => Pure1 Tryd.prog (Instr.fieldAt 153 t84_56 0) k) (fun t85_57 =>
                      guardV (t78_50) true (fun k => Read1 Tryd.prog (Instr.loadAt 9 t85_57) w k) (fun t86_58 =>
                      guardV (t78_50) true (fun k => k (t9_22)) (fun t87_59 =>
                      guardV (t78_50) true (fun k => Pure1 Tryd.prog (binOp BinOp.sub 3 (Value.int IntKind.i64 (-1000000)) t87_59) k) (fun t88_60 =>
                      guardW (t78_50) true (fun k => CallV Tryd.prog Z 60 #[t88_60] w k) (fun t89_61 w =>
                        Still Tryd.prog (gSem (t78_50) true (nx (Instr.loadAt 9 t85_57))) t86_58 w <|
                        Still Tryd.prog (gSem (t78_50) true (nx (Instr.loadAt 151 t81_53))) t82_54 w <|
                        Still Tryd.prog (gSem (t58_32) true (nx (Instr.loadAt 9 t66_39))) t67_40 w <|
                        Still Tryd.prog (gSem (t58_32) true (nx (Instr.loadAt 151 t62_35))) t63_36 w <|
                        guardV (t78_50) true (fun k => Pure1 Tryd.prog (eqOp BinOp.eql 9 false false t86_58 t89_61) k) (fun t90_62 =>
                        guardV (t78_50) true (fun k => Pure1 Tryd.prog (Op.unary UnOp.not t90_62) k) (fun t91_63 =>
                        guardV (t73_46) false (fun k => Pure1 Tryd.prog (pickV t78_50 t91_63 (Value.bool false)) k) (fun t92_64 =>
                        Pure1 Tryd.prog (pickV t73_46 (Value.bool true) t92_64) fun t93_65 =>
                        guardV (t93_65) false (fun k => k (t11_29)) (fun t95_66 =>
                        guardV (t93_65) false (fun k => k (t48_27)) (fun t96_67 =>
                        guardV (t93_65) false (fun k => Pure1 Tryd.prog (binOp BinOp.geq 3 t95_66 t96_67) k) (fun t97_68 =>
                        guardV (t93_65) false (fun k => k (t97_68)) (fun t98_69 =>
                        guardV (t98_69) true (fun k => k (t5_2)) (fun t99_70 =>
                        guardV (t98_69) true (fun k => k (t9_22)) (fun t100_71 =>
                        guardV (t98_69) true (fun k => Pure1 Tryd.prog (Instr.indexAt 53 t99_70 t100_71) k) (fun t101_72 =>
                        guardV (t98_69) true (fun k => Read1 Tryd.prog (Instr.loadAt 151 t101_72) w k) (fun t102_73 =>
                        guardV (t98_69) true (fun k => k (t11_29)) (fun t103_74 =>
                        guardV (t98_69) true (fun k => Pure1 Tryd.prog (Instr.indexAt 151 t102_73 t103_74) k) (fun t104_75 =>
                        guardV (t98_69) true (fun k => Pure1 Tryd.prog (Instr.fieldAt 153 t104_75 0) k) (fun t105_76 =>
                        guardV (t98_69) true (fun k => Read1 Tryd.prog (Instr.loadAt 9 t105_76) w k) (fun t106_77 =>
                        guardV (t98_69) true (fun k => k (t9_22)) (fun t107_78 =>
                        guardV (t98_69) true (fun k => Pure1 Tryd.prog (binOp BinOp.sub 3 (Value.int IntKind.i64 (-2000000)) t107_78) k) (fun t108_79 =>
                        guardW (t98_69) true (fun k => CallV Tryd.prog Z 60 #[t108_79] w k) (fun t109_80 w =>
                          Still Tryd.prog (gSem (t98_69) true (nx (Instr.loadAt 9 t105_76))) t106_77 w <|
                          Still Tryd.prog (gSem (t98_69) true (nx (Instr.loadAt 151 t101_72))) t102_73 w <|
                          Still Tryd.prog (gSem (t78_50) true (nx (Instr.loadAt 9 t85_57))) t86_58 w <|
                          Still Tryd.prog (gSem (t78_50) true (nx (Instr.loadAt 151 t81_53))) t82_54 w <|
                          Still Tryd.prog (gSem (t58_32) true (nx (Instr.loadAt 9 t66_39))) t67_40 w <|
                          Still Tryd.prog (gSem (t58_32) true (nx (Instr.loadAt 151 t62_35))) t63_36 w <|
                          guardV (t98_69) true (fun k => Pure1 Tryd.prog (eqOp BinOp.eql 9 false false t106_77 t109_80) k) (fun t110_81 =>
                          guardV (t98_69) true (fun k => Pure1 Tryd.prog (Op.unary UnOp.not t110_81) k) (fun t111_82 =>
                          guardV (t93_65) false (fun k => Pure1 Tryd.prog (pickV t98_69 t111_82 (Value.bool false)) k) (fun t112_83 =>
                          Pure1 Tryd.prog (pickV t93_65 (Value.bool true) t112_83) fun t113_84 =>
                          CondV t113_84 (
                            Q (Value.bool false) w) (
                            run1 Tryd.prog Z (binOp BinOp.add 3 t11_29 (Value.int IntKind.i64 1)) w fun t55_85 w =>
                            ∃ n_28, n_28 < m_28 ∧ J_28 n_28 t55_85 w))))) w)))))))))))))))))) w))))))))))))))))) w))))))))))) (
                    run1 Tryd.prog Z (binOp BinOp.add 3 t9_22 (Value.int IntKind.i64 1)) w fun t43_86 w =>
                    ∃ n_21, n_21 < m_21 ∧ J_21 n_21 t43_86 w)) (
              Q (Value.bool true) w))
noncomputable def f71.code : Code := match Tryd.f71.body with | some c => c | none => .skip
def f71.an : An := (.sq .leaf (.sq .leaf (.sq (.sq .leaf (.bl (.lp [5, 6] [5, 6, 7, 8, 12, 13, 14, 15, 16, 17, 18, 19, 20, 21, 22, 23, 24, 25, 26, 27, 28, 29, 30, 31, 32, 33, 34, 35, 36, 37] (.sq (.sq .leaf (.cn .leaf .leaf)) (.sq (.bl (.sq .leaf (.sq (.sq .leaf (.bl (.lp [7, 8] [7, 8, 22, 23, 24, 25, 26, 27, 28, 29, 30, 31, 32, 33] (.sq (.sq .leaf (.cn .leaf .leaf)) (.sq (.bl .leaf) .leaf))))) .leaf))) .leaf))))) (.sq (.sq .leaf (.bl (.lp [9] [4, 9, 10, 11, 38, 39, 40, 41, 42, 43, 44, 45, 46, 47, 48, 49, 50, 51, 52, 53, 54, 55, 56, 57, 58, 59, 60, 61, 62, 63, 64, 65, 66, 67, 68, 69, 70, 71, 72, 73, 74, 75, 76, 77, 78, 79, 80, 81, 82, 83, 84, 85, 86, 87, 88, 89, 90, 91, 92, 93, 94, 95, 96, 97, 98, 99, 100, 101, 102, 103, 104, 105, 106, 107, 108, 109, 110, 111, 112, 113] (.sq (.sq .leaf (.cn .leaf .leaf)) (.sq (.bl (.sq .leaf (.sq .leaf (.bl (.lp [11] [4, 11, 49, 50, 51, 52, 53, 54, 55, 56, 57, 58, 59, 60, 61, 62, 63, 64, 65, 66, 67, 68, 69, 70, 71, 72, 73, 74, 75, 76, 77, 78, 79, 80, 81, 82, 83, 84, 85, 86, 87, 88, 89, 90, 91, 92, 93, 94, 95, 96, 97, 98, 99, 100, 101, 102, 103, 104, 105, 106, 107, 108, 109, 110, 111, 112, 113] (.sq (.sq .leaf (.cn .leaf .leaf)) (.sq (.bl (.sq (.dr (.take 0 false (.take 1 false (.take 2 false (.take 3 false (.take 4 false (.take 5 false (.take 6 false (.take 7 true (.take 8 false (.take 9 false (.take 10 false (.take 11 true (.take 12 false (.take 13 false (.one 14 (.take 15 false (.take 16 false (.take 17 false (.take 18 false (.take 19 false (.take 20 false (.take 21 false (.take 22 false (.take 23 false (.take 24 false (.take 25 false (.take 26 true (.take 27 false (.take 28 false (.take 29 false (.take 30 true (.take 31 false (.take 32 false (.one 33 (.take 34 false (.take 35 false (.take 36 false (.take 37 false (.take 38 false (.take 39 false (.take 40 false (.take 41 false (.take 42 false (.take 43 false (.take 44 false (.take 45 false (.take 46 true (.take 47 false (.take 48 false (.take 49 false (.take 50 true (.take 51 false (.take 52 false (.one 53 (.take 54 false (.take 55 false (.take 56 false (.take 57 false .fin))))))))))))))))))))))))))))))))))))))))))))))))))))))))))) (.cn (.sq .leaf .leaf) .leaf))) .leaf))))))) .leaf))))) (.sq .leaf .leaf)))))
theorem f71.body_eq : Tryd.f71.body = some f71.code := by kernel_rfl
theorem f71.shape (Z : List PanicEntry → World → Prop) (x0 x1 : Value) (w : World) (Q : Value → World → Prop) : vc drawD Tryd.prog 114 Z [60] f71.an f71.code (fnQ Tryd.prog 114 Tryd.f71.results Q) (argEnv [x0, x1]) w = f71.sh Z x0 x1 w Q := by kernel_rfl
theorem f71.enters : ∀ f, f ∈ ([60] : List Nat) → Enters Tryd.prog f := by
  intro f hf
  simp only [List.mem_cons, List.not_mem_nil, or_false] at hf
  rcases hf with rfl
  · exact en60
theorem f71.calls {Z : List PanicEntry → World → Prop} {x0 x1 : Value} {w : World} {Q : Value → World → Prop} (h : f71.sh Z x0 x1 w Q) : CallV Tryd.prog Z 71 #[x0, x1] w Q :=
  calls_of_vcn drawD_sound (Q := Q) (n := 114) (rs := Tryd.f71.results) (an := f71.an) (c := f71.code) (cal := [60]) (args := [x0, x1]) Tryd.func71 (by kernel_rfl) rfl f71.body_eq follows (Nat.le_of_ble_eq_true (by kernel_rfl)) (enters_of_all f71.enters) ((f71.shape Z x0 x1 w Q).mpr h)

/-! ### 72: lagoon/lagoonref00.grownPackets -/
def f72.sh (Z : List PanicEntry → World → Prop) (x0 x1 : Value) (w : World) (Q : Value → World → Prop) : Prop :=
  ∃ J_1 : Nat → Value → Value → World → Prop, (∃ m, J_1 m (Value.slice none 0 0) (Value.int IntKind.i64 0) w) ∧
    ∀ m_1, ∀ t5_2 : Value, ∀ t6_3 : Value, ∀ w : World, J_1 m_1 t5_2 t6_3 w → Env →
      run1 Tryd.prog Z (Builtin.len_ #[54] 3 #[x0]) w fun t14_4 w =>
      run1 Tryd.prog Z (binOp BinOp.lss 3 t6_3 t14_4) w fun t15_5 w =>
      CondV t15_5 (
        run1 Tryd.prog Z (Instr.indexAt 54 x0 t6_3) w fun t20_6 w =>
        run1 Tryd.prog Z (Instr.loadAt 155 t20_6) w fun t21_7 w =>
        ∃ J_8 : Nat → Value → Value → World → Prop, (∃ m, J_8 m t21_7 (Value.int IntKind.i64 0) w) ∧
          ∀ m_8, ∀ t7_9 : Value, ∀ t8_10 : Value, ∀ w : World, J_8 m_8 t7_9 t8_10 w → Env →
            run1 Tryd.prog Z (binOp BinOp.lss 3 t8_10 x1) w fun t24_11 w =>
            CondV t24_11 (
              run1 Tryd.prog Z (binOp BinOp.sub 3 (Value.int IntKind.i64 (-2000000)) t6_3) w fun t29_12 w =>
              run1 Tryd.prog Z (Instr.build 159 #[(3, t29_12)]) w fun t30_13 w =>
              run1 Tryd.prog Z (Instr.buildSlice 155 1 #[(0, t30_13)]) w fun t31_14 w =>
              run1 Tryd.prog Z (Builtin.append_ #[155, 155] 155 #[t7_9, t31_14]) w fun t32_15 w =>
              run1 Tryd.prog Z (binOp BinOp.add 3 t8_10 (Value.int IntKind.i64 1)) w fun t26_16 w =>
              ∃ n_8, n_8 < m_8 ∧ J_8 n_8 t32_15 t26_16 w) (
              run1 Tryd.prog Z (Instr.buildSlice 54 1 #[(0, t7_9)]) w fun t35_17 w =>
              run1 Tryd.prog Z (Builtin.append_ #[54, 54] 54 #[t5_2, t35_17]) w fun t36_18 w =>
              run1 Tryd.prog Z (binOp BinOp.add 3 t6_3 (Value.int IntKind.i64 1)) w fun t17_19 w =>
              ∃ n_1, n_1 < m_1 ∧ J_1 n_1 t36_18 t17_19 w)) (
        ∃ J_20 : Nat → Value → World → Prop, (∃ m, J_20 m (Value.int IntKind.i64 0) w) ∧
          ∀ m_20, ∀ t9_21 : Value, ∀ w : World, J_20 m_20 t9_21 w → Env →
            run1 Tryd.prog Z (Builtin.len_ #[54] 3 #[x0]) w fun t39_22 w =>
            run1 Tryd.prog Z (binOp BinOp.lss 3 t9_21 t39_22) w fun t40_23 w =>
            CondV t40_23 (
              run1 Tryd.prog Z (Instr.indexAt 54 x0 t9_21) w fun t45_24 w =>
              run1 Tryd.prog Z (Instr.loadAt 155 t45_24) w fun t46_25 w =>
              run1 Tryd.prog Z (Builtin.len_ #[155] 3 #[t46_25]) w fun t47_26 w =>
              ∃ J_27 : Nat → Value → World → Prop, (∃ m, J_27 m (Value.int IntKind.i64 0) w) ∧
                ∀ m_27, ∀ t11_28 : Value, ∀ w : World, J_27 m_27 t11_28 w → Env →
                  run1 Tryd.prog Z (binOp BinOp.add 3 t47_26 x1) w fun t51_29 w =>
                  run1 Tryd.prog Z (binOp BinOp.lss 3 t11_28 t51_29) w fun t52_30 w =>
                  CondV t52_30 (
                    run1 Tryd.prog Z (binOp BinOp.lss 3 t11_28 t47_26) w fun t57_31 w =>
                    guardW (t57_31) true (fun k => k (x0) w) (fun t59_32 w =>
                    guardW (t57_31) true (fun k => k (t9_21) w) (fun t60_33 w =>
                    guardW (t57_31) true (fun k => run1 Tryd.prog Z (Instr.indexAt 54 t59_32 t60_33) w k) (fun t61_34 w =>
                    guardW (t57_31) true (fun k => run1 Tryd.prog Z (Instr.loadAt 155 t61_34) w k) (fun t62_35 w =>
                    guardW (t57_31) true (fun k => k (t11_28) w) (fun t63_36 w =>
                    guardW (t57_31) true (fun k => run1 Tryd.prog Z (Instr.indexAt 155 t62_35 t63_36) w k) (fun t64_37 w =>
                    guardW (t57_31) true (fun k => run1 Tryd.prog Z (Instr.fieldAt 159 t64_37 3) w k) (fun t65_38 w =>
                    guardW (t57_31) true (fun k => run1 Tryd.prog Z (Instr.loadAt 2 t65_38) w k) (fun t66_39 w =>
                    guardW (t57_31) true (fun k => k (t9_21) w) (fun t67_40 w =>
                    guardW (t57_31) true (fun k => run1 Tryd.prog Z (binOp BinOp.sub 3 (Value.int IntKind.i64 (-1000000)) t67_40) w k) (fun t68_41 w =>
                    guardW (t57_31) true (fun k => run1 Tryd.prog Z (eqOp BinOp.eql 2 false false t66_39 t68_41) w k) (fun t69_42 w =>
                    guardW (t57_31) true (fun k => run1 Tryd.prog Z (Op.unary UnOp.not t69_42) w k) (fun t70_43 w =>
                    run1 Tryd.prog Z (pickV t57_31 t70_43 (Value.bool false)) w fun t71_44 w =>
                    guardW (t71_44) false (fun k => k (t11_28) w) (fun t73_45 w =>
                    guardW (t71_44) false (fun k => k (t47_26) w) (fun t74_46 w =>
                    guardW (t71_44) false (fun k => run1 Tryd.prog Z (binOp BinOp.lss 3 t73_45 t74_46) w k) (fun t75_47 w =>
                    guardW (t71_44) false (fun k => k (t75_47) w) (fun t76_48 w =>
                    guardW (t76_48) true (fun k => k (t5_2) w) (fun t77_49 w =>
                    guardW (t76_48) true (fun k => k (t9_21) w) (fun t78_50 w =>
                    guardW (t76_48) true (fun k => run1 Tryd.prog Z (Instr.indexAt 54 t77_49 t78_50) w k) (fun t79_51 w =>
                    guardW (t76_48) true (fun k => run1 Tryd.prog Z (Instr.loadAt 155 t79_51) w k) (fun t80_52 w =>
                    guardW (t76_48) true (fun k => k (t11_28) w) (fun t81_53 w =>
                    guardW (t76_48) true (fun k => run1 Tryd.prog Z (Instr.indexAt 155 t80_52 t81_53) w k) (fun t82_54 w =>
                    guardW (t76_48) true (fun k => run1 Tryd.prog Z (Instr.fieldAt 159 t82_54 3) w k) (fun t83_55 w =>
                    guardW (t76_48) true (fun k => run1 Tryd.prog Z (Instr.loadAt 2 t83_55) w k) (fun t84_56 w =>
                    guardW (t76_48) true (fun k => k (t9_21) w) (fun t85_57 w =>
                    guardW (t76_48) true (fun k => run1 Tryd.prog Z (binOp BinOp.sub 3 (Value.int IntKind.i64 (-1000000)) t85_57) w k) (fun t86_58 w =>
                    guardW (t76_48) true (fun k => run1 Tryd.prog Z (eqOp BinOp.eql 2 false false t84_56 t86_58) w k) (fun t87_59 w =>
                    guardW (t76_48) true (fun k => run1 Tryd.prog Z (Op.unary UnOp.not t87_59) w k) (fun t88_60 w =>
                    guardW (t71_44) false (fun k => run1 Tryd.prog Z (pickV t76_48 t88_60 (Value.bool false)) w k) (fun t89_61 w =>
                    run1 Tryd.prog Z (pickV t71_44 (Value.bool true) t89_61) w fun t90_62 w =>
                    guardW (t90_62) false (fun k => k (t11_28) w) (fun t92_63 w =>
                    guardW (t90_62) false (fun k => k (t47_26) w) (fun t93_64 w =>
                    guardW (t90_62) false (fun k => run1 Tryd.prog Z (binOp BinOp.geq 3 t92_63 t93_64) w k) (fun t94_65 w =>
                    guardW (t90_62) false (fun k => k (t94_65) w) (fun t95_66 w =>
                    guardW (t95_66) true (fun k => k (t5_2) w) (fun t96_67 w =>
                    guardW (t95_66) true (fun k => k (t9_21) w) (fun t97_68 w =>
                    guardW (t95_66) true (fun k => run1 Tryd.prog Z (Instr.indexAt 54 t96_67 t97_68) w k) (fun t98_69 w =>
                    guardW (t95_66) true (fun k => run1 Tryd.prog Z (Instr.loadAt 155 t98_69) w k) (fun t99_70 w =>
                    guardW (t95_66) true (fun k => k (t11_28) w) (fun t100_71 w =>
                    guardW (t95_66) true (fun k => run1 Tryd.prog Z (Instr.indexAt 155 t99_70 t100_71) w k) (fun t101_72 w =>
                    guardW (t95_66) true (fun k => run1 Tryd.prog Z (Instr.fieldAt 159 t101_72 3) w k) (fun t102_73 w =>
                    guardW (t95_66) true (fun k => run1 Tryd.prog Z (Instr.loadAt 2 t102_73) w k) (fun t103_74 w =>
                    guardW (t95_66) true (fun k => k (t9_21) w) (fun t104_75 w =>
                    guardW (t95_66) true (fun k => run1 Tryd.prog Z (binOp BinOp.sub 3 (Value.int IntKind.i64 (-2000000)) t104_75) w k) (fun t105_76 w =>
                    guardW (t95_66) true (fun k => run1 Tryd.prog Z (eqOp BinOp.eql 2 false false t103_74 t105_76) w k) (fun t106_77 w =>
                    guardW (t95_66) true (fun k => run1 Tryd.prog Z (Op.unary UnOp.not t106_77) w k) (fun t107_78 w =>
                    guardW (t90_62) false (fun k => run1 Tryd.prog Z (pickV t95_66 t107_78 (Value.bool false)) w k) (fun t108_79 w =>
                    run1 Tryd.prog Z (pickV t90_62 (Value.bool true) t108_79) w fun t109_80 w =>
                    CondV t109_80 (
                      Q (Value.bool false) w) (
                      run1 Tryd.prog Z (binOp BinOp.add 3 t11_28 (Value.int IntKind.i64 1)) w fun t54_81 w =>
                      ∃ n_27, n_27 < m_27 ∧ J_27 n_27 t54_81 w)) w) w) w) w) w) w) w) w) w) w) w) w) w) w) w) w) w) w) w) w) w) w) w) w) w) w) w) w) w) w) w) w) w) w) w) w) w) w) w) w) w) w) w) w) w) w) (
                    run1 Tryd.prog Z (binOp BinOp.add 3 t9_21 (Value.int IntKind.i64 1)) w fun t42_82 w =>
                    ∃ n_20, n_20 < m_20 ∧ J_20 n_20 t42_82 w)) (
              Q (Value.bool true) w))
noncomputable def f72.code : Code := match Tryd.f72.body with | some c => c | none => .skip
def f72.an : An := (.sq .leaf (.sq .leaf (.sq (.sq .leaf (.bl (.lp [5, 6] [5, 6, 7, 8, 12, 13, 14, 15, 16, 17, 18, 19, 20, 21, 22, 23, 24, 25, 26, 27, 28, 29, 30, 31, 32, 33, 34, 35, 36] (.sq (.sq .leaf (.cn .leaf .leaf)) (.sq (.bl (.sq .leaf (.sq (.sq .leaf (.bl (.lp [7, 8] [7, 8, 22, 23, 24, 25, 26, 27, 28, 29, 30, 31, 32] (.sq (.sq .leaf (.cn .leaf .leaf)) (.sq (.bl .leaf) .leaf))))) .leaf))) .leaf))))) (.sq (.sq .leaf (.bl (.lp [9] [4, 9, 10, 11, 37, 38, 39, 40, 41, 42, 43, 44, 45, 46, 47, 48, 49, 50, 51, 52, 53, 54, 55, 56, 57, 58, 59, 60, 61, 62, 63, 64, 65, 66, 67, 68, 69, 70, 71, 72, 73, 74, 75, 76, 77, 78, 79, 80, 81, 82, 83, 84, 85, 86, 87, 88, 89, 90, 91, 92, 93, 94, 95, 96, 97, 98, 99, 100, 101, 102, 103, 104, 105, 106, 107, 108, 109] (.sq (.sq .leaf (.cn .leaf .leaf)) (.sq (.bl (.sq .leaf (.sq .leaf (.bl (.lp [11] [4, 11, 48, 49, 50, 51, 52, 53, 54, 55, 56, 57, 58, 59, 60, 61, 62, 63, 64, 65, 66, 67, 68, 69, 70, 71, 72, 73, 74, 75, 76, 77, 78, 79, 80, 81, 82, 83, 84, 85, 86, 87, 88, 89, 90, 91, 92, 93, 94, 95, 96, 97, 98, 99, 100, 101, 102, 103, 104, 105, 106, 107, 108, 109] (.sq (.sq .leaf (.cn .leaf .leaf)) (.sq (.bl (.sq .leaf (.cn (.sq .leaf .leaf) .leaf))) .leaf))))))) .leaf))))) (.sq .leaf .leaf)))))
theorem f72.body_eq : Tryd.f72.body = some f72.code := by kernel_rfl
theorem f72.shape (Z : List PanicEntry → World → Prop) (x0 x1 : Value) (w : World) (Q : Value → World → Prop) : vc drawD Tryd.prog 110 Z [] f72.an f72.code (fnQ Tryd.prog 110 Tryd.f72.results Q) (argEnv [x0, x1]) w = f72.sh Z x0 x1 w Q := by kernel_rfl
theorem f72.enters : ∀ f, f ∈ ([] : List Nat) → Enters Tryd.prog f := by
  intro f hf
  cases hf
theorem f72.calls {Z : List PanicEntry → World → Prop} {x0 x1 : Value} {w : World} {Q : Value → World → Prop} (h : f72.sh Z x0 x1 w Q) : CallV Tryd.prog Z 72 #[x0, x1] w Q :=
  calls_of_vcn drawD_sound (Q := Q) (n := 110) (rs := Tryd.f72.results) (an := f72.an) (c := f72.code) (cal := []) (args := [x0, x1]) Tryd.func72 (by kernel_rfl) rfl f72.body_eq follows (Nat.le_of_ble_eq_true (by kernel_rfl)) (enters_of_all f72.enters) ((f72.shape Z x0 x1 w Q).mpr h)

/-! ### 73: lagoon/lagoonref00.grownMessages -/
def f73.sh (Z : List PanicEntry → World → Prop) (x0 x1 : Value) (w : World) (Q : Value → World → Prop) : Prop :=
  ∃ J_1 : Nat → Value → Value → World → Prop, (∃ m, J_1 m (Value.slice none 0 0) (Value.int IntKind.i64 0) w) ∧
    ∀ m_1, ∀ t5_2 : Value, ∀ t6_3 : Value, ∀ w : World, J_1 m_1 t5_2 t6_3 w → Env →
      run1 Tryd.prog Z (Builtin.len_ #[55] 3 #[x0]) w fun t14_4 w =>
      run1 Tryd.prog Z (binOp BinOp.lss 3 t6_3 t14_4) w fun t15_5 w =>
      CondV t15_5 (
        run1 Tryd.prog Z (Instr.indexAt 55 x0 t6_3) w fun t20_6 w =>
        run1 Tryd.prog Z (Instr.loadAt 161 t20_6) w fun t21_7 w =>
        ∃ J_8 : Nat → Value → Value → World → Prop, (∃ m, J_8 m t21_7 (Value.int IntKind.i64 0) w) ∧
          ∀ m_8, ∀ t7_9 : Value, ∀ t8_10 : Value, ∀ w : World, J_8 m_8 t7_9 t8_10 w → Env →
            run1 Tryd.prog Z (binOp BinOp.lss 3 t8_10 x1) w fun t24_11 w =>
            CondV t24_11 (
              run1 Tryd.prog Z (binOp BinOp.sub 3 (Value.int IntKind.i64 (-2000000)) t6_3) w fun t29_12 w =>
              CallV Tryd.prog Z 60 #[t29_12] w fun t30_13 w =>
              run1 Tryd.prog Z (convert 9 22 t30_13) w fun t31_14 w =>
              run1 Tryd.prog Z (Instr.build 163 #[(2, t31_14)]) w fun t32_15 w =>
              run1 Tryd.prog Z (Instr.buildSlice 161 1 #[(0, t32_15)]) w fun t33_16 w =>
              run1 Tryd.prog Z (Builtin.append_ #[161, 161] 161 #[t7_9, t33_16]) w fun t34_17 w =>
              run1 Tryd.prog Z (binOp BinOp.add 3 t8_10 (Value.int IntKind.i64 1)) w fun t26_18 w =>
              ∃ n_8, n_8 < m_8 ∧ J_8 n_8 t34_17 t26_18 w) (
              run1 Tryd.prog Z (Instr.buildSlice 55 1 #[(0, t7_9)]) w fun t37_19 w =>
              run1 Tryd.prog Z (Builtin.append_ #[55, 55] 55 #[t5_2, t37_19]) w fun t38_20 w =>
              run1 Tryd.prog Z (binOp BinOp.add 3 t6_3 (Value.int IntKind.i64 1)) w fun t17_21 w =>
              ∃ n_1, n_1 < m_1 ∧ J_1 n_1 t38_20 t17_21 w)) (
        ∃ J_22 : Nat → Value → World → Prop, (∃ m, J_22 m (Value.int IntKind.i64 0) w) ∧
          ∀ m_22, ∀ t9_23 : Value, ∀ w : World, J_22 m_22 t9_23 w → Env →
            run1 Tryd.prog Z (Builtin.len_ #[55] 3 #[x0]) w fun t41_24 w =>
            run1 Tryd.prog Z (binOp BinOp.lss 3 t9_23 t41_24) w fun t42_25 w =>
            CondV t42_25 (
              run1 Tryd.prog Z (Instr.indexAt 55 x0 t9_23) w fun t47_26 w =>
              run1 Tryd.prog Z (Instr.loadAt 161 t47_26) w fun t48_27 w =>
              run1 Tryd.prog Z (Builtin.len_ #[161] 3 #[t48_27]) w fun t49_28 w =>
              ∃ J_29 : Nat → Value → World → Prop, (∃ m, J_29 m (Value.int IntKind.i64 0) w) ∧
                ∀ m_29, ∀ t11_30 : Value, ∀ w : World, J_29 m_29 t11_30 w → Env →
                  run1 Tryd.prog Z (binOp BinOp.add 3 t49_28 x1) w fun t53_31 w =>
                  run1 Tryd.prog Z (binOp BinOp.lss 3 t11_30 t53_31) w fun t54_32 w =>
                  CondV t54_32 (
                    Drawn w fun w =>
                    Pure1 Tryd.prog (binOp BinOp.lss 3 t11_30 t49_28) fun t59_33 =>
                    guardV (t59_33) true (fun k => k (x0)) (fun t61_34 =>
                    guardV (t59_33) true (fun k => k (t9_23)) (fun t62_35 =>
                    guardV (t59_33) true (fun k => Pure1 Tryd.prog (Instr.indexAt 55 t61_34 t62_35) k) (fun t63_36 =>
                    guardV (t59_33) true (fun k => Read1 Tryd.prog (Instr.loadAt 161 t63_36) w k) (fun t64_37 =>
                    guardV (t59_33) true (fun k => k (t11_30)) (fun t65_38 =>
                    guardV (t59_33) true (fun k => Pure1 Tryd.prog (Instr.indexAt 161 t64_37 t65_38) k) (fun t66_39 =>
                    guardV (t59_33) true (fun k => Pure1 Tryd.prog (Instr.fieldAt 163 t66_39 2) k) (fun t67_40 =>
                    guardV (t59_33) true (fun k => Read1 Tryd.prog (Instr.loadAt 22 t67_40) w k) (fun t68_41 =>
                    guardV (t59_33) true (fun k => Read1 Tryd.prog (convert 22 9 t68_41) w k) (fun t69_42 =>
                    guardV (t59_33) true (fun k => k (t9_23)) (fun t70_43 =>
                    guardV (t59_33) true (fun k => Pure1 Tryd.prog (binOp BinOp.sub 3 (Value.int IntKind.i64 (-1000000)) t70_43) k) (fun t71_44 =>
                    guardW (t59_33) true (fun k => CallV Tryd.prog Z 60 #[t71_44] w k) (fun t72_45 w =>
                      Still Tryd.prog (gSem (t59_33) true (nx (convert 22 9 t68_41))) t69_42 w <|
                      Still Tryd.prog (gSem (t59_33) true (nx (Instr.loadAt 22 t67_40))) t68_41 w <|
                      Still Tryd.prog (gSem (t59_33) true (nx (Instr.loadAt 161 t63_36))) t64_37 w <|
                      guardV (t59_33) true (fun k => Pure1 Tryd.prog (eqOp BinOp.eql 9 false false t69_42 t72_45) k) (fun t73_46 =>
                      guardV (t59_33) true (fun k => Pure1 Tryd.prog (Op.unary UnOp.not t73_46) k) (fun t74_47 =>
                      Pure1 Tryd.prog (pickV t59_33 t74_47 (Value.bool false)) fun t75_48 =>
                      guardV (t75_48) false (fun k => k (t11_30)) (fun t77_49 =>
                      guardV (t75_48) false (fun k => k (t49_28)) (fun t78_50 =>
                      guardV (t75_48) false (fun k => Pure1 Tryd.prog (binOp BinOp.lss 3 t77_49 t78_50) k) (fun t79_51 =>
                      guardV (t75_48) false (fun k => k (t79_51)) (fun t80_52 =>
                      guardV (t80_52) true (fun k => k (t5_2)) (fun t81_53 =>
                      guardV (t80_52) true (fun k => k (t9_23)) (fun t82_54 =>
                      guardV (t80_52) true (fun k => Pure1 Tryd.prog (Instr.indexAt 55 t81_53 t82_54) k) (fun t83_55 =>
                      guardV (t80_52) true (fun k => Read1 Tryd.prog (Instr.loadAt 161 t83_55) w k) (fun t84_56 =>
                      guardV (t80_52) true (fun k => k (t11_30)) (fun t85_57 =>
                      guardV (t80_52) true (fun k => Pure1 Tryd.prog (Instr.indexAt 161 t84_56 t85_57) k) (fun t86_58 =>
                      guardV (t80_52) true (fun k => Pure1 Tryd.prog (Instr.fieldAt 163 t86_58 2) k) (fun t87_59 =>
                      guardV (t80_52) true (fun k => Read1 Tryd.prog (Instr.loadAt 22 t87_59) w k) (fun t88_60 =>
                      guardV (t80_52) true (fun k => Read1 Tryd.prog (convert 22 9 t88_60) w k) (fun t89_61 =>
                      guardV (t80_52) true (fun k => k (t9_23)) (fun t90_62 =>
                      guardV (t80_52) true (fun k => Pure1 Tryd.prog (binOp BinOp.sub 3 (Value.int IntKind.i64 (-1000000)) t90_62) k) (fun t91_63 =>
                      guardW (t80_52) true (fun k => CallV Tryd.prog Z 60 #[t91_63] w k) (fun t92_64 w =>
                        Still Tryd.prog (gSem (t80_52) true (nx (convert 22 9 t88_60))) t89_61 w <|
                        Still Tryd.prog (gSem (t80_52) true (nx (Instr.loadAt 22 t87_59))) t88_60 w <|
                        Still Tryd.prog (gSem (t80_52) true (nx (Instr.loadAt 161 t83_55))) t84_56 w <|
                        Still Tryd.prog (gSem (t59_33) true (nx (convert 22 9 t68_41))) t69_42 w <|
                        Still Tryd.prog (gSem (t59_33) true (nx (Instr.loadAt 22 t67_40))) t68_41 w <|
                        Still Tryd.prog (gSem (t59_33) true (nx (Instr.loadAt 161 t63_36))) t64_37 w <|
                        guardV (t80_52) true (fun k => Pure1 Tryd.prog (eqOp BinOp.eql 9 false false t89_61 t92_64) k) (fun t93_65 =>
                        guardV (t80_52) true (fun k => Pure1 Tryd.prog (Op.unary UnOp.not t93_65) k) (fun t94_66 =>
                        guardV (t75_48) false (fun k => Pure1 Tryd.prog (pickV t80_52 t94_66 (Value.bool false)) k) (fun t95_67 =>
                        Pure1 Tryd.prog (pickV t75_48 (Value.bool true) t95_67) fun t96_68 =>
                        guardV (t96_68) false (fun k => k (t11_30)) (fun t98_69 =>
                        guardV (t96_68) false (fun k => k (t49_28)) (fun t99_70 =>
                        guardV (t96_68) false (fun k => Pure1 Tryd.prog (binOp BinOp.geq 3 t98_69 t99_70) k) (fun t100_71 =>
                        guardV (t96_68) false (fun k => k (t100_71)) (fun t101_72 =>
                        guardV (t101_72) true (fun k => k (t5_2)) (fun t102_73 =>
                        guardV (t101_72) true (fun k => k (t9_23)) (fun t103_74 =>
                        guardV (t101_72) true (fun k => Pure1 Tryd.prog (Instr.indexAt 55 t102_73 t103_74) k) (fun t104_75 =>
                        guardV (t101_72) true (fun k => Read1 Tryd.prog (Instr.loadAt 161 t104_75) w k) (fun t105_76 =>
                        guardV (t101_72) true (fun k => k (t11_30)) (fun t106_77 =>
                        guardV (t101_72) true (fun k => Pure1 Tryd.prog (Instr.indexAt 161 t105_76 t106_77) k) (fun t107_78 =>
                        guardV (t101_72) true (fun k => Pure1 Tryd.prog (Instr.fieldAt 163 t107_78 2) k) (fun t108_79 =>
                        guardV (t101_72) true (fun k => Read1 Tryd.prog (Instr.loadAt 22 t108_79) w k) (fun t109_80 =>
                        guardV (t101_72) true (fun k => Read1 Tryd.prog (convert 22 9 t109_80) w k) (fun t110_81 =>
                        guardV (t101_72) true (fun k => k (t9_23)) (fun t111_82 =>
                        guardV (t101_72) true (fun k => Pure1 Tryd.prog (binOp BinOp.sub 3 (Value.int IntKind.i64 (-2000000)) t111_82) k) (fun t112_83 =>
                        guardW (t101_72) true (fun k => CallV Tryd.prog Z 60 #[t112_83] w k) (fun t113_84 w =>
                          Still Tryd.prog (gSem (t101_72) true (nx (convert 22 9 t109_80))) t110_81 w <|
                          Still Tryd.prog (gSem (t101_72) true (nx (Instr.loadAt 22 t108_79))) t109_80 w <|
                          Still Tryd.prog (gSem (t101_72) true (nx (Instr.loadAt 161 t104_75))) t105_76 w <|
                          Still Tryd.prog (gSem (t80_52) true (nx (convert 22 9 t88_60))) t89_61 w <|
                          Still Tryd.prog (gSem (t80_52) true (nx (Instr.loadAt 22 t87_59))) t88_60 w <|
                          Still Tryd.prog (gSem (t80_52) true (nx (Instr.loadAt 161 t83_55))) t84_56 w <|
                          Still Tryd.prog (gSem (t59_33) true (nx (convert 22 9 t68_41))) t69_42 w <|
                          Still Tryd.prog (gSem (t59_33) true (nx (Instr.loadAt 22 t67_40))) t68_41 w <|
                          Still Tryd.prog (gSem (t59_33) true (nx (Instr.loadAt 161 t63_36))) t64_37 w <|
                          guardV (t101_72) true (fun k => Pure1 Tryd.prog (eqOp BinOp.eql 9 false false t110_81 t113_84) k) (fun t114_85 =>
                          guardV (t101_72) true (fun k => Pure1 Tryd.prog (Op.unary UnOp.not t114_85) k) (fun t115_86 =>
                          guardV (t96_68) false (fun k => Pure1 Tryd.prog (pickV t101_72 t115_86 (Value.bool false)) k) (fun t116_87 =>
                          Pure1 Tryd.prog (pickV t96_68 (Value.bool true) t116_87) fun t117_88 =>
                          CondV t117_88 (
                            Q (Value.bool false) w) (
                            run1 Tryd.prog Z (binOp BinOp.add 3 t11_30 (Value.int IntKind.i64 1)) w fun t56_89 w =>
                            ∃ n_29, n_29 < m_29 ∧ J_29 n_29 t56_89 w))))) w))))))))))))))))))) w)))))))))))))))))) w)))))))))))) (
                    run1 Tryd.prog Z (binOp BinOp.add 3 t9_23 (Value.int IntKind.i64 1)) w fun t44_90 w =>
                    ∃ n_22, n_22 < m_22 ∧ J_22 n_22 t44_90 w)) (
              Q (Value.bool true) w))
noncomputable def f73.code : Code := match Tryd.f73.body with | some c => c | none => .skip
def f73.an : An := (.sq .leaf (.sq .leaf (.sq (.sq .leaf (.bl (.lp [5, 6] [5, 6, 7, 8, 12, 13, 14, 15, 16, 17, 18, 19, 20, 21, 22, 23, 24, 25, 26, 27, 28, 29, 30, 31, 32, 33, 34, 35, 36, 37, 38] (.sq (.sq .leaf (.cn .leaf .leaf)) (.sq (.bl (.sq .leaf (.sq (.sq .leaf (.bl (.lp [7, 8] [7, 8, 22, 23, 24, 25, 26, 27, 28, 29, 30, 31, 32, 33, 34] (.sq (.sq .leaf (.cn .leaf .leaf)) (.sq (.bl .leaf) .leaf))))) .leaf))) .leaf))))) (.sq (.sq .leaf (.bl (.lp [9] [4, 9, 10, 11, 39, 40, 41, 42, 43, 44, 45, 46, 47, 48, 49, 50, 51, 52, 53, 54, 55, 56, 57, 58, 59, 60, 61, 62, 63, 64, 65, 66, 67, 68, 69, 70, 71, 72, 73, 74, 75, 76, 77, 78, 79, 80, 81, 82, 83, 84, 85, 86, 87, 88, 89, 90, 91, 92, 93, 94, 95, 96, 97, 98, 99, 100, 101, 102, 103, 104, 105, 106, 107, 108, 109, 110, 111, 112, 113, 114, 115, 116, 117] (.sq (.sq .leaf (.cn .leaf .leaf)) (.sq (.bl (.sq .leaf (.sq .leaf (.bl (.lp [11] [4, 11, 50, 51, 52, 53, 54, 55, 56, 57, 58, 59, 60, 61, 62, 63, 64, 65, 66, 67, 68, 69, 70, 71, 72, 73, 74, 75, 76, 77, 78, 79, 80, 81, 82, 83, 84, 85, 86, 87, 88, 89, 90, 91, 92, 93, 94, 95, 96, 97, 98, 99, 100, 101, 102, 103, 104, 105, 106, 107, 108, 109, 110, 111, 112, 113, 114, 115, 116, 117] (.sq (.sq .leaf (.cn .leaf .leaf)) (.sq (.bl (.sq (.dr (.take 0 false (.take 1 false (.take 2 false (.take 3 false (.take 4 false (.take 5 false (.take 6 false (.take 7 true (.take 8 false (.take 9 false (.take 10 false (.take 11 true (.take 12 true (.take 13 false (.take 14 false (.one 15 (.take 16 false (.take 17 false (.take 18 false (.take 19 false (.take 20 false (.take 21 false (.take 22 false (.take 23 false (.take 24 false (.take 25 false (.take 26 false (.take 27 true (.take 28 false (.take 29 false (.take 30 false (.take 31 true (.take 32 true (.take 33 false (.take 34 false (.one 35 (.take 36 false (.take 37 false (.take 38 false (.take 39 false (.take 40 false (.take 41 false (.take 42 false (.take 43 false (.take 44 false (.take 45 false (.take 46 false (.take 47 false (.take 48 true (.take 49 false (.take 50 false (.take 51 false (.take 52 true (.take 53 true (.take 54 false (.take 55 false (.one 56 (.take 57 false (.take 58 false (.take 59 false (.take 60 false .fin)))))))))))))))))))))))))))))))))))))))))))))))))))))))))))))) (.cn (.sq .leaf .leaf) .leaf))) .leaf))))))) .leaf))))) (.sq .leaf .leaf)))))
theorem f73.body_eq : Tryd.f73.body = some f73.code := by kernel_rfl
theorem f73.shape (Z : List PanicEntry → World → Prop) (x0 x1 : Value) (w : World) (Q : Value → World → Prop) : vc drawD Tryd.prog 118 Z [60] f73.an f73.code (fnQ Tryd.prog 118 Tryd.f73.results Q) (argEnv [x0, x1]) w = f73.sh Z x0 x1 w Q := by kernel_rfl
theorem f73.enters : ∀ f, f ∈ ([60] : List Nat) → Enters Tryd.prog f := by
  intro f hf
  simp only [List.mem_cons, List.not_mem_nil, or_false] at hf
  rcases hf with rfl
  · exact en60
theorem f73.calls {Z : List PanicEntry → World → Prop} {x0 x1 : Value} {w : World} {Q : Value → World → Prop} (h : f73.sh Z x0 x1 w Q) : CallV Tryd.prog Z 73 #[x0, x1] w Q :=
  calls_of_vcn drawD_sound (Q := Q) (n := 118) (rs := Tryd.f73.results) (an := f73.an) (c := f73.code) (cal := [60]) (args := [x0, x1]) Tryd.func73 (by kernel_rfl) rfl f73.body_eq follows (Nat.le_of_ble_eq_true (by kernel_rfl)) (enters_of_all f73.enters) ((f73.shape Z x0 x1 w Q).mpr h)

/-! ### 74: lagoon/lagoonref00.grownWatches -/
def f74.sh (Z : List PanicEntry → World → Prop) (x0 x1 : Value) (w : World) (Q : Value → World → Prop) : Prop :=
  ∃ J_1 : Nat → Value → Value → World → Prop, (∃ m, J_1 m (Value.slice none 0 0) (Value.int IntKind.i64 0) w) ∧
    ∀ m_1, ∀ t5_2 : Value, ∀ t6_3 : Value, ∀ w : World, J_1 m_1 t5_2 t6_3 w → Env →
      run1 Tryd.prog Z (Builtin.len_ #[56] 3 #[x0]) w fun t14_4 w =>
      run1 Tryd.prog Z (binOp BinOp.lss 3 t6_3 t14_4) w fun t15_5 w =>
      CondV t15_5 (
        run1 Tryd.prog Z (Instr.indexAt 56 x0 t6_3) w fun t20_6 w =>
        run1 Tryd.prog Z (Instr.loadAt 165 t20_6) w fun t21_7 w =>
        ∃ J_8 : Nat → Value → Value → World → Prop, (∃ m, J_8 m t21_7 (Value.int IntKind.i64 0) w) ∧
          ∀ m_8, ∀ t7_9 : Value, ∀ t8_10 : Value, ∀ w : World, J_8 m_8 t7_9 t8_10 w → Env →
            run1 Tryd.prog Z (binOp BinOp.lss 3 t8_10 x1) w fun t24_11 w =>
            CondV t24_11 (
              run1 Tryd.prog Z (binOp BinOp.sub 3 (Value.int IntKind.i64 (-2000000)) t6_3) w fun t29_12 w =>
              run1 Tryd.prog Z (Instr.build 167 #[(0, t29_12)]) w fun t30_13 w =>
              run1 Tryd.prog Z (Instr.buildSlice 165 1 #[(0, t30_13)]) w fun t31_14 w =>
              run1 Tryd.prog Z (Builtin.append_ #[165, 165] 165 #[t7_9, t31_14]) w fun t32_15 w =>
              run1 Tryd.prog Z (binOp BinOp.add 3 t8_10 (Value.int IntKind.i64 1)) w fun t26_16 w =>
              ∃ n_8, n_8 < m_8 ∧ J_8 n_8 t32_15 t26_16 w) (
              run1 Tryd.prog Z (Instr.buildSlice 56 1 #[(0, t7_9)]) w fun t35_17 w =>
              run1 Tryd.prog Z (Builtin.append_ #[56, 56] 56 #[t5_2, t35_17]) w fun t36_18 w =>
              run1 Tryd.prog Z (binOp BinOp.add 3 t6_3 (Value.int IntKind.i64 1)) w fun t17_19 w =>
              ∃ n_1, n_1 < m_1 ∧ J_1 n_1 t36_18 t17_19 w)) (
        ∃ J_20 : Nat → Value → World → Prop, (∃ m, J_20 m (Value.int IntKind.i64 0) w) ∧
          ∀ m_20, ∀ t9_21 : Value, ∀ w : World, J_20 m_20 t9_21 w → Env →
            run1 Tryd.prog Z (Builtin.len_ #[56] 3 #[x0]) w fun t39_22 w =>
            run1 Tryd.prog Z (binOp BinOp.lss 3 t9_21 t39_22) w fun t40_23 w =>
            CondV t40_23 (
              run1 Tryd.prog Z (Instr.indexAt 56 x0 t9_21) w fun t45_24 w =>
              run1 Tryd.prog Z (Instr.loadAt 165 t45_24) w fun t46_25 w =>
              run1 Tryd.prog Z (Builtin.len_ #[165] 3 #[t46_25]) w fun t47_26 w =>
              ∃ J_27 : Nat → Value → World → Prop, (∃ m, J_27 m (Value.int IntKind.i64 0) w) ∧
                ∀ m_27, ∀ t11_28 : Value, ∀ w : World, J_27 m_27 t11_28 w → Env →
                  run1 Tryd.prog Z (binOp BinOp.add 3 t47_26 x1) w fun t51_29 w =>
                  run1 Tryd.prog Z (binOp BinOp.lss 3 t11_28 t51_29) w fun t52_30 w =>
                  CondV t52_30 (
                    run1 Tryd.prog Z (binOp BinOp.lss 3 t11_28 t47_26) w fun t57_31 w =>
                    guardW (t57_31) true (fun k => k (x0) w) (fun t59_32 w =>
                    guardW (t57_31) true (fun k => k (t9_21) w) (fun t60_33 w =>
                    guardW (t57_31) true (fun k => run1 Tryd.prog Z (Instr.indexAt 56 t59_32 t60_33) w k) (fun t61_34 w =>
                    guardW (t57_31) true (fun k => run1 Tryd.prog Z (Instr.loadAt 165 t61_34) w k) (fun t62_35 w =>
                    guardW (t57_31) true (fun k => k (t11_28) w) (fun t63_36 w =>
                    guardW (t57_31) true (fun k => run1 Tryd.prog Z (Instr.indexAt 165 t62_35 t63_36) w k) (fun t64_37 w =>
                    guardW (t57_31) true (fun k => run1 Tryd.prog Z (Instr.fieldAt 167 t64_37 0) w k) (fun t65_38 w =>
                    guardW (t57_31) true (fun k => run1 Tryd.prog Z (Instr.loadAt 2 t65_38) w k) (fun t66_39 w =>
                    guardW (t57_31) true (fun k => k (t9_21) w) (fun t67_40 w =>
                    guardW (t57_31) true (fun k => run1 Tryd.prog Z (binOp BinOp.sub 3 (Value.int IntKind.i64 (-1000000)) t67_40) w k) (fun t68_41 w =>
                    guardW (t57_31) true (fun k => run1 Tryd.prog Z (eqOp BinOp.eql 2 false false t66_39 t68_41) w k) (fun t69_42 w =>
                    guardW (t57_31) true (fun k => run1 Tryd.prog Z (Op.unary UnOp.not t69_42) w k) (fun t70_43 w =>
                    run1 Tryd.prog Z (pickV t57_31 t70_43 (Value.bool false)) w fun t71_44 w =>
                    guardW (t71_44) false (fun k => k (t11_28) w) (fun t73_45 w =>
                    guardW (t71_44) false (fun k => k (t47_26) w) (fun t74_46 w =>
                    guardW (t71_44) false (fun k => run1 Tryd.prog Z (binOp BinOp.lss 3 t73_45 t74_46) w k) (fun t75_47 w =>
                    guardW (t71_44) false (fun k => k (t75_47) w) (fun t76_48 w =>
                    guardW (t76_48) true (fun k => k (t5_2) w) (fun t77_49 w =>
                    guardW (t76_48) true (fun k => k (t9_21) w) (fun t78_50 w =>
                    guardW (t76_48) true (fun k => run1 Tryd.prog Z (Instr.indexAt 56 t77_49 t78_50) w k) (fun t79_51 w =>
                    guardW (t76_48) true (fun k => run1 Tryd.prog Z (Instr.loadAt 165 t79_51) w k) (fun t80_52 w =>
                    guardW (t76_48) true (fun k => k (t11_28) w) (fun t81_53 w =>
                    guardW (t76_48) true (fun k => run1 Tryd.prog Z (Instr.indexAt 165 t80_52 t81_53) w k) (fun t82_54 w =>
                    guardW (t76_48) true (fun k => run1 Tryd.prog Z (Instr.fieldAt 167 t82_54 0) w k) (fun t83_55 w =>
                    guardW (t76_48) true (fun k => run1 Tryd.prog Z (Instr.loadAt 2 t83_55) w k) (fun t84_56 w =>
                    guardW (t76_48) true (fun k => k (t9_21) w) (fun t85_57 w =>
                    guardW (t76_48) true (fun k => run1 Tryd.prog Z (binOp BinOp.sub 3 (Value.int IntKind.i64 (-1000000)) t85_57) w k) (fun t86_58 w =>
                    guardW (t76_48) true (fun k => run1 Tryd.prog Z (eqOp BinOp.eql 2 false false t84_56 t86_58) w k) (fun t87_59 w =>
                    guardW (t76_48) true (fun k => run1 Tryd.prog Z (Op.unary UnOp.not t87_59) w k) (fun t88_60 w =>
                    guardW (t71_44) false (fun k => run1 Tryd.prog Z (pickV t76_48 t88_60 (Value.bool false)) w k) (fun t89_61 w =>
                    run1 Tryd.prog Z (pickV t71_44 (Value.bool true) t89_61) w fun t90_62 w =>
                    guardW (t90_62) false (fun k => k (t11_28) w) (fun t92_63 w =>
                    guardW (t90_62) false (fun k => k (t47_26) w) (fun t93_64 w =>
                    guardW (t90_62) false (fun k => run1 Tryd.prog Z (binOp BinOp.geq 3 t92_63 t93_64) w k) (fun t94_65 w =>
                    guardW (t90_62) false (fun k => k (t94_65) w) (fun t95_66 w =>
                    guardW (t95_66) true (fun k => k (t5_2) w) (fun t96_67 w =>
                    guardW (t95_66) true (fun k => k (t9_21) w) (fun t97_68 w =>
                    guardW (t95_66) true (fun k => run1 Tryd.prog Z (Instr.indexAt 56 t96_67 t97_68) w k) (fun t98_69 w =>
                    guardW (t95_66) true (fun k => run1 Tryd.prog Z (Instr.loadAt 165 t98_69) w k) (fun t99_70 w =>
                    guardW (t95_66) true (fun k => k (t11_28) w) (fun t100_71 w =>
                    guardW (t95_66) true (fun k => run1 Tryd.prog Z (Instr.indexAt 165 t99_70 t100_71) w k) (fun t101_72 w =>
                    guardW (t95_66) true (fun k => run1 Tryd.prog Z (Instr.fieldAt 167 t101_72 0) w k) (fun t102_73 w =>
                    guardW (t95_66) true (fun k => run1 Tryd.prog Z (Instr.loadAt 2 t102_73) w k) (fun t103_74 w =>
                    guardW (t95_66) true (fun k => k (t9_21) w) (fun t104_75 w =>
                    guardW (t95_66) true (fun k => run1 Tryd.prog Z (binOp BinOp.sub 3 (Value.int IntKind.i64 (-2000000)) t104_75) w k) (fun t105_76 w =>
                    guardW (t95_66) true (fun k => run1 Tryd.prog Z (eqOp BinOp.eql 2 false false t103_74 t105_76) w k) (fun t106_77 w =>
                    guardW (t95_66) true (fun k => run1 Tryd.prog Z (Op.unary UnOp.not t106_77) w k) (fun t107_78 w =>
                    guardW (t90_62) false (fun k => run1 Tryd.prog Z (pickV t95_66 t107_78 (Value.bool false)) w k) (fun t108_79 w =>
                    run1 Tryd.prog Z (pickV t90_62 (Value.bool true) t108_79) w fun t109_80 w =>
                    CondV t109_80 (
                      Q (Value.bool false) w) (
                      run1 Tryd.prog Z (binOp BinOp.add 3 t11_28 (Value.int IntKind.i64 1)) w fun t54_81 w =>
                      ∃ n_27, n_27 < m_27 ∧ J_27 n_27 t54_81 w)) w) w) w) w) w) w) w) w) w) w) w) w) w) w) w) w) w) w) w) w) w) w) w) w) w) w) w) w) w) w) w) w) w) w) w) w) w) w) w) w) w) w) w) w) w) w) (
                    run1 Tryd.prog Z (binOp BinOp.add 3 t9_21 (Value.int IntKind.i64 1)) w fun t42_82 w =>
                    ∃ n_20, n_20 < m_20 ∧ J_20 n_20 t42_82 w)) (
              Q (Value.bool true) w))
noncomputable def f74.code : Code := match Tryd.f74.body with | some c => c | none => .skip
def f74.an : An := (.sq .leaf (.sq .leaf (.sq (.sq .leaf (.bl (.lp [5, 6] [5, 6, 7, 8, 12, 13, 14, 15, 16, 17, 18, 19, 20, 21, 22, 23, 24, 25, 26, 27, 28, 29, 30, 31, 32, 33, 34, 35, 36] (.sq (.sq .leaf (.cn .leaf .leaf)) (.sq (.bl (.sq .leaf (.sq (.sq .leaf (.bl (.lp [7, 8] [7, 8, 22, 23, 24, 25, 26, 27, 28, 29, 30, 31, 32] (.sq (.sq .leaf (.cn .leaf .leaf)) (.sq (.bl .leaf) .leaf))))) .leaf))) .leaf))))) (.sq (.sq .leaf (.bl (.lp [9] [4, 9, 10, 11, 37, 38, 39, 40, 41, 42, 43, 44, 45, 46, 47, 48, 49, 50, 51, 52, 53, 54, 55, 56, 57, 58, 59, 60, 61, 62, 63, 64, 65, 66, 67, 68, 69, 70, 71, 72, 73, 74, 75, 76, 77, 78, 79, 80, 81, 82, 83, 84, 85, 86, 87, 88, 89, 90, 91, 92, 93, 94, 95, 96, 97, 98, 99, 100, 101, 102, 103, 104, 105, 106, 107, 108, 109] (.sq (.sq .leaf (.cn .leaf .leaf)) (.sq (.bl (.sq .leaf (.sq .leaf (.bl (.lp [11] [4, 11, 48, 49, 50, 51, 52, 53, 54, 55, 56, 57, 58, 59, 60, 61, 62, 63, 64, 65, 66, 67, 68, 69, 70, 71, 72, 73, 74, 75, 76, 77, 78, 79, 80, 81, 82, 83, 84, 85, 86, 87, 88, 89, 90, 91, 92, 93, 94, 95, 96, 97, 98, 99, 100, 101, 102, 103, 104, 105, 106, 107, 108, 109] (.sq (.sq .leaf (.cn .leaf .leaf)) (.sq (.bl (.sq .leaf (.cn (.sq .leaf .leaf) .leaf))) .leaf))))))) .leaf))))) (.sq .leaf .leaf)))))
theorem f74.body_eq : Tryd.f74.body = some f74.code := by kernel_rfl
theorem f74.shape (Z : List PanicEntry → World → Prop) (x0 x1 : Value) (w : World) (Q : Value → World → Prop) : vc drawD Tryd.prog 110 Z [] f74.an f74.code (fnQ Tryd.prog 110 Tryd.f74.results Q) (argEnv [x0, x1]) w = f74.sh Z x0 x1 w Q := by kernel_rfl
theorem f74.enters : ∀ f, f ∈ ([] : List Nat) → Enters Tryd.prog f := by
  intro f hf
  cases hf
theorem f74.calls {Z : List PanicEntry → World → Prop} {x0 x1 : Value} {w : World} {Q : Value → World → Prop} (h : f74.sh Z x0 x1 w Q) : CallV Tryd.prog Z 74 #[x0, x1] w Q :=
  calls_of_vcn drawD_sound (Q := Q) (n := 110) (rs := Tryd.f74.results) (an := f74.an) (c := f74.code) (cal := []) (args := [x0, x1]) Tryd.func74 (by kernel_rfl) rfl f74.body_eq follows (Nat.le_of_ble_eq_true (by kernel_rfl)) (enters_of_all f74.enters) ((f74.shape Z x0 x1 w Q).mpr h)

/-! ### 75: lagoon/lagoonref00.grownFired -/
def f75.sh (Z : List PanicEntry → World → Prop) (x0 x1 : Value) (w : World) (Q : Value → World → Prop) : Prop :=
  ∃ J_1 : Nat → Value → Value → World → Prop, (∃ m, J_1 m (Value.slice none 0 0) (Value.int IntKind.i64 0) w) ∧
    ∀ m_1, ∀ t5_2 : Value, ∀ t6_3 : Value, ∀ w : World, J_1 m_1 t5_2 t6_3 w → Env →
      run1 Tryd.prog Z (Builtin.len_ #[57] 3 #[x0]) w fun t14_4 w =>
      run1 Tryd.prog Z (binOp BinOp.lss 3 t6_3 t14_4) w fun t15_5 w =>
      CondV t15_5 (
        run1 Tryd.prog Z (Instr.indexAt 57 x0 t6_3) w fun t20_6 w =>
        run1 Tryd.prog Z (Instr.loadAt 169 t20_6) w fun t21_7 w =>
        ∃ J_8 : Nat → Value → Value → World → Prop, (∃ m, J_8 m t21_7 (Value.int IntKind.i64 0) w) ∧
          ∀ m_8, ∀ t7_9 : Value, ∀ t8_10 : Value, ∀ w : World, J_8 m_8 t7_9 t8_10 w → Env →
            run1 Tryd.prog Z (binOp BinOp.lss 3 t8_10 x1) w fun t24_11 w =>
            CondV t24_11 (
              run1 Tryd.prog Z (binOp BinOp.sub 3 (Value.int IntKind.i64 (-2000000)) t6_3) w fun t29_12 w =>
              run1 Tryd.prog Z (Instr.build 167 #[(0, t29_12)]) w fun t30_13 w =>
              run1 Tryd.prog Z (Instr.build 171 #[(0, t30_13)]) w fun t31_14 w =>
              run1 Tryd.prog Z (Instr.buildSlice 169 1 #[(0, t31_14)]) w fun t32_15 w =>
              run1 Tryd.prog Z (Builtin.append_ #[169, 169] 169 #[t7_9, t32_15]) w fun t33_16 w =>
              run1 Tryd.prog Z (binOp BinOp.add 3 t8_10 (Value.int IntKind.i64 1)) w fun t26_17 w =>
              ∃ n_8, n_8 < m_8 ∧ J_8 n_8 t33_16 t26_17 w) (
              run1 Tryd.prog Z (Instr.buildSlice 57 1 #[(0, t7_9)]) w fun t36_18 w =>
              run1 Tryd.prog Z (Builtin.append_ #[57, 57] 57 #[t5_2, t36_18]) w fun t37_19 w =>
              run1 Tryd.prog Z (binOp BinOp.add 3 t6_3 (Value.int IntKind.i64 1)) w fun t17_20 w =>
              ∃ n_1, n_1 < m_1 ∧ J_1 n_1 t37_19 t17_20 w)) (
        ∃ J_21 : Nat → Value → World → Prop, (∃ m, J_21 m (Value.int IntKind.i64 0) w) ∧
          ∀ m_21, ∀ t9_22 : Value, ∀ w : World, J_21 m_21 t9_22 w → Env →
            run1 Tryd.prog Z (Builtin.len_ #[57] 3 #[x0]) w fun t40_23 w =>
            run1 Tryd.prog Z (binOp BinOp.lss 3 t9_22 t40_23) w fun t41_24 w =>
            CondV t41_24 (
              run1 Tryd.prog Z (Instr.indexAt 57 x0 t9_22) w fun t46_25 w =>
              run1 Tryd.prog Z (Instr.loadAt 169 t46_25) w fun t47_26 w =>
              run1 Tryd.prog Z (Builtin.len_ #[169] 3 #[t47_26]) w fun t48_27 w =>
              ∃ J_28 : Nat → Value → World → Prop, (∃ m, J_28 m (Value.int IntKind.i64 0) w) ∧
                ∀ m_28, ∀ t11_29 : Value, ∀ w : World, J_28 m_28 t11_29 w → Env →
                  run1 Tryd.prog Z (binOp BinOp.add 3 t48_27 x1) w fun t52_30 w =>
                  run1 Tryd.prog Z (binOp BinOp.lss 3 t11_29 t52_30) w fun t53_31 w =>
                  CondV t53_31 (
                    run1 Tryd.prog Z (binOp BinOp.lss 3 t11_29 t48_27) w fun t58_32 w =>
                    guardW (t58_32) true (fun k => k (x0) w) (fun t60_33 w =>
                    guardW (t58_32) true (fun k => k (t9_22) w) (fun t61_34 w =>
                    guardW (t58_32) true (fun k => run1 Tryd.prog Z (Instr.indexAt 57 t60_33 t61_34) w k) (fun t62_35 w =>
                    guardW (t58_32) true (fun k => run1 Tryd.prog Z (Instr.loadAt 169 t62_35) w k) (fun t63_36 w =>
                    guardW (t58_32) true (fun k => k (t11_29) w) (fun t64_37 w =>
                    guardW (t58_32) true (fun k => run1 Tryd.prog Z (Instr.indexAt 169 t63_36 t64_37) w k) (fun t65_38 w =>
                    guardW (t58_32) true (fun k => run1 Tryd.prog Z (Instr.fieldAt 171 t65_38 0) w k) (fun t66_39 w =>
                    guardW (t58_32) true (fun k => run1 Tryd.prog Z (Instr.fieldAt 167 t66_39 0) w k) (fun t67_40 w =>
                    guardW (t58_32) true (fun k => run1 Tryd.prog Z (Instr.loadAt 2 t67_40) w k) (fun t68_41 w =>
                    guardW (t58_32) true (fun k => k (t9_22) w) (fun t69_42 w =>
                    guardW (t58_32) true (fun k => run1 Tryd.prog Z (binOp BinOp.sub 3 (Value.int IntKind.i64 (-1000000)) t69_42) w k) (fun t70_43 w =>
                    guardW (t58_32) true (fun k => run1 Tryd.prog Z (eqOp BinOp.eql 2 false false t68_41 t70_43) w k) (fun t71_44 w =>
                    guardW (t58_32) true (fun k => run1 Tryd.prog Z (Op.unary UnOp.not t71_44) w k) (fun t72_45 w =>
                    run1 Tryd.prog Z (pickV t58_32 t72_45 (Value.bool false)) w fun t73_46 w =>
                    guardW (t73_46) false (fun k => k (t11_29) w) (fun t75_47 w =>
                    guardW (t73_46) false (fun k => k (t48_27) w) (fun t76_48 w =>
                    guardW (t73_46) false (fun k => run1 Tryd.prog Z (binOp BinOp.lss 3 t75_47 t76_48) w k) (fun t77_49 w =>
                    guardW (t73_46) false (fun k => k (t77_49) w) (fun t78_50 w =>
                    guardW (t78_50) true (fun k => k (t5_2) w) (fun t79_51 w =>
                    guardW (t78_50) true (fun k => k (t9_22) w) (fun t80_52 w =>
                    guardW (t78_50) true (fun k => run1 Tryd.prog Z (Instr.indexAt 57 t79_51 t80_52) w k) (fun t81_53 w =>
                    guardW (t78_50) true (fun k => run1 Tryd.prog Z (Instr.loadAt 169 t81_53) w k) (fun t82_54 w =>
                    guardW (t78_50) true (fun k => k (t11_29) w) (fun t83_55 w =>
                    guardW (t78_50) true (fun k => run1 Tryd.prog Z (Instr.indexAt 169 t82_54 t83_55) w k) (fun t84_56 w =>
                    guardW (t78_50) true (fun k => run1 Tryd.prog Z (Instr.fieldAt 171 t84_56 0) w k) (fun t85_57 w =>
                    guardW (t78_50) true (fun k => run1 Tryd.prog Z (Instr.fieldAt 167 t85_57 0) w k) (fun t86_58 w =>
                    guardW (t78_50) true (fun k => run1 Tryd.prog Z (Instr.loadAt 2 t86_58) w k) (fun t87_59 w =>
                    guardW (t78_50) true (fun k => k (t9_22) w) (fun t88_60 w =>
                    guardW (t78_50) true (fun k => run1 Tryd.prog Z (binOp BinOp.sub 3 (Value.int IntKind.i64 (-1000000)) t88_60) w k) (fun t89_61 w =>
                    guardW (t78_50) true (fun k => run1 Tryd.prog Z (eqOp BinOp.eql 2 false false t87_59 t89_61) w k) (fun t90_62 w =>
                    guardW (t78_50) true (fun k => run1 Tryd.prog Z (Op.unary UnOp.not t90_62) w k) (fun t91_63 w =>
                    guardW (t73_46) false (fun k => run1 Tryd.prog Z (pickV t78_50 t91_63 (Value.bool false)) w k) (fun t92_64 w =>
                    run1 Tryd.prog Z (pickV t73_46 (Value.bool true) t92_64) w fun t93_65 w =>
                    guardW (t93_65) false (fun k => k (t11_29) w) (fun t95_66 w =>
                    guardW (t93_65) false (fun k => k (t48_27) w) (fun t96_67 w =>
                    guardW (t93_65) false (fun k => run1 Tryd.prog Z (binOp BinOp.geq 3 t95_66 t96_67) w k) (fun t97_68 w =>
                    guardW (t93_65) false (fun k => k (t97_68) w) (fun t98_69 w =>
                    guardW (t98_69) true (fun k => k (t5_2) w) (fun t99_70 w =>
                    guardW (t98_69) true (fun k => k (t9_22) w) (fun t100_71 w =>
                    guardW (t98_69) true (fun k => run1 Tryd.prog Z (Instr.indexAt 57 t99_70 t100_71) w k) (fun t101_72 w =>
                    guardW (t98_69) true (fun k => run1 Tryd.prog Z (Instr.loadAt 169 t101_72) w k) (fun t102_73 w =>
                    guardW (t98_69) true (fun k => k (t11_29) w) (fun t103_74 w =>
                    guardW (t98_69) true (fun k => run1 Tryd.prog Z (Instr.indexAt 169 t102_73 t103_74) w k) (fun t104_75 w =>
                    guardW (t98_69) true (fun k => run1 Tryd.prog Z (Instr.fieldAt 171 t104_75 0) w k) (fun t105_76 w =>
                    guardW (t98_69) true (fun k => run1 Tryd.prog Z (Instr.fieldAt 167 t105_76 0) w k) (fun t106_77 w =>
                    guardW (t98_69) true (fun k => run1 Tryd.prog Z (Instr.loadAt 2 t106_77) w k) (fun t107_78 w =>
                    guardW (t98_69) true (fun k => k (t9_22) w) (fun t108_79 w =>
                    guardW (t98_69) true (fun k => run1 Tryd.prog Z (binOp BinOp.sub 3 (Value.int IntKind.i64 (-2000000)) t108_79) w k) (fun t109_80 w =>
                    guardW (t98_69) true (fun k => run1 Tryd.prog Z (eqOp BinOp.eql 2 false false t107_78 t109_80) w k) (fun t110_81 w =>
                    guardW (t98_69) true (fun k => run1 Tryd.prog Z (Op.unary UnOp.not t110_81) w k) (fun t111_82 w =>
                    guardW (t93_65) false (fun k => run1 Tryd.prog Z (pickV t98_69 t111_82 (Value.bool false)) w k) (fun t112_83 w =>
                    run1 Tryd.prog Z (pickV t93_65 (Value.bool true) t112_83) w fun t113_84 w =>
                    CondV t113_84 (
                      Q (Value.bool false) w) (
                      run1 Tryd.prog Z (binOp BinOp.add 3 t11_29 (Value.int IntKind.i64 1)) w fun t55_85 w =>
                      ∃ n_28, n_28 < m_28 ∧ J_28 n_28 t55_85 w)) w) w) w) w) w) w) w) w) w) w) w) w) w) w) w) w) w) w) w) w) w) w) w) w) w) w) w) w) w) w) w) w) w) w) w) w) w) w) w) w) w) w) w) w) w) w) w) w) w) (
                    run1 Tryd.prog Z (binOp BinOp.add 3 t9_22 (Value.int IntKind.i64 1)) w fun t43_86 w =>
                    ∃ n_21, n_21 < m_21 ∧ J_21 n_21 t43_86 w)) (
              Q (Value.bool true) w))
noncomputable def f75.code : Code := match Tryd.f75.body with | some c => c | none => .skip
def f75.an : An := (.sq .leaf (.sq .leaf (.sq (.sq .leaf (.bl (.lp [5, 6] [5, 6, 7, 8, 12, 13, 14, 15, 16, 17, 18, 19, 20, 21, 22, 23, 24, 25, 26, 27, 28, 29, 30, 31, 32, 33, 34, 35, 36, 37] (.sq (.sq .leaf (.cn .leaf .leaf)) (.sq (.bl (.sq .leaf (.sq (.sq .leaf (.bl (.lp [7, 8] [7, 8, 22, 23, 24, 25, 26, 27, 28, 29, 30, 31, 32, 33] (.sq (.sq .leaf (.cn .leaf .leaf)) (.sq (.bl .leaf) .leaf))))) .leaf))) .leaf))))) (.sq (.sq .leaf (.bl (.lp [9] [4, 9, 10, 11, 38, 39, 40, 41, 42, 43, 44, 45, 46, 47, 48, 49, 50, 51, 52, 53, 54, 55, 56, 57, 58, 59, 60, 61, 62, 63, 64, 65, 66, 67, 68, 69, 70, 71, 72, 73, 74, 75, 76, 77, 78, 79, 80, 81, 82, 83, 84, 85, 86, 87, 88, 89, 90, 91, 92, 93, 94, 95, 96, 97, 98, 99, 100, 101, 102, 103, 104, 105, 106, 107, 108, 109, 110, 111, 112, 113] (.sq (.sq .leaf (.cn .leaf .leaf)) (.sq (.bl (.sq .leaf (.sq .leaf (.bl (.lp [11] [4, 11, 49, 50, 51, 52, 53, 54, 55, 56, 57, 58, 59, 60, 61, 62, 63, 64, 65, 66, 67, 68, 69, 70, 71, 72, 73, 74, 75, 76, 77, 78, 79, 80, 81, 82, 83, 84, 85, 86, 87, 88, 89, 90, 91, 92, 93, 94, 95, 96, 97, 98, 99, 100, 101, 102, 103, 104, 105, 106, 107, 108, 109, 110, 111, 112, 113] (.sq (.sq .leaf (.cn .leaf .leaf)) (.sq (.bl (.sq .leaf (.cn (.sq .leaf .leaf) .leaf))) .leaf))))))) .leaf))))) (.sq .leaf .leaf)))))
theorem f75.body_eq : Tryd.f75.body = some f75.code := by kernel_rfl
theorem f75.shape (Z : List PanicEntry → World → Prop) (x0 x1 : Value) (w : World) (Q : Value → World → Prop) : vc drawD Tryd.prog 114 Z [] f75.an f75.code (fnQ Tryd.prog 114 Tryd.f75.results Q) (argEnv [x0, x1]) w = f75.sh Z x0 x1 w Q := by kernel_rfl
theorem f75.enters : ∀ f, f ∈ ([] : List Nat) → Enters Tryd.prog f := by
  intro f hf
  cases hf
theorem f75.calls {Z : List PanicEntry → World → Prop} {x0 x1 : Value} {w : World} {Q : Value → World → Prop} (h : f75.sh Z x0 x1 w Q) : CallV Tryd.prog Z 75 #[x0, x1] w Q :=
  calls_of_vcn drawD_sound (Q := Q) (n := 114) (rs := Tryd.f75.results) (an := f75.an) (c := f75.code) (cal := []) (args := [x0, x1]) Tryd.func75 (by kernel_rfl) rfl f75.body_eq follows (Nat.le_of_ble_eq_true (by kernel_rfl)) (enters_of_all f75.enters) ((f75.shape Z x0 x1 w Q).mpr h)

/-! ### 76: lagoon/lagoonref00.grownFacts -/
def f76.sh (Z : List PanicEntry → World → Prop) (x0 x1 : Value) (w : World) (Q : Value → World → Prop) : Prop :=
  ∃ J_1 : Nat → Value → Value → World → Prop, (∃ m, J_1 m (Value.slice none 0 0) (Value.int IntKind.i64 0) w) ∧
    ∀ m_1, ∀ t5_2 : Value, ∀ t6_3 : Value, ∀ w : World, J_1 m_1 t5_2 t6_3 w → Env →
      run1 Tryd.prog Z (Builtin.len_ #[58] 3 #[x0]) w fun t14_4 w =>
      run1 Tryd.prog Z (binOp BinOp.lss 3 t6_3 t14_4) w fun t15_5 w =>
      CondV t15_5 (
        run1 Tryd.prog Z (Instr.indexAt 58 x0 t6_3) w fun t20_6 w =>
        run1 Tryd.prog Z (Instr.loadAt 173 t20_6) w fun t21_7 w =>
        ∃ J_8 : Nat → Value → Value → World → Prop, (∃ m, J_8 m t21_7 (Value.int IntKind.i64 0) w) ∧
          ∀ m_8, ∀ t7_9 : Value, ∀ t8_10 : Value, ∀ w : World, J_8 m_8 t7_9 t8_10 w → Env →
            run1 Tryd.prog Z (binOp BinOp.lss 3 t8_10 x1) w fun t24_11 w =>
            CondV t24_11 (
              run1 Tryd.prog Z (binOp BinOp.sub 3 (Value.int IntKind.i64 (-2000000)) t6_3) w fun t29_12 w =>
              run1 Tryd.prog Z (Instr.build 175 #[(6, t29_12)]) w fun t30_13 w =>
              run1 Tryd.prog Z (Instr.buildSlice 173 1 #[(0, t30_13)]) w fun t31_14 w =>
              run1 Tryd.prog Z (Builtin.append_ #[173, 173] 173 #[t7_9, t31_14]) w fun t32_15 w =>
              run1 Tryd.prog Z (binOp BinOp.add 3 t8_10 (Value.int IntKind.i64 1)) w fun t26_16 w =>
              ∃ n_8, n_8 < m_8 ∧ J_8 n_8 t32_15 t26_16 w) (
              run1 Tryd.prog Z (Instr.buildSlice 58 1 #[(0, t7_9)]) w fun t35_17 w =>
              run1 Tryd.prog Z (Builtin.append_ #[58, 58] 58 #[t5_2, t35_17]) w fun t36_18 w =>
              run1 Tryd.prog Z (binOp BinOp.add 3 t6_3 (Value.int IntKind.i64 1)) w fun t17_19 w =>
              ∃ n_1, n_1 < m_1 ∧ J_1 n_1 t36_18 t17_19 w)) (
        ∃ J_20 : Nat → Value → World → Prop, (∃ m, J_20 m (Value.int IntKind.i64 0) w) ∧
          ∀ m_20, ∀ t9_21 : Value, ∀ w : World, J_20 m_20 t9_21 w → Env →
            run1 Tryd.prog Z (Builtin.len_ #[58] 3 #[x0]) w fun t39_22 w =>
            run1 Tryd.prog Z (binOp BinOp.lss 3 t9_21 t39_22) w fun t40_23 w =>
            CondV t40_23 (
              run1 Tryd.prog Z (Instr.indexAt 58 x0 t9_21) w fun t45_24 w =>
              run1 Tryd.prog Z (Instr.loadAt 173 t45_24) w fun t46_25 w =>
              run1 Tryd.prog Z (Builtin.len_ #[173] 3 #[t46_25]) w fun t47_26 w =>
              ∃ J_27 : Nat → Value → World → Prop, (∃ m, J_27 m (Value.int IntKind.i64 0) w) ∧
                ∀ m_27, ∀ t11_28 : Value, ∀ w : World, J_27 m_27 t11_28 w → Env →
                  run1 Tryd.prog Z (binOp BinOp.add 3 t47_26 x1) w fun t51_29 w =>
                  run1 Tryd.prog Z (binOp BinOp.lss 3 t11_28 t51_29) w fun t52_30 w =>
                  CondV t52_30 (
                    run1 Tryd.prog Z (binOp BinOp.lss 3 t11_28 t47_26) w fun t57_31 w =>
                    guardW (t57_31) true (fun k => k (x0) w) (fun t59_32 w =>
                    guardW (t57_31) true (fun k => k (t9_21) w) (fun t60_33 w =>
                    guardW (t57_31) true (fun k => run1 Tryd.prog Z (Instr.indexAt 58 t59_32 t60_33) w k) (fun t61_34 w =>
                    guardW (t57_31) true (fun k => run1 Tryd.prog Z (Instr.loadAt 173 t61_34) w k) (fun t62_35 w =>
                    guardW (t57_31) true (fun k => k (t11_28) w) (fun t63_36 w =>
                    guardW (t57_31) true (fun k => run1 Tryd.prog Z (Instr.indexAt 173 t62_35 t63_36) w k) (fun t64_37 w =>
                    guardW (t57_31) true (fun k => run1 Tryd.prog Z (Instr.fieldAt 175 t64_37 6) w k) (fun t65_38 w =>
                    guardW (t57_31) true (fun k => run1 Tryd.prog Z (Instr.loadAt 2 t65_38) w k) (fun t66_39 w =>
                    guardW (t57_31) true (fun k => k (t9_21) w) (fun t67_40 w =>
                    guardW (t57_31) true (fun k => run1 Tryd.prog Z (binOp BinOp.sub 3 (Value.int IntKind.i64 (-1000000)) t67_40) w k) (fun t68_41 w =>
                    guardW (t57_31) true (fun k => run1 Tryd.prog Z (eqOp BinOp.eql 2 false false t66_39 t68_41) w k) (fun t69_42 w =>
                    guardW (t57_31) true (fun k => run1 Tryd.prog Z (Op.unary UnOp.not t69_42) w k) (fun t70_43 w =>
                    run1 Tryd.prog Z (pickV t57_31 t70_43 (Value.bool false)) w fun t71_44 w =>
                    guardW (t71_44) false (fun k => k (t11_28) w) (fun t73_45 w =>
                    guardW (t71_44) false (fun k => k (t47_26) w) (fun t74_46 w =>
                    guardW (t71_44) false (fun k => run1 Tryd.prog Z (binOp BinOp.lss 3 t73_45 t74_46) w k) (fun t75_47 w =>
                    guardW (t71_44) false (fun k => k (t75_47) w) (fun t76_48 w =>
                    guardW (t76_48) true (fun k => k (t5_2) w) (fun t77_49 w =>
                    guardW (t76_48) true (fun k => k (t9_21) w) (fun t78_50 w =>
                    guardW (t76_48) true (fun k => run1 Tryd.prog Z (Instr.indexAt 58 t77_49 t78_50) w k) (fun t79_51 w =>
                    guardW (t76_48) true (fun k => run1 Tryd.prog Z (Instr.loadAt 173 t79_51) w k) (fun t80_52 w =>
                    guardW (t76_48) true (fun k => k (t11_28) w) (fun t81_53 w =>
                    guardW (t76_48) true (fun k => run1 Tryd.prog Z (Instr.indexAt 173 t80_52 t81_53) w k) (fun t82_54 w =>
                    guardW (t76_48) true (fun k => run1 Tryd.prog Z (Instr.fieldAt 175 t82_54 6) w k) (fun t83_55 w =>
                    guardW (t76_48) true (fun k => run1 Tryd.prog Z (Instr.loadAt 2 t83_55) w k) (fun t84_56 w =>
                    guardW (t76_48) true (fun k => k (t9_21) w) (fun t85_57 w =>
                    guardW (t76_48) true (fun k => run1 Tryd.prog Z (binOp BinOp.sub 3 (Value.int IntKind.i64 (-1000000)) t85_57) w k) (fun t86_58 w =>
                    guardW (t76_48) true (fun k => run1 Tryd.prog Z (eqOp BinOp.eql 2 false false t84_56 t86_58) w k) (fun t87_59 w =>
                    guardW (t76_48) true (fun k => run1 Tryd.prog Z (Op.unary UnOp.not t87_59) w k) (fun t88_60 w =>
                    guardW (t71_44) false (fun k => run1 Tryd.prog Z (pickV t76_48 t88_60 (Value.bool false)) w k) (fun t89_61 w =>
                    run1 Tryd.prog Z (pickV t71_44 (Value.bool true) t89_61) w fun t90_62 w =>
                    guardW (t90_62) false (fun k => k (t11_28) w) (fun t92_63 w =>
                    guardW (t90_62) false (fun k => k (t47_26) w) (fun t93_64 w =>
                    guardW (t90_62) false (fun k => run1 Tryd.prog Z (binOp BinOp.geq 3 t92_63 t93_64) w k) (fun t94_65 w =>
                    guardW (t90_62) false (fun k => k (t94_65) w) (fun t95_66 w =>
                    guardW (t95_66) true (fun k => k (t5_2) w) (fun t96_67 w =>
                    guardW (t95_66) true (fun k => k (t9_21) w) (fun t97_68 w =>
                    guardW (t95_66) true (fun k => run1 Tryd.prog Z (Instr.indexAt 58 t96_67 t97_68) w k) (fun t98_69 w =>
                    guardW (t95_66) true (fun k => run1 Tryd.prog Z (Instr.loadAt 173 t98_69) w k) (fun t99_70 w =>
                    guardW (t95_66) true (fun k => k (t11_28) w) (fun t100_71 w =>
                    guardW (t95_66) true (fun k => run1 Tryd.prog Z (Instr.indexAt 173 t99_70 t100_71) w k) (fun t101_72 w =>
                    guardW (t95_66) true (fun k => run1 Tryd.prog Z (Instr.fieldAt 175 t101_72 6) w k) (fun t102_73 w =>
                    guardW (t95_66) true (fun k => run1 Tryd.prog Z (Instr.loadAt 2 t102_73) w k) (fun t103_74 w =>
                    guardW (t95_66) true (fun k => k (t9_21) w) (fun t104_75 w =>
                    guardW (t95_66) true (fun k => run1 Tryd.prog Z (binOp BinOp.sub 3 (Value.int IntKind.i64 (-2000000)) t104_75) w k) (fun t105_76 w =>
                    guardW (t95_66) true (fun k => run1 Tryd.prog Z (eqOp BinOp.eql 2 false false t103_74 t105_76) w k) (fun t106_77 w =>
                    guardW (t95_66) true (fun k => run1 Tryd.prog Z (Op.unary UnOp.not t106_77) w k) (fun t107_78 w =>
                    guardW (t90_62) false (fun k => run1 Tryd.prog Z (pickV t95_66 t107_78 (Value.bool false)) w k) (fun t108_79 w =>
                    run1 Tryd.prog Z (pickV t90_62 (Value.bool true) t108_79) w fun t109_80 w =>
                    CondV t109_80 (
                      Q (Value.bool false) w) (
                      run1 Tryd.prog Z (binOp BinOp.add 3 t11_28 (Value.int IntKind.i64 1)) w fun t54_81 w =>
                      ∃ n_27, n_27 < m_27 ∧ J_27 n_27 t54_81 w)) w) w) w) w) w) w) w) w) w) w) w) w) w) w) w) w) w) w) w) w) w) w) w) w) w) w) w) w) w) w) w) w) w) w) w) w) w) w) w) w) w) w) w) w) w) w) (
                    run1 Tryd.prog Z (binOp BinOp.add 3 t9_21 (Value.int IntKind.i64 1)) w fun t42_82 w =>
                    ∃ n_20, n_20 < m_20 ∧ J_20 n_20 t42_82 w)) (
              Q (Value.bool true) w))
noncomputable def f76.code : Code := match Tryd.f76.body with | some c => c | none => .skip
def f76.an : An := (.sq .leaf (.sq .leaf (.sq (.sq .leaf (.bl (.lp [5, 6] [5, 6, 7, 8, 12, 13, 14, 15, 16, 17, 18, 19, 20, 21, 22, 23, 24, 25, 26, 27, 28, 29, 30, 31, 32, 33, 34, 35, 36] (.sq (.sq .leaf (.cn .leaf .leaf)) (.sq (.bl (.sq .leaf (.sq (.sq .leaf (.bl (.lp [7, 8] [7, 8, 22, 23, 24, 25, 26, 27, 28, 29, 30, 31, 32] (.sq (.sq .leaf (.cn .leaf .leaf)) (.sq (.bl .leaf) .leaf))))) .leaf))) .leaf))))) (.sq (.sq .leaf (.bl (.lp [9] [4, 9, 10, 11, 37, 38, 39, 40, 41, 42, 43, 44, 45, 46, 47, 48, 49, 50, 51, 52, 53, 54, 55, 56, 57, 58, 59, 60, 61, 62, 63, 64, 65, 66, 67, 68, 69, 70, 71, 72, 73, 74, 75, 76, 77, 78, 79, 80, 81, 82, 83, 84, 85, 86, 87, 88, 89, 90, 91, 92, 93, 94, 95, 96, 97, 98, 99, 100, 101, 102, 103, 104, 105, 106, 107, 108, 109] (.sq (.sq .leaf (.cn .leaf .leaf)) (.sq (.bl (.sq .leaf (.sq .leaf (.bl (.lp [11] [4, 11, 48, 49, 50, 51, 52, 53, 54, 55, 56, 57, 58, 59, 60, 61, 62, 63, 64, 65, 66, 67, 68, 69, 70, 71, 72, 73, 74, 75, 76, 77, 78, 79, 80, 81, 82, 83, 84, 85, 86, 87, 88, 89, 90, 91, 92, 93, 94, 95, 96, 97, 98, 99, 100, 101, 102, 103, 104, 105, 106, 107, 108, 109] (.sq (.sq .leaf (.cn .leaf .leaf)) (.sq (.bl (.sq .leaf (.cn (.sq .leaf .leaf) .leaf))) .leaf))))))) .leaf))))) (.sq .leaf .leaf)))))
theorem f76.body_eq : Tryd.f76.body = some f76.code := by kernel_rfl
theorem f76.shape (Z : List PanicEntry → World → Prop) (x0 x1 : Value) (w : World) (Q : Value → World → Prop) : vc drawD Tryd.prog 110 Z [] f76.an f76.code (fnQ Tryd.prog 110 Tryd.f76.results Q) (argEnv [x0, x1]) w = f76.sh Z x0 x1 w Q := by kernel_rfl
theorem f76.enters : ∀ f, f ∈ ([] : List Nat) → Enters Tryd.prog f := by
  intro f hf
  cases hf
theorem f76.calls {Z : List PanicEntry → World → Prop} {x0 x1 : Value} {w : World} {Q : Value → World → Prop} (h : f76.sh Z x0 x1 w Q) : CallV Tryd.prog Z 76 #[x0, x1] w Q :=
  calls_of_vcn drawD_sound (Q := Q) (n := 110) (rs := Tryd.f76.results) (an := f76.an) (c := f76.code) (cal := []) (args := [x0, x1]) Tryd.func76 (by kernel_rfl) rfl f76.body_eq follows (Nat.le_of_ble_eq_true (by kernel_rfl)) (enters_of_all f76.enters) ((f76.shape Z x0 x1 w Q).mpr h)

/-! ### 77: lagoon/lagoonref00.grownSends -/
def f77.sh (Z : List PanicEntry → World → Prop) (x0 x1 : Value) (w : World) (Q : Value → World → Prop) : Prop :=
  ∃ J_1 : Nat → Value → Value → World → Prop, (∃ m, J_1 m (Value.slice none 0 0) (Value.int IntKind.i64 0) w) ∧
    ∀ m_1, ∀ t5_2 : Value, ∀ t6_3 : Value, ∀ w : World, J_1 m_1 t5_2 t6_3 w → Env →
      run1 Tryd.prog Z (Builtin.len_ #[59] 3 #[x0]) w fun t14_4 w =>
      run1 Tryd.prog Z (binOp BinOp.lss 3 t6_3 t14_4) w fun t15_5 w =>
      CondV t15_5 (
        run1 Tryd.prog Z (Instr.indexAt 59 x0 t6_3) w fun t20_6 w =>
        run1 Tryd.prog Z (Instr.loadAt 177 t20_6) w fun t21_7 w =>
        ∃ J_8 : Nat → Value → Value → World → Prop, (∃ m, J_8 m t21_7 (Value.int IntKind.i64 0) w) ∧
          ∀ m_8, ∀ t7_9 : Value, ∀ t8_10 : Value, ∀ w : World, J_8 m_8 t7_9 t8_10 w → Env →
            run1 Tryd.prog Z (binOp BinOp.lss 3 t8_10 x1) w fun t24_11 w =>
            CondV t24_11 (
              run1 Tryd.prog Z (binOp BinOp.sub 3 (Value.int IntKind.i64 (-2000000)) t6_3) w fun t29_12 w =>
              CallV Tryd.prog Z 60 #[t29_12] w fun t30_13 w =>
              run1 Tryd.prog Z (convert 9 22 t30_13) w fun t31_14 w =>
              run1 Tryd.prog Z (Instr.build 179 #[(1, t31_14)]) w fun t32_15 w =>
              run1 Tryd.prog Z (Instr.buildSlice 177 1 #[(0, t32_15)]) w fun t33_16 w =>
              run1 Tryd.prog Z (Builtin.append_ #[177, 177] 177 #[t7_9, t33_16]) w fun t34_17 w =>
              run1 Tryd.prog Z (binOp BinOp.add 3 t8_10 (Value.int IntKind.i64 1)) w fun t26_18 w =>
              ∃ n_8, n_8 < m_8 ∧ J_8 n_8 t34_17 t26_18 w) (
              run1 Tryd.prog Z (Instr.buildSlice 59 1 #[(0, t7_9)]) w fun t37_19 w =>
              run1 Tryd.prog Z (Builtin.append_ #[59, 59] 59 #[t5_2, t37_19]) w fun t38_20 w =>
              run1 Tryd.prog Z (binOp BinOp.add 3 t6_3 (Value.int IntKind.i64 1)) w fun t17_21 w =>
              ∃ n_1, n_1 < m_1 ∧ J_1 n_1 t38_20 t17_21 w)) (
        ∃ J_22 : Nat → Value → World → Prop, (∃ m, J_22 m (Value.int IntKind.i64 0) w) ∧
          ∀ m_22, ∀ t9_23 : Value, ∀ w : World, J_22 m_22 t9_23 w → Env →
            run1 Tryd.prog Z (Builtin.len_ #[59] 3 #[x0]) w fun t41_24 w =>
            run1 Tryd.prog Z (binOp BinOp.lss 3 t9_23 t41_24) w fun t42_25 w =>
            CondV t42_25 (
              run1 Tryd.prog Z (Instr.indexAt 59 x0 t9_23) w fun t47_26 w =>
              run1 Tryd.prog Z (Instr.loadAt 177 t47_26) w fun t48_27 w =>
              run1 Tryd.prog Z (Builtin.len_ #[177] 3 #[t48_27]) w fun t49_28 w =>
              ∃ J_29 : Nat → Value → World → Prop, (∃ m, J_29 m (Value.int IntKind.i64 0) w) ∧
                ∀ m_29, ∀ t11_30 : Value, ∀ w : World, J_29 m_29 t11_30 w → Env →
                  run1 Tryd.prog Z (binOp BinOp.add 3 t49_28 x1) w fun t53_31 w =>
                  run1 Tryd.prog Z (binOp BinOp.lss 3 t11_30 t53_31) w fun t54_32 w =>
                  CondV t54_32 (
                    Drawn w fun w =>
                    Pure1 Tryd.prog (binOp BinOp.lss 3 t11_30 t49_28) fun t59_33 =>
                    guardV (t59_33) true (fun k => k (x0)) (fun t61_34 =>
                    guardV (t59_33) true (fun k => k (t9_23)) (fun t62_35 =>
                    guardV (t59_33) true (fun k => Pure1 Tryd.prog (Instr.indexAt 59 t61_34 t62_35) k) (fun t63_36 =>
                    guardV (t59_33) true (fun k => Read1 Tryd.prog (Instr.loadAt 177 t63_36) w k) (fun t64_37 =>
                    guardV (t59_33) true (fun k => k (t11_30)) (fun t65_38 =>
                    guardV (t59_33) true (fun k => Pure1 Tryd.prog (Instr.indexAt 177 t64_37 t65_38) k) (fun t66_39 =>
                    guardV (t59_33) true (fun k => Pure1 Tryd.prog (Instr.fieldAt 179 t66_39 1) k) (fun t67_40 =>
                    guardV (t59_33) true (fun k => Read1 Tryd.prog (Instr.loadAt 22 t67_40) w k) (fun t68_41 =>
                    guardV (t59_33) true (fun k => Read1 Tryd.prog (convert 22 9 t68_41) w k) (fun t69_42 =>
                    guardV (t59_33) true (fun k => k (t9_23)) (fun t70_43 =>
                    guardV (t59_33) true (fun k => Pure1 Tryd.prog (binOp BinOp.sub 3 (Value.int IntKind.i64 (-1000000)) t70_43) k) (fun t71_44 =>
                    guardW (t59_33) true (fun k => CallV Tryd.prog Z 60 #[t71_44] w k) (fun t72_45 w =>
                      Still Tryd.prog (gSem (t59_33) true (nx (convert 22 9 t68_41))) t69_42 w <|
                      Still Tryd.prog (gSem (t59_33) true (nx (Instr.loadAt 22 t67_40))) t68_41 w <|
                      Still Tryd.prog (gSem (t59_33) true (nx (Instr.loadAt 177 t63_36))) t64_37 w <|
                      guardV (t59_33) true (fun k => Pure1 Tryd.prog (eqOp BinOp.eql 9 false false t69_42 t72_45) k) (fun t73_46 =>
                      guardV (t59_33) true (fun k => Pure1 Tryd.prog (Op.unary UnOp.not t73_46) k) (fun t74_47 =>
                      Pure1 Tryd.prog (pickV t59_33 t74_47 (Value.bool false)) fun t75_48 =>
                      guardV (t75_48) false (fun k => k (t11_30)) (fun t77_49 =>
                      guardV (t75_48) false (fun k => k (t49_28)) (fun t78_50 =>
                      guardV (t75_48) false (fun k => Pure1 Tryd.prog (binOp BinOp.lss 3 t77_49 t78_50) k) (fun t79_51 =>
                      guardV (t75_48) false (fun k => k (t79_51)) (fun t80_52 =>
                      guardV (t80_52) true (fun k => k (t5_2)) (fun t81_53 =>
                      guardV (t80_52) true (fun k => k (t9_23)) (fun t82_54 =>
                      guardV (t80_52) true (fun k => Pure1 Tryd.prog (Instr.indexAt 59 t81_53 t82_54) k) (fun t83_55 =>
                      guardV (t80_52) true (fun k => Read1 Tryd.prog (Instr.loadAt 177 t83_55) w k) (fun t84_56 =>
                      guardV (t80_52) true (fun k => k (t11_30)) (fun t85_57 =>
                      guardV (t80_52) true (fun k => Pure1 Tryd.prog (Instr.indexAt 177 t84_56 t85_57) k) (fun t86_58 =>
                      guardV (t80_52) true (fun k => Pure1 Tryd.prog (Instr.fieldAt 179 t86_58 1) k) (fun t87_59 =>
                      guardV (t80_52) true (fun k => Read1 Tryd.prog (Instr.loadAt 22 t87_59) w k) (fun t88_60 =>
                      guardV (t80_52) true (fun k => Read1 Tryd.prog (convert 22 9 t88_60) w k) (fun t89_61 =>
                      guardV (t80_52) true (fun k => k (t9_23)) (fun t90_62 =>
                      guardV (t80_52) true (fun k => Pure1 Tryd.prog (binOp BinOp.sub 3 (Value.int IntKind.i64 (-1000000)) t90_62) k) (fun t91_63 =>
                      guardW (t80_52) true (fun k => CallV Tryd.prog Z 60 #[t91_63] w k) (fun t92_64 w =>
                        Still Tryd.prog (gSem (t80_52) true (nx (convert 22 9 t88_60))) t89_61 w <|
                        Still Tryd.prog (gSem (t80_52) true (nx (Instr.loadAt 22 t87_59))) t88_60 w <|
                        Still Tryd.prog (gSem (t80_52) true (nx (Instr.loadAt 177 t83_55))) t84_56 w <|
                        Still Tryd.prog (gSem (t59_33) true (nx (convert 22 9 t68_41))) t69_42 w <|
                        Still Tryd.prog (gSem (t59_33) true (nx (Instr.loadAt 22 t67_40))) t68_41 w <|
                        Still Tryd.prog (gSem (t59_33) true (nx (Instr.loadAt 177 t63_36))) t64_37 w <|
                        guardV (t80_52) true (fun k => Pure1 Tryd.prog (eqOp BinOp.eql 9 false false t89_61 t92_64) k) (fun t93_65 =>
                        guardV (t80_52) true (fun k => Pure1 Tryd.prog (Op.unary UnOp.not t93_65) k) (fun t94_66 =>
                        guardV (t75_48) false (fun k => Pure1 Tryd.prog (pickV t80_52 t94_66 (Value.bool false)) k) (fun t95_67 =>
                        Pure1 Tryd.prog (pickV t75_48 (Value.bool true) t95_67) fun t96_68 =>
                        guardV (t96_68) false (fun k => k (t11_30)) (fun t98_69 =>
                        guardV (t96_68) false (fun k => k (t49_28)) (fun t99_70 =>
                        guardV (t96_68) false (fun k => Pure1 Tryd.prog (binOp BinOp.geq 3 t98_69 t99_70) k) (fun t100_71 =>
                        guardV (t96_68) false (fun k => k (t100_71)) (fun t101_72 =>
                        guardV (t101_72) true (fun k => k (t5_2)) (fun t102_73 =>
                        guardV (t101_72) true (fun k => k (t9_23)) (fun t103_74 =>
                        guardV (t101_72) true (fun k => Pure1 Tryd.prog (Instr.indexAt 59 t102_73 t103_74) k) (fun t104_75 =>
                        guardV (t101_72) true (fun k => Read1 Tryd.prog (Instr.loadAt 177 t104_75) w k) (fun t105_76 =>
                        guardV (t101_72) true (fun k => k (t11_30)) (fun t106_77 =>
                        guardV (t101_72) true (fun k => Pure1 Tryd.prog (Instr.indexAt 177 t105_76 t106_77) k) (fun t107_78 =>
                        guardV (t101_72) true (fun k => Pure1 Tryd.prog (Instr.fieldAt 179 t107_78 1) k) (fun t108_79 =>
                        guardV (t101_72) true (fun k => Read1 Tryd.prog (Instr.loadAt 22 t108_79) w k) (fun t109_80 =>
                        guardV (t101_72) true (fun k => Read1 Tryd.prog (convert 22 9 t109_80) w k) (fun t110_81 =>
                        guardV (t101_72) true (fun k => k (t9_23)) (fun t111_82 =>
                        guardV (t101_72) true (fun k => Pure1 Tryd.prog (binOp BinOp.sub 3 (Value.int IntKind.i64 (-2000000)) t111_82) k) (fun t112_83 =>
                        guardW (t101_72) true (fun k => CallV Tryd.prog Z 60 #[t112_83] w k) (fun t113_84 w =>
                          Still Tryd.prog (gSem (t101_72) true (nx (convert 22 9 t109_80))) t110_81 w <|
                          Still Tryd.prog (gSem (t101_72) true (nx (Instr.loadAt 22 t108_79))) t109_80 w <|
                          Still Tryd.prog (gSem (t101_72) true (nx (Instr.loadAt 177 t104_75))) t105_76 w <|
                          Still Tryd.prog (gSem (t80_52) true (nx (convert 22 9 t88_60))) t89_61 w <|
                          Still Tryd.prog (gSem (t80_52) true (nx (Instr.loadAt 22 t87_59))) t88_60 w <|
                          Still Tryd.prog (gSem (t80_52) true (nx (Instr.loadAt 177 t83_55))) t84_56 w <|
                          Still Tryd.prog (gSem (t59_33) true (nx (convert 22 9 t68_41))) t69_42 w <|
                          Still Tryd.prog (gSem (t59_33) true (nx (Instr.loadAt 22 t67_40))) t68_41 w <|
                          Still Tryd.prog (gSem (t59_33) true (nx (Instr.loadAt 177 t63_36))) t64_37 w <|
                          guardV (t101_72) true (fun k => Pure1 Tryd.prog (eqOp BinOp.eql 9 false false t110_81 t113_84) k) (fun t114_85 =>
                          guardV (t101_72) true (fun k => Pure1 Tryd.prog (Op.unary UnOp.not t114_85) k) (fun t115_86 =>
                          guardV (t96_68) false (fun k => Pure1 Tryd.prog (pickV t101_72 t115_86 (Value.bool false)) k) (fun t116_87 =>
                          Pure1 Tryd.prog (pickV t96_68 (Value.bool true) t116_87) fun t117_88 =>
                          CondV t117_88 (
                            Q (Value.bool false) w) (
                            run1 Tryd.prog Z (binOp BinOp.add 3 t11_30 (Value.int IntKind.i64 1)) w fun t56_89 w =>
                            ∃ n_29, n_29 < m_29 ∧ J_29 n_29 t56_89 w))))) w))))))))))))))))))) w)))))))))))))))))) w)))))))))))) (
                    run1 Tryd.prog Z (binOp BinOp.add 3 t9_23 (Value.int IntKind.i64 1)) w fun t44_90 w =>
                    ∃ n_22, n_22 < m_22 ∧ J_22 n_22 t44_90 w)) (
              Q (Value.bool true) w))
noncomputable def f77.code : Code := match Tryd.f77.body with | some c => c | none => .skip
def f77.an : An := (.sq .leaf (.sq .leaf (.sq (.sq .leaf (.bl (.lp [5, 6] [5, 6, 7, 8, 12, 13, 14, 15, 16, 17, 18, 19, 20, 21, 22, 23, 24, 25, 26, 27, 28, 29, 30, 31, 32, 33, 34, 35, 36, 37, 38] (.sq (.sq .leaf (.cn .leaf .leaf)) (.sq (.bl (.sq .leaf (.sq (.sq .leaf (.bl (.lp [7, 8] [7, 8, 22, 23, 24, 25, 26, 27, 28, 29, 30, 31, 32, 33, 34] (.sq (.sq .leaf (.cn .leaf .leaf)) (.sq (.bl .leaf) .leaf))))) .leaf))) .leaf))))) (.sq (.sq .leaf (.bl (.lp [9] [4, 9, 10, 11, 39, 40, 41, 42, 43, 44, 45, 46, 47, 48, 49, 50, 51, 52, 53, 54, 55, 56, 57, 58, 59, 60, 61, 62, 63, 64, 65, 66, 67, 68, 69, 70, 71, 72, 73, 74, 75, 76, 77, 78, 79, 80, 81, 82, 83, 84, 85, 86, 87, 88, 89, 90, 91, 92, 93, 94, 95, 96, 97, 98, 99, 100, 101, 102, 103, 104, 105, 106, 107, 108, 109, 110, 111, 112, 113, 114, 115, 116, 117] (.sq (.sq .leaf (.cn .leaf .leaf)) (.sq (.bl (.sq .leaf (.sq .leaf (.bl (.lp [11] [4, 11, 50, 51, 52, 53, 54, 55, 56, 57, 58, 59, 60, 61, 62, 63, 64, 65, 66, 67, 68, 69, 70, 71, 72, 73, 74, 75, 76, 77, 78, 79, 80, 81, 82, 83, 84, 85, 86, 87, 88, 89, 90, 91, 92, 93, 94, 95, 96, 97, 98, 99, 100, 101, 102, 103, 104, 105, 106, 107, 108, 109, 110, 111, 112, 113, 114, 115, 116, 117] (.sq (.sq .leaf (.cn .leaf .leaf)) (.sq (.bl (.sq (.dr (.take 0 false (.take 1 false (.take 2 false (.take 3 false (.take 4 false (.take 5 false (.take 6 false (.take 7 true (.take 8 false (.take 9 false (.take 10 false (.take 11 true (.take 12 true (.take 13 false (.take 14 false (.one 15 (.take 16 false (.take 17 false (.take 18 false (.take 19 false (.take 20 false (.take 21 false (.take 22 false (.take 23 false (.take 24 false (.take 25 false (.take 26 false (.take 27 true (.take 28 false (.take 29 false (.take 30 false (.take 31 true (.take 32 true (.take 33 false (.take 34 false (.one 35 (.take 36 false (.take 37 false (.take 38 false (.take 39 false (.take 40 false (.take 41 false (.take 42 false (.take 43 false (.take 44 false (.take 45 false (.take 46 false (.take 47 false (.take 48 true (.take 49 false (.take 50 false (.take 51 false (.take 52 true (.take 53 true (.take 54 false (.take 55 false (.one 56 (.take 57 false (.take 58 false (.take 59 false (.take 60 false .fin)))))))))))))))))))))))))))))))))))))))))))))))))))))))))))))) (.cn (.sq .leaf .leaf) .leaf))) .leaf))))))) .leaf))))) (.sq .leaf .leaf)))))
theorem f77.body_eq : Tryd.f77.body = some f77.code := by kernel_rfl
theorem f77.shape (Z : List PanicEntry → World → Prop) (x0 x1 : Value) (w : World) (Q : Value → World → Prop) : vc drawD Tryd.prog 118 Z [60] f77.an f77.code (fnQ Tryd.prog 118 Tryd.f77.results Q) (argEnv [x0, x1]) w = f77.sh Z x0 x1 w Q := by kernel_rfl
theorem f77.enters : ∀ f, f ∈ ([60] : List Nat) → Enters Tryd.prog f := by
  intro f hf
  simp only [List.mem_cons, List.not_mem_nil, or_false] at hf
  rcases hf with rfl
  · exact en60
theorem f77.calls {Z : List PanicEntry → World → Prop} {x0 x1 : Value} {w : World} {Q : Value → World → Prop} (h : f77.sh Z x0 x1 w Q) : CallV Tryd.prog Z 77 #[x0, x1] w Q :=
  calls_of_vcn drawD_sound (Q := Q) (n := 118) (rs := Tryd.f77.results) (an := f77.an) (c := f77.code) (cal := [60]) (args := [x0, x1]) Tryd.func77 (by kernel_rfl) rfl f77.body_eq follows (Nat.le_of_ble_eq_true (by kernel_rfl)) (enters_of_all f77.enters) ((f77.shape Z x0 x1 w Q).mpr h)

/-! ### 78: lagoon/lagoonref00.grownEvents -/
def f78.sh (Z : List PanicEntry → World → Prop) (x0 x1 : Value) (w : World) (Q : Value → World → Prop) : Prop :=
  ∃ J_1 : Nat → Value → Value → World → Prop, (∃ m, J_1 m (Value.slice none 0 0) (Value.int IntKind.i64 0) w) ∧
    ∀ m_1, ∀ t5_2 : Value, ∀ t6_3 : Value, ∀ w : World, J_1 m_1 t5_2 t6_3 w → Env →
      run1 Tryd.prog Z (Builtin.len_ #[60] 3 #[x0]) w fun t14_4 w =>
      run1 Tryd.prog Z (binOp BinOp.lss 3 t6_3 t14_4) w fun t15_5 w =>
      CondV t15_5 (
        run1 Tryd.prog Z (Instr.indexAt 60 x0 t6_3) w fun t20_6 w =>
        run1 Tryd.prog Z (Instr.loadAt 181 t20_6) w fun t21_7 w =>
        ∃ J_8 : Nat → Value → Value → World → Prop, (∃ m, J_8 m t21_7 (Value.int IntKind.i64 0) w) ∧
          ∀ m_8, ∀ t7_9 : Value, ∀ t8_10 : Value, ∀ w : World, J_8 m_8 t7_9 t8_10 w → Env →
            run1 Tryd.prog Z (binOp BinOp.lss 3 t8_10 x1) w fun t24_11 w =>
            CondV t24_11 (
              run1 Tryd.prog Z (binOp BinOp.sub 3 (Value.int IntKind.i64 (-2000000)) t6_3) w fun t29_12 w =>
              run1 Tryd.prog Z (Instr.build 183 #[(4, t29_12)]) w fun t30_13 w =>
              run1 Tryd.prog Z (Instr.buildSlice 181 1 #[(0, t30_13)]) w fun t31_14 w =>
              run1 Tryd.prog Z (Builtin.append_ #[181, 181] 181 #[t7_9, t31_14]) w fun t32_15 w =>
              run1 Tryd.prog Z (binOp BinOp.add 3 t8_10 (Value.int IntKind.i64 1)) w fun t26_16 w =>
              ∃ n_8, n_8 < m_8 ∧ J_8 n_8 t32_15 t26_16 w) (
              run1 Tryd.prog Z (Instr.buildSlice 60 1 #[(0, t7_9)]) w fun t35_17 w =>
              run1 Tryd.prog Z (Builtin.append_ #[60, 60] 60 #[t5_2, t35_17]) w fun t36_18 w =>
              run1 Tryd.prog Z (binOp BinOp.add 3 t6_3 (Value.int IntKind.i64 1)) w fun t17_19 w =>
              ∃ n_1, n_1 < m_1 ∧ J_1 n_1 t36_18 t17_19 w)) (
        ∃ J_20 : Nat → Value → World → Prop, (∃ m, J_20 m (Value.int IntKind.i64 0) w) ∧
          ∀ m_20, ∀ t9_21 : Value, ∀ w : World, J_20 m_20 t9_21 w → Env →
            run1 Tryd.prog Z (Builtin.len_ #[60] 3 #[x0]) w fun t39_22 w =>
            run1 Tryd.prog Z (binOp BinOp.lss 3 t9_21 t39_22) w fun t40_23 w =>
            CondV t40_23 (
              run1 Tryd.prog Z (Instr.indexAt 60 x0 t9_21) w fun t45_24 w =>
              run1 Tryd.prog Z (Instr.loadAt 181 t45_24) w fun t46_25 w =>
              run1 Tryd.prog Z (Builtin.len_ #[181] 3 #[t46_25]) w fun t47_26 w =>
              ∃ J_27 : Nat → Value → World → Prop, (∃ m, J_27 m (Value.int IntKind.i64 0) w) ∧
                ∀ m_27, ∀ t11_28 : Value, ∀ w : World, J_27 m_27 t11_28 w → Env →
                  run1 Tryd.prog Z (binOp BinOp.add 3 t47_26 x1) w fun t51_29 w =>
                  run1 Tryd.prog Z (binOp BinOp.lss 3 t11_28 t51_29) w fun t52_30 w =>
                  CondV t52_30 (
                    run1 Tryd.prog Z (binOp BinOp.lss 3 t11_28 t47_26) w fun t57_31 w =>
                    guardW (t57_31) true (fun k => k (x0) w) (fun t59_32 w =>
                    guardW (t57_31) true (fun k => k (t9_21) w) (fun t60_33 w =>
                    guardW (t57_31) true (fun k => run1 Tryd.prog Z (Instr.indexAt 60 t59_32 t60_33) w k) (fun t61_34 w =>
                    guardW (t57_31) true (fun k => run1 Tryd.prog Z (Instr.loadAt 181 t61_34) w k) (fun t62_35 w =>
                    guardW (t57_31) true (fun k => k (t11_28) w) (fun t63_36 w =>
                    guardW (t57_31) true (fun k => run1 Tryd.prog Z (Instr.indexAt 181 t62_35 t63_36) w k) (fun t64_37 w =>
                    guardW (t57_31) true (fun k => run1 Tryd.prog Z (Instr.fieldAt 183 t64_37 4) w k) (fun t65_38 w =>
                    guardW (t57_31) true (fun k => run1 Tryd.prog Z (Instr.loadAt 3 t65_38) w k) (fun t66_39 w =>
                    guardW (t57_31) true (fun k => k (t9_21) w) (fun t67_40 w =>
                    guardW (t57_31) true (fun k => run1 Tryd.prog Z (binOp BinOp.sub 3 (Value.int IntKind.i64 (-1000000)) t67_40) w k) (fun t68_41 w =>
                    guardW (t57_31) true (fun k => run1 Tryd.prog Z (eqOp BinOp.eql 3 false false t66_39 t68_41) w k) (fun t69_42 w =>
                    guardW (t57_31) true (fun k => run1 Tryd.prog Z (Op.unary UnOp.not t69_42) w k) (fun t70_43 w =>
                    run1 Tryd.prog Z (pickV t57_31 t70_43 (Value.bool false)) w fun t71_44 w =>
                    guardW (t71_44) false (fun k => k (t11_28) w) (fun t73_45 w =>
                    guardW (t71_44) false (fun k => k (t47_26) w) (fun t74_46 w =>
                    guardW (t71_44) false (fun k => run1 Tryd.prog Z (binOp BinOp.lss 3 t73_45 t74_46) w k) (fun t75_47 w =>
                    guardW (t71_44) false (fun k => k (t75_47) w) (fun t76_48 w =>
                    guardW (t76_48) true (fun k => k (t5_2) w) (fun t77_49 w =>
                    guardW (t76_48) true (fun k => k (t9_21) w) (fun t78_50 w =>
                    guardW (t76_48) true (fun k => run1 Tryd.prog Z (Instr.indexAt 60 t77_49 t78_50) w k) (fun t79_51 w =>
                    guardW (t76_48) true (fun k => run1 Tryd.prog Z (Instr.loadAt 181 t79_51) w k) (fun t80_52 w =>
                    guardW (t76_48) true (fun k => k (t11_28) w) (fun t81_53 w =>
                    guardW (t76_48) true (fun k => run1 Tryd.prog Z (Instr.indexAt 181 t80_52 t81_53) w k) (fun t82_54 w =>
                    guardW (t76_48) true (fun k => run1 Tryd.prog Z (Instr.fieldAt 183 t82_54 4) w k) (fun t83_55 w =>
                    guardW (t76_48) true (fun k => run1 Tryd.prog Z (Instr.loadAt 3 t83_55) w k) (fun t84_56 w =>
                    guardW (t76_48) true (fun k => k (t9_21) w) (fun t85_57 w =>
                    guardW (t76_48) true (fun k => run1 Tryd.prog Z (binOp BinOp.sub 3 (Value.int IntKind.i64 (-1000000)) t85_57) w k) (fun t86_58 w =>
                    guardW (t76_48) true (fun k => run1 Tryd.prog Z (eqOp BinOp.eql 3 false false t84_56 t86_58) w k) (fun t87_59 w =>
                    guardW (t76_48) true (fun k => run1 Tryd.prog Z (Op.unary UnOp.not t87_59) w k) (fun t88_60 w =>
                    guardW (t71_44) false (fun k => run1 Tryd.prog Z (pickV t76_48 t88_60 (Value.bool false)) w k) (fun t89_61 w =>
                    run1 Tryd.prog Z (pickV t71_44 (Value.bool true) t89_61) w fun t90_62 w =>
                    guardW (t90_62) false (fun k => k (t11_28) w) (fun t92_63 w =>
                    guardW (t90_62) false (fun k => k (t47_26) w) (fun t93_64 w =>
                    guardW (t90_62) false (fun k => run1 Tryd.prog Z (binOp BinOp.geq 3 t92_63 t93_64) w k) (fun t94_65 w =>
                    guardW (t90_62) false (fun k => k (t94_65) w) (fun t95_66 w =>
                    guardW (t95_66) true (fun k => k (t5_2) w) (fun t96_67 w =>
                    guardW (t95_66) true (fun k => k (t9_21) w) (fun t97_68 w =>
                    guardW (t95_66) true (fun k => run1 Tryd.prog Z (Instr.indexAt 60 t96_67 t97_68) w k) (fun t98_69 w =>
                    guardW (t95_66) true (fun k => run1 Tryd.prog Z (Instr.loadAt 181 t98_69) w k) (fun t99_70 w =>
                    guardW (t95_66) true (fun k => k (t11_28) w) (fun t100_71 w =>
                    guardW (t95_66) true (fun k => run1 Tryd.prog Z (Instr.indexAt 181 t99_70 t100_71) w k) (fun t101_72 w =>
                    guardW (t95_66) true (fun k => run1 Tryd.prog Z (Instr.fieldAt 183 t101_72 4) w k) (fun t102_73 w =>
                    guardW (t95_66) true (fun k => run1 Tryd.prog Z (Instr.loadAt 3 t102_73) w k) (fun t103_74 w =>
                    guardW (t95_66) true (fun k => k (t9_21) w) (fun t104_75 w =>
                    guardW (t95_66) true (fun k => run1 Tryd.prog Z (binOp BinOp.sub 3 (Value.int IntKind.i64 (-2000000)) t104_75) w k) (fun t105_76 w =>
                    guardW (t95_66) true (fun k => run1 Tryd.prog Z (eqOp BinOp.eql 3 false false t103_74 t105_76) w k) (fun t106_77 w =>
                    guardW (t95_66) true (fun k => run1 Tryd.prog Z (Op.unary UnOp.not t106_77) w k) (fun t107_78 w =>
                    guardW (t90_62) false (fun k => run1 Tryd.prog Z (pickV t95_66 t107_78 (Value.bool false)) w k) (fun t108_79 w =>
                    run1 Tryd.prog Z (pickV t90_62 (Value.bool true) t108_79) w fun t109_80 w =>
                    CondV t109_80 (
                      Q (Value.bool false) w) (
                      run1 Tryd.prog Z (binOp BinOp.add 3 t11_28 (Value.int IntKind.i64 1)) w fun t54_81 w =>
                      ∃ n_27, n_27 < m_27 ∧ J_27 n_27 t54_81 w)) w) w) w) w) w) w) w) w) w) w) w) w) w) w) w) w) w) w) w) w) w) w) w) w) w) w) w) w) w) w) w) w) w) w) w) w) w) w) w) w) w) w) w) w) w) w) (
                    run1 Tryd.prog Z (binOp BinOp.add 3 t9_21 (Value.int IntKind.i64 1)) w fun t42_82 w =>
                    ∃ n_20, n_20 < m_20 ∧ J_20 n_20 t42_82 w)) (
              Q (Value.bool true) w))
noncomputable def f78.code : Code := match Tryd.f78.body with | some c => c | none => .skip
def f78.an : An := (.sq .leaf (.sq .leaf (.sq (.sq .leaf (.bl (.lp [5, 6] [5, 6, 7, 8, 12, 13, 14, 15, 16, 17, 18, 19, 20, 21, 22, 23, 24, 25, 26, 27, 28, 29, 30, 31, 32, 33, 34, 35, 36] (.sq (.sq .leaf (.cn .leaf .leaf)) (.sq (.bl (.sq .leaf (.sq (.sq .leaf (.bl (.lp [7, 8] [7, 8, 22, 23, 24, 25, 26, 27, 28, 29, 30, 31, 32] (.sq (.sq .leaf (.cn .leaf .leaf)) (.sq (.bl .leaf) .leaf))))) .leaf))) .leaf))))) (.sq (.sq .leaf (.bl (.lp [9] [4, 9, 10, 11, 37, 38, 39, 40, 41, 42, 43, 44, 45, 46, 47, 48, 49, 50, 51, 52, 53, 54, 55, 56, 57, 58, 59, 60, 61, 62, 63, 64, 65, 66, 67, 68, 69, 70, 71, 72, 73, 74, 75, 76, 77, 78, 79, 80, 81, 82, 83, 84, 85, 86, 87, 88, 89, 90, 91, 92, 93, 94, 95, 96, 97, 98, 99, 100, 101, 102, 103, 104, 105, 106, 107, 108, 109] (.sq (.sq .leaf (.cn .leaf .leaf)) (.sq (.bl (.sq .leaf (.sq .leaf (.bl (.lp [11] [4, 11, 48, 49, 50, 51, 52, 53, 54, 55, 56, 57, 58, 59, 60, 61, 62, 63, 64, 65, 66, 67, 68, 69, 70, 71, 72, 73, 74, 75, 76, 77, 78, 79, 80, 81, 82, 83, 84, 85, 86, 87, 88, 89, 90, 91, 92, 93, 94, 95, 96, 97, 98, 99, 100, 101, 102, 103, 104, 105, 106, 107, 108, 109] (.sq (.sq .leaf (.cn .leaf .leaf)) (.sq (.bl (.sq .leaf (.cn (.sq .leaf .leaf) .leaf))) .leaf))))))) .leaf))))) (.sq .leaf .leaf)))))
theorem f78.body_eq : Tryd.f78.body = some f78.code := by kernel_rfl
theorem f78.shape (Z : List PanicEntry → World → Prop) (x0 x1 : Value) (w : World) (Q : Value → World → Prop) : vc drawD Tryd.prog 110 Z [] f78.an f78.code (fnQ Tryd.prog 110 Tryd.f78.results Q) (argEnv [x0, x1]) w = f78.sh Z x0 x1 w Q := by kernel_rfl
theorem f78.enters : ∀ f, f ∈ ([] : List Nat) → Enters Tryd.prog f := by
  intro f hf
  cases hf
theorem f78.calls {Z : List PanicEntry → World → Prop} {x0 x1 : Value} {w : World} {Q : Value → World → Prop} (h : f78.sh Z x0 x1 w Q) : CallV Tryd.prog Z 78 #[x0, x1] w Q :=
  calls_of_vcn drawD_sound (Q := Q) (n := 110) (rs := Tryd.f78.results) (an := f78.an) (c := f78.code) (cal := []) (args := [x0, x1]) Tryd.func78 (by kernel_rfl) rfl f78.body_eq follows (Nat.le_of_ble_eq_true (by kernel_rfl)) (enters_of_all f78.enters) ((f78.shape Z x0 x1 w Q).mpr h)

/-! ### 79: lagoon/lagoonref00.grownFactss -/
def f79.sh (Z : List PanicEntry → World → Prop) (x0 x1 : Value) (w : World) (Q : Value → World → Prop) : Prop :=
  ∃ J_1 : Nat → Value → Value → World → Prop, (∃ m, J_1 m (Value.slice none 0 0) (Value.int IntKind.i64 0) w) ∧
    ∀ m_1, ∀ t5_2 : Value, ∀ t6_3 : Value, ∀ w : World, J_1 m_1 t5_2 t6_3 w → Env →
      run1 Tryd.prog Z (Builtin.len_ #[61] 3 #[x0]) w fun t14_4 w =>
      run1 Tryd.prog Z (binOp BinOp.lss 3 t6_3 t14_4) w fun t15_5 w =>
      CondV t15_5 (
        run1 Tryd.prog Z (Instr.indexAt 61 x0 t6_3) w fun t20_6 w =>
        run1 Tryd.prog Z (Instr.loadAt 58 t20_6) w fun t21_7 w =>
        ∃ J_8 : Nat → Value → Value → World → Prop, (∃ m, J_8 m t21_7 (Value.int IntKind.i64 0) w) ∧
          ∀ m_8, ∀ t7_9 : Value, ∀ t8_10 : Value, ∀ w : World, J_8 m_8 t7_9 t8_10 w → Env →
            run1 Tryd.prog Z (binOp BinOp.lss 3 t8_10 x1) w fun t24_11 w =>
            CondV t24_11 (
              run1 Tryd.prog Z (binOp BinOp.sub 3 (Value.int IntKind.i64 (-2000000)) t6_3) w fun t29_12 w =>
              run1 Tryd.prog Z (Instr.build 175 #[(6, t29_12)]) w fun t30_13 w =>
              run1 Tryd.prog Z (Instr.buildSlice 173 1 #[(0, t30_13)]) w fun t31_14 w =>
              run1 Tryd.prog Z (Instr.buildSlice 58 1 #[(0, t31_14)]) w fun t32_15 w =>
              run1 Tryd.prog Z (Builtin.append_ #[58, 58] 58 #[t7_9, t32_15]) w fun t33_16 w =>
              run1 Tryd.prog Z (binOp BinOp.add 3 t8_10 (Value.int IntKind.i64 1)) w fun t26_17 w =>
              ∃ n_8, n_8 < m_8 ∧ J_8 n_8 t33_16 t26_17 w) (
              run1 Tryd.prog Z (Instr.buildSlice 61 1 #[(0, t7_9)]) w fun t36_18 w =>
              run1 Tryd.prog Z (Builtin.append_ #[61, 61] 61 #[t5_2, t36_18]) w fun t37_19 w =>
              run1 Tryd.prog Z (binOp BinOp.add 3 t6_3 (Value.int IntKind.i64 1)) w fun t17_20 w =>
              ∃ n_1, n_1 < m_1 ∧ J_1 n_1 t37_19 t17_20 w)) (
        ∃ J_21 : Nat → Value → World → Prop, (∃ m, J_21 m (Value.int IntKind.i64 0) w) ∧
          ∀ m_21, ∀ t9_22 : Value, ∀ w : World, J_21 m_21 t9_22 w → Env →
            run1 Tryd.prog Z (Builtin.len_ #[61] 3 #[x0]) w fun t40_23 w =>
            run1 Tryd.prog Z (binOp BinOp.lss 3 t9_22 t40_23) w fun t41_24 w =>
            CondV t41_24 (
              run1 Tryd.prog Z (Instr.indexAt 61 x0 t9_22) w fun t46_25 w =>
              run1 Tryd.prog Z (Instr.loadAt 58 t46_25) w fun t47_26 w =>
              run1 Tryd.prog Z (Builtin.len_ #[58] 3 #[t47_26]) w fun t48_27 w =>
              ∃ J_28 : Nat → Value → World → Prop, (∃ m, J_28 m (Value.int IntKind.i64 0) w) ∧
                ∀ m_28, ∀ t11_29 : Value, ∀ w : World, J_28 m_28 t11_29 w → Env →
                  run1 Tryd.prog Z (binOp BinOp.add 3 t48_27 x1) w fun t52_30 w =>
                  run1 Tryd.prog Z (binOp BinOp.lss 3 t11_29 t52_30) w fun t53_31 w =>
                  CondV t53_31 (
                    run1 Tryd.prog Z (binOp BinOp.lss 3 t11_29 t48_27) w fun t58_32 w =>
                    guardW (t58_32) true (fun k => k (x0) w) (fun t60_33 w =>
                    guardW (t58_32) true (fun k => k (t9_22) w) (fun t61_34 w =>
                    guardW (t58_32) true (fun k => run1 Tryd.prog Z (Instr.indexAt 61 t60_33 t61_34) w k) (fun t62_35 w =>
                    guardW (t58_32) true (fun k => run1 Tryd.prog Z (Instr.loadAt 58 t62_35) w k) (fun t63_36 w =>
                    guardW (t58_32) true (fun k => k (t11_29) w) (fun t64_37 w =>
                    guardW (t58_32) true (fun k => run1 Tryd.prog Z (Instr.indexAt 58 t63_36 t64_37) w k) (fun t65_38 w =>
                    guardW (t58_32) true (fun k => run1 Tryd.prog Z (Instr.loadAt 173 t65_38) w k) (fun t66_39 w =>
                    guardW (t58_32) true (fun k => run1 Tryd.prog Z (Builtin.len_ #[173] 3 #[t66_39]) w k) (fun t67_40 w =>
                    guardW (t58_32) true (fun k => run1 Tryd.prog Z (eqOp BinOp.eql 3 false true t67_40 (Value.int IntKind.i64 1)) w k) (fun t68_41 w =>
                    guardW (t58_32) true (fun k => k (t68_41) w) (fun t69_42 w =>
                    guardW (t69_42) true (fun k => k (x0) w) (fun t70_43 w =>
                    guardW (t69_42) true (fun k => k (t9_22) w) (fun t71_44 w =>
                    guardW (t69_42) true (fun k => run1 Tryd.prog Z (Instr.indexAt 61 t70_43 t71_44) w k) (fun t72_45 w =>
                    guardW (t69_42) true (fun k => run1 Tryd.prog Z (Instr.loadAt 58 t72_45) w k) (fun t73_46 w =>
                    guardW (t69_42) true (fun k => k (t11_29) w) (fun t74_47 w =>
                    guardW (t69_42) true (fun k => run1 Tryd.prog Z (Instr.indexAt 58 t73_46 t74_47) w k) (fun t75_48 w =>
                    guardW (t69_42) true (fun k => run1 Tryd.prog Z (Instr.loadAt 173 t75_48) w k) (fun t76_49 w =>
                    guardW (t69_42) true (fun k => run1 Tryd.prog Z (Instr.indexAt 173 t76_49 (Value.int IntKind.i64 0)) w k) (fun t77_50 w =>
                    guardW (t69_42) true (fun k => run1 Tryd.prog Z (Instr.fieldAt 175 t77_50 6) w k) (fun t78_51 w =>
                    guardW (t69_42) true (fun k => run1 Tryd.prog Z (Instr.loadAt 2 t78_51) w k) (fun t79_52 w =>
                    guardW (t69_42) true (fun k => k (t9_22) w) (fun t80_53 w =>
                    guardW (t69_42) true (fun k => run1 Tryd.prog Z (binOp BinOp.sub 3 (Value.int IntKind.i64 (-1000000)) t80_53) w k) (fun t81_54 w =>
                    guardW (t69_42) true (fun k => run1 Tryd.prog Z (eqOp BinOp.eql 2 false false t79_52 t81_54) w k) (fun t82_55 w =>
                    guardW (t58_32) true (fun k => run1 Tryd.prog Z (pickV t69_42 t82_55 (Value.bool false)) w k) (fun t83_56 w =>
                    guardW (t58_32) true (fun k => run1 Tryd.prog Z (Op.unary UnOp.not t83_56) w k) (fun t84_57 w =>
                    run1 Tryd.prog Z (pickV t58_32 t84_57 (Value.bool false)) w fun t85_58 w =>
                    guardW (t85_58) false (fun k => k (t11_29) w) (fun t87_59 w =>
                    guardW (t85_58) false (fun k => k (t48_27) w) (fun t88_60 w =>
                    guardW (t85_58) false (fun k => run1 Tryd.prog Z (binOp BinOp.lss 3 t87_59 t88_60) w k) (fun t89_61 w =>
                    guardW (t85_58) false (fun k => k (t89_61) w) (fun t90_62 w =>
                    guardW (t90_62) true (fun k => k (t5_2) w) (fun t91_63 w =>
                    guardW (t90_62) true (fun k => k (t9_22) w) (fun t92_64 w =>
                    guardW (t90_62) true (fun k => run1 Tryd.prog Z (Instr.indexAt 61 t91_63 t92_64) w k) (fun t93_65 w =>
                    guardW (t90_62) true (fun k => run1 Tryd.prog Z (Instr.loadAt 58 t93_65) w k) (fun t94_66 w =>
                    guardW (t90_62) true (fun k => k (t11_29) w) (fun t95_67 w =>
                    guardW (t90_62) true (fun k => run1 Tryd.prog Z (Instr.indexAt 58 t94_66 t95_67) w k) (fun t96_68 w =>
                    guardW (t90_62) true (fun k => run1 Tryd.prog Z (Instr.loadAt 173 t96_68) w k) (fun t97_69 w =>
                    guardW (t90_62) true (fun k => run1 Tryd.prog Z (Builtin.len_ #[173] 3 #[t97_69]) w k) (fun t98_70 w =>
                    guardW (t90_62) true (fun k => run1 Tryd.prog Z (eqOp BinOp.eql 3 false true t98_70 (Value.int IntKind.i64 1)) w k) (fun t99_71 w =>
                    guardW (t90_62) true (fun k => k (t99_71) w) (fun t100_72 w =>
                    guardW (t100_72) true (fun k => k (t5_2) w) (fun t101_73 w =>
                    guardW (t100_72) true (fun k => k (t9_22) w) (fun t102_74 w =>
                    guardW (t100_72) true (fun k => run1 Tryd.prog Z (Instr.indexAt 61 t101_73 t102_74) w k) (fun t103_75 w =>
                    guardW (t100_72) true (fun k => run1 Tryd.prog Z (Instr.loadAt 58 t103_75) w k) (fun t104_76 w =>
                    guardW (t100_72) true (fun k => k (t11_29) w) (fun t105_77 w =>
                    guardW (t100_72) true (fun k => run1 Tryd.prog Z (Instr.indexAt 58 t104_76 t105_77) w k) (fun t106_78 w =>
                    guardW (t100_72) true (fun k => run1 Tryd.prog Z (Instr.loadAt 173 t106_78) w k) (fun t107_79 w =>
                    guardW (t100_72) true (fun k => run1 Tryd.prog Z (Instr.indexAt 173 t107_79 (Value.int IntKind.i64 0)) w k) (fun t108_80 w =>
                    guardW (t100_72) true (fun k => run1 Tryd.prog Z (Instr.fieldAt 175 t108_80 6) w k) (fun t109_81 w =>
                    guardW (t100_72) true (fun k => run1 Tryd.prog Z (Instr.loadAt 2 t109_81) w k) (fun t110_82 w =>
                    guardW (t100_72) true (fun k => k (t9_22) w) (fun t111_83 w =>
                    guardW (t100_72) true (fun k => run1 Tryd.prog Z (binOp BinOp.sub 3 (Value.int IntKind.i64 (-1000000)) t111_83) w k) (fun t112_84 w =>
                    guardW (t100_72) true (fun k => run1 Tryd.prog Z (eqOp BinOp.eql 2 false false t110_82 t112_84) w k) (fun t113_85 w =>
                    guardW (t90_62) true (fun k => run1 Tryd.prog Z (pickV t100_72 t113_85 (Value.bool false)) w k) (fun t114_86 w =>
                    guardW (t90_62) true (fun k => run1 Tryd.prog Z (Op.unary UnOp.not t114_86) w k) (fun t115_87 w =>
                    guardW (t85_58) false (fun k => run1 Tryd.prog Z (pickV t90_62 t115_87 (Value.bool false)) w k) (fun t116_88 w =>
                    run1 Tryd.prog Z (pickV t85_58 (Value.bool true) t116_88) w fun t117_89 w =>
                    guardW (t117_89) false (fun k => k (t11_29) w) (fun t119_90 w =>
                    guardW (t117_89) false (fun k => k (t48_27) w) (fun t120_91 w =>
                    guardW (t117_89) false (fun k => run1 Tryd.prog Z (binOp BinOp.geq 3 t119_90 t120_91) w k) (fun t121_92 w =>
                    guardW (t117_89) false (fun k => k (t121_92) w) (fun t122_93 w =>
                    guardW (t122_93) true (fun k => k (t5_2) w) (fun t123_94 w =>
                    guardW (t122_93) true (fun k => k (t9_22) w) (fun t124_95 w =>
                    guardW (t122_93) true (fun k => run1 Tryd.prog Z (Instr.indexAt 61 t123_94 t124_95) w k) (fun t125_96 w =>
                    guardW (t122_93) true (fun k => run1 Tryd.prog Z (Instr.loadAt 58 t125_96) w k) (fun t126_97 w =>
                    guardW (t122_93) true (fun k => k (t11_29) w) (fun t127_98 w =>
                    guardW (t122_93) true (fun k => run1 Tryd.prog Z (Instr.indexAt 58 t126_97 t127_98) w k) (fun t128_99 w =>
                    guardW (t122_93) true (fun k => run1 Tryd.prog Z (Instr.loadAt 173 t128_99) w k) (fun t129_100 w =>
                    guardW (t122_93) true (fun k => run1 Tryd.prog Z (Builtin.len_ #[173] 3 #[t129_100]) w k) (fun t130_101 w =>
                    guardW (t122_93) true (fun k => run1 Tryd.prog Z (eqOp BinOp.eql 3 false true t130_101 (Value.int IntKind.i64 1)) w k) (fun t131_102 w =>
                    guardW (t122_93) true (fun k => k (t131_102) w) (fun t132_103 w =>
                    guardW (t132_103) true (fun k => k (t5_2) w) (fun t133_104 w =>
                    guardW (t132_103) true (fun k => k (t9_22) w) (fun t134_105 w =>
                    guardW (t132_103) true (fun k => run1 Tryd.prog Z (Instr.indexAt 61 t133_104 t134_105) w k) (fun t135_106 w =>
                    guardW (t132_103) true (fun k => run1 Tryd.prog Z (Instr.loadAt 58 t135_106) w k) (fun t136_107 w =>
                    guardW (t132_103) true (fun k => k (t11_29) w) (fun t137_108 w =>
                    guardW (t132_103) true (fun k => run1 Tryd.prog Z (Instr.indexAt 58 t136_107 t137_108) w k) (fun t138_109 w =>
                    guardW (t132_103) true (fun k => run1 Tryd.prog Z (Instr.loadAt 173 t138_109) w k) (fun t139_110 w =>
                    guardW (t132_103) true (fun k => run1 Tryd.prog Z (Instr.indexAt 173 t139_110 (Value.int IntKind.i64 0)) w k) (fun t140_111 w =>
                    guardW (t132_103) true (fun k => run1 Tryd.prog Z (Instr.fieldAt 175 t140_111 6) w k) (fun t141_112 w =>
                    guardW (t132_103) true (fun k => run1 Tryd.prog Z (Instr.loadAt 2 t141_112) w k) (fun t142_113 w =>
                    guardW (t132_103) true (fun k => k (t9_22) w) (fun t143_114 w =>
                    guardW (t132_103) true (fun k => run1 Tryd.prog Z (binOp BinOp.sub 3 (Value.int IntKind.i64 (-2000000)) t143_114) w k) (fun t144_115 w =>
                    guardW (t132_103) true (fun k => run1 Tryd.prog Z (eqOp BinOp.eql 2 false false t142_113 t144_115) w k) (fun t145_116 w =>
                    guardW (t122_93) true (fun k => run1 Tryd.prog Z (pickV t132_103 t145_116 (Value.bool false)) w k) (fun t146_117 w =>
                    guardW (t122_93) true (fun k => run1 Tryd.prog Z (Op.unary UnOp.not t146_117) w k) (fun t147_118 w =>
                    guardW (t117_89) false (fun k => run1 Tryd.prog Z (pickV t122_93 t147_118 (Value.bool false)) w k) (fun t148_119 w =>
                    run1 Tryd.prog Z (pickV t117_89 (Value.bool true) t148_119) w fun t149_120 w =>
                    CondV t149_120 (
                      Q (Value.bool false) w) (
                      run1 Tryd.prog Z (binOp BinOp.add 3 t11_29 (Value.int IntKind.i64 1)) w fun t55_121 w =>
                      ∃ n_28, n_28 < m_28 ∧ J_28 n_28 t55_121 w)) w) w) w) w) w) w) w) w) w) w) w) w) w) w) w) w) w) w) w) w) w) w) w) w) w) w) w) w) w) w) w) w) w) w) w) w) w) w) w) w) w) w) w) w) w) w) w) w) w) w) w) w) w) w) w) w) w) w) w) w) w) w) w) w) w) w) w) w) w) w) w) w) w) w) w) w) w) w) w) w) w) w) w) w) w) (
                    run1 Tryd.prog Z (binOp BinOp.add 3 t9_22 (Value.int IntKind.i64 1)) w fun t43_122 w =>
                    ∃ n_21, n_21 < m_21 ∧ J_21 n_21 t43_122 w)) (
              Q (Value.bool true) w))
noncomputable def f79.code : Code := match Tryd.f79.body with | some c => c | none => .skip
def f79.an : An := (.sq .leaf (.sq .leaf (.sq (.sq .leaf (.bl (.lp [5, 6] [5, 6, 7, 8, 12, 13, 14, 15, 16, 17, 18, 19, 20, 21, 22, 23, 24, 25, 26, 27, 28, 29, 30, 31, 32, 33, 34, 35, 36, 37] (.sq (.sq .leaf (.cn .leaf .leaf)) (.sq (.bl (.sq .leaf (.sq (.sq .leaf (.bl (.lp [7, 8] [7, 8, 22, 23, 24, 25, 26, 27, 28, 29, 30, 31, 32, 33] (.sq (.sq .leaf (.cn .leaf .leaf)) (.sq (.bl .leaf) .leaf))))) .leaf))) .leaf))))) (.sq (.sq .leaf (.bl (.lp [9] [4, 9, 10, 11, 38, 39, 40, 41, 42, 43, 44, 45, 46, 47, 48, 49, 50, 51, 52, 53, 54, 55, 56, 57, 58, 59, 60, 61, 62, 63, 64, 65, 66, 67, 68, 69, 70, 71, 72, 73, 74, 75, 76, 77, 78, 79, 80, 81, 82, 83, 84, 85, 86, 87, 88, 89, 90, 91, 92, 93, 94, 95, 96, 97, 98, 99, 100, 101, 102, 103, 104, 105, 106, 107, 108, 109, 110, 111, 112, 113, 114, 115, 116, 117, 118, 119, 120, 121, 122, 123, 124, 125, 126, 127, 128, 129, 130, 131, 132, 133, 134, 135, 136, 137, 138, 139, 140, 141, 142, 143, 144, 145, 146, 147, 148, 149] (.sq (.sq .leaf (.cn .leaf .leaf)) (.sq (.bl (.sq .leaf (.sq .leaf (.bl (.lp [11] [4, 11, 49, 50, 51, 52, 53, 54, 55, 56, 57, 58, 59, 60, 61, 62, 63, 64, 65, 66, 67, 68, 69, 70, 71, 72, 73, 74, 75, 76, 77, 78, 79, 80, 81, 82, 83, 84, 85, 86, 87, 88, 89, 90, 91, 92, 93, 94, 95, 96, 97, 98, 99, 100, 101, 102, 103, 104, 105, 106, 107, 108, 109, 110, 111, 112, 113, 114, 115, 116, 117, 118, 119, 120, 121, 122, 123, 124, 125, 126, 127, 128, 129, 130, 131, 132, 133, 134, 135, 136, 137, 138, 139, 140, 141, 142, 143, 144, 145, 146, 147, 148, 149] (.sq (.sq .leaf (.cn .leaf .leaf)) (.sq (.bl (.sq .leaf (.cn (.sq .leaf .leaf) .leaf))) .leaf))))))) .leaf))))) (.sq .leaf .leaf)))))
theorem f79.body_eq : Tryd.f79.body = some f79.code := by kernel_rfl
theorem f79.shape (Z : List PanicEntry → World → Prop) (x0 x1 : Value) (w : World) (Q : Value → World → Prop) : vc drawD Tryd.prog 150 Z [] f79.an f79.code (fnQ Tryd.prog 150 Tryd.f79.results Q) (argEnv [x0, x1]) w = f79.sh Z x0 x1 w Q := by kernel_rfl
theorem f79.enters : ∀ f, f ∈ ([] : List Nat) → Enters Tryd.prog f := by
  intro f hf
  cases hf
theorem f79.calls {Z : List PanicEntry → World → Prop} {x0 x1 : Value} {w : World} {Q : Value → World → Prop} (h : f79.sh Z x0 x1 w Q) : CallV Tryd.prog Z 79 #[x0, x1] w Q :=
  calls_of_vcn drawD_sound (Q := Q) (n := 150) (rs := Tryd.f79.results) (an := f79.an) (c := f79.code) (cal := []) (args := [x0, x1]) Tryd.func79 (by kernel_rfl) rfl f79.body_eq follows (Nat.le_of_ble_eq_true (by kernel_rfl)) (enters_of_all f79.enters) ((f79.shape Z x0 x1 w Q).mpr h)

/-! ### 80: (*lagoon/pack.Reader).ahead -/
def f80.sh (Z : List PanicEntry → World → Prop) (x0 x1 : Value) (w : World) (Q : Value → World → Prop) : Prop :=
  CallV Tryd.prog Z 26 #[x0] w fun t7_1 w =>
  run1 Tryd.prog Z (Op.unary UnOp.not t7_1) w fun t8_2 w =>
  CondV t8_2 (
    Q (Value.tuple #[(Value.slice none 0 0), (Value.bool false)]) w) (
    runX Tryd.prog Z (nilChk x0) w fun t10_3 w =>
    run1 Tryd.prog Z (Instr.fieldAt 76 t10_3 1) w fun t11_4 w =>
    run1 Tryd.prog Z (Instr.loadAt 22 t11_4) w fun t12_5 w =>
    run1 Tryd.prog Z (Builtin.len_ #[22] 3 #[t12_5]) w fun t13_6 w =>
    run1 Tryd.prog Z (binOp BinOp.lss 3 t13_6 x1) w fun t15_7 w =>
    CondV t15_7 (
      runX Tryd.prog Z (nilChk x0) w fun t17_8 w =>
      run1 Tryd.prog Z (Instr.fieldAt 76 t17_8 2) w fun t18_9 w =>
      run0 Tryd.prog Z (Instr.storeAt 33 t18_9 (Value.int IntKind.i64 10)) w fun w =>
      Q (Value.tuple #[(Value.slice none 0 0), (Value.bool false)]) w) (
      runX Tryd.prog Z (nilChk x0) w fun t20_10 w =>
      run1 Tryd.prog Z (Instr.fieldAt 76 t20_10 1) w fun t21_11 w =>
      run1 Tryd.prog Z (Instr.loadAt 22 t21_11) w fun t22_12 w =>
      run1 Tryd.prog Z (Instr.sliceAt 22 t22_12 none (some x1) (some x1)) w fun t25_13 w =>
      Q (Value.tuple #[t25_13, (Value.bool true)]) w))
noncomputable def f80.code : Code := match Tryd.f80.body with | some c => c | none => .skip
def f80.an : An := (.sq .leaf (.sq (.sq .leaf (.cn (.sq .leaf .leaf) .leaf)) (.sq (.sq .leaf (.cn (.sq .leaf (.sq .leaf .leaf)) .leaf)) (.sq .leaf .leaf))))
theorem f80.body_eq : Tryd.f80.body = some f80.code := by kernel_rfl
theorem f80.shape (Z : List PanicEntry → World → Prop) (x0 x1 : Value) (w : World) (Q : Value → World → Prop) : vc drawD Tryd.prog 26 Z [26] f80.an f80.code (fnQ Tryd.prog 26 Tryd.f80.results Q) (argEnv [x0, x1]) w = f80.sh Z x0 x1 w Q := by kernel_rfl
theorem f80.enters : ∀ f, f ∈ ([26] : List Nat) → Enters Tryd.prog f := by
  intro f hf
  simp only [List.mem_cons, List.not_mem_nil, or_false] at hf
  rcases hf with rfl
  · exact en26
theorem f80.calls {Z : List PanicEntry → World → Prop} {x0 x1 : Value} {w : World} {Q : Value → World → Prop} (h : f80.sh Z x0 x1 w Q) : CallV Tryd.prog Z 80 #[x0, x1] w Q :=
  calls_of_vcn drawD_sound (Q := Q) (n := 26) (rs := Tryd.f80.results) (an := f80.an) (c := f80.code) (cal := [26]) (args := [x0, x1]) Tryd.func80 (by kernel_rfl) rfl f80.body_eq follows (Nat.le_of_ble_eq_true (by kernel_rfl)) (enters_of_all f80.enters) ((f80.shape Z x0 x1 w Q).mpr h)

/-! ### 81: strconv.Itoa -/
def f81.sh (Z : List PanicEntry → World → Prop) (x0 : Value) (w : World) (Q : Value → World → Prop) : Prop :=
  CallV Tryd.prog Z 82 #[x0] w fun t4_1 w =>
  Q t4_1 w
noncomputable def f81.code : Code := match Tryd.f81.body with | some c => c | none => .skip
def f81.an : An := (.sq .leaf (.sq .leaf .leaf))
theorem f81.body_eq : Tryd.f81.body = some f81.code := by kernel_rfl
theorem f81.shape (Z : List PanicEntry → World → Prop) (x0 : Value) (w : World) (Q : Value → World → Prop) : vc drawD Tryd.prog 5 Z [82] f81.an f81.code (fnQ Tryd.prog 5 Tryd.f81.results Q) (argEnv [x0]) w = f81.sh Z x0 w Q := by kernel_rfl
theorem f81.enters : ∀ f, f ∈ ([82] : List Nat) → Enters Tryd.prog f := by
  intro f hf
  simp only [List.mem_cons, List.not_mem_nil, or_false] at hf
  rcases hf with rfl
  · exact en82
theorem f81.calls {Z : List PanicEntry → World → Prop} {x0 : Value} {w : World} {Q : Value → World → Prop} (h : f81.sh Z x0 w Q) : CallV Tryd.prog Z 81 #[x0] w Q :=
  calls_of_vcn drawD_sound (Q := Q) (n := 5) (rs := Tryd.f81.results) (an := f81.an) (c := f81.code) (cal := [82]) (args := [x0]) Tryd.func81 (by kernel_rfl) rfl f81.body_eq follows (Nat.le_of_ble_eq_true (by kernel_rfl)) (enters_of_all f81.enters) ((f81.shape Z x0 w Q).mpr h)

/-! ### 82: internal/strconv.Itoa -/
def f82.sh (Z : List PanicEntry → World → Prop) (x0 : Value) (w : World) (Q : Value → World → Prop) : Prop :=
  CallV Tryd.prog Z 83 #[x0, (Value.int IntKind.i64 10)] w fun t4_1 w =>
  Q t4_1 w
noncomputable def f82.code : Code := match Tryd.f82.body with | some c => c | none => .skip
def f82.an : An := (.sq .leaf (.sq .leaf .leaf))
theorem f82.body_eq : Tryd.f82.body = some f82.code := by kernel_rfl
theorem f82.shape (Z : List PanicEntry → World → Prop) (x0 : Value) (w : World) (Q : Value → World → Prop) : vc drawD Tryd.prog 5 Z [83] f82.an f82.code (fnQ Tryd.prog 5 Tryd.f82.results Q) (argEnv [x0]) w = f82.sh Z x0 w Q := by kernel_rfl
theorem f82.enters : ∀ f, f ∈ ([83] : List Nat) → Enters Tryd.prog f := by
  intro f hf
  simp only [List.mem_cons, List.not_mem_nil, or_false] at hf
  rcases hf with rfl
  · exact en83
theorem f82.calls {Z : List PanicEntry → World → Prop} {x0 : Value} {w : World} {Q : Value → World → Prop} (h : f82.sh Z x0 w Q) : CallV Tryd.prog Z 82 #[x0] w Q :=
  calls_of_vcn drawD_sound (Q := Q) (n := 5) (rs := Tryd.f82.results) (an := f82.an) (c := f82.code) (cal := [83]) (args := [x0]) Tryd.func82 (by kernel_rfl) rfl f82.body_eq follows (Nat.le_of_ble_eq_true (by kernel_rfl)) (enters_of_all f82.enters) ((f82.shape Z x0 w Q).mpr h)

/-! ### 83: internal/strconv.FormatInt -/
def f83.sh (Z : List PanicEntry → World → Prop) (x0 x1 : Value) (w : World) (Q : Value → World → Prop) : Prop :=
  run1 Tryd.prog Z (eqOp BinOp.eql 3 false true x1 (Value.int IntKind.i64 10)) w fun t11_1 w =>
  CondV t11_1 (
    run1 Tryd.prog Z (binOp BinOp.leq 2 (Value.int IntKind.i64 0) x0) w fun t13_2 w =>
    guardW (t13_2) true (fun k => k (x0) w) (fun t15_3 w =>
    guardW (t13_2) true (fun k => run1 Tryd.prog Z (binOp BinOp.lss 2 t15_3 (Value.int IntKind.i64 100)) w k) (fun t16_4 w =>
    run1 Tryd.prog Z (pickV t13_2 t16_4 (Value.bool false)) w fun t17_5 w =>
    CondV t17_5 (
      CallV Tryd.prog Z 84 #[x0] w fun t19_6 w =>
      Q t19_6 w) (
      run1 Tryd.prog Z (Instr.alloc 189 true (.tuple #[])) w fun t5_7 w =>
      run1 Tryd.prog Z (convert 2 102 x0) w fun t21_8 w =>
      ∀ j_9 : Value → World → Prop, (∀ t6_10 : Value, ∀ w : World, (Env →
          CallV Tryd.prog Z 85 #[t6_10] w fun t27_11 w =>
          run1 Tryd.prog Z (binOp BinOp.add 3 (Value.int IntKind.i64 1) t27_11) w fun t29_12 w =>
          run1 Tryd.prog Z (Instr.sliceAt 189 t5_7 (some (Value.int IntKind.i64 1)) (some t29_12) none) w fun t30_13 w =>
          CallV Tryd.prog Z 86 #[t30_13, t6_10] w fun t32_14 w =>
          run1 Tryd.prog Z (binOp BinOp.lss 2 x0 (Value.int IntKind.i64 0)) w fun t34_15 w =>
          CondV t34_15 (
            run1 Tryd.prog Z (Instr.indexAt 189 t5_7 (Value.int IntKind.i64 0)) w fun t35_16 w =>
            run0 Tryd.prog Z (Instr.storeAt 5 t35_16 (Value.int IntKind.u8 45)) w fun w =>
            run1 Tryd.prog Z (binOp BinOp.add 3 (Value.int IntKind.i64 1) t27_11) w fun t37_17 w =>
            run1 Tryd.prog Z (Instr.sliceAt 189 t5_7 none (some t37_17) none) w fun t38_18 w =>
            run1 Tryd.prog Z (convert 22 9 t38_18) w fun t39_19 w =>
            Q t39_19 w) (
            run1 Tryd.prog Z (binOp BinOp.add 3 (Value.int IntKind.i64 1) t27_11) w fun t41_20 w =>
            run1 Tryd.prog Z (Instr.sliceAt 189 t5_7 (some (Value.int IntKind.i64 1)) (some t41_20) none) w fun t42_21 w =>
            run1 Tryd.prog Z (convert 22 9 t42_21) w fun t43_22 w =>
            Q t43_22 w)) →
          j_9 t6_10 w) →
      run1 Tryd.prog Z (binOp BinOp.lss 2 x0 (Value.int IntKind.i64 0)) w fun t23_23 w =>
      CondV t23_23 (
        run1 Tryd.prog Z (Op.unary UnOp.neg t21_8) w fun t25_24 w =>
        j_9 t25_24 w) (
        j_9 t21_8 w))) w) w) (
    run1 Tryd.prog Z (convert 2 102 x0) w fun t46_25 w =>
    run1 Tryd.prog Z (binOp BinOp.lss 2 x0 (Value.int IntKind.i64 0)) w fun t49_26 w =>
    CallV Tryd.prog Z 87 #[(Value.slice none 0 0), t46_25, x1, t49_26, (Value.bool false)] w fun t50_27 w =>
    run1 Tryd.prog Z (Instr.extract t50_27 0) w fun t51_28 w =>
    run1 Tryd.prog Z (Instr.extract t50_27 1) w fun t52_29 w =>
    Q t52_29 w)
noncomputable def f83.code : Code := match Tryd.f83.body with | some c => c | none => .skip
def f83.an : An := (.sq .leaf (.sq (.sq .leaf (.cn (.sq (.sq .leaf (.cn (.sq .leaf .leaf) .leaf)) (.sq .leaf (.sq .leaf (.sj [6] [6, 22, 23, 24, 25] (.sq .leaf (.cn .leaf .leaf)) (.sq .leaf (.sq .leaf (.sq (.sq .leaf (.cn (.sq .leaf (.sq .leaf .leaf)) .leaf)) (.sq .leaf .leaf)))))))) .leaf)) (.sq .leaf (.sq .leaf .leaf))))
theorem f83.body_eq : Tryd.f83.body = some f83.code := by kernel_rfl
theorem f83.shape (Z : List PanicEntry → World → Prop) (x0 x1 : Value) (w : World) (Q : Value → World → Prop) : vc drawD Tryd.prog 54 Z [84, 85, 86, 87] f83.an f83.code (fnQ Tryd.prog 54 Tryd.f83.results Q) (argEnv [x0, x1]) w = f83.sh Z x0 x1 w Q := by kernel_rfl
theorem f83.enters : ∀ f, f ∈ ([84, 85, 86, 87] : List Nat) → Enters Tryd.prog f := by
  intro f hf
  simp only [List.mem_cons, List.not_mem_nil, or_false] at hf
  rcases hf with rfl | rfl | rfl | rfl
  · exact en84
  · exact en85
  · exact en86
  · exact en87
theorem f83.calls {Z : List PanicEntry → World → Prop} {x0 x1 : Value} {w : World} {Q : Value → World → Prop} (h : f83.sh Z x0 x1 w Q) : CallV Tryd.prog Z 83 #[x0, x1] w Q :=
  calls_of_vcn drawD_sound (Q := Q) (n := 54) (rs := Tryd.f83.results) (an := f83.an) (c := f83.code) (cal := [84, 85, 86, 87]) (args := [x0, x1]) Tryd.func83 (by kernel_rfl) rfl f83.body_eq follows (Nat.le_of_ble_eq_true (by kernel_rfl)) (enters_of_all f83.enters) ((f83.shape Z x0 x1 w Q).mpr h)

/-! ### 84: internal/strconv.small -/
def f84.sh (Z : List PanicEntry → World → Prop) (x0 : Value) (w : World) (Q : Value → World → Prop) : Prop :=
  run1 Tryd.prog Z (binOp BinOp.lss 3 x0 (Value.int IntKind.i64 10)) w fun t4_1 w =>
  CondV t4_1 (
    run1 Tryd.prog Z (binOp BinOp.add 3 x0 (Value.int IntKind.i64 1)) w fun t7_2 w =>
    run1 Tryd.prog Z (Instr.sliceAt 9 (Value.string { data := #[48, 49, 50, 51, 52, 53, 54, 55, 56, 57, 97, 98, 99, 100, 101, 102, 103, 104, 105, 106, 107, 108, 109, 110, 111, 112, 113, 114, 115, 116, 117, 118, 119, 120, 121, 122] }) (some x0) (some t7_2) none) w fun t8_3 w =>
    Q t8_3 w) (
    run1 Tryd.prog Z (binOp BinOp.mul 3 x0 (Value.int IntKind.i64 2)) w fun t10_4 w =>
    run1 Tryd.prog Z (binOp BinOp.mul 3 x0 (Value.int IntKind.i64 2)) w fun t12_5 w =>
    run1 Tryd.prog Z (binOp BinOp.add 3 t12_5 (Value.int IntKind.i64 2)) w fun t13_6 w =>
    run1 Tryd.prog Z (Instr.sliceAt 9 (Value.string { data := #[48, 48, 48, 49, 48, 50, 48, 51, 48, 52, 48, 53, 48, 54, 48, 55, 48, 56, 48, 57, 49, 48, 49, 49, 49, 50, 49, 51, 49, 52, 49, 53, 49, 54, 49, 55, 49, 56, 49, 57, 50, 48, 50, 49, 50, 50, 50, 51, 50, 52, 50, 53, 50, 54, 50, 55, 50, 56, 50, 57, 51, 48, 51, 49, 51, 50, 51, 51, 51, 52, 51, 53, 51, 54, 51, 55, 51, 56, 51, 57, 52, 48, 52, 49, 52, 50, 52, 51, 52, 52, 52, 53, 52, 54, 52, 55, 52, 56, 52, 57, 53, 48, 53, 49, 53, 50, 53, 51, 53, 52, 53, 53, 53, 54, 53, 55, 53, 56, 53, 57, 54, 48, 54, 49, 54, 50, 54, 51, 54, 52, 54, 53, 54, 54, 54, 55, 54, 56, 54, 57, 55, 48, 55, 49, 55, 50, 55, 51, 55, 52, 55, 53, 55, 54, 55, 55, 55, 56, 55, 57, 56, 48, 56, 49, 56, 50, 56, 51, 56, 52, 56, 53, 56, 54, 56, 55, 56, 56, 56, 57, 57, 48, 57, 49, 57, 50, 57, 51, 57, 52, 57, 53, 57, 54, 57, 55, 57, 56, 57, 57] }) (some t10_4) (some t13_6) none) w fun t14_7 w =>
    Q t14_7 w)
noncomputable def f84.code : Code := match Tryd.f84.body with | some c => c | none => .skip
def f84.an : An := (.sq .leaf (.sq (.sq .leaf (.cn (.sq .leaf .leaf) .leaf)) (.sq .leaf .leaf)))
theorem f84.body_eq : Tryd.f84.body = some f84.code := by kernel_rfl
theorem f84.shape (Z : List PanicEntry → World → Prop) (x0 : Value) (w : World) (Q : Value → World → Prop) : vc drawD Tryd.prog 15 Z [] f84.an f84.code (fnQ Tryd.prog 15 Tryd.f84.results Q) (argEnv [x0]) w = f84.sh Z x0 w Q := by kernel_rfl
theorem f84.enters : ∀ f, f ∈ ([] : List Nat) → Enters Tryd.prog f := by
  intro f hf
  cases hf
theorem f84.calls {Z : List PanicEntry → World → Prop} {x0 : Value} {w : World} {Q : Value → World → Prop} (h : f84.sh Z x0 w Q) : CallV Tryd.prog Z 84 #[x0] w Q :=
  calls_of_vcn drawD_sound (Q := Q) (n := 15) (rs := Tryd.f84.results) (an := f84.an) (c := f84.code) (cal := []) (args := [x0]) Tryd.func84 (by kernel_rfl) rfl f84.body_eq follows (Nat.le_of_ble_eq_true (by kernel_rfl)) (enters_of_all f84.enters) ((f84.shape Z x0 w Q).mpr h)

/-! ### 85: internal/strconv.numDigits -/
def f85.sh (Z : List PanicEntry → World → Prop) (x0 : Value) (w : World) (Q : Value → World → Prop) : Prop :=
  CallV Tryd.prog Z 89 #[x0] w fun t5_1 w =>
  CallV Tryd.prog Z 88 #[t5_1] w fun t6_2 w =>
  run1 Tryd.prog Z (Instr.indexAt 195 (Value.pointer (some ⟨0, 0, none⟩)) t6_2) w fun t10_3 w =>
  run1 Tryd.prog Z (Instr.loadAt 102 t10_3) w fun t11_4 w =>
  run1 Tryd.prog Z (binOp BinOp.geq 102 x0 t11_4) w fun t12_5 w =>
  CallV Tryd.prog Z 90 #[t12_5] w fun t13_6 w =>
  run1 Tryd.prog Z (binOp BinOp.add 3 t6_2 t13_6) w fun t14_7 w =>
  Q t14_7 w
noncomputable def f85.code : Code := match Tryd.f85.body with | some c => c | none => .skip
def f85.an : An := (.sq .leaf (.sq .leaf (.sq .leaf .leaf)))
theorem f85.body_eq : Tryd.f85.body = some f85.code := by kernel_rfl
theorem f85.shape (Z : List PanicEntry → World → Prop) (x0 : Value) (w : World) (Q : Value → World → Prop) : vc drawD Tryd.prog 15 Z [89, 88, 90] f85.an f85.code (fnQ Tryd.prog 15 Tryd.f85.results Q) (argEnv [x0]) w = f85.sh Z x0 w Q := by kernel_rfl
theorem f85.enters : ∀ f, f ∈ ([89, 88, 90] : List Nat) → Enters Tryd.prog f := by
  intro f hf
  simp only [List.mem_cons, List.not_mem_nil, or_false] at hf
  rcases hf with rfl | rfl | rfl
  · exact en89
  · exact en88
  · exact en90
theorem f85.calls {Z : List PanicEntry → World → Prop} {x0 : Value} {w : World} {Q : Value → World → Prop} (h : f85.sh Z x0 w Q) : CallV Tryd.prog Z 85 #[x0] w Q :=
  calls_of_vcn drawD_sound (Q := Q) (n := 15) (rs := Tryd.f85.results) (an := f85.an) (c := f85.code) (cal := [89, 88, 90]) (args := [x0]) Tryd.func85 (by kernel_rfl) rfl f85.body_eq follows (Nat.le_of_ble_eq_true (by kernel_rfl)) (enters_of_all f85.enters) ((f85.shape Z x0 w Q).mpr h)

end Go.Proofs.YthobnaagjhooeaaDoor
