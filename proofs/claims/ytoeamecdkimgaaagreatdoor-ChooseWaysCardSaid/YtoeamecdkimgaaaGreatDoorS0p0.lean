import Derived.Test.YtoeamecdkimgaaaGreatDoorShBase
set_option linter.unusedVariables false
namespace Go.Proofs.YtoeamecdkimgaaaGreatDoor
open Go.Sh
/-! ### 2: gosem.cut.init -/
def f2.sh (Z : List PanicEntry → World → Prop) (w : World) (Q : Value → World → Prop) : Prop :=
  runX Tryz.prog Z (callFunc 1 #[]) w fun t0_1 w =>
  Q (Value.tuple #[]) w
noncomputable def f2.code : Code := match Tryz.f2.body with | some c => c | none => .skip
def f2.an : An := .leaf
theorem f2.body_eq : Tryz.f2.body = some f2.code := by kernel_rfl
theorem f2.shape (Z : List PanicEntry → World → Prop) (w : World) (Q : Value → World → Prop) : vc drawD Tryz.prog 1 Z [] f2.an f2.code (fnQ Tryz.prog 1 Tryz.f2.results Q) (argEnv []) w = f2.sh Z  w Q := by kernel_rfl
theorem f2.enters : ∀ f, f ∈ ([] : List Nat) → Enters Tryz.prog f := by
  intro f hf
  cases hf
theorem f2.calls {Z : List PanicEntry → World → Prop} {w : World} {Q : Value → World → Prop} (h : f2.sh Z  w Q) : CallV Tryz.prog Z 2 #[] w Q :=
  calls_of_vcn drawD_sound (Q := Q) (n := 1) (rs := Tryz.f2.results) (an := f2.an) (c := f2.code) (cal := []) (args := []) Tryz.func2 (by kernel_rfl) rfl f2.body_eq follows (Nat.le_of_ble_eq_true (by kernel_rfl)) (enters_of_all f2.enters) ((f2.shape Z  w Q).mpr h)

/-! ### 3: lagoon/lagoonlaw14.ChooseWays -/
def f3.sh (Z : List PanicEntry → World → Prop) (x0 : Value) (w : World) (Q : Value → World → Prop) : Prop :=
  run1 Tryz.prog Z (Instr.box 28 x0) w fun t1_1 w =>
  run1 Tryz.prog Z (Instr.fieldAt 28 t1_1 2) w fun t11_2 w =>
  run1 Tryz.prog Z (Instr.loadAt 25 t11_2) w fun t12_3 w =>
  CallV Tryz.prog Z 4 #[t12_3] w fun t13_4 w =>
  CondV t13_4 (
    Q (Value.bool true) w) (
    CallV Tryz.prog Z 5 #[] w fun t14_5 w =>
    run1 Tryz.prog Z (Instr.loadAt 28 t1_1) w fun t15_6 w =>
    run1 Tryz.prog Z (Instr.alloc 28 true (.tuple #[])) w fun t4_7 w =>
    run0 Tryz.prog Z (Instr.storeAt 28 t4_7 t15_6) w fun w =>
    run1 Tryz.prog Z (Instr.fieldAt 28 t1_1 2) w fun t16_8 w =>
    run1 Tryz.prog Z (Instr.loadAt 25 t16_8) w fun t17_9 w =>
    CallV Tryz.prog Z 6 #[t17_9] w fun t18_10 w =>
    run1 Tryz.prog Z (Instr.fieldAt 28 t4_7 2) w fun t19_11 w =>
    run0 Tryz.prog Z (Instr.storeAt 25 t19_11 t18_10) w fun w =>
    run1 Tryz.prog Z (Instr.loadAt 28 t4_7) w fun t21_12 w =>
    CallV Tryz.prog Z 7 #[t21_12] w fun t22_13 w =>
    run1 Tryz.prog Z (Instr.extract t22_13 0) w fun t23_14 w =>
    run1 Tryz.prog Z (Instr.extract t22_13 1) w fun t24_15 w =>
    run1 Tryz.prog Z (Instr.alloc 34 true (.tuple #[])) w fun t5_16 w =>
    run0 Tryz.prog Z (Instr.storeAt 34 t5_16 t23_14) w fun w =>
    run1 Tryz.prog Z (Instr.fieldAt 28 t1_1 0) w fun t26_17 w =>
    run1 Tryz.prog Z (Instr.loadAt 24 t26_17) w fun t27_18 w =>
    run1 Tryz.prog Z (Instr.fieldAt 28 t1_1 1) w fun t28_19 w =>
    run1 Tryz.prog Z (Instr.loadAt 24 t28_19) w fun t29_20 w =>
    run1 Tryz.prog Z (Instr.fieldAt 28 t1_1 2) w fun t30_21 w =>
    run1 Tryz.prog Z (Instr.loadAt 25 t30_21) w fun t31_22 w =>
    run1 Tryz.prog Z (Instr.fieldAt 28 t1_1 3) w fun t32_23 w =>
    run1 Tryz.prog Z (Instr.loadAt 3 t32_23) w fun t33_24 w =>
    run1 Tryz.prog Z (Instr.fieldAt 28 t1_1 4) w fun t34_25 w =>
    run1 Tryz.prog Z (Instr.loadAt 3 t34_25) w fun t35_26 w =>
    run1 Tryz.prog Z (Instr.fieldAt 28 t1_1 5) w fun t36_27 w =>
    run1 Tryz.prog Z (Instr.loadAt 26 t36_27) w fun t37_28 w =>
    CallV Tryz.prog Z 8 #[t27_18, t29_20, t31_22, t33_24, t35_26, t37_28] w fun t38_29 w =>
    run1 Tryz.prog Z (Instr.extract t38_29 0) w fun t39_30 w =>
    run1 Tryz.prog Z (Instr.extract t38_29 1) w fun t40_31 w =>
    run1 Tryz.prog Z (Instr.alloc 34 true (.tuple #[])) w fun t7_32 w =>
    run0 Tryz.prog Z (Instr.storeAt 34 t7_32 t39_30) w fun w =>
    run1 Tryz.prog Z (Op.unary UnOp.not t14_5) w fun t42_33 w =>
    guardW (t42_33) false (fun k => run1 Tryz.prog Z (Instr.loadAt 34 t5_16) w k) (fun t44_34 w =>
    guardW (t42_33) false (fun k => run1 Tryz.prog Z (Instr.loadAt 34 t7_32) w k) (fun t45_35 w =>
    guardW (t42_33) false (fun k => run1 Tryz.prog Z (eqOp BinOp.neq 34 false false t44_34 t45_35) w k) (fun t46_36 w =>
    run1 Tryz.prog Z (pickV t42_33 (Value.bool true) t46_36) w fun t47_37 w =>
    guardW (t47_37) false (fun k => k (t24_15) w) (fun t49_38 w =>
    guardW (t47_37) false (fun k => k (t40_31) w) (fun t50_39 w =>
    guardW (t47_37) false (fun k => run1 Tryz.prog Z (eqOp BinOp.neq 35 false false t49_38 t50_39) w k) (fun t51_40 w =>
    run1 Tryz.prog Z (pickV t47_37 (Value.bool true) t51_40) w fun t52_41 w =>
    guardW (t52_41) false (fun k => run1 Tryz.prog Z (Instr.fieldAt 28 t4_7 2) w k) (fun t54_42 w =>
    guardW (t52_41) false (fun k => run1 Tryz.prog Z (Instr.loadAt 25 t54_42) w k) (fun t55_43 w =>
    guardW (t52_41) false (fun k => run1 Tryz.prog Z (Instr.fieldAt 28 t1_1 2) w k) (fun t56_44 w =>
    guardW (t52_41) false (fun k => run1 Tryz.prog Z (Instr.loadAt 25 t56_44) w k) (fun t57_45 w =>
    guardW (t52_41) false (fun k => CallV Tryz.prog Z 9 #[t55_43, t57_45] w k) (fun t58_46 w =>
    guardW (t52_41) false (fun k => run1 Tryz.prog Z (Op.unary UnOp.not t58_46) w k) (fun t59_47 w =>
    run1 Tryz.prog Z (pickV t52_41 (Value.bool true) t59_47) w fun t60_48 w =>
    guardW (t60_48) false (fun k => run1 Tryz.prog Z (Instr.fieldAt 28 t4_7 2) w k) (fun t62_49 w =>
    guardW (t60_48) false (fun k => run1 Tryz.prog Z (Instr.loadAt 25 t62_49) w k) (fun t63_50 w =>
    guardW (t60_48) false (fun k => CallV Tryz.prog Z 10 #[t63_50] w k) (fun t64_51 w =>
    guardW (t60_48) false (fun k => run1 Tryz.prog Z (Op.unary UnOp.not t64_51) w k) (fun t65_52 w =>
    run1 Tryz.prog Z (pickV t60_48 (Value.bool true) t65_52) w fun t66_53 w =>
    CondV t66_53 (
      Q (Value.bool false) w) (
      ∃ J_54 : Nat → Value → World → Prop, (∃ m, J_54 m (Value.int IntKind.i64 0) w) ∧
        ∀ m_54, ∀ t9_55 : Value, ∀ w : World, J_54 m_54 t9_55 w → Env →
          run1 Tryz.prog Z (Instr.fieldAt 28 t4_7 2) w fun t68_56 w =>
          run1 Tryz.prog Z (Instr.loadAt 25 t68_56) w fun t69_57 w =>
          run1 Tryz.prog Z (Builtin.len_ #[25] 3 #[t69_57]) w fun t70_58 w =>
          run1 Tryz.prog Z (binOp BinOp.lss 3 t9_55 t70_58) w fun t71_59 w =>
          CondV t71_59 (
            run1 Tryz.prog Z (Instr.fieldAt 28 t4_7 2) w fun t74_60 w =>
            run1 Tryz.prog Z (Instr.loadAt 25 t74_60) w fun t75_61 w =>
            run1 Tryz.prog Z (convert 3 22 t9_55) w fun t78_62 w =>
            run1 Tryz.prog Z (Instr.build 24 #[(0, (Value.int IntKind.u32 9)), (1, t78_62)]) w fun t79_63 w =>
            run1 Tryz.prog Z (Instr.indexAt 25 t75_61 t9_55) w fun t80_64 w =>
            run1 Tryz.prog Z (Instr.fieldAt 49 t80_64 0) w fun t81_65 w =>
            run0 Tryz.prog Z (Instr.storeAt 24 t81_65 t79_63) w fun w =>
            run1 Tryz.prog Z (binOp BinOp.add 3 t9_55 (Value.int IntKind.i64 1)) w fun t73_66 w =>
            ∃ n_54, n_54 < m_54 ∧ J_54 n_54 t73_66 w) (
            run1 Tryz.prog Z (Instr.fieldAt 28 t4_7 2) w fun t82_67 w =>
            run1 Tryz.prog Z (Instr.loadAt 25 t82_67) w fun t83_68 w =>
            CallV Tryz.prog Z 11 #[t83_68] w fun t84_69 w =>
            run1 Tryz.prog Z (Instr.loadAt 28 t4_7) w fun t86_70 w =>
            CallV Tryz.prog Z 7 #[t86_70] w fun t87_71 w =>
            run1 Tryz.prog Z (Instr.extract t87_71 0) w fun t88_72 w =>
            run1 Tryz.prog Z (Instr.extract t87_71 1) w fun t89_73 w =>
            run0 Tryz.prog Z (Instr.storeAt 34 t5_16 t88_72) w fun w =>
            run1 Tryz.prog Z (Instr.fieldAt 28 t1_1 0) w fun t91_74 w =>
            run1 Tryz.prog Z (Instr.loadAt 24 t91_74) w fun t92_75 w =>
            run1 Tryz.prog Z (Instr.fieldAt 28 t1_1 1) w fun t93_76 w =>
            run1 Tryz.prog Z (Instr.loadAt 24 t93_76) w fun t94_77 w =>
            run1 Tryz.prog Z (Instr.fieldAt 28 t1_1 3) w fun t96_78 w =>
            run1 Tryz.prog Z (Instr.loadAt 3 t96_78) w fun t97_79 w =>
            run1 Tryz.prog Z (Instr.fieldAt 28 t1_1 4) w fun t98_80 w =>
            run1 Tryz.prog Z (Instr.loadAt 3 t98_80) w fun t99_81 w =>
            run1 Tryz.prog Z (Instr.fieldAt 28 t1_1 5) w fun t100_82 w =>
            run1 Tryz.prog Z (Instr.loadAt 26 t100_82) w fun t101_83 w =>
            CallV Tryz.prog Z 8 #[t92_75, t94_77, t84_69, t97_79, t99_81, t101_83] w fun t102_84 w =>
            run1 Tryz.prog Z (Instr.extract t102_84 0) w fun t103_85 w =>
            run1 Tryz.prog Z (Instr.extract t102_84 1) w fun t104_86 w =>
            run0 Tryz.prog Z (Instr.storeAt 34 t7_32 t103_85) w fun w =>
            run1 Tryz.prog Z (Instr.loadAt 34 t5_16) w fun t105_87 w =>
            run1 Tryz.prog Z (Instr.loadAt 34 t7_32) w fun t106_88 w =>
            run1 Tryz.prog Z (eqOp BinOp.eql 34 false false t105_87 t106_88) w fun t107_89 w =>
            guardW (t107_89) true (fun k => k (t89_73) w) (fun t109_90 w =>
            guardW (t107_89) true (fun k => k (t104_86) w) (fun t110_91 w =>
            guardW (t107_89) true (fun k => run1 Tryz.prog Z (eqOp BinOp.eql 35 false false t109_90 t110_91) w k) (fun t111_92 w =>
            run1 Tryz.prog Z (pickV t107_89 t111_92 (Value.bool false)) w fun t112_93 w =>
            Q t112_93 w) w) w) w))) w) w) w) w) w) w) w) w) w) w) w) w) w) w) w) w)
noncomputable def f3.code : Code := match Tryz.f3.body with | some c => c | none => .skip
def f3.an : An := (.sq .leaf (.sq (.sq .leaf (.cn (.sq .leaf .leaf) .leaf)) (.sq .leaf (.sq .leaf (.sq .leaf (.sq .leaf (.sq .leaf (.sq (.sq .leaf (.cn (.sq .leaf .leaf) .leaf)) (.sq (.sq .leaf (.bl (.lp [9] [9, 67, 68, 69, 70, 71, 72, 73, 74, 75, 76, 77, 78, 79, 80, 81] (.sq (.sq .leaf (.cn .leaf .leaf)) (.sq (.bl .leaf) .leaf))))) (.sq .leaf (.sq .leaf (.sq .leaf (.sq .leaf .leaf)))))))))))))
theorem f3.body_eq : Tryz.f3.body = some f3.code := by kernel_rfl
theorem f3.shape (Z : List PanicEntry → World → Prop) (x0 : Value) (w : World) (Q : Value → World → Prop) : vc drawD Tryz.prog 113 Z [4, 5, 6, 7, 8, 9, 10, 11] f3.an f3.code (fnQ Tryz.prog 113 Tryz.f3.results Q) (argEnv [x0]) w = f3.sh Z x0 w Q := by kernel_rfl
theorem f3.enters : ∀ f, f ∈ ([4, 5, 6, 7, 8, 9, 10, 11] : List Nat) → Enters Tryz.prog f := by
  intro f hf
  simp only [List.mem_cons, List.not_mem_nil, or_false] at hf
  rcases hf with rfl | rfl | rfl | rfl | rfl | rfl | rfl | rfl
  · exact en4
  · exact en5
  · exact en6
  · exact en7
  · exact en8
  · exact en9
  · exact en10
  · exact en11
theorem f3.calls {Z : List PanicEntry → World → Prop} {x0 : Value} {w : World} {Q : Value → World → Prop} (h : f3.sh Z x0 w Q) : CallV Tryz.prog Z 3 #[x0] w Q :=
  calls_of_vcn drawD_sound (Q := Q) (n := 113) (rs := Tryz.f3.results) (an := f3.an) (c := f3.code) (cal := [4, 5, 6, 7, 8, 9, 10, 11]) (args := [x0]) Tryz.func3 (by kernel_rfl) rfl f3.body_eq follows (Nat.le_of_ble_eq_true (by kernel_rfl)) (enters_of_all f3.enters) ((f3.shape Z x0 w Q).mpr h)

/-! ### 4: lagoon/lagoonref00.LargeTxns -/
def f4.sh (Z : List PanicEntry → World → Prop) (x0 : Value) (w : World) (Q : Value → World → Prop) : Prop :=
  ∃ J_1 : Nat → Value → Value → World → Prop, (∃ m, J_1 m (Value.int IntKind.i64 0) (Value.int IntKind.i64 0) w) ∧
    ∀ m_1, ∀ t3_2 : Value, ∀ t4_3 : Value, ∀ w : World, J_1 m_1 t3_2 t4_3 w → Env →
      run1 Tryz.prog Z (Builtin.len_ #[25] 3 #[x0]) w fun t7_4 w =>
      run1 Tryz.prog Z (binOp BinOp.lss 3 t4_3 t7_4) w fun t8_5 w =>
      guardW (t8_5) true (fun k => k (t3_2) w) (fun t10_6 w =>
      guardW (t8_5) true (fun k => run1 Tryz.prog Z (binOp BinOp.leq 3 t10_6 (Value.int IntKind.i64 1000000)) w k) (fun t11_7 w =>
      run1 Tryz.prog Z (pickV t8_5 t11_7 (Value.bool false)) w fun t12_8 w =>
      CondV t12_8 (
        run1 Tryz.prog Z (Instr.indexAt 25 x0 t4_3) w fun t17_9 w =>
        run1 Tryz.prog Z (Instr.fieldAt 49 t17_9 2) w fun t18_10 w =>
        run1 Tryz.prog Z (Instr.loadAt 47 t18_10) w fun t19_11 w =>
        CallV Tryz.prog Z 12 #[t19_11] w fun t20_12 w =>
        CondV t20_12 (
          Q (Value.bool true) w) (
          run1 Tryz.prog Z (binOp BinOp.add 3 t3_2 (Value.int IntKind.i64 1)) w fun t22_13 w =>
          run1 Tryz.prog Z (Instr.indexAt 25 x0 t4_3) w fun t25_14 w =>
          run1 Tryz.prog Z (Instr.fieldAt 49 t25_14 2) w fun t26_15 w =>
          run1 Tryz.prog Z (Instr.loadAt 47 t26_15) w fun t27_16 w =>
          CallV Tryz.prog Z 13 #[t27_16] w fun t28_17 w =>
          run1 Tryz.prog Z (binOp BinOp.add 3 t22_13 t28_17) w fun t29_18 w =>
          run1 Tryz.prog Z (binOp BinOp.add 3 t4_3 (Value.int IntKind.i64 1)) w fun t14_19 w =>
          ∃ n_1, n_1 < m_1 ∧ J_1 n_1 t29_18 t14_19 w)) (
        run1 Tryz.prog Z (binOp BinOp.gtr 3 t3_2 (Value.int IntKind.i64 1000000)) w fun t31_20 w =>
        Q t31_20 w)) w) w
noncomputable def f4.code : Code := match Tryz.f4.body with | some c => c | none => .skip
def f4.an : An := (.sq .leaf (.sq .leaf (.sq (.sq .leaf (.bl (.lp [3, 4] [2, 3, 4, 5, 6, 7, 8, 9, 10, 11, 12, 13, 14, 15, 16, 17, 18, 19, 20, 21, 22, 23, 24, 25, 26, 27, 28, 29] (.sq (.sq .leaf (.cn .leaf .leaf)) (.sq (.bl (.sq (.sq .leaf (.cn (.sq .leaf .leaf) .leaf)) .leaf)) .leaf))))) (.sq .leaf .leaf))))
theorem f4.body_eq : Tryz.f4.body = some f4.code := by kernel_rfl
theorem f4.shape (Z : List PanicEntry → World → Prop) (x0 : Value) (w : World) (Q : Value → World → Prop) : vc drawD Tryz.prog 32 Z [12, 13] f4.an f4.code (fnQ Tryz.prog 32 Tryz.f4.results Q) (argEnv [x0]) w = f4.sh Z x0 w Q := by kernel_rfl
theorem f4.enters : ∀ f, f ∈ ([12, 13] : List Nat) → Enters Tryz.prog f := by
  intro f hf
  simp only [List.mem_cons, List.not_mem_nil, or_false] at hf
  rcases hf with rfl | rfl
  · exact en12
  · exact en13
theorem f4.calls {Z : List PanicEntry → World → Prop} {x0 : Value} {w : World} {Q : Value → World → Prop} (h : f4.sh Z x0 w Q) : CallV Tryz.prog Z 4 #[x0] w Q :=
  calls_of_vcn drawD_sound (Q := Q) (n := 32) (rs := Tryz.f4.results) (an := f4.an) (c := f4.code) (cal := [12, 13]) (args := [x0]) Tryz.func4 (by kernel_rfl) rfl f4.body_eq follows (Nat.le_of_ble_eq_true (by kernel_rfl)) (enters_of_all f4.enters) ((f4.shape Z x0 w Q).mpr h)

/-! ### 5: lagoon/lagoonlaw14.lives -/
def f5.sh (Z : List PanicEntry → World → Prop) (w : World) (Q : Value → World → Prop) : Prop :=
  run1 Tryz.prog Z (Instr.build 24 #[]) w fun t4_1 w =>
  run1 Tryz.prog Z (Instr.build 24 #[]) w fun t5_2 w =>
  CallV Tryz.prog Z 15 #[] w fun t6_3 w =>
  CallV Tryz.prog Z 14 #[t4_1, t5_2, t6_3, (Value.int IntKind.i64 1), (Value.int IntKind.i64 0), (Value.float FloatKind.f64 0)] w fun t7_4 w =>
  run1 Tryz.prog Z (Instr.extract t7_4 0) w fun t8_5 w =>
  run1 Tryz.prog Z (Instr.extract t7_4 1) w fun t9_6 w =>
  run1 Tryz.prog Z (Instr.alloc 34 true (.tuple #[])) w fun t1_7 w =>
  run0 Tryz.prog Z (Instr.storeAt 34 t1_7 t8_5) w fun w =>
  run1 Tryz.prog Z (eqOp BinOp.eql 35 false true t9_6 (Value.int IntKind.i64 0)) w fun t11_8 w =>
  guardW (t11_8) true (fun k => run1 Tryz.prog Z (Instr.fieldAt 34 t1_7 0) w k) (fun t13_9 w =>
  guardW (t11_8) true (fun k => run1 Tryz.prog Z (Instr.loadAt 32 t13_9) w k) (fun t14_10 w =>
  guardW (t11_8) true (fun k => run1 Tryz.prog Z (eqOp BinOp.eql 32 false true t14_10 (Value.int IntKind.i8 1)) w k) (fun t15_11 w =>
  run1 Tryz.prog Z (pickV t11_8 t15_11 (Value.bool false)) w fun t16_12 w =>
  guardW (t16_12) true (fun k => run1 Tryz.prog Z (Instr.fieldAt 34 t1_7 2) w k) (fun t18_13 w =>
  guardW (t16_12) true (fun k => run1 Tryz.prog Z (Instr.loadAt 4 t18_13) w k) (fun t19_14 w =>
  run1 Tryz.prog Z (pickV t16_12 t19_14 (Value.bool false)) w fun t20_15 w =>
  guardW (t20_15) true (fun k => CallV Tryz.prog Z 15 #[] w k) (fun t22_16 w =>
  guardW (t20_15) true (fun k => CallV Tryz.prog Z 16 #[t22_16] w k) (fun t23_17 w =>
  guardW (t20_15) true (fun k => run1 Tryz.prog Z (eqOp BinOp.eql 3 false true t23_17 (Value.int IntKind.i64 26)) w k) (fun t24_18 w =>
  run1 Tryz.prog Z (pickV t20_15 t24_18 (Value.bool false)) w fun t25_19 w =>
  Q t25_19 w) w) w) w) w) w) w) w) w
noncomputable def f5.code : Code := match Tryz.f5.body with | some c => c | none => .skip
def f5.an : An := (.sq .leaf (.sq .leaf (.sq .leaf .leaf)))
theorem f5.body_eq : Tryz.f5.body = some f5.code := by kernel_rfl
theorem f5.shape (Z : List PanicEntry → World → Prop) (w : World) (Q : Value → World → Prop) : vc drawD Tryz.prog 26 Z [15, 14, 16] f5.an f5.code (fnQ Tryz.prog 26 Tryz.f5.results Q) (argEnv []) w = f5.sh Z  w Q := by kernel_rfl
theorem f5.enters : ∀ f, f ∈ ([15, 14, 16] : List Nat) → Enters Tryz.prog f := by
  intro f hf
  simp only [List.mem_cons, List.not_mem_nil, or_false] at hf
  rcases hf with rfl | rfl | rfl
  · exact en15
  · exact en14
  · exact en16
theorem f5.calls {Z : List PanicEntry → World → Prop} {w : World} {Q : Value → World → Prop} (h : f5.sh Z  w Q) : CallV Tryz.prog Z 5 #[] w Q :=
  calls_of_vcn drawD_sound (Q := Q) (n := 26) (rs := Tryz.f5.results) (an := f5.an) (c := f5.code) (cal := [15, 14, 16]) (args := []) Tryz.func5 (by kernel_rfl) rfl f5.body_eq follows (Nat.le_of_ble_eq_true (by kernel_rfl)) (enters_of_all f5.enters) ((f5.shape Z  w Q).mpr h)

/-! ### 6: lagoon/lagoonref00.WideTxns -/
def f6.sh (Z : List PanicEntry → World → Prop) (x0 : Value) (w : World) (Q : Value → World → Prop) : Prop :=
  run1 Tryz.prog Z (Builtin.len_ #[25] 3 #[x0]) w fun t6_1 w =>
  run1 Tryz.prog Z (binOp BinOp.add 3 t6_1 (Value.int IntKind.i64 64)) w fun t7_2 w =>
  run1 Tryz.prog Z (Instr.makeSlice 25 t7_2 t7_2) w fun t8_3 w =>
  ∃ J_4 : Nat → Value → World → Prop, (∃ m, J_4 m (Value.int IntKind.i64 0) w) ∧
    ∀ m_4, ∀ t4_5 : Value, ∀ w : World, J_4 m_4 t4_5 w → Env →
      run1 Tryz.prog Z (Builtin.len_ #[25] 3 #[t8_3]) w fun t11_6 w =>
      run1 Tryz.prog Z (binOp BinOp.lss 3 t4_5 t11_6) w fun t12_7 w =>
      CondV t12_7 (
        ∀ j_8 : World → Prop, (∀ w : World, (Env →
            run1 Tryz.prog Z (binOp BinOp.add 3 t4_5 (Value.int IntKind.i64 1)) w fun t14_9 w =>
            ∃ n_4, n_4 < m_4 ∧ J_4 n_4 t14_9 w) →
            j_8 w) →
        run1 Tryz.prog Z (Builtin.len_ #[25] 3 #[x0]) w fun t17_10 w =>
        run1 Tryz.prog Z (binOp BinOp.lss 3 t4_5 t17_10) w fun t18_11 w =>
        CondV t18_11 (
          run1 Tryz.prog Z (Instr.indexAt 25 x0 t4_5) w fun t23_12 w =>
          run1 Tryz.prog Z (Instr.loadAt 49 t23_12) w fun t24_13 w =>
          CallV Tryz.prog Z 17 #[t24_13] w fun t25_14 w =>
          run1 Tryz.prog Z (Instr.indexAt 25 t8_3 t4_5) w fun t26_15 w =>
          run0 Tryz.prog Z (Instr.storeAt 49 t26_15 t25_14) w fun w =>
          j_8 w) (
          run1 Tryz.prog Z (binOp BinOp.sub 3 (Value.int IntKind.i64 (-3000000)) t4_5) w fun t30_16 w =>
          run1 Tryz.prog Z (Instr.build 41 #[(2, t30_16)]) w fun t31_17 w =>
          run1 Tryz.prog Z (Instr.build 49 #[(1, t31_17)]) w fun t32_18 w =>
          run1 Tryz.prog Z (Instr.indexAt 25 t8_3 t4_5) w fun t33_19 w =>
          run0 Tryz.prog Z (Instr.storeAt 49 t33_19 t32_18) w fun w =>
          j_8 w)) (
        run1 Tryz.prog Z (Builtin.len_ #[25] 3 #[x0]) w fun t36_20 w =>
        run1 Tryz.prog Z (Instr.sliceAt 25 t8_3 none (some t36_20) none) w fun t37_21 w =>
        Q t37_21 w)
noncomputable def f6.code : Code := match Tryz.f6.body with | some c => c | none => .skip
def f6.an : An := (.sq .leaf (.sq .leaf (.sq (.sq .leaf (.bl (.lp [4] [4, 9, 10, 11, 12, 13, 14, 15, 16, 17, 18, 19, 20, 21, 22, 23, 24, 25, 26, 27, 28, 29, 30, 31, 32, 33] (.sq (.sq .leaf (.cn .leaf .leaf)) (.sj [] [15, 16, 17, 18, 19, 20, 21, 22, 23, 24, 25, 26, 27, 28, 29, 30, 31, 32, 33] (.bl (.sq .leaf (.cn .leaf .leaf))) .leaf))))) (.sq .leaf .leaf))))
theorem f6.body_eq : Tryz.f6.body = some f6.code := by kernel_rfl
theorem f6.shape (Z : List PanicEntry → World → Prop) (x0 : Value) (w : World) (Q : Value → World → Prop) : vc drawD Tryz.prog 38 Z [17] f6.an f6.code (fnQ Tryz.prog 38 Tryz.f6.results Q) (argEnv [x0]) w = f6.sh Z x0 w Q := by kernel_rfl
theorem f6.enters : ∀ f, f ∈ ([17] : List Nat) → Enters Tryz.prog f := by
  intro f hf
  simp only [List.mem_cons, List.not_mem_nil, or_false] at hf
  rcases hf with rfl
  · exact en17
theorem f6.calls {Z : List PanicEntry → World → Prop} {x0 : Value} {w : World} {Q : Value → World → Prop} (h : f6.sh Z x0 w Q) : CallV Tryz.prog Z 6 #[x0] w Q :=
  calls_of_vcn drawD_sound (Q := Q) (n := 38) (rs := Tryz.f6.results) (an := f6.an) (c := f6.code) (cal := [17]) (args := [x0]) Tryz.func6 (by kernel_rfl) rfl f6.body_eq follows (Nat.le_of_ble_eq_true (by kernel_rfl)) (enters_of_all f6.enters) ((f6.shape Z x0 w Q).mpr h)

/-! ### 7: lagoon/lagoonlaw14.ask -/
def f7.sh (Z : List PanicEntry → World → Prop) (x0 : Value) (w : World) (Q : Value → World → Prop) : Prop :=
  run1 Tryz.prog Z (Instr.box 28 x0) w fun t1_1 w =>
  run1 Tryz.prog Z (Instr.alloc 34 true (.tuple #[])) w fun t2_2 w =>
  run1 Tryz.prog Z (Instr.fieldAt 28 t1_1 0) w fun t4_3 w =>
  run1 Tryz.prog Z (Instr.loadAt 24 t4_3) w fun t5_4 w =>
  run1 Tryz.prog Z (Instr.fieldAt 28 t1_1 1) w fun t6_5 w =>
  run1 Tryz.prog Z (Instr.loadAt 24 t6_5) w fun t7_6 w =>
  run1 Tryz.prog Z (Instr.fieldAt 28 t1_1 2) w fun t8_7 w =>
  run1 Tryz.prog Z (Instr.loadAt 25 t8_7) w fun t9_8 w =>
  run1 Tryz.prog Z (Instr.fieldAt 28 t1_1 3) w fun t10_9 w =>
  run1 Tryz.prog Z (Instr.loadAt 3 t10_9) w fun t11_10 w =>
  run1 Tryz.prog Z (Instr.fieldAt 28 t1_1 4) w fun t12_11 w =>
  run1 Tryz.prog Z (Instr.loadAt 3 t12_11) w fun t13_12 w =>
  run1 Tryz.prog Z (Instr.fieldAt 28 t1_1 5) w fun t14_13 w =>
  run1 Tryz.prog Z (Instr.loadAt 26 t14_13) w fun t15_14 w =>
  CallV Tryz.prog Z 14 #[t5_4, t7_6, t9_8, t11_10, t13_12, t15_14] w fun t16_15 w =>
  run1 Tryz.prog Z (Instr.extract t16_15 0) w fun t17_16 w =>
  run1 Tryz.prog Z (Instr.extract t16_15 1) w fun t18_17 w =>
  run0 Tryz.prog Z (Instr.storeAt 34 t2_2 t17_16) w fun w =>
  ∃ r_18, (do loadVar 34 (← asAddr t2_2) : Sem Value).run Tryz.prog w = .ok r_18 w ∧
  Q (Value.tuple #[r_18, t18_17]) w
noncomputable def f7.code : Code := match Tryz.f7.body with | some c => c | none => .skip
def f7.an : An := (.sq .leaf (.sq .leaf .leaf))
theorem f7.body_eq : Tryz.f7.body = some f7.code := by kernel_rfl
theorem f7.shape (Z : List PanicEntry → World → Prop) (x0 : Value) (w : World) (Q : Value → World → Prop) : vc drawD Tryz.prog 19 Z [14] f7.an f7.code (fnQ Tryz.prog 19 Tryz.f7.results Q) (argEnv [x0]) w = f7.sh Z x0 w Q := by kernel_rfl
theorem f7.enters : ∀ f, f ∈ ([14] : List Nat) → Enters Tryz.prog f := by
  intro f hf
  simp only [List.mem_cons, List.not_mem_nil, or_false] at hf
  rcases hf with rfl
  · exact en14
theorem f7.calls {Z : List PanicEntry → World → Prop} {x0 : Value} {w : World} {Q : Value → World → Prop} (h : f7.sh Z x0 w Q) : CallV Tryz.prog Z 7 #[x0] w Q :=
  calls_of_vcn drawD_sound (Q := Q) (n := 19) (rs := Tryz.f7.results) (an := f7.an) (c := f7.code) (cal := [14]) (args := [x0]) Tryz.func7 (by kernel_rfl) rfl f7.body_eq follows (Nat.le_of_ble_eq_true (by kernel_rfl)) (enters_of_all f7.enters) ((f7.shape Z x0 w Q).mpr h)

/-! ### 8: lagoon/lagoonref14.Way -/
def f8.sh (Z : List PanicEntry → World → Prop) (x0 x1 x2 x3 x4 x5 : Value) (w : World) (Q : Value → World → Prop) : Prop :=
  run1 Tryz.prog Z (Instr.box 24 x0) w fun t6_1 w =>
  run1 Tryz.prog Z (Instr.box 24 x1) w fun t7_2 w =>
  run1 Tryz.prog Z (Instr.alloc 34 true (.tuple #[])) w fun t12_3 w =>
  run1 Tryz.prog Z (Instr.loadAt 24 t7_2) w fun t21_4 w =>
  CallV Tryz.prog Z 18 #[t21_4, x2] w fun t23_5 w =>
  run1 Tryz.prog Z (Op.unary UnOp.not t23_5) w fun t24_6 w =>
  guardW (t24_6) false (fun k => k (x3) w) (fun t26_7 w =>
  guardW (t24_6) false (fun k => run1 Tryz.prog Z (binOp BinOp.lss 3 t26_7 (Value.int IntKind.i64 0)) w k) (fun t27_8 w =>
  run1 Tryz.prog Z (pickV t24_6 (Value.bool true) t27_8) w fun t28_9 w =>
  guardW (t28_9) false (fun k => k (x3) w) (fun t30_10 w =>
  guardW (t28_9) false (fun k => k (x2) w) (fun t31_11 w =>
  guardW (t28_9) false (fun k => run1 Tryz.prog Z (Builtin.len_ #[25] 3 #[t31_11]) w k) (fun t32_12 w =>
  guardW (t28_9) false (fun k => run1 Tryz.prog Z (binOp BinOp.gtr 3 t30_10 t32_12) w k) (fun t33_13 w =>
  run1 Tryz.prog Z (pickV t28_9 (Value.bool true) t33_13) w fun t34_14 w =>
  guardW (t34_14) false (fun k => k (x4) w) (fun t36_15 w =>
  guardW (t34_14) false (fun k => run1 Tryz.prog Z (binOp BinOp.lss 3 t36_15 (Value.int IntKind.i64 0)) w k) (fun t37_16 w =>
  run1 Tryz.prog Z (pickV t34_14 (Value.bool true) t37_16) w fun t38_17 w =>
  CondV t38_17 (
    run1 Tryz.prog Z (Instr.build 34 #[]) w fun t39_18 w =>
    run0 Tryz.prog Z (Instr.storeAt 34 t12_3 t39_18) w fun w =>
    ∃ r_19, (do loadVar 34 (← asAddr t12_3) : Sem Value).run Tryz.prog w = .ok r_19 w ∧
    Q (Value.tuple #[r_19, (Value.int IntKind.i64 1)]) w) (
    run1 Tryz.prog Z (Instr.loadAt 24 t6_1) w fun t40_20 w =>
    run1 Tryz.prog Z (Instr.loadAt 24 t7_2) w fun t41_21 w =>
    CallV Tryz.prog Z 19 #[t40_20, t41_21] w fun t42_22 w =>
    run1 Tryz.prog Z (binOp BinOp.lss 3 t42_22 (Value.int IntKind.i64 0)) w fun t43_23 w =>
    CondV t43_23 (
      run1 Tryz.prog Z (Instr.build 34 #[(0, (Value.int IntKind.i8 4))]) w fun t44_24 w =>
      run0 Tryz.prog Z (Instr.storeAt 34 t12_3 t44_24) w fun w =>
      ∃ r_25, (do loadVar 34 (← asAddr t12_3) : Sem Value).run Tryz.prog w = .ok r_25 w ∧
      Q (Value.tuple #[r_25, (Value.int IntKind.i64 0)]) w) (
      run1 Tryz.prog Z (Instr.loadAt 24 t7_2) w fun t45_26 w =>
      run1 Tryz.prog Z (Instr.alloc 24 true (.tuple #[])) w fun t14_27 w =>
      run0 Tryz.prog Z (Instr.storeAt 24 t14_27 t45_26) w fun w =>
      ∃ J_28 : Nat → Value → Value → World → Prop, (∃ m, J_28 m (Value.int IntKind.i64 0) (Value.int IntKind.i64 0) w) ∧
        ∀ m_28, ∀ t15_29 : Value, ∀ t16_30 : Value, ∀ w : World, J_28 m_28 t15_29 t16_30 w → Env →
          run1 Tryz.prog Z (Builtin.len_ #[25] 3 #[x2]) w fun t48_31 w =>
          run1 Tryz.prog Z (binOp BinOp.lss 3 t16_30 t48_31) w fun t49_32 w =>
          CondV t49_32 (
            ∀ j_33 : Value → World → Prop, (∀ t15_34 : Value, ∀ w : World, (Env →
                run1 Tryz.prog Z (binOp BinOp.add 3 t16_30 (Value.int IntKind.i64 1)) w fun t51_35 w =>
                ∃ n_28, n_28 < m_28 ∧ J_28 n_28 t15_34 t51_35 w) →
                j_33 t15_34 w) →
            Drawn w fun w =>
            Pure1 Tryz.prog (Instr.indexAt 25 x2 t16_30) fun t54_36 =>
            Pure1 Tryz.prog (Instr.fieldAt 49 t54_36 0) fun t55_37 =>
            Read1 Tryz.prog (Instr.loadAt 24 t55_37) w fun t56_38 =>
            Read1 Tryz.prog (Instr.loadAt 24 t6_1) w fun t57_39 =>
            CallV Tryz.prog Z 19 #[t56_38, t57_39] w fun t58_40 w =>
            Pure1 Tryz.prog (binOp BinOp.leq 3 t58_40 (Value.int IntKind.i64 0)) fun t59_41 =>
            CondV t59_41 (
              run1 Tryz.prog Z (Instr.indexAt 25 x2 t16_30) w fun t62_42 w =>
              run1 Tryz.prog Z (Instr.fieldAt 49 t62_42 0) w fun t63_43 w =>
              run1 Tryz.prog Z (Instr.loadAt 24 t63_43) w fun t64_44 w =>
              run0 Tryz.prog Z (Instr.storeAt 24 t14_27 t64_44) w fun w =>
              run1 Tryz.prog Z (binOp BinOp.add 3 t16_30 (Value.int IntKind.i64 1)) w fun t66_45 w =>
              j_33 t66_45 w) (
              j_33 t15_29 w)) (
            run1 Tryz.prog Z (Instr.sliceAt 25 x2 (some t15_29) none none) w fun t69_46 w =>
            run1 Tryz.prog Z (Builtin.len_ #[25] 3 #[t69_46]) w fun t71_47 w =>
            run1 Tryz.prog Z (binOp BinOp.leq 3 t71_47 x3) w fun t73_48 w =>
            CallV Tryz.prog Z 21 #[t69_46] w fun t75_49 w =>
            CallV Tryz.prog Z 20 #[t75_49, x4, x5] w fun t78_50 w =>
            run1 Tryz.prog Z (Op.unary UnOp.not t73_48) w fun t80_51 w =>
            guardW (t80_51) true (fun k => k (t78_50) w) (fun t82_52 w =>
            guardW (t80_51) true (fun k => run1 Tryz.prog Z (Op.unary UnOp.not t82_52) w k) (fun t83_53 w =>
            run1 Tryz.prog Z (pickV t80_51 t83_53 (Value.bool false)) w fun t84_54 w =>
            CondV t84_54 (
              run1 Tryz.prog Z (Instr.build 34 #[(0, (Value.int IntKind.i8 4))]) w fun t85_55 w =>
              run0 Tryz.prog Z (Instr.storeAt 34 t12_3 t85_55) w fun w =>
              ∃ r_56, (do loadVar 34 (← asAddr t12_3) : Sem Value).run Tryz.prog w = .ok r_56 w ∧
              Q (Value.tuple #[r_56, (Value.int IntKind.i64 0)]) w) (
              ∀ j_57 : Value → World → Prop, (∀ t20_58 : Value, ∀ w : World, (Env →
                  run1 Tryz.prog Z (Instr.loadAt 24 t14_27) w fun t93_59 w =>
                  run1 Tryz.prog Z (Instr.build 34 #[(0, t20_58), (1, t93_59), (2, t73_48)]) w fun t95_60 w =>
                  run0 Tryz.prog Z (Instr.storeAt 34 t12_3 t95_60) w fun w =>
                  ∃ r_61, (do loadVar 34 (← asAddr t12_3) : Sem Value).run Tryz.prog w = .ok r_61 w ∧
                  Q (Value.tuple #[r_61, (Value.int IntKind.i64 0)]) w) →
                  j_57 t20_58 w) →
              run1 Tryz.prog Z (Instr.loadAt 24 t14_27) w fun t86_62 w =>
              run1 Tryz.prog Z (Instr.loadAt 24 t6_1) w fun t87_63 w =>
              run1 Tryz.prog Z (eqOp BinOp.eql 24 false false t86_62 t87_63) w fun t88_64 w =>
              CondV t88_64 (
                j_57 (Value.int IntKind.i8 1) w) (
                run1 Tryz.prog Z (Builtin.len_ #[25] 3 #[t69_46]) w fun t90_65 w =>
                run1 Tryz.prog Z (eqOp BinOp.eql 3 false true t90_65 (Value.int IntKind.i64 0)) w fun t91_66 w =>
                CondV t91_66 (
                  j_57 (Value.int IntKind.i8 2) w) (
                  j_57 (Value.int IntKind.i8 3) w)))) w) w)))) w) w) w) w) w) w) w) w
noncomputable def f8.code : Code := match Tryz.f8.body with | some c => c | none => .skip
def f8.an : An := (.sq .leaf (.sq (.sq .leaf (.cn (.sq .leaf .leaf) .leaf)) (.sq (.sq .leaf (.cn (.sq .leaf .leaf) .leaf)) (.sq .leaf (.sq .leaf (.sq (.sq .leaf (.bl (.lp [15, 16] [15, 16, 46, 47, 48, 49, 50, 51, 52, 53, 54, 55, 56, 57, 58, 59, 60, 61, 62, 63, 64, 65, 66] (.sq (.sq .leaf (.cn .leaf .leaf)) (.sj [15] [15, 52, 53, 54, 55, 56, 57, 58, 59, 60, 61, 62, 63, 64, 65, 66] (.bl (.sq (.dr (.take 0 false (.take 1 false (.take 2 false (.take 3 false (.take 4 true (.take 5 true (.one 6 (.take 7 false .fin))))))))) (.cn (.sq .leaf .leaf) .leaf))) .leaf))))) (.sq .leaf (.sq .leaf (.sq .leaf (.sq (.sq .leaf (.cn (.sq .leaf .leaf) .leaf)) (.sq .leaf (.sj [20] [20, 86, 87, 88, 89, 90, 91] (.sq .leaf (.cn .leaf (.sq .leaf (.cn .leaf .leaf)))) (.sq .leaf .leaf)))))))))))))
theorem f8.body_eq : Tryz.f8.body = some f8.code := by kernel_rfl
theorem f8.shape (Z : List PanicEntry → World → Prop) (x0 x1 x2 x3 x4 x5 : Value) (w : World) (Q : Value → World → Prop) : vc drawD Tryz.prog 96 Z [18, 19, 21, 20] f8.an f8.code (fnQ Tryz.prog 96 Tryz.f8.results Q) (argEnv [x0, x1, x2, x3, x4, x5]) w = f8.sh Z x0 x1 x2 x3 x4 x5 w Q := by kernel_rfl
theorem f8.enters : ∀ f, f ∈ ([18, 19, 21, 20] : List Nat) → Enters Tryz.prog f := by
  intro f hf
  simp only [List.mem_cons, List.not_mem_nil, or_false] at hf
  rcases hf with rfl | rfl | rfl | rfl
  · exact en18
  · exact en19
  · exact en21
  · exact en20
theorem f8.calls {Z : List PanicEntry → World → Prop} {x0 x1 x2 x3 x4 x5 : Value} {w : World} {Q : Value → World → Prop} (h : f8.sh Z x0 x1 x2 x3 x4 x5 w Q) : CallV Tryz.prog Z 8 #[x0, x1, x2, x3, x4, x5] w Q :=
  calls_of_vcn drawD_sound (Q := Q) (n := 96) (rs := Tryz.f8.results) (an := f8.an) (c := f8.code) (cal := [18, 19, 21, 20]) (args := [x0, x1, x2, x3, x4, x5]) Tryz.func8 (by kernel_rfl) rfl f8.body_eq follows (Nat.le_of_ble_eq_true (by kernel_rfl)) (enters_of_all f8.enters) ((f8.shape Z x0 x1 x2 x3 x4 x5 w Q).mpr h)

/-! ### 9: lagoon/lagoonref00.EqTxns -/
def f9.sh (Z : List PanicEntry → World → Prop) (x0 x1 : Value) (w : World) (Q : Value → World → Prop) : Prop :=
  run1 Tryz.prog Z (Builtin.len_ #[25] 3 #[x0]) w fun t7_1 w =>
  run1 Tryz.prog Z (Builtin.len_ #[25] 3 #[x1]) w fun t9_2 w =>
  run1 Tryz.prog Z (eqOp BinOp.neq 3 false false t7_1 t9_2) w fun t10_3 w =>
  CondV t10_3 (
    Q (Value.bool false) w) (
    ∃ J_4 : Nat → Value → World → Prop, (∃ m, J_4 m (Value.int IntKind.i64 0) w) ∧
      ∀ m_4, ∀ t5_5 : Value, ∀ w : World, J_4 m_4 t5_5 w → Env →
        run1 Tryz.prog Z (Builtin.len_ #[25] 3 #[x0]) w fun t13_6 w =>
        run1 Tryz.prog Z (binOp BinOp.lss 3 t5_5 t13_6) w fun t14_7 w =>
        CondV t14_7 (
          Drawn w fun w =>
          Pure1 Tryz.prog (Instr.indexAt 25 x0 t5_5) fun t19_8 =>
          Read1 Tryz.prog (Instr.loadAt 49 t19_8) w fun t20_9 =>
          Pure1 Tryz.prog (Instr.indexAt 25 x1 t5_5) fun t23_10 =>
          Read1 Tryz.prog (Instr.loadAt 49 t23_10) w fun t24_11 =>
          CallV Tryz.prog Z 22 #[t20_9, t24_11] w fun t25_12 w =>
          Pure1 Tryz.prog (Op.unary UnOp.not t25_12) fun t26_13 =>
          CondV t26_13 (
            Q (Value.bool false) w) (
            run1 Tryz.prog Z (binOp BinOp.add 3 t5_5 (Value.int IntKind.i64 1)) w fun t16_14 w =>
            ∃ n_4, n_4 < m_4 ∧ J_4 n_4 t16_14 w)) (
          Q (Value.bool true) w))
noncomputable def f9.code : Code := match Tryz.f9.body with | some c => c | none => .skip
def f9.an : An := (.sq .leaf (.sq (.sq .leaf (.cn (.sq .leaf .leaf) .leaf)) (.sq (.sq .leaf (.bl (.lp [5] [4, 5, 11, 12, 13, 14, 15, 16, 17, 18, 19, 20, 21, 22, 23, 24, 25, 26] (.sq (.sq .leaf (.cn .leaf .leaf)) (.sq (.bl (.sq (.dr (.take 0 false (.take 1 false (.take 2 false (.take 3 true (.take 4 false (.take 5 false (.take 6 false (.take 7 true (.one 8 (.take 9 false .fin))))))))))) (.cn (.sq .leaf .leaf) .leaf))) .leaf))))) (.sq .leaf .leaf))))
theorem f9.body_eq : Tryz.f9.body = some f9.code := by kernel_rfl
theorem f9.shape (Z : List PanicEntry → World → Prop) (x0 x1 : Value) (w : World) (Q : Value → World → Prop) : vc drawD Tryz.prog 27 Z [22] f9.an f9.code (fnQ Tryz.prog 27 Tryz.f9.results Q) (argEnv [x0, x1]) w = f9.sh Z x0 x1 w Q := by kernel_rfl
theorem f9.enters : ∀ f, f ∈ ([22] : List Nat) → Enters Tryz.prog f := by
  intro f hf
  simp only [List.mem_cons, List.not_mem_nil, or_false] at hf
  rcases hf with rfl
  · exact en22
theorem f9.calls {Z : List PanicEntry → World → Prop} {x0 x1 : Value} {w : World} {Q : Value → World → Prop} (h : f9.sh Z x0 x1 w Q) : CallV Tryz.prog Z 9 #[x0, x1] w Q :=
  calls_of_vcn drawD_sound (Q := Q) (n := 27) (rs := Tryz.f9.results) (an := f9.an) (c := f9.code) (cal := [22]) (args := [x0, x1]) Tryz.func9 (by kernel_rfl) rfl f9.body_eq follows (Nat.le_of_ble_eq_true (by kernel_rfl)) (enters_of_all f9.enters) ((f9.shape Z x0 x1 w Q).mpr h)

/-! ### 10: lagoon/lagoonref00.SpareTxns -/
def f10.sh (Z : List PanicEntry → World → Prop) (x0 : Value) (w : World) (Q : Value → World → Prop) : Prop :=
  run1 Tryz.prog Z (Builtin.len_ #[25] 3 #[x0]) w fun t9_1 w =>
  run1 Tryz.prog Z (binOp BinOp.add 3 t9_1 (Value.int IntKind.i64 64)) w fun t10_2 w =>
  run1 Tryz.prog Z (Instr.sliceAt 25 x0 none (some t10_2) none) w fun t11_3 w =>
  run1 Tryz.prog Z (Builtin.len_ #[25] 3 #[x0]) w fun t13_4 w =>
  ∃ J_5 : Nat → Value → World → Prop, (∃ m, J_5 m t13_4 w) ∧
    ∀ m_5, ∀ t4_6 : Value, ∀ w : World, J_5 m_5 t4_6 w → Env →
      run1 Tryz.prog Z (Builtin.len_ #[25] 3 #[t11_3]) w fun t16_7 w =>
      run1 Tryz.prog Z (binOp BinOp.lss 3 t4_6 t16_7) w fun t17_8 w =>
      CondV t17_8 (
        run1 Tryz.prog Z (Instr.indexAt 25 t11_3 t4_6) w fun t22_9 w =>
        run1 Tryz.prog Z (Instr.fieldAt 49 t22_9 1) w fun t23_10 w =>
        run1 Tryz.prog Z (Instr.fieldAt 41 t23_10 2) w fun t24_11 w =>
        run1 Tryz.prog Z (Instr.loadAt 2 t24_11) w fun t25_12 w =>
        run1 Tryz.prog Z (binOp BinOp.sub 3 (Value.int IntKind.i64 (-3000000)) t4_6) w fun t27_13 w =>
        run1 Tryz.prog Z (eqOp BinOp.eql 2 false false t25_12 t27_13) w fun t28_14 w =>
        run1 Tryz.prog Z (Op.unary UnOp.not t28_14) w fun t29_15 w =>
        CondV t29_15 (
          Q (Value.bool false) w) (
          run1 Tryz.prog Z (binOp BinOp.add 3 t4_6 (Value.int IntKind.i64 1)) w fun t19_16 w =>
          ∃ n_5, n_5 < m_5 ∧ J_5 n_5 t19_16 w)) (
        ∃ J_17 : Nat → Value → World → Prop, (∃ m, J_17 m (Value.int IntKind.i64 0) w) ∧
          ∀ m_17, ∀ t5_18 : Value, ∀ w : World, J_17 m_17 t5_18 w → Env →
            run1 Tryz.prog Z (Builtin.len_ #[25] 3 #[x0]) w fun t32_19 w =>
            run1 Tryz.prog Z (binOp BinOp.lss 3 t5_18 t32_19) w fun t33_20 w =>
            CondV t33_20 (
              run1 Tryz.prog Z (Instr.indexAt 25 x0 t5_18) w fun t38_21 w =>
              run1 Tryz.prog Z (Instr.fieldAt 49 t38_21 2) w fun t39_22 w =>
              run1 Tryz.prog Z (Instr.loadAt 47 t39_22) w fun t40_23 w =>
              CallV Tryz.prog Z 23 #[t40_23] w fun t41_24 w =>
              run1 Tryz.prog Z (Op.unary UnOp.not t41_24) w fun t43_25 w =>
              CondV t43_25 (
                Q (Value.bool false) w) (
                run1 Tryz.prog Z (binOp BinOp.add 3 t5_18 (Value.int IntKind.i64 1)) w fun t35_26 w =>
                ∃ n_17, n_17 < m_17 ∧ J_17 n_17 t35_26 w)) (
              Q (Value.bool true) w))
noncomputable def f10.code : Code := match Tryz.f10.body with | some c => c | none => .skip
def f10.an : An := (.sq .leaf (.sq .leaf (.sq (.sq .leaf (.bl (.lp [4] [2, 4, 14, 15, 16, 17, 18, 19, 20, 21, 22, 23, 24, 25, 26, 27, 28, 29] (.sq (.sq .leaf (.cn .leaf .leaf)) (.sq (.bl (.sq .leaf (.cn (.sq .leaf .leaf) .leaf))) .leaf))))) (.sq (.sq .leaf (.bl (.lp [5] [2, 5, 6, 30, 31, 32, 33, 34, 35, 36, 37, 38, 39, 40, 41, 42, 43] (.sq (.sq .leaf (.cn .leaf .leaf)) (.sq (.bl (.sq .leaf (.sq .leaf (.cn (.sq .leaf .leaf) .leaf)))) .leaf))))) (.sq .leaf .leaf)))))
theorem f10.body_eq : Tryz.f10.body = some f10.code := by kernel_rfl
theorem f10.shape (Z : List PanicEntry → World → Prop) (x0 : Value) (w : World) (Q : Value → World → Prop) : vc drawD Tryz.prog 44 Z [23] f10.an f10.code (fnQ Tryz.prog 44 Tryz.f10.results Q) (argEnv [x0]) w = f10.sh Z x0 w Q := by kernel_rfl
theorem f10.enters : ∀ f, f ∈ ([23] : List Nat) → Enters Tryz.prog f := by
  intro f hf
  simp only [List.mem_cons, List.not_mem_nil, or_false] at hf
  rcases hf with rfl
  · exact en23
theorem f10.calls {Z : List PanicEntry → World → Prop} {x0 : Value} {w : World} {Q : Value → World → Prop} (h : f10.sh Z x0 w Q) : CallV Tryz.prog Z 10 #[x0] w Q :=
  calls_of_vcn drawD_sound (Q := Q) (n := 44) (rs := Tryz.f10.results) (an := f10.an) (c := f10.code) (cal := [23]) (args := [x0]) Tryz.func10 (by kernel_rfl) rfl f10.body_eq follows (Nat.le_of_ble_eq_true (by kernel_rfl)) (enters_of_all f10.enters) ((f10.shape Z x0 w Q).mpr h)

/-! ### 11: lagoon/lagoonref00.CopyTxns -/
def f11.sh (Z : List PanicEntry → World → Prop) (x0 : Value) (w : World) (Q : Value → World → Prop) : Prop :=
  ∃ J_1 : Nat → Value → Value → World → Prop, (∃ m, J_1 m (Value.slice none 0 0) (Value.int IntKind.i64 0) w) ∧
    ∀ m_1, ∀ t3_2 : Value, ∀ t4_3 : Value, ∀ w : World, J_1 m_1 t3_2 t4_3 w → Env →
      run1 Tryz.prog Z (Builtin.len_ #[25] 3 #[x0]) w fun t7_4 w =>
      run1 Tryz.prog Z (binOp BinOp.lss 3 t4_3 t7_4) w fun t8_5 w =>
      CondV t8_5 (
        run1 Tryz.prog Z (Instr.indexAt 25 x0 t4_3) w fun t14_6 w =>
        run1 Tryz.prog Z (Instr.loadAt 49 t14_6) w fun t15_7 w =>
        CallV Tryz.prog Z 24 #[t15_7] w fun t16_8 w =>
        run1 Tryz.prog Z (Instr.buildSlice 25 1 #[(0, t16_8)]) w fun t17_9 w =>
        run1 Tryz.prog Z (Builtin.append_ #[25, 25] 25 #[t3_2, t17_9]) w fun t18_10 w =>
        run1 Tryz.prog Z (binOp BinOp.add 3 t4_3 (Value.int IntKind.i64 1)) w fun t10_11 w =>
        ∃ n_1, n_1 < m_1 ∧ J_1 n_1 t18_10 t10_11 w) (
        Q t3_2 w)
noncomputable def f11.code : Code := match Tryz.f11.body with | some c => c | none => .skip
def f11.an : An := (.sq .leaf (.sq .leaf (.sq (.sq .leaf (.bl (.lp [3, 4] [3, 4, 5, 6, 7, 8, 9, 10, 11, 12, 13, 14, 15, 16, 17, 18] (.sq (.sq .leaf (.cn .leaf .leaf)) (.sq (.bl .leaf) .leaf))))) (.sq .leaf .leaf))))
theorem f11.body_eq : Tryz.f11.body = some f11.code := by kernel_rfl
theorem f11.shape (Z : List PanicEntry → World → Prop) (x0 : Value) (w : World) (Q : Value → World → Prop) : vc drawD Tryz.prog 20 Z [24] f11.an f11.code (fnQ Tryz.prog 20 Tryz.f11.results Q) (argEnv [x0]) w = f11.sh Z x0 w Q := by kernel_rfl
theorem f11.enters : ∀ f, f ∈ ([24] : List Nat) → Enters Tryz.prog f := by
  intro f hf
  simp only [List.mem_cons, List.not_mem_nil, or_false] at hf
  rcases hf with rfl
  · exact en24
theorem f11.calls {Z : List PanicEntry → World → Prop} {x0 : Value} {w : World} {Q : Value → World → Prop} (h : f11.sh Z x0 w Q) : CallV Tryz.prog Z 11 #[x0] w Q :=
  calls_of_vcn drawD_sound (Q := Q) (n := 20) (rs := Tryz.f11.results) (an := f11.an) (c := f11.code) (cal := [24]) (args := [x0]) Tryz.func11 (by kernel_rfl) rfl f11.body_eq follows (Nat.le_of_ble_eq_true (by kernel_rfl)) (enters_of_all f11.enters) ((f11.shape Z x0 w Q).mpr h)

/-! ### 12: lagoon/lagoonref00.Large -/
def f12.sh (Z : List PanicEntry → World → Prop) (x0 : Value) (w : World) (Q : Value → World → Prop) : Prop :=
  run1 Tryz.prog Z (Instr.box 47 x0) w fun t1_1 w =>
  run1 Tryz.prog Z (Instr.loadAt 47 t1_1) w fun t3_2 w =>
  CallV Tryz.prog Z 13 #[t3_2] w fun t4_3 w =>
  run1 Tryz.prog Z (binOp BinOp.gtr 3 t4_3 (Value.int IntKind.i64 20000)) w fun t5_4 w =>
  Q t5_4 w
noncomputable def f12.code : Code := match Tryz.f12.body with | some c => c | none => .skip
def f12.an : An := (.sq .leaf (.sq .leaf .leaf))
theorem f12.body_eq : Tryz.f12.body = some f12.code := by kernel_rfl
theorem f12.shape (Z : List PanicEntry → World → Prop) (x0 : Value) (w : World) (Q : Value → World → Prop) : vc drawD Tryz.prog 6 Z [13] f12.an f12.code (fnQ Tryz.prog 6 Tryz.f12.results Q) (argEnv [x0]) w = f12.sh Z x0 w Q := by kernel_rfl
theorem f12.enters : ∀ f, f ∈ ([13] : List Nat) → Enters Tryz.prog f := by
  intro f hf
  simp only [List.mem_cons, List.not_mem_nil, or_false] at hf
  rcases hf with rfl
  · exact en13
theorem f12.calls {Z : List PanicEntry → World → Prop} {x0 : Value} {w : World} {Q : Value → World → Prop} (h : f12.sh Z x0 w Q) : CallV Tryz.prog Z 12 #[x0] w Q :=
  calls_of_vcn drawD_sound (Q := Q) (n := 6) (rs := Tryz.f12.results) (an := f12.an) (c := f12.code) (cal := [13]) (args := [x0]) Tryz.func12 (by kernel_rfl) rfl f12.body_eq follows (Nat.le_of_ble_eq_true (by kernel_rfl)) (enters_of_all f12.enters) ((f12.shape Z x0 w Q).mpr h)

/-! ### 13: lagoon/lagoonref00.Parts -/
def f13.sh (Z : List PanicEntry → World → Prop) (x0 : Value) (w : World) (Q : Value → World → Prop) : Prop :=
  run1 Tryz.prog Z (Instr.box 47 x0) w fun t1_1 w =>
  run1 Tryz.prog Z (Instr.loadAt 47 t1_1) w fun t3_2 w =>
  CallV Tryz.prog Z 25 #[t3_2, (Value.int IntKind.i64 0)] w fun t4_3 w =>
  Q t4_3 w
noncomputable def f13.code : Code := match Tryz.f13.body with | some c => c | none => .skip
def f13.an : An := (.sq .leaf (.sq .leaf .leaf))
theorem f13.body_eq : Tryz.f13.body = some f13.code := by kernel_rfl
theorem f13.shape (Z : List PanicEntry → World → Prop) (x0 : Value) (w : World) (Q : Value → World → Prop) : vc drawD Tryz.prog 5 Z [25] f13.an f13.code (fnQ Tryz.prog 5 Tryz.f13.results Q) (argEnv [x0]) w = f13.sh Z x0 w Q := by kernel_rfl
theorem f13.enters : ∀ f, f ∈ ([25] : List Nat) → Enters Tryz.prog f := by
  intro f hf
  simp only [List.mem_cons, List.not_mem_nil, or_false] at hf
  rcases hf with rfl
  · exact en25
theorem f13.calls {Z : List PanicEntry → World → Prop} {x0 : Value} {w : World} {Q : Value → World → Prop} (h : f13.sh Z x0 w Q) : CallV Tryz.prog Z 13 #[x0] w Q :=
  calls_of_vcn drawD_sound (Q := Q) (n := 5) (rs := Tryz.f13.results) (an := f13.an) (c := f13.code) (cal := [25]) (args := [x0]) Tryz.func13 (by kernel_rfl) rfl f13.body_eq follows (Nat.le_of_ble_eq_true (by kernel_rfl)) (enters_of_all f13.enters) ((f13.shape Z x0 w Q).mpr h)

/-! ### 14: lagoon/choose.Way -/
def f14.sh (Z : List PanicEntry → World → Prop) (x0 x1 x2 x3 x4 x5 : Value) (w : World) (Q : Value → World → Prop) : Prop :=
  run1 Tryz.prog Z (Instr.box 24 x0) w fun t6_1 w =>
  run1 Tryz.prog Z (Instr.box 24 x1) w fun t7_2 w =>
  run1 Tryz.prog Z (Instr.alloc 34 true (.tuple #[])) w fun t12_3 w =>
  run1 Tryz.prog Z (Instr.loadAt 24 t7_2) w fun t16_4 w =>
  CallV Tryz.prog Z 26 #[t16_4, x2] w fun t18_5 w =>
  run1 Tryz.prog Z (Op.unary UnOp.not t18_5) w fun t19_6 w =>
  guardW (t19_6) false (fun k => k (x3) w) (fun t21_7 w =>
  guardW (t19_6) false (fun k => run1 Tryz.prog Z (binOp BinOp.lss 3 t21_7 (Value.int IntKind.i64 0)) w k) (fun t22_8 w =>
  run1 Tryz.prog Z (pickV t19_6 (Value.bool true) t22_8) w fun t23_9 w =>
  guardW (t23_9) false (fun k => k (x3) w) (fun t25_10 w =>
  guardW (t23_9) false (fun k => k (x2) w) (fun t26_11 w =>
  guardW (t23_9) false (fun k => run1 Tryz.prog Z (Builtin.len_ #[25] 3 #[t26_11]) w k) (fun t27_12 w =>
  guardW (t23_9) false (fun k => run1 Tryz.prog Z (binOp BinOp.gtr 3 t25_10 t27_12) w k) (fun t28_13 w =>
  run1 Tryz.prog Z (pickV t23_9 (Value.bool true) t28_13) w fun t29_14 w =>
  guardW (t29_14) false (fun k => k (x4) w) (fun t31_15 w =>
  guardW (t29_14) false (fun k => run1 Tryz.prog Z (binOp BinOp.lss 3 t31_15 (Value.int IntKind.i64 0)) w k) (fun t32_16 w =>
  run1 Tryz.prog Z (pickV t29_14 (Value.bool true) t32_16) w fun t33_17 w =>
  CondV t33_17 (
    run1 Tryz.prog Z (Instr.build 34 #[]) w fun t34_18 w =>
    run0 Tryz.prog Z (Instr.storeAt 34 t12_3 t34_18) w fun w =>
    ∃ r_19, (do loadVar 34 (← asAddr t12_3) : Sem Value).run Tryz.prog w = .ok r_19 w ∧
    Q (Value.tuple #[r_19, (Value.int IntKind.i64 1)]) w) (
    run1 Tryz.prog Z (Instr.loadAt 24 t6_1) w fun t35_20 w =>
    run1 Tryz.prog Z (Instr.loadAt 24 t7_2) w fun t36_21 w =>
    CallV Tryz.prog Z 27 #[t35_20, t36_21] w fun t37_22 w =>
    run1 Tryz.prog Z (binOp BinOp.lss 3 t37_22 (Value.int IntKind.i64 0)) w fun t38_23 w =>
    CondV t38_23 (
      run1 Tryz.prog Z (Instr.build 34 #[(0, (Value.int IntKind.i8 4))]) w fun t39_24 w =>
      run0 Tryz.prog Z (Instr.storeAt 34 t12_3 t39_24) w fun w =>
      ∃ r_25, (do loadVar 34 (← asAddr t12_3) : Sem Value).run Tryz.prog w = .ok r_25 w ∧
      Q (Value.tuple #[r_25, (Value.int IntKind.i64 0)]) w) (
      run1 Tryz.prog Z (Instr.makeFunc (Fn.func 29) #[] #[t6_1]) w fun t41_26 w =>
      CallV Tryz.prog Z 28 #[x2, t41_26] w fun t42_27 w =>
      run1 Tryz.prog Z (Instr.loadAt 24 t7_2) w fun t43_28 w =>
      run1 Tryz.prog Z (Builtin.len_ #[25] 3 #[x2]) w fun t45_29 w =>
      run1 Tryz.prog Z (binOp BinOp.sub 3 t45_29 t42_27) w fun t47_30 w =>
      run1 Tryz.prog Z (binOp BinOp.leq 3 t47_30 x3) w fun t49_31 w =>
      run1 Tryz.prog Z (Instr.build 34 #[(1, t43_28), (2, t49_31)]) w fun t50_32 w =>
      run1 Tryz.prog Z (Instr.alloc 34 true (.tuple #[])) w fun t15_33 w =>
      run0 Tryz.prog Z (Instr.storeAt 34 t15_33 t50_32) w fun w =>
      ∀ j_34 : World → Prop, (∀ w : World, (Env →
          run1 Tryz.prog Z (Instr.fieldAt 34 t15_33 2) w fun t60_35 w =>
          run1 Tryz.prog Z (Instr.loadAt 4 t60_35) w fun t61_36 w =>
          run1 Tryz.prog Z (Op.unary UnOp.not t61_36) w fun t62_37 w =>
          guardW (t62_37) true (fun k => k (x2) w) (fun t64_38 w =>
          guardW (t62_37) true (fun k => k (t42_27) w) (fun t65_39 w =>
          guardW (t62_37) true (fun k => run1 Tryz.prog Z (Instr.sliceAt 25 t64_38 (some t65_39) none none) w k) (fun t66_40 w =>
          guardW (t62_37) true (fun k => CallV Tryz.prog Z 16 #[t66_40] w k) (fun t67_41 w =>
          guardW (t62_37) true (fun k => k (x4) w) (fun t68_42 w =>
          guardW (t62_37) true (fun k => k (x5) w) (fun t69_43 w =>
          guardW (t62_37) true (fun k => CallV Tryz.prog Z 30 #[t67_41, t68_42, t69_43] w k) (fun t70_44 w =>
          guardW (t62_37) true (fun k => run1 Tryz.prog Z (Op.unary UnOp.not t70_44) w k) (fun t71_45 w =>
          run1 Tryz.prog Z (pickV t62_37 t71_45 (Value.bool false)) w fun t72_46 w =>
          CondV t72_46 (
            run1 Tryz.prog Z (Instr.build 34 #[(0, (Value.int IntKind.i8 4))]) w fun t73_47 w =>
            run0 Tryz.prog Z (Instr.storeAt 34 t12_3 t73_47) w fun w =>
            ∃ r_48, (do loadVar 34 (← asAddr t12_3) : Sem Value).run Tryz.prog w = .ok r_48 w ∧
            Q (Value.tuple #[r_48, (Value.int IntKind.i64 0)]) w) (
            run1 Tryz.prog Z (Instr.fieldAt 34 t15_33 0) w fun t74_49 w =>
            run0 Tryz.prog Z (Instr.storeAt 32 t74_49 (Value.int IntKind.i8 1)) w fun w =>
            ∀ j_50 : World → Prop, (∀ w : World, (Env →
                run1 Tryz.prog Z (Instr.loadAt 34 t15_33) w fun t93_51 w =>
                run0 Tryz.prog Z (Instr.storeAt 34 t12_3 t93_51) w fun w =>
                ∃ r_52, (do loadVar 34 (← asAddr t12_3) : Sem Value).run Tryz.prog w = .ok r_52 w ∧
                Q (Value.tuple #[r_52, (Value.int IntKind.i64 0)]) w) →
                j_50 w) →
            ∀ j_53 : World → Prop, (∀ w : World, (Env →
                run1 Tryz.prog Z (Instr.fieldAt 34 t15_33 0) w fun t89_54 w =>
                run1 Tryz.prog Z (Instr.loadAt 32 t89_54) w fun t90_55 w =>
                run1 Tryz.prog Z (binOp BinOp.add 32 t90_55 (Value.int IntKind.i8 1)) w fun t91_56 w =>
                run1 Tryz.prog Z (Instr.fieldAt 34 t15_33 0) w fun t92_57 w =>
                run0 Tryz.prog Z (Instr.storeAt 32 t92_57 t91_56) w fun w =>
                j_50 w) →
                j_53 w) →
            run1 Tryz.prog Z (Instr.fieldAt 34 t15_33 1) w fun t76_58 w =>
            run1 Tryz.prog Z (Instr.loadAt 24 t76_58) w fun t77_59 w =>
            run1 Tryz.prog Z (Instr.loadAt 24 t6_1) w fun t78_60 w =>
            run1 Tryz.prog Z (eqOp BinOp.eql 24 false false t77_59 t78_60) w fun t79_61 w =>
            CondV t79_61 (
              j_50 w) (
              run1 Tryz.prog Z (Builtin.len_ #[25] 3 #[x2]) w fun t83_62 w =>
              run1 Tryz.prog Z (binOp BinOp.lss 3 t42_27 t83_62) w fun t84_63 w =>
              CondV t84_63 (
                run1 Tryz.prog Z (Instr.fieldAt 34 t15_33 0) w fun t85_64 w =>
                run1 Tryz.prog Z (Instr.loadAt 32 t85_64) w fun t86_65 w =>
                run1 Tryz.prog Z (binOp BinOp.add 32 t86_65 (Value.int IntKind.i8 1)) w fun t87_66 w =>
                run1 Tryz.prog Z (Instr.fieldAt 34 t15_33 0) w fun t88_67 w =>
                run0 Tryz.prog Z (Instr.storeAt 32 t88_67 t87_66) w fun w =>
                j_53 w) (
                j_53 w)))) w) w) w) w) w) w) w) w) →
          j_34 w) →
      run1 Tryz.prog Z (binOp BinOp.gtr 3 t42_27 (Value.int IntKind.i64 0)) w fun t52_68 w =>
      CondV t52_68 (
        run1 Tryz.prog Z (binOp BinOp.sub 3 t42_27 (Value.int IntKind.i64 1)) w fun t55_69 w =>
        run1 Tryz.prog Z (Instr.indexAt 25 x2 t55_69) w fun t56_70 w =>
        run1 Tryz.prog Z (Instr.fieldAt 49 t56_70 0) w fun t57_71 w =>
        run1 Tryz.prog Z (Instr.loadAt 24 t57_71) w fun t58_72 w =>
        run1 Tryz.prog Z (Instr.fieldAt 34 t15_33 1) w fun t59_73 w =>
        run0 Tryz.prog Z (Instr.storeAt 24 t59_73 t58_72) w fun w =>
        j_34 w) (
        j_34 w)))) w) w) w) w) w) w) w) w
noncomputable def f14.code : Code := match Tryz.f14.body with | some c => c | none => .skip
def f14.an : An := (.sq .leaf (.sq (.sq .leaf (.cn (.sq .leaf .leaf) .leaf)) (.sq (.sq .leaf (.cn (.sq .leaf .leaf) .leaf)) (.sq .leaf (.sq .leaf (.sj [] [51, 52, 53, 54, 55, 56, 57, 58, 59] (.sq .leaf (.cn .leaf .leaf)) (.sq (.sq .leaf (.cn (.sq .leaf .leaf) .leaf)) (.sq .leaf (.sj [] [75, 76, 77, 78, 79, 80, 81, 82, 83, 84, 85, 86, 87, 88, 89, 90, 91, 92] (.bl (.sj [] [75, 76, 77, 78, 79, 80, 81, 82, 83, 84, 85, 86, 87, 88] (.bl (.sq (.bl (.sq (.bl (.sq (.sq (.sq .leaf (.cn .leaf .leaf)) (.sq .leaf (.cn .leaf .leaf))) .leaf)) .leaf)) .leaf)) (.sq .leaf .leaf))) (.sq .leaf .leaf))))))))))
theorem f14.body_eq : Tryz.f14.body = some f14.code := by kernel_rfl
theorem f14.shape (Z : List PanicEntry → World → Prop) (x0 x1 x2 x3 x4 x5 : Value) (w : World) (Q : Value → World → Prop) : vc drawD Tryz.prog 94 Z [26, 27, 28, 16, 30] f14.an f14.code (fnQ Tryz.prog 94 Tryz.f14.results Q) (argEnv [x0, x1, x2, x3, x4, x5]) w = f14.sh Z x0 x1 x2 x3 x4 x5 w Q := by kernel_rfl
theorem f14.enters : ∀ f, f ∈ ([26, 27, 28, 16, 30] : List Nat) → Enters Tryz.prog f := by
  intro f hf
  simp only [List.mem_cons, List.not_mem_nil, or_false] at hf
  rcases hf with rfl | rfl | rfl | rfl | rfl
  · exact en26
  · exact en27
  · exact en28
  · exact en16
  · exact en30
theorem f14.calls {Z : List PanicEntry → World → Prop} {x0 x1 x2 x3 x4 x5 : Value} {w : World} {Q : Value → World → Prop} (h : f14.sh Z x0 x1 x2 x3 x4 x5 w Q) : CallV Tryz.prog Z 14 #[x0, x1, x2, x3, x4, x5] w Q :=
  calls_of_vcn drawD_sound (Q := Q) (n := 94) (rs := Tryz.f14.results) (an := f14.an) (c := f14.code) (cal := [26, 27, 28, 16, 30]) (args := [x0, x1, x2, x3, x4, x5]) Tryz.func14 (by kernel_rfl) rfl f14.body_eq follows (Nat.le_of_ble_eq_true (by kernel_rfl)) (enters_of_all f14.enters) ((f14.shape Z x0 x1 x2 x3 x4 x5 w Q).mpr h)

/-! ### 15: lagoon/lagoonlaw14.least -/
def f15.sh (Z : List PanicEntry → World → Prop) (w : World) (Q : Value → World → Prop) : Prop :=
  run1 Tryz.prog Z (Instr.build 24 #[(0, (Value.int IntKind.u32 1)), (1, (Value.int IntKind.u32 1))]) w fun t1_1 w =>
  run1 Tryz.prog Z (Instr.build 47 #[(0, (Value.int IntKind.i8 7)), (8, (Value.int IntKind.i32 1))]) w fun t2_2 w =>
  run1 Tryz.prog Z (Instr.build 49 #[(0, t1_1), (2, t2_2)]) w fun t3_3 w =>
  run1 Tryz.prog Z (Instr.buildSlice 25 1 #[(0, t3_3)]) w fun t4_4 w =>
  Q t4_4 w
noncomputable def f15.code : Code := match Tryz.f15.body with | some c => c | none => .skip
def f15.an : An := (.sq .leaf (.sq .leaf .leaf))
theorem f15.body_eq : Tryz.f15.body = some f15.code := by kernel_rfl
theorem f15.shape (Z : List PanicEntry → World → Prop) (w : World) (Q : Value → World → Prop) : vc drawD Tryz.prog 5 Z [] f15.an f15.code (fnQ Tryz.prog 5 Tryz.f15.results Q) (argEnv []) w = f15.sh Z  w Q := by kernel_rfl
theorem f15.enters : ∀ f, f ∈ ([] : List Nat) → Enters Tryz.prog f := by
  intro f hf
  cases hf
theorem f15.calls {Z : List PanicEntry → World → Prop} {w : World} {Q : Value → World → Prop} (h : f15.sh Z  w Q) : CallV Tryz.prog Z 15 #[] w Q :=
  calls_of_vcn drawD_sound (Q := Q) (n := 5) (rs := Tryz.f15.results) (an := f15.an) (c := f15.code) (cal := []) (args := []) Tryz.func15 (by kernel_rfl) rfl f15.body_eq follows (Nat.le_of_ble_eq_true (by kernel_rfl)) (enters_of_all f15.enters) ((f15.shape Z  w Q).mpr h)

/-! ### 16: lagoon/choose.Size -/
def f16.sh (Z : List PanicEntry → World → Prop) (x0 : Value) (w : World) (Q : Value → World → Prop) : Prop :=
  run1 Tryz.prog Z (Builtin.len_ #[25] 3 #[x0]) w fun t9_1 w =>
  ∃ J_2 : Nat → Value → Value → World → Prop, (∃ m, J_2 m (Value.int IntKind.i64 0) (Value.int IntKind.i64 0) w) ∧
    ∀ m_2, ∀ t3_3 : Value, ∀ t10_4 : Value, ∀ w : World, J_2 m_2 t3_3 t10_4 w → Env →
      run1 Tryz.prog Z (binOp BinOp.lss 3 t10_4 t9_1) w fun t11_5 w =>
      CondV t11_5 (
        ∀ j_6 : Value → World → Prop, (∀ t3_7 : Value, ∀ w : World, (Env →
            run1 Tryz.prog Z (binOp BinOp.add 3 t10_4 (Value.int IntKind.i64 1)) w fun t25_8 w =>
            ∃ n_2, n_2 < m_2 ∧ J_2 n_2 t3_7 t25_8 w) →
            j_6 t3_7 w) →
        run1 Tryz.prog Z (Instr.indexAt 25 x0 t10_4) w fun t12_9 w =>
        run1 Tryz.prog Z (Instr.loadAt 49 t12_9) w fun t13_10 w =>
        run1 Tryz.prog Z (Instr.alloc 49 true (.tuple #[])) w fun t5_11 w =>
        run0 Tryz.prog Z (Instr.storeAt 49 t5_11 t13_10) w fun w =>
        run1 Tryz.prog Z (Instr.loadAt 49 t5_11) w fun t15_12 w =>
        CallV Tryz.prog Z 31 #[t15_12] w fun t16_13 w =>
        run1 Tryz.prog Z (Instr.extract t16_13 0) w fun t17_14 w =>
        run1 Tryz.prog Z (Instr.extract t16_13 1) w fun t18_15 w =>
        run1 Tryz.prog Z (eqOp BinOp.eql 35 false true t18_15 (Value.int IntKind.i64 0)) w fun t20_16 w =>
        CondV t20_16 (
          run1 Tryz.prog Z (Builtin.len_ #[42] 3 #[t17_14]) w fun t23_17 w =>
          run1 Tryz.prog Z (binOp BinOp.add 3 t3_3 t23_17) w fun t24_18 w =>
          j_6 t24_18 w) (
          j_6 t3_3 w)) (
        Q t3_3 w)
noncomputable def f16.code : Code := match Tryz.f16.body with | some c => c | none => .skip
def f16.an : An := (.sq .leaf (.sq .leaf (.sq (.sq .leaf (.bl (.lp [3, 10] [3, 5, 6, 7, 10, 11, 12, 13, 14, 15, 16, 17, 18, 19, 20, 21, 22, 23, 24, 25] (.sq .leaf (.sq (.cn .leaf .leaf) (.sj [3] [3, 5, 6, 7, 12, 13, 14, 15, 16, 17, 18, 19, 20, 21, 22, 23, 24] (.bl (.sq .leaf (.sq .leaf (.sq .leaf (.cn .leaf .leaf))))) .leaf)))))) (.sq .leaf .leaf))))
theorem f16.body_eq : Tryz.f16.body = some f16.code := by kernel_rfl
theorem f16.shape (Z : List PanicEntry → World → Prop) (x0 : Value) (w : World) (Q : Value → World → Prop) : vc drawD Tryz.prog 27 Z [31] f16.an f16.code (fnQ Tryz.prog 27 Tryz.f16.results Q) (argEnv [x0]) w = f16.sh Z x0 w Q := by kernel_rfl
theorem f16.enters : ∀ f, f ∈ ([31] : List Nat) → Enters Tryz.prog f := by
  intro f hf
  simp only [List.mem_cons, List.not_mem_nil, or_false] at hf
  rcases hf with rfl
  · exact en31
theorem f16.calls {Z : List PanicEntry → World → Prop} {x0 : Value} {w : World} {Q : Value → World → Prop} (h : f16.sh Z x0 w Q) : CallV Tryz.prog Z 16 #[x0] w Q :=
  calls_of_vcn drawD_sound (Q := Q) (n := 27) (rs := Tryz.f16.results) (an := f16.an) (c := f16.code) (cal := [31]) (args := [x0]) Tryz.func16 (by kernel_rfl) rfl f16.body_eq follows (Nat.le_of_ble_eq_true (by kernel_rfl)) (enters_of_all f16.enters) ((f16.shape Z x0 w Q).mpr h)

/-! ### 17: lagoon/lagoonref00.WideTxn -/
def f17.sh (Z : List PanicEntry → World → Prop) (x0 : Value) (w : World) (Q : Value → World → Prop) : Prop :=
  run1 Tryz.prog Z (Instr.box 49 x0) w fun t1_1 w =>
  run1 Tryz.prog Z (Instr.alloc 49 true (.tuple #[])) w fun t2_2 w =>
  run1 Tryz.prog Z (Instr.fieldAt 49 t1_1 2) w fun t3_3 w =>
  run1 Tryz.prog Z (Instr.loadAt 47 t3_3) w fun t4_4 w =>
  CallV Tryz.prog Z 32 #[t4_4] w fun t5_5 w =>
  run1 Tryz.prog Z (Instr.fieldAt 49 t1_1 2) w fun t6_6 w =>
  run0 Tryz.prog Z (Instr.storeAt 47 t6_6 t5_5) w fun w =>
  run1 Tryz.prog Z (Instr.loadAt 49 t1_1) w fun t7_7 w =>
  run0 Tryz.prog Z (Instr.storeAt 49 t2_2 t7_7) w fun w =>
  ∃ r_8, (do loadVar 49 (← asAddr t2_2) : Sem Value).run Tryz.prog w = .ok r_8 w ∧
  Q r_8 w
noncomputable def f17.code : Code := match Tryz.f17.body with | some c => c | none => .skip
def f17.an : An := (.sq .leaf (.sq .leaf (.sq .leaf .leaf)))
theorem f17.body_eq : Tryz.f17.body = some f17.code := by kernel_rfl
theorem f17.shape (Z : List PanicEntry → World → Prop) (x0 : Value) (w : World) (Q : Value → World → Prop) : vc drawD Tryz.prog 8 Z [32] f17.an f17.code (fnQ Tryz.prog 8 Tryz.f17.results Q) (argEnv [x0]) w = f17.sh Z x0 w Q := by kernel_rfl
theorem f17.enters : ∀ f, f ∈ ([32] : List Nat) → Enters Tryz.prog f := by
  intro f hf
  simp only [List.mem_cons, List.not_mem_nil, or_false] at hf
  rcases hf with rfl
  · exact en32
theorem f17.calls {Z : List PanicEntry → World → Prop} {x0 : Value} {w : World} {Q : Value → World → Prop} (h : f17.sh Z x0 w Q) : CallV Tryz.prog Z 17 #[x0] w Q :=
  calls_of_vcn drawD_sound (Q := Q) (n := 8) (rs := Tryz.f17.results) (an := f17.an) (c := f17.code) (cal := [32]) (args := [x0]) Tryz.func17 (by kernel_rfl) rfl f17.body_eq follows (Nat.le_of_ble_eq_true (by kernel_rfl)) (enters_of_all f17.enters) ((f17.shape Z x0 w Q).mpr h)

/-! ### 18: lagoon/lagoonref14.rises -/
def f18.sh (Z : List PanicEntry → World → Prop) (x0 x1 : Value) (w : World) (Q : Value → World → Prop) : Prop :=
  run1 Tryz.prog Z (Instr.box 24 x0) w fun t2_1 w =>
  ∃ J_2 : Nat → Value → World → Prop, (∃ m, J_2 m (Value.int IntKind.i64 0) w) ∧
    ∀ m_2, ∀ t5_3 : Value, ∀ w : World, J_2 m_2 t5_3 w → Env →
      run1 Tryz.prog Z (Builtin.len_ #[25] 3 #[x1]) w fun t8_4 w =>
      run1 Tryz.prog Z (binOp BinOp.lss 3 t5_3 t8_4) w fun t9_5 w =>
      CondV t9_5 (
        Drawn w fun w =>
        Read1 Tryz.prog (Instr.loadAt 24 t2_1) w fun t12_6 =>
        Pure1 Tryz.prog (Instr.indexAt 25 x1 t5_3) fun t15_7 =>
        Pure1 Tryz.prog (Instr.fieldAt 49 t15_7 0) fun t16_8 =>
        Read1 Tryz.prog (Instr.loadAt 24 t16_8) w fun t17_9 =>
        CallV Tryz.prog Z 19 #[t12_6, t17_9] w fun t18_10 w =>
        Pure1 Tryz.prog (binOp BinOp.geq 3 t18_10 (Value.int IntKind.i64 0)) fun t19_11 =>
        CondV t19_11 (
          Q (Value.bool false) w) (
          run1 Tryz.prog Z (Instr.indexAt 25 x1 t5_3) w fun t22_12 w =>
          run1 Tryz.prog Z (Instr.fieldAt 49 t22_12 0) w fun t23_13 w =>
          run1 Tryz.prog Z (Instr.loadAt 24 t23_13) w fun t24_14 w =>
          run0 Tryz.prog Z (Instr.storeAt 24 t2_1 t24_14) w fun w =>
          run1 Tryz.prog Z (binOp BinOp.add 3 t5_3 (Value.int IntKind.i64 1)) w fun t11_15 w =>
          ∃ n_2, n_2 < m_2 ∧ J_2 n_2 t11_15 w)) (
        Q (Value.bool true) w)
noncomputable def f18.code : Code := match Tryz.f18.body with | some c => c | none => .skip
def f18.an : An := (.sq .leaf (.sq (.sq .leaf (.bl (.lp [5] [4, 5, 6, 7, 8, 9, 10, 11, 12, 13, 14, 15, 16, 17, 18, 19, 20, 21, 22, 23, 24] (.sq (.sq .leaf (.cn .leaf .leaf)) (.sq (.bl (.sq (.sq (.dr (.take 0 true (.take 1 false (.take 2 false (.take 3 false (.take 4 false (.take 5 true (.one 6 (.take 7 false .fin))))))))) (.cn (.sq .leaf .leaf) .leaf)) .leaf)) .leaf))))) (.sq .leaf .leaf)))
theorem f18.body_eq : Tryz.f18.body = some f18.code := by kernel_rfl
theorem f18.shape (Z : List PanicEntry → World → Prop) (x0 x1 : Value) (w : World) (Q : Value → World → Prop) : vc drawD Tryz.prog 25 Z [19] f18.an f18.code (fnQ Tryz.prog 25 Tryz.f18.results Q) (argEnv [x0, x1]) w = f18.sh Z x0 x1 w Q := by kernel_rfl
theorem f18.enters : ∀ f, f ∈ ([19] : List Nat) → Enters Tryz.prog f := by
  intro f hf
  simp only [List.mem_cons, List.not_mem_nil, or_false] at hf
  rcases hf with rfl
  · exact en19
theorem f18.calls {Z : List PanicEntry → World → Prop} {x0 x1 : Value} {w : World} {Q : Value → World → Prop} (h : f18.sh Z x0 x1 w Q) : CallV Tryz.prog Z 18 #[x0, x1] w Q :=
  calls_of_vcn drawD_sound (Q := Q) (n := 25) (rs := Tryz.f18.results) (an := f18.an) (c := f18.code) (cal := [19]) (args := [x0, x1]) Tryz.func18 (by kernel_rfl) rfl f18.body_eq follows (Nat.le_of_ble_eq_true (by kernel_rfl)) (enters_of_all f18.enters) ((f18.shape Z x0 x1 w Q).mpr h)

/-! ### 19: lagoon/lagoonref00.Compare -/
def f19.sh (Z : List PanicEntry → World → Prop) (x0 x1 : Value) (w : World) (Q : Value → World → Prop) : Prop :=
  run1 Tryz.prog Z (Instr.box 24 x0) w fun t2_1 w =>
  run1 Tryz.prog Z (Instr.box 24 x1) w fun t3_2 w =>
  run1 Tryz.prog Z (Instr.fieldAt 24 t2_1 0) w fun t6_3 w =>
  run1 Tryz.prog Z (Instr.loadAt 22 t6_3) w fun t7_4 w =>
  run1 Tryz.prog Z (Instr.fieldAt 24 t3_2 0) w fun t8_5 w =>
  run1 Tryz.prog Z (Instr.loadAt 22 t8_5) w fun t9_6 w =>
  run1 Tryz.prog Z (binOp BinOp.lss 22 t7_4 t9_6) w fun t10_7 w =>
  guardW (t10_7) false (fun k => run1 Tryz.prog Z (Instr.fieldAt 24 t2_1 0) w k) (fun t12_8 w =>
  guardW (t10_7) false (fun k => run1 Tryz.prog Z (Instr.loadAt 22 t12_8) w k) (fun t13_9 w =>
  guardW (t10_7) false (fun k => run1 Tryz.prog Z (Instr.fieldAt 24 t3_2 0) w k) (fun t14_10 w =>
  guardW (t10_7) false (fun k => run1 Tryz.prog Z (Instr.loadAt 22 t14_10) w k) (fun t15_11 w =>
  guardW (t10_7) false (fun k => run1 Tryz.prog Z (eqOp BinOp.eql 22 false false t13_9 t15_11) w k) (fun t16_12 w =>
  guardW (t10_7) false (fun k => k (t16_12) w) (fun t17_13 w =>
  guardW (t17_13) true (fun k => run1 Tryz.prog Z (Instr.fieldAt 24 t2_1 1) w k) (fun t18_14 w =>
  guardW (t17_13) true (fun k => run1 Tryz.prog Z (Instr.loadAt 22 t18_14) w k) (fun t19_15 w =>
  guardW (t17_13) true (fun k => run1 Tryz.prog Z (Instr.fieldAt 24 t3_2 1) w k) (fun t20_16 w =>
  guardW (t17_13) true (fun k => run1 Tryz.prog Z (Instr.loadAt 22 t20_16) w k) (fun t21_17 w =>
  guardW (t17_13) true (fun k => run1 Tryz.prog Z (binOp BinOp.lss 22 t19_15 t21_17) w k) (fun t22_18 w =>
  guardW (t10_7) false (fun k => run1 Tryz.prog Z (pickV t17_13 t22_18 (Value.bool false)) w k) (fun t23_19 w =>
  run1 Tryz.prog Z (pickV t10_7 (Value.bool true) t23_19) w fun t24_20 w =>
  CondV t24_20 (
    Q (Value.int IntKind.i64 (-1)) w) (
    run1 Tryz.prog Z (Instr.loadAt 24 t2_1) w fun t26_21 w =>
    run1 Tryz.prog Z (Instr.loadAt 24 t3_2) w fun t27_22 w =>
    run1 Tryz.prog Z (eqOp BinOp.eql 24 false false t26_21 t27_22) w fun t28_23 w =>
    CondV t28_23 (
      Q (Value.int IntKind.i64 0) w) (
      Q (Value.int IntKind.i64 1) w))) w) w) w) w) w) w) w) w) w) w) w) w
noncomputable def f19.code : Code := match Tryz.f19.body with | some c => c | none => .skip
def f19.an : An := (.sq .leaf (.sq (.bl (.sq .leaf (.cn (.sq .leaf .leaf) (.sq .leaf (.cn (.sq .leaf .leaf) .leaf))))) (.sq .leaf .leaf)))
theorem f19.body_eq : Tryz.f19.body = some f19.code := by kernel_rfl
theorem f19.shape (Z : List PanicEntry → World → Prop) (x0 x1 : Value) (w : World) (Q : Value → World → Prop) : vc drawD Tryz.prog 29 Z [] f19.an f19.code (fnQ Tryz.prog 29 Tryz.f19.results Q) (argEnv [x0, x1]) w = f19.sh Z x0 x1 w Q := by kernel_rfl
theorem f19.enters : ∀ f, f ∈ ([] : List Nat) → Enters Tryz.prog f := by
  intro f hf
  cases hf
theorem f19.calls {Z : List PanicEntry → World → Prop} {x0 x1 : Value} {w : World} {Q : Value → World → Prop} (h : f19.sh Z x0 x1 w Q) : CallV Tryz.prog Z 19 #[x0, x1] w Q :=
  calls_of_vcn drawD_sound (Q := Q) (n := 29) (rs := Tryz.f19.results) (an := f19.an) (c := f19.code) (cal := []) (args := [x0, x1]) Tryz.func19 (by kernel_rfl) rfl f19.body_eq follows (Nat.le_of_ble_eq_true (by kernel_rfl)) (enters_of_all f19.enters) ((f19.shape Z x0 x1 w Q).mpr h)

/-! ### 20: lagoon/lagoonref14.Under -/
def f20.sh (Z : List PanicEntry → World → Prop) (x0 x1 x2 : Value) (w : World) (Q : Value → World → Prop) : Prop :=
  run1 Tryz.prog Z (convert 3 26 x1) w fun t10_1 w =>
  run1 Tryz.prog Z (binOp BinOp.mul 26 x2 t10_1) w fun t11_2 w =>
  run1 Tryz.prog Z (convert 3 26 x0) w fun t13_3 w =>
  run1 Tryz.prog Z (binOp BinOp.leq 26 t13_3 t11_2) w fun t15_4 w =>
  Q t15_4 w
noncomputable def f20.code : Code := match Tryz.f20.body with | some c => c | none => .skip
def f20.an : An := (.sq .leaf (.sq .leaf (.sq .leaf .leaf)))
theorem f20.body_eq : Tryz.f20.body = some f20.code := by kernel_rfl
theorem f20.shape (Z : List PanicEntry → World → Prop) (x0 x1 x2 : Value) (w : World) (Q : Value → World → Prop) : vc drawD Tryz.prog 16 Z [] f20.an f20.code (fnQ Tryz.prog 16 Tryz.f20.results Q) (argEnv [x0, x1, x2]) w = f20.sh Z x0 x1 x2 w Q := by kernel_rfl
theorem f20.enters : ∀ f, f ∈ ([] : List Nat) → Enters Tryz.prog f := by
  intro f hf
  cases hf
theorem f20.calls {Z : List PanicEntry → World → Prop} {x0 x1 x2 : Value} {w : World} {Q : Value → World → Prop} (h : f20.sh Z x0 x1 x2 w Q) : CallV Tryz.prog Z 20 #[x0, x1, x2] w Q :=
  calls_of_vcn drawD_sound (Q := Q) (n := 16) (rs := Tryz.f20.results) (an := f20.an) (c := f20.code) (cal := []) (args := [x0, x1, x2]) Tryz.func20 (by kernel_rfl) rfl f20.body_eq follows (Nat.le_of_ble_eq_true (by kernel_rfl)) (enters_of_all f20.enters) ((f20.shape Z x0 x1 x2 w Q).mpr h)

/-! ### 21: lagoon/lagoonref14.Size -/
def f21.sh (Z : List PanicEntry → World → Prop) (x0 : Value) (w : World) (Q : Value → World → Prop) : Prop :=
  ∃ J_1 : Nat → Value → Value → World → Prop, (∃ m, J_1 m (Value.int IntKind.i64 0) (Value.int IntKind.i64 0) w) ∧
    ∀ m_1, ∀ t3_2 : Value, ∀ t4_3 : Value, ∀ w : World, J_1 m_1 t3_2 t4_3 w → Env →
      run1 Tryz.prog Z (Builtin.len_ #[25] 3 #[x0]) w fun t9_4 w =>
      run1 Tryz.prog Z (binOp BinOp.lss 3 t4_3 t9_4) w fun t10_5 w =>
      CondV t10_5 (
        ∀ j_6 : Value → World → Prop, (∀ t3_7 : Value, ∀ w : World, (Env →
            run1 Tryz.prog Z (binOp BinOp.add 3 t4_3 (Value.int IntKind.i64 1)) w fun t12_8 w =>
            ∃ n_1, n_1 < m_1 ∧ J_1 n_1 t3_7 t12_8 w) →
            j_6 t3_7 w) →
        run1 Tryz.prog Z (Instr.indexAt 25 x0 t4_3) w fun t16_9 w =>
        run1 Tryz.prog Z (Instr.loadAt 49 t16_9) w fun t17_10 w =>
        CallV Tryz.prog Z 33 #[t17_10] w fun t18_11 w =>
        run1 Tryz.prog Z (Instr.extract t18_11 0) w fun t19_12 w =>
        run1 Tryz.prog Z (Instr.extract t18_11 1) w fun t20_13 w =>
        run1 Tryz.prog Z (eqOp BinOp.eql 35 false true t20_13 (Value.int IntKind.i64 0)) w fun t22_14 w =>
        CondV t22_14 (
          run1 Tryz.prog Z (Builtin.len_ #[42] 3 #[t19_12]) w fun t25_15 w =>
          run1 Tryz.prog Z (binOp BinOp.add 3 t3_2 t25_15) w fun t26_16 w =>
          j_6 t26_16 w) (
          j_6 t3_2 w)) (
        Q t3_2 w)
noncomputable def f21.code : Code := match Tryz.f21.body with | some c => c | none => .skip
def f21.an : An := (.sq .leaf (.sq .leaf (.sq (.sq .leaf (.bl (.lp [3, 4] [3, 4, 5, 6, 7, 8, 9, 10, 11, 12, 13, 14, 15, 16, 17, 18, 19, 20, 21, 22, 23, 24, 25, 26] (.sq (.sq .leaf (.cn .leaf .leaf)) (.sj [3] [3, 5, 6, 13, 14, 15, 16, 17, 18, 19, 20, 21, 22, 23, 24, 25, 26] (.bl (.sq .leaf (.sq .leaf (.cn .leaf .leaf)))) .leaf))))) (.sq .leaf .leaf))))
theorem f21.body_eq : Tryz.f21.body = some f21.code := by kernel_rfl
theorem f21.shape (Z : List PanicEntry → World → Prop) (x0 : Value) (w : World) (Q : Value → World → Prop) : vc drawD Tryz.prog 28 Z [33] f21.an f21.code (fnQ Tryz.prog 28 Tryz.f21.results Q) (argEnv [x0]) w = f21.sh Z x0 w Q := by kernel_rfl
theorem f21.enters : ∀ f, f ∈ ([33] : List Nat) → Enters Tryz.prog f := by
  intro f hf
  simp only [List.mem_cons, List.not_mem_nil, or_false] at hf
  rcases hf with rfl
  · exact en33
theorem f21.calls {Z : List PanicEntry → World → Prop} {x0 : Value} {w : World} {Q : Value → World → Prop} (h : f21.sh Z x0 w Q) : CallV Tryz.prog Z 21 #[x0] w Q :=
  calls_of_vcn drawD_sound (Q := Q) (n := 28) (rs := Tryz.f21.results) (an := f21.an) (c := f21.code) (cal := [33]) (args := [x0]) Tryz.func21 (by kernel_rfl) rfl f21.body_eq follows (Nat.le_of_ble_eq_true (by kernel_rfl)) (enters_of_all f21.enters) ((f21.shape Z x0 w Q).mpr h)

/-! ### 22: lagoon/lagoonref00.EqTxn -/
def f22.sh (Z : List PanicEntry → World → Prop) (x0 x1 : Value) (w : World) (Q : Value → World → Prop) : Prop :=
  run1 Tryz.prog Z (Instr.box 49 x0) w fun t2_1 w =>
  run1 Tryz.prog Z (Instr.box 49 x1) w fun t3_2 w =>
  run1 Tryz.prog Z (Instr.fieldAt 49 t2_1 0) w fun t5_3 w =>
  run1 Tryz.prog Z (Instr.loadAt 24 t5_3) w fun t6_4 w =>
  run1 Tryz.prog Z (Instr.fieldAt 49 t3_2 0) w fun t7_5 w =>
  run1 Tryz.prog Z (Instr.loadAt 24 t7_5) w fun t8_6 w =>
  run1 Tryz.prog Z (eqOp BinOp.eql 24 false false t6_4 t8_6) w fun t9_7 w =>
  guardW (t9_7) true (fun k => run1 Tryz.prog Z (Instr.fieldAt 49 t2_1 1) w k) (fun t11_8 w =>
  guardW (t9_7) true (fun k => run1 Tryz.prog Z (Instr.loadAt 41 t11_8) w k) (fun t12_9 w =>
  guardW (t9_7) true (fun k => run1 Tryz.prog Z (Instr.fieldAt 49 t3_2 1) w k) (fun t13_10 w =>
  guardW (t9_7) true (fun k => run1 Tryz.prog Z (Instr.loadAt 41 t13_10) w k) (fun t14_11 w =>
  guardW (t9_7) true (fun k => run1 Tryz.prog Z (eqOp BinOp.eql 41 false false t12_9 t14_11) w k) (fun t15_12 w =>
  run1 Tryz.prog Z (pickV t9_7 t15_12 (Value.bool false)) w fun t16_13 w =>
  guardW (t16_13) true (fun k => run1 Tryz.prog Z (Instr.fieldAt 49 t2_1 2) w k) (fun t18_14 w =>
  guardW (t16_13) true (fun k => run1 Tryz.prog Z (Instr.loadAt 47 t18_14) w k) (fun t19_15 w =>
  guardW (t16_13) true (fun k => run1 Tryz.prog Z (Instr.fieldAt 49 t3_2 2) w k) (fun t20_16 w =>
  guardW (t16_13) true (fun k => run1 Tryz.prog Z (Instr.loadAt 47 t20_16) w k) (fun t21_17 w =>
  guardW (t16_13) true (fun k => CallV Tryz.prog Z 34 #[t19_15, t21_17] w k) (fun t22_18 w =>
  run1 Tryz.prog Z (pickV t16_13 t22_18 (Value.bool false)) w fun t23_19 w =>
  Q t23_19 w) w) w) w) w) w) w) w) w) w) w
noncomputable def f22.code : Code := match Tryz.f22.body with | some c => c | none => .skip
def f22.an : An := (.sq .leaf (.sq .leaf .leaf))
theorem f22.body_eq : Tryz.f22.body = some f22.code := by kernel_rfl
theorem f22.shape (Z : List PanicEntry → World → Prop) (x0 x1 : Value) (w : World) (Q : Value → World → Prop) : vc drawD Tryz.prog 24 Z [34] f22.an f22.code (fnQ Tryz.prog 24 Tryz.f22.results Q) (argEnv [x0, x1]) w = f22.sh Z x0 x1 w Q := by kernel_rfl
theorem f22.enters : ∀ f, f ∈ ([34] : List Nat) → Enters Tryz.prog f := by
  intro f hf
  simp only [List.mem_cons, List.not_mem_nil, or_false] at hf
  rcases hf with rfl
  · exact en34
theorem f22.calls {Z : List PanicEntry → World → Prop} {x0 x1 : Value} {w : World} {Q : Value → World → Prop} (h : f22.sh Z x0 x1 w Q) : CallV Tryz.prog Z 22 #[x0, x1] w Q :=
  calls_of_vcn drawD_sound (Q := Q) (n := 24) (rs := Tryz.f22.results) (an := f22.an) (c := f22.code) (cal := [34]) (args := [x0, x1]) Tryz.func22 (by kernel_rfl) rfl f22.body_eq follows (Nat.le_of_ble_eq_true (by kernel_rfl)) (enters_of_all f22.enters) ((f22.shape Z x0 x1 w Q).mpr h)

/-! ### 23: lagoon/lagoonref00.SpareRequest -/
def f23.sh (Z : List PanicEntry → World → Prop) (x0 : Value) (w : World) (Q : Value → World → Prop) : Prop :=
  run1 Tryz.prog Z (Instr.box 47 x0) w fun t1_1 w =>
  run1 Tryz.prog Z (Instr.fieldAt 47 t1_1 2) w fun t3_2 w =>
  run1 Tryz.prog Z (Instr.loadAt 42 t3_2) w fun t4_3 w =>
  CallV Tryz.prog Z 35 #[t4_3] w fun t5_4 w =>
  guardW (t5_4) true (fun k => run1 Tryz.prog Z (Instr.fieldAt 47 t1_1 3) w k) (fun t7_5 w =>
  guardW (t5_4) true (fun k => run1 Tryz.prog Z (Instr.loadAt 43 t7_5) w k) (fun t8_6 w =>
  guardW (t5_4) true (fun k => CallV Tryz.prog Z 36 #[t8_6] w k) (fun t9_7 w =>
  run1 Tryz.prog Z (pickV t5_4 t9_7 (Value.bool false)) w fun t10_8 w =>
  guardW (t10_8) true (fun k => run1 Tryz.prog Z (Instr.fieldAt 47 t1_1 9) w k) (fun t12_9 w =>
  guardW (t10_8) true (fun k => run1 Tryz.prog Z (Instr.loadAt 44 t12_9) w k) (fun t13_10 w =>
  guardW (t10_8) true (fun k => CallV Tryz.prog Z 37 #[t13_10] w k) (fun t14_11 w =>
  run1 Tryz.prog Z (pickV t10_8 t14_11 (Value.bool false)) w fun t15_12 w =>
  guardW (t15_12) true (fun k => run1 Tryz.prog Z (Instr.fieldAt 47 t1_1 10) w k) (fun t17_13 w =>
  guardW (t15_12) true (fun k => run1 Tryz.prog Z (Instr.loadAt 45 t17_13) w k) (fun t18_14 w =>
  guardW (t15_12) true (fun k => CallV Tryz.prog Z 38 #[t18_14] w k) (fun t19_15 w =>
  run1 Tryz.prog Z (pickV t15_12 t19_15 (Value.bool false)) w fun t20_16 w =>
  Q t20_16 w) w) w) w) w) w) w) w) w) w
noncomputable def f23.code : Code := match Tryz.f23.body with | some c => c | none => .skip
def f23.an : An := (.sq .leaf (.sq .leaf .leaf))
theorem f23.body_eq : Tryz.f23.body = some f23.code := by kernel_rfl
theorem f23.shape (Z : List PanicEntry → World → Prop) (x0 : Value) (w : World) (Q : Value → World → Prop) : vc drawD Tryz.prog 21 Z [35, 36, 37, 38] f23.an f23.code (fnQ Tryz.prog 21 Tryz.f23.results Q) (argEnv [x0]) w = f23.sh Z x0 w Q := by kernel_rfl
theorem f23.enters : ∀ f, f ∈ ([35, 36, 37, 38] : List Nat) → Enters Tryz.prog f := by
  intro f hf
  simp only [List.mem_cons, List.not_mem_nil, or_false] at hf
  rcases hf with rfl | rfl | rfl | rfl
  · exact en35
  · exact en36
  · exact en37
  · exact en38
theorem f23.calls {Z : List PanicEntry → World → Prop} {x0 : Value} {w : World} {Q : Value → World → Prop} (h : f23.sh Z x0 w Q) : CallV Tryz.prog Z 23 #[x0] w Q :=
  calls_of_vcn drawD_sound (Q := Q) (n := 21) (rs := Tryz.f23.results) (an := f23.an) (c := f23.code) (cal := [35, 36, 37, 38]) (args := [x0]) Tryz.func23 (by kernel_rfl) rfl f23.body_eq follows (Nat.le_of_ble_eq_true (by kernel_rfl)) (enters_of_all f23.enters) ((f23.shape Z x0 w Q).mpr h)

/-! ### 24: lagoon/lagoonref00.CopyTxn -/
def f24.sh (Z : List PanicEntry → World → Prop) (x0 : Value) (w : World) (Q : Value → World → Prop) : Prop :=
  run1 Tryz.prog Z (Instr.box 49 x0) w fun t1_1 w =>
  run1 Tryz.prog Z (Instr.alloc 49 true (.tuple #[])) w fun t2_2 w =>
  run1 Tryz.prog Z (Instr.fieldAt 49 t1_1 2) w fun t3_3 w =>
  run1 Tryz.prog Z (Instr.loadAt 47 t3_3) w fun t4_4 w =>
  CallV Tryz.prog Z 39 #[t4_4] w fun t5_5 w =>
  run1 Tryz.prog Z (Instr.fieldAt 49 t1_1 2) w fun t6_6 w =>
  run0 Tryz.prog Z (Instr.storeAt 47 t6_6 t5_5) w fun w =>
  run1 Tryz.prog Z (Instr.loadAt 49 t1_1) w fun t7_7 w =>
  run0 Tryz.prog Z (Instr.storeAt 49 t2_2 t7_7) w fun w =>
  ∃ r_8, (do loadVar 49 (← asAddr t2_2) : Sem Value).run Tryz.prog w = .ok r_8 w ∧
  Q r_8 w
noncomputable def f24.code : Code := match Tryz.f24.body with | some c => c | none => .skip
def f24.an : An := (.sq .leaf (.sq .leaf (.sq .leaf .leaf)))
theorem f24.body_eq : Tryz.f24.body = some f24.code := by kernel_rfl
theorem f24.shape (Z : List PanicEntry → World → Prop) (x0 : Value) (w : World) (Q : Value → World → Prop) : vc drawD Tryz.prog 8 Z [39] f24.an f24.code (fnQ Tryz.prog 8 Tryz.f24.results Q) (argEnv [x0]) w = f24.sh Z x0 w Q := by kernel_rfl
theorem f24.enters : ∀ f, f ∈ ([39] : List Nat) → Enters Tryz.prog f := by
  intro f hf
  simp only [List.mem_cons, List.not_mem_nil, or_false] at hf
  rcases hf with rfl
  · exact en39
theorem f24.calls {Z : List PanicEntry → World → Prop} {x0 : Value} {w : World} {Q : Value → World → Prop} (h : f24.sh Z x0 w Q) : CallV Tryz.prog Z 24 #[x0] w Q :=
  calls_of_vcn drawD_sound (Q := Q) (n := 8) (rs := Tryz.f24.results) (an := f24.an) (c := f24.code) (cal := [39]) (args := [x0]) Tryz.func24 (by kernel_rfl) rfl f24.body_eq follows (Nat.le_of_ble_eq_true (by kernel_rfl)) (enters_of_all f24.enters) ((f24.shape Z x0 w Q).mpr h)

/-! ### 25: lagoon/lagoonref00.parts -/
def f25.sh (Z : List PanicEntry → World → Prop) (x0 x1 : Value) (w : World) (Q : Value → World → Prop) : Prop :=
  run1 Tryz.prog Z (Instr.box 47 x0) w fun t2_1 w =>
  run1 Tryz.prog Z (binOp BinOp.add 3 x1 (Value.int IntKind.i64 1)) w fun t7_2 w =>
  run1 Tryz.prog Z (Instr.fieldAt 47 t2_1 2) w fun t8_3 w =>
  run1 Tryz.prog Z (Instr.loadAt 42 t8_3) w fun t9_4 w =>
  run1 Tryz.prog Z (Builtin.len_ #[42] 3 #[t9_4]) w fun t10_5 w =>
  run1 Tryz.prog Z (binOp BinOp.add 3 t7_2 t10_5) w fun t11_6 w =>
  run1 Tryz.prog Z (Instr.fieldAt 47 t2_1 3) w fun t12_7 w =>
  run1 Tryz.prog Z (Instr.loadAt 43 t12_7) w fun t13_8 w =>
  run1 Tryz.prog Z (Builtin.len_ #[43] 3 #[t13_8]) w fun t14_9 w =>
  run1 Tryz.prog Z (binOp BinOp.add 3 t11_6 t14_9) w fun t15_10 w =>
  run1 Tryz.prog Z (Instr.fieldAt 47 t2_1 9) w fun t16_11 w =>
  run1 Tryz.prog Z (Instr.loadAt 44 t16_11) w fun t17_12 w =>
  run1 Tryz.prog Z (Builtin.len_ #[44] 3 #[t17_12]) w fun t18_13 w =>
  run1 Tryz.prog Z (binOp BinOp.add 3 t15_10 t18_13) w fun t19_14 w =>
  ∃ J_15 : Nat → Value → Value → World → Prop, (∃ m, J_15 m t19_14 (Value.int IntKind.i64 0) w) ∧
    ∀ m_15, ∀ t1_16 : Value, ∀ t5_17 : Value, ∀ w : World, J_15 m_15 t1_16 t5_17 w → Env →
      run1 Tryz.prog Z (Instr.fieldAt 47 t2_1 10) w fun t21_18 w =>
      run1 Tryz.prog Z (Instr.loadAt 45 t21_18) w fun t22_19 w =>
      run1 Tryz.prog Z (Builtin.len_ #[45] 3 #[t22_19]) w fun t23_20 w =>
      run1 Tryz.prog Z (binOp BinOp.lss 3 t5_17 t23_20) w fun t24_21 w =>
      guardW (t24_21) true (fun k => k (t1_16) w) (fun t26_22 w =>
      guardW (t24_21) true (fun k => run1 Tryz.prog Z (binOp BinOp.leq 3 t26_22 (Value.int IntKind.i64 20000)) w k) (fun t27_23 w =>
      run1 Tryz.prog Z (pickV t24_21 t27_23 (Value.bool false)) w fun t28_24 w =>
      CondV t28_24 (
        run1 Tryz.prog Z (Instr.fieldAt 47 t2_1 10) w fun t31_25 w =>
        run1 Tryz.prog Z (Instr.loadAt 45 t31_25) w fun t32_26 w =>
        run1 Tryz.prog Z (Instr.indexAt 45 t32_26 t5_17) w fun t34_27 w =>
        run1 Tryz.prog Z (Instr.loadAt 47 t34_27) w fun t35_28 w =>
        CallV Tryz.prog Z 25 #[t35_28, t1_16] w fun t37_29 w =>
        run1 Tryz.prog Z (binOp BinOp.add 3 t5_17 (Value.int IntKind.i64 1)) w fun t30_30 w =>
        ∃ n_15, n_15 < m_15 ∧ J_15 n_15 t37_29 t30_30 w) (
        Q t1_16 w)) w) w
noncomputable def f25.code : Code := match Tryz.f25.body with | some c => c | none => .skip
def f25.an : An := (.sq .leaf (.sq .leaf (.sq (.sq .leaf (.bl (.lp [1, 5] [1, 5, 20, 21, 22, 23, 24, 25, 26, 27, 28, 29, 30, 31, 32, 33, 34, 35, 36, 37] (.sq (.sq .leaf (.cn .leaf .leaf)) (.sq (.bl .leaf) .leaf))))) (.sq .leaf .leaf))))
theorem f25.body_eq : Tryz.f25.body = some f25.code := by kernel_rfl
theorem f25.shape (Z : List PanicEntry → World → Prop) (x0 x1 : Value) (w : World) (Q : Value → World → Prop) : vc drawD Tryz.prog 39 Z [25] f25.an f25.code (fnQ Tryz.prog 39 Tryz.f25.results Q) (argEnv [x0, x1]) w = f25.sh Z x0 x1 w Q := by kernel_rfl
theorem f25.enters : ∀ f, f ∈ ([25] : List Nat) → Enters Tryz.prog f := by
  intro f hf
  simp only [List.mem_cons, List.not_mem_nil, or_false] at hf
  rcases hf with rfl
  · exact en25
theorem f25.calls {Z : List PanicEntry → World → Prop} {x0 x1 : Value} {w : World} {Q : Value → World → Prop} (h : f25.sh Z x0 x1 w Q) : CallV Tryz.prog Z 25 #[x0, x1] w Q :=
  calls_of_vcn drawD_sound (Q := Q) (n := 39) (rs := Tryz.f25.results) (an := f25.an) (c := f25.code) (cal := [25]) (args := [x0, x1]) Tryz.func25 (by kernel_rfl) rfl f25.body_eq follows (Nat.le_of_ble_eq_true (by kernel_rfl)) (enters_of_all f25.enters) ((f25.shape Z x0 x1 w Q).mpr h)

/-! ### 26: lagoon/txn.Rises -/
def f26.sh (Z : List PanicEntry → World → Prop) (x0 x1 : Value) (w : World) (Q : Value → World → Prop) : Prop :=
  run1 Tryz.prog Z (Instr.box 24 x0) w fun t2_1 w =>
  run1 Tryz.prog Z (Builtin.len_ #[25] 3 #[x1]) w fun t8_2 w =>
  ∃ J_3 : Nat → Value → World → Prop, (∃ m, J_3 m (Value.int IntKind.i64 0) w) ∧
    ∀ m_3, ∀ t9_4 : Value, ∀ w : World, J_3 m_3 t9_4 w → Env →
      run1 Tryz.prog Z (binOp BinOp.lss 3 t9_4 t8_2) w fun t10_5 w =>
      CondV t10_5 (
        run1 Tryz.prog Z (Instr.indexAt 25 x1 t9_4) w fun t11_6 w =>
        run1 Tryz.prog Z (Instr.loadAt 49 t11_6) w fun t12_7 w =>
        run1 Tryz.prog Z (Instr.alloc 49 true (.tuple #[])) w fun t6_8 w =>
        run0 Tryz.prog Z (Instr.storeAt 49 t6_8 t12_7) w fun w =>
        run1 Tryz.prog Z (Instr.loadAt 24 t2_1) w fun t13_9 w =>
        run1 Tryz.prog Z (Instr.fieldAt 49 t6_8 0) w fun t14_10 w =>
        run1 Tryz.prog Z (Instr.loadAt 24 t14_10) w fun t15_11 w =>
        CallV Tryz.prog Z 27 #[t13_9, t15_11] w fun t16_12 w =>
        run1 Tryz.prog Z (binOp BinOp.geq 3 t16_12 (Value.int IntKind.i64 0)) w fun t17_13 w =>
        CondV t17_13 (
          Q (Value.bool false) w) (
          run1 Tryz.prog Z (Instr.fieldAt 49 t6_8 0) w fun t18_14 w =>
          run1 Tryz.prog Z (Instr.loadAt 24 t18_14) w fun t19_15 w =>
          run0 Tryz.prog Z (Instr.storeAt 24 t2_1 t19_15) w fun w =>
          run1 Tryz.prog Z (binOp BinOp.add 3 t9_4 (Value.int IntKind.i64 1)) w fun t20_16 w =>
          ∃ n_3, n_3 < m_3 ∧ J_3 n_3 t20_16 w)) (
        Q (Value.bool true) w)
noncomputable def f26.code : Code := match Tryz.f26.body with | some c => c | none => .skip
def f26.an : An := (.sq .leaf (.sq (.sq .leaf (.bl (.lp [9] [4, 6, 9, 10, 11, 12, 13, 14, 15, 16, 17, 18, 19, 20] (.sq .leaf (.sq (.cn .leaf .leaf) (.sq (.bl (.sq .leaf (.sq (.sq .leaf (.cn (.sq .leaf .leaf) .leaf)) .leaf))) .leaf)))))) (.sq .leaf .leaf)))
theorem f26.body_eq : Tryz.f26.body = some f26.code := by kernel_rfl
theorem f26.shape (Z : List PanicEntry → World → Prop) (x0 x1 : Value) (w : World) (Q : Value → World → Prop) : vc drawD Tryz.prog 21 Z [27] f26.an f26.code (fnQ Tryz.prog 21 Tryz.f26.results Q) (argEnv [x0, x1]) w = f26.sh Z x0 x1 w Q := by kernel_rfl
theorem f26.enters : ∀ f, f ∈ ([27] : List Nat) → Enters Tryz.prog f := by
  intro f hf
  simp only [List.mem_cons, List.not_mem_nil, or_false] at hf
  rcases hf with rfl
  · exact en27
theorem f26.calls {Z : List PanicEntry → World → Prop} {x0 x1 : Value} {w : World} {Q : Value → World → Prop} (h : f26.sh Z x0 x1 w Q) : CallV Tryz.prog Z 26 #[x0, x1] w Q :=
  calls_of_vcn drawD_sound (Q := Q) (n := 21) (rs := Tryz.f26.results) (an := f26.an) (c := f26.code) (cal := [27]) (args := [x0, x1]) Tryz.func26 (by kernel_rfl) rfl f26.body_eq follows (Nat.le_of_ble_eq_true (by kernel_rfl)) (enters_of_all f26.enters) ((f26.shape Z x0 x1 w Q).mpr h)

/-! ### 27: lagoon/txn.Compare -/
def f27.sh (Z : List PanicEntry → World → Prop) (x0 x1 : Value) (w : World) (Q : Value → World → Prop) : Prop :=
  run1 Tryz.prog Z (Instr.box 24 x0) w fun t2_1 w =>
  run1 Tryz.prog Z (Instr.box 24 x1) w fun t3_2 w =>
  Drawn w fun w =>
  Pure1 Tryz.prog (Instr.fieldAt 24 t2_1 0) fun t5_3 =>
  Read1 Tryz.prog (Instr.loadAt 22 t5_3) w fun t6_4 =>
  Pure1 Tryz.prog (Instr.fieldAt 24 t3_2 0) fun t7_5 =>
  Read1 Tryz.prog (Instr.loadAt 22 t7_5) w fun t8_6 =>
  Pure1 Tryz.prog (Instr.fieldAt 24 t2_1 1) fun t10_7 =>
  Read1 Tryz.prog (Instr.loadAt 22 t10_7) w fun t11_8 =>
  Pure1 Tryz.prog (Instr.fieldAt 24 t3_2 1) fun t12_9 =>
  Read1 Tryz.prog (Instr.loadAt 22 t12_9) w fun t13_10 =>
  CallV Tryz.prog Z 41 #[t6_4, t8_6] w fun t9_11 w =>
    Still Tryz.prog (nx (Instr.loadAt 22 t12_9)) t13_10 w <|
    Still Tryz.prog (nx (Instr.loadAt 22 t10_7)) t11_8 w <|
  CallV Tryz.prog Z 41 #[t11_8, t13_10] w fun t14_12 w =>
  run1 Tryz.prog Z (Instr.buildSlice 101 2 #[(0, t9_11), (1, t14_12)]) w fun t15_13 w =>
  CallV Tryz.prog Z 40 #[t15_13] w fun t16_14 w =>
  Q t16_14 w
noncomputable def f27.code : Code := match Tryz.f27.body with | some c => c | none => .skip
def f27.an : An := (.sq .leaf (.sq (.dr (.take 0 false (.take 1 true (.take 2 false (.take 3 true (.take 5 false (.take 6 true (.take 7 false (.take 8 true (.one 4 (.one 9 (.one 10 (.one 11 (.take 12 false .fin)))))))))))))) .leaf))
theorem f27.body_eq : Tryz.f27.body = some f27.code := by kernel_rfl
theorem f27.shape (Z : List PanicEntry → World → Prop) (x0 x1 : Value) (w : World) (Q : Value → World → Prop) : vc drawD Tryz.prog 17 Z [41, 40] f27.an f27.code (fnQ Tryz.prog 17 Tryz.f27.results Q) (argEnv [x0, x1]) w = f27.sh Z x0 x1 w Q := by kernel_rfl
theorem f27.enters : ∀ f, f ∈ ([41, 40] : List Nat) → Enters Tryz.prog f := by
  intro f hf
  simp only [List.mem_cons, List.not_mem_nil, or_false] at hf
  rcases hf with rfl | rfl
  · exact en41
  · exact en40
theorem f27.calls {Z : List PanicEntry → World → Prop} {x0 x1 : Value} {w : World} {Q : Value → World → Prop} (h : f27.sh Z x0 x1 w Q) : CallV Tryz.prog Z 27 #[x0, x1] w Q :=
  calls_of_vcn drawD_sound (Q := Q) (n := 17) (rs := Tryz.f27.results) (an := f27.an) (c := f27.code) (cal := [41, 40]) (args := [x0, x1]) Tryz.func27 (by kernel_rfl) rfl f27.body_eq follows (Nat.le_of_ble_eq_true (by kernel_rfl)) (enters_of_all f27.enters) ((f27.shape Z x0 x1 w Q).mpr h)

/-! ### 28: lagoon/choose.first[lagoon/api.Txn] -/
def f28.sh (Z : List PanicEntry → World → Prop) (x0 x1 : Value) (w : World) (Q : Value → World → Prop) : Prop :=
  run1 Tryz.prog Z (Builtin.len_ #[25] 3 #[x0]) w fun t9_1 w =>
  ∃ J_2 : Nat → Value → Value → World → Prop, (∃ m, J_2 m (Value.int IntKind.i64 0) t9_1 w) ∧
    ∀ m_2, ∀ t5_3 : Value, ∀ t6_4 : Value, ∀ w : World, J_2 m_2 t5_3 t6_4 w → Env →
      run1 Tryz.prog Z (binOp BinOp.lss 3 t5_3 t6_4) w fun t12_5 w =>
      CondV t12_5 (
        run1 Tryz.prog Z (binOp BinOp.add 3 t5_3 t6_4) w fun t15_6 w =>
        run1 Tryz.prog Z (binOp BinOp.quo 3 t15_6 (Value.int IntKind.i64 2)) w fun t16_7 w =>
        run1 Tryz.prog Z (Instr.indexAt 25 x0 t16_7) w fun t20_8 w =>
        run1 Tryz.prog Z (Instr.loadAt 49 t20_8) w fun t21_9 w =>
        runX Tryz.prog Z (callVal x1 #[t21_9]) w fun t22_10 w =>
        run1 Tryz.prog Z (binOp BinOp.leq 3 t22_10 (Value.int IntKind.i64 0)) w fun t23_11 w =>
        CondV t23_11 (
          run1 Tryz.prog Z (binOp BinOp.add 3 t16_7 (Value.int IntKind.i64 1)) w fun t25_12 w =>
          ∃ n_2, n_2 < m_2 ∧ J_2 n_2 t25_12 t6_4 w) (
          ∃ n_2, n_2 < m_2 ∧ J_2 n_2 t5_3 t16_7 w)) (
        Q t5_3 w)
noncomputable def f28.code : Code := match Tryz.f28.body with | some c => c | none => .skip
def f28.an : An := (.sq .leaf (.sq .leaf (.sq (.bl (.lp [5, 6] [5, 6, 7, 10, 11, 12, 13, 14, 15, 16, 17, 18, 19, 20, 21, 22, 23, 24, 25, 26] (.sq (.sq .leaf (.cn .leaf .leaf)) (.bl (.sq .leaf (.sq .leaf (.cn .leaf .leaf))))))) (.sq .leaf .leaf))))
theorem f28.body_eq : Tryz.f28.body = some f28.code := by kernel_rfl
theorem f28.shape (Z : List PanicEntry → World → Prop) (x0 x1 : Value) (w : World) (Q : Value → World → Prop) : vc drawD Tryz.prog 28 Z [] f28.an f28.code (fnQ Tryz.prog 28 Tryz.f28.results Q) (argEnv [x0, x1]) w = f28.sh Z x0 x1 w Q := by kernel_rfl
theorem f28.enters : ∀ f, f ∈ ([] : List Nat) → Enters Tryz.prog f := by
  intro f hf
  cases hf
theorem f28.calls {Z : List PanicEntry → World → Prop} {x0 x1 : Value} {w : World} {Q : Value → World → Prop} (h : f28.sh Z x0 x1 w Q) : CallV Tryz.prog Z 28 #[x0, x1] w Q :=
  calls_of_vcn drawD_sound (Q := Q) (n := 28) (rs := Tryz.f28.results) (an := f28.an) (c := f28.code) (cal := []) (args := [x0, x1]) Tryz.func28 (by kernel_rfl) rfl f28.body_eq follows (Nat.le_of_ble_eq_true (by kernel_rfl)) (enters_of_all f28.enters) ((f28.shape Z x0 x1 w Q).mpr h)

/-! ### 29: lagoon/choose.Way$1 -/
def f29.sh (Z : List PanicEntry → World → Prop) (x0 x1 : Value) (w : World) (Q : Value → World → Prop) : Prop :=
  run1 Tryz.prog Z (Instr.box 49 x0) w fun t2_1 w =>
  run1 Tryz.prog Z (Instr.fieldAt 49 t2_1 0) w fun t4_2 w =>
  run1 Tryz.prog Z (Instr.loadAt 24 t4_2) w fun t5_3 w =>
  run1 Tryz.prog Z (Instr.loadAt 24 x1) w fun t6_4 w =>
  CallV Tryz.prog Z 27 #[t5_3, t6_4] w fun t7_5 w =>
  Q t7_5 w
noncomputable def f29.code : Code := match Tryz.f29.body with | some c => c | none => .skip
def f29.an : An := (.sq .leaf (.sq .leaf .leaf))
theorem f29.body_eq : Tryz.f29.body = some f29.code := by kernel_rfl
theorem f29.shape (Z : List PanicEntry → World → Prop) (x0 x1 : Value) (w : World) (Q : Value → World → Prop) : vc drawD Tryz.prog 8 Z [27] f29.an f29.code (fnQ Tryz.prog 8 Tryz.f29.results Q) (argEnv [x0, x1]) w = f29.sh Z x0 x1 w Q := by kernel_rfl
theorem f29.enters : ∀ f, f ∈ ([27] : List Nat) → Enters Tryz.prog f := by
  intro f hf
  simp only [List.mem_cons, List.not_mem_nil, or_false] at hf
  rcases hf with rfl
  · exact en27
theorem f29.calls {Z : List PanicEntry → World → Prop} {x0 x1 : Value} {w : World} {Q : Value → World → Prop} (h : f29.sh Z x0 x1 w Q) : CallV Tryz.prog Z 29 #[x0, x1] w Q :=
  calls_of_vcn drawD_sound (Q := Q) (n := 8) (rs := Tryz.f29.results) (an := f29.an) (c := f29.code) (cal := [27]) (args := [x0, x1]) Tryz.func29 (by kernel_rfl) rfl f29.body_eq follows (Nat.le_of_ble_eq_true (by kernel_rfl)) (enters_of_all f29.enters) ((f29.shape Z x0 x1 w Q).mpr h)

/-! ### 30: lagoon/choose.Under -/
def f30.sh (Z : List PanicEntry → World → Prop) (x0 x1 x2 : Value) (w : World) (Q : Value → World → Prop) : Prop :=
  run1 Tryz.prog Z (convert 3 26 x1) w fun t10_1 w =>
  run1 Tryz.prog Z (binOp BinOp.mul 26 x2 t10_1) w fun t11_2 w =>
  run1 Tryz.prog Z (convert 3 26 x0) w fun t13_3 w =>
  run1 Tryz.prog Z (binOp BinOp.leq 26 t13_3 t11_2) w fun t15_4 w =>
  Q t15_4 w
noncomputable def f30.code : Code := match Tryz.f30.body with | some c => c | none => .skip
def f30.an : An := (.sq .leaf (.sq .leaf (.sq .leaf .leaf)))
theorem f30.body_eq : Tryz.f30.body = some f30.code := by kernel_rfl
theorem f30.shape (Z : List PanicEntry → World → Prop) (x0 x1 x2 : Value) (w : World) (Q : Value → World → Prop) : vc drawD Tryz.prog 16 Z [] f30.an f30.code (fnQ Tryz.prog 16 Tryz.f30.results Q) (argEnv [x0, x1, x2]) w = f30.sh Z x0 x1 x2 w Q := by kernel_rfl
theorem f30.enters : ∀ f, f ∈ ([] : List Nat) → Enters Tryz.prog f := by
  intro f hf
  cases hf
theorem f30.calls {Z : List PanicEntry → World → Prop} {x0 x1 x2 : Value} {w : World} {Q : Value → World → Prop} (h : f30.sh Z x0 x1 x2 w Q) : CallV Tryz.prog Z 30 #[x0, x1, x2] w Q :=
  calls_of_vcn drawD_sound (Q := Q) (n := 16) (rs := Tryz.f30.results) (an := f30.an) (c := f30.code) (cal := []) (args := [x0, x1, x2]) Tryz.func30 (by kernel_rfl) rfl f30.body_eq follows (Nat.le_of_ble_eq_true (by kernel_rfl)) (enters_of_all f30.enters) ((f30.shape Z x0 x1 x2 w Q).mpr h)

/-! ### 31: lagoon/txn.Write -/
def f31.sh (Z : List PanicEntry → World → Prop) (x0 : Value) (w : World) (Q : Value → World → Prop) : Prop :=
  run1 Tryz.prog Z (Instr.box 49 x0) w fun t1_1 w =>
  run1 Tryz.prog Z (Instr.loadAt 49 t1_1) w fun t5_2 w =>
  CallV Tryz.prog Z 42 #[t5_2] w fun t6_3 w =>
  run1 Tryz.prog Z (eqOp BinOp.neq 35 false true t6_3 (Value.int IntKind.i64 0)) w fun t7_4 w =>
  CondV t7_4 (
    Q (Value.tuple #[(Value.slice none 0 0), (Value.int IntKind.i64 40)]) w) (
    run1 Tryz.prog Z (Instr.build 76 #[]) w fun t8_5 w =>
    run1 Tryz.prog Z (Instr.box 76 t8_5) w fun t9_6 w =>
    run1 Tryz.prog Z (Instr.fieldAt 49 t1_1 0) w fun t11_7 w =>
    run1 Tryz.prog Z (Instr.fieldAt 24 t11_7 0) w fun t12_8 w =>
    run1 Tryz.prog Z (Instr.loadAt 22 t12_8) w fun t13_9 w =>
    CallV Tryz.prog Z 43 #[t9_6, t13_9] w fun t14_10 w =>
    run1 Tryz.prog Z (Instr.fieldAt 49 t1_1 0) w fun t16_11 w =>
    run1 Tryz.prog Z (Instr.fieldAt 24 t16_11 1) w fun t17_12 w =>
    run1 Tryz.prog Z (Instr.loadAt 22 t17_12) w fun t18_13 w =>
    CallV Tryz.prog Z 43 #[t9_6, t18_13] w fun t19_14 w =>
    run1 Tryz.prog Z (Instr.fieldAt 49 t1_1 1) w fun t21_15 w =>
    run1 Tryz.prog Z (Instr.fieldAt 41 t21_15 0) w fun t22_16 w =>
    run1 Tryz.prog Z (Instr.loadAt 32 t22_16) w fun t23_17 w =>
    CallV Tryz.prog Z 44 #[t9_6, t23_17] w fun t24_18 w =>
    run1 Tryz.prog Z (Instr.fieldAt 49 t1_1 1) w fun t26_19 w =>
    run1 Tryz.prog Z (Instr.fieldAt 41 t26_19 1) w fun t27_20 w =>
    run1 Tryz.prog Z (Instr.loadAt 22 t27_20) w fun t28_21 w =>
    CallV Tryz.prog Z 43 #[t9_6, t28_21] w fun t29_22 w =>
    run1 Tryz.prog Z (Instr.fieldAt 49 t1_1 1) w fun t31_23 w =>
    run1 Tryz.prog Z (Instr.fieldAt 41 t31_23 2) w fun t32_24 w =>
    run1 Tryz.prog Z (Instr.loadAt 2 t32_24) w fun t33_25 w =>
    CallV Tryz.prog Z 45 #[t9_6, t33_25] w fun t34_26 w =>
    run1 Tryz.prog Z (Instr.build 81 #[]) w fun t35_27 w =>
    run1 Tryz.prog Z (Instr.fieldAt 49 t1_1 2) w fun t37_28 w =>
    run1 Tryz.prog Z (Instr.loadAt 47 t37_28) w fun t38_29 w =>
    CallV Tryz.prog Z 46 #[t35_27, t9_6, t38_29] w fun t39_30 w =>
    CallV Tryz.prog Z 47 #[t9_6] w fun t41_31 w =>
    Q (Value.tuple #[t41_31, (Value.int IntKind.i64 0)]) w)
noncomputable def f31.code : Code := match Tryz.f31.body with | some c => c | none => .skip
def f31.an : An := (.sq .leaf (.sq (.sq .leaf (.cn (.sq .leaf .leaf) .leaf)) (.sq .leaf (.sq .leaf (.sq .leaf (.sq .leaf (.sq .leaf (.sq .leaf (.sq .leaf (.sq .leaf .leaf))))))))))
theorem f31.body_eq : Tryz.f31.body = some f31.code := by kernel_rfl
theorem f31.shape (Z : List PanicEntry → World → Prop) (x0 : Value) (w : World) (Q : Value → World → Prop) : vc drawD Tryz.prog 42 Z [42, 43, 44, 45, 46, 47] f31.an f31.code (fnQ Tryz.prog 42 Tryz.f31.results Q) (argEnv [x0]) w = f31.sh Z x0 w Q := by kernel_rfl
theorem f31.enters : ∀ f, f ∈ ([42, 43, 44, 45, 46, 47] : List Nat) → Enters Tryz.prog f := by
  intro f hf
  simp only [List.mem_cons, List.not_mem_nil, or_false] at hf
  rcases hf with rfl | rfl | rfl | rfl | rfl | rfl
  · exact en42
  · exact en43
  · exact en44
  · exact en45
  · exact en46
  · exact en47
theorem f31.calls {Z : List PanicEntry → World → Prop} {x0 : Value} {w : World} {Q : Value → World → Prop} (h : f31.sh Z x0 w Q) : CallV Tryz.prog Z 31 #[x0] w Q :=
  calls_of_vcn drawD_sound (Q := Q) (n := 42) (rs := Tryz.f31.results) (an := f31.an) (c := f31.code) (cal := [42, 43, 44, 45, 46, 47]) (args := [x0]) Tryz.func31 (by kernel_rfl) rfl f31.body_eq follows (Nat.le_of_ble_eq_true (by kernel_rfl)) (enters_of_all f31.enters) ((f31.shape Z x0 w Q).mpr h)

/-! ### 32: lagoon/lagoonref00.WideRequest -/
def f32.sh (Z : List PanicEntry → World → Prop) (x0 : Value) (w : World) (Q : Value → World → Prop) : Prop :=
  run1 Tryz.prog Z (Instr.box 47 x0) w fun t1_1 w =>
  run1 Tryz.prog Z (Instr.alloc 47 true (.tuple #[])) w fun t2_2 w =>
  run1 Tryz.prog Z (Instr.fieldAt 47 t1_1 2) w fun t3_3 w =>
  run1 Tryz.prog Z (Instr.loadAt 42 t3_3) w fun t4_4 w =>
  CallV Tryz.prog Z 48 #[t4_4] w fun t5_5 w =>
  run1 Tryz.prog Z (Instr.fieldAt 47 t1_1 2) w fun t6_6 w =>
  run0 Tryz.prog Z (Instr.storeAt 42 t6_6 t5_5) w fun w =>
  run1 Tryz.prog Z (Instr.fieldAt 47 t1_1 3) w fun t7_7 w =>
  run1 Tryz.prog Z (Instr.loadAt 43 t7_7) w fun t8_8 w =>
  CallV Tryz.prog Z 49 #[t8_8] w fun t9_9 w =>
  run1 Tryz.prog Z (Instr.fieldAt 47 t1_1 3) w fun t10_10 w =>
  run0 Tryz.prog Z (Instr.storeAt 43 t10_10 t9_9) w fun w =>
  run1 Tryz.prog Z (Instr.fieldAt 47 t1_1 9) w fun t11_11 w =>
  run1 Tryz.prog Z (Instr.loadAt 44 t11_11) w fun t12_12 w =>
  CallV Tryz.prog Z 50 #[t12_12] w fun t13_13 w =>
  run1 Tryz.prog Z (Instr.fieldAt 47 t1_1 9) w fun t14_14 w =>
  run0 Tryz.prog Z (Instr.storeAt 44 t14_14 t13_13) w fun w =>
  run1 Tryz.prog Z (Instr.fieldAt 47 t1_1 10) w fun t15_15 w =>
  run1 Tryz.prog Z (Instr.loadAt 45 t15_15) w fun t16_16 w =>
  CallV Tryz.prog Z 51 #[t16_16] w fun t17_17 w =>
  run1 Tryz.prog Z (Instr.fieldAt 47 t1_1 10) w fun t18_18 w =>
  run0 Tryz.prog Z (Instr.storeAt 45 t18_18 t17_17) w fun w =>
  run1 Tryz.prog Z (Instr.loadAt 47 t1_1) w fun t19_19 w =>
  run0 Tryz.prog Z (Instr.storeAt 47 t2_2 t19_19) w fun w =>
  ∃ r_20, (do loadVar 47 (← asAddr t2_2) : Sem Value).run Tryz.prog w = .ok r_20 w ∧
  Q r_20 w
noncomputable def f32.code : Code := match Tryz.f32.body with | some c => c | none => .skip
def f32.an : An := (.sq .leaf (.sq .leaf (.sq .leaf (.sq .leaf (.sq .leaf (.sq .leaf .leaf))))))
theorem f32.body_eq : Tryz.f32.body = some f32.code := by kernel_rfl
theorem f32.shape (Z : List PanicEntry → World → Prop) (x0 : Value) (w : World) (Q : Value → World → Prop) : vc drawD Tryz.prog 20 Z [48, 49, 50, 51] f32.an f32.code (fnQ Tryz.prog 20 Tryz.f32.results Q) (argEnv [x0]) w = f32.sh Z x0 w Q := by kernel_rfl
theorem f32.enters : ∀ f, f ∈ ([48, 49, 50, 51] : List Nat) → Enters Tryz.prog f := by
  intro f hf
  simp only [List.mem_cons, List.not_mem_nil, or_false] at hf
  rcases hf with rfl | rfl | rfl | rfl
  · exact en48
  · exact en49
  · exact en50
  · exact en51
theorem f32.calls {Z : List PanicEntry → World → Prop} {x0 : Value} {w : World} {Q : Value → World → Prop} (h : f32.sh Z x0 w Q) : CallV Tryz.prog Z 32 #[x0] w Q :=
  calls_of_vcn drawD_sound (Q := Q) (n := 20) (rs := Tryz.f32.results) (an := f32.an) (c := f32.code) (cal := [48, 49, 50, 51]) (args := [x0]) Tryz.func32 (by kernel_rfl) rfl f32.body_eq follows (Nat.le_of_ble_eq_true (by kernel_rfl)) (enters_of_all f32.enters) ((f32.shape Z x0 w Q).mpr h)

/-! ### 33: lagoon/lagoonref04.Write -/
def f33.sh (Z : List PanicEntry → World → Prop) (x0 : Value) (w : World) (Q : Value → World → Prop) : Prop :=
  run1 Tryz.prog Z (Instr.box 49 x0) w fun t1_1 w =>
  run1 Tryz.prog Z (Instr.loadAt 49 t1_1) w fun t5_2 w =>
  CallV Tryz.prog Z 52 #[t5_2] w fun t6_3 w =>
  run1 Tryz.prog Z (eqOp BinOp.neq 35 false true t6_3 (Value.int IntKind.i64 0)) w fun t7_4 w =>
  CondV t7_4 (
    Q (Value.tuple #[(Value.slice none 0 0), (Value.int IntKind.i64 40)]) w) (
    run1 Tryz.prog Z (Instr.fieldAt 49 t1_1 0) w fun t8_5 w =>
    run1 Tryz.prog Z (Instr.fieldAt 24 t8_5 0) w fun t9_6 w =>
    run1 Tryz.prog Z (Instr.loadAt 22 t9_6) w fun t10_7 w =>
    CallV Tryz.prog Z 53 #[t10_7] w fun t11_8 w =>
    run1 Tryz.prog Z (Instr.fieldAt 49 t1_1 0) w fun t13_9 w =>
    run1 Tryz.prog Z (Instr.fieldAt 24 t13_9 1) w fun t14_10 w =>
    run1 Tryz.prog Z (Instr.loadAt 22 t14_10) w fun t15_11 w =>
    CallV Tryz.prog Z 53 #[t15_11] w fun t16_12 w =>
    CallV Tryz.prog Z 54 #[t11_8, t16_12] w fun t17_13 w =>
    run1 Tryz.prog Z (Instr.fieldAt 49 t1_1 1) w fun t19_14 w =>
    run1 Tryz.prog Z (Instr.fieldAt 41 t19_14 0) w fun t20_15 w =>
    run1 Tryz.prog Z (Instr.loadAt 32 t20_15) w fun t21_16 w =>
    CallV Tryz.prog Z 55 #[t21_16] w fun t22_17 w =>
    CallV Tryz.prog Z 54 #[t17_13, t22_17] w fun t23_18 w =>
    run1 Tryz.prog Z (Instr.fieldAt 49 t1_1 1) w fun t25_19 w =>
    run1 Tryz.prog Z (Instr.fieldAt 41 t25_19 1) w fun t26_20 w =>
    run1 Tryz.prog Z (Instr.loadAt 22 t26_20) w fun t27_21 w =>
    CallV Tryz.prog Z 53 #[t27_21] w fun t28_22 w =>
    CallV Tryz.prog Z 54 #[t23_18, t28_22] w fun t29_23 w =>
    run1 Tryz.prog Z (Instr.fieldAt 49 t1_1 1) w fun t31_24 w =>
    run1 Tryz.prog Z (Instr.fieldAt 41 t31_24 2) w fun t32_25 w =>
    run1 Tryz.prog Z (Instr.loadAt 2 t32_25) w fun t33_26 w =>
    CallV Tryz.prog Z 56 #[t33_26] w fun t34_27 w =>
    CallV Tryz.prog Z 54 #[t29_23, t34_27] w fun t35_28 w =>
    run1 Tryz.prog Z (Instr.fieldAt 49 t1_1 2) w fun t37_29 w =>
    run1 Tryz.prog Z (Instr.loadAt 47 t37_29) w fun t38_30 w =>
    CallV Tryz.prog Z 57 #[t35_28, t38_30, (Value.bool false)] w fun t39_31 w =>
    Q (Value.tuple #[t39_31, (Value.int IntKind.i64 0)]) w)
noncomputable def f33.code : Code := match Tryz.f33.body with | some c => c | none => .skip
def f33.an : An := (.sq .leaf (.sq (.sq .leaf (.cn (.sq .leaf .leaf) .leaf)) (.sq .leaf (.sq .leaf (.sq .leaf (.sq .leaf (.sq .leaf (.sq .leaf .leaf))))))))
theorem f33.body_eq : Tryz.f33.body = some f33.code := by kernel_rfl
theorem f33.shape (Z : List PanicEntry → World → Prop) (x0 : Value) (w : World) (Q : Value → World → Prop) : vc drawD Tryz.prog 40 Z [52, 53, 54, 55, 56, 57] f33.an f33.code (fnQ Tryz.prog 40 Tryz.f33.results Q) (argEnv [x0]) w = f33.sh Z x0 w Q := by kernel_rfl
theorem f33.enters : ∀ f, f ∈ ([52, 53, 54, 55, 56, 57] : List Nat) → Enters Tryz.prog f := by
  intro f hf
  simp only [List.mem_cons, List.not_mem_nil, or_false] at hf
  rcases hf with rfl | rfl | rfl | rfl | rfl | rfl
  · exact en52
  · exact en53
  · exact en54
  · exact en55
  · exact en56
  · exact en57
theorem f33.calls {Z : List PanicEntry → World → Prop} {x0 : Value} {w : World} {Q : Value → World → Prop} (h : f33.sh Z x0 w Q) : CallV Tryz.prog Z 33 #[x0] w Q :=
  calls_of_vcn drawD_sound (Q := Q) (n := 40) (rs := Tryz.f33.results) (an := f33.an) (c := f33.code) (cal := [52, 53, 54, 55, 56, 57]) (args := [x0]) Tryz.func33 (by kernel_rfl) rfl f33.body_eq follows (Nat.le_of_ble_eq_true (by kernel_rfl)) (enters_of_all f33.enters) ((f33.shape Z x0 w Q).mpr h)

/-! ### 34: lagoon/lagoonref00.EqRequest -/
def f34.sh (Z : List PanicEntry → World → Prop) (x0 x1 : Value) (w : World) (Q : Value → World → Prop) : Prop :=
  run1 Tryz.prog Z (Instr.box 47 x0) w fun t2_1 w =>
  run1 Tryz.prog Z (Instr.box 47 x1) w fun t3_2 w =>
  run1 Tryz.prog Z (Instr.fieldAt 47 t2_1 0) w fun t6_3 w =>
  run1 Tryz.prog Z (Instr.loadAt 32 t6_3) w fun t7_4 w =>
  run1 Tryz.prog Z (Instr.fieldAt 47 t3_2 0) w fun t8_5 w =>
  run1 Tryz.prog Z (Instr.loadAt 32 t8_5) w fun t9_6 w =>
  run1 Tryz.prog Z (eqOp BinOp.neq 32 false false t7_4 t9_6) w fun t10_7 w =>
  guardW (t10_7) false (fun k => run1 Tryz.prog Z (Instr.fieldAt 47 t2_1 1) w k) (fun t12_8 w =>
  guardW (t10_7) false (fun k => run1 Tryz.prog Z (Instr.loadAt 9 t12_8) w k) (fun t13_9 w =>
  guardW (t10_7) false (fun k => run1 Tryz.prog Z (Instr.fieldAt 47 t3_2 1) w k) (fun t14_10 w =>
  guardW (t10_7) false (fun k => run1 Tryz.prog Z (Instr.loadAt 9 t14_10) w k) (fun t15_11 w =>
  guardW (t10_7) false (fun k => run1 Tryz.prog Z (eqOp BinOp.neq 9 false false t13_9 t15_11) w k) (fun t16_12 w =>
  run1 Tryz.prog Z (pickV t10_7 (Value.bool true) t16_12) w fun t17_13 w =>
  guardW (t17_13) false (fun k => run1 Tryz.prog Z (Instr.fieldAt 47 t2_1 4) w k) (fun t19_14 w =>
  guardW (t17_13) false (fun k => run1 Tryz.prog Z (Instr.loadAt 21 t19_14) w k) (fun t20_15 w =>
  guardW (t17_13) false (fun k => run1 Tryz.prog Z (Instr.fieldAt 47 t3_2 4) w k) (fun t21_16 w =>
  guardW (t17_13) false (fun k => run1 Tryz.prog Z (Instr.loadAt 21 t21_16) w k) (fun t22_17 w =>
  guardW (t17_13) false (fun k => run1 Tryz.prog Z (eqOp BinOp.neq 21 false false t20_15 t22_17) w k) (fun t23_18 w =>
  run1 Tryz.prog Z (pickV t17_13 (Value.bool true) t23_18) w fun t24_19 w =>
  guardW (t24_19) false (fun k => run1 Tryz.prog Z (Instr.fieldAt 47 t2_1 5) w k) (fun t26_20 w =>
  guardW (t24_19) false (fun k => run1 Tryz.prog Z (Instr.loadAt 4 t26_20) w k) (fun t27_21 w =>
  guardW (t24_19) false (fun k => run1 Tryz.prog Z (Instr.fieldAt 47 t3_2 5) w k) (fun t28_22 w =>
  guardW (t24_19) false (fun k => run1 Tryz.prog Z (Instr.loadAt 4 t28_22) w k) (fun t29_23 w =>
  guardW (t24_19) false (fun k => run1 Tryz.prog Z (eqOp BinOp.neq 4 false false t27_21 t29_23) w k) (fun t30_24 w =>
  run1 Tryz.prog Z (pickV t24_19 (Value.bool true) t30_24) w fun t31_25 w =>
  guardW (t31_25) false (fun k => run1 Tryz.prog Z (Instr.fieldAt 47 t2_1 6) w k) (fun t33_26 w =>
  guardW (t31_25) false (fun k => run1 Tryz.prog Z (Instr.loadAt 4 t33_26) w k) (fun t34_27 w =>
  guardW (t31_25) false (fun k => run1 Tryz.prog Z (Instr.fieldAt 47 t3_2 6) w k) (fun t35_28 w =>
  guardW (t31_25) false (fun k => run1 Tryz.prog Z (Instr.loadAt 4 t35_28) w k) (fun t36_29 w =>
  guardW (t31_25) false (fun k => run1 Tryz.prog Z (eqOp BinOp.neq 4 false false t34_27 t36_29) w k) (fun t37_30 w =>
  run1 Tryz.prog Z (pickV t31_25 (Value.bool true) t37_30) w fun t38_31 w =>
  guardW (t38_31) false (fun k => run1 Tryz.prog Z (Instr.fieldAt 47 t2_1 7) w k) (fun t40_32 w =>
  guardW (t38_31) false (fun k => run1 Tryz.prog Z (Instr.loadAt 2 t40_32) w k) (fun t41_33 w =>
  guardW (t38_31) false (fun k => run1 Tryz.prog Z (Instr.fieldAt 47 t3_2 7) w k) (fun t42_34 w =>
  guardW (t38_31) false (fun k => run1 Tryz.prog Z (Instr.loadAt 2 t42_34) w k) (fun t43_35 w =>
  guardW (t38_31) false (fun k => run1 Tryz.prog Z (eqOp BinOp.neq 2 false false t41_33 t43_35) w k) (fun t44_36 w =>
  run1 Tryz.prog Z (pickV t38_31 (Value.bool true) t44_36) w fun t45_37 w =>
  guardW (t45_37) false (fun k => run1 Tryz.prog Z (Instr.fieldAt 47 t2_1 8) w k) (fun t47_38 w =>
  guardW (t45_37) false (fun k => run1 Tryz.prog Z (Instr.loadAt 21 t47_38) w k) (fun t48_39 w =>
  guardW (t45_37) false (fun k => run1 Tryz.prog Z (Instr.fieldAt 47 t3_2 8) w k) (fun t49_40 w =>
  guardW (t45_37) false (fun k => run1 Tryz.prog Z (Instr.loadAt 21 t49_40) w k) (fun t50_41 w =>
  guardW (t45_37) false (fun k => run1 Tryz.prog Z (eqOp BinOp.neq 21 false false t48_39 t50_41) w k) (fun t51_42 w =>
  run1 Tryz.prog Z (pickV t45_37 (Value.bool true) t51_42) w fun t52_43 w =>
  CondV t52_43 (
    Q (Value.bool false) w) (
    run1 Tryz.prog Z (Instr.fieldAt 47 t2_1 2) w fun t53_44 w =>
    run1 Tryz.prog Z (Instr.loadAt 42 t53_44) w fun t54_45 w =>
    run1 Tryz.prog Z (Instr.fieldAt 47 t3_2 2) w fun t55_46 w =>
    run1 Tryz.prog Z (Instr.loadAt 42 t55_46) w fun t56_47 w =>
    CallV Tryz.prog Z 58 #[t54_45, t56_47] w fun t57_48 w =>
    run1 Tryz.prog Z (Op.unary UnOp.not t57_48) w fun t58_49 w =>
    guardW (t58_49) false (fun k => run1 Tryz.prog Z (Instr.fieldAt 47 t2_1 3) w k) (fun t60_50 w =>
    guardW (t58_49) false (fun k => run1 Tryz.prog Z (Instr.loadAt 43 t60_50) w k) (fun t61_51 w =>
    guardW (t58_49) false (fun k => run1 Tryz.prog Z (Instr.fieldAt 47 t3_2 3) w k) (fun t62_52 w =>
    guardW (t58_49) false (fun k => run1 Tryz.prog Z (Instr.loadAt 43 t62_52) w k) (fun t63_53 w =>
    guardW (t58_49) false (fun k => CallV Tryz.prog Z 59 #[t61_51, t63_53] w k) (fun t64_54 w =>
    guardW (t58_49) false (fun k => run1 Tryz.prog Z (Op.unary UnOp.not t64_54) w k) (fun t65_55 w =>
    run1 Tryz.prog Z (pickV t58_49 (Value.bool true) t65_55) w fun t66_56 w =>
    guardW (t66_56) false (fun k => run1 Tryz.prog Z (Instr.fieldAt 47 t2_1 9) w k) (fun t68_57 w =>
    guardW (t66_56) false (fun k => run1 Tryz.prog Z (Instr.loadAt 44 t68_57) w k) (fun t69_58 w =>
    guardW (t66_56) false (fun k => run1 Tryz.prog Z (Instr.fieldAt 47 t3_2 9) w k) (fun t70_59 w =>
    guardW (t66_56) false (fun k => run1 Tryz.prog Z (Instr.loadAt 44 t70_59) w k) (fun t71_60 w =>
    guardW (t66_56) false (fun k => CallV Tryz.prog Z 60 #[t69_58, t71_60] w k) (fun t72_61 w =>
    guardW (t66_56) false (fun k => run1 Tryz.prog Z (Op.unary UnOp.not t72_61) w k) (fun t73_62 w =>
    run1 Tryz.prog Z (pickV t66_56 (Value.bool true) t73_62) w fun t74_63 w =>
    guardW (t74_63) false (fun k => run1 Tryz.prog Z (Instr.fieldAt 47 t2_1 10) w k) (fun t76_64 w =>
    guardW (t74_63) false (fun k => run1 Tryz.prog Z (Instr.loadAt 45 t76_64) w k) (fun t77_65 w =>
    guardW (t74_63) false (fun k => run1 Tryz.prog Z (Builtin.len_ #[45] 3 #[t77_65]) w k) (fun t78_66 w =>
    guardW (t74_63) false (fun k => run1 Tryz.prog Z (Instr.fieldAt 47 t3_2 10) w k) (fun t79_67 w =>
    guardW (t74_63) false (fun k => run1 Tryz.prog Z (Instr.loadAt 45 t79_67) w k) (fun t80_68 w =>
    guardW (t74_63) false (fun k => run1 Tryz.prog Z (Builtin.len_ #[45] 3 #[t80_68]) w k) (fun t81_69 w =>
    guardW (t74_63) false (fun k => run1 Tryz.prog Z (eqOp BinOp.neq 3 false false t78_66 t81_69) w k) (fun t82_70 w =>
    run1 Tryz.prog Z (pickV t74_63 (Value.bool true) t82_70) w fun t83_71 w =>
    CondV t83_71 (
      Q (Value.bool false) w) (
      ∃ J_72 : Nat → Value → World → Prop, (∃ m, J_72 m (Value.int IntKind.i64 0) w) ∧
        ∀ m_72, ∀ t5_73 : Value, ∀ w : World, J_72 m_72 t5_73 w → Env →
          run1 Tryz.prog Z (Instr.fieldAt 47 t2_1 10) w fun t85_74 w =>
          run1 Tryz.prog Z (Instr.loadAt 45 t85_74) w fun t86_75 w =>
          run1 Tryz.prog Z (Builtin.len_ #[45] 3 #[t86_75]) w fun t87_76 w =>
          run1 Tryz.prog Z (binOp BinOp.lss 3 t5_73 t87_76) w fun t88_77 w =>
          CondV t88_77 (
            Drawn w fun w =>
            Pure1 Tryz.prog (Instr.fieldAt 47 t2_1 10) fun t91_78 =>
            Read1 Tryz.prog (Instr.loadAt 45 t91_78) w fun t92_79 =>
            Pure1 Tryz.prog (Instr.indexAt 45 t92_79 t5_73) fun t94_80 =>
            Read1 Tryz.prog (Instr.loadAt 47 t94_80) w fun t95_81 =>
            Pure1 Tryz.prog (Instr.fieldAt 47 t3_2 10) fun t96_82 =>
            Read1 Tryz.prog (Instr.loadAt 45 t96_82) w fun t97_83 =>
            Pure1 Tryz.prog (Instr.indexAt 45 t97_83 t5_73) fun t99_84 =>
            Read1 Tryz.prog (Instr.loadAt 47 t99_84) w fun t100_85 =>
            CallV Tryz.prog Z 34 #[t95_81, t100_85] w fun t101_86 w =>
              Still Tryz.prog (nx (Instr.loadAt 45 t96_82)) t97_83 w <|
              Still Tryz.prog (nx (Instr.loadAt 45 t91_78)) t92_79 w <|
            Pure1 Tryz.prog (Op.unary UnOp.not t101_86) fun t102_87 =>
            CondV t102_87 (
              Q (Value.bool false) w) (
              run1 Tryz.prog Z (binOp BinOp.add 3 t5_73 (Value.int IntKind.i64 1)) w fun t90_88 w =>
              ∃ n_72, n_72 < m_72 ∧ J_72 n_72 t90_88 w)) (
            Q (Value.bool true) w))) w) w) w) w) w) w) w) w) w) w) w) w) w) w) w) w) w) w) w)) w) w) w) w) w) w) w) w) w) w) w) w) w) w) w) w) w) w) w) w) w) w) w) w) w) w) w) w) w) w
noncomputable def f34.code : Code := match Tryz.f34.body with | some c => c | none => .skip
def f34.an : An := (.sq .leaf (.sq (.sq .leaf (.cn (.sq .leaf .leaf) .leaf)) (.sq (.sq .leaf (.cn (.sq .leaf .leaf) .leaf)) (.sq (.sq .leaf (.bl (.lp [5] [4, 5, 84, 85, 86, 87, 88, 89, 90, 91, 92, 93, 94, 95, 96, 97, 98, 99, 100, 101, 102] (.sq (.sq .leaf (.cn .leaf .leaf)) (.sq (.bl (.sq (.dr (.take 0 false (.take 1 true (.take 2 false (.take 3 false (.take 4 true (.take 5 false (.take 6 true (.take 7 false (.take 8 false (.take 9 true (.one 10 (.take 11 false .fin))))))))))))) (.cn (.sq .leaf .leaf) .leaf))) .leaf))))) (.sq .leaf .leaf)))))
theorem f34.body_eq : Tryz.f34.body = some f34.code := by kernel_rfl
theorem f34.shape (Z : List PanicEntry → World → Prop) (x0 x1 : Value) (w : World) (Q : Value → World → Prop) : vc drawD Tryz.prog 103 Z [58, 59, 60, 34] f34.an f34.code (fnQ Tryz.prog 103 Tryz.f34.results Q) (argEnv [x0, x1]) w = f34.sh Z x0 x1 w Q := by kernel_rfl
theorem f34.enters : ∀ f, f ∈ ([58, 59, 60, 34] : List Nat) → Enters Tryz.prog f := by
  intro f hf
  simp only [List.mem_cons, List.not_mem_nil, or_false] at hf
  rcases hf with rfl | rfl | rfl | rfl
  · exact en58
  · exact en59
  · exact en60
  · exact en34
theorem f34.calls {Z : List PanicEntry → World → Prop} {x0 x1 : Value} {w : World} {Q : Value → World → Prop} (h : f34.sh Z x0 x1 w Q) : CallV Tryz.prog Z 34 #[x0, x1] w Q :=
  calls_of_vcn drawD_sound (Q := Q) (n := 103) (rs := Tryz.f34.results) (an := f34.an) (c := f34.code) (cal := [58, 59, 60, 34]) (args := [x0, x1]) Tryz.func34 (by kernel_rfl) rfl f34.body_eq follows (Nat.le_of_ble_eq_true (by kernel_rfl)) (enters_of_all f34.enters) ((f34.shape Z x0 x1 w Q).mpr h)

/-! ### 35: lagoon/lagoonref00.SpareBytes -/
def f35.sh (Z : List PanicEntry → World → Prop) (x0 : Value) (w : World) (Q : Value → World → Prop) : Prop :=
  run1 Tryz.prog Z (Builtin.len_ #[42] 3 #[x0]) w fun t7_1 w =>
  run1 Tryz.prog Z (binOp BinOp.add 3 t7_1 (Value.int IntKind.i64 64)) w fun t8_2 w =>
  run1 Tryz.prog Z (Instr.sliceAt 42 x0 none (some t8_2) none) w fun t9_3 w =>
  run1 Tryz.prog Z (Builtin.len_ #[42] 3 #[x0]) w fun t11_4 w =>
  ∃ J_5 : Nat → Value → World → Prop, (∃ m, J_5 m t11_4 w) ∧
    ∀ m_5, ∀ t4_6 : Value, ∀ w : World, J_5 m_5 t4_6 w → Env →
      run1 Tryz.prog Z (Builtin.len_ #[42] 3 #[t9_3]) w fun t14_7 w =>
      run1 Tryz.prog Z (binOp BinOp.lss 3 t4_6 t14_7) w fun t15_8 w =>
      CondV t15_8 (
        run1 Tryz.prog Z (Instr.indexAt 42 t9_3 t4_6) w fun t20_9 w =>
        run1 Tryz.prog Z (Instr.loadAt 5 t20_9) w fun t21_10 w =>
        run1 Tryz.prog Z (binOp BinOp.rem 3 t4_6 (Value.int IntKind.i64 5)) w fun t23_11 w =>
        run1 Tryz.prog Z (binOp BinOp.add 3 (Value.int IntKind.i64 170) t23_11) w fun t24_12 w =>
        run1 Tryz.prog Z (convert 3 5 t24_12) w fun t25_13 w =>
        run1 Tryz.prog Z (eqOp BinOp.neq 5 false false t21_10 t25_13) w fun t26_14 w =>
        CondV t26_14 (
          Q (Value.bool false) w) (
          run1 Tryz.prog Z (binOp BinOp.add 3 t4_6 (Value.int IntKind.i64 1)) w fun t17_15 w =>
          ∃ n_5, n_5 < m_5 ∧ J_5 n_5 t17_15 w)) (
        Q (Value.bool true) w)
noncomputable def f35.code : Code := match Tryz.f35.body with | some c => c | none => .skip
def f35.an : An := (.sq .leaf (.sq .leaf (.sq (.sq .leaf (.bl (.lp [4] [2, 4, 12, 13, 14, 15, 16, 17, 18, 19, 20, 21, 22, 23, 24, 25, 26] (.sq (.sq .leaf (.cn .leaf .leaf)) (.sq (.bl (.sq .leaf (.cn (.sq .leaf .leaf) .leaf))) .leaf))))) (.sq .leaf .leaf))))
theorem f35.body_eq : Tryz.f35.body = some f35.code := by kernel_rfl
theorem f35.shape (Z : List PanicEntry → World → Prop) (x0 : Value) (w : World) (Q : Value → World → Prop) : vc drawD Tryz.prog 27 Z [] f35.an f35.code (fnQ Tryz.prog 27 Tryz.f35.results Q) (argEnv [x0]) w = f35.sh Z x0 w Q := by kernel_rfl
theorem f35.enters : ∀ f, f ∈ ([] : List Nat) → Enters Tryz.prog f := by
  intro f hf
  cases hf
theorem f35.calls {Z : List PanicEntry → World → Prop} {x0 : Value} {w : World} {Q : Value → World → Prop} (h : f35.sh Z x0 w Q) : CallV Tryz.prog Z 35 #[x0] w Q :=
  calls_of_vcn drawD_sound (Q := Q) (n := 27) (rs := Tryz.f35.results) (an := f35.an) (c := f35.code) (cal := []) (args := [x0]) Tryz.func35 (by kernel_rfl) rfl f35.body_eq follows (Nat.le_of_ble_eq_true (by kernel_rfl)) (enters_of_all f35.enters) ((f35.shape Z x0 w Q).mpr h)

/-! ### 36: lagoon/lagoonref00.SpareAcl -/
def f36.sh (Z : List PanicEntry → World → Prop) (x0 : Value) (w : World) (Q : Value → World → Prop) : Prop :=
  run1 Tryz.prog Z (Builtin.len_ #[43] 3 #[x0]) w fun t7_1 w =>
  run1 Tryz.prog Z (binOp BinOp.add 3 t7_1 (Value.int IntKind.i64 64)) w fun t8_2 w =>
  run1 Tryz.prog Z (Instr.sliceAt 43 x0 none (some t8_2) none) w fun t9_3 w =>
  run1 Tryz.prog Z (Builtin.len_ #[43] 3 #[x0]) w fun t11_4 w =>
  ∃ J_5 : Nat → Value → World → Prop, (∃ m, J_5 m t11_4 w) ∧
    ∀ m_5, ∀ t4_6 : Value, ∀ w : World, J_5 m_5 t4_6 w → Env →
      run1 Tryz.prog Z (Builtin.len_ #[43] 3 #[t9_3]) w fun t14_7 w =>
      run1 Tryz.prog Z (binOp BinOp.lss 3 t4_6 t14_7) w fun t15_8 w =>
      CondV t15_8 (
        Drawn w fun w =>
        Pure1 Tryz.prog (Instr.indexAt 43 t9_3 t4_6) fun t20_9 =>
        Pure1 Tryz.prog (Instr.fieldAt 99 t20_9 1) fun t21_10 =>
        Pure1 Tryz.prog (Instr.fieldAt 97 t21_10 1) fun t22_11 =>
        Read1 Tryz.prog (Instr.loadAt 9 t22_11) w fun t23_12 =>
        Pure1 Tryz.prog (binOp BinOp.sub 3 (Value.int IntKind.i64 (-3000000)) t4_6) fun t25_13 =>
        CallV Tryz.prog Z 61 #[t25_13] w fun t26_14 w =>
          Still Tryz.prog (nx (Instr.loadAt 9 t22_11)) t23_12 w <|
        Pure1 Tryz.prog (eqOp BinOp.eql 9 false false t23_12 t26_14) fun t27_15 =>
        Pure1 Tryz.prog (Op.unary UnOp.not t27_15) fun t28_16 =>
        CondV t28_16 (
          Q (Value.bool false) w) (
          run1 Tryz.prog Z (binOp BinOp.add 3 t4_6 (Value.int IntKind.i64 1)) w fun t17_17 w =>
          ∃ n_5, n_5 < m_5 ∧ J_5 n_5 t17_17 w)) (
        Q (Value.bool true) w)
noncomputable def f36.code : Code := match Tryz.f36.body with | some c => c | none => .skip
def f36.an : An := (.sq .leaf (.sq .leaf (.sq (.sq .leaf (.bl (.lp [4] [2, 4, 12, 13, 14, 15, 16, 17, 18, 19, 20, 21, 22, 23, 24, 25, 26, 27, 28] (.sq (.sq .leaf (.cn .leaf .leaf)) (.sq (.bl (.sq (.dr (.take 0 false (.take 1 false (.take 2 false (.take 3 false (.take 4 false (.take 5 true (.take 6 false (.take 7 false (.one 8 (.take 9 false (.take 10 false .fin)))))))))))) (.cn (.sq .leaf .leaf) .leaf))) .leaf))))) (.sq .leaf .leaf))))
theorem f36.body_eq : Tryz.f36.body = some f36.code := by kernel_rfl
theorem f36.shape (Z : List PanicEntry → World → Prop) (x0 : Value) (w : World) (Q : Value → World → Prop) : vc drawD Tryz.prog 29 Z [61] f36.an f36.code (fnQ Tryz.prog 29 Tryz.f36.results Q) (argEnv [x0]) w = f36.sh Z x0 w Q := by kernel_rfl
theorem f36.enters : ∀ f, f ∈ ([61] : List Nat) → Enters Tryz.prog f := by
  intro f hf
  simp only [List.mem_cons, List.not_mem_nil, or_false] at hf
  rcases hf with rfl
  · exact en61
theorem f36.calls {Z : List PanicEntry → World → Prop} {x0 : Value} {w : World} {Q : Value → World → Prop} (h : f36.sh Z x0 w Q) : CallV Tryz.prog Z 36 #[x0] w Q :=
  calls_of_vcn drawD_sound (Q := Q) (n := 29) (rs := Tryz.f36.results) (an := f36.an) (c := f36.code) (cal := [61]) (args := [x0]) Tryz.func36 (by kernel_rfl) rfl f36.body_eq follows (Nat.le_of_ble_eq_true (by kernel_rfl)) (enters_of_all f36.enters) ((f36.shape Z x0 w Q).mpr h)

/-! ### 37: lagoon/lagoonref00.SpareIds -/
def f37.sh (Z : List PanicEntry → World → Prop) (x0 : Value) (w : World) (Q : Value → World → Prop) : Prop :=
  run1 Tryz.prog Z (Builtin.len_ #[44] 3 #[x0]) w fun t7_1 w =>
  run1 Tryz.prog Z (binOp BinOp.add 3 t7_1 (Value.int IntKind.i64 64)) w fun t8_2 w =>
  run1 Tryz.prog Z (Instr.sliceAt 44 x0 none (some t8_2) none) w fun t9_3 w =>
  run1 Tryz.prog Z (Builtin.len_ #[44] 3 #[x0]) w fun t11_4 w =>
  ∃ J_5 : Nat → Value → World → Prop, (∃ m, J_5 m t11_4 w) ∧
    ∀ m_5, ∀ t4_6 : Value, ∀ w : World, J_5 m_5 t4_6 w → Env →
      run1 Tryz.prog Z (Builtin.len_ #[44] 3 #[t9_3]) w fun t14_7 w =>
      run1 Tryz.prog Z (binOp BinOp.lss 3 t4_6 t14_7) w fun t15_8 w =>
      CondV t15_8 (
        Drawn w fun w =>
        Pure1 Tryz.prog (Instr.indexAt 44 t9_3 t4_6) fun t20_9 =>
        Pure1 Tryz.prog (Instr.fieldAt 97 t20_9 1) fun t21_10 =>
        Read1 Tryz.prog (Instr.loadAt 9 t21_10) w fun t22_11 =>
        Pure1 Tryz.prog (binOp BinOp.sub 3 (Value.int IntKind.i64 (-3000000)) t4_6) fun t24_12 =>
        CallV Tryz.prog Z 61 #[t24_12] w fun t25_13 w =>
          Still Tryz.prog (nx (Instr.loadAt 9 t21_10)) t22_11 w <|
        Pure1 Tryz.prog (eqOp BinOp.eql 9 false false t22_11 t25_13) fun t26_14 =>
        Pure1 Tryz.prog (Op.unary UnOp.not t26_14) fun t27_15 =>
        CondV t27_15 (
          Q (Value.bool false) w) (
          run1 Tryz.prog Z (binOp BinOp.add 3 t4_6 (Value.int IntKind.i64 1)) w fun t17_16 w =>
          ∃ n_5, n_5 < m_5 ∧ J_5 n_5 t17_16 w)) (
        Q (Value.bool true) w)
noncomputable def f37.code : Code := match Tryz.f37.body with | some c => c | none => .skip
def f37.an : An := (.sq .leaf (.sq .leaf (.sq (.sq .leaf (.bl (.lp [4] [2, 4, 12, 13, 14, 15, 16, 17, 18, 19, 20, 21, 22, 23, 24, 25, 26, 27] (.sq (.sq .leaf (.cn .leaf .leaf)) (.sq (.bl (.sq (.dr (.take 0 false (.take 1 false (.take 2 false (.take 3 false (.take 4 true (.take 5 false (.take 6 false (.one 7 (.take 8 false (.take 9 false .fin))))))))))) (.cn (.sq .leaf .leaf) .leaf))) .leaf))))) (.sq .leaf .leaf))))
theorem f37.body_eq : Tryz.f37.body = some f37.code := by kernel_rfl
theorem f37.shape (Z : List PanicEntry → World → Prop) (x0 : Value) (w : World) (Q : Value → World → Prop) : vc drawD Tryz.prog 28 Z [61] f37.an f37.code (fnQ Tryz.prog 28 Tryz.f37.results Q) (argEnv [x0]) w = f37.sh Z x0 w Q := by kernel_rfl
theorem f37.enters : ∀ f, f ∈ ([61] : List Nat) → Enters Tryz.prog f := by
  intro f hf
  simp only [List.mem_cons, List.not_mem_nil, or_false] at hf
  rcases hf with rfl
  · exact en61
theorem f37.calls {Z : List PanicEntry → World → Prop} {x0 : Value} {w : World} {Q : Value → World → Prop} (h : f37.sh Z x0 w Q) : CallV Tryz.prog Z 37 #[x0] w Q :=
  calls_of_vcn drawD_sound (Q := Q) (n := 28) (rs := Tryz.f37.results) (an := f37.an) (c := f37.code) (cal := [61]) (args := [x0]) Tryz.func37 (by kernel_rfl) rfl f37.body_eq follows (Nat.le_of_ble_eq_true (by kernel_rfl)) (enters_of_all f37.enters) ((f37.shape Z x0 w Q).mpr h)

/-! ### 38: lagoon/lagoonref00.SpareRequests -/
def f38.sh (Z : List PanicEntry → World → Prop) (x0 : Value) (w : World) (Q : Value → World → Prop) : Prop :=
  run1 Tryz.prog Z (Builtin.len_ #[45] 3 #[x0]) w fun t9_1 w =>
  run1 Tryz.prog Z (binOp BinOp.add 3 t9_1 (Value.int IntKind.i64 64)) w fun t10_2 w =>
  run1 Tryz.prog Z (Instr.sliceAt 45 x0 none (some t10_2) none) w fun t11_3 w =>
  run1 Tryz.prog Z (Builtin.len_ #[45] 3 #[x0]) w fun t13_4 w =>
  ∃ J_5 : Nat → Value → World → Prop, (∃ m, J_5 m t13_4 w) ∧
    ∀ m_5, ∀ t4_6 : Value, ∀ w : World, J_5 m_5 t4_6 w → Env →
      run1 Tryz.prog Z (Builtin.len_ #[45] 3 #[t11_3]) w fun t16_7 w =>
      run1 Tryz.prog Z (binOp BinOp.lss 3 t4_6 t16_7) w fun t17_8 w =>
      CondV t17_8 (
        run1 Tryz.prog Z (Instr.indexAt 45 t11_3 t4_6) w fun t22_9 w =>
        run1 Tryz.prog Z (Instr.fieldAt 47 t22_9 7) w fun t23_10 w =>
        run1 Tryz.prog Z (Instr.loadAt 2 t23_10) w fun t24_11 w =>
        run1 Tryz.prog Z (binOp BinOp.sub 3 (Value.int IntKind.i64 (-3000000)) t4_6) w fun t26_12 w =>
        run1 Tryz.prog Z (eqOp BinOp.eql 2 false false t24_11 t26_12) w fun t27_13 w =>
        run1 Tryz.prog Z (Op.unary UnOp.not t27_13) w fun t28_14 w =>
        CondV t28_14 (
          Q (Value.bool false) w) (
          run1 Tryz.prog Z (binOp BinOp.add 3 t4_6 (Value.int IntKind.i64 1)) w fun t19_15 w =>
          ∃ n_5, n_5 < m_5 ∧ J_5 n_5 t19_15 w)) (
        ∃ J_16 : Nat → Value → World → Prop, (∃ m, J_16 m (Value.int IntKind.i64 0) w) ∧
          ∀ m_16, ∀ t5_17 : Value, ∀ w : World, J_16 m_16 t5_17 w → Env →
            run1 Tryz.prog Z (Builtin.len_ #[45] 3 #[x0]) w fun t31_18 w =>
            run1 Tryz.prog Z (binOp BinOp.lss 3 t5_17 t31_18) w fun t32_19 w =>
            CondV t32_19 (
              run1 Tryz.prog Z (Instr.indexAt 45 x0 t5_17) w fun t37_20 w =>
              run1 Tryz.prog Z (Instr.loadAt 47 t37_20) w fun t38_21 w =>
              CallV Tryz.prog Z 23 #[t38_21] w fun t39_22 w =>
              run1 Tryz.prog Z (Op.unary UnOp.not t39_22) w fun t41_23 w =>
              CondV t41_23 (
                Q (Value.bool false) w) (
                run1 Tryz.prog Z (binOp BinOp.add 3 t5_17 (Value.int IntKind.i64 1)) w fun t34_24 w =>
                ∃ n_16, n_16 < m_16 ∧ J_16 n_16 t34_24 w)) (
              Q (Value.bool true) w))
noncomputable def f38.code : Code := match Tryz.f38.body with | some c => c | none => .skip
def f38.an : An := (.sq .leaf (.sq .leaf (.sq (.sq .leaf (.bl (.lp [4] [2, 4, 14, 15, 16, 17, 18, 19, 20, 21, 22, 23, 24, 25, 26, 27, 28] (.sq (.sq .leaf (.cn .leaf .leaf)) (.sq (.bl (.sq .leaf (.cn (.sq .leaf .leaf) .leaf))) .leaf))))) (.sq (.sq .leaf (.bl (.lp [5] [2, 5, 6, 29, 30, 31, 32, 33, 34, 35, 36, 37, 38, 39, 40, 41] (.sq (.sq .leaf (.cn .leaf .leaf)) (.sq (.bl (.sq .leaf (.sq .leaf (.cn (.sq .leaf .leaf) .leaf)))) .leaf))))) (.sq .leaf .leaf)))))
theorem f38.body_eq : Tryz.f38.body = some f38.code := by kernel_rfl
theorem f38.shape (Z : List PanicEntry → World → Prop) (x0 : Value) (w : World) (Q : Value → World → Prop) : vc drawD Tryz.prog 42 Z [23] f38.an f38.code (fnQ Tryz.prog 42 Tryz.f38.results Q) (argEnv [x0]) w = f38.sh Z x0 w Q := by kernel_rfl
theorem f38.enters : ∀ f, f ∈ ([23] : List Nat) → Enters Tryz.prog f := by
  intro f hf
  simp only [List.mem_cons, List.not_mem_nil, or_false] at hf
  rcases hf with rfl
  · exact en23
theorem f38.calls {Z : List PanicEntry → World → Prop} {x0 : Value} {w : World} {Q : Value → World → Prop} (h : f38.sh Z x0 w Q) : CallV Tryz.prog Z 38 #[x0] w Q :=
  calls_of_vcn drawD_sound (Q := Q) (n := 42) (rs := Tryz.f38.results) (an := f38.an) (c := f38.code) (cal := [23]) (args := [x0]) Tryz.func38 (by kernel_rfl) rfl f38.body_eq follows (Nat.le_of_ble_eq_true (by kernel_rfl)) (enters_of_all f38.enters) ((f38.shape Z x0 w Q).mpr h)

/-! ### 39: lagoon/lagoonref00.CopyRequest -/
def f39.sh (Z : List PanicEntry → World → Prop) (x0 : Value) (w : World) (Q : Value → World → Prop) : Prop :=
  run1 Tryz.prog Z (Instr.box 47 x0) w fun t1_1 w =>
  run1 Tryz.prog Z (Instr.alloc 47 true (.tuple #[])) w fun t2_2 w =>
  run1 Tryz.prog Z (Instr.loadAt 47 t1_1) w fun t5_3 w =>
  run1 Tryz.prog Z (Instr.alloc 47 true (.tuple #[])) w fun t3_4 w =>
  run0 Tryz.prog Z (Instr.storeAt 47 t3_4 t5_3) w fun w =>
  run1 Tryz.prog Z (Instr.fieldAt 47 t1_1 2) w fun t6_5 w =>
  run1 Tryz.prog Z (Instr.loadAt 42 t6_5) w fun t7_6 w =>
  CallV Tryz.prog Z 62 #[t7_6] w fun t8_7 w =>
  run1 Tryz.prog Z (Instr.fieldAt 47 t3_4 2) w fun t9_8 w =>
  run0 Tryz.prog Z (Instr.storeAt 42 t9_8 t8_7) w fun w =>
  run1 Tryz.prog Z (Instr.fieldAt 47 t1_1 3) w fun t10_9 w =>
  run1 Tryz.prog Z (Instr.loadAt 43 t10_9) w fun t11_10 w =>
  CallV Tryz.prog Z 63 #[t11_10] w fun t12_11 w =>
  run1 Tryz.prog Z (Instr.fieldAt 47 t3_4 3) w fun t13_12 w =>
  run0 Tryz.prog Z (Instr.storeAt 43 t13_12 t12_11) w fun w =>
  run1 Tryz.prog Z (Instr.fieldAt 47 t1_1 9) w fun t14_13 w =>
  run1 Tryz.prog Z (Instr.loadAt 44 t14_13) w fun t15_14 w =>
  CallV Tryz.prog Z 64 #[t15_14] w fun t16_15 w =>
  run1 Tryz.prog Z (Instr.fieldAt 47 t3_4 9) w fun t17_16 w =>
  run0 Tryz.prog Z (Instr.storeAt 44 t17_16 t16_15) w fun w =>
  run1 Tryz.prog Z (Instr.fieldAt 47 t3_4 10) w fun t18_17 w =>
  run0 Tryz.prog Z (Instr.storeAt 45 t18_17 (Value.slice none 0 0)) w fun w =>
  ∃ J_18 : Nat → Value → World → Prop, (∃ m, J_18 m (Value.int IntKind.i64 0) w) ∧
    ∀ m_18, ∀ t4_19 : Value, ∀ w : World, J_18 m_18 t4_19 w → Env →
      run1 Tryz.prog Z (Instr.fieldAt 47 t1_1 10) w fun t20_20 w =>
      run1 Tryz.prog Z (Instr.loadAt 45 t20_20) w fun t21_21 w =>
      run1 Tryz.prog Z (Builtin.len_ #[45] 3 #[t21_21]) w fun t22_22 w =>
      run1 Tryz.prog Z (binOp BinOp.lss 3 t4_19 t22_22) w fun t23_23 w =>
      CondV t23_23 (
        Drawn w fun w =>
        Pure1 Tryz.prog (Instr.fieldAt 47 t3_4 10) fun t26_24 =>
        Read1 Tryz.prog (Instr.loadAt 45 t26_24) w fun t27_25 =>
        Pure1 Tryz.prog (Instr.fieldAt 47 t1_1 10) fun t28_26 =>
        Read1 Tryz.prog (Instr.loadAt 45 t28_26) w fun t29_27 =>
        Pure1 Tryz.prog (Instr.indexAt 45 t29_27 t4_19) fun t31_28 =>
        Read1 Tryz.prog (Instr.loadAt 47 t31_28) w fun t32_29 =>
        CallV Tryz.prog Z 39 #[t32_29] w fun t33_30 w =>
          Still Tryz.prog (nx (Instr.loadAt 45 t28_26)) t29_27 w <|
          Still Tryz.prog (nx (Instr.loadAt 45 t26_24)) t27_25 w <|
        run1 Tryz.prog Z (Instr.buildSlice 45 1 #[(0, t33_30)]) w fun t34_31 w =>
          Still Tryz.prog (nx (Instr.loadAt 45 t28_26)) t29_27 w <|
          Still Tryz.prog (nx (Instr.loadAt 45 t26_24)) t27_25 w <|
        run1 Tryz.prog Z (Builtin.append_ #[45, 45] 45 #[t27_25, t34_31]) w fun t35_32 w =>
          Still Tryz.prog (nx (Instr.loadAt 45 t28_26)) t29_27 w <|
        Pure1 Tryz.prog (Instr.fieldAt 47 t3_4 10) fun t36_33 =>
        run0 Tryz.prog Z (Instr.storeAt 45 t36_33 t35_32) w fun w =>
        run1 Tryz.prog Z (binOp BinOp.add 3 t4_19 (Value.int IntKind.i64 1)) w fun t25_34 w =>
        ∃ n_18, n_18 < m_18 ∧ J_18 n_18 t25_34 w) (
        run1 Tryz.prog Z (Instr.loadAt 47 t3_4) w fun t37_35 w =>
        run0 Tryz.prog Z (Instr.storeAt 47 t2_2 t37_35) w fun w =>
        ∃ r_36, (do loadVar 47 (← asAddr t2_2) : Sem Value).run Tryz.prog w = .ok r_36 w ∧
        Q r_36 w)
noncomputable def f39.code : Code := match Tryz.f39.body with | some c => c | none => .skip
def f39.an : An := (.sq .leaf (.sq .leaf (.sq .leaf (.sq .leaf (.sq .leaf (.sq .leaf (.sq (.sq .leaf (.bl (.lp [4] [4, 19, 20, 21, 22, 23, 24, 25, 26, 27, 28, 29, 30, 31, 32, 33, 34, 35, 36] (.sq (.sq .leaf (.cn .leaf .leaf)) (.sq (.bl (.dr (.take 0 false (.take 1 true (.take 2 false (.take 3 true (.take 4 false (.take 5 false (.take 6 true (.one 7 (.one 8 (.one 9 (.take 10 false (.one 11 .fin)))))))))))))) .leaf))))) (.sq .leaf .leaf))))))))
theorem f39.body_eq : Tryz.f39.body = some f39.code := by kernel_rfl
theorem f39.shape (Z : List PanicEntry → World → Prop) (x0 : Value) (w : World) (Q : Value → World → Prop) : vc drawD Tryz.prog 38 Z [62, 63, 64, 39] f39.an f39.code (fnQ Tryz.prog 38 Tryz.f39.results Q) (argEnv [x0]) w = f39.sh Z x0 w Q := by kernel_rfl
theorem f39.enters : ∀ f, f ∈ ([62, 63, 64, 39] : List Nat) → Enters Tryz.prog f := by
  intro f hf
  simp only [List.mem_cons, List.not_mem_nil, or_false] at hf
  rcases hf with rfl | rfl | rfl | rfl
  · exact en62
  · exact en63
  · exact en64
  · exact en39
theorem f39.calls {Z : List PanicEntry → World → Prop} {x0 : Value} {w : World} {Q : Value → World → Prop} (h : f39.sh Z x0 w Q) : CallV Tryz.prog Z 39 #[x0] w Q :=
  calls_of_vcn drawD_sound (Q := Q) (n := 38) (rs := Tryz.f39.results) (an := f39.an) (c := f39.code) (cal := [62, 63, 64, 39]) (args := [x0]) Tryz.func39 (by kernel_rfl) rfl f39.body_eq follows (Nat.le_of_ble_eq_true (by kernel_rfl)) (enters_of_all f39.enters) ((f39.shape Z x0 w Q).mpr h)

/-! ### 40: cmp.Or[int] -/
def f40.sh (Z : List PanicEntry → World → Prop) (x0 : Value) (w : World) (Q : Value → World → Prop) : Prop :=
  run1 Tryz.prog Z (Builtin.len_ #[101] 3 #[x0]) w fun t7_1 w =>
  ∃ J_2 : Nat → Value → World → Prop, (∃ m, J_2 m (Value.int IntKind.i64 0) w) ∧
    ∀ m_2, ∀ t8_3 : Value, ∀ w : World, J_2 m_2 t8_3 w → Env →
      run1 Tryz.prog Z (binOp BinOp.lss 3 t8_3 t7_1) w fun t9_4 w =>
      CondV t9_4 (
        run1 Tryz.prog Z (Instr.indexAt 101 x0 t8_3) w fun t10_5 w =>
        run1 Tryz.prog Z (Instr.loadAt 3 t10_5) w fun t11_6 w =>
        run1 Tryz.prog Z (eqOp BinOp.neq 3 false false t11_6 (Value.int IntKind.i64 0)) w fun t14_7 w =>
        CondV t14_7 (
          Q t11_6 w) (
          run1 Tryz.prog Z (binOp BinOp.add 3 t8_3 (Value.int IntKind.i64 1)) w fun t16_8 w =>
          ∃ n_2, n_2 < m_2 ∧ J_2 n_2 t16_8 w)) (
        Q (Value.int IntKind.i64 0) w)
noncomputable def f40.code : Code := match Tryz.f40.body with | some c => c | none => .skip
def f40.an : An := (.sq .leaf (.sq .leaf (.sq (.sq .leaf (.bl (.lp [8] [2, 5, 8, 9, 10, 11, 12, 13, 14, 15, 16] (.sq .leaf (.sq (.cn .leaf .leaf) (.sq (.bl (.sq .leaf (.sq .leaf (.cn (.sq .leaf .leaf) .leaf)))) .leaf)))))) (.sq .leaf .leaf))))
theorem f40.body_eq : Tryz.f40.body = some f40.code := by kernel_rfl
theorem f40.shape (Z : List PanicEntry → World → Prop) (x0 : Value) (w : World) (Q : Value → World → Prop) : vc drawD Tryz.prog 18 Z [] f40.an f40.code (fnQ Tryz.prog 18 Tryz.f40.results Q) (argEnv [x0]) w = f40.sh Z x0 w Q := by kernel_rfl
theorem f40.enters : ∀ f, f ∈ ([] : List Nat) → Enters Tryz.prog f := by
  intro f hf
  cases hf
theorem f40.calls {Z : List PanicEntry → World → Prop} {x0 : Value} {w : World} {Q : Value → World → Prop} (h : f40.sh Z x0 w Q) : CallV Tryz.prog Z 40 #[x0] w Q :=
  calls_of_vcn drawD_sound (Q := Q) (n := 18) (rs := Tryz.f40.results) (an := f40.an) (c := f40.code) (cal := []) (args := [x0]) Tryz.func40 (by kernel_rfl) rfl f40.body_eq follows (Nat.le_of_ble_eq_true (by kernel_rfl)) (enters_of_all f40.enters) ((f40.shape Z x0 w Q).mpr h)

/-! ### 41: cmp.Compare[uint32] -/
def f41.sh (Z : List PanicEntry → World → Prop) (x0 x1 : Value) (w : World) (Q : Value → World → Prop) : Prop :=
  CallV Tryz.prog Z 65 #[x0] w fun t8_1 w =>
  CallV Tryz.prog Z 65 #[x1] w fun t10_2 w =>
  CondV t8_1 (
    CondV t10_2 (
      Q (Value.int IntKind.i64 0) w) (
      Q (Value.int IntKind.i64 (-1)) w)) (
    CondV t10_2 (
      Q (Value.int IntKind.i64 1) w) (
      run1 Tryz.prog Z (binOp BinOp.lss 22 x0 x1) w fun t16_3 w =>
      CondV t16_3 (
        Q (Value.int IntKind.i64 (-1)) w) (
        run1 Tryz.prog Z (binOp BinOp.gtr 22 x0 x1) w fun t19_4 w =>
        CondV t19_4 (
          Q (Value.int IntKind.i64 1) w) (
          Q (Value.int IntKind.i64 0) w))))
noncomputable def f41.code : Code := match Tryz.f41.body with | some c => c | none => .skip
def f41.an : An := (.sq .leaf (.sq .leaf (.sq .leaf (.sq (.sq .leaf (.cn (.sq (.sq .leaf (.cn (.sq .leaf .leaf) .leaf)) (.sq .leaf .leaf)) .leaf)) (.sq (.sq .leaf (.cn (.sq .leaf .leaf) .leaf)) (.sq (.sq .leaf (.cn (.sq .leaf .leaf) .leaf)) (.sq (.sq .leaf (.cn (.sq .leaf .leaf) .leaf)) (.sq .leaf .leaf))))))))
theorem f41.body_eq : Tryz.f41.body = some f41.code := by kernel_rfl
theorem f41.shape (Z : List PanicEntry → World → Prop) (x0 x1 : Value) (w : World) (Q : Value → World → Prop) : vc drawD Tryz.prog 20 Z [65] f41.an f41.code (fnQ Tryz.prog 20 Tryz.f41.results Q) (argEnv [x0, x1]) w = f41.sh Z x0 x1 w Q := by kernel_rfl
theorem f41.enters : ∀ f, f ∈ ([65] : List Nat) → Enters Tryz.prog f := by
  intro f hf
  simp only [List.mem_cons, List.not_mem_nil, or_false] at hf
  rcases hf with rfl
  · exact en65
theorem f41.calls {Z : List PanicEntry → World → Prop} {x0 x1 : Value} {w : World} {Q : Value → World → Prop} (h : f41.sh Z x0 x1 w Q) : CallV Tryz.prog Z 41 #[x0, x1] w Q :=
  calls_of_vcn drawD_sound (Q := Q) (n := 20) (rs := Tryz.f41.results) (an := f41.an) (c := f41.code) (cal := [65]) (args := [x0, x1]) Tryz.func41 (by kernel_rfl) rfl f41.body_eq follows (Nat.le_of_ble_eq_true (by kernel_rfl)) (enters_of_all f41.enters) ((f41.shape Z x0 x1 w Q).mpr h)

/-! ### 42: lagoon/txn.Check -/
def f42.sh (Z : List PanicEntry → World → Prop) (x0 : Value) (w : World) (Q : Value → World → Prop) : Prop :=
  run1 Tryz.prog Z (Instr.box 49 x0) w fun t1_1 w =>
  run1 Tryz.prog Z (Instr.fieldAt 49 t1_1 0) w fun t5_2 w =>
  run1 Tryz.prog Z (Instr.loadAt 24 t5_2) w fun t6_3 w =>
  run1 Tryz.prog Z (Instr.alloc 24 true (.tuple #[])) w fun t3_4 w =>
  run0 Tryz.prog Z (Instr.storeAt 24 t3_4 t6_3) w fun w =>
  run1 Tryz.prog Z (Instr.fieldAt 24 t3_4 0) w fun t7_5 w =>
  run1 Tryz.prog Z (Instr.loadAt 22 t7_5) w fun t8_6 w =>
  run1 Tryz.prog Z (binOp BinOp.geq 22 t8_6 (Value.int IntKind.u32 1)) w fun t9_7 w =>
  guardW (t9_7) true (fun k => run1 Tryz.prog Z (Instr.fieldAt 24 t3_4 0) w k) (fun t11_8 w =>
  guardW (t9_7) true (fun k => run1 Tryz.prog Z (Instr.loadAt 22 t11_8) w k) (fun t12_9 w =>
  guardW (t9_7) true (fun k => run1 Tryz.prog Z (binOp BinOp.leq 22 t12_9 (Value.int IntKind.u32 2147483647)) w k) (fun t13_10 w =>
  run1 Tryz.prog Z (pickV t9_7 t13_10 (Value.bool false)) w fun t14_11 w =>
  guardW (t14_11) true (fun k => run1 Tryz.prog Z (Instr.fieldAt 24 t3_4 1) w k) (fun t16_12 w =>
  guardW (t14_11) true (fun k => run1 Tryz.prog Z (Instr.loadAt 22 t16_12) w k) (fun t17_13 w =>
  guardW (t14_11) true (fun k => run1 Tryz.prog Z (binOp BinOp.geq 22 t17_13 (Value.int IntKind.u32 1)) w k) (fun t18_14 w =>
  run1 Tryz.prog Z (pickV t14_11 t18_14 (Value.bool false)) w fun t19_15 w =>
  run1 Tryz.prog Z (Instr.loadAt 24 t3_4) w fun t21_16 w =>
  run1 Tryz.prog Z (Instr.build 24 #[]) w fun t22_17 w =>
  run1 Tryz.prog Z (eqOp BinOp.neq 24 false false t21_16 t22_17) w fun t23_18 w =>
  guardW (t23_18) true (fun k => k (t19_15) w) (fun t25_19 w =>
  guardW (t23_18) true (fun k => run1 Tryz.prog Z (Op.unary UnOp.not t25_19) w k) (fun t26_20 w =>
  run1 Tryz.prog Z (pickV t23_18 t26_20 (Value.bool false)) w fun t27_21 w =>
  CondV t27_21 (
    Q (Value.int IntKind.i64 40) w) (
    run1 Tryz.prog Z (Instr.fieldAt 49 t1_1 1) w fun t29_22 w =>
    run1 Tryz.prog Z (Instr.fieldAt 41 t29_22 0) w fun t30_23 w =>
    run1 Tryz.prog Z (Instr.loadAt 32 t30_23) w fun t31_24 w =>
    run1 Tryz.prog Z (binOp BinOp.lss 32 t31_24 (Value.int IntKind.i8 0)) w fun t32_25 w =>
    guardW (t32_25) false (fun k => run1 Tryz.prog Z (Instr.fieldAt 49 t1_1 1) w k) (fun t34_26 w =>
    guardW (t32_25) false (fun k => run1 Tryz.prog Z (Instr.fieldAt 41 t34_26 0) w k) (fun t35_27 w =>
    guardW (t32_25) false (fun k => run1 Tryz.prog Z (Instr.loadAt 32 t35_27) w k) (fun t36_28 w =>
    guardW (t32_25) false (fun k => run1 Tryz.prog Z (binOp BinOp.geq 32 t36_28 (Value.int IntKind.i8 7)) w k) (fun t37_29 w =>
    run1 Tryz.prog Z (pickV t32_25 (Value.bool true) t37_29) w fun t38_30 w =>
    guardW (t38_30) false (fun k => run1 Tryz.prog Z (Instr.fieldAt 49 t1_1 1) w k) (fun t40_31 w =>
    guardW (t38_30) false (fun k => run1 Tryz.prog Z (Instr.fieldAt 41 t40_31 2) w k) (fun t41_32 w =>
    guardW (t38_30) false (fun k => run1 Tryz.prog Z (Instr.loadAt 2 t41_32) w k) (fun t42_33 w =>
    guardW (t38_30) false (fun k => run1 Tryz.prog Z (binOp BinOp.lss 2 t42_33 (Value.int IntKind.i64 0)) w k) (fun t43_34 w =>
    run1 Tryz.prog Z (pickV t38_30 (Value.bool true) t43_34) w fun t44_35 w =>
    CondV t44_35 (
      Q (Value.int IntKind.i64 40) w) (
      run1 Tryz.prog Z (Instr.fieldAt 49 t1_1 2) w fun t46_36 w =>
      run1 Tryz.prog Z (Instr.fieldAt 47 t46_36 0) w fun t47_37 w =>
      run1 Tryz.prog Z (Instr.loadAt 32 t47_37) w fun t48_38 w =>
      run1 Tryz.prog Z (binOp BinOp.gtr 32 t48_38 (Value.int IntKind.i8 8)) w fun t49_39 w =>
      CondV t49_39 (
        Q (Value.int IntKind.i64 40) w) (
        run1 Tryz.prog Z (Instr.fieldAt 49 t1_1 2) w fun t50_40 w =>
        run1 Tryz.prog Z (Instr.loadAt 47 t50_40) w fun t51_41 w =>
        CallV Tryz.prog Z 66 #[t51_41] w fun t52_42 w =>
        Q t52_42 w))) w) w) w) w) w) w) w) w)) w) w) w) w) w) w) w) w
noncomputable def f42.code : Code := match Tryz.f42.body with | some c => c | none => .skip
def f42.an : An := (.sq .leaf (.sq .leaf (.sq .leaf (.sq (.bl (.sq .leaf (.cn (.sq .leaf .leaf) (.sq .leaf (.cn (.sq .leaf .leaf) (.sq .leaf (.cn (.sq .leaf .leaf) .leaf))))))) (.sq .leaf .leaf)))))
theorem f42.body_eq : Tryz.f42.body = some f42.code := by kernel_rfl
theorem f42.shape (Z : List PanicEntry → World → Prop) (x0 : Value) (w : World) (Q : Value → World → Prop) : vc drawD Tryz.prog 53 Z [66] f42.an f42.code (fnQ Tryz.prog 53 Tryz.f42.results Q) (argEnv [x0]) w = f42.sh Z x0 w Q := by kernel_rfl
theorem f42.enters : ∀ f, f ∈ ([66] : List Nat) → Enters Tryz.prog f := by
  intro f hf
  simp only [List.mem_cons, List.not_mem_nil, or_false] at hf
  rcases hf with rfl
  · exact en66
theorem f42.calls {Z : List PanicEntry → World → Prop} {x0 : Value} {w : World} {Q : Value → World → Prop} (h : f42.sh Z x0 w Q) : CallV Tryz.prog Z 42 #[x0] w Q :=
  calls_of_vcn drawD_sound (Q := Q) (n := 53) (rs := Tryz.f42.results) (an := f42.an) (c := f42.code) (cal := [66]) (args := [x0]) Tryz.func42 (by kernel_rfl) rfl f42.body_eq follows (Nat.le_of_ble_eq_true (by kernel_rfl)) (enters_of_all f42.enters) ((f42.shape Z x0 w Q).mpr h)

/-! ### 43: (*lagoon/pack.Writer).Uint32 -/
def f43.sh (Z : List PanicEntry → World → Prop) (x0 x1 : Value) (w : World) (Q : Value → World → Prop) : Prop :=
  run1 Tryz.prog Z (convert 22 105 x1) w fun t6_1 w =>
  CallV Tryz.prog Z 67 #[x0, t6_1, (Value.int IntKind.i64 4)] w fun t7_2 w =>
  Q (Value.tuple #[]) w
noncomputable def f43.code : Code := match Tryz.f43.body with | some c => c | none => .skip
def f43.an : An := .leaf
theorem f43.body_eq : Tryz.f43.body = some f43.code := by kernel_rfl
theorem f43.shape (Z : List PanicEntry → World → Prop) (x0 x1 : Value) (w : World) (Q : Value → World → Prop) : vc drawD Tryz.prog 8 Z [67] f43.an f43.code (fnQ Tryz.prog 8 Tryz.f43.results Q) (argEnv [x0, x1]) w = f43.sh Z x0 x1 w Q := by kernel_rfl
theorem f43.enters : ∀ f, f ∈ ([67] : List Nat) → Enters Tryz.prog f := by
  intro f hf
  simp only [List.mem_cons, List.not_mem_nil, or_false] at hf
  rcases hf with rfl
  · exact en67
theorem f43.calls {Z : List PanicEntry → World → Prop} {x0 x1 : Value} {w : World} {Q : Value → World → Prop} (h : f43.sh Z x0 x1 w Q) : CallV Tryz.prog Z 43 #[x0, x1] w Q :=
  calls_of_vcn drawD_sound (Q := Q) (n := 8) (rs := Tryz.f43.results) (an := f43.an) (c := f43.code) (cal := [67]) (args := [x0, x1]) Tryz.func43 (by kernel_rfl) rfl f43.body_eq follows (Nat.le_of_ble_eq_true (by kernel_rfl)) (enters_of_all f43.enters) ((f43.shape Z x0 x1 w Q).mpr h)

/-! ### 44: (*lagoon/pack.Writer).Int8 -/
def f44.sh (Z : List PanicEntry → World → Prop) (x0 x1 : Value) (w : World) (Q : Value → World → Prop) : Prop :=
  run1 Tryz.prog Z (convert 32 105 x1) w fun t6_1 w =>
  CallV Tryz.prog Z 67 #[x0, t6_1, (Value.int IntKind.i64 1)] w fun t7_2 w =>
  Q (Value.tuple #[]) w
noncomputable def f44.code : Code := match Tryz.f44.body with | some c => c | none => .skip
def f44.an : An := .leaf
theorem f44.body_eq : Tryz.f44.body = some f44.code := by kernel_rfl
theorem f44.shape (Z : List PanicEntry → World → Prop) (x0 x1 : Value) (w : World) (Q : Value → World → Prop) : vc drawD Tryz.prog 8 Z [67] f44.an f44.code (fnQ Tryz.prog 8 Tryz.f44.results Q) (argEnv [x0, x1]) w = f44.sh Z x0 x1 w Q := by kernel_rfl
theorem f44.enters : ∀ f, f ∈ ([67] : List Nat) → Enters Tryz.prog f := by
  intro f hf
  simp only [List.mem_cons, List.not_mem_nil, or_false] at hf
  rcases hf with rfl
  · exact en67
theorem f44.calls {Z : List PanicEntry → World → Prop} {x0 x1 : Value} {w : World} {Q : Value → World → Prop} (h : f44.sh Z x0 x1 w Q) : CallV Tryz.prog Z 44 #[x0, x1] w Q :=
  calls_of_vcn drawD_sound (Q := Q) (n := 8) (rs := Tryz.f44.results) (an := f44.an) (c := f44.code) (cal := [67]) (args := [x0, x1]) Tryz.func44 (by kernel_rfl) rfl f44.body_eq follows (Nat.le_of_ble_eq_true (by kernel_rfl)) (enters_of_all f44.enters) ((f44.shape Z x0 x1 w Q).mpr h)

/-! ### 45: (*lagoon/pack.Writer).Int64 -/
def f45.sh (Z : List PanicEntry → World → Prop) (x0 x1 : Value) (w : World) (Q : Value → World → Prop) : Prop :=
  run1 Tryz.prog Z (convert 2 105 x1) w fun t6_1 w =>
  CallV Tryz.prog Z 67 #[x0, t6_1, (Value.int IntKind.i64 8)] w fun t7_2 w =>
  Q (Value.tuple #[]) w
noncomputable def f45.code : Code := match Tryz.f45.body with | some c => c | none => .skip
def f45.an : An := .leaf
theorem f45.body_eq : Tryz.f45.body = some f45.code := by kernel_rfl
theorem f45.shape (Z : List PanicEntry → World → Prop) (x0 x1 : Value) (w : World) (Q : Value → World → Prop) : vc drawD Tryz.prog 8 Z [67] f45.an f45.code (fnQ Tryz.prog 8 Tryz.f45.results Q) (argEnv [x0, x1]) w = f45.sh Z x0 x1 w Q := by kernel_rfl
theorem f45.enters : ∀ f, f ∈ ([67] : List Nat) → Enters Tryz.prog f := by
  intro f hf
  simp only [List.mem_cons, List.not_mem_nil, or_false] at hf
  rcases hf with rfl
  · exact en67
theorem f45.calls {Z : List PanicEntry → World → Prop} {x0 x1 : Value} {w : World} {Q : Value → World → Prop} (h : f45.sh Z x0 x1 w Q) : CallV Tryz.prog Z 45 #[x0, x1] w Q :=
  calls_of_vcn drawD_sound (Q := Q) (n := 8) (rs := Tryz.f45.results) (an := f45.an) (c := f45.code) (cal := [67]) (args := [x0, x1]) Tryz.func45 (by kernel_rfl) rfl f45.body_eq follows (Nat.le_of_ble_eq_true (by kernel_rfl)) (enters_of_all f45.enters) ((f45.shape Z x0 x1 w Q).mpr h)

/-! ### 46: (lagoon/txn.layer).put -/
def f46.sh (Z : List PanicEntry → World → Prop) (x0 x1 x2 : Value) (w : World) (Q : Value → World → Prop) : Prop :=
  run1 Tryz.prog Z (Instr.box 81 x0) w fun t3_1 w =>
  run1 Tryz.prog Z (Instr.box 47 x2) w fun t5_2 w =>
  run1 Tryz.prog Z (Instr.fieldAt 47 t5_2 0) w fun t8_3 w =>
  run1 Tryz.prog Z (Instr.loadAt 32 t8_3) w fun t9_4 w =>
  CallV Tryz.prog Z 44 #[x1, t9_4] w fun t10_5 w =>
  run1 Tryz.prog Z (Instr.loadAt 81 t3_1) w fun t11_6 w =>
  run1 Tryz.prog Z (Instr.fieldAt 47 t5_2 0) w fun t12_7 w =>
  run1 Tryz.prog Z (Instr.loadAt 32 t12_7) w fun t13_8 w =>
  CallV Tryz.prog Z 68 #[t11_6, t13_8] w fun t14_9 w =>
  ∀ j_10 : World → Prop, (∀ w : World, (Env →
      ∀ j_11 : World → Prop, (∀ w : World, (Env →
          ∀ j_12 : World → Prop, (∀ w : World, (Env →
              ∀ j_13 : World → Prop, (∀ w : World, (Env →
                  ∀ j_14 : World → Prop, (∀ w : World, (Env →
                      ∀ j_15 : World → Prop, (∀ w : World, (Env →
                          ∀ j_16 : World → Prop, (∀ w : World, (Env →
                              ∀ j_17 : World → Prop, (∀ w : World, (Env →
                                  run1 Tryz.prog Z (binOp BinOp.and 106 t14_9 (Value.int IntKind.u64 256)) w fun t76_18 w =>
                                  run1 Tryz.prog Z (eqOp BinOp.neq 106 false true t76_18 (Value.int IntKind.u64 0)) w fun t77_19 w =>
                                  CondV t77_19 (
                                    run1 Tryz.prog Z (Instr.fieldAt 47 t5_2 10) w fun t79_20 w =>
                                    run1 Tryz.prog Z (Instr.loadAt 45 t79_20) w fun t80_21 w =>
                                    run1 Tryz.prog Z (Instr.build 81 #[(0, (Value.bool true))]) w fun t81_22 w =>
                                    run1 Tryz.prog Z (Instr.makeFunc (Fn.func 46) #[t81_22] #[]) w fun t82_23 w =>
                                    CallV Tryz.prog Z 77 #[x1, t80_21, t82_23] w fun t83_24 w =>
                                    Q (Value.tuple #[]) w) (
                                    Q (Value.tuple #[]) w)) →
                                  j_17 w) →
                              run1 Tryz.prog Z (binOp BinOp.and 106 t14_9 (Value.int IntKind.u64 128)) w fun t69_25 w =>
                              run1 Tryz.prog Z (eqOp BinOp.neq 106 false true t69_25 (Value.int IntKind.u64 0)) w fun t70_26 w =>
                              CondV t70_26 (
                                run1 Tryz.prog Z (Instr.fieldAt 47 t5_2 9) w fun t72_27 w =>
                                run1 Tryz.prog Z (Instr.loadAt 44 t72_27) w fun t73_28 w =>
                                CallV Tryz.prog Z 75 #[x1, t73_28, (Value.func (Fn.func 76) #[] #[])] w fun t74_29 w =>
                                j_17 w) (
                                j_17 w)) →
                              j_16 w) →
                          run1 Tryz.prog Z (binOp BinOp.and 106 t14_9 (Value.int IntKind.u64 64)) w fun t62_30 w =>
                          run1 Tryz.prog Z (eqOp BinOp.neq 106 false true t62_30 (Value.int IntKind.u64 0)) w fun t63_31 w =>
                          CondV t63_31 (
                            run1 Tryz.prog Z (Instr.fieldAt 47 t5_2 8) w fun t65_32 w =>
                            run1 Tryz.prog Z (Instr.loadAt 21 t65_32) w fun t66_33 w =>
                            CallV Tryz.prog Z 73 #[x1, t66_33] w fun t67_34 w =>
                            j_16 w) (
                            j_16 w)) →
                          j_15 w) →
                      run1 Tryz.prog Z (binOp BinOp.and 106 t14_9 (Value.int IntKind.u64 32)) w fun t55_35 w =>
                      run1 Tryz.prog Z (eqOp BinOp.neq 106 false true t55_35 (Value.int IntKind.u64 0)) w fun t56_36 w =>
                      CondV t56_36 (
                        run1 Tryz.prog Z (Instr.fieldAt 47 t5_2 7) w fun t58_37 w =>
                        run1 Tryz.prog Z (Instr.loadAt 2 t58_37) w fun t59_38 w =>
                        CallV Tryz.prog Z 45 #[x1, t59_38] w fun t60_39 w =>
                        j_15 w) (
                        j_15 w)) →
                      j_14 w) →
                  run1 Tryz.prog Z (binOp BinOp.and 106 t14_9 (Value.int IntKind.u64 16)) w fun t44_40 w =>
                  run1 Tryz.prog Z (eqOp BinOp.neq 106 false true t44_40 (Value.int IntKind.u64 0)) w fun t45_41 w =>
                  CondV t45_41 (
                    run1 Tryz.prog Z (Instr.fieldAt 47 t5_2 5) w fun t47_42 w =>
                    run1 Tryz.prog Z (Instr.loadAt 4 t47_42) w fun t48_43 w =>
                    CallV Tryz.prog Z 74 #[x1, t48_43] w fun t49_44 w =>
                    run1 Tryz.prog Z (Instr.fieldAt 47 t5_2 6) w fun t51_45 w =>
                    run1 Tryz.prog Z (Instr.loadAt 4 t51_45) w fun t52_46 w =>
                    CallV Tryz.prog Z 74 #[x1, t52_46] w fun t53_47 w =>
                    j_14 w) (
                    j_14 w)) →
                  j_13 w) →
              run1 Tryz.prog Z (binOp BinOp.and 106 t14_9 (Value.int IntKind.u64 8)) w fun t37_48 w =>
              run1 Tryz.prog Z (eqOp BinOp.neq 106 false true t37_48 (Value.int IntKind.u64 0)) w fun t38_49 w =>
              CondV t38_49 (
                run1 Tryz.prog Z (Instr.fieldAt 47 t5_2 4) w fun t40_50 w =>
                run1 Tryz.prog Z (Instr.loadAt 21 t40_50) w fun t41_51 w =>
                CallV Tryz.prog Z 73 #[x1, t41_51] w fun t42_52 w =>
                j_13 w) (
                j_13 w)) →
              j_12 w) →
          run1 Tryz.prog Z (binOp BinOp.and 106 t14_9 (Value.int IntKind.u64 4)) w fun t30_53 w =>
          run1 Tryz.prog Z (eqOp BinOp.neq 106 false true t30_53 (Value.int IntKind.u64 0)) w fun t31_54 w =>
          CondV t31_54 (
            run1 Tryz.prog Z (Instr.fieldAt 47 t5_2 3) w fun t33_55 w =>
            run1 Tryz.prog Z (Instr.loadAt 43 t33_55) w fun t34_56 w =>
            CallV Tryz.prog Z 71 #[x1, t34_56, (Value.func (Fn.func 72) #[] #[])] w fun t35_57 w =>
            j_12 w) (
            j_12 w)) →
          j_11 w) →
      run1 Tryz.prog Z (binOp BinOp.and 106 t14_9 (Value.int IntKind.u64 2)) w fun t23_58 w =>
      run1 Tryz.prog Z (eqOp BinOp.neq 106 false true t23_58 (Value.int IntKind.u64 0)) w fun t24_59 w =>
      CondV t24_59 (
        run1 Tryz.prog Z (Instr.fieldAt 47 t5_2 2) w fun t26_60 w =>
        run1 Tryz.prog Z (Instr.loadAt 42 t26_60) w fun t27_61 w =>
        CallV Tryz.prog Z 70 #[x1, t27_61] w fun t28_62 w =>
        j_11 w) (
        j_11 w)) →
      j_10 w) →
  run1 Tryz.prog Z (binOp BinOp.and 106 t14_9 (Value.int IntKind.u64 1)) w fun t16_63 w =>
  run1 Tryz.prog Z (eqOp BinOp.neq 106 false true t16_63 (Value.int IntKind.u64 0)) w fun t17_64 w =>
  CondV t17_64 (
    run1 Tryz.prog Z (Instr.fieldAt 47 t5_2 1) w fun t19_65 w =>
    run1 Tryz.prog Z (Instr.loadAt 9 t19_65) w fun t20_66 w =>
    CallV Tryz.prog Z 69 #[x1, t20_66] w fun t21_67 w =>
    j_10 w) (
    j_10 w)
noncomputable def f46.code : Code := match Tryz.f46.body with | some c => c | none => .skip
def f46.an : An := (.sq .leaf (.sq .leaf (.sq .leaf (.sj [] [15, 16, 17, 18, 19, 20, 21] (.sq .leaf (.cn .leaf .leaf)) (.sj [] [22, 23, 24, 25, 26, 27, 28] (.sq .leaf (.cn .leaf .leaf)) (.sj [] [29, 30, 31, 32, 33, 34, 35] (.sq .leaf (.cn .leaf .leaf)) (.sj [] [36, 37, 38, 39, 40, 41, 42] (.sq .leaf (.cn .leaf .leaf)) (.sj [] [43, 44, 45, 46, 47, 48, 49, 50, 51, 52, 53] (.sq .leaf (.cn (.sq .leaf .leaf) .leaf)) (.sj [] [54, 55, 56, 57, 58, 59, 60] (.sq .leaf (.cn .leaf .leaf)) (.sj [] [61, 62, 63, 64, 65, 66, 67] (.sq .leaf (.cn .leaf .leaf)) (.sj [] [68, 69, 70, 71, 72, 73, 74] (.sq .leaf (.cn .leaf .leaf)) (.sq .leaf (.cn .leaf .leaf)))))))))))))
theorem f46.body_eq : Tryz.f46.body = some f46.code := by kernel_rfl
theorem f46.shape (Z : List PanicEntry → World → Prop) (x0 x1 x2 : Value) (w : World) (Q : Value → World → Prop) : vc drawD Tryz.prog 84 Z [44, 68, 77, 75, 73, 45, 74, 71, 70, 69] f46.an f46.code (fnQ Tryz.prog 84 Tryz.f46.results Q) (argEnv [x0, x1, x2]) w = f46.sh Z x0 x1 x2 w Q := by kernel_rfl
theorem f46.enters : ∀ f, f ∈ ([44, 68, 77, 75, 73, 45, 74, 71, 70, 69] : List Nat) → Enters Tryz.prog f := by
  intro f hf
  simp only [List.mem_cons, List.not_mem_nil, or_false] at hf
  rcases hf with rfl | rfl | rfl | rfl | rfl | rfl | rfl | rfl | rfl | rfl
  · exact en44
  · exact en68
  · exact en77
  · exact en75
  · exact en73
  · exact en45
  · exact en74
  · exact en71
  · exact en70
  · exact en69
theorem f46.calls {Z : List PanicEntry → World → Prop} {x0 x1 x2 : Value} {w : World} {Q : Value → World → Prop} (h : f46.sh Z x0 x1 x2 w Q) : CallV Tryz.prog Z 46 #[x0, x1, x2] w Q :=
  calls_of_vcn drawD_sound (Q := Q) (n := 84) (rs := Tryz.f46.results) (an := f46.an) (c := f46.code) (cal := [44, 68, 77, 75, 73, 45, 74, 71, 70, 69]) (args := [x0, x1, x2]) Tryz.func46 (by kernel_rfl) rfl f46.body_eq follows (Nat.le_of_ble_eq_true (by kernel_rfl)) (enters_of_all f46.enters) ((f46.shape Z x0 x1 x2 w Q).mpr h)

/-! ### 47: (*lagoon/pack.Writer).Bytes -/
def f47.sh (Z : List PanicEntry → World → Prop) (x0 : Value) (w : World) (Q : Value → World → Prop) : Prop :=
  run1 Tryz.prog Z (eqOp BinOp.eql 74 false true x0 (Value.pointer none)) w fun t4_1 w =>
  CondV t4_1 (
    Q (Value.slice none 0 0) w) (
    runX Tryz.prog Z (nilChk x0) w fun t6_2 w =>
    run1 Tryz.prog Z (Instr.fieldAt 76 t6_2 0) w fun t7_3 w =>
    run1 Tryz.prog Z (Instr.loadAt 42 t7_3) w fun t8_4 w =>
    run1 Tryz.prog Z (Builtin.append_ #[42, 42] 42 #[(Value.slice none 0 0), t8_4]) w fun t9_5 w =>
    Q t9_5 w)
noncomputable def f47.code : Code := match Tryz.f47.body with | some c => c | none => .skip
def f47.an : An := (.sq .leaf (.sq (.sq .leaf (.cn (.sq .leaf .leaf) .leaf)) (.sq .leaf .leaf)))
theorem f47.body_eq : Tryz.f47.body = some f47.code := by kernel_rfl
theorem f47.shape (Z : List PanicEntry → World → Prop) (x0 : Value) (w : World) (Q : Value → World → Prop) : vc drawD Tryz.prog 10 Z [] f47.an f47.code (fnQ Tryz.prog 10 Tryz.f47.results Q) (argEnv [x0]) w = f47.sh Z x0 w Q := by kernel_rfl
theorem f47.enters : ∀ f, f ∈ ([] : List Nat) → Enters Tryz.prog f := by
  intro f hf
  cases hf
theorem f47.calls {Z : List PanicEntry → World → Prop} {x0 : Value} {w : World} {Q : Value → World → Prop} (h : f47.sh Z x0 w Q) : CallV Tryz.prog Z 47 #[x0] w Q :=
  calls_of_vcn drawD_sound (Q := Q) (n := 10) (rs := Tryz.f47.results) (an := f47.an) (c := f47.code) (cal := []) (args := [x0]) Tryz.func47 (by kernel_rfl) rfl f47.body_eq follows (Nat.le_of_ble_eq_true (by kernel_rfl)) (enters_of_all f47.enters) ((f47.shape Z x0 w Q).mpr h)

/-! ### 48: lagoon/lagoonref00.WideBytes -/
def f48.sh (Z : List PanicEntry → World → Prop) (x0 : Value) (w : World) (Q : Value → World → Prop) : Prop :=
  run1 Tryz.prog Z (Builtin.len_ #[42] 3 #[x0]) w fun t6_1 w =>
  run1 Tryz.prog Z (binOp BinOp.add 3 t6_1 (Value.int IntKind.i64 64)) w fun t7_2 w =>
  run1 Tryz.prog Z (Instr.makeSlice 42 t7_2 t7_2) w fun t8_3 w =>
  ∃ J_4 : Nat → Value → World → Prop, (∃ m, J_4 m (Value.int IntKind.i64 0) w) ∧
    ∀ m_4, ∀ t4_5 : Value, ∀ w : World, J_4 m_4 t4_5 w → Env →
      run1 Tryz.prog Z (Builtin.len_ #[42] 3 #[t8_3]) w fun t11_6 w =>
      run1 Tryz.prog Z (binOp BinOp.lss 3 t4_5 t11_6) w fun t12_7 w =>
      CondV t12_7 (
        ∀ j_8 : World → Prop, (∀ w : World, (Env →
            run1 Tryz.prog Z (binOp BinOp.add 3 t4_5 (Value.int IntKind.i64 1)) w fun t14_9 w =>
            ∃ n_4, n_4 < m_4 ∧ J_4 n_4 t14_9 w) →
            j_8 w) →
        run1 Tryz.prog Z (binOp BinOp.rem 3 t4_5 (Value.int IntKind.i64 5)) w fun t18_10 w =>
        run1 Tryz.prog Z (binOp BinOp.add 3 (Value.int IntKind.i64 170) t18_10) w fun t19_11 w =>
        run1 Tryz.prog Z (convert 3 5 t19_11) w fun t20_12 w =>
        run1 Tryz.prog Z (Instr.indexAt 42 t8_3 t4_5) w fun t21_13 w =>
        run0 Tryz.prog Z (Instr.storeAt 5 t21_13 t20_12) w fun w =>
        run1 Tryz.prog Z (Builtin.len_ #[42] 3 #[x0]) w fun t24_14 w =>
        run1 Tryz.prog Z (binOp BinOp.lss 3 t4_5 t24_14) w fun t25_15 w =>
        CondV t25_15 (
          run1 Tryz.prog Z (Instr.indexAt 42 x0 t4_5) w fun t30_16 w =>
          run1 Tryz.prog Z (Instr.loadAt 5 t30_16) w fun t31_17 w =>
          run1 Tryz.prog Z (Instr.indexAt 42 t8_3 t4_5) w fun t32_18 w =>
          run0 Tryz.prog Z (Instr.storeAt 5 t32_18 t31_17) w fun w =>
          j_8 w) (
          j_8 w)) (
        run1 Tryz.prog Z (Builtin.len_ #[42] 3 #[x0]) w fun t35_19 w =>
        run1 Tryz.prog Z (Instr.sliceAt 42 t8_3 none (some t35_19) none) w fun t36_20 w =>
        Q t36_20 w)
noncomputable def f48.code : Code := match Tryz.f48.body with | some c => c | none => .skip
def f48.an : An := (.sq .leaf (.sq .leaf (.sq (.sq .leaf (.bl (.lp [4] [4, 9, 10, 11, 12, 13, 14, 15, 16, 17, 18, 19, 20, 21, 22, 23, 24, 25, 26, 27, 28, 29, 30, 31, 32] (.sq (.sq .leaf (.cn .leaf .leaf)) (.sj [] [15, 16, 17, 18, 19, 20, 21, 22, 23, 24, 25, 26, 27, 28, 29, 30, 31, 32] (.bl (.sq .leaf (.sq .leaf (.cn .leaf .leaf)))) .leaf))))) (.sq .leaf .leaf))))
theorem f48.body_eq : Tryz.f48.body = some f48.code := by kernel_rfl
theorem f48.shape (Z : List PanicEntry → World → Prop) (x0 : Value) (w : World) (Q : Value → World → Prop) : vc drawD Tryz.prog 37 Z [] f48.an f48.code (fnQ Tryz.prog 37 Tryz.f48.results Q) (argEnv [x0]) w = f48.sh Z x0 w Q := by kernel_rfl
theorem f48.enters : ∀ f, f ∈ ([] : List Nat) → Enters Tryz.prog f := by
  intro f hf
  cases hf
theorem f48.calls {Z : List PanicEntry → World → Prop} {x0 : Value} {w : World} {Q : Value → World → Prop} (h : f48.sh Z x0 w Q) : CallV Tryz.prog Z 48 #[x0] w Q :=
  calls_of_vcn drawD_sound (Q := Q) (n := 37) (rs := Tryz.f48.results) (an := f48.an) (c := f48.code) (cal := []) (args := [x0]) Tryz.func48 (by kernel_rfl) rfl f48.body_eq follows (Nat.le_of_ble_eq_true (by kernel_rfl)) (enters_of_all f48.enters) ((f48.shape Z x0 w Q).mpr h)

/-! ### 49: lagoon/lagoonref00.WideAcl -/
def f49.sh (Z : List PanicEntry → World → Prop) (x0 : Value) (w : World) (Q : Value → World → Prop) : Prop :=
  run1 Tryz.prog Z (Builtin.len_ #[43] 3 #[x0]) w fun t6_1 w =>
  run1 Tryz.prog Z (binOp BinOp.add 3 t6_1 (Value.int IntKind.i64 64)) w fun t7_2 w =>
  run1 Tryz.prog Z (Instr.makeSlice 43 t7_2 t7_2) w fun t8_3 w =>
  ∃ J_4 : Nat → Value → World → Prop, (∃ m, J_4 m (Value.int IntKind.i64 0) w) ∧
    ∀ m_4, ∀ t4_5 : Value, ∀ w : World, J_4 m_4 t4_5 w → Env →
      run1 Tryz.prog Z (Builtin.len_ #[43] 3 #[t8_3]) w fun t11_6 w =>
      run1 Tryz.prog Z (binOp BinOp.lss 3 t4_5 t11_6) w fun t12_7 w =>
      CondV t12_7 (
        ∀ j_8 : World → Prop, (∀ w : World, (Env →
            run1 Tryz.prog Z (binOp BinOp.add 3 t4_5 (Value.int IntKind.i64 1)) w fun t14_9 w =>
            ∃ n_4, n_4 < m_4 ∧ J_4 n_4 t14_9 w) →
            j_8 w) →
        run1 Tryz.prog Z (Builtin.len_ #[43] 3 #[x0]) w fun t17_10 w =>
        run1 Tryz.prog Z (binOp BinOp.lss 3 t4_5 t17_10) w fun t18_11 w =>
        CondV t18_11 (
          run1 Tryz.prog Z (Instr.indexAt 43 x0 t4_5) w fun t23_12 w =>
          run1 Tryz.prog Z (Instr.loadAt 99 t23_12) w fun t24_13 w =>
          run1 Tryz.prog Z (Instr.indexAt 43 t8_3 t4_5) w fun t25_14 w =>
          run0 Tryz.prog Z (Instr.storeAt 99 t25_14 t24_13) w fun w =>
          j_8 w) (
          run1 Tryz.prog Z (binOp BinOp.sub 3 (Value.int IntKind.i64 (-3000000)) t4_5) w fun t29_15 w =>
          CallV Tryz.prog Z 61 #[t29_15] w fun t30_16 w =>
          run1 Tryz.prog Z (Instr.build 97 #[(1, t30_16)]) w fun t31_17 w =>
          run1 Tryz.prog Z (Instr.build 99 #[(1, t31_17)]) w fun t32_18 w =>
          run1 Tryz.prog Z (Instr.indexAt 43 t8_3 t4_5) w fun t33_19 w =>
          run0 Tryz.prog Z (Instr.storeAt 99 t33_19 t32_18) w fun w =>
          j_8 w)) (
        run1 Tryz.prog Z (Builtin.len_ #[43] 3 #[x0]) w fun t36_20 w =>
        run1 Tryz.prog Z (Instr.sliceAt 43 t8_3 none (some t36_20) none) w fun t37_21 w =>
        Q t37_21 w)
noncomputable def f49.code : Code := match Tryz.f49.body with | some c => c | none => .skip
def f49.an : An := (.sq .leaf (.sq .leaf (.sq (.sq .leaf (.bl (.lp [4] [4, 9, 10, 11, 12, 13, 14, 15, 16, 17, 18, 19, 20, 21, 22, 23, 24, 25, 26, 27, 28, 29, 30, 31, 32, 33] (.sq (.sq .leaf (.cn .leaf .leaf)) (.sj [] [15, 16, 17, 18, 19, 20, 21, 22, 23, 24, 25, 26, 27, 28, 29, 30, 31, 32, 33] (.bl (.sq .leaf (.cn .leaf .leaf))) .leaf))))) (.sq .leaf .leaf))))
theorem f49.body_eq : Tryz.f49.body = some f49.code := by kernel_rfl
theorem f49.shape (Z : List PanicEntry → World → Prop) (x0 : Value) (w : World) (Q : Value → World → Prop) : vc drawD Tryz.prog 38 Z [61] f49.an f49.code (fnQ Tryz.prog 38 Tryz.f49.results Q) (argEnv [x0]) w = f49.sh Z x0 w Q := by kernel_rfl
theorem f49.enters : ∀ f, f ∈ ([61] : List Nat) → Enters Tryz.prog f := by
  intro f hf
  simp only [List.mem_cons, List.not_mem_nil, or_false] at hf
  rcases hf with rfl
  · exact en61
theorem f49.calls {Z : List PanicEntry → World → Prop} {x0 : Value} {w : World} {Q : Value → World → Prop} (h : f49.sh Z x0 w Q) : CallV Tryz.prog Z 49 #[x0] w Q :=
  calls_of_vcn drawD_sound (Q := Q) (n := 38) (rs := Tryz.f49.results) (an := f49.an) (c := f49.code) (cal := [61]) (args := [x0]) Tryz.func49 (by kernel_rfl) rfl f49.body_eq follows (Nat.le_of_ble_eq_true (by kernel_rfl)) (enters_of_all f49.enters) ((f49.shape Z x0 w Q).mpr h)

/-! ### 50: lagoon/lagoonref00.WideIds -/
def f50.sh (Z : List PanicEntry → World → Prop) (x0 : Value) (w : World) (Q : Value → World → Prop) : Prop :=
  run1 Tryz.prog Z (Builtin.len_ #[44] 3 #[x0]) w fun t6_1 w =>
  run1 Tryz.prog Z (binOp BinOp.add 3 t6_1 (Value.int IntKind.i64 64)) w fun t7_2 w =>
  run1 Tryz.prog Z (Instr.makeSlice 44 t7_2 t7_2) w fun t8_3 w =>
  ∃ J_4 : Nat → Value → World → Prop, (∃ m, J_4 m (Value.int IntKind.i64 0) w) ∧
    ∀ m_4, ∀ t4_5 : Value, ∀ w : World, J_4 m_4 t4_5 w → Env →
      run1 Tryz.prog Z (Builtin.len_ #[44] 3 #[t8_3]) w fun t11_6 w =>
      run1 Tryz.prog Z (binOp BinOp.lss 3 t4_5 t11_6) w fun t12_7 w =>
      CondV t12_7 (
        ∀ j_8 : World → Prop, (∀ w : World, (Env →
            run1 Tryz.prog Z (binOp BinOp.add 3 t4_5 (Value.int IntKind.i64 1)) w fun t14_9 w =>
            ∃ n_4, n_4 < m_4 ∧ J_4 n_4 t14_9 w) →
            j_8 w) →
        run1 Tryz.prog Z (Builtin.len_ #[44] 3 #[x0]) w fun t17_10 w =>
        run1 Tryz.prog Z (binOp BinOp.lss 3 t4_5 t17_10) w fun t18_11 w =>
        CondV t18_11 (
          run1 Tryz.prog Z (Instr.indexAt 44 x0 t4_5) w fun t23_12 w =>
          run1 Tryz.prog Z (Instr.loadAt 97 t23_12) w fun t24_13 w =>
          run1 Tryz.prog Z (Instr.indexAt 44 t8_3 t4_5) w fun t25_14 w =>
          run0 Tryz.prog Z (Instr.storeAt 97 t25_14 t24_13) w fun w =>
          j_8 w) (
          run1 Tryz.prog Z (binOp BinOp.sub 3 (Value.int IntKind.i64 (-3000000)) t4_5) w fun t29_15 w =>
          CallV Tryz.prog Z 61 #[t29_15] w fun t30_16 w =>
          run1 Tryz.prog Z (Instr.build 97 #[(1, t30_16)]) w fun t31_17 w =>
          run1 Tryz.prog Z (Instr.indexAt 44 t8_3 t4_5) w fun t32_18 w =>
          run0 Tryz.prog Z (Instr.storeAt 97 t32_18 t31_17) w fun w =>
          j_8 w)) (
        run1 Tryz.prog Z (Builtin.len_ #[44] 3 #[x0]) w fun t35_19 w =>
        run1 Tryz.prog Z (Instr.sliceAt 44 t8_3 none (some t35_19) none) w fun t36_20 w =>
        Q t36_20 w)
noncomputable def f50.code : Code := match Tryz.f50.body with | some c => c | none => .skip
def f50.an : An := (.sq .leaf (.sq .leaf (.sq (.sq .leaf (.bl (.lp [4] [4, 9, 10, 11, 12, 13, 14, 15, 16, 17, 18, 19, 20, 21, 22, 23, 24, 25, 26, 27, 28, 29, 30, 31, 32] (.sq (.sq .leaf (.cn .leaf .leaf)) (.sj [] [15, 16, 17, 18, 19, 20, 21, 22, 23, 24, 25, 26, 27, 28, 29, 30, 31, 32] (.bl (.sq .leaf (.cn .leaf .leaf))) .leaf))))) (.sq .leaf .leaf))))
theorem f50.body_eq : Tryz.f50.body = some f50.code := by kernel_rfl
theorem f50.shape (Z : List PanicEntry → World → Prop) (x0 : Value) (w : World) (Q : Value → World → Prop) : vc drawD Tryz.prog 37 Z [61] f50.an f50.code (fnQ Tryz.prog 37 Tryz.f50.results Q) (argEnv [x0]) w = f50.sh Z x0 w Q := by kernel_rfl
theorem f50.enters : ∀ f, f ∈ ([61] : List Nat) → Enters Tryz.prog f := by
  intro f hf
  simp only [List.mem_cons, List.not_mem_nil, or_false] at hf
  rcases hf with rfl
  · exact en61
theorem f50.calls {Z : List PanicEntry → World → Prop} {x0 : Value} {w : World} {Q : Value → World → Prop} (h : f50.sh Z x0 w Q) : CallV Tryz.prog Z 50 #[x0] w Q :=
  calls_of_vcn drawD_sound (Q := Q) (n := 37) (rs := Tryz.f50.results) (an := f50.an) (c := f50.code) (cal := [61]) (args := [x0]) Tryz.func50 (by kernel_rfl) rfl f50.body_eq follows (Nat.le_of_ble_eq_true (by kernel_rfl)) (enters_of_all f50.enters) ((f50.shape Z x0 w Q).mpr h)

/-! ### 51: lagoon/lagoonref00.WideRequests -/
def f51.sh (Z : List PanicEntry → World → Prop) (x0 : Value) (w : World) (Q : Value → World → Prop) : Prop :=
  run1 Tryz.prog Z (Builtin.len_ #[45] 3 #[x0]) w fun t6_1 w =>
  run1 Tryz.prog Z (binOp BinOp.add 3 t6_1 (Value.int IntKind.i64 64)) w fun t7_2 w =>
  run1 Tryz.prog Z (Instr.makeSlice 45 t7_2 t7_2) w fun t8_3 w =>
  ∃ J_4 : Nat → Value → World → Prop, (∃ m, J_4 m (Value.int IntKind.i64 0) w) ∧
    ∀ m_4, ∀ t4_5 : Value, ∀ w : World, J_4 m_4 t4_5 w → Env →
      run1 Tryz.prog Z (Builtin.len_ #[45] 3 #[t8_3]) w fun t11_6 w =>
      run1 Tryz.prog Z (binOp BinOp.lss 3 t4_5 t11_6) w fun t12_7 w =>
      CondV t12_7 (
        ∀ j_8 : World → Prop, (∀ w : World, (Env →
            run1 Tryz.prog Z (binOp BinOp.add 3 t4_5 (Value.int IntKind.i64 1)) w fun t14_9 w =>
            ∃ n_4, n_4 < m_4 ∧ J_4 n_4 t14_9 w) →
            j_8 w) →
        run1 Tryz.prog Z (Builtin.len_ #[45] 3 #[x0]) w fun t17_10 w =>
        run1 Tryz.prog Z (binOp BinOp.lss 3 t4_5 t17_10) w fun t18_11 w =>
        CondV t18_11 (
          run1 Tryz.prog Z (Instr.indexAt 45 x0 t4_5) w fun t23_12 w =>
          run1 Tryz.prog Z (Instr.loadAt 47 t23_12) w fun t24_13 w =>
          CallV Tryz.prog Z 32 #[t24_13] w fun t25_14 w =>
          run1 Tryz.prog Z (Instr.indexAt 45 t8_3 t4_5) w fun t26_15 w =>
          run0 Tryz.prog Z (Instr.storeAt 47 t26_15 t25_14) w fun w =>
          j_8 w) (
          run1 Tryz.prog Z (binOp BinOp.sub 3 (Value.int IntKind.i64 (-3000000)) t4_5) w fun t30_16 w =>
          run1 Tryz.prog Z (Instr.build 47 #[(7, t30_16)]) w fun t31_17 w =>
          run1 Tryz.prog Z (Instr.indexAt 45 t8_3 t4_5) w fun t32_18 w =>
          run0 Tryz.prog Z (Instr.storeAt 47 t32_18 t31_17) w fun w =>
          j_8 w)) (
        run1 Tryz.prog Z (Builtin.len_ #[45] 3 #[x0]) w fun t35_19 w =>
        run1 Tryz.prog Z (Instr.sliceAt 45 t8_3 none (some t35_19) none) w fun t36_20 w =>
        Q t36_20 w)
noncomputable def f51.code : Code := match Tryz.f51.body with | some c => c | none => .skip
def f51.an : An := (.sq .leaf (.sq .leaf (.sq (.sq .leaf (.bl (.lp [4] [4, 9, 10, 11, 12, 13, 14, 15, 16, 17, 18, 19, 20, 21, 22, 23, 24, 25, 26, 27, 28, 29, 30, 31, 32] (.sq (.sq .leaf (.cn .leaf .leaf)) (.sj [] [15, 16, 17, 18, 19, 20, 21, 22, 23, 24, 25, 26, 27, 28, 29, 30, 31, 32] (.bl (.sq .leaf (.cn .leaf .leaf))) .leaf))))) (.sq .leaf .leaf))))
theorem f51.body_eq : Tryz.f51.body = some f51.code := by kernel_rfl
theorem f51.shape (Z : List PanicEntry → World → Prop) (x0 : Value) (w : World) (Q : Value → World → Prop) : vc drawD Tryz.prog 37 Z [32] f51.an f51.code (fnQ Tryz.prog 37 Tryz.f51.results Q) (argEnv [x0]) w = f51.sh Z x0 w Q := by kernel_rfl
theorem f51.enters : ∀ f, f ∈ ([32] : List Nat) → Enters Tryz.prog f := by
  intro f hf
  simp only [List.mem_cons, List.not_mem_nil, or_false] at hf
  rcases hf with rfl
  · exact en32
theorem f51.calls {Z : List PanicEntry → World → Prop} {x0 : Value} {w : World} {Q : Value → World → Prop} (h : f51.sh Z x0 w Q) : CallV Tryz.prog Z 51 #[x0] w Q :=
  calls_of_vcn drawD_sound (Q := Q) (n := 37) (rs := Tryz.f51.results) (an := f51.an) (c := f51.code) (cal := [32]) (args := [x0]) Tryz.func51 (by kernel_rfl) rfl f51.body_eq follows (Nat.le_of_ble_eq_true (by kernel_rfl)) (enters_of_all f51.enters) ((f51.shape Z x0 w Q).mpr h)

/-! ### 52: lagoon/lagoonref04.Check -/
def f52.sh (Z : List PanicEntry → World → Prop) (x0 : Value) (w : World) (Q : Value → World → Prop) : Prop :=
  run1 Tryz.prog Z (Instr.box 49 x0) w fun t1_1 w =>
  run1 Tryz.prog Z (Instr.fieldAt 49 t1_1 0) w fun t5_2 w =>
  run1 Tryz.prog Z (Instr.fieldAt 24 t5_2 0) w fun t6_3 w =>
  run1 Tryz.prog Z (Instr.loadAt 22 t6_3) w fun t7_4 w =>
  run1 Tryz.prog Z (eqOp BinOp.eql 22 false true t7_4 (Value.int IntKind.u32 0)) w fun t8_5 w =>
  guardW (t8_5) true (fun k => run1 Tryz.prog Z (Instr.fieldAt 49 t1_1 0) w k) (fun t10_6 w =>
  guardW (t8_5) true (fun k => run1 Tryz.prog Z (Instr.fieldAt 24 t10_6 1) w k) (fun t11_7 w =>
  guardW (t8_5) true (fun k => run1 Tryz.prog Z (Instr.loadAt 22 t11_7) w k) (fun t12_8 w =>
  guardW (t8_5) true (fun k => run1 Tryz.prog Z (eqOp BinOp.eql 22 false true t12_8 (Value.int IntKind.u32 0)) w k) (fun t13_9 w =>
  run1 Tryz.prog Z (pickV t8_5 t13_9 (Value.bool false)) w fun t14_10 w =>
  run1 Tryz.prog Z (Instr.fieldAt 49 t1_1 0) w fun t15_11 w =>
  run1 Tryz.prog Z (Instr.fieldAt 24 t15_11 0) w fun t16_12 w =>
  run1 Tryz.prog Z (Instr.loadAt 22 t16_12) w fun t17_13 w =>
  run1 Tryz.prog Z (eqOp BinOp.neq 22 false true t17_13 (Value.int IntKind.u32 0)) w fun t18_14 w =>
  guardW (t18_14) true (fun k => run1 Tryz.prog Z (Instr.fieldAt 49 t1_1 0) w k) (fun t20_15 w =>
  guardW (t18_14) true (fun k => run1 Tryz.prog Z (Instr.fieldAt 24 t20_15 0) w k) (fun t21_16 w =>
  guardW (t18_14) true (fun k => run1 Tryz.prog Z (Instr.loadAt 22 t21_16) w k) (fun t22_17 w =>
  guardW (t18_14) true (fun k => run1 Tryz.prog Z (convert 22 2 t22_17) w k) (fun t23_18 w =>
  guardW (t18_14) true (fun k => run1 Tryz.prog Z (binOp BinOp.leq 2 t23_18 (Value.int IntKind.i64 2147483647)) w k) (fun t24_19 w =>
  run1 Tryz.prog Z (pickV t18_14 t24_19 (Value.bool false)) w fun t25_20 w =>
  guardW (t25_20) true (fun k => run1 Tryz.prog Z (Instr.fieldAt 49 t1_1 0) w k) (fun t27_21 w =>
  guardW (t25_20) true (fun k => run1 Tryz.prog Z (Instr.fieldAt 24 t27_21 1) w k) (fun t28_22 w =>
  guardW (t25_20) true (fun k => run1 Tryz.prog Z (Instr.loadAt 22 t28_22) w k) (fun t29_23 w =>
  guardW (t25_20) true (fun k => run1 Tryz.prog Z (eqOp BinOp.neq 22 false true t29_23 (Value.int IntKind.u32 0)) w k) (fun t30_24 w =>
  run1 Tryz.prog Z (pickV t25_20 t30_24 (Value.bool false)) w fun t31_25 w =>
  run1 Tryz.prog Z (Op.unary UnOp.not t14_10) w fun t33_26 w =>
  guardW (t33_26) true (fun k => k (t31_25) w) (fun t35_27 w =>
  guardW (t33_26) true (fun k => run1 Tryz.prog Z (Op.unary UnOp.not t35_27) w k) (fun t36_28 w =>
  run1 Tryz.prog Z (pickV t33_26 t36_28 (Value.bool false)) w fun t37_29 w =>
  CondV t37_29 (
    Q (Value.int IntKind.i64 40) w) (
    run1 Tryz.prog Z (Instr.fieldAt 49 t1_1 1) w fun t38_30 w =>
    run1 Tryz.prog Z (Instr.fieldAt 41 t38_30 0) w fun t39_31 w =>
    run1 Tryz.prog Z (Instr.loadAt 32 t39_31) w fun t40_32 w =>
    run1 Tryz.prog Z (binOp BinOp.lss 32 t40_32 (Value.int IntKind.i8 0)) w fun t41_33 w =>
    guardW (t41_33) false (fun k => run1 Tryz.prog Z (Instr.fieldAt 49 t1_1 1) w k) (fun t43_34 w =>
    guardW (t41_33) false (fun k => run1 Tryz.prog Z (Instr.fieldAt 41 t43_34 0) w k) (fun t44_35 w =>
    guardW (t41_33) false (fun k => run1 Tryz.prog Z (Instr.loadAt 32 t44_35) w k) (fun t45_36 w =>
    guardW (t41_33) false (fun k => run1 Tryz.prog Z (binOp BinOp.gtr 32 t45_36 (Value.int IntKind.i8 6)) w k) (fun t46_37 w =>
    run1 Tryz.prog Z (pickV t41_33 (Value.bool true) t46_37) w fun t47_38 w =>
    guardW (t47_38) false (fun k => run1 Tryz.prog Z (Instr.fieldAt 49 t1_1 1) w k) (fun t49_39 w =>
    guardW (t47_38) false (fun k => run1 Tryz.prog Z (Instr.fieldAt 41 t49_39 2) w k) (fun t50_40 w =>
    guardW (t47_38) false (fun k => run1 Tryz.prog Z (Instr.loadAt 2 t50_40) w k) (fun t51_41 w =>
    guardW (t47_38) false (fun k => run1 Tryz.prog Z (binOp BinOp.lss 2 t51_41 (Value.int IntKind.i64 0)) w k) (fun t52_42 w =>
    run1 Tryz.prog Z (pickV t47_38 (Value.bool true) t52_42) w fun t53_43 w =>
    guardW (t53_43) false (fun k => run1 Tryz.prog Z (Instr.fieldAt 49 t1_1 2) w k) (fun t55_44 w =>
    guardW (t53_43) false (fun k => run1 Tryz.prog Z (Instr.fieldAt 47 t55_44 0) w k) (fun t56_45 w =>
    guardW (t53_43) false (fun k => run1 Tryz.prog Z (Instr.loadAt 32 t56_45) w k) (fun t57_46 w =>
    guardW (t53_43) false (fun k => run1 Tryz.prog Z (binOp BinOp.gtr 32 t57_46 (Value.int IntKind.i8 8)) w k) (fun t58_47 w =>
    run1 Tryz.prog Z (pickV t53_43 (Value.bool true) t58_47) w fun t59_48 w =>
    CondV t59_48 (
      Q (Value.int IntKind.i64 40) w) (
      run1 Tryz.prog Z (Instr.fieldAt 49 t1_1 2) w fun t60_49 w =>
      run1 Tryz.prog Z (Instr.loadAt 47 t60_49) w fun t61_50 w =>
      CallV Tryz.prog Z 78 #[t61_50] w fun t62_51 w =>
      Q t62_51 w)) w) w) w) w) w) w) w) w) w) w) w) w)) w) w) w) w) w) w) w) w) w) w) w) w) w) w) w
noncomputable def f52.code : Code := match Tryz.f52.body with | some c => c | none => .skip
def f52.an : An := (.sq .leaf (.sq .leaf (.sq .leaf (.sq (.sq .leaf (.cn (.sq .leaf .leaf) .leaf)) (.sq (.sq .leaf (.cn (.sq .leaf .leaf) .leaf)) (.sq .leaf .leaf))))))
theorem f52.body_eq : Tryz.f52.body = some f52.code := by kernel_rfl
theorem f52.shape (Z : List PanicEntry → World → Prop) (x0 : Value) (w : World) (Q : Value → World → Prop) : vc drawD Tryz.prog 63 Z [78] f52.an f52.code (fnQ Tryz.prog 63 Tryz.f52.results Q) (argEnv [x0]) w = f52.sh Z x0 w Q := by kernel_rfl
theorem f52.enters : ∀ f, f ∈ ([78] : List Nat) → Enters Tryz.prog f := by
  intro f hf
  simp only [List.mem_cons, List.not_mem_nil, or_false] at hf
  rcases hf with rfl
  · exact en78
theorem f52.calls {Z : List PanicEntry → World → Prop} {x0 : Value} {w : World} {Q : Value → World → Prop} (h : f52.sh Z x0 w Q) : CallV Tryz.prog Z 52 #[x0] w Q :=
  calls_of_vcn drawD_sound (Q := Q) (n := 63) (rs := Tryz.f52.results) (an := f52.an) (c := f52.code) (cal := [78]) (args := [x0]) Tryz.func52 (by kernel_rfl) rfl f52.body_eq follows (Nat.le_of_ble_eq_true (by kernel_rfl)) (enters_of_all f52.enters) ((f52.shape Z x0 w Q).mpr h)

/-! ### 53: lagoon/lagoonref01.Uint32 -/
def f53.sh (Z : List PanicEntry → World → Prop) (x0 : Value) (w : World) (Q : Value → World → Prop) : Prop :=
  run1 Tryz.prog Z (convert 22 105 x0) w fun t4_1 w =>
  CallV Tryz.prog Z 79 #[t4_1, (Value.int IntKind.i64 4)] w fun t5_2 w =>
  Q t5_2 w
noncomputable def f53.code : Code := match Tryz.f53.body with | some c => c | none => .skip
def f53.an : An := (.sq .leaf (.sq .leaf .leaf))
theorem f53.body_eq : Tryz.f53.body = some f53.code := by kernel_rfl
theorem f53.shape (Z : List PanicEntry → World → Prop) (x0 : Value) (w : World) (Q : Value → World → Prop) : vc drawD Tryz.prog 6 Z [79] f53.an f53.code (fnQ Tryz.prog 6 Tryz.f53.results Q) (argEnv [x0]) w = f53.sh Z x0 w Q := by kernel_rfl
theorem f53.enters : ∀ f, f ∈ ([79] : List Nat) → Enters Tryz.prog f := by
  intro f hf
  simp only [List.mem_cons, List.not_mem_nil, or_false] at hf
  rcases hf with rfl
  · exact en79
theorem f53.calls {Z : List PanicEntry → World → Prop} {x0 : Value} {w : World} {Q : Value → World → Prop} (h : f53.sh Z x0 w Q) : CallV Tryz.prog Z 53 #[x0] w Q :=
  calls_of_vcn drawD_sound (Q := Q) (n := 6) (rs := Tryz.f53.results) (an := f53.an) (c := f53.code) (cal := [79]) (args := [x0]) Tryz.func53 (by kernel_rfl) rfl f53.body_eq follows (Nat.le_of_ble_eq_true (by kernel_rfl)) (enters_of_all f53.enters) ((f53.shape Z x0 w Q).mpr h)

/-! ### 54: lagoon/lagoonref04.behind -/
def f54.sh (Z : List PanicEntry → World → Prop) (x0 x1 : Value) (w : World) (Q : Value → World → Prop) : Prop :=
  ∃ J_1 : Nat → Value → Value → World → Prop, (∃ m, J_1 m x0 (Value.int IntKind.i64 0) w) ∧
    ∀ m_1, ∀ t0_2 : Value, ∀ t5_3 : Value, ∀ w : World, J_1 m_1 t0_2 t5_3 w → Env →
      run1 Tryz.prog Z (Builtin.len_ #[42] 3 #[x1]) w fun t8_4 w =>
      run1 Tryz.prog Z (binOp BinOp.lss 3 t5_3 t8_4) w fun t9_5 w =>
      CondV t9_5 (
        run1 Tryz.prog Z (Instr.indexAt 42 x1 t5_3) w fun t15_6 w =>
        run1 Tryz.prog Z (Instr.loadAt 5 t15_6) w fun t16_7 w =>
        run1 Tryz.prog Z (Instr.buildSlice 42 1 #[(0, t16_7)]) w fun t17_8 w =>
        run1 Tryz.prog Z (Builtin.append_ #[42, 42] 42 #[t0_2, t17_8]) w fun t18_9 w =>
        run1 Tryz.prog Z (binOp BinOp.add 3 t5_3 (Value.int IntKind.i64 1)) w fun t11_10 w =>
        ∃ n_1, n_1 < m_1 ∧ J_1 n_1 t18_9 t11_10 w) (
        Q t0_2 w)
noncomputable def f54.code : Code := match Tryz.f54.body with | some c => c | none => .skip
def f54.an : An := (.sq .leaf (.sq (.sq .leaf (.bl (.lp [0, 5] [0, 5, 6, 7, 8, 9, 10, 11, 12, 13, 14, 15, 16, 17, 18] (.sq (.sq .leaf (.cn .leaf .leaf)) (.sq (.bl .leaf) .leaf))))) (.sq .leaf .leaf)))
theorem f54.body_eq : Tryz.f54.body = some f54.code := by kernel_rfl
theorem f54.shape (Z : List PanicEntry → World → Prop) (x0 x1 : Value) (w : World) (Q : Value → World → Prop) : vc drawD Tryz.prog 20 Z [] f54.an f54.code (fnQ Tryz.prog 20 Tryz.f54.results Q) (argEnv [x0, x1]) w = f54.sh Z x0 x1 w Q := by kernel_rfl
theorem f54.enters : ∀ f, f ∈ ([] : List Nat) → Enters Tryz.prog f := by
  intro f hf
  cases hf
theorem f54.calls {Z : List PanicEntry → World → Prop} {x0 x1 : Value} {w : World} {Q : Value → World → Prop} (h : f54.sh Z x0 x1 w Q) : CallV Tryz.prog Z 54 #[x0, x1] w Q :=
  calls_of_vcn drawD_sound (Q := Q) (n := 20) (rs := Tryz.f54.results) (an := f54.an) (c := f54.code) (cal := []) (args := [x0, x1]) Tryz.func54 (by kernel_rfl) rfl f54.body_eq follows (Nat.le_of_ble_eq_true (by kernel_rfl)) (enters_of_all f54.enters) ((f54.shape Z x0 x1 w Q).mpr h)

/-! ### 55: lagoon/lagoonref01.Int8 -/
def f55.sh (Z : List PanicEntry → World → Prop) (x0 : Value) (w : World) (Q : Value → World → Prop) : Prop :=
  run1 Tryz.prog Z (convert 32 3 x0) w fun t5_1 w =>
  ∀ j_2 : Value → World → Prop, (∀ t3_3 : Value, ∀ w : World, (Env →
      run1 Tryz.prog Z (convert 3 5 t3_3) w fun t11_4 w =>
      run1 Tryz.prog Z (Instr.buildSlice 42 1 #[(0, t11_4)]) w fun t12_5 w =>
      Q t12_5 w) →
      j_2 t3_3 w) →
  run1 Tryz.prog Z (binOp BinOp.lss 3 t5_1 (Value.int IntKind.i64 0)) w fun t7_6 w =>
  CondV t7_6 (
    run1 Tryz.prog Z (binOp BinOp.add 3 t5_1 (Value.int IntKind.i64 256)) w fun t9_7 w =>
    j_2 t9_7 w) (
    j_2 t5_1 w)
noncomputable def f55.code : Code := match Tryz.f55.body with | some c => c | none => .skip
def f55.an : An := (.sq .leaf (.sq .leaf (.sj [3] [3, 6, 7, 8, 9] (.sq .leaf (.cn .leaf .leaf)) (.sq .leaf .leaf))))
theorem f55.body_eq : Tryz.f55.body = some f55.code := by kernel_rfl
theorem f55.shape (Z : List PanicEntry → World → Prop) (x0 : Value) (w : World) (Q : Value → World → Prop) : vc drawD Tryz.prog 13 Z [] f55.an f55.code (fnQ Tryz.prog 13 Tryz.f55.results Q) (argEnv [x0]) w = f55.sh Z x0 w Q := by kernel_rfl
theorem f55.enters : ∀ f, f ∈ ([] : List Nat) → Enters Tryz.prog f := by
  intro f hf
  cases hf
theorem f55.calls {Z : List PanicEntry → World → Prop} {x0 : Value} {w : World} {Q : Value → World → Prop} (h : f55.sh Z x0 w Q) : CallV Tryz.prog Z 55 #[x0] w Q :=
  calls_of_vcn drawD_sound (Q := Q) (n := 13) (rs := Tryz.f55.results) (an := f55.an) (c := f55.code) (cal := []) (args := [x0]) Tryz.func55 (by kernel_rfl) rfl f55.body_eq follows (Nat.le_of_ble_eq_true (by kernel_rfl)) (enters_of_all f55.enters) ((f55.shape Z x0 w Q).mpr h)

/-! ### 56: lagoon/lagoonref01.Int64 -/
def f56.sh (Z : List PanicEntry → World → Prop) (x0 : Value) (w : World) (Q : Value → World → Prop) : Prop :=
  run1 Tryz.prog Z (binOp BinOp.geq 2 x0 (Value.int IntKind.i64 0)) w fun t6_1 w =>
  CondV t6_1 (
    run1 Tryz.prog Z (convert 2 105 x0) w fun t8_2 w =>
    CallV Tryz.prog Z 79 #[t8_2, (Value.int IntKind.i64 8)] w fun t9_3 w =>
    Q t9_3 w) (
    run1 Tryz.prog Z (binOp BinOp.sub 2 (Value.int IntKind.i64 (-1)) x0) w fun t11_4 w =>
    run1 Tryz.prog Z (convert 2 105 t11_4) w fun t12_5 w =>
    CallV Tryz.prog Z 79 #[t12_5, (Value.int IntKind.i64 8)] w fun t13_6 w =>
    ∃ J_7 : Nat → Value → World → Prop, (∃ m, J_7 m (Value.int IntKind.i64 0) w) ∧
      ∀ m_7, ∀ t4_8 : Value, ∀ w : World, J_7 m_7 t4_8 w → Env →
        run1 Tryz.prog Z (Builtin.len_ #[42] 3 #[t13_6]) w fun t16_9 w =>
        run1 Tryz.prog Z (binOp BinOp.lss 3 t4_8 t16_9) w fun t17_10 w =>
        CondV t17_10 (
          run1 Tryz.prog Z (Instr.indexAt 42 t13_6 t4_8) w fun t24_11 w =>
          run1 Tryz.prog Z (Instr.loadAt 5 t24_11) w fun t25_12 w =>
          run1 Tryz.prog Z (binOp BinOp.sub 5 (Value.int IntKind.u8 255) t25_12) w fun t26_13 w =>
          run1 Tryz.prog Z (Instr.indexAt 42 t13_6 t4_8) w fun t27_14 w =>
          run0 Tryz.prog Z (Instr.storeAt 5 t27_14 t26_13) w fun w =>
          run1 Tryz.prog Z (binOp BinOp.add 3 t4_8 (Value.int IntKind.i64 1)) w fun t19_15 w =>
          ∃ n_7, n_7 < m_7 ∧ J_7 n_7 t19_15 w) (
          Q t13_6 w))
noncomputable def f56.code : Code := match Tryz.f56.body with | some c => c | none => .skip
def f56.an : An := (.sq .leaf (.sq (.sq .leaf (.cn (.sq .leaf .leaf) .leaf)) (.sq .leaf (.sq (.sq .leaf (.bl (.lp [4] [4, 14, 15, 16, 17, 18, 19, 20, 21, 22, 23, 24, 25, 26, 27] (.sq (.sq .leaf (.cn .leaf .leaf)) (.sq (.bl .leaf) .leaf))))) (.sq .leaf .leaf)))))
theorem f56.body_eq : Tryz.f56.body = some f56.code := by kernel_rfl
theorem f56.shape (Z : List PanicEntry → World → Prop) (x0 : Value) (w : World) (Q : Value → World → Prop) : vc drawD Tryz.prog 29 Z [79] f56.an f56.code (fnQ Tryz.prog 29 Tryz.f56.results Q) (argEnv [x0]) w = f56.sh Z x0 w Q := by kernel_rfl
theorem f56.enters : ∀ f, f ∈ ([79] : List Nat) → Enters Tryz.prog f := by
  intro f hf
  simp only [List.mem_cons, List.not_mem_nil, or_false] at hf
  rcases hf with rfl
  · exact en79
theorem f56.calls {Z : List PanicEntry → World → Prop} {x0 : Value} {w : World} {Q : Value → World → Prop} (h : f56.sh Z x0 w Q) : CallV Tryz.prog Z 56 #[x0] w Q :=
  calls_of_vcn drawD_sound (Q := Q) (n := 29) (rs := Tryz.f56.results) (an := f56.an) (c := f56.code) (cal := [79]) (args := [x0]) Tryz.func56 (by kernel_rfl) rfl f56.body_eq follows (Nat.le_of_ble_eq_true (by kernel_rfl)) (enters_of_all f56.enters) ((f56.shape Z x0 w Q).mpr h)

/-! ### 57: lagoon/lagoonref04.request -/
def f57.sh (Z : List PanicEntry → World → Prop) (x0 x1 x2 : Value) (w : World) (Q : Value → World → Prop) : Prop :=
  run1 Tryz.prog Z (Instr.box 47 x1) w fun t4_1 w =>
  run1 Tryz.prog Z (Instr.fieldAt 47 t4_1 0) w fun t12_2 w =>
  run1 Tryz.prog Z (Instr.loadAt 32 t12_2) w fun t13_3 w =>
  CallV Tryz.prog Z 80 #[t13_3] w fun t14_4 w =>
  run1 Tryz.prog Z (Instr.fieldAt 47 t4_1 0) w fun t16_5 w =>
  run1 Tryz.prog Z (Instr.loadAt 32 t16_5) w fun t17_6 w =>
  CallV Tryz.prog Z 55 #[t17_6] w fun t18_7 w =>
  CallV Tryz.prog Z 54 #[x0, t18_7] w fun t19_8 w =>
  ∃ J_9 : Nat → Value → Value → World → Prop, (∃ m, J_9 m t19_8 (Value.int IntKind.i64 0) w) ∧
    ∀ m_9, ∀ t0_10 : Value, ∀ t8_11 : Value, ∀ w : World, J_9 m_9 t0_10 t8_11 w → Env →
      run1 Tryz.prog Z (Builtin.len_ #[9] 3 #[t14_4]) w fun t22_12 w =>
      run1 Tryz.prog Z (binOp BinOp.lss 3 t8_11 t22_12) w fun t23_13 w =>
      CondV t23_13 (
        ∀ j_14 : Value → World → Prop, (∀ t0_15 : Value, ∀ w : World, (Env →
            run1 Tryz.prog Z (binOp BinOp.add 3 t8_11 (Value.int IntKind.i64 1)) w fun t25_16 w =>
            ∃ n_9, n_9 < m_9 ∧ J_9 n_9 t0_15 t25_16 w) →
            j_14 t0_15 w) →
        run1 Tryz.prog Z (Instr.index 9 t14_4 t8_11) w fun t28_17 w =>
        run1 Tryz.prog Z (eqOp BinOp.eql 5 false true t28_17 (Value.int IntKind.u8 112)) w fun t30_18 w =>
        CondV t30_18 (
          run1 Tryz.prog Z (Instr.fieldAt 47 t4_1 1) w fun t32_19 w =>
          run1 Tryz.prog Z (Instr.loadAt 9 t32_19) w fun t33_20 w =>
          CallV Tryz.prog Z 81 #[t33_20] w fun t34_21 w =>
          CallV Tryz.prog Z 54 #[t0_10, t34_21] w fun t35_22 w =>
          j_14 t35_22 w) (
          run1 Tryz.prog Z (eqOp BinOp.eql 5 false true t28_17 (Value.int IntKind.u8 100)) w fun t37_23 w =>
          CondV t37_23 (
            run1 Tryz.prog Z (Instr.fieldAt 47 t4_1 2) w fun t39_24 w =>
            run1 Tryz.prog Z (Instr.loadAt 42 t39_24) w fun t40_25 w =>
            CallV Tryz.prog Z 82 #[t40_25] w fun t41_26 w =>
            CallV Tryz.prog Z 54 #[t0_10, t41_26] w fun t42_27 w =>
            j_14 t42_27 w) (
            run1 Tryz.prog Z (eqOp BinOp.eql 5 false true t28_17 (Value.int IntKind.u8 97)) w fun t44_28 w =>
            CondV t44_28 (
              run1 Tryz.prog Z (Instr.fieldAt 47 t4_1 3) w fun t46_29 w =>
              run1 Tryz.prog Z (Instr.loadAt 43 t46_29) w fun t47_30 w =>
              run1 Tryz.prog Z (Builtin.len_ #[43] 3 #[t47_30]) w fun t48_31 w =>
              run1 Tryz.prog Z (convert 3 21 t48_31) w fun t49_32 w =>
              CallV Tryz.prog Z 83 #[t49_32] w fun t50_33 w =>
              CallV Tryz.prog Z 54 #[t0_10, t50_33] w fun t51_34 w =>
              ∃ J_35 : Nat → Value → Value → World → Prop, (∃ m, J_35 m t51_34 (Value.int IntKind.i64 0) w) ∧
                ∀ m_35, ∀ t0_36 : Value, ∀ t9_37 : Value, ∀ w : World, J_35 m_35 t0_36 t9_37 w → Env →
                  run1 Tryz.prog Z (Instr.fieldAt 47 t4_1 3) w fun t53_38 w =>
                  run1 Tryz.prog Z (Instr.loadAt 43 t53_38) w fun t54_39 w =>
                  run1 Tryz.prog Z (Builtin.len_ #[43] 3 #[t54_39]) w fun t55_40 w =>
                  run1 Tryz.prog Z (binOp BinOp.lss 3 t9_37 t55_40) w fun t56_41 w =>
                  CondV t56_41 (
                    run1 Tryz.prog Z (Instr.fieldAt 47 t4_1 3) w fun t60_42 w =>
                    run1 Tryz.prog Z (Instr.loadAt 43 t60_42) w fun t61_43 w =>
                    run1 Tryz.prog Z (Instr.indexAt 43 t61_43 t9_37) w fun t63_44 w =>
                    run1 Tryz.prog Z (Instr.fieldAt 99 t63_44 0) w fun t64_45 w =>
                    run1 Tryz.prog Z (Instr.loadAt 32 t64_45) w fun t65_46 w =>
                    CallV Tryz.prog Z 55 #[t65_46] w fun t66_47 w =>
                    CallV Tryz.prog Z 54 #[t0_36, t66_47] w fun t67_48 w =>
                    run1 Tryz.prog Z (Instr.fieldAt 47 t4_1 3) w fun t69_49 w =>
                    run1 Tryz.prog Z (Instr.loadAt 43 t69_49) w fun t70_50 w =>
                    run1 Tryz.prog Z (Instr.indexAt 43 t70_50 t9_37) w fun t72_51 w =>
                    run1 Tryz.prog Z (Instr.fieldAt 99 t72_51 1) w fun t73_52 w =>
                    run1 Tryz.prog Z (Instr.loadAt 97 t73_52) w fun t74_53 w =>
                    CallV Tryz.prog Z 84 #[t67_48, t74_53] w fun t75_54 w =>
                    run1 Tryz.prog Z (binOp BinOp.add 3 t9_37 (Value.int IntKind.i64 1)) w fun t58_55 w =>
                    ∃ n_35, n_35 < m_35 ∧ J_35 n_35 t75_54 t58_55 w) (
                    j_14 t0_36 w)) (
              run1 Tryz.prog Z (eqOp BinOp.eql 5 false true t28_17 (Value.int IntKind.u8 118)) w fun t77_56 w =>
              CondV t77_56 (
                run1 Tryz.prog Z (Instr.fieldAt 47 t4_1 4) w fun t79_57 w =>
                run1 Tryz.prog Z (Instr.loadAt 21 t79_57) w fun t80_58 w =>
                CallV Tryz.prog Z 83 #[t80_58] w fun t81_59 w =>
                CallV Tryz.prog Z 54 #[t0_10, t81_59] w fun t82_60 w =>
                j_14 t82_60 w) (
                run1 Tryz.prog Z (eqOp BinOp.eql 5 false true t28_17 (Value.int IntKind.u8 102)) w fun t84_61 w =>
                CondV t84_61 (
                  run1 Tryz.prog Z (Instr.fieldAt 47 t4_1 5) w fun t86_62 w =>
                  run1 Tryz.prog Z (Instr.loadAt 4 t86_62) w fun t87_63 w =>
                  CallV Tryz.prog Z 85 #[t87_63] w fun t88_64 w =>
                  CallV Tryz.prog Z 54 #[t0_10, t88_64] w fun t89_65 w =>
                  run1 Tryz.prog Z (Instr.fieldAt 47 t4_1 6) w fun t91_66 w =>
                  run1 Tryz.prog Z (Instr.loadAt 4 t91_66) w fun t92_67 w =>
                  CallV Tryz.prog Z 85 #[t92_67] w fun t93_68 w =>
                  CallV Tryz.prog Z 54 #[t89_65, t93_68] w fun t94_69 w =>
                  j_14 t94_69 w) (
                  run1 Tryz.prog Z (eqOp BinOp.eql 5 false true t28_17 (Value.int IntKind.u8 115)) w fun t96_70 w =>
                  CondV t96_70 (
                    run1 Tryz.prog Z (Op.unary UnOp.not x2) w fun t98_71 w =>
                    CondV t98_71 (
                      run1 Tryz.prog Z (Instr.fieldAt 47 t4_1 7) w fun t100_72 w =>
                      run1 Tryz.prog Z (Instr.loadAt 2 t100_72) w fun t101_73 w =>
                      CallV Tryz.prog Z 56 #[t101_73] w fun t102_74 w =>
                      CallV Tryz.prog Z 54 #[t0_10, t102_74] w fun t103_75 w =>
                      j_14 t103_75 w) (
                      j_14 t0_10 w)) (
                    run1 Tryz.prog Z (eqOp BinOp.eql 5 false true t28_17 (Value.int IntKind.u8 116)) w fun t105_76 w =>
                    CondV t105_76 (
                      run1 Tryz.prog Z (Instr.fieldAt 47 t4_1 8) w fun t107_77 w =>
                      run1 Tryz.prog Z (Instr.loadAt 21 t107_77) w fun t108_78 w =>
                      CallV Tryz.prog Z 83 #[t108_78] w fun t109_79 w =>
                      CallV Tryz.prog Z 54 #[t0_10, t109_79] w fun t110_80 w =>
                      j_14 t110_80 w) (
                      run1 Tryz.prog Z (eqOp BinOp.eql 5 false true t28_17 (Value.int IntKind.u8 119)) w fun t112_81 w =>
                      CondV t112_81 (
                        run1 Tryz.prog Z (Op.unary UnOp.not x2) w fun t114_82 w =>
                        CondV t114_82 (
                          run1 Tryz.prog Z (Instr.fieldAt 47 t4_1 9) w fun t116_83 w =>
                          run1 Tryz.prog Z (Instr.loadAt 44 t116_83) w fun t117_84 w =>
                          run1 Tryz.prog Z (Builtin.len_ #[44] 3 #[t117_84]) w fun t118_85 w =>
                          run1 Tryz.prog Z (convert 3 21 t118_85) w fun t119_86 w =>
                          CallV Tryz.prog Z 83 #[t119_86] w fun t120_87 w =>
                          CallV Tryz.prog Z 54 #[t0_10, t120_87] w fun t121_88 w =>
                          ∃ J_89 : Nat → Value → Value → World → Prop, (∃ m, J_89 m t121_88 (Value.int IntKind.i64 0) w) ∧
                            ∀ m_89, ∀ t0_90 : Value, ∀ t10_91 : Value, ∀ w : World, J_89 m_89 t0_90 t10_91 w → Env →
                              run1 Tryz.prog Z (Instr.fieldAt 47 t4_1 9) w fun t123_92 w =>
                              run1 Tryz.prog Z (Instr.loadAt 44 t123_92) w fun t124_93 w =>
                              run1 Tryz.prog Z (Builtin.len_ #[44] 3 #[t124_93]) w fun t125_94 w =>
                              run1 Tryz.prog Z (binOp BinOp.lss 3 t10_91 t125_94) w fun t126_95 w =>
                              CondV t126_95 (
                                run1 Tryz.prog Z (Instr.fieldAt 47 t4_1 9) w fun t130_96 w =>
                                run1 Tryz.prog Z (Instr.loadAt 44 t130_96) w fun t131_97 w =>
                                run1 Tryz.prog Z (Instr.indexAt 44 t131_97 t10_91) w fun t133_98 w =>
                                run1 Tryz.prog Z (Instr.loadAt 97 t133_98) w fun t134_99 w =>
                                CallV Tryz.prog Z 84 #[t0_90, t134_99] w fun t135_100 w =>
                                run1 Tryz.prog Z (binOp BinOp.add 3 t10_91 (Value.int IntKind.i64 1)) w fun t128_101 w =>
                                ∃ n_89, n_89 < m_89 ∧ J_89 n_89 t135_100 t128_101 w) (
                                j_14 t0_90 w)) (
                          j_14 t0_10 w)) (
                        run1 Tryz.prog Z (eqOp BinOp.eql 5 false true t28_17 (Value.int IntKind.u8 111)) w fun t137_102 w =>
                        CondV t137_102 (
                          run1 Tryz.prog Z (Instr.fieldAt 47 t4_1 10) w fun t139_103 w =>
                          run1 Tryz.prog Z (Instr.loadAt 45 t139_103) w fun t140_104 w =>
                          run1 Tryz.prog Z (Builtin.len_ #[45] 3 #[t140_104]) w fun t141_105 w =>
                          run1 Tryz.prog Z (convert 3 21 t141_105) w fun t142_106 w =>
                          CallV Tryz.prog Z 83 #[t142_106] w fun t143_107 w =>
                          CallV Tryz.prog Z 54 #[t0_10, t143_107] w fun t144_108 w =>
                          ∃ J_109 : Nat → Value → Value → World → Prop, (∃ m, J_109 m t144_108 (Value.int IntKind.i64 0) w) ∧
                            ∀ m_109, ∀ t0_110 : Value, ∀ t11_111 : Value, ∀ w : World, J_109 m_109 t0_110 t11_111 w → Env →
                              run1 Tryz.prog Z (Instr.fieldAt 47 t4_1 10) w fun t146_112 w =>
                              run1 Tryz.prog Z (Instr.loadAt 45 t146_112) w fun t147_113 w =>
                              run1 Tryz.prog Z (Builtin.len_ #[45] 3 #[t147_113]) w fun t148_114 w =>
                              run1 Tryz.prog Z (binOp BinOp.lss 3 t11_111 t148_114) w fun t149_115 w =>
                              CondV t149_115 (
                                run1 Tryz.prog Z (Instr.fieldAt 47 t4_1 10) w fun t153_116 w =>
                                run1 Tryz.prog Z (Instr.loadAt 45 t153_116) w fun t154_117 w =>
                                run1 Tryz.prog Z (Instr.indexAt 45 t154_117 t11_111) w fun t156_118 w =>
                                run1 Tryz.prog Z (Instr.loadAt 47 t156_118) w fun t157_119 w =>
                                CallV Tryz.prog Z 57 #[t0_110, t157_119, (Value.bool true)] w fun t158_120 w =>
                                run1 Tryz.prog Z (binOp BinOp.add 3 t11_111 (Value.int IntKind.i64 1)) w fun t151_121 w =>
                                ∃ n_109, n_109 < m_109 ∧ J_109 n_109 t158_120 t151_121 w) (
                                j_14 t0_110 w)) (
                          j_14 t0_10 w)))))))))) (
        Q t0_10 w)
noncomputable def f57.code : Code := match Tryz.f57.body with | some c => c | none => .skip
def f57.an : An := (.sq .leaf (.sq .leaf (.sq .leaf (.sq (.sq .leaf (.bl (.lp [0, 8] [0, 8, 9, 10, 11, 20, 21, 22, 23, 24, 25, 26, 27, 28, 29, 30, 31, 32, 33, 34, 35, 36, 37, 38, 39, 40, 41, 42, 43, 44, 45, 46, 47, 48, 49, 50, 51, 52, 53, 54, 55, 56, 57, 58, 59, 60, 61, 62, 63, 64, 65, 66, 67, 68, 69, 70, 71, 72, 73, 74, 75, 76, 77, 78, 79, 80, 81, 82, 83, 84, 85, 86, 87, 88, 89, 90, 91, 92, 93, 94, 95, 96, 97, 98, 99, 100, 101, 102, 103, 104, 105, 106, 107, 108, 109, 110, 111, 112, 113, 114, 115, 116, 117, 118, 119, 120, 121, 122, 123, 124, 125, 126, 127, 128, 129, 130, 131, 132, 133, 134, 135, 136, 137, 138, 139, 140, 141, 142, 143, 144, 145, 146, 147, 148, 149, 150, 151, 152, 153, 154, 155, 156, 157, 158] (.sq (.sq .leaf (.cn .leaf .leaf)) (.sj [0] [0, 9, 10, 11, 26, 27, 28, 29, 30, 31, 32, 33, 34, 35, 36, 37, 38, 39, 40, 41, 42, 43, 44, 45, 46, 47, 48, 49, 50, 51, 52, 53, 54, 55, 56, 57, 58, 59, 60, 61, 62, 63, 64, 65, 66, 67, 68, 69, 70, 71, 72, 73, 74, 75, 76, 77, 78, 79, 80, 81, 82, 83, 84, 85, 86, 87, 88, 89, 90, 91, 92, 93, 94, 95, 96, 97, 98, 99, 100, 101, 102, 103, 104, 105, 106, 107, 108, 109, 110, 111, 112, 113, 114, 115, 116, 117, 118, 119, 120, 121, 122, 123, 124, 125, 126, 127, 128, 129, 130, 131, 132, 133, 134, 135, 136, 137, 138, 139, 140, 141, 142, 143, 144, 145, 146, 147, 148, 149, 150, 151, 152, 153, 154, 155, 156, 157, 158] (.bl (.sq .leaf (.bl (.sq .leaf (.cn .leaf (.sq .leaf (.cn .leaf (.sq .leaf (.cn (.sq .leaf (.sq .leaf (.bl (.lp [0, 9] [0, 9, 52, 53, 54, 55, 56, 57, 58, 59, 60, 61, 62, 63, 64, 65, 66, 67, 68, 69, 70, 71, 72, 73, 74, 75] (.sq (.sq .leaf (.cn .leaf .leaf)) (.sq (.bl (.sq .leaf .leaf)) .leaf)))))) (.sq .leaf (.cn .leaf (.sq .leaf (.cn (.sq .leaf .leaf) (.sq .leaf (.cn (.sq .leaf (.cn .leaf .leaf)) (.sq .leaf (.cn .leaf (.sq .leaf (.cn (.sq .leaf (.cn (.sq .leaf (.sq .leaf (.bl (.lp [0, 10] [0, 10, 122, 123, 124, 125, 126, 127, 128, 129, 130, 131, 132, 133, 134, 135] (.sq (.sq .leaf (.cn .leaf .leaf)) (.sq (.bl .leaf) .leaf)))))) .leaf)) (.sq .leaf (.cn (.sq .leaf (.sq .leaf (.bl (.lp [0, 11] [0, 11, 145, 146, 147, 148, 149, 150, 151, 152, 153, 154, 155, 156, 157, 158] (.sq (.sq .leaf (.cn .leaf .leaf)) (.sq (.bl .leaf) .leaf)))))) .leaf))))))))))))))))))))) .leaf))))) (.sq .leaf .leaf)))))
theorem f57.body_eq : Tryz.f57.body = some f57.code := by kernel_rfl
theorem f57.shape (Z : List PanicEntry → World → Prop) (x0 x1 x2 : Value) (w : World) (Q : Value → World → Prop) : vc drawD Tryz.prog 160 Z [80, 55, 54, 81, 82, 83, 84, 85, 56, 57] f57.an f57.code (fnQ Tryz.prog 160 Tryz.f57.results Q) (argEnv [x0, x1, x2]) w = f57.sh Z x0 x1 x2 w Q := by kernel_rfl
theorem f57.enters : ∀ f, f ∈ ([80, 55, 54, 81, 82, 83, 84, 85, 56, 57] : List Nat) → Enters Tryz.prog f := by
  intro f hf
  simp only [List.mem_cons, List.not_mem_nil, or_false] at hf
  rcases hf with rfl | rfl | rfl | rfl | rfl | rfl | rfl | rfl | rfl | rfl
  · exact en80
  · exact en55
  · exact en54
  · exact en81
  · exact en82
  · exact en83
  · exact en84
  · exact en85
  · exact en56
  · exact en57
theorem f57.calls {Z : List PanicEntry → World → Prop} {x0 x1 x2 : Value} {w : World} {Q : Value → World → Prop} (h : f57.sh Z x0 x1 x2 w Q) : CallV Tryz.prog Z 57 #[x0, x1, x2] w Q :=
  calls_of_vcn drawD_sound (Q := Q) (n := 160) (rs := Tryz.f57.results) (an := f57.an) (c := f57.code) (cal := [80, 55, 54, 81, 82, 83, 84, 85, 56, 57]) (args := [x0, x1, x2]) Tryz.func57 (by kernel_rfl) rfl f57.body_eq follows (Nat.le_of_ble_eq_true (by kernel_rfl)) (enters_of_all f57.enters) ((f57.shape Z x0 x1 x2 w Q).mpr h)

/-! ### 58: lagoon/lagoonref00.EqBytes -/
def f58.sh (Z : List PanicEntry → World → Prop) (x0 x1 : Value) (w : World) (Q : Value → World → Prop) : Prop :=
  run1 Tryz.prog Z (Builtin.len_ #[42] 3 #[x0]) w fun t7_1 w =>
  run1 Tryz.prog Z (Builtin.len_ #[42] 3 #[x1]) w fun t9_2 w =>
  run1 Tryz.prog Z (eqOp BinOp.neq 3 false false t7_1 t9_2) w fun t10_3 w =>
  CondV t10_3 (
    Q (Value.bool false) w) (
    ∃ J_4 : Nat → Value → World → Prop, (∃ m, J_4 m (Value.int IntKind.i64 0) w) ∧
      ∀ m_4, ∀ t5_5 : Value, ∀ w : World, J_4 m_4 t5_5 w → Env →
        run1 Tryz.prog Z (Builtin.len_ #[42] 3 #[x0]) w fun t13_6 w =>
        run1 Tryz.prog Z (binOp BinOp.lss 3 t5_5 t13_6) w fun t14_7 w =>
        CondV t14_7 (
          Drawn w fun w =>
          Pure1 Tryz.prog (Instr.indexAt 42 x0 t5_5) fun t19_8 =>
          Read1 Tryz.prog (Instr.loadAt 5 t19_8) w fun t20_9 =>
          Pure1 Tryz.prog (Instr.indexAt 42 x1 t5_5) fun t23_10 =>
          Read1 Tryz.prog (Instr.loadAt 5 t23_10) w fun t24_11 =>
          Pure1 Tryz.prog (eqOp BinOp.neq 5 false false t20_9 t24_11) fun t25_12 =>
          CondV t25_12 (
            Q (Value.bool false) w) (
            run1 Tryz.prog Z (binOp BinOp.add 3 t5_5 (Value.int IntKind.i64 1)) w fun t16_13 w =>
            ∃ n_4, n_4 < m_4 ∧ J_4 n_4 t16_13 w)) (
          Q (Value.bool true) w))
noncomputable def f58.code : Code := match Tryz.f58.body with | some c => c | none => .skip
def f58.an : An := (.sq .leaf (.sq (.sq .leaf (.cn (.sq .leaf .leaf) .leaf)) (.sq (.sq .leaf (.bl (.lp [5] [4, 5, 11, 12, 13, 14, 15, 16, 17, 18, 19, 20, 21, 22, 23, 24, 25] (.sq (.sq .leaf (.cn .leaf .leaf)) (.sq (.bl (.sq (.dr (.take 0 false (.take 1 false (.take 2 false (.take 3 true (.take 4 false (.take 5 false (.take 6 false (.take 7 true (.take 8 false .fin)))))))))) (.cn (.sq .leaf .leaf) .leaf))) .leaf))))) (.sq .leaf .leaf))))
theorem f58.body_eq : Tryz.f58.body = some f58.code := by kernel_rfl
theorem f58.shape (Z : List PanicEntry → World → Prop) (x0 x1 : Value) (w : World) (Q : Value → World → Prop) : vc drawD Tryz.prog 26 Z [] f58.an f58.code (fnQ Tryz.prog 26 Tryz.f58.results Q) (argEnv [x0, x1]) w = f58.sh Z x0 x1 w Q := by kernel_rfl
theorem f58.enters : ∀ f, f ∈ ([] : List Nat) → Enters Tryz.prog f := by
  intro f hf
  cases hf
theorem f58.calls {Z : List PanicEntry → World → Prop} {x0 x1 : Value} {w : World} {Q : Value → World → Prop} (h : f58.sh Z x0 x1 w Q) : CallV Tryz.prog Z 58 #[x0, x1] w Q :=
  calls_of_vcn drawD_sound (Q := Q) (n := 26) (rs := Tryz.f58.results) (an := f58.an) (c := f58.code) (cal := []) (args := [x0, x1]) Tryz.func58 (by kernel_rfl) rfl f58.body_eq follows (Nat.le_of_ble_eq_true (by kernel_rfl)) (enters_of_all f58.enters) ((f58.shape Z x0 x1 w Q).mpr h)

/-! ### 59: lagoon/lagoonref00.EqAcl -/
def f59.sh (Z : List PanicEntry → World → Prop) (x0 x1 : Value) (w : World) (Q : Value → World → Prop) : Prop :=
  run1 Tryz.prog Z (Builtin.len_ #[43] 3 #[x0]) w fun t7_1 w =>
  run1 Tryz.prog Z (Builtin.len_ #[43] 3 #[x1]) w fun t9_2 w =>
  run1 Tryz.prog Z (eqOp BinOp.neq 3 false false t7_1 t9_2) w fun t10_3 w =>
  CondV t10_3 (
    Q (Value.bool false) w) (
    ∃ J_4 : Nat → Value → World → Prop, (∃ m, J_4 m (Value.int IntKind.i64 0) w) ∧
      ∀ m_4, ∀ t5_5 : Value, ∀ w : World, J_4 m_4 t5_5 w → Env →
        run1 Tryz.prog Z (Builtin.len_ #[43] 3 #[x0]) w fun t13_6 w =>
        run1 Tryz.prog Z (binOp BinOp.lss 3 t5_5 t13_6) w fun t14_7 w =>
        CondV t14_7 (
          Drawn w fun w =>
          Pure1 Tryz.prog (Instr.indexAt 43 x0 t5_5) fun t19_8 =>
          Read1 Tryz.prog (Instr.loadAt 99 t19_8) w fun t20_9 =>
          Pure1 Tryz.prog (Instr.indexAt 43 x1 t5_5) fun t23_10 =>
          Read1 Tryz.prog (Instr.loadAt 99 t23_10) w fun t24_11 =>
          Pure1 Tryz.prog (eqOp BinOp.neq 99 false false t20_9 t24_11) fun t25_12 =>
          CondV t25_12 (
            Q (Value.bool false) w) (
            run1 Tryz.prog Z (binOp BinOp.add 3 t5_5 (Value.int IntKind.i64 1)) w fun t16_13 w =>
            ∃ n_4, n_4 < m_4 ∧ J_4 n_4 t16_13 w)) (
          Q (Value.bool true) w))
noncomputable def f59.code : Code := match Tryz.f59.body with | some c => c | none => .skip
def f59.an : An := (.sq .leaf (.sq (.sq .leaf (.cn (.sq .leaf .leaf) .leaf)) (.sq (.sq .leaf (.bl (.lp [5] [4, 5, 11, 12, 13, 14, 15, 16, 17, 18, 19, 20, 21, 22, 23, 24, 25] (.sq (.sq .leaf (.cn .leaf .leaf)) (.sq (.bl (.sq (.dr (.take 0 false (.take 1 false (.take 2 false (.take 3 true (.take 4 false (.take 5 false (.take 6 false (.take 7 true (.take 8 false .fin)))))))))) (.cn (.sq .leaf .leaf) .leaf))) .leaf))))) (.sq .leaf .leaf))))
theorem f59.body_eq : Tryz.f59.body = some f59.code := by kernel_rfl
theorem f59.shape (Z : List PanicEntry → World → Prop) (x0 x1 : Value) (w : World) (Q : Value → World → Prop) : vc drawD Tryz.prog 26 Z [] f59.an f59.code (fnQ Tryz.prog 26 Tryz.f59.results Q) (argEnv [x0, x1]) w = f59.sh Z x0 x1 w Q := by kernel_rfl
theorem f59.enters : ∀ f, f ∈ ([] : List Nat) → Enters Tryz.prog f := by
  intro f hf
  cases hf
theorem f59.calls {Z : List PanicEntry → World → Prop} {x0 x1 : Value} {w : World} {Q : Value → World → Prop} (h : f59.sh Z x0 x1 w Q) : CallV Tryz.prog Z 59 #[x0, x1] w Q :=
  calls_of_vcn drawD_sound (Q := Q) (n := 26) (rs := Tryz.f59.results) (an := f59.an) (c := f59.code) (cal := []) (args := [x0, x1]) Tryz.func59 (by kernel_rfl) rfl f59.body_eq follows (Nat.le_of_ble_eq_true (by kernel_rfl)) (enters_of_all f59.enters) ((f59.shape Z x0 x1 w Q).mpr h)

/-! ### 60: lagoon/lagoonref00.EqIds -/
def f60.sh (Z : List PanicEntry → World → Prop) (x0 x1 : Value) (w : World) (Q : Value → World → Prop) : Prop :=
  run1 Tryz.prog Z (Builtin.len_ #[44] 3 #[x0]) w fun t7_1 w =>
  run1 Tryz.prog Z (Builtin.len_ #[44] 3 #[x1]) w fun t9_2 w =>
  run1 Tryz.prog Z (eqOp BinOp.neq 3 false false t7_1 t9_2) w fun t10_3 w =>
  CondV t10_3 (
    Q (Value.bool false) w) (
    ∃ J_4 : Nat → Value → World → Prop, (∃ m, J_4 m (Value.int IntKind.i64 0) w) ∧
      ∀ m_4, ∀ t5_5 : Value, ∀ w : World, J_4 m_4 t5_5 w → Env →
        run1 Tryz.prog Z (Builtin.len_ #[44] 3 #[x0]) w fun t13_6 w =>
        run1 Tryz.prog Z (binOp BinOp.lss 3 t5_5 t13_6) w fun t14_7 w =>
        CondV t14_7 (
          Drawn w fun w =>
          Pure1 Tryz.prog (Instr.indexAt 44 x0 t5_5) fun t19_8 =>
          Read1 Tryz.prog (Instr.loadAt 97 t19_8) w fun t20_9 =>
          Pure1 Tryz.prog (Instr.indexAt 44 x1 t5_5) fun t23_10 =>
          Read1 Tryz.prog (Instr.loadAt 97 t23_10) w fun t24_11 =>
          Pure1 Tryz.prog (eqOp BinOp.neq 97 false false t20_9 t24_11) fun t25_12 =>
          CondV t25_12 (
            Q (Value.bool false) w) (
            run1 Tryz.prog Z (binOp BinOp.add 3 t5_5 (Value.int IntKind.i64 1)) w fun t16_13 w =>
            ∃ n_4, n_4 < m_4 ∧ J_4 n_4 t16_13 w)) (
          Q (Value.bool true) w))
noncomputable def f60.code : Code := match Tryz.f60.body with | some c => c | none => .skip
def f60.an : An := (.sq .leaf (.sq (.sq .leaf (.cn (.sq .leaf .leaf) .leaf)) (.sq (.sq .leaf (.bl (.lp [5] [4, 5, 11, 12, 13, 14, 15, 16, 17, 18, 19, 20, 21, 22, 23, 24, 25] (.sq (.sq .leaf (.cn .leaf .leaf)) (.sq (.bl (.sq (.dr (.take 0 false (.take 1 false (.take 2 false (.take 3 true (.take 4 false (.take 5 false (.take 6 false (.take 7 true (.take 8 false .fin)))))))))) (.cn (.sq .leaf .leaf) .leaf))) .leaf))))) (.sq .leaf .leaf))))
theorem f60.body_eq : Tryz.f60.body = some f60.code := by kernel_rfl
theorem f60.shape (Z : List PanicEntry → World → Prop) (x0 x1 : Value) (w : World) (Q : Value → World → Prop) : vc drawD Tryz.prog 26 Z [] f60.an f60.code (fnQ Tryz.prog 26 Tryz.f60.results Q) (argEnv [x0, x1]) w = f60.sh Z x0 x1 w Q := by kernel_rfl
theorem f60.enters : ∀ f, f ∈ ([] : List Nat) → Enters Tryz.prog f := by
  intro f hf
  cases hf
theorem f60.calls {Z : List PanicEntry → World → Prop} {x0 x1 : Value} {w : World} {Q : Value → World → Prop} (h : f60.sh Z x0 x1 w Q) : CallV Tryz.prog Z 60 #[x0, x1] w Q :=
  calls_of_vcn drawD_sound (Q := Q) (n := 26) (rs := Tryz.f60.results) (an := f60.an) (c := f60.code) (cal := []) (args := [x0, x1]) Tryz.func60 (by kernel_rfl) rfl f60.body_eq follows (Nat.le_of_ble_eq_true (by kernel_rfl)) (enters_of_all f60.enters) ((f60.shape Z x0 x1 w Q).mpr h)

/-! ### 61: lagoon/lagoonref00.mark -/
def f61.sh (Z : List PanicEntry → World → Prop) (x0 : Value) (w : World) (Q : Value → World → Prop) : Prop :=
  CallV Tryz.prog Z 86 #[x0] w fun t4_1 w =>
  run1 Tryz.prog Z (binOp BinOp.add 9 (Value.string { data := #[33] }) t4_1) w fun t5_2 w =>
  Q t5_2 w
noncomputable def f61.code : Code := match Tryz.f61.body with | some c => c | none => .skip
def f61.an : An := (.sq .leaf (.sq .leaf .leaf))
theorem f61.body_eq : Tryz.f61.body = some f61.code := by kernel_rfl
theorem f61.shape (Z : List PanicEntry → World → Prop) (x0 : Value) (w : World) (Q : Value → World → Prop) : vc drawD Tryz.prog 6 Z [86] f61.an f61.code (fnQ Tryz.prog 6 Tryz.f61.results Q) (argEnv [x0]) w = f61.sh Z x0 w Q := by kernel_rfl
theorem f61.enters : ∀ f, f ∈ ([86] : List Nat) → Enters Tryz.prog f := by
  intro f hf
  simp only [List.mem_cons, List.not_mem_nil, or_false] at hf
  rcases hf with rfl
  · exact en86
theorem f61.calls {Z : List PanicEntry → World → Prop} {x0 : Value} {w : World} {Q : Value → World → Prop} (h : f61.sh Z x0 w Q) : CallV Tryz.prog Z 61 #[x0] w Q :=
  calls_of_vcn drawD_sound (Q := Q) (n := 6) (rs := Tryz.f61.results) (an := f61.an) (c := f61.code) (cal := [86]) (args := [x0]) Tryz.func61 (by kernel_rfl) rfl f61.body_eq follows (Nat.le_of_ble_eq_true (by kernel_rfl)) (enters_of_all f61.enters) ((f61.shape Z x0 w Q).mpr h)

/-! ### 62: lagoon/lagoonref00.CopyBytes -/
def f62.sh (Z : List PanicEntry → World → Prop) (x0 : Value) (w : World) (Q : Value → World → Prop) : Prop :=
  ∃ J_1 : Nat → Value → Value → World → Prop, (∃ m, J_1 m (Value.slice none 0 0) (Value.int IntKind.i64 0) w) ∧
    ∀ m_1, ∀ t3_2 : Value, ∀ t4_3 : Value, ∀ w : World, J_1 m_1 t3_2 t4_3 w → Env →
      run1 Tryz.prog Z (Builtin.len_ #[42] 3 #[x0]) w fun t7_4 w =>
      run1 Tryz.prog Z (binOp BinOp.lss 3 t4_3 t7_4) w fun t8_5 w =>
      CondV t8_5 (
        run1 Tryz.prog Z (Instr.indexAt 42 x0 t4_3) w fun t14_6 w =>
        run1 Tryz.prog Z (Instr.loadAt 5 t14_6) w fun t15_7 w =>
        run1 Tryz.prog Z (Instr.buildSlice 42 1 #[(0, t15_7)]) w fun t16_8 w =>
        run1 Tryz.prog Z (Builtin.append_ #[42, 42] 42 #[t3_2, t16_8]) w fun t17_9 w =>
        run1 Tryz.prog Z (binOp BinOp.add 3 t4_3 (Value.int IntKind.i64 1)) w fun t10_10 w =>
        ∃ n_1, n_1 < m_1 ∧ J_1 n_1 t17_9 t10_10 w) (
        Q t3_2 w)
noncomputable def f62.code : Code := match Tryz.f62.body with | some c => c | none => .skip
def f62.an : An := (.sq .leaf (.sq .leaf (.sq (.sq .leaf (.bl (.lp [3, 4] [3, 4, 5, 6, 7, 8, 9, 10, 11, 12, 13, 14, 15, 16, 17] (.sq (.sq .leaf (.cn .leaf .leaf)) (.sq (.bl .leaf) .leaf))))) (.sq .leaf .leaf))))
theorem f62.body_eq : Tryz.f62.body = some f62.code := by kernel_rfl
theorem f62.shape (Z : List PanicEntry → World → Prop) (x0 : Value) (w : World) (Q : Value → World → Prop) : vc drawD Tryz.prog 19 Z [] f62.an f62.code (fnQ Tryz.prog 19 Tryz.f62.results Q) (argEnv [x0]) w = f62.sh Z x0 w Q := by kernel_rfl
theorem f62.enters : ∀ f, f ∈ ([] : List Nat) → Enters Tryz.prog f := by
  intro f hf
  cases hf
theorem f62.calls {Z : List PanicEntry → World → Prop} {x0 : Value} {w : World} {Q : Value → World → Prop} (h : f62.sh Z x0 w Q) : CallV Tryz.prog Z 62 #[x0] w Q :=
  calls_of_vcn drawD_sound (Q := Q) (n := 19) (rs := Tryz.f62.results) (an := f62.an) (c := f62.code) (cal := []) (args := [x0]) Tryz.func62 (by kernel_rfl) rfl f62.body_eq follows (Nat.le_of_ble_eq_true (by kernel_rfl)) (enters_of_all f62.enters) ((f62.shape Z x0 w Q).mpr h)

/-! ### 63: lagoon/lagoonref00.CopyAcl -/
def f63.sh (Z : List PanicEntry → World → Prop) (x0 : Value) (w : World) (Q : Value → World → Prop) : Prop :=
  ∃ J_1 : Nat → Value → Value → World → Prop, (∃ m, J_1 m (Value.slice none 0 0) (Value.int IntKind.i64 0) w) ∧
    ∀ m_1, ∀ t3_2 : Value, ∀ t4_3 : Value, ∀ w : World, J_1 m_1 t3_2 t4_3 w → Env →
      run1 Tryz.prog Z (Builtin.len_ #[43] 3 #[x0]) w fun t7_4 w =>
      run1 Tryz.prog Z (binOp BinOp.lss 3 t4_3 t7_4) w fun t8_5 w =>
      CondV t8_5 (
        run1 Tryz.prog Z (Instr.indexAt 43 x0 t4_3) w fun t14_6 w =>
        run1 Tryz.prog Z (Instr.loadAt 99 t14_6) w fun t15_7 w =>
        run1 Tryz.prog Z (Instr.buildSlice 43 1 #[(0, t15_7)]) w fun t16_8 w =>
        run1 Tryz.prog Z (Builtin.append_ #[43, 43] 43 #[t3_2, t16_8]) w fun t17_9 w =>
        run1 Tryz.prog Z (binOp BinOp.add 3 t4_3 (Value.int IntKind.i64 1)) w fun t10_10 w =>
        ∃ n_1, n_1 < m_1 ∧ J_1 n_1 t17_9 t10_10 w) (
        Q t3_2 w)
noncomputable def f63.code : Code := match Tryz.f63.body with | some c => c | none => .skip
def f63.an : An := (.sq .leaf (.sq .leaf (.sq (.sq .leaf (.bl (.lp [3, 4] [3, 4, 5, 6, 7, 8, 9, 10, 11, 12, 13, 14, 15, 16, 17] (.sq (.sq .leaf (.cn .leaf .leaf)) (.sq (.bl .leaf) .leaf))))) (.sq .leaf .leaf))))
theorem f63.body_eq : Tryz.f63.body = some f63.code := by kernel_rfl
theorem f63.shape (Z : List PanicEntry → World → Prop) (x0 : Value) (w : World) (Q : Value → World → Prop) : vc drawD Tryz.prog 19 Z [] f63.an f63.code (fnQ Tryz.prog 19 Tryz.f63.results Q) (argEnv [x0]) w = f63.sh Z x0 w Q := by kernel_rfl
theorem f63.enters : ∀ f, f ∈ ([] : List Nat) → Enters Tryz.prog f := by
  intro f hf
  cases hf
theorem f63.calls {Z : List PanicEntry → World → Prop} {x0 : Value} {w : World} {Q : Value → World → Prop} (h : f63.sh Z x0 w Q) : CallV Tryz.prog Z 63 #[x0] w Q :=
  calls_of_vcn drawD_sound (Q := Q) (n := 19) (rs := Tryz.f63.results) (an := f63.an) (c := f63.code) (cal := []) (args := [x0]) Tryz.func63 (by kernel_rfl) rfl f63.body_eq follows (Nat.le_of_ble_eq_true (by kernel_rfl)) (enters_of_all f63.enters) ((f63.shape Z x0 w Q).mpr h)

/-! ### 64: lagoon/lagoonref00.CopyIds -/
def f64.sh (Z : List PanicEntry → World → Prop) (x0 : Value) (w : World) (Q : Value → World → Prop) : Prop :=
  ∃ J_1 : Nat → Value → Value → World → Prop, (∃ m, J_1 m (Value.slice none 0 0) (Value.int IntKind.i64 0) w) ∧
    ∀ m_1, ∀ t3_2 : Value, ∀ t4_3 : Value, ∀ w : World, J_1 m_1 t3_2 t4_3 w → Env →
      run1 Tryz.prog Z (Builtin.len_ #[44] 3 #[x0]) w fun t7_4 w =>
      run1 Tryz.prog Z (binOp BinOp.lss 3 t4_3 t7_4) w fun t8_5 w =>
      CondV t8_5 (
        run1 Tryz.prog Z (Instr.indexAt 44 x0 t4_3) w fun t14_6 w =>
        run1 Tryz.prog Z (Instr.loadAt 97 t14_6) w fun t15_7 w =>
        run1 Tryz.prog Z (Instr.buildSlice 44 1 #[(0, t15_7)]) w fun t16_8 w =>
        run1 Tryz.prog Z (Builtin.append_ #[44, 44] 44 #[t3_2, t16_8]) w fun t17_9 w =>
        run1 Tryz.prog Z (binOp BinOp.add 3 t4_3 (Value.int IntKind.i64 1)) w fun t10_10 w =>
        ∃ n_1, n_1 < m_1 ∧ J_1 n_1 t17_9 t10_10 w) (
        Q t3_2 w)
noncomputable def f64.code : Code := match Tryz.f64.body with | some c => c | none => .skip
def f64.an : An := (.sq .leaf (.sq .leaf (.sq (.sq .leaf (.bl (.lp [3, 4] [3, 4, 5, 6, 7, 8, 9, 10, 11, 12, 13, 14, 15, 16, 17] (.sq (.sq .leaf (.cn .leaf .leaf)) (.sq (.bl .leaf) .leaf))))) (.sq .leaf .leaf))))
theorem f64.body_eq : Tryz.f64.body = some f64.code := by kernel_rfl
theorem f64.shape (Z : List PanicEntry → World → Prop) (x0 : Value) (w : World) (Q : Value → World → Prop) : vc drawD Tryz.prog 19 Z [] f64.an f64.code (fnQ Tryz.prog 19 Tryz.f64.results Q) (argEnv [x0]) w = f64.sh Z x0 w Q := by kernel_rfl
theorem f64.enters : ∀ f, f ∈ ([] : List Nat) → Enters Tryz.prog f := by
  intro f hf
  cases hf
theorem f64.calls {Z : List PanicEntry → World → Prop} {x0 : Value} {w : World} {Q : Value → World → Prop} (h : f64.sh Z x0 w Q) : CallV Tryz.prog Z 64 #[x0] w Q :=
  calls_of_vcn drawD_sound (Q := Q) (n := 19) (rs := Tryz.f64.results) (an := f64.an) (c := f64.code) (cal := []) (args := [x0]) Tryz.func64 (by kernel_rfl) rfl f64.body_eq follows (Nat.le_of_ble_eq_true (by kernel_rfl)) (enters_of_all f64.enters) ((f64.shape Z x0 w Q).mpr h)

/-! ### 65: cmp.isNaN[uint32] -/
def f65.sh (Z : List PanicEntry → World → Prop) (x0 : Value) (w : World) (Q : Value → World → Prop) : Prop :=
  run1 Tryz.prog Z (eqOp BinOp.neq 22 false false x0 x0) w fun t5_1 w =>
  Q t5_1 w
noncomputable def f65.code : Code := match Tryz.f65.body with | some c => c | none => .skip
def f65.an : An := (.sq .leaf (.sq .leaf .leaf))
theorem f65.body_eq : Tryz.f65.body = some f65.code := by kernel_rfl
theorem f65.shape (Z : List PanicEntry → World → Prop) (x0 : Value) (w : World) (Q : Value → World → Prop) : vc drawD Tryz.prog 6 Z [] f65.an f65.code (fnQ Tryz.prog 6 Tryz.f65.results Q) (argEnv [x0]) w = f65.sh Z x0 w Q := by kernel_rfl
theorem f65.enters : ∀ f, f ∈ ([] : List Nat) → Enters Tryz.prog f := by
  intro f hf
  cases hf
theorem f65.calls {Z : List PanicEntry → World → Prop} {x0 : Value} {w : World} {Q : Value → World → Prop} (h : f65.sh Z x0 w Q) : CallV Tryz.prog Z 65 #[x0] w Q :=
  calls_of_vcn drawD_sound (Q := Q) (n := 6) (rs := Tryz.f65.results) (an := f65.an) (c := f65.code) (cal := []) (args := [x0]) Tryz.func65 (by kernel_rfl) rfl f65.body_eq follows (Nat.le_of_ble_eq_true (by kernel_rfl)) (enters_of_all f65.enters) ((f65.shape Z x0 w Q).mpr h)

/-! ### 66: lagoon/txn.CheckRequest -/
def f66.sh (Z : List PanicEntry → World → Prop) (x0 : Value) (w : World) (Q : Value → World → Prop) : Prop :=
  run1 Tryz.prog Z (Instr.box 47 x0) w fun t1_1 w =>
  run1 Tryz.prog Z (Instr.fieldAt 47 t1_1 0) w fun t5_2 w =>
  run1 Tryz.prog Z (Instr.loadAt 32 t5_2) w fun t6_3 w =>
  CallV Tryz.prog Z 87 #[t6_3] w fun t7_4 w =>
  run1 Tryz.prog Z (Op.unary UnOp.not t7_4) w fun t8_5 w =>
  guardW (t8_5) false (fun k => run1 Tryz.prog Z (Instr.loadAt 47 t1_1) w k) (fun t10_6 w =>
  guardW (t8_5) false (fun k => CallV Tryz.prog Z 88 #[t10_6] w k) (fun t11_7 w =>
  guardW (t8_5) false (fun k => run1 Tryz.prog Z (Op.unary UnOp.not t11_7) w k) (fun t12_8 w =>
  run1 Tryz.prog Z (pickV t8_5 (Value.bool true) t12_8) w fun t13_9 w =>
  CondV t13_9 (
    Q (Value.int IntKind.i64 40) w) (
    run1 Tryz.prog Z (Instr.fieldAt 47 t1_1 10) w fun t14_10 w =>
    run1 Tryz.prog Z (Instr.loadAt 45 t14_10) w fun t15_11 w =>
    run1 Tryz.prog Z (Builtin.len_ #[45] 3 #[t15_11]) w fun t16_12 w =>
    ∃ J_13 : Nat → Value → World → Prop, (∃ m, J_13 m (Value.int IntKind.i64 0) w) ∧
      ∀ m_13, ∀ t17_14 : Value, ∀ w : World, J_13 m_13 t17_14 w → Env →
        run1 Tryz.prog Z (binOp BinOp.lss 3 t17_14 t16_12) w fun t18_15 w =>
        CondV t18_15 (
          run1 Tryz.prog Z (Instr.indexAt 45 t15_11 t17_14) w fun t19_16 w =>
          run1 Tryz.prog Z (Instr.loadAt 47 t19_16) w fun t20_17 w =>
          run1 Tryz.prog Z (Instr.alloc 47 true (.tuple #[])) w fun t4_18 w =>
          run0 Tryz.prog Z (Instr.storeAt 47 t4_18 t20_17) w fun w =>
          run1 Tryz.prog Z (Instr.loadAt 47 t4_18) w fun t21_19 w =>
          CallV Tryz.prog Z 89 #[t21_19] w fun t22_20 w =>
          run1 Tryz.prog Z (Op.unary UnOp.not t22_20) w fun t23_21 w =>
          CondV t23_21 (
            Q (Value.int IntKind.i64 40) w) (
            run1 Tryz.prog Z (binOp BinOp.add 3 t17_14 (Value.int IntKind.i64 1)) w fun t24_22 w =>
            ∃ n_13, n_13 < m_13 ∧ J_13 n_13 t24_22 w)) (
          Q (Value.int IntKind.i64 0) w))) w) w) w
noncomputable def f66.code : Code := match Tryz.f66.body with | some c => c | none => .skip
def f66.an : An := (.sq .leaf (.sq (.sq .leaf (.cn (.sq .leaf .leaf) .leaf)) (.sq (.sq .leaf (.bl (.lp [17] [2, 4, 17, 18, 19, 20, 21, 22, 23, 24] (.sq .leaf (.sq (.cn .leaf .leaf) (.sq (.bl (.sq .leaf (.sq .leaf (.cn (.sq .leaf .leaf) .leaf)))) .leaf)))))) (.sq .leaf .leaf))))
theorem f66.body_eq : Tryz.f66.body = some f66.code := by kernel_rfl
theorem f66.shape (Z : List PanicEntry → World → Prop) (x0 : Value) (w : World) (Q : Value → World → Prop) : vc drawD Tryz.prog 25 Z [87, 88, 89] f66.an f66.code (fnQ Tryz.prog 25 Tryz.f66.results Q) (argEnv [x0]) w = f66.sh Z x0 w Q := by kernel_rfl
theorem f66.enters : ∀ f, f ∈ ([87, 88, 89] : List Nat) → Enters Tryz.prog f := by
  intro f hf
  simp only [List.mem_cons, List.not_mem_nil, or_false] at hf
  rcases hf with rfl | rfl | rfl
  · exact en87
  · exact en88
  · exact en89
theorem f66.calls {Z : List PanicEntry → World → Prop} {x0 : Value} {w : World} {Q : Value → World → Prop} (h : f66.sh Z x0 w Q) : CallV Tryz.prog Z 66 #[x0] w Q :=
  calls_of_vcn drawD_sound (Q := Q) (n := 25) (rs := Tryz.f66.results) (an := f66.an) (c := f66.code) (cal := [87, 88, 89]) (args := [x0]) Tryz.func66 (by kernel_rfl) rfl f66.body_eq follows (Nat.le_of_ble_eq_true (by kernel_rfl)) (enters_of_all f66.enters) ((f66.shape Z x0 w Q).mpr h)

/-! ### 67: (*lagoon/pack.Writer).whole -/
def f67.sh (Z : List PanicEntry → World → Prop) (x0 x1 x2 : Value) (w : World) (Q : Value → World → Prop) : Prop :=
  run1 Tryz.prog Z (eqOp BinOp.eql 74 false true x0 (Value.pointer none)) w fun t8_1 w =>
  CondV t8_1 (
    Q (Value.tuple #[]) w) (
    run1 Tryz.prog Z (binOp BinOp.sub 3 x2 (Value.int IntKind.i64 1)) w fun t10_2 w =>
    ∃ J_3 : Nat → Value → World → Prop, (∃ m, J_3 m t10_2 w) ∧
      ∀ m_3, ∀ t6_4 : Value, ∀ w : World, J_3 m_3 t6_4 w → Env →
        run1 Tryz.prog Z (binOp BinOp.geq 3 t6_4 (Value.int IntKind.i64 0)) w fun t12_5 w =>
        CondV t12_5 (
          Drawn w fun w =>
          PureV Tryz.prog (nilChk x0) fun t17_6 =>
          Pure1 Tryz.prog (Instr.fieldAt 76 t17_6 0) fun t18_7 =>
          Read1 Tryz.prog (Instr.loadAt 42 t18_7) w fun t19_8 =>
          Pure1 Tryz.prog (binOp BinOp.mul 3 (Value.int IntKind.i64 8) t6_4) fun t22_9 =>
          Pure1 Tryz.prog (binOp BinOp.shr 105 x1 t22_9) fun t23_10 =>
          Pure1 Tryz.prog (convert 105 5 t23_10) fun t24_11 =>
          run1 Tryz.prog Z (Instr.buildSlice 42 1 #[(0, t24_11)]) w fun t25_12 w =>
            Still Tryz.prog (nx (Instr.loadAt 42 t18_7)) t19_8 w <|
          run1 Tryz.prog Z (Builtin.append_ #[42, 42] 42 #[t19_8, t25_12]) w fun t26_13 w =>
          PureV Tryz.prog (nilChk x0) fun t27_14 =>
          Pure1 Tryz.prog (Instr.fieldAt 76 t27_14 0) fun t28_15 =>
          run0 Tryz.prog Z (Instr.storeAt 42 t28_15 t26_13) w fun w =>
          run1 Tryz.prog Z (binOp BinOp.sub 3 t6_4 (Value.int IntKind.i64 1)) w fun t14_16 w =>
          ∃ n_3, n_3 < m_3 ∧ J_3 n_3 t14_16 w) (
          Q (Value.tuple #[]) w))
noncomputable def f67.code : Code := match Tryz.f67.body with | some c => c | none => .skip
def f67.an : An := (.sq (.sq .leaf (.cn .leaf .leaf)) (.sq .leaf (.bl (.lp [6] [6, 11, 12, 13, 14, 15, 16, 17, 18, 19, 20, 21, 22, 23, 24, 25, 26, 27, 28] (.sq (.sq .leaf (.cn .leaf .leaf)) (.sq (.bl (.dr (.take 0 false (.take 1 false (.take 2 false (.take 3 false (.take 4 true (.take 5 false (.take 6 false (.take 7 false (.take 8 false (.take 9 false (.one 10 (.one 11 (.take 12 false (.take 13 false (.one 14 .fin))))))))))))))))) .leaf))))))
theorem f67.body_eq : Tryz.f67.body = some f67.code := by kernel_rfl
theorem f67.shape (Z : List PanicEntry → World → Prop) (x0 x1 x2 : Value) (w : World) (Q : Value → World → Prop) : vc drawD Tryz.prog 29 Z [] f67.an f67.code (fnQ Tryz.prog 29 Tryz.f67.results Q) (argEnv [x0, x1, x2]) w = f67.sh Z x0 x1 x2 w Q := by kernel_rfl
theorem f67.enters : ∀ f, f ∈ ([] : List Nat) → Enters Tryz.prog f := by
  intro f hf
  cases hf
theorem f67.calls {Z : List PanicEntry → World → Prop} {x0 x1 x2 : Value} {w : World} {Q : Value → World → Prop} (h : f67.sh Z x0 x1 x2 w Q) : CallV Tryz.prog Z 67 #[x0, x1, x2] w Q :=
  calls_of_vcn drawD_sound (Q := Q) (n := 29) (rs := Tryz.f67.results) (an := f67.an) (c := f67.code) (cal := []) (args := [x0, x1, x2]) Tryz.func67 (by kernel_rfl) rfl f67.body_eq follows (Nat.le_of_ble_eq_true (by kernel_rfl)) (enters_of_all f67.enters) ((f67.shape Z x0 x1 x2 w Q).mpr h)

/-! ### 68: (lagoon/txn.layer).fields -/
def f68.sh (Z : List PanicEntry → World → Prop) (x0 x1 : Value) (w : World) (Q : Value → World → Prop) : Prop :=
  run1 Tryz.prog Z (Instr.box 81 x0) w fun t2_1 w =>
  run1 Tryz.prog Z (Instr.fieldAt 81 t2_1 0) w fun t5_2 w =>
  run1 Tryz.prog Z (Instr.loadAt 4 t5_2) w fun t6_3 w =>
  CondV t6_3 (
    run1 Tryz.prog Z (Instr.indexAt 124 (Value.pointer (some ⟨0, 0, none⟩)) x1) w fun t8_4 w =>
    run1 Tryz.prog Z (Instr.loadAt 106 t8_4) w fun t9_5 w =>
    run1 Tryz.prog Z (binOp BinOp.andNot 106 t9_5 (Value.int IntKind.u64 160)) w fun t10_6 w =>
    Q t10_6 w) (
    run1 Tryz.prog Z (Instr.indexAt 124 (Value.pointer (some ⟨0, 0, none⟩)) x1) w fun t12_7 w =>
    run1 Tryz.prog Z (Instr.loadAt 106 t12_7) w fun t13_8 w =>
    Q t13_8 w)
noncomputable def f68.code : Code := match Tryz.f68.body with | some c => c | none => .skip
def f68.an : An := (.sq .leaf (.sq (.sq .leaf (.cn (.sq .leaf .leaf) .leaf)) (.sq .leaf .leaf)))
theorem f68.body_eq : Tryz.f68.body = some f68.code := by kernel_rfl
theorem f68.shape (Z : List PanicEntry → World → Prop) (x0 x1 : Value) (w : World) (Q : Value → World → Prop) : vc drawD Tryz.prog 14 Z [] f68.an f68.code (fnQ Tryz.prog 14 Tryz.f68.results Q) (argEnv [x0, x1]) w = f68.sh Z x0 x1 w Q := by kernel_rfl
theorem f68.enters : ∀ f, f ∈ ([] : List Nat) → Enters Tryz.prog f := by
  intro f hf
  cases hf
theorem f68.calls {Z : List PanicEntry → World → Prop} {x0 x1 : Value} {w : World} {Q : Value → World → Prop} (h : f68.sh Z x0 x1 w Q) : CallV Tryz.prog Z 68 #[x0, x1] w Q :=
  calls_of_vcn drawD_sound (Q := Q) (n := 14) (rs := Tryz.f68.results) (an := f68.an) (c := f68.code) (cal := []) (args := [x0, x1]) Tryz.func68 (by kernel_rfl) rfl f68.body_eq follows (Nat.le_of_ble_eq_true (by kernel_rfl)) (enters_of_all f68.enters) ((f68.shape Z x0 x1 w Q).mpr h)

/-! ### 69: (*lagoon/pack.Writer).Text -/
def f69.sh (Z : List PanicEntry → World → Prop) (x0 x1 : Value) (w : World) (Q : Value → World → Prop) : Prop :=
  run1 Tryz.prog Z (eqOp BinOp.eql 74 false true x0 (Value.pointer none)) w fun t5_1 w =>
  CondV t5_1 (
    Q (Value.tuple #[]) w) (
    run1 Tryz.prog Z (Builtin.len_ #[9] 3 #[x1]) w fun t8_2 w =>
    run1 Tryz.prog Z (convert 3 21 t8_2) w fun t9_3 w =>
    CallV Tryz.prog Z 73 #[x0, t9_3] w fun t10_4 w =>
    runX Tryz.prog Z (nilChk x0) w fun t13_5 w =>
    run1 Tryz.prog Z (Instr.fieldAt 76 t13_5 0) w fun t14_6 w =>
    run1 Tryz.prog Z (Instr.loadAt 42 t14_6) w fun t15_7 w =>
    run1 Tryz.prog Z (Builtin.append_ #[42, 9] 42 #[t15_7, x1]) w fun t17_8 w =>
    runX Tryz.prog Z (nilChk x0) w fun t18_9 w =>
    run1 Tryz.prog Z (Instr.fieldAt 76 t18_9 0) w fun t19_10 w =>
    run0 Tryz.prog Z (Instr.storeAt 42 t19_10 t17_8) w fun w =>
    Q (Value.tuple #[]) w)
noncomputable def f69.code : Code := match Tryz.f69.body with | some c => c | none => .skip
def f69.an : An := (.sq (.sq .leaf (.cn .leaf .leaf)) (.sq .leaf .leaf))
theorem f69.body_eq : Tryz.f69.body = some f69.code := by kernel_rfl
theorem f69.shape (Z : List PanicEntry → World → Prop) (x0 x1 : Value) (w : World) (Q : Value → World → Prop) : vc drawD Tryz.prog 20 Z [73] f69.an f69.code (fnQ Tryz.prog 20 Tryz.f69.results Q) (argEnv [x0, x1]) w = f69.sh Z x0 x1 w Q := by kernel_rfl
theorem f69.enters : ∀ f, f ∈ ([73] : List Nat) → Enters Tryz.prog f := by
  intro f hf
  simp only [List.mem_cons, List.not_mem_nil, or_false] at hf
  rcases hf with rfl
  · exact en73
theorem f69.calls {Z : List PanicEntry → World → Prop} {x0 x1 : Value} {w : World} {Q : Value → World → Prop} (h : f69.sh Z x0 x1 w Q) : CallV Tryz.prog Z 69 #[x0, x1] w Q :=
  calls_of_vcn drawD_sound (Q := Q) (n := 20) (rs := Tryz.f69.results) (an := f69.an) (c := f69.code) (cal := [73]) (args := [x0, x1]) Tryz.func69 (by kernel_rfl) rfl f69.body_eq follows (Nat.le_of_ble_eq_true (by kernel_rfl)) (enters_of_all f69.enters) ((f69.shape Z x0 x1 w Q).mpr h)

/-! ### 70: (*lagoon/pack.Writer).Buffer -/
def f70.sh (Z : List PanicEntry → World → Prop) (x0 x1 : Value) (w : World) (Q : Value → World → Prop) : Prop :=
  run1 Tryz.prog Z (eqOp BinOp.eql 74 false true x0 (Value.pointer none)) w fun t5_1 w =>
  CondV t5_1 (
    Q (Value.tuple #[]) w) (
    run1 Tryz.prog Z (Builtin.len_ #[42] 3 #[x1]) w fun t8_2 w =>
    run1 Tryz.prog Z (convert 3 21 t8_2) w fun t9_3 w =>
    CallV Tryz.prog Z 73 #[x0, t9_3] w fun t10_4 w =>
    CallV Tryz.prog Z 90 #[x0, x1] w fun t13_5 w =>
    Q (Value.tuple #[]) w)
noncomputable def f70.code : Code := match Tryz.f70.body with | some c => c | none => .skip
def f70.an : An := (.sq (.sq .leaf (.cn .leaf .leaf)) (.sq .leaf .leaf))
theorem f70.body_eq : Tryz.f70.body = some f70.code := by kernel_rfl
theorem f70.shape (Z : List PanicEntry → World → Prop) (x0 x1 : Value) (w : World) (Q : Value → World → Prop) : vc drawD Tryz.prog 14 Z [73, 90] f70.an f70.code (fnQ Tryz.prog 14 Tryz.f70.results Q) (argEnv [x0, x1]) w = f70.sh Z x0 x1 w Q := by kernel_rfl
theorem f70.enters : ∀ f, f ∈ ([73, 90] : List Nat) → Enters Tryz.prog f := by
  intro f hf
  simp only [List.mem_cons, List.not_mem_nil, or_false] at hf
  rcases hf with rfl | rfl
  · exact en73
  · exact en90
theorem f70.calls {Z : List PanicEntry → World → Prop} {x0 x1 : Value} {w : World} {Q : Value → World → Prop} (h : f70.sh Z x0 x1 w Q) : CallV Tryz.prog Z 70 #[x0, x1] w Q :=
  calls_of_vcn drawD_sound (Q := Q) (n := 14) (rs := Tryz.f70.results) (an := f70.an) (c := f70.code) (cal := [73, 90]) (args := [x0, x1]) Tryz.func70 (by kernel_rfl) rfl f70.body_eq follows (Nat.le_of_ble_eq_true (by kernel_rfl)) (enters_of_all f70.enters) ((f70.shape Z x0 x1 w Q).mpr h)

/-! ### 71: lagoon/pack.PutList[lagoon/api.Entry] -/
def f71.sh (Z : List PanicEntry → World → Prop) (x0 x1 x2 : Value) (w : World) (Q : Value → World → Prop) : Prop :=
  run1 Tryz.prog Z (eqOp BinOp.eql 74 false true x0 (Value.pointer none)) w fun t9_1 w =>
  CondV t9_1 (
    Q (Value.tuple #[]) w) (
    run1 Tryz.prog Z (Builtin.len_ #[43] 3 #[x1]) w fun t12_2 w =>
    run1 Tryz.prog Z (convert 3 21 t12_2) w fun t13_3 w =>
    CallV Tryz.prog Z 73 #[x0, t13_3] w fun t14_4 w =>
    run1 Tryz.prog Z (eqOp BinOp.eql 111 false true x2 Value.nilFunc) w fun t16_5 w =>
    CondV t16_5 (
      Q (Value.tuple #[]) w) (
      run1 Tryz.prog Z (Builtin.len_ #[43] 3 #[x1]) w fun t18_6 w =>
      ∃ J_7 : Nat → Value → World → Prop, (∃ m, J_7 m (Value.int IntKind.i64 0) w) ∧
        ∀ m_7, ∀ t19_8 : Value, ∀ w : World, J_7 m_7 t19_8 w → Env →
          run1 Tryz.prog Z (binOp BinOp.lss 3 t19_8 t18_6) w fun t20_9 w =>
          CondV t20_9 (
            run1 Tryz.prog Z (Instr.indexAt 43 x1 t19_8) w fun t21_10 w =>
            run1 Tryz.prog Z (Instr.loadAt 99 t21_10) w fun t22_11 w =>
            run1 Tryz.prog Z (Instr.alloc 99 true (.tuple #[])) w fun t7_12 w =>
            run0 Tryz.prog Z (Instr.storeAt 99 t7_12 t22_11) w fun w =>
            run1 Tryz.prog Z (Instr.loadAt 99 t7_12) w fun t25_13 w =>
            runX Tryz.prog Z (callVal x2 #[x0, t25_13]) w fun t26_14 w =>
            run1 Tryz.prog Z (binOp BinOp.add 3 t19_8 (Value.int IntKind.i64 1)) w fun t27_15 w =>
            ∃ n_7, n_7 < m_7 ∧ J_7 n_7 t27_15 w) (
            Q (Value.tuple #[]) w)))
noncomputable def f71.code : Code := match Tryz.f71.body with | some c => c | none => .skip
def f71.an : An := (.sq (.sq .leaf (.cn .leaf .leaf)) (.sq .leaf (.sq (.sq .leaf (.cn .leaf .leaf)) (.sq .leaf (.bl (.lp [19] [7, 19, 20, 21, 22, 23, 24, 25, 26, 27] (.sq .leaf (.sq (.cn .leaf .leaf) (.sq (.bl (.sq .leaf .leaf)) .leaf)))))))))
theorem f71.body_eq : Tryz.f71.body = some f71.code := by kernel_rfl
theorem f71.shape (Z : List PanicEntry → World → Prop) (x0 x1 x2 : Value) (w : World) (Q : Value → World → Prop) : vc drawD Tryz.prog 28 Z [73] f71.an f71.code (fnQ Tryz.prog 28 Tryz.f71.results Q) (argEnv [x0, x1, x2]) w = f71.sh Z x0 x1 x2 w Q := by kernel_rfl
theorem f71.enters : ∀ f, f ∈ ([73] : List Nat) → Enters Tryz.prog f := by
  intro f hf
  simp only [List.mem_cons, List.not_mem_nil, or_false] at hf
  rcases hf with rfl
  · exact en73
theorem f71.calls {Z : List PanicEntry → World → Prop} {x0 x1 x2 : Value} {w : World} {Q : Value → World → Prop} (h : f71.sh Z x0 x1 x2 w Q) : CallV Tryz.prog Z 71 #[x0, x1, x2] w Q :=
  calls_of_vcn drawD_sound (Q := Q) (n := 28) (rs := Tryz.f71.results) (an := f71.an) (c := f71.code) (cal := [73]) (args := [x0, x1, x2]) Tryz.func71 (by kernel_rfl) rfl f71.body_eq follows (Nat.le_of_ble_eq_true (by kernel_rfl)) (enters_of_all f71.enters) ((f71.shape Z x0 x1 x2 w Q).mpr h)

/-! ### 72: lagoon/txn.putEntry -/
def f72.sh (Z : List PanicEntry → World → Prop) (x0 x1 : Value) (w : World) (Q : Value → World → Prop) : Prop :=
  run1 Tryz.prog Z (Instr.box 99 x1) w fun t3_1 w =>
  run1 Tryz.prog Z (Instr.fieldAt 99 t3_1 0) w fun t5_2 w =>
  run1 Tryz.prog Z (Instr.loadAt 32 t5_2) w fun t6_3 w =>
  CallV Tryz.prog Z 44 #[x0, t6_3] w fun t7_4 w =>
  run1 Tryz.prog Z (Instr.fieldAt 99 t3_1 1) w fun t9_5 w =>
  run1 Tryz.prog Z (Instr.loadAt 97 t9_5) w fun t10_6 w =>
  CallV Tryz.prog Z 76 #[x0, t10_6] w fun t11_7 w =>
  Q (Value.tuple #[]) w
noncomputable def f72.code : Code := match Tryz.f72.body with | some c => c | none => .skip
def f72.an : An := (.sq .leaf (.sq .leaf .leaf))
theorem f72.body_eq : Tryz.f72.body = some f72.code := by kernel_rfl
theorem f72.shape (Z : List PanicEntry → World → Prop) (x0 x1 : Value) (w : World) (Q : Value → World → Prop) : vc drawD Tryz.prog 12 Z [44, 76] f72.an f72.code (fnQ Tryz.prog 12 Tryz.f72.results Q) (argEnv [x0, x1]) w = f72.sh Z x0 x1 w Q := by kernel_rfl
theorem f72.enters : ∀ f, f ∈ ([44, 76] : List Nat) → Enters Tryz.prog f := by
  intro f hf
  simp only [List.mem_cons, List.not_mem_nil, or_false] at hf
  rcases hf with rfl | rfl
  · exact en44
  · exact en76
theorem f72.calls {Z : List PanicEntry → World → Prop} {x0 x1 : Value} {w : World} {Q : Value → World → Prop} (h : f72.sh Z x0 x1 w Q) : CallV Tryz.prog Z 72 #[x0, x1] w Q :=
  calls_of_vcn drawD_sound (Q := Q) (n := 12) (rs := Tryz.f72.results) (an := f72.an) (c := f72.code) (cal := [44, 76]) (args := [x0, x1]) Tryz.func72 (by kernel_rfl) rfl f72.body_eq follows (Nat.le_of_ble_eq_true (by kernel_rfl)) (enters_of_all f72.enters) ((f72.shape Z x0 x1 w Q).mpr h)

/-! ### 73: (*lagoon/pack.Writer).Int32 -/
def f73.sh (Z : List PanicEntry → World → Prop) (x0 x1 : Value) (w : World) (Q : Value → World → Prop) : Prop :=
  run1 Tryz.prog Z (convert 21 105 x1) w fun t6_1 w =>
  CallV Tryz.prog Z 67 #[x0, t6_1, (Value.int IntKind.i64 4)] w fun t7_2 w =>
  Q (Value.tuple #[]) w
noncomputable def f73.code : Code := match Tryz.f73.body with | some c => c | none => .skip
def f73.an : An := .leaf
theorem f73.body_eq : Tryz.f73.body = some f73.code := by kernel_rfl
theorem f73.shape (Z : List PanicEntry → World → Prop) (x0 x1 : Value) (w : World) (Q : Value → World → Prop) : vc drawD Tryz.prog 8 Z [67] f73.an f73.code (fnQ Tryz.prog 8 Tryz.f73.results Q) (argEnv [x0, x1]) w = f73.sh Z x0 x1 w Q := by kernel_rfl
theorem f73.enters : ∀ f, f ∈ ([67] : List Nat) → Enters Tryz.prog f := by
  intro f hf
  simp only [List.mem_cons, List.not_mem_nil, or_false] at hf
  rcases hf with rfl
  · exact en67
theorem f73.calls {Z : List PanicEntry → World → Prop} {x0 x1 : Value} {w : World} {Q : Value → World → Prop} (h : f73.sh Z x0 x1 w Q) : CallV Tryz.prog Z 73 #[x0, x1] w Q :=
  calls_of_vcn drawD_sound (Q := Q) (n := 8) (rs := Tryz.f73.results) (an := f73.an) (c := f73.code) (cal := [67]) (args := [x0, x1]) Tryz.func73 (by kernel_rfl) rfl f73.body_eq follows (Nat.le_of_ble_eq_true (by kernel_rfl)) (enters_of_all f73.enters) ((f73.shape Z x0 x1 w Q).mpr h)

/-! ### 74: (*lagoon/pack.Writer).Bool -/
def f74.sh (Z : List PanicEntry → World → Prop) (x0 x1 : Value) (w : World) (Q : Value → World → Prop) : Prop :=
  ∀ j_1 : Value → World → Prop, (∀ t4_2 : Value, ∀ w : World, (Env →
      CallV Tryz.prog Z 67 #[x0, t4_2, (Value.int IntKind.i64 1)] w fun t8_3 w =>
      Q (Value.tuple #[]) w) →
      j_1 t4_2 w) →
  CondV x1 (
    j_1 (Value.int IntKind.u64 1) w) (
    j_1 (Value.int IntKind.u64 0) w)
noncomputable def f74.code : Code := match Tryz.f74.body with | some c => c | none => .skip
def f74.an : An := (.sq .leaf (.sj [4] [4, 5] (.sq .leaf (.cn .leaf .leaf)) .leaf))
theorem f74.body_eq : Tryz.f74.body = some f74.code := by kernel_rfl
theorem f74.shape (Z : List PanicEntry → World → Prop) (x0 x1 : Value) (w : World) (Q : Value → World → Prop) : vc drawD Tryz.prog 9 Z [67] f74.an f74.code (fnQ Tryz.prog 9 Tryz.f74.results Q) (argEnv [x0, x1]) w = f74.sh Z x0 x1 w Q := by kernel_rfl
theorem f74.enters : ∀ f, f ∈ ([67] : List Nat) → Enters Tryz.prog f := by
  intro f hf
  simp only [List.mem_cons, List.not_mem_nil, or_false] at hf
  rcases hf with rfl
  · exact en67
theorem f74.calls {Z : List PanicEntry → World → Prop} {x0 x1 : Value} {w : World} {Q : Value → World → Prop} (h : f74.sh Z x0 x1 w Q) : CallV Tryz.prog Z 74 #[x0, x1] w Q :=
  calls_of_vcn drawD_sound (Q := Q) (n := 9) (rs := Tryz.f74.results) (an := f74.an) (c := f74.code) (cal := [67]) (args := [x0, x1]) Tryz.func74 (by kernel_rfl) rfl f74.body_eq follows (Nat.le_of_ble_eq_true (by kernel_rfl)) (enters_of_all f74.enters) ((f74.shape Z x0 x1 w Q).mpr h)

/-! ### 75: lagoon/pack.PutList[lagoon/api.Id] -/
def f75.sh (Z : List PanicEntry → World → Prop) (x0 x1 x2 : Value) (w : World) (Q : Value → World → Prop) : Prop :=
  run1 Tryz.prog Z (eqOp BinOp.eql 74 false true x0 (Value.pointer none)) w fun t9_1 w =>
  CondV t9_1 (
    Q (Value.tuple #[]) w) (
    run1 Tryz.prog Z (Builtin.len_ #[44] 3 #[x1]) w fun t12_2 w =>
    run1 Tryz.prog Z (convert 3 21 t12_2) w fun t13_3 w =>
    CallV Tryz.prog Z 73 #[x0, t13_3] w fun t14_4 w =>
    run1 Tryz.prog Z (eqOp BinOp.eql 115 false true x2 Value.nilFunc) w fun t16_5 w =>
    CondV t16_5 (
      Q (Value.tuple #[]) w) (
      run1 Tryz.prog Z (Builtin.len_ #[44] 3 #[x1]) w fun t18_6 w =>
      ∃ J_7 : Nat → Value → World → Prop, (∃ m, J_7 m (Value.int IntKind.i64 0) w) ∧
        ∀ m_7, ∀ t19_8 : Value, ∀ w : World, J_7 m_7 t19_8 w → Env →
          run1 Tryz.prog Z (binOp BinOp.lss 3 t19_8 t18_6) w fun t20_9 w =>
          CondV t20_9 (
            run1 Tryz.prog Z (Instr.indexAt 44 x1 t19_8) w fun t21_10 w =>
            run1 Tryz.prog Z (Instr.loadAt 97 t21_10) w fun t22_11 w =>
            run1 Tryz.prog Z (Instr.alloc 97 true (.tuple #[])) w fun t7_12 w =>
            run0 Tryz.prog Z (Instr.storeAt 97 t7_12 t22_11) w fun w =>
            run1 Tryz.prog Z (Instr.loadAt 97 t7_12) w fun t25_13 w =>
            runX Tryz.prog Z (callVal x2 #[x0, t25_13]) w fun t26_14 w =>
            run1 Tryz.prog Z (binOp BinOp.add 3 t19_8 (Value.int IntKind.i64 1)) w fun t27_15 w =>
            ∃ n_7, n_7 < m_7 ∧ J_7 n_7 t27_15 w) (
            Q (Value.tuple #[]) w)))
noncomputable def f75.code : Code := match Tryz.f75.body with | some c => c | none => .skip
def f75.an : An := (.sq (.sq .leaf (.cn .leaf .leaf)) (.sq .leaf (.sq (.sq .leaf (.cn .leaf .leaf)) (.sq .leaf (.bl (.lp [19] [7, 19, 20, 21, 22, 23, 24, 25, 26, 27] (.sq .leaf (.sq (.cn .leaf .leaf) (.sq (.bl (.sq .leaf .leaf)) .leaf)))))))))
theorem f75.body_eq : Tryz.f75.body = some f75.code := by kernel_rfl
theorem f75.shape (Z : List PanicEntry → World → Prop) (x0 x1 x2 : Value) (w : World) (Q : Value → World → Prop) : vc drawD Tryz.prog 28 Z [73] f75.an f75.code (fnQ Tryz.prog 28 Tryz.f75.results Q) (argEnv [x0, x1, x2]) w = f75.sh Z x0 x1 x2 w Q := by kernel_rfl
theorem f75.enters : ∀ f, f ∈ ([73] : List Nat) → Enters Tryz.prog f := by
  intro f hf
  simp only [List.mem_cons, List.not_mem_nil, or_false] at hf
  rcases hf with rfl
  · exact en73
theorem f75.calls {Z : List PanicEntry → World → Prop} {x0 x1 x2 : Value} {w : World} {Q : Value → World → Prop} (h : f75.sh Z x0 x1 x2 w Q) : CallV Tryz.prog Z 75 #[x0, x1, x2] w Q :=
  calls_of_vcn drawD_sound (Q := Q) (n := 28) (rs := Tryz.f75.results) (an := f75.an) (c := f75.code) (cal := [73]) (args := [x0, x1, x2]) Tryz.func75 (by kernel_rfl) rfl f75.body_eq follows (Nat.le_of_ble_eq_true (by kernel_rfl)) (enters_of_all f75.enters) ((f75.shape Z x0 x1 x2 w Q).mpr h)

end Go.Proofs.YtoeamecdkimgaaaGreatDoor
