import Derived.Test.YtklojohafbmonaaDoorShBase
set_option linter.unusedVariables false
namespace Go.Proofs.YtklojohafbmonaaDoor
open Go.Sh
/-! ### 3: lagoon/lagoonlaw01.PackNoPut -/
def f3.sh (Z : List PanicEntry → World → Prop) (x0 x1 : Value) (w : World) (Q : Value → World → Prop) : Prop :=
  CallV Tryd.prog Z 5 #[] w fun t14_1 w =>
  run1 Tryd.prog Z (Builtin.len_ #[22] 3 #[x0]) w fun t16_2 w =>
  run1 Tryd.prog Z (binOp BinOp.gtr 3 t16_2 (Value.int IntKind.i64 4194304)) w fun t17_3 w =>
  CondV t17_3 (
    Q t14_1 w) (
    run1 Tryd.prog Z (Instr.build 27 #[]) w fun t19_4 w =>
    run1 Tryd.prog Z (Instr.box 27 t19_4) w fun t20_5 w =>
    CallV Tryd.prog Z 7 #[x0] w fun t23_6 w =>
    CallV Tryd.prog Z 6 #[t20_5, t23_6, Value.nilFunc] w fun t24_7 w =>
    run1 Tryd.prog Z (Builtin.len_ #[22] 3 #[x0]) w fun t26_8 w =>
    run1 Tryd.prog Z (convert 3 21 t26_8) w fun t27_9 w =>
    CallV Tryd.prog Z 8 #[t27_9] w fun t28_10 w =>
    CallV Tryd.prog Z 6 #[(Value.pointer none), x0, Value.nilFunc] w fun t31_11 w =>
    run1 Tryd.prog Z (Builtin.len_ #[22] 3 #[x0]) w fun t34_12 w =>
    run1 Tryd.prog Z (Instr.makeSlice 25 t34_12 t34_12) w fun t35_13 w =>
    CallV Tryd.prog Z 10 #[t28_10, t35_13] w fun t36_14 w =>
    CallV Tryd.prog Z 9 #[t36_14] w fun t37_15 w =>
    run1 Tryd.prog Z (eqOp BinOp.eql 31 false true t37_15 (Value.pointer none)) w fun t39_16 w =>
    CondV t39_16 (
      Q (Value.bool false) w) (
      CallV Tryd.prog Z 11 #[t37_15, x1, Value.nilFunc] w fun t42_17 w =>
      run1 Tryd.prog Z (Builtin.len_ #[22] 3 #[x0]) w fun t45_18 w =>
      run1 Tryd.prog Z (binOp BinOp.lss 3 x1 t45_18) w fun t46_19 w =>
      CondV t46_19 (
        guardW (t14_1) true (fun k => k (t42_17) w) (fun t49_20 w =>
        guardW (t14_1) true (fun k => run1 Tryd.prog Z (Builtin.len_ #[34] 3 #[t49_20]) w k) (fun t50_21 w =>
        guardW (t14_1) true (fun k => run1 Tryd.prog Z (eqOp BinOp.eql 3 false true t50_21 (Value.int IntKind.i64 0)) w k) (fun t51_22 w =>
        run1 Tryd.prog Z (pickV t14_1 t51_22 (Value.bool false)) w fun t52_23 w =>
        guardW (t52_23) true (fun k => k (t37_15) w) (fun t54_24 w =>
        guardW (t52_23) true (fun k => CallV Tryd.prog Z 12 #[t54_24] w k) (fun t55_25 w =>
        guardW (t52_23) true (fun k => run1 Tryd.prog Z (eqOp BinOp.eql 37 false true t55_25 (Value.int IntKind.i64 11)) w k) (fun t56_26 w =>
        run1 Tryd.prog Z (pickV t52_23 t56_26 (Value.bool false)) w fun t57_27 w =>
        guardW (t57_27) true (fun k => k (t37_15) w) (fun t59_28 w =>
        guardW (t57_27) true (fun k => CallV Tryd.prog Z 13 #[t59_28] w k) (fun t60_29 w =>
        guardW (t57_27) true (fun k => k (x0) w) (fun t61_30 w =>
        guardW (t57_27) true (fun k => run1 Tryd.prog Z (Builtin.len_ #[22] 3 #[t61_30]) w k) (fun t62_31 w =>
        guardW (t57_27) true (fun k => run1 Tryd.prog Z (binOp BinOp.add 3 t62_31 (Value.int IntKind.i64 4)) w k) (fun t63_32 w =>
        guardW (t57_27) true (fun k => run1 Tryd.prog Z (eqOp BinOp.eql 3 false false t60_29 t63_32) w k) (fun t64_33 w =>
        run1 Tryd.prog Z (pickV t57_27 t64_33 (Value.bool false)) w fun t65_34 w =>
        guardW (t65_34) true (fun k => k (t20_5) w) (fun t67_35 w =>
        guardW (t65_34) true (fun k => CallV Tryd.prog Z 15 #[t67_35] w k) (fun t68_36 w =>
        guardW (t65_34) true (fun k => k (t28_10) w) (fun t69_37 w =>
        guardW (t65_34) true (fun k => CallV Tryd.prog Z 14 #[t68_36, t69_37] w k) (fun t70_38 w =>
        run1 Tryd.prog Z (pickV t65_34 t70_38 (Value.bool false)) w fun t71_39 w =>
        Q t71_39 w) w) w) w) w) w) w) w) w) w) w) w) w) w) w) w) w) (
        ∃ J_40 : Nat → Value → World → Prop, (∃ m, J_40 m (Value.int IntKind.i64 0) w) ∧
          ∀ m_40, ∀ t11_41 : Value, ∀ w : World, J_40 m_40 t11_41 w → Env →
            run1 Tryd.prog Z (Builtin.len_ #[34] 3 #[t42_17]) w fun t74_42 w =>
            run1 Tryd.prog Z (binOp BinOp.lss 3 t11_41 t74_42) w fun t75_43 w =>
            CondV t75_43 (
              run1 Tryd.prog Z (Instr.indexAt 34 t42_17 t11_41) w fun t80_44 w =>
              run1 Tryd.prog Z (Instr.loadAt 36 t80_44) w fun t81_45 w =>
              run1 Tryd.prog Z (eqOp BinOp.neq 36 false true t81_45 (Value.int IntKind.i8 0)) w fun t82_46 w =>
              CondV t82_46 (
                Q (Value.bool false) w) (
                run1 Tryd.prog Z (binOp BinOp.add 3 t11_41 (Value.int IntKind.i64 1)) w fun t77_47 w =>
                ∃ n_40, n_40 < m_40 ∧ J_40 n_40 t77_47 w)) (
              CallV Tryd.prog Z 11 #[(Value.pointer none), x1, Value.nilFunc] w fun t85_48 w =>
              guardW (t14_1) true (fun k => k (t42_17) w) (fun t88_49 w =>
              guardW (t14_1) true (fun k => run1 Tryd.prog Z (Builtin.len_ #[34] 3 #[t88_49]) w k) (fun t89_50 w =>
              guardW (t14_1) true (fun k => k (x0) w) (fun t90_51 w =>
              guardW (t14_1) true (fun k => run1 Tryd.prog Z (Builtin.len_ #[22] 3 #[t90_51]) w k) (fun t91_52 w =>
              guardW (t14_1) true (fun k => run1 Tryd.prog Z (eqOp BinOp.eql 3 false false t89_50 t91_52) w k) (fun t92_53 w =>
              run1 Tryd.prog Z (pickV t14_1 t92_53 (Value.bool false)) w fun t93_54 w =>
              guardW (t93_54) true (fun k => k (t37_15) w) (fun t95_55 w =>
              guardW (t93_54) true (fun k => CallV Tryd.prog Z 13 #[t95_55] w k) (fun t96_56 w =>
              guardW (t93_54) true (fun k => k (x0) w) (fun t97_57 w =>
              guardW (t93_54) true (fun k => run1 Tryd.prog Z (Builtin.len_ #[22] 3 #[t97_57]) w k) (fun t98_58 w =>
              guardW (t93_54) true (fun k => run1 Tryd.prog Z (eqOp BinOp.eql 3 false false t96_56 t98_58) w k) (fun t99_59 w =>
              run1 Tryd.prog Z (pickV t93_54 t99_59 (Value.bool false)) w fun t100_60 w =>
              guardW (t100_60) true (fun k => k (t85_48) w) (fun t102_61 w =>
              guardW (t100_60) true (fun k => run1 Tryd.prog Z (Builtin.len_ #[34] 3 #[t102_61]) w k) (fun t103_62 w =>
              guardW (t100_60) true (fun k => run1 Tryd.prog Z (eqOp BinOp.eql 3 false true t103_62 (Value.int IntKind.i64 0)) w k) (fun t104_63 w =>
              run1 Tryd.prog Z (pickV t100_60 t104_63 (Value.bool false)) w fun t105_64 w =>
              guardW (t105_64) true (fun k => k ((Value.pointer none)) w) (fun t107_65 w =>
              guardW (t105_64) true (fun k => CallV Tryd.prog Z 16 #[t107_65] w k) (fun t108_66 w =>
              guardW (t105_64) true (fun k => run1 Tryd.prog Z (eqOp BinOp.eql 3 false true t108_66 (Value.int IntKind.i64 0)) w k) (fun t109_67 w =>
              run1 Tryd.prog Z (pickV t105_64 t109_67 (Value.bool false)) w fun t110_68 w =>
              guardW (t110_68) true (fun k => k (t20_5) w) (fun t112_69 w =>
              guardW (t110_68) true (fun k => CallV Tryd.prog Z 15 #[t112_69] w k) (fun t113_70 w =>
              guardW (t110_68) true (fun k => k (t28_10) w) (fun t114_71 w =>
              guardW (t110_68) true (fun k => CallV Tryd.prog Z 14 #[t113_70, t114_71] w k) (fun t115_72 w =>
              run1 Tryd.prog Z (pickV t110_68 t115_72 (Value.bool false)) w fun t116_73 w =>
              Q t116_73 w) w) w) w) w) w) w) w) w) w) w) w) w) w) w) w) w) w) w) w) w))))
noncomputable def f3.code : Code := match Tryd.f3.body with | some c => c | none => .skip
def f3.an : An := (.sq .leaf (.sq .leaf (.sq (.sq .leaf (.cn (.sq .leaf .leaf) .leaf)) (.sq .leaf (.sq .leaf (.sq .leaf (.sq .leaf (.sq .leaf (.sq .leaf (.sq (.sq .leaf (.cn (.sq .leaf .leaf) .leaf)) (.sq .leaf (.sq (.sq .leaf (.cn (.sq .leaf .leaf) .leaf)) (.sq (.sq .leaf (.bl (.lp [11] [4, 11, 72, 73, 74, 75, 76, 77, 78, 79, 80, 81, 82] (.sq (.sq .leaf (.cn .leaf .leaf)) (.sq (.bl (.sq .leaf (.cn (.sq .leaf .leaf) .leaf))) .leaf))))) (.sq .leaf (.sq .leaf (.sq .leaf .leaf))))))))))))))))
theorem f3.body_eq : Tryd.f3.body = some f3.code := by kernel_rfl
theorem f3.shape (Z : List PanicEntry → World → Prop) (x0 x1 : Value) (w : World) (Q : Value → World → Prop) : vc drawD Tryd.prog 117 Z [5, 7, 6, 8, 10, 9, 11, 12, 13, 15, 14, 16] f3.an f3.code (fnQ Tryd.prog 117 Tryd.f3.results Q) (argEnv [x0, x1]) w = f3.sh Z x0 x1 w Q := by kernel_rfl
theorem f3.enters : ∀ f, f ∈ ([5, 7, 6, 8, 10, 9, 11, 12, 13, 15, 14, 16] : List Nat) → Enters Tryd.prog f := by
  intro f hf
  simp only [List.mem_cons, List.not_mem_nil, or_false] at hf
  rcases hf with rfl | rfl | rfl | rfl | rfl | rfl | rfl | rfl | rfl | rfl | rfl | rfl
  · exact en5
  · exact en7
  · exact en6
  · exact en8
  · exact en10
  · exact en9
  · exact en11
  · exact en12
  · exact en13
  · exact en15
  · exact en14
  · exact en16
theorem f3.calls {Z : List PanicEntry → World → Prop} {x0 x1 : Value} {w : World} {Q : Value → World → Prop} (h : f3.sh Z x0 x1 w Q) : CallV Tryd.prog Z 3 #[x0, x1] w Q :=
  calls_of_vcn drawD_sound (Q := Q) (n := 117) (rs := Tryd.f3.results) (an := f3.an) (c := f3.code) (cal := [5, 7, 6, 8, 10, 9, 11, 12, 13, 15, 14, 16]) (args := [x0, x1]) Tryd.func3 (by kernel_rfl) rfl f3.body_eq follows (Nat.le_of_ble_eq_true (by kernel_rfl)) (enters_of_all f3.enters) ((f3.shape Z x0 x1 w Q).mpr h)

/-! ### 5: lagoon/lagoonlaw01.works -/
def f5.sh (Z : List PanicEntry → World → Prop) (w : World) (Q : Value → World → Prop) : Prop :=
  run1 Tryd.prog Z (Instr.build 27 #[]) w fun t5_1 w =>
  run1 Tryd.prog Z (Instr.box 27 t5_1) w fun t6_2 w =>
  CallV Tryd.prog Z 29 #[t6_2, (Value.int IntKind.i32 (-2))] w fun t8_3 w =>
  run1 Tryd.prog Z (Instr.buildSlice 25 5 #[(0, (Value.int IntKind.u8 255)), (1, (Value.int IntKind.u8 255)), (2, (Value.int IntKind.u8 255)), (3, (Value.int IntKind.u8 254)), (4, (Value.int IntKind.u8 9))]) w fun t9_4 w =>
  CallV Tryd.prog Z 9 #[t9_4] w fun t10_5 w =>
  CallV Tryd.prog Z 30 #[t10_5] w fun t12_6 w =>
  run1 Tryd.prog Z (Instr.buildSlice 25 3 #[(0, (Value.int IntKind.u8 97)), (1, (Value.int IntKind.u8 98)), (2, (Value.int IntKind.u8 99))]) w fun t13_7 w =>
  CallV Tryd.prog Z 31 #[t13_7] w fun t14_8 w =>
  CallV Tryd.prog Z 15 #[t6_2] w fun t16_9 w =>
  run1 Tryd.prog Z (Instr.buildSlice 25 4 #[(0, (Value.int IntKind.u8 255)), (1, (Value.int IntKind.u8 255)), (2, (Value.int IntKind.u8 255)), (3, (Value.int IntKind.u8 254))]) w fun t17_10 w =>
  CallV Tryd.prog Z 14 #[t16_9, t17_10] w fun t18_11 w =>
  guardW (t18_11) true (fun k => k (t12_6) w) (fun t20_12 w =>
  guardW (t18_11) true (fun k => run1 Tryd.prog Z (eqOp BinOp.eql 21 false true t20_12 (Value.int IntKind.i32 (-2))) w k) (fun t21_13 w =>
  run1 Tryd.prog Z (pickV t18_11 t21_13 (Value.bool false)) w fun t22_14 w =>
  guardW (t22_14) true (fun k => k (t10_5) w) (fun t24_15 w =>
  guardW (t22_14) true (fun k => CallV Tryd.prog Z 13 #[t24_15] w k) (fun t25_16 w =>
  guardW (t22_14) true (fun k => run1 Tryd.prog Z (eqOp BinOp.eql 3 false true t25_16 (Value.int IntKind.i64 1)) w k) (fun t26_17 w =>
  run1 Tryd.prog Z (pickV t22_14 t26_17 (Value.bool false)) w fun t27_18 w =>
  guardW (t27_18) true (fun k => k (t14_8) w) (fun t29_19 w =>
  guardW (t27_18) true (fun k => run1 Tryd.prog Z (eqOp BinOp.eql 81 false true t29_19 (Value.int IntKind.u32 38600999)) w k) (fun t30_20 w =>
  run1 Tryd.prog Z (pickV t27_18 t30_20 (Value.bool false)) w fun t31_21 w =>
  Q t31_21 w) w) w) w) w) w) w) w
noncomputable def f5.code : Code := match Tryd.f5.body with | some c => c | none => .skip
def f5.an : An := (.sq .leaf (.sq .leaf (.sq .leaf (.sq .leaf (.sq .leaf (.sq .leaf (.sq .leaf .leaf)))))))
theorem f5.body_eq : Tryd.f5.body = some f5.code := by kernel_rfl
theorem f5.shape (Z : List PanicEntry → World → Prop) (w : World) (Q : Value → World → Prop) : vc drawD Tryd.prog 32 Z [29, 9, 30, 31, 15, 14, 13] f5.an f5.code (fnQ Tryd.prog 32 Tryd.f5.results Q) (argEnv []) w = f5.sh Z  w Q := by kernel_rfl
theorem f5.enters : ∀ f, f ∈ ([29, 9, 30, 31, 15, 14, 13] : List Nat) → Enters Tryd.prog f := by
  intro f hf
  simp only [List.mem_cons, List.not_mem_nil, or_false] at hf
  rcases hf with rfl | rfl | rfl | rfl | rfl | rfl | rfl
  · exact en29
  · exact en9
  · exact en30
  · exact en31
  · exact en15
  · exact en14
  · exact en13
theorem f5.calls {Z : List PanicEntry → World → Prop} {w : World} {Q : Value → World → Prop} (h : f5.sh Z  w Q) : CallV Tryd.prog Z 5 #[] w Q :=
  calls_of_vcn drawD_sound (Q := Q) (n := 32) (rs := Tryd.f5.results) (an := f5.an) (c := f5.code) (cal := [29, 9, 30, 31, 15, 14, 13]) (args := []) Tryd.func5 (by kernel_rfl) rfl f5.body_eq follows (Nat.le_of_ble_eq_true (by kernel_rfl)) (enters_of_all f5.enters) ((f5.shape Z  w Q).mpr h)

/-! ### 6: lagoon/pack.PutList[string] -/
def f6.sh (Z : List PanicEntry → World → Prop) (x0 x1 x2 : Value) (w : World) (Q : Value → World → Prop) : Prop :=
  run1 Tryd.prog Z (eqOp BinOp.eql 24 false true x0 (Value.pointer none)) w fun t9_1 w =>
  CondV t9_1 (
    Q (Value.tuple #[]) w) (
    run1 Tryd.prog Z (Builtin.len_ #[22] 3 #[x1]) w fun t12_2 w =>
    run1 Tryd.prog Z (convert 3 21 t12_2) w fun t13_3 w =>
    CallV Tryd.prog Z 29 #[x0, t13_3] w fun t14_4 w =>
    run1 Tryd.prog Z (eqOp BinOp.eql 83 false true x2 Value.nilFunc) w fun t16_5 w =>
    CondV t16_5 (
      Q (Value.tuple #[]) w) (
      run1 Tryd.prog Z (Builtin.len_ #[22] 3 #[x1]) w fun t18_6 w =>
      ∃ J_7 : Nat → Value → World → Prop, (∃ m, J_7 m (Value.int IntKind.i64 0) w) ∧
        ∀ m_7, ∀ t19_8 : Value, ∀ w : World, J_7 m_7 t19_8 w → Env →
          run1 Tryd.prog Z (binOp BinOp.lss 3 t19_8 t18_6) w fun t20_9 w =>
          CondV t20_9 (
            run1 Tryd.prog Z (Instr.indexAt 22 x1 t19_8) w fun t21_10 w =>
            run1 Tryd.prog Z (Instr.loadAt 9 t21_10) w fun t22_11 w =>
            runX Tryd.prog Z (callVal x2 #[x0, t22_11]) w fun t26_12 w =>
            run1 Tryd.prog Z (binOp BinOp.add 3 t19_8 (Value.int IntKind.i64 1)) w fun t27_13 w =>
            ∃ n_7, n_7 < m_7 ∧ J_7 n_7 t27_13 w) (
            Q (Value.tuple #[]) w)))
noncomputable def f6.code : Code := match Tryd.f6.body with | some c => c | none => .skip
def f6.an : An := (.sq (.sq .leaf (.cn .leaf .leaf)) (.sq .leaf (.sq (.sq .leaf (.cn .leaf .leaf)) (.sq .leaf (.bl (.lp [19] [7, 19, 20, 21, 22, 23, 24, 25, 26, 27] (.sq .leaf (.sq (.cn .leaf .leaf) (.sq (.bl (.sq .leaf .leaf)) .leaf)))))))))
theorem f6.body_eq : Tryd.f6.body = some f6.code := by kernel_rfl
theorem f6.shape (Z : List PanicEntry → World → Prop) (x0 x1 x2 : Value) (w : World) (Q : Value → World → Prop) : vc drawD Tryd.prog 28 Z [29] f6.an f6.code (fnQ Tryd.prog 28 Tryd.f6.results Q) (argEnv [x0, x1, x2]) w = f6.sh Z x0 x1 x2 w Q := by kernel_rfl
theorem f6.enters : ∀ f, f ∈ ([29] : List Nat) → Enters Tryd.prog f := by
  intro f hf
  simp only [List.mem_cons, List.not_mem_nil, or_false] at hf
  rcases hf with rfl
  · exact en29
theorem f6.calls {Z : List PanicEntry → World → Prop} {x0 x1 x2 : Value} {w : World} {Q : Value → World → Prop} (h : f6.sh Z x0 x1 x2 w Q) : CallV Tryd.prog Z 6 #[x0, x1, x2] w Q :=
  calls_of_vcn drawD_sound (Q := Q) (n := 28) (rs := Tryd.f6.results) (an := f6.an) (c := f6.code) (cal := [29]) (args := [x0, x1, x2]) Tryd.func6 (by kernel_rfl) rfl f6.body_eq follows (Nat.le_of_ble_eq_true (by kernel_rfl)) (enters_of_all f6.enters) ((f6.shape Z x0 x1 x2 w Q).mpr h)

/-! ### 7: lagoon/lagoonref00.WideTexts -/
def f7.sh (Z : List PanicEntry → World → Prop) (x0 : Value) (w : World) (Q : Value → World → Prop) : Prop :=
  run1 Tryd.prog Z (Builtin.len_ #[22] 3 #[x0]) w fun t6_1 w =>
  run1 Tryd.prog Z (binOp BinOp.add 3 t6_1 (Value.int IntKind.i64 64)) w fun t7_2 w =>
  run1 Tryd.prog Z (Instr.makeSlice 22 t7_2 t7_2) w fun t8_3 w =>
  ∃ J_4 : Nat → Value → World → Prop, (∃ m, J_4 m (Value.int IntKind.i64 0) w) ∧
    ∀ m_4, ∀ t4_5 : Value, ∀ w : World, J_4 m_4 t4_5 w → Env →
      run1 Tryd.prog Z (Builtin.len_ #[22] 3 #[t8_3]) w fun t11_6 w =>
      run1 Tryd.prog Z (binOp BinOp.lss 3 t4_5 t11_6) w fun t12_7 w =>
      CondV t12_7 (
        ∀ j_8 : World → Prop, (∀ w : World, (Env →
            run1 Tryd.prog Z (binOp BinOp.add 3 t4_5 (Value.int IntKind.i64 1)) w fun t14_9 w =>
            ∃ n_4, n_4 < m_4 ∧ J_4 n_4 t14_9 w) →
            j_8 w) →
        run1 Tryd.prog Z (Builtin.len_ #[22] 3 #[x0]) w fun t17_10 w =>
        run1 Tryd.prog Z (binOp BinOp.lss 3 t4_5 t17_10) w fun t18_11 w =>
        CondV t18_11 (
          run1 Tryd.prog Z (Instr.indexAt 22 x0 t4_5) w fun t23_12 w =>
          run1 Tryd.prog Z (Instr.loadAt 9 t23_12) w fun t24_13 w =>
          run1 Tryd.prog Z (Instr.indexAt 22 t8_3 t4_5) w fun t25_14 w =>
          run0 Tryd.prog Z (Instr.storeAt 9 t25_14 t24_13) w fun w =>
          j_8 w) (
          run1 Tryd.prog Z (binOp BinOp.sub 3 (Value.int IntKind.i64 (-3000000)) t4_5) w fun t29_15 w =>
          CallV Tryd.prog Z 32 #[t29_15] w fun t30_16 w =>
          run1 Tryd.prog Z (Instr.indexAt 22 t8_3 t4_5) w fun t31_17 w =>
          run0 Tryd.prog Z (Instr.storeAt 9 t31_17 t30_16) w fun w =>
          j_8 w)) (
        run1 Tryd.prog Z (Builtin.len_ #[22] 3 #[x0]) w fun t34_18 w =>
        run1 Tryd.prog Z (Instr.sliceAt 22 t8_3 none (some t34_18) none) w fun t35_19 w =>
        Q t35_19 w)
noncomputable def f7.code : Code := match Tryd.f7.body with | some c => c | none => .skip
def f7.an : An := (.sq .leaf (.sq .leaf (.sq (.sq .leaf (.bl (.lp [4] [4, 9, 10, 11, 12, 13, 14, 15, 16, 17, 18, 19, 20, 21, 22, 23, 24, 25, 26, 27, 28, 29, 30, 31] (.sq (.sq .leaf (.cn .leaf .leaf)) (.sj [] [15, 16, 17, 18, 19, 20, 21, 22, 23, 24, 25, 26, 27, 28, 29, 30, 31] (.bl (.sq .leaf (.cn .leaf .leaf))) .leaf))))) (.sq .leaf .leaf))))
theorem f7.body_eq : Tryd.f7.body = some f7.code := by kernel_rfl
theorem f7.shape (Z : List PanicEntry → World → Prop) (x0 : Value) (w : World) (Q : Value → World → Prop) : vc drawD Tryd.prog 36 Z [32] f7.an f7.code (fnQ Tryd.prog 36 Tryd.f7.results Q) (argEnv [x0]) w = f7.sh Z x0 w Q := by kernel_rfl
theorem f7.enters : ∀ f, f ∈ ([32] : List Nat) → Enters Tryd.prog f := by
  intro f hf
  simp only [List.mem_cons, List.not_mem_nil, or_false] at hf
  rcases hf with rfl
  · exact en32
theorem f7.calls {Z : List PanicEntry → World → Prop} {x0 : Value} {w : World} {Q : Value → World → Prop} (h : f7.sh Z x0 w Q) : CallV Tryd.prog Z 7 #[x0] w Q :=
  calls_of_vcn drawD_sound (Q := Q) (n := 36) (rs := Tryd.f7.results) (an := f7.an) (c := f7.code) (cal := [32]) (args := [x0]) Tryd.func7 (by kernel_rfl) rfl f7.body_eq follows (Nat.le_of_ble_eq_true (by kernel_rfl)) (enters_of_all f7.enters) ((f7.shape Z x0 w Q).mpr h)

/-! ### 8: lagoon/lagoonref01.Int32 -/
def f8.sh (Z : List PanicEntry → World → Prop) (x0 : Value) (w : World) (Q : Value → World → Prop) : Prop :=
  run1 Tryd.prog Z (convert 21 2 x0) w fun t5_1 w =>
  ∀ j_2 : Value → World → Prop, (∀ t3_3 : Value, ∀ w : World, (Env →
      run1 Tryd.prog Z (convert 2 85 t3_3) w fun t11_4 w =>
      CallV Tryd.prog Z 33 #[t11_4, (Value.int IntKind.i64 4)] w fun t12_5 w =>
      Q t12_5 w) →
      j_2 t3_3 w) →
  run1 Tryd.prog Z (binOp BinOp.lss 2 t5_1 (Value.int IntKind.i64 0)) w fun t7_6 w =>
  CondV t7_6 (
    run1 Tryd.prog Z (binOp BinOp.add 2 t5_1 (Value.int IntKind.i64 4294967296)) w fun t9_7 w =>
    j_2 t9_7 w) (
    j_2 t5_1 w)
noncomputable def f8.code : Code := match Tryd.f8.body with | some c => c | none => .skip
def f8.an : An := (.sq .leaf (.sq .leaf (.sj [3] [3, 6, 7, 8, 9] (.sq .leaf (.cn .leaf .leaf)) (.sq .leaf .leaf))))
theorem f8.body_eq : Tryd.f8.body = some f8.code := by kernel_rfl
theorem f8.shape (Z : List PanicEntry → World → Prop) (x0 : Value) (w : World) (Q : Value → World → Prop) : vc drawD Tryd.prog 13 Z [33] f8.an f8.code (fnQ Tryd.prog 13 Tryd.f8.results Q) (argEnv [x0]) w = f8.sh Z x0 w Q := by kernel_rfl
theorem f8.enters : ∀ f, f ∈ ([33] : List Nat) → Enters Tryd.prog f := by
  intro f hf
  simp only [List.mem_cons, List.not_mem_nil, or_false] at hf
  rcases hf with rfl
  · exact en33
theorem f8.calls {Z : List PanicEntry → World → Prop} {x0 : Value} {w : World} {Q : Value → World → Prop} (h : f8.sh Z x0 w Q) : CallV Tryd.prog Z 8 #[x0] w Q :=
  calls_of_vcn drawD_sound (Q := Q) (n := 13) (rs := Tryd.f8.results) (an := f8.an) (c := f8.code) (cal := [33]) (args := [x0]) Tryd.func8 (by kernel_rfl) rfl f8.body_eq follows (Nat.le_of_ble_eq_true (by kernel_rfl)) (enters_of_all f8.enters) ((f8.shape Z x0 w Q).mpr h)

/-! ### 9: lagoon/pack.New -/
def f9.sh (Z : List PanicEntry → World → Prop) (x0 : Value) (w : World) (Q : Value → World → Prop) : Prop :=
  run1 Tryd.prog Z (Builtin.append_ #[25, 25] 25 #[(Value.slice none 0 0), x0]) w fun t4_1 w =>
  run1 Tryd.prog Z (Instr.build 87 #[(0, (Value.bool true)), (1, t4_1)]) w fun t5_2 w =>
  run1 Tryd.prog Z (Instr.box 87 t5_2) w fun t6_3 w =>
  Q t6_3 w
noncomputable def f9.code : Code := match Tryd.f9.body with | some c => c | none => .skip
def f9.an : An := (.sq .leaf (.sq .leaf .leaf))
theorem f9.body_eq : Tryd.f9.body = some f9.code := by kernel_rfl
theorem f9.shape (Z : List PanicEntry → World → Prop) (x0 : Value) (w : World) (Q : Value → World → Prop) : vc drawD Tryd.prog 7 Z [] f9.an f9.code (fnQ Tryd.prog 7 Tryd.f9.results Q) (argEnv [x0]) w = f9.sh Z x0 w Q := by kernel_rfl
theorem f9.enters : ∀ f, f ∈ ([] : List Nat) → Enters Tryd.prog f := by
  intro f hf
  cases hf
theorem f9.calls {Z : List PanicEntry → World → Prop} {x0 : Value} {w : World} {Q : Value → World → Prop} (h : f9.sh Z x0 w Q) : CallV Tryd.prog Z 9 #[x0] w Q :=
  calls_of_vcn drawD_sound (Q := Q) (n := 7) (rs := Tryd.f9.results) (an := f9.an) (c := f9.code) (cal := []) (args := [x0]) Tryd.func9 (by kernel_rfl) rfl f9.body_eq follows (Nat.le_of_ble_eq_true (by kernel_rfl)) (enters_of_all f9.enters) ((f9.shape Z x0 w Q).mpr h)

/-! ### 10: lagoon/lagoonlaw01.joined -/
def f10.sh (Z : List PanicEntry → World → Prop) (x0 x1 : Value) (w : World) (Q : Value → World → Prop) : Prop :=
  CallV Tryd.prog Z 17 #[x0] w fun t8_1 w =>
  ∃ J_2 : Nat → Value → Value → World → Prop, (∃ m, J_2 m t8_1 (Value.int IntKind.i64 0) w) ∧
    ∀ m_2, ∀ t5_3 : Value, ∀ t6_4 : Value, ∀ w : World, J_2 m_2 t5_3 t6_4 w → Env →
      run1 Tryd.prog Z (Builtin.len_ #[25] 3 #[x1]) w fun t11_5 w =>
      run1 Tryd.prog Z (binOp BinOp.lss 3 t6_4 t11_5) w fun t12_6 w =>
      CondV t12_6 (
        run1 Tryd.prog Z (Instr.indexAt 25 x1 t6_4) w fun t18_7 w =>
        run1 Tryd.prog Z (Instr.loadAt 5 t18_7) w fun t19_8 w =>
        run1 Tryd.prog Z (Instr.buildSlice 25 1 #[(0, t19_8)]) w fun t20_9 w =>
        run1 Tryd.prog Z (Builtin.append_ #[25, 25] 25 #[t5_3, t20_9]) w fun t21_10 w =>
        run1 Tryd.prog Z (binOp BinOp.add 3 t6_4 (Value.int IntKind.i64 1)) w fun t14_11 w =>
        ∃ n_2, n_2 < m_2 ∧ J_2 n_2 t21_10 t14_11 w) (
        Q t5_3 w)
noncomputable def f10.code : Code := match Tryd.f10.body with | some c => c | none => .skip
def f10.an : An := (.sq .leaf (.sq .leaf (.sq (.sq .leaf (.bl (.lp [5, 6] [5, 6, 9, 10, 11, 12, 13, 14, 15, 16, 17, 18, 19, 20, 21] (.sq (.sq .leaf (.cn .leaf .leaf)) (.sq (.bl .leaf) .leaf))))) (.sq .leaf .leaf))))
theorem f10.body_eq : Tryd.f10.body = some f10.code := by kernel_rfl
theorem f10.shape (Z : List PanicEntry → World → Prop) (x0 x1 : Value) (w : World) (Q : Value → World → Prop) : vc drawD Tryd.prog 23 Z [17] f10.an f10.code (fnQ Tryd.prog 23 Tryd.f10.results Q) (argEnv [x0, x1]) w = f10.sh Z x0 x1 w Q := by kernel_rfl
theorem f10.enters : ∀ f, f ∈ ([17] : List Nat) → Enters Tryd.prog f := by
  intro f hf
  simp only [List.mem_cons, List.not_mem_nil, or_false] at hf
  rcases hf with rfl
  · exact en17
theorem f10.calls {Z : List PanicEntry → World → Prop} {x0 x1 : Value} {w : World} {Q : Value → World → Prop} (h : f10.sh Z x0 x1 w Q) : CallV Tryd.prog Z 10 #[x0, x1] w Q :=
  calls_of_vcn drawD_sound (Q := Q) (n := 23) (rs := Tryd.f10.results) (an := f10.an) (c := f10.code) (cal := [17]) (args := [x0, x1]) Tryd.func10 (by kernel_rfl) rfl f10.body_eq follows (Nat.le_of_ble_eq_true (by kernel_rfl)) (enters_of_all f10.enters) ((f10.shape Z x0 x1 w Q).mpr h)

/-! ### 11: lagoon/pack.GetList[int8] -/
def f11.sh (Z : List PanicEntry → World → Prop) (x0 x1 x2 : Value) (w : World) (Q : Value → World → Prop) : Prop :=
  CallV Tryd.prog Z 34 #[x0] w fun t12_1 w =>
  CallV Tryd.prog Z 30 #[x0] w fun t14_2 w =>
  run1 Tryd.prog Z (convert 21 3 t14_2) w fun t15_3 w =>
  CallV Tryd.prog Z 35 #[x0] w fun t17_4 w =>
  run1 Tryd.prog Z (Op.unary UnOp.not t17_4) w fun t18_5 w =>
  CondV t18_5 (
    Q (Value.slice none 0 0) w) (
    run1 Tryd.prog Z (binOp BinOp.lss 3 t15_3 (Value.int IntKind.i64 0)) w fun t21_6 w =>
    guardW (t21_6) false (fun k => k (t15_3) w) (fun t23_7 w =>
    guardW (t21_6) false (fun k => k (x1) w) (fun t24_8 w =>
    guardW (t21_6) false (fun k => run1 Tryd.prog Z (binOp BinOp.gtr 3 t23_7 t24_8) w k) (fun t25_9 w =>
    run1 Tryd.prog Z (pickV t21_6 (Value.bool true) t25_9) w fun t26_10 w =>
    CondV t26_10 (
      CallV Tryd.prog Z 36 #[x0, t12_1, (Value.int IntKind.i64 11)] w fun t29_11 w =>
      Q (Value.slice none 0 0) w) (
      runX Tryd.prog Z (nilChk x0) w fun t33_12 w =>
      run1 Tryd.prog Z (Instr.fieldAt 87 t33_12 1) w fun t34_13 w =>
      run1 Tryd.prog Z (Instr.loadAt 25 t34_13) w fun t35_14 w =>
      run1 Tryd.prog Z (Builtin.len_ #[25] 3 #[t35_14]) w fun t36_15 w =>
      run1 Tryd.prog Z (binOp BinOp.gtr 3 t15_3 t36_15) w fun t37_16 w =>
      CondV t37_16 (
        CallV Tryd.prog Z 36 #[x0, t12_1, (Value.int IntKind.i64 10)] w fun t40_17 w =>
        Q (Value.slice none 0 0) w) (
        run1 Tryd.prog Z (eqOp BinOp.eql 88 false true x2 Value.nilFunc) w fun t42_18 w =>
        CondV t42_18 (
          run1 Tryd.prog Z (Instr.makeSlice 34 t15_3 t15_3) w fun t44_19 w =>
          Q t44_19 w) (
          ∃ J_20 : Nat → Value → Value → World → Prop, (∃ m, J_20 m (Value.slice none 0 0) (Value.int IntKind.i64 0) w) ∧
            ∀ m_20, ∀ t9_21 : Value, ∀ t46_22 : Value, ∀ w : World, J_20 m_20 t9_21 t46_22 w → Env →
              run1 Tryd.prog Z (binOp BinOp.lss 3 t46_22 t15_3) w fun t47_23 w =>
              CondV t47_23 (
                runX Tryd.prog Z (callVal x2 #[x0]) w fun t50_24 w =>
                CallV Tryd.prog Z 35 #[x0] w fun t52_25 w =>
                run1 Tryd.prog Z (Op.unary UnOp.not t52_25) w fun t53_26 w =>
                CondV t53_26 (
                  Q (Value.slice none 0 0) w) (
                  run1 Tryd.prog Z (Instr.buildSlice 34 1 #[(0, t50_24)]) w fun t56_27 w =>
                  run1 Tryd.prog Z (Builtin.append_ #[34, 34] 34 #[t9_21, t56_27]) w fun t57_28 w =>
                  run1 Tryd.prog Z (binOp BinOp.add 3 t46_22 (Value.int IntKind.i64 1)) w fun t58_29 w =>
                  ∃ n_20, n_20 < m_20 ∧ J_20 n_20 t57_28 t58_29 w)) (
                Q t9_21 w))))) w) w) w)
noncomputable def f11.code : Code := match Tryd.f11.body with | some c => c | none => .skip
def f11.an : An := (.sq .leaf (.sq .leaf (.sq .leaf (.sq (.sq .leaf (.cn (.sq .leaf .leaf) .leaf)) (.sq (.bl (.sq .leaf (.cn (.sq .leaf (.sq .leaf .leaf)) (.sq .leaf (.cn (.sq .leaf (.sq .leaf .leaf)) .leaf))))) (.sq (.sq .leaf (.cn (.sq .leaf .leaf) .leaf)) (.sq .leaf (.sq (.sq .leaf (.bl (.lp [9, 46] [6, 9, 10, 46, 47, 48, 49, 50, 51, 52, 53, 54, 55, 56, 57, 58] (.sq .leaf (.sq (.cn .leaf .leaf) (.sq (.bl (.sq .leaf (.sq (.sq .leaf (.cn (.sq .leaf .leaf) .leaf)) .leaf))) .leaf)))))) (.sq .leaf .leaf)))))))))
theorem f11.body_eq : Tryd.f11.body = some f11.code := by kernel_rfl
theorem f11.shape (Z : List PanicEntry → World → Prop) (x0 x1 x2 : Value) (w : World) (Q : Value → World → Prop) : vc drawD Tryd.prog 60 Z [34, 30, 35, 36] f11.an f11.code (fnQ Tryd.prog 60 Tryd.f11.results Q) (argEnv [x0, x1, x2]) w = f11.sh Z x0 x1 x2 w Q := by kernel_rfl
theorem f11.enters : ∀ f, f ∈ ([34, 30, 35, 36] : List Nat) → Enters Tryd.prog f := by
  intro f hf
  simp only [List.mem_cons, List.not_mem_nil, or_false] at hf
  rcases hf with rfl | rfl | rfl | rfl
  · exact en34
  · exact en30
  · exact en35
  · exact en36
theorem f11.calls {Z : List PanicEntry → World → Prop} {x0 x1 x2 : Value} {w : World} {Q : Value → World → Prop} (h : f11.sh Z x0 x1 x2 w Q) : CallV Tryd.prog Z 11 #[x0, x1, x2] w Q :=
  calls_of_vcn drawD_sound (Q := Q) (n := 60) (rs := Tryd.f11.results) (an := f11.an) (c := f11.code) (cal := [34, 30, 35, 36]) (args := [x0, x1, x2]) Tryd.func11 (by kernel_rfl) rfl f11.body_eq follows (Nat.le_of_ble_eq_true (by kernel_rfl)) (enters_of_all f11.enters) ((f11.shape Z x0 x1 x2 w Q).mpr h)

/-! ### 12: (*lagoon/pack.Reader).Err -/
def f12.sh (Z : List PanicEntry → World → Prop) (x0 : Value) (w : World) (Q : Value → World → Prop) : Prop :=
  CallV Tryd.prog Z 37 #[x0] w fun t4_1 w =>
  CondV t4_1 (
    Q (Value.int IntKind.i64 1) w) (
    runX Tryd.prog Z (nilChk x0) w fun t6_2 w =>
    run1 Tryd.prog Z (Instr.fieldAt 87 t6_2 2) w fun t7_3 w =>
    run1 Tryd.prog Z (Instr.loadAt 37 t7_3) w fun t8_4 w =>
    Q t8_4 w)
noncomputable def f12.code : Code := match Tryd.f12.body with | some c => c | none => .skip
def f12.an : An := (.sq .leaf (.sq (.sq .leaf (.cn (.sq .leaf .leaf) .leaf)) (.sq .leaf .leaf)))
theorem f12.body_eq : Tryd.f12.body = some f12.code := by kernel_rfl
theorem f12.shape (Z : List PanicEntry → World → Prop) (x0 : Value) (w : World) (Q : Value → World → Prop) : vc drawD Tryd.prog 9 Z [37] f12.an f12.code (fnQ Tryd.prog 9 Tryd.f12.results Q) (argEnv [x0]) w = f12.sh Z x0 w Q := by kernel_rfl
theorem f12.enters : ∀ f, f ∈ ([37] : List Nat) → Enters Tryd.prog f := by
  intro f hf
  simp only [List.mem_cons, List.not_mem_nil, or_false] at hf
  rcases hf with rfl
  · exact en37
theorem f12.calls {Z : List PanicEntry → World → Prop} {x0 : Value} {w : World} {Q : Value → World → Prop} (h : f12.sh Z x0 w Q) : CallV Tryd.prog Z 12 #[x0] w Q :=
  calls_of_vcn drawD_sound (Q := Q) (n := 9) (rs := Tryd.f12.results) (an := f12.an) (c := f12.code) (cal := [37]) (args := [x0]) Tryd.func12 (by kernel_rfl) rfl f12.body_eq follows (Nat.le_of_ble_eq_true (by kernel_rfl)) (enters_of_all f12.enters) ((f12.shape Z x0 w Q).mpr h)

/-! ### 13: (*lagoon/pack.Reader).Left -/
def f13.sh (Z : List PanicEntry → World → Prop) (x0 : Value) (w : World) (Q : Value → World → Prop) : Prop :=
  CallV Tryd.prog Z 34 #[x0] w fun t4_1 w =>
  run1 Tryd.prog Z (Builtin.len_ #[25] 3 #[t4_1]) w fun t5_2 w =>
  Q t5_2 w
noncomputable def f13.code : Code := match Tryd.f13.body with | some c => c | none => .skip
def f13.an : An := (.sq .leaf (.sq .leaf .leaf))
theorem f13.body_eq : Tryd.f13.body = some f13.code := by kernel_rfl
theorem f13.shape (Z : List PanicEntry → World → Prop) (x0 : Value) (w : World) (Q : Value → World → Prop) : vc drawD Tryd.prog 6 Z [34] f13.an f13.code (fnQ Tryd.prog 6 Tryd.f13.results Q) (argEnv [x0]) w = f13.sh Z x0 w Q := by kernel_rfl
theorem f13.enters : ∀ f, f ∈ ([34] : List Nat) → Enters Tryd.prog f := by
  intro f hf
  simp only [List.mem_cons, List.not_mem_nil, or_false] at hf
  rcases hf with rfl
  · exact en34
theorem f13.calls {Z : List PanicEntry → World → Prop} {x0 : Value} {w : World} {Q : Value → World → Prop} (h : f13.sh Z x0 w Q) : CallV Tryd.prog Z 13 #[x0] w Q :=
  calls_of_vcn drawD_sound (Q := Q) (n := 6) (rs := Tryd.f13.results) (an := f13.an) (c := f13.code) (cal := [34]) (args := [x0]) Tryd.func13 (by kernel_rfl) rfl f13.body_eq follows (Nat.le_of_ble_eq_true (by kernel_rfl)) (enters_of_all f13.enters) ((f13.shape Z x0 w Q).mpr h)

/-! ### 14: lagoon/lagoonref00.EqBytes -/
def f14.sh (Z : List PanicEntry → World → Prop) (x0 x1 : Value) (w : World) (Q : Value → World → Prop) : Prop :=
  run1 Tryd.prog Z (Builtin.len_ #[25] 3 #[x0]) w fun t7_1 w =>
  run1 Tryd.prog Z (Builtin.len_ #[25] 3 #[x1]) w fun t9_2 w =>
  run1 Tryd.prog Z (eqOp BinOp.neq 3 false false t7_1 t9_2) w fun t10_3 w =>
  CondV t10_3 (
    Q (Value.bool false) w) (
    ∃ J_4 : Nat → Value → World → Prop, (∃ m, J_4 m (Value.int IntKind.i64 0) w) ∧
      ∀ m_4, ∀ t5_5 : Value, ∀ w : World, J_4 m_4 t5_5 w → Env →
        run1 Tryd.prog Z (Builtin.len_ #[25] 3 #[x0]) w fun t13_6 w =>
        run1 Tryd.prog Z (binOp BinOp.lss 3 t5_5 t13_6) w fun t14_7 w =>
        CondV t14_7 (
          Drawn w fun w =>
          Pure1 Tryd.prog (Instr.indexAt 25 x0 t5_5) fun t19_8 =>
          Read1 Tryd.prog (Instr.loadAt 5 t19_8) w fun t20_9 =>
          Pure1 Tryd.prog (Instr.indexAt 25 x1 t5_5) fun t23_10 =>
          Read1 Tryd.prog (Instr.loadAt 5 t23_10) w fun t24_11 =>
          Pure1 Tryd.prog (eqOp BinOp.neq 5 false false t20_9 t24_11) fun t25_12 =>
          CondV t25_12 (
            Q (Value.bool false) w) (
            run1 Tryd.prog Z (binOp BinOp.add 3 t5_5 (Value.int IntKind.i64 1)) w fun t16_13 w =>
            ∃ n_4, n_4 < m_4 ∧ J_4 n_4 t16_13 w)) (
          Q (Value.bool true) w))
noncomputable def f14.code : Code := match Tryd.f14.body with | some c => c | none => .skip
def f14.an : An := (.sq .leaf (.sq (.sq .leaf (.cn (.sq .leaf .leaf) .leaf)) (.sq (.sq .leaf (.bl (.lp [5] [4, 5, 11, 12, 13, 14, 15, 16, 17, 18, 19, 20, 21, 22, 23, 24, 25] (.sq (.sq .leaf (.cn .leaf .leaf)) (.sq (.bl (.sq (.dr (.take 0 false (.take 1 false (.take 2 false (.take 3 true (.take 4 false (.take 5 false (.take 6 false (.take 7 true (.take 8 false .fin)))))))))) (.cn (.sq .leaf .leaf) .leaf))) .leaf))))) (.sq .leaf .leaf))))
theorem f14.body_eq : Tryd.f14.body = some f14.code := by kernel_rfl
theorem f14.shape (Z : List PanicEntry → World → Prop) (x0 x1 : Value) (w : World) (Q : Value → World → Prop) : vc drawD Tryd.prog 26 Z [] f14.an f14.code (fnQ Tryd.prog 26 Tryd.f14.results Q) (argEnv [x0, x1]) w = f14.sh Z x0 x1 w Q := by kernel_rfl
theorem f14.enters : ∀ f, f ∈ ([] : List Nat) → Enters Tryd.prog f := by
  intro f hf
  cases hf
theorem f14.calls {Z : List PanicEntry → World → Prop} {x0 x1 : Value} {w : World} {Q : Value → World → Prop} (h : f14.sh Z x0 x1 w Q) : CallV Tryd.prog Z 14 #[x0, x1] w Q :=
  calls_of_vcn drawD_sound (Q := Q) (n := 26) (rs := Tryd.f14.results) (an := f14.an) (c := f14.code) (cal := []) (args := [x0, x1]) Tryd.func14 (by kernel_rfl) rfl f14.body_eq follows (Nat.le_of_ble_eq_true (by kernel_rfl)) (enters_of_all f14.enters) ((f14.shape Z x0 x1 w Q).mpr h)

/-! ### 15: (*lagoon/pack.Writer).Bytes -/
def f15.sh (Z : List PanicEntry → World → Prop) (x0 : Value) (w : World) (Q : Value → World → Prop) : Prop :=
  run1 Tryd.prog Z (eqOp BinOp.eql 24 false true x0 (Value.pointer none)) w fun t4_1 w =>
  CondV t4_1 (
    Q (Value.slice none 0 0) w) (
    runX Tryd.prog Z (nilChk x0) w fun t6_2 w =>
    run1 Tryd.prog Z (Instr.fieldAt 27 t6_2 0) w fun t7_3 w =>
    run1 Tryd.prog Z (Instr.loadAt 25 t7_3) w fun t8_4 w =>
    run1 Tryd.prog Z (Builtin.append_ #[25, 25] 25 #[(Value.slice none 0 0), t8_4]) w fun t9_5 w =>
    Q t9_5 w)
noncomputable def f15.code : Code := match Tryd.f15.body with | some c => c | none => .skip
def f15.an : An := (.sq .leaf (.sq (.sq .leaf (.cn (.sq .leaf .leaf) .leaf)) (.sq .leaf .leaf)))
theorem f15.body_eq : Tryd.f15.body = some f15.code := by kernel_rfl
theorem f15.shape (Z : List PanicEntry → World → Prop) (x0 : Value) (w : World) (Q : Value → World → Prop) : vc drawD Tryd.prog 10 Z [] f15.an f15.code (fnQ Tryd.prog 10 Tryd.f15.results Q) (argEnv [x0]) w = f15.sh Z x0 w Q := by kernel_rfl
theorem f15.enters : ∀ f, f ∈ ([] : List Nat) → Enters Tryd.prog f := by
  intro f hf
  cases hf
theorem f15.calls {Z : List PanicEntry → World → Prop} {x0 : Value} {w : World} {Q : Value → World → Prop} (h : f15.sh Z x0 w Q) : CallV Tryd.prog Z 15 #[x0] w Q :=
  calls_of_vcn drawD_sound (Q := Q) (n := 10) (rs := Tryd.f15.results) (an := f15.an) (c := f15.code) (cal := []) (args := [x0]) Tryd.func15 (by kernel_rfl) rfl f15.body_eq follows (Nat.le_of_ble_eq_true (by kernel_rfl)) (enters_of_all f15.enters) ((f15.shape Z x0 w Q).mpr h)

/-! ### 16: (*lagoon/pack.Writer).Len -/
def f16.sh (Z : List PanicEntry → World → Prop) (x0 : Value) (w : World) (Q : Value → World → Prop) : Prop :=
  run1 Tryd.prog Z (eqOp BinOp.eql 24 false true x0 (Value.pointer none)) w fun t4_1 w =>
  CondV t4_1 (
    Q (Value.int IntKind.i64 0) w) (
    runX Tryd.prog Z (nilChk x0) w fun t6_2 w =>
    run1 Tryd.prog Z (Instr.fieldAt 27 t6_2 0) w fun t7_3 w =>
    run1 Tryd.prog Z (Instr.loadAt 25 t7_3) w fun t8_4 w =>
    run1 Tryd.prog Z (Builtin.len_ #[25] 3 #[t8_4]) w fun t9_5 w =>
    Q t9_5 w)
noncomputable def f16.code : Code := match Tryd.f16.body with | some c => c | none => .skip
def f16.an : An := (.sq .leaf (.sq (.sq .leaf (.cn (.sq .leaf .leaf) .leaf)) (.sq .leaf .leaf)))
theorem f16.body_eq : Tryd.f16.body = some f16.code := by kernel_rfl
theorem f16.shape (Z : List PanicEntry → World → Prop) (x0 : Value) (w : World) (Q : Value → World → Prop) : vc drawD Tryd.prog 10 Z [] f16.an f16.code (fnQ Tryd.prog 10 Tryd.f16.results Q) (argEnv [x0]) w = f16.sh Z x0 w Q := by kernel_rfl
theorem f16.enters : ∀ f, f ∈ ([] : List Nat) → Enters Tryd.prog f := by
  intro f hf
  cases hf
theorem f16.calls {Z : List PanicEntry → World → Prop} {x0 : Value} {w : World} {Q : Value → World → Prop} (h : f16.sh Z x0 w Q) : CallV Tryd.prog Z 16 #[x0] w Q :=
  calls_of_vcn drawD_sound (Q := Q) (n := 10) (rs := Tryd.f16.results) (an := f16.an) (c := f16.code) (cal := []) (args := [x0]) Tryd.func16 (by kernel_rfl) rfl f16.body_eq follows (Nat.le_of_ble_eq_true (by kernel_rfl)) (enters_of_all f16.enters) ((f16.shape Z x0 w Q).mpr h)

/-! ### 17: lagoon/lagoonref00.CopyBytes -/
def f17.sh (Z : List PanicEntry → World → Prop) (x0 : Value) (w : World) (Q : Value → World → Prop) : Prop :=
  ∃ J_1 : Nat → Value → Value → World → Prop, (∃ m, J_1 m (Value.slice none 0 0) (Value.int IntKind.i64 0) w) ∧
    ∀ m_1, ∀ t3_2 : Value, ∀ t4_3 : Value, ∀ w : World, J_1 m_1 t3_2 t4_3 w → Env →
      run1 Tryd.prog Z (Builtin.len_ #[25] 3 #[x0]) w fun t7_4 w =>
      run1 Tryd.prog Z (binOp BinOp.lss 3 t4_3 t7_4) w fun t8_5 w =>
      CondV t8_5 (
        run1 Tryd.prog Z (Instr.indexAt 25 x0 t4_3) w fun t14_6 w =>
        run1 Tryd.prog Z (Instr.loadAt 5 t14_6) w fun t15_7 w =>
        run1 Tryd.prog Z (Instr.buildSlice 25 1 #[(0, t15_7)]) w fun t16_8 w =>
        run1 Tryd.prog Z (Builtin.append_ #[25, 25] 25 #[t3_2, t16_8]) w fun t17_9 w =>
        run1 Tryd.prog Z (binOp BinOp.add 3 t4_3 (Value.int IntKind.i64 1)) w fun t10_10 w =>
        ∃ n_1, n_1 < m_1 ∧ J_1 n_1 t17_9 t10_10 w) (
        Q t3_2 w)
noncomputable def f17.code : Code := match Tryd.f17.body with | some c => c | none => .skip
def f17.an : An := (.sq .leaf (.sq .leaf (.sq (.sq .leaf (.bl (.lp [3, 4] [3, 4, 5, 6, 7, 8, 9, 10, 11, 12, 13, 14, 15, 16, 17] (.sq (.sq .leaf (.cn .leaf .leaf)) (.sq (.bl .leaf) .leaf))))) (.sq .leaf .leaf))))
theorem f17.body_eq : Tryd.f17.body = some f17.code := by kernel_rfl
theorem f17.shape (Z : List PanicEntry → World → Prop) (x0 : Value) (w : World) (Q : Value → World → Prop) : vc drawD Tryd.prog 19 Z [] f17.an f17.code (fnQ Tryd.prog 19 Tryd.f17.results Q) (argEnv [x0]) w = f17.sh Z x0 w Q := by kernel_rfl
theorem f17.enters : ∀ f, f ∈ ([] : List Nat) → Enters Tryd.prog f := by
  intro f hf
  cases hf
theorem f17.calls {Z : List PanicEntry → World → Prop} {x0 : Value} {w : World} {Q : Value → World → Prop} (h : f17.sh Z x0 w Q) : CallV Tryd.prog Z 17 #[x0] w Q :=
  calls_of_vcn drawD_sound (Q := Q) (n := 19) (rs := Tryd.f17.results) (an := f17.an) (c := f17.code) (cal := []) (args := [x0]) Tryd.func17 (by kernel_rfl) rfl f17.body_eq follows (Nat.le_of_ble_eq_true (by kernel_rfl)) (enters_of_all f17.enters) ((f17.shape Z x0 w Q).mpr h)

/-! ### 29: (*lagoon/pack.Writer).Int32 -/
def f29.sh (Z : List PanicEntry → World → Prop) (x0 x1 : Value) (w : World) (Q : Value → World → Prop) : Prop :=
  run1 Tryd.prog Z (convert 21 85 x1) w fun t6_1 w =>
  CallV Tryd.prog Z 63 #[x0, t6_1, (Value.int IntKind.i64 4)] w fun t7_2 w =>
  Q (Value.tuple #[]) w
noncomputable def f29.code : Code := match Tryd.f29.body with | some c => c | none => .skip
def f29.an : An := .leaf
theorem f29.body_eq : Tryd.f29.body = some f29.code := by kernel_rfl
theorem f29.shape (Z : List PanicEntry → World → Prop) (x0 x1 : Value) (w : World) (Q : Value → World → Prop) : vc drawD Tryd.prog 8 Z [63] f29.an f29.code (fnQ Tryd.prog 8 Tryd.f29.results Q) (argEnv [x0, x1]) w = f29.sh Z x0 x1 w Q := by kernel_rfl
theorem f29.enters : ∀ f, f ∈ ([63] : List Nat) → Enters Tryd.prog f := by
  intro f hf
  simp only [List.mem_cons, List.not_mem_nil, or_false] at hf
  rcases hf with rfl
  · exact en63
theorem f29.calls {Z : List PanicEntry → World → Prop} {x0 x1 : Value} {w : World} {Q : Value → World → Prop} (h : f29.sh Z x0 x1 w Q) : CallV Tryd.prog Z 29 #[x0, x1] w Q :=
  calls_of_vcn drawD_sound (Q := Q) (n := 8) (rs := Tryd.f29.results) (an := f29.an) (c := f29.code) (cal := [63]) (args := [x0, x1]) Tryd.func29 (by kernel_rfl) rfl f29.body_eq follows (Nat.le_of_ble_eq_true (by kernel_rfl)) (enters_of_all f29.enters) ((f29.shape Z x0 x1 w Q).mpr h)

/-! ### 30: (*lagoon/pack.Reader).Int32 -/
def f30.sh (Z : List PanicEntry → World → Prop) (x0 : Value) (w : World) (Q : Value → World → Prop) : Prop :=
  CallV Tryd.prog Z 64 #[x0, (Value.int IntKind.i64 4)] w fun t4_1 w =>
  run1 Tryd.prog Z (convert 85 21 t4_1) w fun t5_2 w =>
  Q t5_2 w
noncomputable def f30.code : Code := match Tryd.f30.body with | some c => c | none => .skip
def f30.an : An := (.sq .leaf (.sq .leaf .leaf))
theorem f30.body_eq : Tryd.f30.body = some f30.code := by kernel_rfl
theorem f30.shape (Z : List PanicEntry → World → Prop) (x0 : Value) (w : World) (Q : Value → World → Prop) : vc drawD Tryd.prog 6 Z [64] f30.an f30.code (fnQ Tryd.prog 6 Tryd.f30.results Q) (argEnv [x0]) w = f30.sh Z x0 w Q := by kernel_rfl
theorem f30.enters : ∀ f, f ∈ ([64] : List Nat) → Enters Tryd.prog f := by
  intro f hf
  simp only [List.mem_cons, List.not_mem_nil, or_false] at hf
  rcases hf with rfl
  · exact en64
theorem f30.calls {Z : List PanicEntry → World → Prop} {x0 : Value} {w : World} {Q : Value → World → Prop} (h : f30.sh Z x0 w Q) : CallV Tryd.prog Z 30 #[x0] w Q :=
  calls_of_vcn drawD_sound (Q := Q) (n := 6) (rs := Tryd.f30.results) (an := f30.an) (c := f30.code) (cal := [64]) (args := [x0]) Tryd.func30 (by kernel_rfl) rfl f30.body_eq follows (Nat.le_of_ble_eq_true (by kernel_rfl)) (enters_of_all f30.enters) ((f30.shape Z x0 w Q).mpr h)

/-! ### 31: lagoon/pack.Sum -/
def f31.sh (Z : List PanicEntry → World → Prop) (x0 : Value) (w : World) (Q : Value → World → Prop) : Prop :=
  run1 Tryd.prog Z (Builtin.len_ #[25] 3 #[x0]) w fun t8_1 w =>
  ∃ J_2 : Nat → Value → Value → Value → World → Prop, (∃ m, J_2 m (Value.int IntKind.u32 1) (Value.int IntKind.u32 0) (Value.int IntKind.i64 0) w) ∧
    ∀ m_2, ∀ t3_3 : Value, ∀ t4_4 : Value, ∀ t9_5 : Value, ∀ w : World, J_2 m_2 t3_3 t4_4 t9_5 w → Env →
      run1 Tryd.prog Z (binOp BinOp.lss 3 t9_5 t8_1) w fun t10_6 w =>
      CondV t10_6 (
        run1 Tryd.prog Z (Instr.indexAt 25 x0 t9_5) w fun t11_7 w =>
        run1 Tryd.prog Z (Instr.loadAt 5 t11_7) w fun t12_8 w =>
        run1 Tryd.prog Z (convert 5 81 t12_8) w fun t15_9 w =>
        run1 Tryd.prog Z (binOp BinOp.add 81 t3_3 t15_9) w fun t16_10 w =>
        run1 Tryd.prog Z (binOp BinOp.rem 81 t16_10 (Value.int IntKind.u32 65521)) w fun t17_11 w =>
        run1 Tryd.prog Z (binOp BinOp.add 81 t4_4 t17_11) w fun t20_12 w =>
        run1 Tryd.prog Z (binOp BinOp.rem 81 t20_12 (Value.int IntKind.u32 65521)) w fun t21_13 w =>
        run1 Tryd.prog Z (binOp BinOp.add 3 t9_5 (Value.int IntKind.i64 1)) w fun t22_14 w =>
        ∃ n_2, n_2 < m_2 ∧ J_2 n_2 t17_11 t21_13 t22_14 w) (
        run1 Tryd.prog Z (binOp BinOp.shl 81 t4_4 (Value.int IntKind.u64 16)) w fun t24_15 w =>
        run1 Tryd.prog Z (binOp BinOp.or 81 t24_15 t3_3) w fun t26_16 w =>
        Q t26_16 w)
noncomputable def f31.code : Code := match Tryd.f31.body with | some c => c | none => .skip
def f31.an : An := (.sq .leaf (.sq .leaf (.sq (.sq .leaf (.bl (.lp [3, 4, 9] [3, 4, 6, 9, 10, 11, 12, 13, 14, 15, 16, 17, 18, 19, 20, 21, 22] (.sq .leaf (.sq (.cn .leaf .leaf) (.sq (.bl (.sq .leaf (.sq .leaf .leaf))) .leaf)))))) (.sq .leaf .leaf))))
theorem f31.body_eq : Tryd.f31.body = some f31.code := by kernel_rfl
theorem f31.shape (Z : List PanicEntry → World → Prop) (x0 : Value) (w : World) (Q : Value → World → Prop) : vc drawD Tryd.prog 27 Z [] f31.an f31.code (fnQ Tryd.prog 27 Tryd.f31.results Q) (argEnv [x0]) w = f31.sh Z x0 w Q := by kernel_rfl
theorem f31.enters : ∀ f, f ∈ ([] : List Nat) → Enters Tryd.prog f := by
  intro f hf
  cases hf
theorem f31.calls {Z : List PanicEntry → World → Prop} {x0 : Value} {w : World} {Q : Value → World → Prop} (h : f31.sh Z x0 w Q) : CallV Tryd.prog Z 31 #[x0] w Q :=
  calls_of_vcn drawD_sound (Q := Q) (n := 27) (rs := Tryd.f31.results) (an := f31.an) (c := f31.code) (cal := []) (args := [x0]) Tryd.func31 (by kernel_rfl) rfl f31.body_eq follows (Nat.le_of_ble_eq_true (by kernel_rfl)) (enters_of_all f31.enters) ((f31.shape Z x0 w Q).mpr h)

/-! ### 32: lagoon/lagoonref00.mark -/
def f32.sh (Z : List PanicEntry → World → Prop) (x0 : Value) (w : World) (Q : Value → World → Prop) : Prop :=
  CallV Tryd.prog Z 65 #[x0] w fun t4_1 w =>
  run1 Tryd.prog Z (binOp BinOp.add 9 (Value.string { data := #[33] }) t4_1) w fun t5_2 w =>
  Q t5_2 w
noncomputable def f32.code : Code := match Tryd.f32.body with | some c => c | none => .skip
def f32.an : An := (.sq .leaf (.sq .leaf .leaf))
theorem f32.body_eq : Tryd.f32.body = some f32.code := by kernel_rfl
theorem f32.shape (Z : List PanicEntry → World → Prop) (x0 : Value) (w : World) (Q : Value → World → Prop) : vc drawD Tryd.prog 6 Z [65] f32.an f32.code (fnQ Tryd.prog 6 Tryd.f32.results Q) (argEnv [x0]) w = f32.sh Z x0 w Q := by kernel_rfl
theorem f32.enters : ∀ f, f ∈ ([65] : List Nat) → Enters Tryd.prog f := by
  intro f hf
  simp only [List.mem_cons, List.not_mem_nil, or_false] at hf
  rcases hf with rfl
  · exact en65
theorem f32.calls {Z : List PanicEntry → World → Prop} {x0 : Value} {w : World} {Q : Value → World → Prop} (h : f32.sh Z x0 w Q) : CallV Tryd.prog Z 32 #[x0] w Q :=
  calls_of_vcn drawD_sound (Q := Q) (n := 6) (rs := Tryd.f32.results) (an := f32.an) (c := f32.code) (cal := [65]) (args := [x0]) Tryd.func32 (by kernel_rfl) rfl f32.body_eq follows (Nat.le_of_ble_eq_true (by kernel_rfl)) (enters_of_all f32.enters) ((f32.shape Z x0 w Q).mpr h)

/-! ### 33: lagoon/lagoonref01.digits -/
def f33.sh (Z : List PanicEntry → World → Prop) (x0 x1 : Value) (w : World) (Q : Value → World → Prop) : Prop :=
  run1 Tryd.prog Z (Instr.makeSlice 25 x1 x1) w fun t8_1 w =>
  run1 Tryd.prog Z (binOp BinOp.sub 3 x1 (Value.int IntKind.i64 1)) w fun t10_2 w =>
  ∃ J_3 : Nat → Value → Value → World → Prop, (∃ m, J_3 m x0 t10_2 w) ∧
    ∀ m_3, ∀ t0_4 : Value, ∀ t6_5 : Value, ∀ w : World, J_3 m_3 t0_4 t6_5 w → Env →
      run1 Tryd.prog Z (binOp BinOp.geq 3 t6_5 (Value.int IntKind.i64 0)) w fun t12_6 w =>
      CondV t12_6 (
        run1 Tryd.prog Z (binOp BinOp.rem 85 t0_4 (Value.int IntKind.u64 256)) w fun t18_7 w =>
        run1 Tryd.prog Z (convert 85 5 t18_7) w fun t19_8 w =>
        run1 Tryd.prog Z (Instr.indexAt 25 t8_1 t6_5) w fun t20_9 w =>
        run0 Tryd.prog Z (Instr.storeAt 5 t20_9 t19_8) w fun w =>
        run1 Tryd.prog Z (binOp BinOp.quo 85 t0_4 (Value.int IntKind.u64 256)) w fun t22_10 w =>
        run1 Tryd.prog Z (binOp BinOp.sub 3 t6_5 (Value.int IntKind.i64 1)) w fun t14_11 w =>
        ∃ n_3, n_3 < m_3 ∧ J_3 n_3 t22_10 t14_11 w) (
        Q t8_1 w)
noncomputable def f33.code : Code := match Tryd.f33.body with | some c => c | none => .skip
def f33.an : An := (.sq .leaf (.sq .leaf (.sq (.sq .leaf (.bl (.lp [0, 6] [0, 6, 11, 12, 13, 14, 15, 16, 17, 18, 19, 20, 21, 22] (.sq (.sq .leaf (.cn .leaf .leaf)) (.sq (.bl (.sq .leaf .leaf)) .leaf))))) (.sq .leaf .leaf))))
theorem f33.body_eq : Tryd.f33.body = some f33.code := by kernel_rfl
theorem f33.shape (Z : List PanicEntry → World → Prop) (x0 x1 : Value) (w : World) (Q : Value → World → Prop) : vc drawD Tryd.prog 24 Z [] f33.an f33.code (fnQ Tryd.prog 24 Tryd.f33.results Q) (argEnv [x0, x1]) w = f33.sh Z x0 x1 w Q := by kernel_rfl
theorem f33.enters : ∀ f, f ∈ ([] : List Nat) → Enters Tryd.prog f := by
  intro f hf
  cases hf
theorem f33.calls {Z : List PanicEntry → World → Prop} {x0 x1 : Value} {w : World} {Q : Value → World → Prop} (h : f33.sh Z x0 x1 w Q) : CallV Tryd.prog Z 33 #[x0, x1] w Q :=
  calls_of_vcn drawD_sound (Q := Q) (n := 24) (rs := Tryd.f33.results) (an := f33.an) (c := f33.code) (cal := []) (args := [x0, x1]) Tryd.func33 (by kernel_rfl) rfl f33.body_eq follows (Nat.le_of_ble_eq_true (by kernel_rfl)) (enters_of_all f33.enters) ((f33.shape Z x0 x1 w Q).mpr h)

/-! ### 34: (*lagoon/pack.Reader).mark -/
def f34.sh (Z : List PanicEntry → World → Prop) (x0 : Value) (w : World) (Q : Value → World → Prop) : Prop :=
  CallV Tryd.prog Z 37 #[x0] w fun t4_1 w =>
  CondV t4_1 (
    Q (Value.slice none 0 0) w) (
    runX Tryd.prog Z (nilChk x0) w fun t6_2 w =>
    run1 Tryd.prog Z (Instr.fieldAt 87 t6_2 1) w fun t7_3 w =>
    run1 Tryd.prog Z (Instr.loadAt 25 t7_3) w fun t8_4 w =>
    Q t8_4 w)
noncomputable def f34.code : Code := match Tryd.f34.body with | some c => c | none => .skip
def f34.an : An := (.sq .leaf (.sq (.sq .leaf (.cn (.sq .leaf .leaf) .leaf)) (.sq .leaf .leaf)))
theorem f34.body_eq : Tryd.f34.body = some f34.code := by kernel_rfl
theorem f34.shape (Z : List PanicEntry → World → Prop) (x0 : Value) (w : World) (Q : Value → World → Prop) : vc drawD Tryd.prog 9 Z [37] f34.an f34.code (fnQ Tryd.prog 9 Tryd.f34.results Q) (argEnv [x0]) w = f34.sh Z x0 w Q := by kernel_rfl
theorem f34.enters : ∀ f, f ∈ ([37] : List Nat) → Enters Tryd.prog f := by
  intro f hf
  simp only [List.mem_cons, List.not_mem_nil, or_false] at hf
  rcases hf with rfl
  · exact en37
theorem f34.calls {Z : List PanicEntry → World → Prop} {x0 : Value} {w : World} {Q : Value → World → Prop} (h : f34.sh Z x0 w Q) : CallV Tryd.prog Z 34 #[x0] w Q :=
  calls_of_vcn drawD_sound (Q := Q) (n := 9) (rs := Tryd.f34.results) (an := f34.an) (c := f34.code) (cal := [37]) (args := [x0]) Tryd.func34 (by kernel_rfl) rfl f34.body_eq follows (Nat.le_of_ble_eq_true (by kernel_rfl)) (enters_of_all f34.enters) ((f34.shape Z x0 w Q).mpr h)

/-! ### 35: (*lagoon/pack.Reader).open -/
def f35.sh (Z : List PanicEntry → World → Prop) (x0 : Value) (w : World) (Q : Value → World → Prop) : Prop :=
  CallV Tryd.prog Z 37 #[x0] w fun t4_1 w =>
  run1 Tryd.prog Z (Op.unary UnOp.not t4_1) w fun t5_2 w =>
  guardW (t5_2) true (fun k => k (x0) w) (fun t7_3 w =>
  guardW (t5_2) true (fun k => runX Tryd.prog Z (nilChk t7_3) w k) (fun t8_4 w =>
  guardW (t5_2) true (fun k => run1 Tryd.prog Z (Instr.fieldAt 87 t8_4 2) w k) (fun t9_5 w =>
  guardW (t5_2) true (fun k => run1 Tryd.prog Z (Instr.loadAt 37 t9_5) w k) (fun t10_6 w =>
  guardW (t5_2) true (fun k => run1 Tryd.prog Z (eqOp BinOp.eql 37 false true t10_6 (Value.int IntKind.i64 0)) w k) (fun t11_7 w =>
  run1 Tryd.prog Z (pickV t5_2 t11_7 (Value.bool false)) w fun t12_8 w =>
  Q t12_8 w) w) w) w) w) w
noncomputable def f35.code : Code := match Tryd.f35.body with | some c => c | none => .skip
def f35.an : An := (.sq .leaf (.sq .leaf .leaf))
theorem f35.body_eq : Tryd.f35.body = some f35.code := by kernel_rfl
theorem f35.shape (Z : List PanicEntry → World → Prop) (x0 : Value) (w : World) (Q : Value → World → Prop) : vc drawD Tryd.prog 13 Z [37] f35.an f35.code (fnQ Tryd.prog 13 Tryd.f35.results Q) (argEnv [x0]) w = f35.sh Z x0 w Q := by kernel_rfl
theorem f35.enters : ∀ f, f ∈ ([37] : List Nat) → Enters Tryd.prog f := by
  intro f hf
  simp only [List.mem_cons, List.not_mem_nil, or_false] at hf
  rcases hf with rfl
  · exact en37
theorem f35.calls {Z : List PanicEntry → World → Prop} {x0 : Value} {w : World} {Q : Value → World → Prop} (h : f35.sh Z x0 w Q) : CallV Tryd.prog Z 35 #[x0] w Q :=
  calls_of_vcn drawD_sound (Q := Q) (n := 13) (rs := Tryd.f35.results) (an := f35.an) (c := f35.code) (cal := [37]) (args := [x0]) Tryd.func35 (by kernel_rfl) rfl f35.body_eq follows (Nat.le_of_ble_eq_true (by kernel_rfl)) (enters_of_all f35.enters) ((f35.shape Z x0 w Q).mpr h)

/-! ### 36: (*lagoon/pack.Reader).back -/
def f36.sh (Z : List PanicEntry → World → Prop) (x0 x1 x2 : Value) (w : World) (Q : Value → World → Prop) : Prop :=
  runX Tryd.prog Z (nilChk x0) w fun t10_1 w =>
  run1 Tryd.prog Z (Instr.fieldAt 87 t10_1 1) w fun t11_2 w =>
  run0 Tryd.prog Z (Instr.storeAt 25 t11_2 x1) w fun w =>
  runX Tryd.prog Z (nilChk x0) w fun t12_3 w =>
  run1 Tryd.prog Z (Instr.fieldAt 87 t12_3 2) w fun t13_4 w =>
  run0 Tryd.prog Z (Instr.storeAt 37 t13_4 x2) w fun w =>
  Q (Value.tuple #[]) w
noncomputable def f36.code : Code := match Tryd.f36.body with | some c => c | none => .skip
def f36.an : An := .leaf
theorem f36.body_eq : Tryd.f36.body = some f36.code := by kernel_rfl
theorem f36.shape (Z : List PanicEntry → World → Prop) (x0 x1 x2 : Value) (w : World) (Q : Value → World → Prop) : vc drawD Tryd.prog 14 Z [] f36.an f36.code (fnQ Tryd.prog 14 Tryd.f36.results Q) (argEnv [x0, x1, x2]) w = f36.sh Z x0 x1 x2 w Q := by kernel_rfl
theorem f36.enters : ∀ f, f ∈ ([] : List Nat) → Enters Tryd.prog f := by
  intro f hf
  cases hf
theorem f36.calls {Z : List PanicEntry → World → Prop} {x0 x1 x2 : Value} {w : World} {Q : Value → World → Prop} (h : f36.sh Z x0 x1 x2 w Q) : CallV Tryd.prog Z 36 #[x0, x1, x2] w Q :=
  calls_of_vcn drawD_sound (Q := Q) (n := 14) (rs := Tryd.f36.results) (an := f36.an) (c := f36.code) (cal := []) (args := [x0, x1, x2]) Tryd.func36 (by kernel_rfl) rfl f36.body_eq follows (Nat.le_of_ble_eq_true (by kernel_rfl)) (enters_of_all f36.enters) ((f36.shape Z x0 x1 x2 w Q).mpr h)

/-! ### 37: (*lagoon/pack.Reader).none -/
def f37.sh (Z : List PanicEntry → World → Prop) (x0 : Value) (w : World) (Q : Value → World → Prop) : Prop :=
  run1 Tryd.prog Z (eqOp BinOp.eql 31 false true x0 (Value.pointer none)) w fun t4_1 w =>
  guardW (t4_1) false (fun k => k (x0) w) (fun t6_2 w =>
  guardW (t4_1) false (fun k => runX Tryd.prog Z (nilChk t6_2) w k) (fun t7_3 w =>
  guardW (t4_1) false (fun k => run1 Tryd.prog Z (Instr.fieldAt 87 t7_3 0) w k) (fun t8_4 w =>
  guardW (t4_1) false (fun k => run1 Tryd.prog Z (Instr.loadAt 4 t8_4) w k) (fun t9_5 w =>
  guardW (t4_1) false (fun k => run1 Tryd.prog Z (Op.unary UnOp.not t9_5) w k) (fun t10_6 w =>
  run1 Tryd.prog Z (pickV t4_1 (Value.bool true) t10_6) w fun t11_7 w =>
  Q t11_7 w) w) w) w) w) w
noncomputable def f37.code : Code := match Tryd.f37.body with | some c => c | none => .skip
def f37.an : An := (.sq .leaf (.sq .leaf .leaf))
theorem f37.body_eq : Tryd.f37.body = some f37.code := by kernel_rfl
theorem f37.shape (Z : List PanicEntry → World → Prop) (x0 : Value) (w : World) (Q : Value → World → Prop) : vc drawD Tryd.prog 12 Z [] f37.an f37.code (fnQ Tryd.prog 12 Tryd.f37.results Q) (argEnv [x0]) w = f37.sh Z x0 w Q := by kernel_rfl
theorem f37.enters : ∀ f, f ∈ ([] : List Nat) → Enters Tryd.prog f := by
  intro f hf
  cases hf
theorem f37.calls {Z : List PanicEntry → World → Prop} {x0 : Value} {w : World} {Q : Value → World → Prop} (h : f37.sh Z x0 w Q) : CallV Tryd.prog Z 37 #[x0] w Q :=
  calls_of_vcn drawD_sound (Q := Q) (n := 12) (rs := Tryd.f37.results) (an := f37.an) (c := f37.code) (cal := []) (args := [x0]) Tryd.func37 (by kernel_rfl) rfl f37.body_eq follows (Nat.le_of_ble_eq_true (by kernel_rfl)) (enters_of_all f37.enters) ((f37.shape Z x0 w Q).mpr h)

/-! ### 63: (*lagoon/pack.Writer).whole -/
def f63.sh (Z : List PanicEntry → World → Prop) (x0 x1 x2 : Value) (w : World) (Q : Value → World → Prop) : Prop :=
  run1 Tryd.prog Z (eqOp BinOp.eql 24 false true x0 (Value.pointer none)) w fun t8_1 w =>
  CondV t8_1 (
    Q (Value.tuple #[]) w) (
    run1 Tryd.prog Z (binOp BinOp.sub 3 x2 (Value.int IntKind.i64 1)) w fun t10_2 w =>
    ∃ J_3 : Nat → Value → World → Prop, (∃ m, J_3 m t10_2 w) ∧
      ∀ m_3, ∀ t6_4 : Value, ∀ w : World, J_3 m_3 t6_4 w → Env →
        run1 Tryd.prog Z (binOp BinOp.geq 3 t6_4 (Value.int IntKind.i64 0)) w fun t12_5 w =>
        CondV t12_5 (
          Drawn w fun w =>
          PureV Tryd.prog (nilChk x0) fun t17_6 =>
          Pure1 Tryd.prog (Instr.fieldAt 27 t17_6 0) fun t18_7 =>
          Read1 Tryd.prog (Instr.loadAt 25 t18_7) w fun t19_8 =>
          Pure1 Tryd.prog (binOp BinOp.mul 3 (Value.int IntKind.i64 8) t6_4) fun t22_9 =>
          Pure1 Tryd.prog (binOp BinOp.shr 85 x1 t22_9) fun t23_10 =>
          Pure1 Tryd.prog (convert 85 5 t23_10) fun t24_11 =>
          run1 Tryd.prog Z (Instr.buildSlice 25 1 #[(0, t24_11)]) w fun t25_12 w =>
            Still Tryd.prog (nx (Instr.loadAt 25 t18_7)) t19_8 w <|
          run1 Tryd.prog Z (Builtin.append_ #[25, 25] 25 #[t19_8, t25_12]) w fun t26_13 w =>
          PureV Tryd.prog (nilChk x0) fun t27_14 =>
          Pure1 Tryd.prog (Instr.fieldAt 27 t27_14 0) fun t28_15 =>
          run0 Tryd.prog Z (Instr.storeAt 25 t28_15 t26_13) w fun w =>
          run1 Tryd.prog Z (binOp BinOp.sub 3 t6_4 (Value.int IntKind.i64 1)) w fun t14_16 w =>
          ∃ n_3, n_3 < m_3 ∧ J_3 n_3 t14_16 w) (
          Q (Value.tuple #[]) w))
noncomputable def f63.code : Code := match Tryd.f63.body with | some c => c | none => .skip
def f63.an : An := (.sq (.sq .leaf (.cn .leaf .leaf)) (.sq .leaf (.bl (.lp [6] [6, 11, 12, 13, 14, 15, 16, 17, 18, 19, 20, 21, 22, 23, 24, 25, 26, 27, 28] (.sq (.sq .leaf (.cn .leaf .leaf)) (.sq (.bl (.dr (.take 0 false (.take 1 false (.take 2 false (.take 3 false (.take 4 true (.take 5 false (.take 6 false (.take 7 false (.take 8 false (.take 9 false (.one 10 (.one 11 (.take 12 false (.take 13 false (.one 14 .fin))))))))))))))))) .leaf))))))
theorem f63.body_eq : Tryd.f63.body = some f63.code := by kernel_rfl
theorem f63.shape (Z : List PanicEntry → World → Prop) (x0 x1 x2 : Value) (w : World) (Q : Value → World → Prop) : vc drawD Tryd.prog 29 Z [] f63.an f63.code (fnQ Tryd.prog 29 Tryd.f63.results Q) (argEnv [x0, x1, x2]) w = f63.sh Z x0 x1 x2 w Q := by kernel_rfl
theorem f63.enters : ∀ f, f ∈ ([] : List Nat) → Enters Tryd.prog f := by
  intro f hf
  cases hf
theorem f63.calls {Z : List PanicEntry → World → Prop} {x0 x1 x2 : Value} {w : World} {Q : Value → World → Prop} (h : f63.sh Z x0 x1 x2 w Q) : CallV Tryd.prog Z 63 #[x0, x1, x2] w Q :=
  calls_of_vcn drawD_sound (Q := Q) (n := 29) (rs := Tryd.f63.results) (an := f63.an) (c := f63.code) (cal := []) (args := [x0, x1, x2]) Tryd.func63 (by kernel_rfl) rfl f63.body_eq follows (Nat.le_of_ble_eq_true (by kernel_rfl)) (enters_of_all f63.enters) ((f63.shape Z x0 x1 x2 w Q).mpr h)

/-! ### 64: (*lagoon/pack.Reader).whole -/
def f64.sh (Z : List PanicEntry → World → Prop) (x0 x1 : Value) (w : World) (Q : Value → World → Prop) : Prop :=
  CallV Tryd.prog Z 89 #[x0, x1] w fun t13_1 w =>
  run1 Tryd.prog Z (Instr.extract t13_1 0) w fun t14_2 w =>
  run1 Tryd.prog Z (Instr.extract t13_1 1) w fun t15_3 w =>
  run1 Tryd.prog Z (Op.unary UnOp.not t15_3) w fun t17_4 w =>
  CondV t17_4 (
    Q (Value.int IntKind.u64 0) w) (
    run1 Tryd.prog Z (Builtin.len_ #[25] 3 #[t14_2]) w fun t19_5 w =>
    ∃ J_6 : Nat → Value → Value → World → Prop, (∃ m, J_6 m (Value.int IntKind.u64 0) (Value.int IntKind.i64 0) w) ∧
      ∀ m_6, ∀ t7_7 : Value, ∀ t20_8 : Value, ∀ w : World, J_6 m_6 t7_7 t20_8 w → Env →
        run1 Tryd.prog Z (binOp BinOp.lss 3 t20_8 t19_5) w fun t21_9 w =>
        CondV t21_9 (
          run1 Tryd.prog Z (Instr.indexAt 25 t14_2 t20_8) w fun t22_10 w =>
          run1 Tryd.prog Z (Instr.loadAt 5 t22_10) w fun t23_11 w =>
          run1 Tryd.prog Z (binOp BinOp.shl 85 t7_7 (Value.int IntKind.u64 8)) w fun t25_12 w =>
          run1 Tryd.prog Z (convert 5 85 t23_11) w fun t27_13 w =>
          run1 Tryd.prog Z (binOp BinOp.or 85 t25_12 t27_13) w fun t28_14 w =>
          run1 Tryd.prog Z (binOp BinOp.add 3 t20_8 (Value.int IntKind.i64 1)) w fun t29_15 w =>
          ∃ n_6, n_6 < m_6 ∧ J_6 n_6 t28_14 t29_15 w) (
          runX Tryd.prog Z (nilChk x0) w fun t32_16 w =>
          run1 Tryd.prog Z (Instr.fieldAt 87 t32_16 1) w fun t33_17 w =>
          run1 Tryd.prog Z (Instr.loadAt 25 t33_17) w fun t34_18 w =>
          run1 Tryd.prog Z (Instr.sliceAt 25 t34_18 (some x1) none none) w fun t36_19 w =>
          runX Tryd.prog Z (nilChk x0) w fun t37_20 w =>
          run1 Tryd.prog Z (Instr.fieldAt 87 t37_20 1) w fun t38_21 w =>
          run0 Tryd.prog Z (Instr.storeAt 25 t38_21 t36_19) w fun w =>
          Q t7_7 w))
noncomputable def f64.code : Code := match Tryd.f64.body with | some c => c | none => .skip
def f64.an : An := (.sq .leaf (.sq .leaf (.sq (.sq .leaf (.cn (.sq .leaf .leaf) .leaf)) (.sq .leaf (.sq (.sq .leaf (.bl (.lp [7, 20] [7, 9, 20, 21, 22, 23, 24, 25, 26, 27, 28, 29] (.sq .leaf (.sq (.cn .leaf .leaf) (.sq (.bl (.sq .leaf .leaf)) .leaf)))))) (.sq .leaf (.sq .leaf .leaf)))))))
theorem f64.body_eq : Tryd.f64.body = some f64.code := by kernel_rfl
theorem f64.shape (Z : List PanicEntry → World → Prop) (x0 x1 : Value) (w : World) (Q : Value → World → Prop) : vc drawD Tryd.prog 40 Z [89] f64.an f64.code (fnQ Tryd.prog 40 Tryd.f64.results Q) (argEnv [x0, x1]) w = f64.sh Z x0 x1 w Q := by kernel_rfl
theorem f64.enters : ∀ f, f ∈ ([89] : List Nat) → Enters Tryd.prog f := by
  intro f hf
  simp only [List.mem_cons, List.not_mem_nil, or_false] at hf
  rcases hf with rfl
  · exact en89
theorem f64.calls {Z : List PanicEntry → World → Prop} {x0 x1 : Value} {w : World} {Q : Value → World → Prop} (h : f64.sh Z x0 x1 w Q) : CallV Tryd.prog Z 64 #[x0, x1] w Q :=
  calls_of_vcn drawD_sound (Q := Q) (n := 40) (rs := Tryd.f64.results) (an := f64.an) (c := f64.code) (cal := [89]) (args := [x0, x1]) Tryd.func64 (by kernel_rfl) rfl f64.body_eq follows (Nat.le_of_ble_eq_true (by kernel_rfl)) (enters_of_all f64.enters) ((f64.shape Z x0 x1 w Q).mpr h)

/-! ### 65: strconv.Itoa -/
def f65.sh (Z : List PanicEntry → World → Prop) (x0 : Value) (w : World) (Q : Value → World → Prop) : Prop :=
  CallV Tryd.prog Z 90 #[x0] w fun t4_1 w =>
  Q t4_1 w
noncomputable def f65.code : Code := match Tryd.f65.body with | some c => c | none => .skip
def f65.an : An := (.sq .leaf (.sq .leaf .leaf))
theorem f65.body_eq : Tryd.f65.body = some f65.code := by kernel_rfl
theorem f65.shape (Z : List PanicEntry → World → Prop) (x0 : Value) (w : World) (Q : Value → World → Prop) : vc drawD Tryd.prog 5 Z [90] f65.an f65.code (fnQ Tryd.prog 5 Tryd.f65.results Q) (argEnv [x0]) w = f65.sh Z x0 w Q := by kernel_rfl
theorem f65.enters : ∀ f, f ∈ ([90] : List Nat) → Enters Tryd.prog f := by
  intro f hf
  simp only [List.mem_cons, List.not_mem_nil, or_false] at hf
  rcases hf with rfl
  · exact en90
theorem f65.calls {Z : List PanicEntry → World → Prop} {x0 : Value} {w : World} {Q : Value → World → Prop} (h : f65.sh Z x0 w Q) : CallV Tryd.prog Z 65 #[x0] w Q :=
  calls_of_vcn drawD_sound (Q := Q) (n := 5) (rs := Tryd.f65.results) (an := f65.an) (c := f65.code) (cal := [90]) (args := [x0]) Tryd.func65 (by kernel_rfl) rfl f65.body_eq follows (Nat.le_of_ble_eq_true (by kernel_rfl)) (enters_of_all f65.enters) ((f65.shape Z x0 w Q).mpr h)

/-! ### 89: (*lagoon/pack.Reader).ahead -/
def f89.sh (Z : List PanicEntry → World → Prop) (x0 x1 : Value) (w : World) (Q : Value → World → Prop) : Prop :=
  CallV Tryd.prog Z 35 #[x0] w fun t7_1 w =>
  run1 Tryd.prog Z (Op.unary UnOp.not t7_1) w fun t8_2 w =>
  CondV t8_2 (
    Q (Value.tuple #[(Value.slice none 0 0), (Value.bool false)]) w) (
    runX Tryd.prog Z (nilChk x0) w fun t10_3 w =>
    run1 Tryd.prog Z (Instr.fieldAt 87 t10_3 1) w fun t11_4 w =>
    run1 Tryd.prog Z (Instr.loadAt 25 t11_4) w fun t12_5 w =>
    run1 Tryd.prog Z (Builtin.len_ #[25] 3 #[t12_5]) w fun t13_6 w =>
    run1 Tryd.prog Z (binOp BinOp.lss 3 t13_6 x1) w fun t15_7 w =>
    CondV t15_7 (
      runX Tryd.prog Z (nilChk x0) w fun t17_8 w =>
      run1 Tryd.prog Z (Instr.fieldAt 87 t17_8 2) w fun t18_9 w =>
      run0 Tryd.prog Z (Instr.storeAt 37 t18_9 (Value.int IntKind.i64 10)) w fun w =>
      Q (Value.tuple #[(Value.slice none 0 0), (Value.bool false)]) w) (
      runX Tryd.prog Z (nilChk x0) w fun t20_10 w =>
      run1 Tryd.prog Z (Instr.fieldAt 87 t20_10 1) w fun t21_11 w =>
      run1 Tryd.prog Z (Instr.loadAt 25 t21_11) w fun t22_12 w =>
      run1 Tryd.prog Z (Instr.sliceAt 25 t22_12 none (some x1) (some x1)) w fun t25_13 w =>
      Q (Value.tuple #[t25_13, (Value.bool true)]) w))
noncomputable def f89.code : Code := match Tryd.f89.body with | some c => c | none => .skip
def f89.an : An := (.sq .leaf (.sq (.sq .leaf (.cn (.sq .leaf .leaf) .leaf)) (.sq (.sq .leaf (.cn (.sq .leaf (.sq .leaf .leaf)) .leaf)) (.sq .leaf .leaf))))
theorem f89.body_eq : Tryd.f89.body = some f89.code := by kernel_rfl
theorem f89.shape (Z : List PanicEntry → World → Prop) (x0 x1 : Value) (w : World) (Q : Value → World → Prop) : vc drawD Tryd.prog 26 Z [35] f89.an f89.code (fnQ Tryd.prog 26 Tryd.f89.results Q) (argEnv [x0, x1]) w = f89.sh Z x0 x1 w Q := by kernel_rfl
theorem f89.enters : ∀ f, f ∈ ([35] : List Nat) → Enters Tryd.prog f := by
  intro f hf
  simp only [List.mem_cons, List.not_mem_nil, or_false] at hf
  rcases hf with rfl
  · exact en35
theorem f89.calls {Z : List PanicEntry → World → Prop} {x0 x1 : Value} {w : World} {Q : Value → World → Prop} (h : f89.sh Z x0 x1 w Q) : CallV Tryd.prog Z 89 #[x0, x1] w Q :=
  calls_of_vcn drawD_sound (Q := Q) (n := 26) (rs := Tryd.f89.results) (an := f89.an) (c := f89.code) (cal := [35]) (args := [x0, x1]) Tryd.func89 (by kernel_rfl) rfl f89.body_eq follows (Nat.le_of_ble_eq_true (by kernel_rfl)) (enters_of_all f89.enters) ((f89.shape Z x0 x1 w Q).mpr h)

/-! ### 90: internal/strconv.Itoa -/
def f90.sh (Z : List PanicEntry → World → Prop) (x0 : Value) (w : World) (Q : Value → World → Prop) : Prop :=
  CallV Tryd.prog Z 91 #[x0, (Value.int IntKind.i64 10)] w fun t4_1 w =>
  Q t4_1 w
noncomputable def f90.code : Code := match Tryd.f90.body with | some c => c | none => .skip
def f90.an : An := (.sq .leaf (.sq .leaf .leaf))
theorem f90.body_eq : Tryd.f90.body = some f90.code := by kernel_rfl
theorem f90.shape (Z : List PanicEntry → World → Prop) (x0 : Value) (w : World) (Q : Value → World → Prop) : vc drawD Tryd.prog 5 Z [91] f90.an f90.code (fnQ Tryd.prog 5 Tryd.f90.results Q) (argEnv [x0]) w = f90.sh Z x0 w Q := by kernel_rfl
theorem f90.enters : ∀ f, f ∈ ([91] : List Nat) → Enters Tryd.prog f := by
  intro f hf
  simp only [List.mem_cons, List.not_mem_nil, or_false] at hf
  rcases hf with rfl
  · exact en91
theorem f90.calls {Z : List PanicEntry → World → Prop} {x0 : Value} {w : World} {Q : Value → World → Prop} (h : f90.sh Z x0 w Q) : CallV Tryd.prog Z 90 #[x0] w Q :=
  calls_of_vcn drawD_sound (Q := Q) (n := 5) (rs := Tryd.f90.results) (an := f90.an) (c := f90.code) (cal := [91]) (args := [x0]) Tryd.func90 (by kernel_rfl) rfl f90.body_eq follows (Nat.le_of_ble_eq_true (by kernel_rfl)) (enters_of_all f90.enters) ((f90.shape Z x0 w Q).mpr h)

/-! ### 91: internal/strconv.FormatInt -/
def f91.sh (Z : List PanicEntry → World → Prop) (x0 x1 : Value) (w : World) (Q : Value → World → Prop) : Prop :=
  run1 Tryd.prog Z (eqOp BinOp.eql 3 false true x1 (Value.int IntKind.i64 10)) w fun t11_1 w =>
  CondV t11_1 (
    run1 Tryd.prog Z (binOp BinOp.leq 2 (Value.int IntKind.i64 0) x0) w fun t13_2 w =>
    guardW (t13_2) true (fun k => k (x0) w) (fun t15_3 w =>
    guardW (t13_2) true (fun k => run1 Tryd.prog Z (binOp BinOp.lss 2 t15_3 (Value.int IntKind.i64 100)) w k) (fun t16_4 w =>
    run1 Tryd.prog Z (pickV t13_2 t16_4 (Value.bool false)) w fun t17_5 w =>
    CondV t17_5 (
      CallV Tryd.prog Z 92 #[x0] w fun t19_6 w =>
      Q t19_6 w) (
      run1 Tryd.prog Z (Instr.alloc 199 true (.tuple #[])) w fun t5_7 w =>
      run1 Tryd.prog Z (convert 2 85 x0) w fun t21_8 w =>
      ∀ j_9 : Value → World → Prop, (∀ t6_10 : Value, ∀ w : World, (Env →
          CallV Tryd.prog Z 93 #[t6_10] w fun t27_11 w =>
          run1 Tryd.prog Z (binOp BinOp.add 3 (Value.int IntKind.i64 1) t27_11) w fun t29_12 w =>
          run1 Tryd.prog Z (Instr.sliceAt 199 t5_7 (some (Value.int IntKind.i64 1)) (some t29_12) none) w fun t30_13 w =>
          CallV Tryd.prog Z 94 #[t30_13, t6_10] w fun t32_14 w =>
          run1 Tryd.prog Z (binOp BinOp.lss 2 x0 (Value.int IntKind.i64 0)) w fun t34_15 w =>
          CondV t34_15 (
            run1 Tryd.prog Z (Instr.indexAt 199 t5_7 (Value.int IntKind.i64 0)) w fun t35_16 w =>
            run0 Tryd.prog Z (Instr.storeAt 5 t35_16 (Value.int IntKind.u8 45)) w fun w =>
            run1 Tryd.prog Z (binOp BinOp.add 3 (Value.int IntKind.i64 1) t27_11) w fun t37_17 w =>
            run1 Tryd.prog Z (Instr.sliceAt 199 t5_7 none (some t37_17) none) w fun t38_18 w =>
            run1 Tryd.prog Z (convert 25 9 t38_18) w fun t39_19 w =>
            Q t39_19 w) (
            run1 Tryd.prog Z (binOp BinOp.add 3 (Value.int IntKind.i64 1) t27_11) w fun t41_20 w =>
            run1 Tryd.prog Z (Instr.sliceAt 199 t5_7 (some (Value.int IntKind.i64 1)) (some t41_20) none) w fun t42_21 w =>
            run1 Tryd.prog Z (convert 25 9 t42_21) w fun t43_22 w =>
            Q t43_22 w)) →
          j_9 t6_10 w) →
      run1 Tryd.prog Z (binOp BinOp.lss 2 x0 (Value.int IntKind.i64 0)) w fun t23_23 w =>
      CondV t23_23 (
        run1 Tryd.prog Z (Op.unary UnOp.neg t21_8) w fun t25_24 w =>
        j_9 t25_24 w) (
        j_9 t21_8 w))) w) w) (
    run1 Tryd.prog Z (convert 2 85 x0) w fun t46_25 w =>
    run1 Tryd.prog Z (binOp BinOp.lss 2 x0 (Value.int IntKind.i64 0)) w fun t49_26 w =>
    CallV Tryd.prog Z 95 #[(Value.slice none 0 0), t46_25, x1, t49_26, (Value.bool false)] w fun t50_27 w =>
    run1 Tryd.prog Z (Instr.extract t50_27 0) w fun t51_28 w =>
    run1 Tryd.prog Z (Instr.extract t50_27 1) w fun t52_29 w =>
    Q t52_29 w)
noncomputable def f91.code : Code := match Tryd.f91.body with | some c => c | none => .skip
def f91.an : An := (.sq .leaf (.sq (.sq .leaf (.cn (.sq (.sq .leaf (.cn (.sq .leaf .leaf) .leaf)) (.sq .leaf (.sq .leaf (.sj [6] [6, 22, 23, 24, 25] (.sq .leaf (.cn .leaf .leaf)) (.sq .leaf (.sq .leaf (.sq (.sq .leaf (.cn (.sq .leaf (.sq .leaf .leaf)) .leaf)) (.sq .leaf .leaf)))))))) .leaf)) (.sq .leaf (.sq .leaf .leaf))))
theorem f91.body_eq : Tryd.f91.body = some f91.code := by kernel_rfl
theorem f91.shape (Z : List PanicEntry → World → Prop) (x0 x1 : Value) (w : World) (Q : Value → World → Prop) : vc drawD Tryd.prog 54 Z [92, 93, 94, 95] f91.an f91.code (fnQ Tryd.prog 54 Tryd.f91.results Q) (argEnv [x0, x1]) w = f91.sh Z x0 x1 w Q := by kernel_rfl
theorem f91.enters : ∀ f, f ∈ ([92, 93, 94, 95] : List Nat) → Enters Tryd.prog f := by
  intro f hf
  simp only [List.mem_cons, List.not_mem_nil, or_false] at hf
  rcases hf with rfl | rfl | rfl | rfl
  · exact en92
  · exact en93
  · exact en94
  · exact en95
theorem f91.calls {Z : List PanicEntry → World → Prop} {x0 x1 : Value} {w : World} {Q : Value → World → Prop} (h : f91.sh Z x0 x1 w Q) : CallV Tryd.prog Z 91 #[x0, x1] w Q :=
  calls_of_vcn drawD_sound (Q := Q) (n := 54) (rs := Tryd.f91.results) (an := f91.an) (c := f91.code) (cal := [92, 93, 94, 95]) (args := [x0, x1]) Tryd.func91 (by kernel_rfl) rfl f91.body_eq follows (Nat.le_of_ble_eq_true (by kernel_rfl)) (enters_of_all f91.enters) ((f91.shape Z x0 x1 w Q).mpr h)

/-! ### 92: internal/strconv.small -/
def f92.sh (Z : List PanicEntry → World → Prop) (x0 : Value) (w : World) (Q : Value → World → Prop) : Prop :=
  run1 Tryd.prog Z (binOp BinOp.lss 3 x0 (Value.int IntKind.i64 10)) w fun t4_1 w =>
  CondV t4_1 (
    run1 Tryd.prog Z (binOp BinOp.add 3 x0 (Value.int IntKind.i64 1)) w fun t7_2 w =>
    run1 Tryd.prog Z (Instr.sliceAt 9 (Value.string { data := #[48, 49, 50, 51, 52, 53, 54, 55, 56, 57, 97, 98, 99, 100, 101, 102, 103, 104, 105, 106, 107, 108, 109, 110, 111, 112, 113, 114, 115, 116, 117, 118, 119, 120, 121, 122] }) (some x0) (some t7_2) none) w fun t8_3 w =>
    Q t8_3 w) (
    run1 Tryd.prog Z (binOp BinOp.mul 3 x0 (Value.int IntKind.i64 2)) w fun t10_4 w =>
    run1 Tryd.prog Z (binOp BinOp.mul 3 x0 (Value.int IntKind.i64 2)) w fun t12_5 w =>
    run1 Tryd.prog Z (binOp BinOp.add 3 t12_5 (Value.int IntKind.i64 2)) w fun t13_6 w =>
    run1 Tryd.prog Z (Instr.sliceAt 9 (Value.string { data := #[48, 48, 48, 49, 48, 50, 48, 51, 48, 52, 48, 53, 48, 54, 48, 55, 48, 56, 48, 57, 49, 48, 49, 49, 49, 50, 49, 51, 49, 52, 49, 53, 49, 54, 49, 55, 49, 56, 49, 57, 50, 48, 50, 49, 50, 50, 50, 51, 50, 52, 50, 53, 50, 54, 50, 55, 50, 56, 50, 57, 51, 48, 51, 49, 51, 50, 51, 51, 51, 52, 51, 53, 51, 54, 51, 55, 51, 56, 51, 57, 52, 48, 52, 49, 52, 50, 52, 51, 52, 52, 52, 53, 52, 54, 52, 55, 52, 56, 52, 57, 53, 48, 53, 49, 53, 50, 53, 51, 53, 52, 53, 53, 53, 54, 53, 55, 53, 56, 53, 57, 54, 48, 54, 49, 54, 50, 54, 51, 54, 52, 54, 53, 54, 54, 54, 55, 54, 56, 54, 57, 55, 48, 55, 49, 55, 50, 55, 51, 55, 52, 55, 53, 55, 54, 55, 55, 55, 56, 55, 57, 56, 48, 56, 49, 56, 50, 56, 51, 56, 52, 56, 53, 56, 54, 56, 55, 56, 56, 56, 57, 57, 48, 57, 49, 57, 50, 57, 51, 57, 52, 57, 53, 57, 54, 57, 55, 57, 56, 57, 57] }) (some t10_4) (some t13_6) none) w fun t14_7 w =>
    Q t14_7 w)
noncomputable def f92.code : Code := match Tryd.f92.body with | some c => c | none => .skip
def f92.an : An := (.sq .leaf (.sq (.sq .leaf (.cn (.sq .leaf .leaf) .leaf)) (.sq .leaf .leaf)))
theorem f92.body_eq : Tryd.f92.body = some f92.code := by kernel_rfl
theorem f92.shape (Z : List PanicEntry → World → Prop) (x0 : Value) (w : World) (Q : Value → World → Prop) : vc drawD Tryd.prog 15 Z [] f92.an f92.code (fnQ Tryd.prog 15 Tryd.f92.results Q) (argEnv [x0]) w = f92.sh Z x0 w Q := by kernel_rfl
theorem f92.enters : ∀ f, f ∈ ([] : List Nat) → Enters Tryd.prog f := by
  intro f hf
  cases hf
theorem f92.calls {Z : List PanicEntry → World → Prop} {x0 : Value} {w : World} {Q : Value → World → Prop} (h : f92.sh Z x0 w Q) : CallV Tryd.prog Z 92 #[x0] w Q :=
  calls_of_vcn drawD_sound (Q := Q) (n := 15) (rs := Tryd.f92.results) (an := f92.an) (c := f92.code) (cal := []) (args := [x0]) Tryd.func92 (by kernel_rfl) rfl f92.body_eq follows (Nat.le_of_ble_eq_true (by kernel_rfl)) (enters_of_all f92.enters) ((f92.shape Z x0 w Q).mpr h)

/-! ### 93: internal/strconv.numDigits -/
def f93.sh (Z : List PanicEntry → World → Prop) (x0 : Value) (w : World) (Q : Value → World → Prop) : Prop :=
  CallV Tryd.prog Z 97 #[x0] w fun t5_1 w =>
  CallV Tryd.prog Z 96 #[t5_1] w fun t6_2 w =>
  run1 Tryd.prog Z (Instr.indexAt 205 (Value.pointer (some ⟨0, 0, none⟩)) t6_2) w fun t10_3 w =>
  run1 Tryd.prog Z (Instr.loadAt 85 t10_3) w fun t11_4 w =>
  run1 Tryd.prog Z (binOp BinOp.geq 85 x0 t11_4) w fun t12_5 w =>
  CallV Tryd.prog Z 98 #[t12_5] w fun t13_6 w =>
  run1 Tryd.prog Z (binOp BinOp.add 3 t6_2 t13_6) w fun t14_7 w =>
  Q t14_7 w
noncomputable def f93.code : Code := match Tryd.f93.body with | some c => c | none => .skip
def f93.an : An := (.sq .leaf (.sq .leaf (.sq .leaf .leaf)))
theorem f93.body_eq : Tryd.f93.body = some f93.code := by kernel_rfl
theorem f93.shape (Z : List PanicEntry → World → Prop) (x0 : Value) (w : World) (Q : Value → World → Prop) : vc drawD Tryd.prog 15 Z [97, 96, 98] f93.an f93.code (fnQ Tryd.prog 15 Tryd.f93.results Q) (argEnv [x0]) w = f93.sh Z x0 w Q := by kernel_rfl
theorem f93.enters : ∀ f, f ∈ ([97, 96, 98] : List Nat) → Enters Tryd.prog f := by
  intro f hf
  simp only [List.mem_cons, List.not_mem_nil, or_false] at hf
  rcases hf with rfl | rfl | rfl
  · exact en97
  · exact en96
  · exact en98
theorem f93.calls {Z : List PanicEntry → World → Prop} {x0 : Value} {w : World} {Q : Value → World → Prop} (h : f93.sh Z x0 w Q) : CallV Tryd.prog Z 93 #[x0] w Q :=
  calls_of_vcn drawD_sound (Q := Q) (n := 15) (rs := Tryd.f93.results) (an := f93.an) (c := f93.code) (cal := [97, 96, 98]) (args := [x0]) Tryd.func93 (by kernel_rfl) rfl f93.body_eq follows (Nat.le_of_ble_eq_true (by kernel_rfl)) (enters_of_all f93.enters) ((f93.shape Z x0 w Q).mpr h)

/-! ### 94: internal/strconv.formatBase10 -/
def f94.sh (Z : List PanicEntry → World → Prop) (x0 x1 : Value) (w : World) (Q : Value → World → Prop) : Prop :=
  run1 Tryd.prog Z (Builtin.len_ #[25] 3 #[x0]) w fun t18_1 w =>
  ∃ J_2 : Nat → Value → Value → World → Prop, (∃ m, J_2 m x1 t18_1 w) ∧
    ∀ m_2, ∀ t1_3 : Value, ∀ t4_4 : Value, ∀ w : World, J_2 m_2 t1_3 t4_4 w → Env →
      run1 Tryd.prog Z (binOp BinOp.geq 3 t4_4 (Value.int IntKind.i64 8)) w fun t20_5 w =>
      CondV t20_5 (
        run1 Tryd.prog Z (binOp BinOp.rem 85 t1_3 (Value.int IntKind.u64 100000000)) w fun t22_6 w =>
        run1 Tryd.prog Z (convert 85 81 t22_6) w fun t23_7 w =>
        run1 Tryd.prog Z (binOp BinOp.quo 85 t1_3 (Value.int IntKind.u64 100000000)) w fun t25_8 w =>
        run1 Tryd.prog Z (binOp BinOp.quo 81 t23_7 (Value.int IntKind.u32 10000)) w fun t27_9 w =>
        run1 Tryd.prog Z (binOp BinOp.rem 81 t23_7 (Value.int IntKind.u32 10000)) w fun t29_10 w =>
        run1 Tryd.prog Z (binOp BinOp.quo 81 t29_10 (Value.int IntKind.u32 100)) w fun t31_11 w =>
        run1 Tryd.prog Z (binOp BinOp.mul 81 t31_11 (Value.int IntKind.u32 2)) w fun t32_12 w =>
        run1 Tryd.prog Z (binOp BinOp.rem 81 t29_10 (Value.int IntKind.u32 100)) w fun t34_13 w =>
        run1 Tryd.prog Z (binOp BinOp.mul 81 t34_13 (Value.int IntKind.u32 2)) w fun t35_14 w =>
        run1 Tryd.prog Z (binOp BinOp.quo 81 t27_9 (Value.int IntKind.u32 100)) w fun t37_15 w =>
        run1 Tryd.prog Z (binOp BinOp.mul 81 t37_15 (Value.int IntKind.u32 2)) w fun t38_16 w =>
        run1 Tryd.prog Z (binOp BinOp.rem 81 t27_9 (Value.int IntKind.u32 100)) w fun t40_17 w =>
        run1 Tryd.prog Z (binOp BinOp.mul 81 t40_17 (Value.int IntKind.u32 2)) w fun t41_18 w =>
        Drawn w fun w =>
        Pure1 Tryd.prog (binOp BinOp.sub 3 t4_4 (Value.int IntKind.i64 1)) fun t44_19 =>
        Pure1 Tryd.prog (binOp BinOp.sub 3 t4_4 (Value.int IntKind.i64 2)) fun t47_20 =>
        Pure1 Tryd.prog (binOp BinOp.add 81 t35_14 (Value.int IntKind.u32 1)) fun t49_21 =>
        Pure1 Tryd.prog (Instr.index 9 (Value.string { data := #[48, 48, 48, 49, 48, 50, 48, 51, 48, 52, 48, 53, 48, 54, 48, 55, 48, 56, 48, 57, 49, 48, 49, 49, 49, 50, 49, 51, 49, 52, 49, 53, 49, 54, 49, 55, 49, 56, 49, 57, 50, 48, 50, 49, 50, 50, 50, 51, 50, 52, 50, 53, 50, 54, 50, 55, 50, 56, 50, 57, 51, 48, 51, 49, 51, 50, 51, 51, 51, 52, 51, 53, 51, 54, 51, 55, 51, 56, 51, 57, 52, 48, 52, 49, 52, 50, 52, 51, 52, 52, 52, 53, 52, 54, 52, 55, 52, 56, 52, 57, 53, 48, 53, 49, 53, 50, 53, 51, 53, 52, 53, 53, 53, 54, 53, 55, 53, 56, 53, 57, 54, 48, 54, 49, 54, 50, 54, 51, 54, 52, 54, 53, 54, 54, 54, 55, 54, 56, 54, 57, 55, 48, 55, 49, 55, 50, 55, 51, 55, 52, 55, 53, 55, 54, 55, 55, 55, 56, 55, 57, 56, 48, 56, 49, 56, 50, 56, 51, 56, 52, 56, 53, 56, 54, 56, 55, 56, 56, 56, 57, 57, 48, 57, 49, 57, 50, 57, 51, 57, 52, 57, 53, 57, 54, 57, 55, 57, 56, 57, 57] }) t49_21) fun t50_22 =>
        Pure1 Tryd.prog (Instr.index 9 (Value.string { data := #[48, 48, 48, 49, 48, 50, 48, 51, 48, 52, 48, 53, 48, 54, 48, 55, 48, 56, 48, 57, 49, 48, 49, 49, 49, 50, 49, 51, 49, 52, 49, 53, 49, 54, 49, 55, 49, 56, 49, 57, 50, 48, 50, 49, 50, 50, 50, 51, 50, 52, 50, 53, 50, 54, 50, 55, 50, 56, 50, 57, 51, 48, 51, 49, 51, 50, 51, 51, 51, 52, 51, 53, 51, 54, 51, 55, 51, 56, 51, 57, 52, 48, 52, 49, 52, 50, 52, 51, 52, 52, 52, 53, 52, 54, 52, 55, 52, 56, 52, 57, 53, 48, 53, 49, 53, 50, 53, 51, 53, 52, 53, 53, 53, 54, 53, 55, 53, 56, 53, 57, 54, 48, 54, 49, 54, 50, 54, 51, 54, 52, 54, 53, 54, 54, 54, 55, 54, 56, 54, 57, 55, 48, 55, 49, 55, 50, 55, 51, 55, 52, 55, 53, 55, 54, 55, 55, 55, 56, 55, 57, 56, 48, 56, 49, 56, 50, 56, 51, 56, 52, 56, 53, 56, 54, 56, 55, 56, 56, 56, 57, 57, 48, 57, 49, 57, 50, 57, 51, 57, 52, 57, 53, 57, 54, 57, 55, 57, 56, 57, 57] }) t35_14) fun t52_23 =>
        Pure1 Tryd.prog (Instr.indexAt 25 x0 t44_19) fun t53_24 =>
        run0 Tryd.prog Z (Instr.storeAt 5 t53_24 t50_22) w fun w =>
        Pure1 Tryd.prog (Instr.indexAt 25 x0 t47_20) fun t54_25 =>
        run0 Tryd.prog Z (Instr.storeAt 5 t54_25 t52_23) w fun w =>
        Drawn w fun w =>
        Pure1 Tryd.prog (binOp BinOp.sub 3 t4_4 (Value.int IntKind.i64 3)) fun t57_26 =>
        Pure1 Tryd.prog (binOp BinOp.sub 3 t4_4 (Value.int IntKind.i64 4)) fun t60_27 =>
        Pure1 Tryd.prog (binOp BinOp.add 81 t32_12 (Value.int IntKind.u32 1)) fun t62_28 =>
        Pure1 Tryd.prog (Instr.index 9 (Value.string { data := #[48, 48, 48, 49, 48, 50, 48, 51, 48, 52, 48, 53, 48, 54, 48, 55, 48, 56, 48, 57, 49, 48, 49, 49, 49, 50, 49, 51, 49, 52, 49, 53, 49, 54, 49, 55, 49, 56, 49, 57, 50, 48, 50, 49, 50, 50, 50, 51, 50, 52, 50, 53, 50, 54, 50, 55, 50, 56, 50, 57, 51, 48, 51, 49, 51, 50, 51, 51, 51, 52, 51, 53, 51, 54, 51, 55, 51, 56, 51, 57, 52, 48, 52, 49, 52, 50, 52, 51, 52, 52, 52, 53, 52, 54, 52, 55, 52, 56, 52, 57, 53, 48, 53, 49, 53, 50, 53, 51, 53, 52, 53, 53, 53, 54, 53, 55, 53, 56, 53, 57, 54, 48, 54, 49, 54, 50, 54, 51, 54, 52, 54, 53, 54, 54, 54, 55, 54, 56, 54, 57, 55, 48, 55, 49, 55, 50, 55, 51, 55, 52, 55, 53, 55, 54, 55, 55, 55, 56, 55, 57, 56, 48, 56, 49, 56, 50, 56, 51, 56, 52, 56, 53, 56, 54, 56, 55, 56, 56, 56, 57, 57, 48, 57, 49, 57, 50, 57, 51, 57, 52, 57, 53, 57, 54, 57, 55, 57, 56, 57, 57] }) t62_28) fun t63_29 =>
        Pure1 Tryd.prog (Instr.index 9 (Value.string { data := #[48, 48, 48, 49, 48, 50, 48, 51, 48, 52, 48, 53, 48, 54, 48, 55, 48, 56, 48, 57, 49, 48, 49, 49, 49, 50, 49, 51, 49, 52, 49, 53, 49, 54, 49, 55, 49, 56, 49, 57, 50, 48, 50, 49, 50, 50, 50, 51, 50, 52, 50, 53, 50, 54, 50, 55, 50, 56, 50, 57, 51, 48, 51, 49, 51, 50, 51, 51, 51, 52, 51, 53, 51, 54, 51, 55, 51, 56, 51, 57, 52, 48, 52, 49, 52, 50, 52, 51, 52, 52, 52, 53, 52, 54, 52, 55, 52, 56, 52, 57, 53, 48, 53, 49, 53, 50, 53, 51, 53, 52, 53, 53, 53, 54, 53, 55, 53, 56, 53, 57, 54, 48, 54, 49, 54, 50, 54, 51, 54, 52, 54, 53, 54, 54, 54, 55, 54, 56, 54, 57, 55, 48, 55, 49, 55, 50, 55, 51, 55, 52, 55, 53, 55, 54, 55, 55, 55, 56, 55, 57, 56, 48, 56, 49, 56, 50, 56, 51, 56, 52, 56, 53, 56, 54, 56, 55, 56, 56, 56, 57, 57, 48, 57, 49, 57, 50, 57, 51, 57, 52, 57, 53, 57, 54, 57, 55, 57, 56, 57, 57] }) t32_12) fun t65_30 =>
        Pure1 Tryd.prog (Instr.indexAt 25 x0 t57_26) fun t66_31 =>
        run0 Tryd.prog Z (Instr.storeAt 5 t66_31 t63_29) w fun w =>
        Pure1 Tryd.prog (Instr.indexAt 25 x0 t60_27) fun t67_32 =>
        run0 Tryd.prog Z (Instr.storeAt 5 t67_32 t65_30) w fun w =>
        Drawn w fun w =>
        Pure1 Tryd.prog (binOp BinOp.sub 3 t4_4 (Value.int IntKind.i64 5)) fun t70_33 =>
        Pure1 Tryd.prog (binOp BinOp.sub 3 t4_4 (Value.int IntKind.i64 6)) fun t73_34 =>
        Pure1 Tryd.prog (binOp BinOp.add 81 t41_18 (Value.int IntKind.u32 1)) fun t75_35 =>
        Pure1 Tryd.prog (Instr.index 9 (Value.string { data := #[48, 48, 48, 49, 48, 50, 48, 51, 48, 52, 48, 53, 48, 54, 48, 55, 48, 56, 48, 57, 49, 48, 49, 49, 49, 50, 49, 51, 49, 52, 49, 53, 49, 54, 49, 55, 49, 56, 49, 57, 50, 48, 50, 49, 50, 50, 50, 51, 50, 52, 50, 53, 50, 54, 50, 55, 50, 56, 50, 57, 51, 48, 51, 49, 51, 50, 51, 51, 51, 52, 51, 53, 51, 54, 51, 55, 51, 56, 51, 57, 52, 48, 52, 49, 52, 50, 52, 51, 52, 52, 52, 53, 52, 54, 52, 55, 52, 56, 52, 57, 53, 48, 53, 49, 53, 50, 53, 51, 53, 52, 53, 53, 53, 54, 53, 55, 53, 56, 53, 57, 54, 48, 54, 49, 54, 50, 54, 51, 54, 52, 54, 53, 54, 54, 54, 55, 54, 56, 54, 57, 55, 48, 55, 49, 55, 50, 55, 51, 55, 52, 55, 53, 55, 54, 55, 55, 55, 56, 55, 57, 56, 48, 56, 49, 56, 50, 56, 51, 56, 52, 56, 53, 56, 54, 56, 55, 56, 56, 56, 57, 57, 48, 57, 49, 57, 50, 57, 51, 57, 52, 57, 53, 57, 54, 57, 55, 57, 56, 57, 57] }) t75_35) fun t76_36 =>
        Pure1 Tryd.prog (Instr.index 9 (Value.string { data := #[48, 48, 48, 49, 48, 50, 48, 51, 48, 52, 48, 53, 48, 54, 48, 55, 48, 56, 48, 57, 49, 48, 49, 49, 49, 50, 49, 51, 49, 52, 49, 53, 49, 54, 49, 55, 49, 56, 49, 57, 50, 48, 50, 49, 50, 50, 50, 51, 50, 52, 50, 53, 50, 54, 50, 55, 50, 56, 50, 57, 51, 48, 51, 49, 51, 50, 51, 51, 51, 52, 51, 53, 51, 54, 51, 55, 51, 56, 51, 57, 52, 48, 52, 49, 52, 50, 52, 51, 52, 52, 52, 53, 52, 54, 52, 55, 52, 56, 52, 57, 53, 48, 53, 49, 53, 50, 53, 51, 53, 52, 53, 53, 53, 54, 53, 55, 53, 56, 53, 57, 54, 48, 54, 49, 54, 50, 54, 51, 54, 52, 54, 53, 54, 54, 54, 55, 54, 56, 54, 57, 55, 48, 55, 49, 55, 50, 55, 51, 55, 52, 55, 53, 55, 54, 55, 55, 55, 56, 55, 57, 56, 48, 56, 49, 56, 50, 56, 51, 56, 52, 56, 53, 56, 54, 56, 55, 56, 56, 56, 57, 57, 48, 57, 49, 57, 50, 57, 51, 57, 52, 57, 53, 57, 54, 57, 55, 57, 56, 57, 57] }) t41_18) fun t78_37 =>
        Pure1 Tryd.prog (Instr.indexAt 25 x0 t70_33) fun t79_38 =>
        run0 Tryd.prog Z (Instr.storeAt 5 t79_38 t76_36) w fun w =>
        Pure1 Tryd.prog (Instr.indexAt 25 x0 t73_34) fun t80_39 =>
        run0 Tryd.prog Z (Instr.storeAt 5 t80_39 t78_37) w fun w =>
        Drawn w fun w =>
        Pure1 Tryd.prog (binOp BinOp.sub 3 t4_4 (Value.int IntKind.i64 7)) fun t83_40 =>
        Pure1 Tryd.prog (binOp BinOp.sub 3 t4_4 (Value.int IntKind.i64 8)) fun t86_41 =>
        Pure1 Tryd.prog (binOp BinOp.add 81 t38_16 (Value.int IntKind.u32 1)) fun t88_42 =>
        Pure1 Tryd.prog (Instr.index 9 (Value.string { data := #[48, 48, 48, 49, 48, 50, 48, 51, 48, 52, 48, 53, 48, 54, 48, 55, 48, 56, 48, 57, 49, 48, 49, 49, 49, 50, 49, 51, 49, 52, 49, 53, 49, 54, 49, 55, 49, 56, 49, 57, 50, 48, 50, 49, 50, 50, 50, 51, 50, 52, 50, 53, 50, 54, 50, 55, 50, 56, 50, 57, 51, 48, 51, 49, 51, 50, 51, 51, 51, 52, 51, 53, 51, 54, 51, 55, 51, 56, 51, 57, 52, 48, 52, 49, 52, 50, 52, 51, 52, 52, 52, 53, 52, 54, 52, 55, 52, 56, 52, 57, 53, 48, 53, 49, 53, 50, 53, 51, 53, 52, 53, 53, 53, 54, 53, 55, 53, 56, 53, 57, 54, 48, 54, 49, 54, 50, 54, 51, 54, 52, 54, 53, 54, 54, 54, 55, 54, 56, 54, 57, 55, 48, 55, 49, 55, 50, 55, 51, 55, 52, 55, 53, 55, 54, 55, 55, 55, 56, 55, 57, 56, 48, 56, 49, 56, 50, 56, 51, 56, 52, 56, 53, 56, 54, 56, 55, 56, 56, 56, 57, 57, 48, 57, 49, 57, 50, 57, 51, 57, 52, 57, 53, 57, 54, 57, 55, 57, 56, 57, 57] }) t88_42) fun t89_43 =>
        Pure1 Tryd.prog (Instr.index 9 (Value.string { data := #[48, 48, 48, 49, 48, 50, 48, 51, 48, 52, 48, 53, 48, 54, 48, 55, 48, 56, 48, 57, 49, 48, 49, 49, 49, 50, 49, 51, 49, 52, 49, 53, 49, 54, 49, 55, 49, 56, 49, 57, 50, 48, 50, 49, 50, 50, 50, 51, 50, 52, 50, 53, 50, 54, 50, 55, 50, 56, 50, 57, 51, 48, 51, 49, 51, 50, 51, 51, 51, 52, 51, 53, 51, 54, 51, 55, 51, 56, 51, 57, 52, 48, 52, 49, 52, 50, 52, 51, 52, 52, 52, 53, 52, 54, 52, 55, 52, 56, 52, 57, 53, 48, 53, 49, 53, 50, 53, 51, 53, 52, 53, 53, 53, 54, 53, 55, 53, 56, 53, 57, 54, 48, 54, 49, 54, 50, 54, 51, 54, 52, 54, 53, 54, 54, 54, 55, 54, 56, 54, 57, 55, 48, 55, 49, 55, 50, 55, 51, 55, 52, 55, 53, 55, 54, 55, 55, 55, 56, 55, 57, 56, 48, 56, 49, 56, 50, 56, 51, 56, 52, 56, 53, 56, 54, 56, 55, 56, 56, 56, 57, 57, 48, 57, 49, 57, 50, 57, 51, 57, 52, 57, 53, 57, 54, 57, 55, 57, 56, 57, 57] }) t38_16) fun t91_44 =>
        Pure1 Tryd.prog (Instr.indexAt 25 x0 t83_40) fun t92_45 =>
        run0 Tryd.prog Z (Instr.storeAt 5 t92_45 t89_43) w fun w =>
        Pure1 Tryd.prog (Instr.indexAt 25 x0 t86_41) fun t93_46 =>
        run0 Tryd.prog Z (Instr.storeAt 5 t93_46 t91_44) w fun w =>
        run1 Tryd.prog Z (binOp BinOp.sub 3 t4_4 (Value.int IntKind.i64 8)) w fun t95_47 w =>
        ∃ n_2, n_2 < m_2 ∧ J_2 n_2 t25_8 t95_47 w) (
        run1 Tryd.prog Z (convert 85 81 t1_3) w fun t97_48 w =>
        ∀ j_49 : Value → Value → World → Prop, (∀ t4_50 : Value, ∀ t12_51 : Value, ∀ w : World, (Env →
            ∀ j_52 : Value → Value → World → Prop, (∀ t4_53 : Value, ∀ t12_54 : Value, ∀ w : World, (Env →
                run1 Tryd.prog Z (binOp BinOp.gtr 3 t4_53 (Value.int IntKind.i64 0)) w fun t161_55 w =>
                CondV t161_55 (
                  run1 Tryd.prog Z (binOp BinOp.add 81 (Value.int IntKind.u32 48) t12_54) w fun t164_56 w =>
                  run1 Tryd.prog Z (convert 81 5 t164_56) w fun t165_57 w =>
                  run1 Tryd.prog Z (Instr.indexAt 25 x0 (Value.int IntKind.i64 0)) w fun t166_58 w =>
                  run0 Tryd.prog Z (Instr.storeAt 5 t166_58 t165_57) w fun w =>
                  Q (Value.tuple #[]) w) (
                  Q (Value.tuple #[]) w)) →
                j_52 t4_53 t12_54 w) →
            run1 Tryd.prog Z (binOp BinOp.geq 3 t4_50 (Value.int IntKind.i64 2)) w fun t139_59 w =>
            CondV t139_59 (
              run1 Tryd.prog Z (binOp BinOp.rem 81 t12_51 (Value.int IntKind.u32 100)) w fun t141_60 w =>
              run1 Tryd.prog Z (binOp BinOp.mul 81 t141_60 (Value.int IntKind.u32 2)) w fun t142_61 w =>
              run1 Tryd.prog Z (binOp BinOp.quo 81 t12_51 (Value.int IntKind.u32 100)) w fun t144_62 w =>
              Drawn w fun w =>
              Pure1 Tryd.prog (binOp BinOp.sub 3 t4_50 (Value.int IntKind.i64 1)) fun t147_63 =>
              Pure1 Tryd.prog (binOp BinOp.sub 3 t4_50 (Value.int IntKind.i64 2)) fun t150_64 =>
              Pure1 Tryd.prog (binOp BinOp.add 81 t142_61 (Value.int IntKind.u32 1)) fun t152_65 =>
              Pure1 Tryd.prog (Instr.index 9 (Value.string { data := #[48, 48, 48, 49, 48, 50, 48, 51, 48, 52, 48, 53, 48, 54, 48, 55, 48, 56, 48, 57, 49, 48, 49, 49, 49, 50, 49, 51, 49, 52, 49, 53, 49, 54, 49, 55, 49, 56, 49, 57, 50, 48, 50, 49, 50, 50, 50, 51, 50, 52, 50, 53, 50, 54, 50, 55, 50, 56, 50, 57, 51, 48, 51, 49, 51, 50, 51, 51, 51, 52, 51, 53, 51, 54, 51, 55, 51, 56, 51, 57, 52, 48, 52, 49, 52, 50, 52, 51, 52, 52, 52, 53, 52, 54, 52, 55, 52, 56, 52, 57, 53, 48, 53, 49, 53, 50, 53, 51, 53, 52, 53, 53, 53, 54, 53, 55, 53, 56, 53, 57, 54, 48, 54, 49, 54, 50, 54, 51, 54, 52, 54, 53, 54, 54, 54, 55, 54, 56, 54, 57, 55, 48, 55, 49, 55, 50, 55, 51, 55, 52, 55, 53, 55, 54, 55, 55, 55, 56, 55, 57, 56, 48, 56, 49, 56, 50, 56, 51, 56, 52, 56, 53, 56, 54, 56, 55, 56, 56, 56, 57, 57, 48, 57, 49, 57, 50, 57, 51, 57, 52, 57, 53, 57, 54, 57, 55, 57, 56, 57, 57] }) t152_65) fun t153_66 =>
              Pure1 Tryd.prog (Instr.index 9 (Value.string { data := #[48, 48, 48, 49, 48, 50, 48, 51, 48, 52, 48, 53, 48, 54, 48, 55, 48, 56, 48, 57, 49, 48, 49, 49, 49, 50, 49, 51, 49, 52, 49, 53, 49, 54, 49, 55, 49, 56, 49, 57, 50, 48, 50, 49, 50, 50, 50, 51, 50, 52, 50, 53, 50, 54, 50, 55, 50, 56, 50, 57, 51, 48, 51, 49, 51, 50, 51, 51, 51, 52, 51, 53, 51, 54, 51, 55, 51, 56, 51, 57, 52, 48, 52, 49, 52, 50, 52, 51, 52, 52, 52, 53, 52, 54, 52, 55, 52, 56, 52, 57, 53, 48, 53, 49, 53, 50, 53, 51, 53, 52, 53, 53, 53, 54, 53, 55, 53, 56, 53, 57, 54, 48, 54, 49, 54, 50, 54, 51, 54, 52, 54, 53, 54, 54, 54, 55, 54, 56, 54, 57, 55, 48, 55, 49, 55, 50, 55, 51, 55, 52, 55, 53, 55, 54, 55, 55, 55, 56, 55, 57, 56, 48, 56, 49, 56, 50, 56, 51, 56, 52, 56, 53, 56, 54, 56, 55, 56, 56, 56, 57, 57, 48, 57, 49, 57, 50, 57, 51, 57, 52, 57, 53, 57, 54, 57, 55, 57, 56, 57, 57] }) t142_61) fun t155_67 =>
              Pure1 Tryd.prog (Instr.indexAt 25 x0 t147_63) fun t156_68 =>
              run0 Tryd.prog Z (Instr.storeAt 5 t156_68 t153_66) w fun w =>
              Pure1 Tryd.prog (Instr.indexAt 25 x0 t150_64) fun t157_69 =>
              run0 Tryd.prog Z (Instr.storeAt 5 t157_69 t155_67) w fun w =>
              run1 Tryd.prog Z (binOp BinOp.sub 3 t4_50 (Value.int IntKind.i64 2)) w fun t159_70 w =>
              j_52 t159_70 t144_62 w) (
              j_52 t4_50 t12_51 w)) →
            j_49 t4_50 t12_51 w) →
        run1 Tryd.prog Z (binOp BinOp.geq 3 t4_4 (Value.int IntKind.i64 4)) w fun t99_71 w =>
        CondV t99_71 (
          run1 Tryd.prog Z (binOp BinOp.rem 81 t97_48 (Value.int IntKind.u32 10000)) w fun t101_72 w =>
          run1 Tryd.prog Z (binOp BinOp.quo 81 t97_48 (Value.int IntKind.u32 10000)) w fun t103_73 w =>
          run1 Tryd.prog Z (binOp BinOp.quo 81 t101_72 (Value.int IntKind.u32 100)) w fun t105_74 w =>
          run1 Tryd.prog Z (binOp BinOp.mul 81 t105_74 (Value.int IntKind.u32 2)) w fun t106_75 w =>
          run1 Tryd.prog Z (binOp BinOp.rem 81 t101_72 (Value.int IntKind.u32 100)) w fun t108_76 w =>
          run1 Tryd.prog Z (binOp BinOp.mul 81 t108_76 (Value.int IntKind.u32 2)) w fun t109_77 w =>
          Drawn w fun w =>
          Pure1 Tryd.prog (binOp BinOp.sub 3 t4_4 (Value.int IntKind.i64 1)) fun t112_78 =>
          Pure1 Tryd.prog (binOp BinOp.sub 3 t4_4 (Value.int IntKind.i64 2)) fun t115_79 =>
          Pure1 Tryd.prog (binOp BinOp.add 81 t109_77 (Value.int IntKind.u32 1)) fun t117_80 =>
          Pure1 Tryd.prog (Instr.index 9 (Value.string { data := #[48, 48, 48, 49, 48, 50, 48, 51, 48, 52, 48, 53, 48, 54, 48, 55, 48, 56, 48, 57, 49, 48, 49, 49, 49, 50, 49, 51, 49, 52, 49, 53, 49, 54, 49, 55, 49, 56, 49, 57, 50, 48, 50, 49, 50, 50, 50, 51, 50, 52, 50, 53, 50, 54, 50, 55, 50, 56, 50, 57, 51, 48, 51, 49, 51, 50, 51, 51, 51, 52, 51, 53, 51, 54, 51, 55, 51, 56, 51, 57, 52, 48, 52, 49, 52, 50, 52, 51, 52, 52, 52, 53, 52, 54, 52, 55, 52, 56, 52, 57, 53, 48, 53, 49, 53, 50, 53, 51, 53, 52, 53, 53, 53, 54, 53, 55, 53, 56, 53, 57, 54, 48, 54, 49, 54, 50, 54, 51, 54, 52, 54, 53, 54, 54, 54, 55, 54, 56, 54, 57, 55, 48, 55, 49, 55, 50, 55, 51, 55, 52, 55, 53, 55, 54, 55, 55, 55, 56, 55, 57, 56, 48, 56, 49, 56, 50, 56, 51, 56, 52, 56, 53, 56, 54, 56, 55, 56, 56, 56, 57, 57, 48, 57, 49, 57, 50, 57, 51, 57, 52, 57, 53, 57, 54, 57, 55, 57, 56, 57, 57] }) t117_80) fun t118_81 =>
          Pure1 Tryd.prog (Instr.index 9 (Value.string { data := #[48, 48, 48, 49, 48, 50, 48, 51, 48, 52, 48, 53, 48, 54, 48, 55, 48, 56, 48, 57, 49, 48, 49, 49, 49, 50, 49, 51, 49, 52, 49, 53, 49, 54, 49, 55, 49, 56, 49, 57, 50, 48, 50, 49, 50, 50, 50, 51, 50, 52, 50, 53, 50, 54, 50, 55, 50, 56, 50, 57, 51, 48, 51, 49, 51, 50, 51, 51, 51, 52, 51, 53, 51, 54, 51, 55, 51, 56, 51, 57, 52, 48, 52, 49, 52, 50, 52, 51, 52, 52, 52, 53, 52, 54, 52, 55, 52, 56, 52, 57, 53, 48, 53, 49, 53, 50, 53, 51, 53, 52, 53, 53, 53, 54, 53, 55, 53, 56, 53, 57, 54, 48, 54, 49, 54, 50, 54, 51, 54, 52, 54, 53, 54, 54, 54, 55, 54, 56, 54, 57, 55, 48, 55, 49, 55, 50, 55, 51, 55, 52, 55, 53, 55, 54, 55, 55, 55, 56, 55, 57, 56, 48, 56, 49, 56, 50, 56, 51, 56, 52, 56, 53, 56, 54, 56, 55, 56, 56, 56, 57, 57, 48, 57, 49, 57, 50, 57, 51, 57, 52, 57, 53, 57, 54, 57, 55, 57, 56, 57, 57] }) t109_77) fun t120_82 =>
          Pure1 Tryd.prog (Instr.indexAt 25 x0 t112_78) fun t121_83 =>
          run0 Tryd.prog Z (Instr.storeAt 5 t121_83 t118_81) w fun w =>
          Pure1 Tryd.prog (Instr.indexAt 25 x0 t115_79) fun t122_84 =>
          run0 Tryd.prog Z (Instr.storeAt 5 t122_84 t120_82) w fun w =>
          Drawn w fun w =>
          Pure1 Tryd.prog (binOp BinOp.sub 3 t4_4 (Value.int IntKind.i64 3)) fun t125_85 =>
          Pure1 Tryd.prog (binOp BinOp.sub 3 t4_4 (Value.int IntKind.i64 4)) fun t128_86 =>
          Pure1 Tryd.prog (binOp BinOp.add 81 t106_75 (Value.int IntKind.u32 1)) fun t130_87 =>
          Pure1 Tryd.prog (Instr.index 9 (Value.string { data := #[48, 48, 48, 49, 48, 50, 48, 51, 48, 52, 48, 53, 48, 54, 48, 55, 48, 56, 48, 57, 49, 48, 49, 49, 49, 50, 49, 51, 49, 52, 49, 53, 49, 54, 49, 55, 49, 56, 49, 57, 50, 48, 50, 49, 50, 50, 50, 51, 50, 52, 50, 53, 50, 54, 50, 55, 50, 56, 50, 57, 51, 48, 51, 49, 51, 50, 51, 51, 51, 52, 51, 53, 51, 54, 51, 55, 51, 56, 51, 57, 52, 48, 52, 49, 52, 50, 52, 51, 52, 52, 52, 53, 52, 54, 52, 55, 52, 56, 52, 57, 53, 48, 53, 49, 53, 50, 53, 51, 53, 52, 53, 53, 53, 54, 53, 55, 53, 56, 53, 57, 54, 48, 54, 49, 54, 50, 54, 51, 54, 52, 54, 53, 54, 54, 54, 55, 54, 56, 54, 57, 55, 48, 55, 49, 55, 50, 55, 51, 55, 52, 55, 53, 55, 54, 55, 55, 55, 56, 55, 57, 56, 48, 56, 49, 56, 50, 56, 51, 56, 52, 56, 53, 56, 54, 56, 55, 56, 56, 56, 57, 57, 48, 57, 49, 57, 50, 57, 51, 57, 52, 57, 53, 57, 54, 57, 55, 57, 56, 57, 57] }) t130_87) fun t131_88 =>
          Pure1 Tryd.prog (Instr.index 9 (Value.string { data := #[48, 48, 48, 49, 48, 50, 48, 51, 48, 52, 48, 53, 48, 54, 48, 55, 48, 56, 48, 57, 49, 48, 49, 49, 49, 50, 49, 51, 49, 52, 49, 53, 49, 54, 49, 55, 49, 56, 49, 57, 50, 48, 50, 49, 50, 50, 50, 51, 50, 52, 50, 53, 50, 54, 50, 55, 50, 56, 50, 57, 51, 48, 51, 49, 51, 50, 51, 51, 51, 52, 51, 53, 51, 54, 51, 55, 51, 56, 51, 57, 52, 48, 52, 49, 52, 50, 52, 51, 52, 52, 52, 53, 52, 54, 52, 55, 52, 56, 52, 57, 53, 48, 53, 49, 53, 50, 53, 51, 53, 52, 53, 53, 53, 54, 53, 55, 53, 56, 53, 57, 54, 48, 54, 49, 54, 50, 54, 51, 54, 52, 54, 53, 54, 54, 54, 55, 54, 56, 54, 57, 55, 48, 55, 49, 55, 50, 55, 51, 55, 52, 55, 53, 55, 54, 55, 55, 55, 56, 55, 57, 56, 48, 56, 49, 56, 50, 56, 51, 56, 52, 56, 53, 56, 54, 56, 55, 56, 56, 56, 57, 57, 48, 57, 49, 57, 50, 57, 51, 57, 52, 57, 53, 57, 54, 57, 55, 57, 56, 57, 57] }) t106_75) fun t133_89 =>
          Pure1 Tryd.prog (Instr.indexAt 25 x0 t125_85) fun t134_90 =>
          run0 Tryd.prog Z (Instr.storeAt 5 t134_90 t131_88) w fun w =>
          Pure1 Tryd.prog (Instr.indexAt 25 x0 t128_86) fun t135_91 =>
          run0 Tryd.prog Z (Instr.storeAt 5 t135_91 t133_89) w fun w =>
          run1 Tryd.prog Z (binOp BinOp.sub 3 t4_4 (Value.int IntKind.i64 4)) w fun t137_92 w =>
          j_49 t137_92 t103_73 w) (
          j_49 t4_4 t97_48 w))
noncomputable def f94.code : Code := match Tryd.f94.body with | some c => c | none => .skip
def f94.an : An := (.sq .leaf (.sq (.bl (.lp [1, 4] [1, 4, 5, 6, 7, 8, 9, 10, 11, 19, 20, 21, 22, 23, 24, 25, 26, 27, 28, 29, 30, 31, 32, 33, 34, 35, 36, 37, 38, 39, 40, 41, 42, 43, 44, 45, 46, 47, 48, 49, 50, 51, 52, 53, 54, 55, 56, 57, 58, 59, 60, 61, 62, 63, 64, 65, 66, 67, 68, 69, 70, 71, 72, 73, 74, 75, 76, 77, 78, 79, 80, 81, 82, 83, 84, 85, 86, 87, 88, 89, 90, 91, 92, 93, 94, 95] (.sq (.sq .leaf (.cn .leaf .leaf)) (.bl (.sq .leaf (.sq .leaf (.sq .leaf (.sq .leaf (.sq .leaf (.sq (.dr (.take 0 false (.take 1 false (.take 2 false (.take 3 false (.take 4 false (.take 5 false (.take 6 false (.take 7 false (.take 8 false (.take 9 false (.take 10 false (.take 11 false (.one 12 (.take 13 false (.one 14 .fin)))))))))))))))) (.sq (.dr (.take 0 false (.take 1 false (.take 2 false (.take 3 false (.take 4 false (.take 5 false (.take 6 false (.take 7 false (.take 8 false (.take 9 false (.take 10 false (.take 11 false (.one 12 (.take 13 false (.one 14 .fin)))))))))))))))) (.sq (.dr (.take 0 false (.take 1 false (.take 2 false (.take 3 false (.take 4 false (.take 5 false (.take 6 false (.take 7 false (.take 8 false (.take 9 false (.take 10 false (.take 11 false (.one 12 (.take 13 false (.one 14 .fin)))))))))))))))) (.sq (.dr (.take 0 false (.take 1 false (.take 2 false (.take 3 false (.take 4 false (.take 5 false (.take 6 false (.take 7 false (.take 8 false (.take 9 false (.take 10 false (.take 11 false (.one 12 (.take 13 false (.one 14 .fin)))))))))))))))) .leaf))))))))))))) (.sq .leaf (.sj [4, 12] [4, 12, 13, 14, 15, 98, 99, 100, 101, 102, 103, 104, 105, 106, 107, 108, 109, 110, 111, 112, 113, 114, 115, 116, 117, 118, 119, 120, 121, 122, 123, 124, 125, 126, 127, 128, 129, 130, 131, 132, 133, 134, 135, 136, 137] (.sq .leaf (.cn (.sq .leaf (.sq .leaf (.sq .leaf (.sq (.dr (.take 0 false (.take 1 false (.take 2 false (.take 3 false (.take 4 false (.take 5 false (.take 6 false (.take 7 false (.take 8 false (.take 9 false (.take 10 false (.take 11 false (.one 12 (.take 13 false (.one 14 .fin)))))))))))))))) (.sq (.dr (.take 0 false (.take 1 false (.take 2 false (.take 3 false (.take 4 false (.take 5 false (.take 6 false (.take 7 false (.take 8 false (.take 9 false (.take 10 false (.take 11 false (.one 12 (.take 13 false (.one 14 .fin)))))))))))))))) .leaf))))) .leaf)) (.sj [4, 12] [4, 12, 16, 138, 139, 140, 141, 142, 143, 144, 145, 146, 147, 148, 149, 150, 151, 152, 153, 154, 155, 156, 157, 158, 159] (.sq .leaf (.cn (.sq .leaf (.sq .leaf (.sq (.dr (.take 0 false (.take 1 false (.take 2 false (.take 3 false (.take 4 false (.take 5 false (.take 6 false (.take 7 false (.take 8 false (.take 9 false (.take 10 false (.take 11 false (.one 12 (.take 13 false (.one 14 .fin)))))))))))))))) .leaf))) .leaf)) (.sq .leaf (.cn .leaf .leaf)))))))
theorem f94.body_eq : Tryd.f94.body = some f94.code := by kernel_rfl
theorem f94.shape (Z : List PanicEntry → World → Prop) (x0 x1 : Value) (w : World) (Q : Value → World → Prop) : vc drawD Tryd.prog 167 Z [] f94.an f94.code (fnQ Tryd.prog 167 Tryd.f94.results Q) (argEnv [x0, x1]) w = f94.sh Z x0 x1 w Q := by kernel_rfl
theorem f94.enters : ∀ f, f ∈ ([] : List Nat) → Enters Tryd.prog f := by
  intro f hf
  cases hf
theorem f94.calls {Z : List PanicEntry → World → Prop} {x0 x1 : Value} {w : World} {Q : Value → World → Prop} (h : f94.sh Z x0 x1 w Q) : CallV Tryd.prog Z 94 #[x0, x1] w Q :=
  calls_of_vcn drawD_sound (Q := Q) (n := 167) (rs := Tryd.f94.results) (an := f94.an) (c := f94.code) (cal := []) (args := [x0, x1]) Tryd.func94 (by kernel_rfl) rfl f94.body_eq follows (Nat.le_of_ble_eq_true (by kernel_rfl)) (enters_of_all f94.enters) ((f94.shape Z x0 x1 w Q).mpr h)

/-! ### 95: internal/strconv.formatBits -/
def f95.sh (Z : List PanicEntry → World → Prop) (x0 x1 x2 x3 x4 : Value) (w : World) (Q : Value → World → Prop) : Prop :=
  ∀ j_1 : World → Prop, (∀ w : World, (Env →
      run1 Tryd.prog Z (Instr.alloc 206 true (.tuple #[])) w fun t12_2 w =>
      ∀ j_3 : Value → World → Prop, (∀ t1_4 : Value, ∀ w : World, (Env →
          ∀ j_5 : Value → World → Prop, (∀ t13_6 : Value, ∀ w : World, (Env →
              ∀ j_7 : Value → World → Prop, (∀ t13_8 : Value, ∀ w : World, (Env →
                  CondV x4 (
                    run1 Tryd.prog Z (Instr.sliceAt 206 t12_2 (some t13_8) none none) w fun t97_9 w =>
                    run1 Tryd.prog Z (Builtin.append_ #[25, 25] 25 #[x0, t97_9]) w fun t98_10 w =>
                    Q (Value.tuple #[t98_10, (Value.string { data := #[] })]) w) (
                    run1 Tryd.prog Z (Instr.sliceAt 206 t12_2 (some t13_8) none none) w fun t100_11 w =>
                    run1 Tryd.prog Z (convert 25 9 t100_11) w fun t101_12 w =>
                    Q (Value.tuple #[(Value.slice none 0 0), t101_12]) w)) →
                  j_7 t13_8 w) →
              CondV x3 (
                run1 Tryd.prog Z (binOp BinOp.sub 3 t13_6 (Value.int IntKind.i64 1)) w fun t91_13 w =>
                run1 Tryd.prog Z (Instr.indexAt 206 t12_2 t91_13) w fun t93_14 w =>
                run0 Tryd.prog Z (Instr.storeAt 5 t93_14 (Value.int IntKind.u8 45)) w fun w =>
                j_7 t91_13 w) (
                j_7 t13_6 w)) →
              j_5 t13_6 w) →
          CallV Tryd.prog Z 99 #[x2] w fun t34_15 w =>
          CondV t34_15 (
            run1 Tryd.prog Z (convert 3 115 x2) w fun t36_16 w =>
            CallV Tryd.prog Z 100 #[t36_16] w fun t37_17 w =>
            run1 Tryd.prog Z (convert 3 115 t37_17) w fun t38_18 w =>
            run1 Tryd.prog Z (convert 3 85 x2) w fun t40_19 w =>
            run1 Tryd.prog Z (convert 3 115 x2) w fun t42_20 w =>
            run1 Tryd.prog Z (binOp BinOp.sub 115 t42_20 (Value.int IntKind.u64 1)) w fun t43_21 w =>
            ∃ J_22 : Nat → Value → Value → World → Prop, (∃ m, J_22 m t1_4 (Value.int IntKind.i64 65) w) ∧
              ∀ m_22, ∀ t1_23 : Value, ∀ t13_24 : Value, ∀ w : World, J_22 m_22 t1_23 t13_24 w → Env →
                run1 Tryd.prog Z (binOp BinOp.geq 85 t1_23 t40_19) w fun t46_25 w =>
                CondV t46_25 (
                  run1 Tryd.prog Z (binOp BinOp.sub 3 t13_24 (Value.int IntKind.i64 1)) w fun t48_26 w =>
                  run1 Tryd.prog Z (binOp BinOp.and 115 t1_23 t43_21) w fun t52_27 w =>
                  run1 Tryd.prog Z (Instr.index 9 (Value.string { data := #[48, 49, 50, 51, 52, 53, 54, 55, 56, 57, 97, 98, 99, 100, 101, 102, 103, 104, 105, 106, 107, 108, 109, 110, 111, 112, 113, 114, 115, 116, 117, 118, 119, 120, 121, 122] }) t52_27) w fun t53_28 w =>
                  run1 Tryd.prog Z (Instr.indexAt 206 t12_2 t48_26) w fun t54_29 w =>
                  run0 Tryd.prog Z (Instr.storeAt 5 t54_29 t53_28) w fun w =>
                  run1 Tryd.prog Z (binOp BinOp.shr 85 t1_23 t38_18) w fun t57_30 w =>
                  ∃ n_22, n_22 < m_22 ∧ J_22 n_22 t57_30 t48_26 w) (
                  run1 Tryd.prog Z (binOp BinOp.sub 3 t13_24 (Value.int IntKind.i64 1)) w fun t59_31 w =>
                  run1 Tryd.prog Z (Instr.index 9 (Value.string { data := #[48, 49, 50, 51, 52, 53, 54, 55, 56, 57, 97, 98, 99, 100, 101, 102, 103, 104, 105, 106, 107, 108, 109, 110, 111, 112, 113, 114, 115, 116, 117, 118, 119, 120, 121, 122] }) t1_23) w fun t62_32 w =>
                  run1 Tryd.prog Z (Instr.indexAt 206 t12_2 t59_31) w fun t63_33 w =>
                  run0 Tryd.prog Z (Instr.storeAt 5 t63_33 t62_32) w fun w =>
                  j_5 t59_31 w)) (
            run1 Tryd.prog Z (convert 3 85 x2) w fun t65_34 w =>
            ∃ J_35 : Nat → Value → Value → World → Prop, (∃ m, J_35 m t1_4 (Value.int IntKind.i64 65) w) ∧
              ∀ m_35, ∀ t1_36 : Value, ∀ t13_37 : Value, ∀ w : World, J_35 m_35 t1_36 t13_37 w → Env →
                run1 Tryd.prog Z (binOp BinOp.geq 85 t1_36 t65_34) w fun t68_38 w =>
                CondV t68_38 (
                  run1 Tryd.prog Z (binOp BinOp.sub 3 t13_37 (Value.int IntKind.i64 1)) w fun t70_39 w =>
                  run1 Tryd.prog Z (binOp BinOp.quo 85 t1_36 t65_34) w fun t73_40 w =>
                  run1 Tryd.prog Z (binOp BinOp.mul 85 t73_40 t65_34) w fun t78_41 w =>
                  run1 Tryd.prog Z (binOp BinOp.sub 85 t1_36 t78_41) w fun t79_42 w =>
                  run1 Tryd.prog Z (Instr.index 9 (Value.string { data := #[48, 49, 50, 51, 52, 53, 54, 55, 56, 57, 97, 98, 99, 100, 101, 102, 103, 104, 105, 106, 107, 108, 109, 110, 111, 112, 113, 114, 115, 116, 117, 118, 119, 120, 121, 122] }) t79_42) w fun t80_43 w =>
                  run1 Tryd.prog Z (Instr.indexAt 206 t12_2 t70_39) w fun t81_44 w =>
                  run0 Tryd.prog Z (Instr.storeAt 5 t81_44 t80_43) w fun w =>
                  ∃ n_35, n_35 < m_35 ∧ J_35 n_35 t73_40 t70_39 w) (
                  run1 Tryd.prog Z (binOp BinOp.sub 3 t13_37 (Value.int IntKind.i64 1)) w fun t84_45 w =>
                  run1 Tryd.prog Z (Instr.index 9 (Value.string { data := #[48, 49, 50, 51, 52, 53, 54, 55, 56, 57, 97, 98, 99, 100, 101, 102, 103, 104, 105, 106, 107, 108, 109, 110, 111, 112, 113, 114, 115, 116, 117, 118, 119, 120, 121, 122] }) t1_36) w fun t87_46 w =>
                  run1 Tryd.prog Z (Instr.indexAt 206 t12_2 t84_45) w fun t88_47 w =>
                  run0 Tryd.prog Z (Instr.storeAt 5 t88_47 t87_46) w fun w =>
                  j_5 t84_45 w))) →
          j_3 t1_4 w) →
      CondV x3 (
        run1 Tryd.prog Z (Op.unary UnOp.neg x1) w fun t32_48 w =>
        j_3 t32_48 w) (
        j_3 x1 w)) →
      j_1 w) →
  run1 Tryd.prog Z (binOp BinOp.lss 3 x2 (Value.int IntKind.i64 2)) w fun t20_49 w =>
  guardW (t20_49) false (fun k => k (x2) w) (fun t22_50 w =>
  guardW (t20_49) false (fun k => run1 Tryd.prog Z (eqOp BinOp.eql 3 false true t22_50 (Value.int IntKind.i64 10)) w k) (fun t23_51 w =>
  run1 Tryd.prog Z (pickV t20_49 (Value.bool true) t23_51) w fun t24_52 w =>
  guardW (t24_52) false (fun k => k (x2) w) (fun t26_53 w =>
  guardW (t24_52) false (fun k => run1 Tryd.prog Z (binOp BinOp.gtr 3 t26_53 (Value.int IntKind.i64 36)) w k) (fun t27_54 w =>
  run1 Tryd.prog Z (pickV t24_52 (Value.bool true) t27_54) w fun t28_55 w =>
  CondV t28_55 (
    run1 Tryd.prog Z (Instr.makeInterface 9 (Value.string { data := #[115, 116, 114, 99, 111, 110, 118, 58, 32, 105, 108, 108, 101, 103, 97, 108, 32, 65, 112, 112, 101, 110, 100, 73, 110, 116, 47, 70, 111, 114, 109, 97, 116, 73, 110, 116, 32, 98, 97, 115, 101] })) w fun t29_56 w =>
    run1 Tryd.prog Z (Instr.panic t29_56) w fun _ w =>
    j_1 w) (
    j_1 w)) w) w) w) w
noncomputable def f95.code : Code := match Tryd.f95.body with | some c => c | none => .skip
def f95.an : An := (.sq .leaf (.sj [] [19, 20, 21, 22, 23, 24, 25, 26, 27, 28, 29] (.sq .leaf (.cn .leaf .leaf)) (.sq .leaf (.sq .leaf (.sj [1] [1, 30, 31, 32] (.sq .leaf (.cn .leaf .leaf)) (.sj [13] [1, 13, 14, 15, 16, 17, 18, 33, 34, 35, 36, 37, 38, 39, 40, 41, 42, 43, 44, 45, 46, 47, 48, 49, 50, 51, 52, 53, 54, 55, 56, 57, 58, 59, 60, 61, 62, 63, 64, 65, 66, 67, 68, 69, 70, 71, 72, 73, 74, 75, 76, 77, 78, 79, 80, 81, 82, 83, 84, 85, 86, 87, 88] (.sq .leaf (.cn (.sq .leaf (.sq .leaf (.sq .leaf (.sq (.bl (.lp [1, 13] [1, 13, 44, 45, 46, 47, 48, 49, 50, 51, 52, 53, 54, 55, 56, 57] (.sq (.sq .leaf (.cn .leaf .leaf)) (.bl (.sq .leaf (.sq .leaf .leaf)))))) (.sq .leaf .leaf))))) (.sq .leaf (.sq (.bl (.lp [1, 13] [1, 13, 18, 66, 67, 68, 69, 70, 71, 72, 73, 74, 75, 76, 77, 78, 79, 80, 81, 82] (.sq (.sq .leaf (.cn .leaf .leaf)) (.bl (.sq .leaf (.sq .leaf (.sq .leaf .leaf))))))) (.sq .leaf .leaf))))) (.sj [13] [13, 89, 90, 91, 92, 93] (.sq .leaf (.cn (.sq .leaf .leaf) .leaf)) (.sq (.sq .leaf (.cn (.sq .leaf .leaf) .leaf)) (.sq .leaf .leaf)))))))))
theorem f95.body_eq : Tryd.f95.body = some f95.code := by kernel_rfl
theorem f95.shape (Z : List PanicEntry → World → Prop) (x0 x1 x2 x3 x4 : Value) (w : World) (Q : Value → World → Prop) : vc drawD Tryd.prog 102 Z [99, 100] f95.an f95.code (fnQ Tryd.prog 102 Tryd.f95.results Q) (argEnv [x0, x1, x2, x3, x4]) w = f95.sh Z x0 x1 x2 x3 x4 w Q := by kernel_rfl
theorem f95.enters : ∀ f, f ∈ ([99, 100] : List Nat) → Enters Tryd.prog f := by
  intro f hf
  simp only [List.mem_cons, List.not_mem_nil, or_false] at hf
  rcases hf with rfl | rfl
  · exact en99
  · exact en100
theorem f95.calls {Z : List PanicEntry → World → Prop} {x0 x1 x2 x3 x4 : Value} {w : World} {Q : Value → World → Prop} (h : f95.sh Z x0 x1 x2 x3 x4 w Q) : CallV Tryd.prog Z 95 #[x0, x1, x2, x3, x4] w Q :=
  calls_of_vcn drawD_sound (Q := Q) (n := 102) (rs := Tryd.f95.results) (an := f95.an) (c := f95.code) (cal := [99, 100]) (args := [x0, x1, x2, x3, x4]) Tryd.func95 (by kernel_rfl) rfl f95.body_eq follows (Nat.le_of_ble_eq_true (by kernel_rfl)) (enters_of_all f95.enters) ((f95.shape Z x0 x1 x2 x3 x4 w Q).mpr h)

/-! ### 96: internal/strconv.log10Pow2 -/
def f96.sh (Z : List PanicEntry → World → Prop) (x0 : Value) (w : World) (Q : Value → World → Prop) : Prop :=
  run1 Tryd.prog Z (binOp BinOp.mul 3 x0 (Value.int IntKind.i64 78913)) w fun t4_1 w =>
  run1 Tryd.prog Z (binOp BinOp.shr 3 t4_1 (Value.int IntKind.u64 18)) w fun t5_2 w =>
  Q t5_2 w
noncomputable def f96.code : Code := match Tryd.f96.body with | some c => c | none => .skip
def f96.an : An := (.sq .leaf (.sq .leaf .leaf))
theorem f96.body_eq : Tryd.f96.body = some f96.code := by kernel_rfl
theorem f96.shape (Z : List PanicEntry → World → Prop) (x0 : Value) (w : World) (Q : Value → World → Prop) : vc drawD Tryd.prog 6 Z [] f96.an f96.code (fnQ Tryd.prog 6 Tryd.f96.results Q) (argEnv [x0]) w = f96.sh Z x0 w Q := by kernel_rfl
theorem f96.enters : ∀ f, f ∈ ([] : List Nat) → Enters Tryd.prog f := by
  intro f hf
  cases hf
theorem f96.calls {Z : List PanicEntry → World → Prop} {x0 : Value} {w : World} {Q : Value → World → Prop} (h : f96.sh Z x0 w Q) : CallV Tryd.prog Z 96 #[x0] w Q :=
  calls_of_vcn drawD_sound (Q := Q) (n := 6) (rs := Tryd.f96.results) (an := f96.an) (c := f96.code) (cal := []) (args := [x0]) Tryd.func96 (by kernel_rfl) rfl f96.body_eq follows (Nat.le_of_ble_eq_true (by kernel_rfl)) (enters_of_all f96.enters) ((f96.shape Z x0 w Q).mpr h)

/-! ### 97: math/bits.Len64 -/
def f97.sh (Z : List PanicEntry → World → Prop) (x0 : Value) (w : World) (Q : Value → World → Prop) : Prop :=
  ∀ j_1 : Value → Value → World → Prop, (∀ t0_2 : Value, ∀ t2_3 : Value, ∀ w : World, (Env →
      ∀ j_4 : Value → Value → World → Prop, (∀ t0_5 : Value, ∀ t2_6 : Value, ∀ w : World, (Env →
          ∀ j_7 : Value → Value → World → Prop, (∀ t0_8 : Value, ∀ t2_9 : Value, ∀ w : World, (Env →
              run1 Tryd.prog Z (convert 85 5 t0_8) w fun t21_10 w =>
              run1 Tryd.prog Z (Instr.index 9 (Value.string { data := #[0, 1, 2, 2, 3, 3, 3, 3, 4, 4, 4, 4, 4, 4, 4, 4, 5, 5, 5, 5, 5, 5, 5, 5, 5, 5, 5, 5, 5, 5, 5, 5, 6, 6, 6, 6, 6, 6, 6, 6, 6, 6, 6, 6, 6, 6, 6, 6, 6, 6, 6, 6, 6, 6, 6, 6, 6, 6, 6, 6, 6, 6, 6, 6, 7, 7, 7, 7, 7, 7, 7, 7, 7, 7, 7, 7, 7, 7, 7, 7, 7, 7, 7, 7, 7, 7, 7, 7, 7, 7, 7, 7, 7, 7, 7, 7, 7, 7, 7, 7, 7, 7, 7, 7, 7, 7, 7, 7, 7, 7, 7, 7, 7, 7, 7, 7, 7, 7, 7, 7, 7, 7, 7, 7, 7, 7, 7, 7, 8, 8, 8, 8, 8, 8, 8, 8, 8, 8, 8, 8, 8, 8, 8, 8, 8, 8, 8, 8, 8, 8, 8, 8, 8, 8, 8, 8, 8, 8, 8, 8, 8, 8, 8, 8, 8, 8, 8, 8, 8, 8, 8, 8, 8, 8, 8, 8, 8, 8, 8, 8, 8, 8, 8, 8, 8, 8, 8, 8, 8, 8, 8, 8, 8, 8, 8, 8, 8, 8, 8, 8, 8, 8, 8, 8, 8, 8, 8, 8, 8, 8, 8, 8, 8, 8, 8, 8, 8, 8, 8, 8, 8, 8, 8, 8, 8, 8, 8, 8, 8, 8, 8, 8, 8, 8, 8, 8, 8, 8, 8, 8, 8, 8, 8, 8, 8, 8, 8, 8, 8, 8, 8, 8, 8, 8, 8, 8] }) t21_10) w fun t22_11 w =>
              run1 Tryd.prog Z (convert 5 3 t22_11) w fun t23_12 w =>
              run1 Tryd.prog Z (binOp BinOp.add 3 t2_9 t23_12) w fun t24_13 w =>
              Q t24_13 w) →
              j_7 t0_8 t2_9 w) →
          run1 Tryd.prog Z (binOp BinOp.geq 85 t0_5 (Value.int IntKind.u64 256)) w fun t14_14 w =>
          CondV t14_14 (
            run1 Tryd.prog Z (binOp BinOp.shr 85 t0_5 (Value.int IntKind.u64 8)) w fun t16_15 w =>
            run1 Tryd.prog Z (binOp BinOp.add 3 t2_6 (Value.int IntKind.i64 8)) w fun t18_16 w =>
            j_7 t16_15 t18_16 w) (
            j_7 t0_5 t2_6 w)) →
          j_4 t0_5 t2_6 w) →
      run1 Tryd.prog Z (binOp BinOp.geq 85 t0_2 (Value.int IntKind.u64 65536)) w fun t8_17 w =>
      CondV t8_17 (
        run1 Tryd.prog Z (binOp BinOp.shr 85 t0_2 (Value.int IntKind.u64 16)) w fun t10_18 w =>
        run1 Tryd.prog Z (binOp BinOp.add 3 t2_3 (Value.int IntKind.i64 16)) w fun t12_19 w =>
        j_4 t10_18 t12_19 w) (
        j_4 t0_2 t2_3 w)) →
      j_1 t0_2 t2_3 w) →
  run1 Tryd.prog Z (binOp BinOp.geq 85 x0 (Value.int IntKind.u64 4294967296)) w fun t4_20 w =>
  CondV t4_20 (
    run1 Tryd.prog Z (binOp BinOp.shr 85 x0 (Value.int IntKind.u64 32)) w fun t6_21 w =>
    j_1 t6_21 (Value.int IntKind.i64 32) w) (
    j_1 x0 (Value.int IntKind.i64 0) w)
noncomputable def f97.code : Code := match Tryd.f97.body with | some c => c | none => .skip
def f97.an : An := (.sq .leaf (.sj [0, 2] [0, 2, 3, 4, 5, 6] (.sq .leaf (.cn (.sq .leaf .leaf) .leaf)) (.sj [0, 2] [0, 2, 7, 8, 9, 10, 11, 12] (.sq .leaf (.cn (.sq .leaf .leaf) .leaf)) (.sj [0, 2] [0, 2, 13, 14, 15, 16, 17, 18] (.sq .leaf (.cn (.sq .leaf .leaf) .leaf)) (.sq .leaf .leaf)))))
theorem f97.body_eq : Tryd.f97.body = some f97.code := by kernel_rfl
theorem f97.shape (Z : List PanicEntry → World → Prop) (x0 : Value) (w : World) (Q : Value → World → Prop) : vc drawD Tryd.prog 25 Z [] f97.an f97.code (fnQ Tryd.prog 25 Tryd.f97.results Q) (argEnv [x0]) w = f97.sh Z x0 w Q := by kernel_rfl
theorem f97.enters : ∀ f, f ∈ ([] : List Nat) → Enters Tryd.prog f := by
  intro f hf
  cases hf
theorem f97.calls {Z : List PanicEntry → World → Prop} {x0 : Value} {w : World} {Q : Value → World → Prop} (h : f97.sh Z x0 w Q) : CallV Tryd.prog Z 97 #[x0] w Q :=
  calls_of_vcn drawD_sound (Q := Q) (n := 25) (rs := Tryd.f97.results) (an := f97.an) (c := f97.code) (cal := []) (args := [x0]) Tryd.func97 (by kernel_rfl) rfl f97.body_eq follows (Nat.le_of_ble_eq_true (by kernel_rfl)) (enters_of_all f97.enters) ((f97.shape Z x0 w Q).mpr h)

/-! ### 98: internal/strconv.bool2[int] -/
def f98.sh (Z : List PanicEntry → World → Prop) (x0 : Value) (w : World) (Q : Value → World → Prop) : Prop :=
  CondV x0 (
    Q (Value.int IntKind.i64 1) w) (
    Q (Value.int IntKind.i64 0) w)
noncomputable def f98.code : Code := match Tryd.f98.body with | some c => c | none => .skip
def f98.an : An := (.sq .leaf (.sq (.sq .leaf (.cn (.sq .leaf .leaf) .leaf)) (.sq .leaf .leaf)))
theorem f98.body_eq : Tryd.f98.body = some f98.code := by kernel_rfl
theorem f98.shape (Z : List PanicEntry → World → Prop) (x0 : Value) (w : World) (Q : Value → World → Prop) : vc drawD Tryd.prog 4 Z [] f98.an f98.code (fnQ Tryd.prog 4 Tryd.f98.results Q) (argEnv [x0]) w = f98.sh Z x0 w Q := by kernel_rfl
theorem f98.enters : ∀ f, f ∈ ([] : List Nat) → Enters Tryd.prog f := by
  intro f hf
  cases hf
theorem f98.calls {Z : List PanicEntry → World → Prop} {x0 : Value} {w : World} {Q : Value → World → Prop} (h : f98.sh Z x0 w Q) : CallV Tryd.prog Z 98 #[x0] w Q :=
  calls_of_vcn drawD_sound (Q := Q) (n := 4) (rs := Tryd.f98.results) (an := f98.an) (c := f98.code) (cal := []) (args := [x0]) Tryd.func98 (by kernel_rfl) rfl f98.body_eq follows (Nat.le_of_ble_eq_true (by kernel_rfl)) (enters_of_all f98.enters) ((f98.shape Z x0 w Q).mpr h)

/-! ### 99: internal/strconv.isPowerOfTwo -/
def f99.sh (Z : List PanicEntry → World → Prop) (x0 : Value) (w : World) (Q : Value → World → Prop) : Prop :=
  run1 Tryd.prog Z (binOp BinOp.sub 3 x0 (Value.int IntKind.i64 1)) w fun t5_1 w =>
  run1 Tryd.prog Z (binOp BinOp.and 3 x0 t5_1) w fun t6_2 w =>
  run1 Tryd.prog Z (eqOp BinOp.eql 3 false true t6_2 (Value.int IntKind.i64 0)) w fun t7_3 w =>
  Q t7_3 w
noncomputable def f99.code : Code := match Tryd.f99.body with | some c => c | none => .skip
def f99.an : An := (.sq .leaf (.sq .leaf .leaf))
theorem f99.body_eq : Tryd.f99.body = some f99.code := by kernel_rfl
theorem f99.shape (Z : List PanicEntry → World → Prop) (x0 : Value) (w : World) (Q : Value → World → Prop) : vc drawD Tryd.prog 8 Z [] f99.an f99.code (fnQ Tryd.prog 8 Tryd.f99.results Q) (argEnv [x0]) w = f99.sh Z x0 w Q := by kernel_rfl
theorem f99.enters : ∀ f, f ∈ ([] : List Nat) → Enters Tryd.prog f := by
  intro f hf
  cases hf
theorem f99.calls {Z : List PanicEntry → World → Prop} {x0 : Value} {w : World} {Q : Value → World → Prop} (h : f99.sh Z x0 w Q) : CallV Tryd.prog Z 99 #[x0] w Q :=
  calls_of_vcn drawD_sound (Q := Q) (n := 8) (rs := Tryd.f99.results) (an := f99.an) (c := f99.code) (cal := []) (args := [x0]) Tryd.func99 (by kernel_rfl) rfl f99.body_eq follows (Nat.le_of_ble_eq_true (by kernel_rfl)) (enters_of_all f99.enters) ((f99.shape Z x0 w Q).mpr h)

/-! ### 100: math/bits.TrailingZeros -/
def f100.sh (Z : List PanicEntry → World → Prop) (x0 : Value) (w : World) (Q : Value → World → Prop) : Prop :=
  CondV (Value.bool false) (
    run1 Tryd.prog Z (convert 115 81 x0) w fun t4_1 w =>
    CallV Tryd.prog Z 101 #[t4_1] w fun t5_2 w =>
    Q t5_2 w) (
    CallV Tryd.prog Z 102 #[x0] w fun t7_3 w =>
    Q t7_3 w)
noncomputable def f100.code : Code := match Tryd.f100.body with | some c => c | none => .skip
def f100.an : An := (.sq .leaf (.sq (.cn (.sq .leaf .leaf) .leaf) (.sq .leaf .leaf)))
theorem f100.body_eq : Tryd.f100.body = some f100.code := by kernel_rfl
theorem f100.shape (Z : List PanicEntry → World → Prop) (x0 : Value) (w : World) (Q : Value → World → Prop) : vc drawD Tryd.prog 8 Z [101, 102] f100.an f100.code (fnQ Tryd.prog 8 Tryd.f100.results Q) (argEnv [x0]) w = f100.sh Z x0 w Q := by kernel_rfl
theorem f100.enters : ∀ f, f ∈ ([101, 102] : List Nat) → Enters Tryd.prog f := by
  intro f hf
  simp only [List.mem_cons, List.not_mem_nil, or_false] at hf
  rcases hf with rfl | rfl
  · exact en101
  · exact en102
theorem f100.calls {Z : List PanicEntry → World → Prop} {x0 : Value} {w : World} {Q : Value → World → Prop} (h : f100.sh Z x0 w Q) : CallV Tryd.prog Z 100 #[x0] w Q :=
  calls_of_vcn drawD_sound (Q := Q) (n := 8) (rs := Tryd.f100.results) (an := f100.an) (c := f100.code) (cal := [101, 102]) (args := [x0]) Tryd.func100 (by kernel_rfl) rfl f100.body_eq follows (Nat.le_of_ble_eq_true (by kernel_rfl)) (enters_of_all f100.enters) ((f100.shape Z x0 w Q).mpr h)

/-! ### 101: math/bits.TrailingZeros32 -/
def f101.sh (Z : List PanicEntry → World → Prop) (x0 : Value) (w : World) (Q : Value → World → Prop) : Prop :=
  run1 Tryd.prog Z (eqOp BinOp.eql 81 false true x0 (Value.int IntKind.u32 0)) w fun t4_1 w =>
  CondV t4_1 (
    Q (Value.int IntKind.i64 32) w) (
    run1 Tryd.prog Z (Op.unary UnOp.neg x0) w fun t7_2 w =>
    run1 Tryd.prog Z (binOp BinOp.and 81 x0 t7_2) w fun t8_3 w =>
    run1 Tryd.prog Z (binOp BinOp.mul 81 t8_3 (Value.int IntKind.u32 125613361)) w fun t9_4 w =>
    run1 Tryd.prog Z (binOp BinOp.shr 81 t9_4 (Value.int IntKind.u64 27)) w fun t10_5 w =>
    run1 Tryd.prog Z (Instr.indexAt 210 (Value.pointer (some ⟨1, 0, none⟩)) t10_5) w fun t11_6 w =>
    run1 Tryd.prog Z (Instr.loadAt 5 t11_6) w fun t12_7 w =>
    run1 Tryd.prog Z (convert 5 3 t12_7) w fun t13_8 w =>
    Q t13_8 w)
noncomputable def f101.code : Code := match Tryd.f101.body with | some c => c | none => .skip
def f101.an : An := (.sq .leaf (.sq (.sq .leaf (.cn (.sq .leaf .leaf) .leaf)) (.sq .leaf .leaf)))
theorem f101.body_eq : Tryd.f101.body = some f101.code := by kernel_rfl
theorem f101.shape (Z : List PanicEntry → World → Prop) (x0 : Value) (w : World) (Q : Value → World → Prop) : vc drawD Tryd.prog 14 Z [] f101.an f101.code (fnQ Tryd.prog 14 Tryd.f101.results Q) (argEnv [x0]) w = f101.sh Z x0 w Q := by kernel_rfl
theorem f101.enters : ∀ f, f ∈ ([] : List Nat) → Enters Tryd.prog f := by
  intro f hf
  cases hf
theorem f101.calls {Z : List PanicEntry → World → Prop} {x0 : Value} {w : World} {Q : Value → World → Prop} (h : f101.sh Z x0 w Q) : CallV Tryd.prog Z 101 #[x0] w Q :=
  calls_of_vcn drawD_sound (Q := Q) (n := 14) (rs := Tryd.f101.results) (an := f101.an) (c := f101.code) (cal := []) (args := [x0]) Tryd.func101 (by kernel_rfl) rfl f101.body_eq follows (Nat.le_of_ble_eq_true (by kernel_rfl)) (enters_of_all f101.enters) ((f101.shape Z x0 w Q).mpr h)

/-! ### 102: math/bits.TrailingZeros64 -/
def f102.sh (Z : List PanicEntry → World → Prop) (x0 : Value) (w : World) (Q : Value → World → Prop) : Prop :=
  run1 Tryd.prog Z (eqOp BinOp.eql 85 false true x0 (Value.int IntKind.u64 0)) w fun t4_1 w =>
  CondV t4_1 (
    Q (Value.int IntKind.i64 64) w) (
    run1 Tryd.prog Z (Op.unary UnOp.neg x0) w fun t7_2 w =>
    run1 Tryd.prog Z (binOp BinOp.and 85 x0 t7_2) w fun t8_3 w =>
    run1 Tryd.prog Z (binOp BinOp.mul 85 t8_3 (Value.int IntKind.u64 285870213051353865)) w fun t9_4 w =>
    run1 Tryd.prog Z (binOp BinOp.shr 85 t9_4 (Value.int IntKind.u64 58)) w fun t10_5 w =>
    run1 Tryd.prog Z (Instr.indexAt 211 (Value.pointer (some ⟨2, 0, none⟩)) t10_5) w fun t11_6 w =>
    run1 Tryd.prog Z (Instr.loadAt 5 t11_6) w fun t12_7 w =>
    run1 Tryd.prog Z (convert 5 3 t12_7) w fun t13_8 w =>
    Q t13_8 w)
noncomputable def f102.code : Code := match Tryd.f102.body with | some c => c | none => .skip
def f102.an : An := (.sq .leaf (.sq (.sq .leaf (.cn (.sq .leaf .leaf) .leaf)) (.sq .leaf .leaf)))
theorem f102.body_eq : Tryd.f102.body = some f102.code := by kernel_rfl
theorem f102.shape (Z : List PanicEntry → World → Prop) (x0 : Value) (w : World) (Q : Value → World → Prop) : vc drawD Tryd.prog 14 Z [] f102.an f102.code (fnQ Tryd.prog 14 Tryd.f102.results Q) (argEnv [x0]) w = f102.sh Z x0 w Q := by kernel_rfl
theorem f102.enters : ∀ f, f ∈ ([] : List Nat) → Enters Tryd.prog f := by
  intro f hf
  cases hf
theorem f102.calls {Z : List PanicEntry → World → Prop} {x0 : Value} {w : World} {Q : Value → World → Prop} (h : f102.sh Z x0 w Q) : CallV Tryd.prog Z 102 #[x0] w Q :=
  calls_of_vcn drawD_sound (Q := Q) (n := 14) (rs := Tryd.f102.results) (an := f102.an) (c := f102.code) (cal := []) (args := [x0]) Tryd.func102 (by kernel_rfl) rfl f102.body_eq follows (Nat.le_of_ble_eq_true (by kernel_rfl)) (enters_of_all f102.enters) ((f102.shape Z x0 w Q).mpr h)

end Go.Proofs.YtklojohafbmonaaDoor
