import Derived.Test.YtklojohafbmonaaShBase
set_option linter.unusedVariables false
namespace Go.Proofs.Ytklojohafbmonaa
open Go.Sh
/-! ### 2: gosem.cut.init -/
def f2.sh (Z : List PanicEntry → World → Prop) (w : World) (Q : Value → World → Prop) : Prop :=
  runX Try.prog Z (callFunc 1 #[]) w fun t0_1 w =>
  Q (Value.tuple #[]) w
noncomputable def f2.code : Code := match Try.f2.body with | some c => c | none => .skip
def f2.an : An := .leaf
theorem f2.body_eq : Try.f2.body = some f2.code := by kernel_rfl
theorem f2.shape (Z : List PanicEntry → World → Prop) (w : World) (Q : Value → World → Prop) : vc drawD Try.prog 1 Z [] f2.an f2.code (fnQ Try.prog 1 Try.f2.results Q) (argEnv []) w = f2.sh Z  w Q := by kernel_rfl
theorem f2.enters : ∀ f, f ∈ ([] : List Nat) → Enters Try.prog f := by
  intro f hf
  cases hf
theorem f2.calls {Z : List PanicEntry → World → Prop} {w : World} {Q : Value → World → Prop} (h : f2.sh Z  w Q) : CallV Try.prog Z 2 #[] w Q :=
  calls_of_vcn drawD_sound (Q := Q) (n := 1) (rs := Try.f2.results) (an := f2.an) (c := f2.code) (cal := []) (args := []) Try.func2 (by kernel_rfl) rfl f2.body_eq follows (Nat.le_of_ble_eq_true (by kernel_rfl)) (enters_of_all f2.enters) ((f2.shape Z  w Q).mpr h)

/-! ### 3: lagoon/lagoonlaw01.PackSums -/
def f3.sh (Z : List PanicEntry → World → Prop) (x0 : Value) (w : World) (Q : Value → World → Prop) : Prop :=
  CallV Try.prog Z 9 #[] w fun t12_1 w =>
  run1 Try.prog Z (Builtin.len_ #[22] 3 #[x0]) w fun t14_2 w =>
  run1 Try.prog Z (binOp BinOp.gtr 3 t14_2 (Value.int IntKind.i64 67108864)) w fun t15_3 w =>
  CondV t15_3 (
    Q t12_1 w) (
    CallV Try.prog Z 10 #[x0] w fun t18_4 w =>
    CallV Try.prog Z 11 #[t18_4] w fun t20_5 w =>
    CallV Try.prog Z 11 #[t18_4] w fun t22_6 w =>
    CallV Try.prog Z 12 #[t18_4, x0] w fun t25_7 w =>
    guardW (t25_7) true (fun k => k (t18_4) w) (fun t27_8 w =>
    guardW (t25_7) true (fun k => CallV Try.prog Z 13 #[t27_8] w k) (fun t28_9 w =>
    run1 Try.prog Z (pickV t25_7 t28_9 (Value.bool false)) w fun t29_10 w =>
    CallV Try.prog Z 14 #[x0] w fun t31_11 w =>
    ∃ J_12 : Nat → Value → World → Prop, (∃ m, J_12 m (Value.int IntKind.i64 0) w) ∧
      ∀ m_12, ∀ t9_13 : Value, ∀ w : World, J_12 m_12 t9_13 w → Env →
        run1 Try.prog Z (Builtin.len_ #[22] 3 #[t18_4]) w fun t34_14 w =>
        run1 Try.prog Z (binOp BinOp.lss 3 t9_13 t34_14) w fun t35_15 w =>
        CondV t35_15 (
          run1 Try.prog Z (Instr.indexAt 22 t18_4 t9_13) w fun t42_16 w =>
          run1 Try.prog Z (Instr.loadAt 5 t42_16) w fun t43_17 w =>
          run1 Try.prog Z (binOp BinOp.xor 5 t43_17 (Value.int IntKind.u8 85)) w fun t44_18 w =>
          run1 Try.prog Z (Instr.indexAt 22 t18_4 t9_13) w fun t45_19 w =>
          run0 Try.prog Z (Instr.storeAt 5 t45_19 t44_18) w fun w =>
          run1 Try.prog Z (binOp BinOp.add 3 t9_13 (Value.int IntKind.i64 1)) w fun t37_20 w =>
          ∃ n_12, n_12 < m_12 ∧ J_12 n_12 t37_20 w) (
          CallV Try.prog Z 15 #[t18_4] w fun t47_21 w =>
          CallV Try.prog Z 11 #[t18_4] w fun t49_22 w =>
          guardW (t12_1) true (fun k => k (t29_10) w) (fun t52_23 w =>
          run1 Try.prog Z (pickV t12_1 t52_23 (Value.bool false)) w fun t53_24 w =>
          guardW (t53_24) true (fun k => k (t20_5) w) (fun t55_25 w =>
          guardW (t53_24) true (fun k => k (t31_11) w) (fun t56_26 w =>
          guardW (t53_24) true (fun k => run1 Try.prog Z (eqOp BinOp.eql 25 false false t55_25 t56_26) w k) (fun t57_27 w =>
          run1 Try.prog Z (pickV t53_24 t57_27 (Value.bool false)) w fun t58_28 w =>
          guardW (t58_28) true (fun k => k (t22_6) w) (fun t60_29 w =>
          guardW (t58_28) true (fun k => k (t31_11) w) (fun t61_30 w =>
          guardW (t58_28) true (fun k => run1 Try.prog Z (eqOp BinOp.eql 25 false false t60_29 t61_30) w k) (fun t62_31 w =>
          run1 Try.prog Z (pickV t58_28 t62_31 (Value.bool false)) w fun t63_32 w =>
          guardW (t63_32) true (fun k => k (t49_22) w) (fun t65_33 w =>
          guardW (t63_32) true (fun k => k (t47_21) w) (fun t66_34 w =>
          guardW (t63_32) true (fun k => CallV Try.prog Z 14 #[t66_34] w k) (fun t67_35 w =>
          guardW (t63_32) true (fun k => run1 Try.prog Z (eqOp BinOp.eql 25 false false t65_33 t67_35) w k) (fun t68_36 w =>
          run1 Try.prog Z (pickV t63_32 t68_36 (Value.bool false)) w fun t69_37 w =>
          Q t69_37 w) w) w) w) w) w) w) w) w) w) w) w)) w) w)
noncomputable def f3.code : Code := match Try.f3.body with | some c => c | none => .skip
def f3.an : An := (.sq .leaf (.sq .leaf (.sq (.sq .leaf (.cn (.sq .leaf .leaf) .leaf)) (.sq .leaf (.sq .leaf (.sq .leaf (.sq .leaf (.sq .leaf (.sq (.sq .leaf (.bl (.lp [9] [9, 32, 33, 34, 35, 36, 37, 38, 39, 40, 41, 42, 43, 44, 45] (.sq (.sq .leaf (.cn .leaf .leaf)) (.sq (.bl .leaf) .leaf))))) (.sq .leaf (.sq .leaf (.sq .leaf .leaf))))))))))))
theorem f3.body_eq : Try.f3.body = some f3.code := by kernel_rfl
theorem f3.shape (Z : List PanicEntry → World → Prop) (x0 : Value) (w : World) (Q : Value → World → Prop) : vc drawD Try.prog 70 Z [9, 10, 11, 12, 13, 14, 15] f3.an f3.code (fnQ Try.prog 70 Try.f3.results Q) (argEnv [x0]) w = f3.sh Z x0 w Q := by kernel_rfl
theorem f3.enters : ∀ f, f ∈ ([9, 10, 11, 12, 13, 14, 15] : List Nat) → Enters Try.prog f := by
  intro f hf
  simp only [List.mem_cons, List.not_mem_nil, or_false] at hf
  rcases hf with rfl | rfl | rfl | rfl | rfl | rfl | rfl
  · exact en9
  · exact en10
  · exact en11
  · exact en12
  · exact en13
  · exact en14
  · exact en15
theorem f3.calls {Z : List PanicEntry → World → Prop} {x0 : Value} {w : World} {Q : Value → World → Prop} (h : f3.sh Z x0 w Q) : CallV Try.prog Z 3 #[x0] w Q :=
  calls_of_vcn drawD_sound (Q := Q) (n := 70) (rs := Try.f3.results) (an := f3.an) (c := f3.code) (cal := [9, 10, 11, 12, 13, 14, 15]) (args := [x0]) Try.func3 (by kernel_rfl) rfl f3.body_eq follows (Nat.le_of_ble_eq_true (by kernel_rfl)) (enters_of_all f3.enters) ((f3.shape Z x0 w Q).mpr h)

/-! ### 4: lagoon/lagoonlaw01.PackTurned -/
def f4.sh (Z : List PanicEntry → World → Prop) (x0 x1 x2 : Value) (w : World) (Q : Value → World → Prop) : Prop :=
  CallV Try.prog Z 9 #[] w fun t10_1 w =>
  run1 Try.prog Z (Builtin.len_ #[22] 3 #[x0]) w fun t12_2 w =>
  run1 Try.prog Z (binOp BinOp.gtr 3 t12_2 (Value.int IntKind.i64 67108864)) w fun t13_3 w =>
  CondV t13_3 (
    Q t10_1 w) (
    run1 Try.prog Z (binOp BinOp.lss 3 x1 (Value.int IntKind.i64 0)) w fun t16_4 w =>
    guardW (t16_4) false (fun k => k (x1) w) (fun t18_5 w =>
    guardW (t16_4) false (fun k => k (x0) w) (fun t19_6 w =>
    guardW (t16_4) false (fun k => run1 Try.prog Z (Builtin.len_ #[22] 3 #[t19_6]) w k) (fun t20_7 w =>
    guardW (t16_4) false (fun k => run1 Try.prog Z (binOp BinOp.geq 3 t18_5 t20_7) w k) (fun t21_8 w =>
    run1 Try.prog Z (pickV t16_4 (Value.bool true) t21_8) w fun t22_9 w =>
    guardW (t22_9) false (fun k => k (x2) w) (fun t24_10 w =>
    guardW (t22_9) false (fun k => run1 Try.prog Z (eqOp BinOp.eql 5 false true t24_10 (Value.int IntKind.u8 0)) w k) (fun t25_11 w =>
    run1 Try.prog Z (pickV t22_9 (Value.bool true) t25_11) w fun t26_12 w =>
    CondV t26_12 (
      Q t10_1 w) (
      CallV Try.prog Z 15 #[x0] w fun t29_13 w =>
      run1 Try.prog Z (Instr.indexAt 22 t29_13 x1) w fun t34_14 w =>
      run1 Try.prog Z (Instr.loadAt 5 t34_14) w fun t35_15 w =>
      run1 Try.prog Z (binOp BinOp.xor 5 t35_15 x2) w fun t37_16 w =>
      run1 Try.prog Z (Instr.indexAt 22 t29_13 x1) w fun t38_17 w =>
      run0 Try.prog Z (Instr.storeAt 5 t38_17 t37_16) w fun w =>
      CallV Try.prog Z 15 #[x0] w fun t40_18 w =>
      CallV Try.prog Z 11 #[t40_18] w fun t41_19 w =>
      guardW (t10_1) true (fun k => k (t41_19) w) (fun t44_20 w =>
      guardW (t10_1) true (fun k => k (t29_13) w) (fun t45_21 w =>
      guardW (t10_1) true (fun k => CallV Try.prog Z 11 #[t45_21] w k) (fun t46_22 w =>
      guardW (t10_1) true (fun k => run1 Try.prog Z (eqOp BinOp.neq 25 false false t44_20 t46_22) w k) (fun t47_23 w =>
      run1 Try.prog Z (pickV t10_1 t47_23 (Value.bool false)) w fun t48_24 w =>
      Q t48_24 w) w) w) w) w)) w) w) w) w) w) w)
noncomputable def f4.code : Code := match Try.f4.body with | some c => c | none => .skip
def f4.an : An := (.sq .leaf (.sq .leaf (.sq (.sq .leaf (.cn (.sq .leaf .leaf) .leaf)) (.sq (.sq .leaf (.cn (.sq .leaf .leaf) .leaf)) (.sq .leaf (.sq .leaf (.sq .leaf (.sq .leaf .leaf))))))))
theorem f4.body_eq : Try.f4.body = some f4.code := by kernel_rfl
theorem f4.shape (Z : List PanicEntry → World → Prop) (x0 x1 x2 : Value) (w : World) (Q : Value → World → Prop) : vc drawD Try.prog 49 Z [9, 15, 11] f4.an f4.code (fnQ Try.prog 49 Try.f4.results Q) (argEnv [x0, x1, x2]) w = f4.sh Z x0 x1 x2 w Q := by kernel_rfl
theorem f4.enters : ∀ f, f ∈ ([9, 15, 11] : List Nat) → Enters Try.prog f := by
  intro f hf
  simp only [List.mem_cons, List.not_mem_nil, or_false] at hf
  rcases hf with rfl | rfl | rfl
  · exact en9
  · exact en15
  · exact en11
theorem f4.calls {Z : List PanicEntry → World → Prop} {x0 x1 x2 : Value} {w : World} {Q : Value → World → Prop} (h : f4.sh Z x0 x1 x2 w Q) : CallV Try.prog Z 4 #[x0, x1, x2] w Q :=
  calls_of_vcn drawD_sound (Q := Q) (n := 49) (rs := Try.f4.results) (an := f4.an) (c := f4.code) (cal := [9, 15, 11]) (args := [x0, x1, x2]) Try.func4 (by kernel_rfl) rfl f4.body_eq follows (Nat.le_of_ble_eq_true (by kernel_rfl)) (enters_of_all f4.enters) ((f4.shape Z x0 x1 x2 w Q).mpr h)

/-! ### 5: lagoon/lagoonlaw01.PackPuts -/
def f5.sh (Z : List PanicEntry → World → Prop) (x0 x1 : Value) (w : World) (Q : Value → World → Prop) : Prop :=
  CallV Try.prog Z 9 #[] w fun t12_1 w =>
  run1 Try.prog Z (Builtin.len_ #[22] 3 #[x0]) w fun t14_2 w =>
  run1 Try.prog Z (binOp BinOp.gtr 3 t14_2 (Value.int IntKind.i64 67108864)) w fun t15_3 w =>
  guardW (t15_3) false (fun k => k (x1) w) (fun t17_4 w =>
  guardW (t15_3) false (fun k => run1 Try.prog Z (Builtin.len_ #[30] 3 #[t17_4]) w k) (fun t18_5 w =>
  guardW (t15_3) false (fun k => run1 Try.prog Z (binOp BinOp.gtr 3 t18_5 (Value.int IntKind.i64 4194304)) w k) (fun t19_6 w =>
  run1 Try.prog Z (pickV t15_3 (Value.bool true) t19_6) w fun t20_7 w =>
  CondV t20_7 (
    Q t12_1 w) (
    run1 Try.prog Z (Instr.build 33 #[]) w fun t22_8 w =>
    run1 Try.prog Z (Instr.box 33 t22_8) w fun t23_9 w =>
    CallV Try.prog Z 15 #[x0] w fun t26_10 w =>
    CallV Try.prog Z 16 #[t23_9, t26_10] w fun t27_11 w =>
    run1 Try.prog Z (Builtin.len_ #[30] 3 #[x1]) w fun t29_12 w =>
    run1 Try.prog Z (binOp BinOp.add 3 t29_12 (Value.int IntKind.i64 16)) w fun t30_13 w =>
    run1 Try.prog Z (Instr.makeSlice 30 t30_13 t30_13) w fun t31_14 w =>
    ∃ J_15 : Nat → Value → World → Prop, (∃ m, J_15 m (Value.int IntKind.i64 0) w) ∧
      ∀ m_15, ∀ t8_16 : Value, ∀ w : World, J_15 m_15 t8_16 w → Env →
        run1 Try.prog Z (Builtin.len_ #[30] 3 #[t31_14]) w fun t34_17 w =>
        run1 Try.prog Z (binOp BinOp.lss 3 t8_16 t34_17) w fun t35_18 w =>
        CondV t35_18 (
          ∀ j_19 : World → Prop, (∀ w : World, (Env →
              run1 Try.prog Z (binOp BinOp.add 3 t8_16 (Value.int IntKind.i64 1)) w fun t37_20 w =>
              ∃ n_15, n_15 < m_15 ∧ J_15 n_15 t37_20 w) →
              j_19 w) →
          run1 Try.prog Z (Instr.indexAt 30 t31_14 t8_16) w fun t40_21 w =>
          run0 Try.prog Z (Instr.storeAt 2 t40_21 (Value.int IntKind.i64 (-77))) w fun w =>
          run1 Try.prog Z (Builtin.len_ #[30] 3 #[x1]) w fun t43_22 w =>
          run1 Try.prog Z (binOp BinOp.lss 3 t8_16 t43_22) w fun t44_23 w =>
          CondV t44_23 (
            run1 Try.prog Z (Instr.indexAt 30 x1 t8_16) w fun t49_24 w =>
            run1 Try.prog Z (Instr.loadAt 2 t49_24) w fun t50_25 w =>
            run1 Try.prog Z (Instr.indexAt 30 t31_14 t8_16) w fun t51_26 w =>
            run0 Try.prog Z (Instr.storeAt 2 t51_26 t50_25) w fun w =>
            j_19 w) (
            j_19 w)) (
          run1 Try.prog Z (Builtin.len_ #[30] 3 #[x1]) w fun t55_27 w =>
          run1 Try.prog Z (Instr.sliceAt 30 t31_14 none (some t55_27) none) w fun t56_28 w =>
          CallV Try.prog Z 17 #[t23_9, t56_28, (Value.func (Fn.func 18) #[] #[])] w fun t57_29 w =>
          run1 Try.prog Z (Builtin.len_ #[30] 3 #[x1]) w fun t60_30 w =>
          run1 Try.prog Z (convert 3 21 t60_30) w fun t61_31 w =>
          CallV Try.prog Z 20 #[t61_31] w fun t62_32 w =>
          CallV Try.prog Z 19 #[x0, t62_32] w fun t63_33 w =>
          ∃ J_34 : Nat → Value → Value → World → Prop, (∃ m, J_34 m t63_33 (Value.int IntKind.i64 0) w) ∧
            ∀ m_34, ∀ t9_35 : Value, ∀ t10_36 : Value, ∀ w : World, J_34 m_34 t9_35 t10_36 w → Env →
              run1 Try.prog Z (Builtin.len_ #[30] 3 #[x1]) w fun t66_37 w =>
              run1 Try.prog Z (binOp BinOp.lss 3 t10_36 t66_37) w fun t67_38 w =>
              CondV t67_38 (
                run1 Try.prog Z (Instr.indexAt 30 x1 t10_36) w fun t73_39 w =>
                run1 Try.prog Z (Instr.loadAt 2 t73_39) w fun t74_40 w =>
                CallV Try.prog Z 21 #[t74_40] w fun t75_41 w =>
                CallV Try.prog Z 19 #[t9_35, t75_41] w fun t76_42 w =>
                run1 Try.prog Z (binOp BinOp.add 3 t10_36 (Value.int IntKind.i64 1)) w fun t69_43 w =>
                ∃ n_34, n_34 < m_34 ∧ J_34 n_34 t76_42 t69_43 w) (
                ∃ J_44 : Nat → Value → World → Prop, (∃ m, J_44 m (Value.int IntKind.i64 0) w) ∧
                  ∀ m_44, ∀ t11_45 : Value, ∀ w : World, J_44 m_44 t11_45 w → Env →
                    run1 Try.prog Z (Builtin.len_ #[30] 3 #[t31_14]) w fun t79_46 w =>
                    run1 Try.prog Z (binOp BinOp.lss 3 t11_45 t79_46) w fun t80_47 w =>
                    CondV t80_47 (
                      Drawn w fun w =>
                      Pure1 Try.prog (Builtin.len_ #[30] 3 #[x1]) fun t85_48 =>
                      Pure1 Try.prog (binOp BinOp.lss 3 t11_45 t85_48) fun t86_49 =>
                      guardV (t86_49) true (fun k => k (t31_14)) (fun t88_50 =>
                      guardV (t86_49) true (fun k => k (t11_45)) (fun t89_51 =>
                      guardV (t86_49) true (fun k => Pure1 Try.prog (Instr.indexAt 30 t88_50 t89_51) k) (fun t90_52 =>
                      guardV (t86_49) true (fun k => Read1 Try.prog (Instr.loadAt 2 t90_52) w k) (fun t91_53 =>
                      guardV (t86_49) true (fun k => k (x1)) (fun t92_54 =>
                      guardV (t86_49) true (fun k => k (t11_45)) (fun t93_55 =>
                      guardV (t86_49) true (fun k => Pure1 Try.prog (Instr.indexAt 30 t92_54 t93_55) k) (fun t94_56 =>
                      guardV (t86_49) true (fun k => Read1 Try.prog (Instr.loadAt 2 t94_56) w k) (fun t95_57 =>
                      guardV (t86_49) true (fun k => Pure1 Try.prog (eqOp BinOp.neq 2 false false t91_53 t95_57) k) (fun t96_58 =>
                      Pure1 Try.prog (pickV t86_49 t96_58 (Value.bool false)) fun t97_59 =>
                      guardV (t97_59) false (fun k => k (t11_45)) (fun t99_60 =>
                      guardV (t97_59) false (fun k => k (x1)) (fun t100_61 =>
                      guardV (t97_59) false (fun k => Pure1 Try.prog (Builtin.len_ #[30] 3 #[t100_61]) k) (fun t101_62 =>
                      guardV (t97_59) false (fun k => Pure1 Try.prog (binOp BinOp.geq 3 t99_60 t101_62) k) (fun t102_63 =>
                      guardV (t97_59) false (fun k => k (t102_63)) (fun t103_64 =>
                      guardV (t103_64) true (fun k => k (t31_14)) (fun t104_65 =>
                      guardV (t103_64) true (fun k => k (t11_45)) (fun t105_66 =>
                      guardV (t103_64) true (fun k => Pure1 Try.prog (Instr.indexAt 30 t104_65 t105_66) k) (fun t106_67 =>
                      guardV (t103_64) true (fun k => Read1 Try.prog (Instr.loadAt 2 t106_67) w k) (fun t107_68 =>
                      guardV (t103_64) true (fun k => Pure1 Try.prog (eqOp BinOp.neq 2 false true t107_68 (Value.int IntKind.i64 (-77))) k) (fun t108_69 =>
                      guardV (t97_59) false (fun k => Pure1 Try.prog (pickV t103_64 t108_69 (Value.bool false)) k) (fun t109_70 =>
                      Pure1 Try.prog (pickV t97_59 (Value.bool true) t109_70) fun t110_71 =>
                      CondV t110_71 (
                        Q (Value.bool false) w) (
                        run1 Try.prog Z (binOp BinOp.add 3 t11_45 (Value.int IntKind.i64 1)) w fun t82_72 w =>
                        ∃ n_44, n_44 < m_44 ∧ J_44 n_44 t82_72 w)))))))))))))))))))))) (
                      guardW (t12_1) true (fun k => k (t23_9) w) (fun t113_73 w =>
                      guardW (t12_1) true (fun k => CallV Try.prog Z 22 #[t113_73] w k) (fun t114_74 w =>
                      guardW (t12_1) true (fun k => k (t9_35) w) (fun t115_75 w =>
                      guardW (t12_1) true (fun k => CallV Try.prog Z 12 #[t114_74, t115_75] w k) (fun t116_76 w =>
                      run1 Try.prog Z (pickV t12_1 t116_76 (Value.bool false)) w fun t117_77 w =>
                      Q t117_77 w) w) w) w) w))))) w) w) w
noncomputable def f5.code : Code := match Try.f5.body with | some c => c | none => .skip
def f5.an : An := (.sq .leaf (.sq .leaf (.sq (.sq .leaf (.cn (.sq .leaf .leaf) .leaf)) (.sq .leaf (.sq .leaf (.sq .leaf (.sq (.sq .leaf (.bl (.lp [8] [8, 32, 33, 34, 35, 36, 37, 38, 39, 40, 41, 42, 43, 44, 45, 46, 47, 48, 49, 50, 51] (.sq (.sq .leaf (.cn .leaf .leaf)) (.sj [] [38, 39, 40, 41, 42, 43, 44, 45, 46, 47, 48, 49, 50, 51] (.bl (.sq .leaf (.sq .leaf (.cn .leaf .leaf)))) .leaf))))) (.sq .leaf (.sq .leaf (.sq (.sq .leaf (.bl (.lp [9, 10] [9, 10, 64, 65, 66, 67, 68, 69, 70, 71, 72, 73, 74, 75, 76] (.sq (.sq .leaf (.cn .leaf .leaf)) (.sq (.bl .leaf) .leaf))))) (.sq (.sq .leaf (.bl (.lp [11] [4, 11, 77, 78, 79, 80, 81, 82, 83, 84, 85, 86, 87, 88, 89, 90, 91, 92, 93, 94, 95, 96, 97, 98, 99, 100, 101, 102, 103, 104, 105, 106, 107, 108, 109, 110] (.sq (.sq .leaf (.cn .leaf .leaf)) (.sq (.bl (.sq (.dr (.take 0 false (.take 1 false (.take 2 false (.take 3 false (.take 4 false (.take 5 false (.take 6 false (.take 7 false (.take 8 true (.take 9 false (.take 10 false (.take 11 false (.take 12 true (.take 13 false (.take 14 false (.take 15 false (.take 16 false (.take 17 false (.take 18 false (.take 19 false (.take 20 false (.take 21 false (.take 22 false (.take 23 false (.take 24 true (.take 25 false (.take 26 false (.take 27 false .fin))))))))))))))))))))))))))))) (.cn (.sq .leaf .leaf) .leaf))) .leaf))))) (.sq .leaf .leaf))))))))))))
theorem f5.body_eq : Try.f5.body = some f5.code := by kernel_rfl
theorem f5.shape (Z : List PanicEntry → World → Prop) (x0 x1 : Value) (w : World) (Q : Value → World → Prop) : vc drawD Try.prog 118 Z [9, 15, 16, 17, 20, 19, 21, 22, 12] f5.an f5.code (fnQ Try.prog 118 Try.f5.results Q) (argEnv [x0, x1]) w = f5.sh Z x0 x1 w Q := by kernel_rfl
theorem f5.enters : ∀ f, f ∈ ([9, 15, 16, 17, 20, 19, 21, 22, 12] : List Nat) → Enters Try.prog f := by
  intro f hf
  simp only [List.mem_cons, List.not_mem_nil, or_false] at hf
  rcases hf with rfl | rfl | rfl | rfl | rfl | rfl | rfl | rfl | rfl
  · exact en9
  · exact en15
  · exact en16
  · exact en17
  · exact en20
  · exact en19
  · exact en21
  · exact en22
  · exact en12
theorem f5.calls {Z : List PanicEntry → World → Prop} {x0 x1 : Value} {w : World} {Q : Value → World → Prop} (h : f5.sh Z x0 x1 w Q) : CallV Try.prog Z 5 #[x0, x1] w Q :=
  calls_of_vcn drawD_sound (Q := Q) (n := 118) (rs := Try.f5.results) (an := f5.an) (c := f5.code) (cal := [9, 15, 16, 17, 20, 19, 21, 22, 12]) (args := [x0, x1]) Try.func5 (by kernel_rfl) rfl f5.body_eq follows (Nat.le_of_ble_eq_true (by kernel_rfl)) (enters_of_all f5.enters) ((f5.shape Z x0 x1 w Q).mpr h)

/-! ### 6: lagoon/lagoonlaw01.PackBack -/
def f6.sh (Z : List PanicEntry → World → Prop) (x0 : Value) (w : World) (Q : Value → World → Prop) : Prop :=
  CallV Try.prog Z 9 #[] w fun t12_1 w =>
  CallV Try.prog Z 23 #[x0] w fun t14_2 w =>
  CondV t14_2 (
    Q t12_1 w) (
    run1 Try.prog Z (Instr.build 33 #[]) w fun t16_3 w =>
    run1 Try.prog Z (Instr.box 33 t16_3) w fun t17_4 w =>
    ∃ J_5 : Nat → Value → Value → World → Prop, (∃ m, J_5 m (Value.slice none 0 0) (Value.int IntKind.i64 0) w) ∧
      ∀ m_5, ∀ t5_6 : Value, ∀ t6_7 : Value, ∀ w : World, J_5 m_5 t5_6 t6_7 w → Env →
        run1 Try.prog Z (Builtin.len_ #[42] 3 #[x0]) w fun t20_8 w =>
        run1 Try.prog Z (binOp BinOp.lss 3 t6_7 t20_8) w fun t21_9 w =>
        CondV t21_9 (
          ∀ j_10 : Value → World → Prop, (∀ t5_11 : Value, ∀ w : World, (Env →
              run1 Try.prog Z (binOp BinOp.add 3 t6_7 (Value.int IntKind.i64 1)) w fun t23_12 w =>
              ∃ n_5, n_5 < m_5 ∧ J_5 n_5 t5_11 t23_12 w) →
              j_10 t5_11 w) →
          run1 Try.prog Z (Instr.indexAt 42 x0 t6_7) w fun t26_13 w =>
          run1 Try.prog Z (Instr.loadAt 46 t26_13) w fun t27_14 w =>
          run1 Try.prog Z (Instr.alloc 46 true (.tuple #[])) w fun t7_15 w =>
          run0 Try.prog Z (Instr.storeAt 46 t7_15 t27_14) w fun w =>
          run1 Try.prog Z (Instr.fieldAt 46 t7_15 0) w fun t28_16 w =>
          run1 Try.prog Z (Instr.loadAt 3 t28_16) w fun t29_17 w =>
          run1 Try.prog Z (binOp BinOp.geq 3 t29_17 (Value.int IntKind.i64 1)) w fun t30_18 w =>
          guardW (t30_18) true (fun k => run1 Try.prog Z (Instr.fieldAt 46 t7_15 0) w k) (fun t32_19 w =>
          guardW (t30_18) true (fun k => run1 Try.prog Z (Instr.loadAt 3 t32_19) w k) (fun t33_20 w =>
          guardW (t30_18) true (fun k => run1 Try.prog Z (binOp BinOp.leq 3 t33_20 (Value.int IntKind.i64 9)) w k) (fun t34_21 w =>
          run1 Try.prog Z (pickV t30_18 t34_21 (Value.bool false)) w fun t35_22 w =>
          CondV t35_22 (
            run1 Try.prog Z (Instr.fieldAt 46 t7_15 5) w fun t36_23 w =>
            run1 Try.prog Z (Instr.loadAt 22 t36_23) w fun t37_24 w =>
            CallV Try.prog Z 15 #[t37_24] w fun t38_25 w =>
            run1 Try.prog Z (Instr.fieldAt 46 t7_15 5) w fun t39_26 w =>
            run0 Try.prog Z (Instr.storeAt 22 t39_26 t38_25) w fun w =>
            run1 Try.prog Z (Instr.loadAt 46 t7_15) w fun t41_27 w =>
            CallV Try.prog Z 24 #[t17_4, t41_27] w fun t42_28 w =>
            run1 Try.prog Z (Instr.loadAt 46 t7_15) w fun t44_29 w =>
            run1 Try.prog Z (Instr.buildSlice 42 1 #[(0, t44_29)]) w fun t45_30 w =>
            run1 Try.prog Z (Builtin.append_ #[42, 42] 42 #[t5_6, t45_30]) w fun t46_31 w =>
            j_10 t46_31 w) (
            j_10 t5_6 w)) w) w) w) (
          CallV Try.prog Z 22 #[t17_4] w fun t48_32 w =>
          CallV Try.prog Z 25 #[t48_32] w fun t49_33 w =>
          run1 Try.prog Z (eqOp BinOp.eql 49 false true t49_33 (Value.pointer none)) w fun t51_34 w =>
          CondV t51_34 (
            Q (Value.bool false) w) (
            ∃ J_35 : Nat → Value → World → Prop, (∃ m, J_35 m (Value.int IntKind.i64 0) w) ∧
              ∀ m_35, ∀ t9_36 : Value, ∀ w : World, J_35 m_35 t9_36 w → Env →
                run1 Try.prog Z (Builtin.len_ #[42] 3 #[t5_6]) w fun t54_37 w =>
                run1 Try.prog Z (binOp BinOp.lss 3 t9_36 t54_37) w fun t55_38 w =>
                CondV t55_38 (
                  ∀ j_39 : World → Prop, (∀ w : World, (Env →
                      run1 Try.prog Z (binOp BinOp.add 3 t9_36 (Value.int IntKind.i64 1)) w fun t57_40 w =>
                      ∃ n_35, n_35 < m_35 ∧ J_35 n_35 t57_40 w) →
                      j_39 w) →
                  run1 Try.prog Z (Instr.indexAt 42 t5_6 t9_36) w fun t60_41 w =>
                  run1 Try.prog Z (Instr.loadAt 46 t60_41) w fun t61_42 w =>
                  run1 Try.prog Z (Instr.alloc 46 true (.tuple #[])) w fun t10_43 w =>
                  run0 Try.prog Z (Instr.storeAt 46 t10_43 t61_42) w fun w =>
                  ∀ j_44 : World → Prop, (∀ w : World, (Env →
                      ∀ j_45 : World → Prop, (∀ w : World, (Env →
                          run1 Try.prog Z (Instr.loadAt 46 t10_43) w fun t77_46 w =>
                          CallV Try.prog Z 26 #[t49_33, t77_46] w fun t78_47 w =>
                          run1 Try.prog Z (Instr.alloc 54 true (.tuple #[])) w fun t11_48 w =>
                          run0 Try.prog Z (Instr.storeAt 54 t11_48 t78_47) w fun w =>
                          Drawn w fun w =>
                          Pure1 Try.prog (Instr.indexAt 42 t5_6 t9_36) fun t81_49 =>
                          Read1 Try.prog (Instr.loadAt 46 t81_49) w fun t82_50 =>
                          Read1 Try.prog (Instr.loadAt 54 t11_48) w fun t83_51 =>
                          CallV Try.prog Z 27 #[t82_50, t83_51] w fun t84_52 w =>
                          Pure1 Try.prog (Op.unary UnOp.not t84_52) fun t85_53 =>
                          CondV t85_53 (
                            Q (Value.bool false) w) (
                            j_39 w)) →
                          j_45 w) →
                      run1 Try.prog Z (Instr.fieldAt 46 t10_43 0) w fun t69_54 w =>
                      run1 Try.prog Z (Instr.loadAt 3 t69_54) w fun t70_55 w =>
                      run1 Try.prog Z (eqOp BinOp.eql 3 false true t70_55 (Value.int IntKind.i64 7)) w fun t71_56 w =>
                      CondV t71_56 (
                        run1 Try.prog Z (Instr.fieldAt 46 t10_43 4) w fun t72_57 w =>
                        run1 Try.prog Z (Instr.loadAt 9 t72_57) w fun t73_58 w =>
                        run1 Try.prog Z (Builtin.len_ #[9] 3 #[t73_58]) w fun t74_59 w =>
                        run1 Try.prog Z (Instr.fieldAt 46 t10_43 2) w fun t75_60 w =>
                        run0 Try.prog Z (Instr.storeAt 2 t75_60 t74_59) w fun w =>
                        j_45 w) (
                        j_45 w)) →
                      j_44 w) →
                  run1 Try.prog Z (Instr.fieldAt 46 t10_43 0) w fun t62_61 w =>
                  run1 Try.prog Z (Instr.loadAt 3 t62_61) w fun t63_62 w =>
                  run1 Try.prog Z (binOp BinOp.geq 3 t63_62 (Value.int IntKind.i64 7)) w fun t64_63 w =>
                  CondV t64_63 (
                    run1 Try.prog Z (Instr.fieldAt 46 t10_43 5) w fun t65_64 w =>
                    run1 Try.prog Z (Instr.loadAt 22 t65_64) w fun t66_65 w =>
                    run1 Try.prog Z (Builtin.len_ #[22] 3 #[t66_65]) w fun t67_66 w =>
                    run1 Try.prog Z (Instr.fieldAt 46 t10_43 2) w fun t68_67 w =>
                    run0 Try.prog Z (Instr.storeAt 2 t68_67 t67_66) w fun w =>
                    j_44 w) (
                    j_44 w)) (
                  guardW (t12_1) true (fun k => k (t49_33) w) (fun t88_68 w =>
                  guardW (t12_1) true (fun k => CallV Try.prog Z 28 #[t88_68] w k) (fun t89_69 w =>
                  guardW (t12_1) true (fun k => run1 Try.prog Z (eqOp BinOp.eql 3 false true t89_69 (Value.int IntKind.i64 0)) w k) (fun t90_70 w =>
                  run1 Try.prog Z (pickV t12_1 t90_70 (Value.bool false)) w fun t91_71 w =>
                  guardW (t91_71) true (fun k => k (t49_33) w) (fun t93_72 w =>
                  guardW (t91_71) true (fun k => CallV Try.prog Z 29 #[t93_72] w k) (fun t94_73 w =>
                  guardW (t91_71) true (fun k => run1 Try.prog Z (eqOp BinOp.eql 51 false true t94_73 (Value.int IntKind.i64 0)) w k) (fun t95_74 w =>
                  run1 Try.prog Z (pickV t91_71 t95_74 (Value.bool false)) w fun t96_75 w =>
                  Q t96_75 w) w) w) w) w) w) w))))
noncomputable def f6.code : Code := match Try.f6.body with | some c => c | none => .skip
def f6.an : An := (.sq .leaf (.sq .leaf (.sq (.sq .leaf (.cn (.sq .leaf .leaf) .leaf)) (.sq .leaf (.sq .leaf (.sq (.sq .leaf (.bl (.lp [5, 6] [5, 6, 7, 18, 19, 20, 21, 22, 23, 24, 25, 26, 27, 28, 29, 30, 31, 32, 33, 34, 35, 36, 37, 38, 39, 40, 41, 42, 43, 44, 45, 46] (.sq (.sq .leaf (.cn .leaf .leaf)) (.sj [5] [5, 7, 24, 25, 26, 27, 28, 29, 30, 31, 32, 33, 34, 35, 36, 37, 38, 39, 40, 41, 42, 43, 44, 45, 46] (.bl (.sq .leaf (.sq .leaf (.cn (.sq .leaf (.sq .leaf .leaf)) .leaf)))) .leaf))))) (.sq .leaf (.sq (.sq .leaf (.cn (.sq .leaf .leaf) .leaf)) (.sq (.sq .leaf (.bl (.lp [9] [2, 9, 10, 11, 52, 53, 54, 55, 56, 57, 58, 59, 60, 61, 62, 63, 64, 65, 66, 67, 68, 69, 70, 71, 72, 73, 74, 75, 76, 77, 78, 79, 80, 81, 82, 83, 84, 85] (.sq (.sq .leaf (.cn .leaf .leaf)) (.sj [] [2, 10, 11, 58, 59, 60, 61, 62, 63, 64, 65, 66, 67, 68, 69, 70, 71, 72, 73, 74, 75, 76, 77, 78, 79, 80, 81, 82, 83, 84, 85] (.bl (.sq .leaf (.sj [] [62, 63, 64, 65, 66, 67, 68] (.sq .leaf (.cn .leaf .leaf)) (.sj [] [69, 70, 71, 72, 73, 74, 75] (.sq .leaf (.cn .leaf .leaf)) (.sq .leaf (.sq (.dr (.take 0 false (.take 1 false (.take 2 false (.take 3 true (.take 4 true (.one 5 (.take 6 false .fin)))))))) (.cn (.sq .leaf .leaf) .leaf))))))) .leaf))))) (.sq .leaf .leaf))))))))))
theorem f6.body_eq : Try.f6.body = some f6.code := by kernel_rfl
theorem f6.shape (Z : List PanicEntry → World → Prop) (x0 : Value) (w : World) (Q : Value → World → Prop) : vc drawD Try.prog 97 Z [9, 23, 15, 24, 22, 25, 26, 27, 28, 29] f6.an f6.code (fnQ Try.prog 97 Try.f6.results Q) (argEnv [x0]) w = f6.sh Z x0 w Q := by kernel_rfl
theorem f6.enters : ∀ f, f ∈ ([9, 23, 15, 24, 22, 25, 26, 27, 28, 29] : List Nat) → Enters Try.prog f := by
  intro f hf
  simp only [List.mem_cons, List.not_mem_nil, or_false] at hf
  rcases hf with rfl | rfl | rfl | rfl | rfl | rfl | rfl | rfl | rfl | rfl
  · exact en9
  · exact en23
  · exact en15
  · exact en24
  · exact en22
  · exact en25
  · exact en26
  · exact en27
  · exact en28
  · exact en29
theorem f6.calls {Z : List PanicEntry → World → Prop} {x0 : Value} {w : World} {Q : Value → World → Prop} (h : f6.sh Z x0 w Q) : CallV Try.prog Z 6 #[x0] w Q :=
  calls_of_vcn drawD_sound (Q := Q) (n := 97) (rs := Try.f6.results) (an := f6.an) (c := f6.code) (cal := [9, 23, 15, 24, 22, 25, 26, 27, 28, 29]) (args := [x0]) Try.func6 (by kernel_rfl) rfl f6.body_eq follows (Nat.le_of_ble_eq_true (by kernel_rfl)) (enters_of_all f6.enters) ((f6.shape Z x0 w Q).mpr h)

/-! ### 7: lagoon/lagoonlaw01.PackOne -/
def f7.sh (Z : List PanicEntry → World → Prop) (x0 x1 : Value) (w : World) (Q : Value → World → Prop) : Prop :=
  CallV Try.prog Z 9 #[] w fun t13_1 w =>
  run1 Try.prog Z (Builtin.len_ #[22] 3 #[x0]) w fun t15_2 w =>
  run1 Try.prog Z (binOp BinOp.gtr 3 t15_2 (Value.int IntKind.i64 67108864)) w fun t16_3 w =>
  guardW (t16_3) false (fun k => k (x1) w) (fun t18_4 w =>
  guardW (t16_3) false (fun k => run1 Try.prog Z (Builtin.len_ #[59] 3 #[t18_4]) w k) (fun t19_5 w =>
  guardW (t16_3) false (fun k => run1 Try.prog Z (binOp BinOp.gtr 3 t19_5 (Value.int IntKind.i64 67108864)) w k) (fun t20_6 w =>
  run1 Try.prog Z (pickV t16_3 (Value.bool true) t20_6) w fun t21_7 w =>
  CondV t21_7 (
    Q t13_1 w) (
    CallV Try.prog Z 15 #[x0] w fun t24_8 w =>
    CallV Try.prog Z 25 #[t24_8] w fun t25_9 w =>
    run1 Try.prog Z (eqOp BinOp.eql 49 false true t25_9 (Value.pointer none)) w fun t27_10 w =>
    CondV t27_10 (
      Q (Value.bool false) w) (
      run1 Try.prog Z (Instr.build 33 #[]) w fun t28_11 w =>
      run1 Try.prog Z (Instr.box 33 t28_11) w fun t29_12 w =>
      ∀ j_13 : World → Prop, (∀ w : World, (Env →
          CallV Try.prog Z 22 #[t29_12] w fun t71_14 w =>
          run1 Try.prog Z (Builtin.len_ #[22] 3 #[t71_14]) w fun t73_15 w =>
          run1 Try.prog Z (Builtin.len_ #[22] 3 #[x0]) w fun t75_16 w =>
          run1 Try.prog Z (binOp BinOp.gtr 3 t73_15 t75_16) w fun t76_17 w =>
          CondV t76_17 (
            Q (Value.bool false) w) (
            guardW (t13_1) true (fun k => k (t71_14) w) (fun t79_18 w =>
            guardW (t13_1) true (fun k => k (x0) w) (fun t80_19 w =>
            guardW (t13_1) true (fun k => k (t71_14) w) (fun t81_20 w =>
            guardW (t13_1) true (fun k => run1 Try.prog Z (Builtin.len_ #[22] 3 #[t81_20]) w k) (fun t82_21 w =>
            guardW (t13_1) true (fun k => run1 Try.prog Z (Instr.sliceAt 22 t80_19 none (some t82_21) none) w k) (fun t83_22 w =>
            guardW (t13_1) true (fun k => CallV Try.prog Z 12 #[t79_18, t83_22] w k) (fun t84_23 w =>
            run1 Try.prog Z (pickV t13_1 t84_23 (Value.bool false)) w fun t85_24 w =>
            guardW (t85_24) true (fun k => k (t25_9) w) (fun t87_25 w =>
            guardW (t85_24) true (fun k => CallV Try.prog Z 28 #[t87_25] w k) (fun t88_26 w =>
            guardW (t85_24) true (fun k => k (x0) w) (fun t89_27 w =>
            guardW (t85_24) true (fun k => run1 Try.prog Z (Builtin.len_ #[22] 3 #[t89_27]) w k) (fun t90_28 w =>
            guardW (t85_24) true (fun k => k (t71_14) w) (fun t91_29 w =>
            guardW (t85_24) true (fun k => run1 Try.prog Z (Builtin.len_ #[22] 3 #[t91_29]) w k) (fun t92_30 w =>
            guardW (t85_24) true (fun k => run1 Try.prog Z (binOp BinOp.sub 3 t90_28 t92_30) w k) (fun t93_31 w =>
            guardW (t85_24) true (fun k => run1 Try.prog Z (eqOp BinOp.eql 3 false false t88_26 t93_31) w k) (fun t94_32 w =>
            run1 Try.prog Z (pickV t85_24 t94_32 (Value.bool false)) w fun t95_33 w =>
            Q t95_33 w) w) w) w) w) w) w) w) w) w) w) w) w) w) w)) →
          j_13 w) →
      ∃ J_34 : Nat → Value → World → Prop, (∃ m, J_34 m (Value.int IntKind.i64 0) w) ∧
        ∀ m_34, ∀ t8_35 : Value, ∀ w : World, J_34 m_34 t8_35 w → Env →
          run1 Try.prog Z (Builtin.len_ #[59] 3 #[x1]) w fun t32_36 w =>
          run1 Try.prog Z (binOp BinOp.lss 3 t8_35 t32_36) w fun t33_37 w =>
          CondV t33_37 (
            ∀ j_38 : World → Prop, (∀ w : World, (Env →
                run1 Try.prog Z (binOp BinOp.add 3 t8_35 (Value.int IntKind.i64 1)) w fun t35_39 w =>
                ∃ n_34, n_34 < m_34 ∧ J_34 n_34 t35_39 w) →
                j_38 w) →
            run1 Try.prog Z (Instr.indexAt 59 x1 t8_35) w fun t38_40 w =>
            run1 Try.prog Z (Instr.loadAt 3 t38_40) w fun t39_41 w =>
            run1 Try.prog Z (binOp BinOp.lss 3 t39_41 (Value.int IntKind.i64 1)) w fun t41_42 w =>
            guardW (t41_42) false (fun k => k (t39_41) w) (fun t43_43 w =>
            guardW (t41_42) false (fun k => run1 Try.prog Z (binOp BinOp.gtr 3 t43_43 (Value.int IntKind.i64 8)) w k) (fun t44_44 w =>
            run1 Try.prog Z (pickV t41_42 (Value.bool true) t44_44) w fun t45_45 w =>
            CondV t45_45 (
              j_38 w) (
              run1 Try.prog Z (Builtin.len_ #[22] 3 #[x0]) w fun t49_46 w =>
              run1 Try.prog Z (Instr.build 46 #[(0, t39_41), (2, t49_46)]) w fun t50_47 w =>
              CallV Try.prog Z 26 #[t25_9, t50_47] w fun t51_48 w =>
              run1 Try.prog Z (Instr.alloc 54 true (.tuple #[])) w fun t10_49 w =>
              run0 Try.prog Z (Instr.storeAt 54 t10_49 t51_48) w fun w =>
              CallV Try.prog Z 30 #[t25_9] w fun t53_50 w =>
              run1 Try.prog Z (eqOp BinOp.neq 51 false true t53_50 (Value.int IntKind.i64 0)) w fun t54_51 w =>
              CondV t54_51 (
                j_13 w) (
                run1 Try.prog Z (Instr.fieldAt 54 t10_49 1) w fun t55_52 w =>
                run1 Try.prog Z (Instr.loadAt 2 t55_52) w fun t56_53 w =>
                ∀ j_54 : Value → World → Prop, (∀ t11_55 : Value, ∀ w : World, (Env →
                    run1 Try.prog Z (Instr.fieldAt 54 t10_49 2) w fun t62_56 w =>
                    run1 Try.prog Z (Instr.loadAt 44 t62_56) w fun t63_57 w =>
                    run1 Try.prog Z (Instr.fieldAt 54 t10_49 3) w fun t64_58 w =>
                    run1 Try.prog Z (Instr.loadAt 9 t64_58) w fun t65_59 w =>
                    run1 Try.prog Z (Instr.fieldAt 54 t10_49 4) w fun t66_60 w =>
                    run1 Try.prog Z (Instr.loadAt 22 t66_60) w fun t67_61 w =>
                    run1 Try.prog Z (Instr.build 46 #[(0, t39_41), (2, t11_55), (3, t63_57), (4, t65_59), (5, t67_61)]) w fun t68_62 w =>
                    CallV Try.prog Z 24 #[t29_12, t68_62] w fun t69_63 w =>
                    j_38 w) →
                    j_54 t11_55 w) →
                run1 Try.prog Z (Instr.fieldAt 54 t10_49 0) w fun t57_64 w =>
                run1 Try.prog Z (Instr.loadAt 4 t57_64) w fun t58_65 w =>
                CondV t58_65 (
                  j_54 (Value.int IntKind.i64 1) w) (
                  j_54 t56_53 w)))) w) w) (
            j_13 w)))) w) w) w
noncomputable def f7.code : Code := match Try.f7.body with | some c => c | none => .skip
def f7.an : An := (.sq .leaf (.sq .leaf (.sq (.sq .leaf (.cn (.sq .leaf .leaf) .leaf)) (.sq .leaf (.sq (.sq .leaf (.cn (.sq .leaf .leaf) .leaf)) (.sq .leaf (.sj [] [8, 9, 10, 11, 30, 31, 32, 33, 34, 35, 36, 37, 38, 39, 40, 41, 42, 43, 44, 45, 46, 47, 48, 49, 50, 51, 52, 53, 54, 55, 56, 57, 58, 59, 60, 61, 62, 63, 64, 65, 66, 67, 68, 69] (.sq .leaf (.bl (.lp [8] [8, 9, 10, 11, 30, 31, 32, 33, 34, 35, 36, 37, 38, 39, 40, 41, 42, 43, 44, 45, 46, 47, 48, 49, 50, 51, 52, 53, 54, 55, 56, 57, 58, 59, 60, 61, 62, 63, 64, 65, 66, 67, 68, 69] (.sq (.sq .leaf (.cn .leaf .leaf)) (.sj [] [9, 10, 11, 36, 37, 38, 39, 40, 41, 42, 43, 44, 45, 46, 47, 48, 49, 50, 51, 52, 53, 54, 55, 56, 57, 58, 59, 60, 61, 62, 63, 64, 65, 66, 67, 68, 69] (.bl (.sq .leaf (.sq (.sq .leaf (.cn .leaf .leaf)) (.sq .leaf (.sq (.sq .leaf (.cn .leaf .leaf)) (.sq .leaf (.sj [11] [11, 57, 58] (.sq .leaf (.cn .leaf .leaf)) .leaf))))))) .leaf))))) (.sq .leaf (.sq (.sq .leaf (.cn (.sq .leaf .leaf) .leaf)) (.sq .leaf .leaf))))))))))
theorem f7.body_eq : Try.f7.body = some f7.code := by kernel_rfl
theorem f7.shape (Z : List PanicEntry → World → Prop) (x0 x1 : Value) (w : World) (Q : Value → World → Prop) : vc drawD Try.prog 96 Z [9, 15, 25, 22, 12, 28, 26, 30, 24] f7.an f7.code (fnQ Try.prog 96 Try.f7.results Q) (argEnv [x0, x1]) w = f7.sh Z x0 x1 w Q := by kernel_rfl
theorem f7.enters : ∀ f, f ∈ ([9, 15, 25, 22, 12, 28, 26, 30, 24] : List Nat) → Enters Try.prog f := by
  intro f hf
  simp only [List.mem_cons, List.not_mem_nil, or_false] at hf
  rcases hf with rfl | rfl | rfl | rfl | rfl | rfl | rfl | rfl | rfl
  · exact en9
  · exact en15
  · exact en25
  · exact en22
  · exact en12
  · exact en28
  · exact en26
  · exact en30
  · exact en24
theorem f7.calls {Z : List PanicEntry → World → Prop} {x0 x1 : Value} {w : World} {Q : Value → World → Prop} (h : f7.sh Z x0 x1 w Q) : CallV Try.prog Z 7 #[x0, x1] w Q :=
  calls_of_vcn drawD_sound (Q := Q) (n := 96) (rs := Try.f7.results) (an := f7.an) (c := f7.code) (cal := [9, 15, 25, 22, 12, 28, 26, 30, 24]) (args := [x0, x1]) Try.func7 (by kernel_rfl) rfl f7.body_eq follows (Nat.le_of_ble_eq_true (by kernel_rfl)) (enters_of_all f7.enters) ((f7.shape Z x0 x1 w Q).mpr h)

/-! ### 8: lagoon/lagoonlaw01.PackNil -/
def f8.sh (Z : List PanicEntry → World → Prop) (x0 : Value) (w : World) (Q : Value → World → Prop) : Prop :=
  run1 Try.prog Z (Instr.box 46 x0) w fun t1_1 w =>
  CallV Try.prog Z 9 #[] w fun t7_2 w =>
  run1 Try.prog Z (Instr.loadAt 46 t1_1) w fun t8_3 w =>
  run1 Try.prog Z (Instr.buildSlice 42 1 #[(0, t8_3)]) w fun t9_4 w =>
  CallV Try.prog Z 23 #[t9_4] w fun t10_5 w =>
  CondV t10_5 (
    Q t7_2 w) (
    Drawn w fun w =>
    Pure1 Try.prog (Instr.fieldAt 46 t1_1 0) fun t13_6 =>
    Read1 Try.prog (Instr.loadAt 3 t13_6) w fun t14_7 =>
    Pure1 Try.prog (Instr.fieldAt 46 t1_1 2) fun t15_8 =>
    Read1 Try.prog (Instr.loadAt 2 t15_8) w fun t16_9 =>
    Pure1 Try.prog (Instr.fieldAt 46 t1_1 3) fun t17_10 =>
    Read1 Try.prog (Instr.loadAt 44 t17_10) w fun t18_11 =>
    Pure1 Try.prog (Instr.fieldAt 46 t1_1 4) fun t19_12 =>
    Read1 Try.prog (Instr.loadAt 9 t19_12) w fun t20_13 =>
    Pure1 Try.prog (Instr.fieldAt 46 t1_1 5) fun t21_14 =>
    Read1 Try.prog (Instr.loadAt 22 t21_14) w fun t22_15 =>
    CallV Try.prog Z 15 #[t22_15] w fun t23_16 w =>
      Still Try.prog (nx (Instr.loadAt 9 t19_12)) t20_13 w <|
      Still Try.prog (nx (Instr.loadAt 44 t17_10)) t18_11 w <|
      Still Try.prog (nx (Instr.loadAt 2 t15_8)) t16_9 w <|
      Still Try.prog (nx (Instr.loadAt 3 t13_6)) t14_7 w <|
    Pure1 Try.prog (Instr.build 46 #[(0, t14_7), (2, t16_9), (3, t18_11), (4, t20_13), (5, t23_16)]) fun t24_17 =>
    CallV Try.prog Z 24 #[(Value.pointer none), t24_17] w fun t25_18 w =>
      Still Try.prog (nx (Instr.loadAt 9 t19_12)) t20_13 w <|
      Still Try.prog (nx (Instr.loadAt 44 t17_10)) t18_11 w <|
      Still Try.prog (nx (Instr.loadAt 2 t15_8)) t16_9 w <|
      Still Try.prog (nx (Instr.loadAt 3 t13_6)) t14_7 w <|
    run1 Try.prog Z (Instr.loadAt 46 t1_1) w fun t27_19 w =>
    CallV Try.prog Z 26 #[(Value.pointer none), t27_19] w fun t28_20 w =>
    run1 Try.prog Z (Instr.alloc 54 true (.tuple #[])) w fun t6_21 w =>
    run0 Try.prog Z (Instr.storeAt 54 t6_21 t28_20) w fun w =>
    run1 Try.prog Z (Instr.fieldAt 46 t1_1 2) w fun t30_22 w =>
    run1 Try.prog Z (Instr.loadAt 2 t30_22) w fun t31_23 w =>
    CallV Try.prog Z 31 #[(Value.pointer none), t31_23] w fun t32_24 w =>
    ∀ j_25 : World → Prop, (∀ w : World, (Env →
        guardW (t7_2) true (fun k => run1 Try.prog Z (Instr.loadAt 54 t6_21) w k) (fun t39_26 w =>
        guardW (t7_2) true (fun k => run1 Try.prog Z (Instr.build 54 #[]) w k) (fun t40_27 w =>
        guardW (t7_2) true (fun k => CallV Try.prog Z 32 #[t39_26, t40_27] w k) (fun t41_28 w =>
        run1 Try.prog Z (pickV t7_2 t41_28 (Value.bool false)) w fun t42_29 w =>
        guardW (t42_29) true (fun k => k ((Value.pointer none)) w) (fun t44_30 w =>
        guardW (t42_29) true (fun k => CallV Try.prog Z 33 #[t44_30] w k) (fun t45_31 w =>
        guardW (t42_29) true (fun k => run1 Try.prog Z (eqOp BinOp.eql 3 false true t45_31 (Value.int IntKind.i64 0)) w k) (fun t46_32 w =>
        run1 Try.prog Z (pickV t42_29 t46_32 (Value.bool false)) w fun t47_33 w =>
        guardW (t47_33) true (fun k => k ((Value.pointer none)) w) (fun t49_34 w =>
        guardW (t47_33) true (fun k => CallV Try.prog Z 22 #[t49_34] w k) (fun t50_35 w =>
        guardW (t47_33) true (fun k => run1 Try.prog Z (Builtin.len_ #[22] 3 #[t50_35]) w k) (fun t51_36 w =>
        guardW (t47_33) true (fun k => run1 Try.prog Z (eqOp BinOp.eql 3 false true t51_36 (Value.int IntKind.i64 0)) w k) (fun t52_37 w =>
        run1 Try.prog Z (pickV t47_33 t52_37 (Value.bool false)) w fun t53_38 w =>
        guardW (t53_38) true (fun k => k ((Value.pointer none)) w) (fun t55_39 w =>
        guardW (t53_38) true (fun k => CallV Try.prog Z 28 #[t55_39] w k) (fun t56_40 w =>
        guardW (t53_38) true (fun k => run1 Try.prog Z (eqOp BinOp.eql 3 false true t56_40 (Value.int IntKind.i64 0)) w k) (fun t57_41 w =>
        run1 Try.prog Z (pickV t53_38 t57_41 (Value.bool false)) w fun t58_42 w =>
        guardW (t58_42) true (fun k => k ((Value.pointer none)) w) (fun t60_43 w =>
        guardW (t58_42) true (fun k => CallV Try.prog Z 30 #[t60_43] w k) (fun t61_44 w =>
        guardW (t58_42) true (fun k => run1 Try.prog Z (eqOp BinOp.eql 51 false true t61_44 (Value.int IntKind.i64 1)) w k) (fun t62_45 w =>
        run1 Try.prog Z (pickV t58_42 t62_45 (Value.bool false)) w fun t63_46 w =>
        guardW (t63_46) true (fun k => k ((Value.pointer none)) w) (fun t65_47 w =>
        guardW (t63_46) true (fun k => CallV Try.prog Z 29 #[t65_47] w k) (fun t66_48 w =>
        guardW (t63_46) true (fun k => run1 Try.prog Z (eqOp BinOp.eql 51 false true t66_48 (Value.int IntKind.i64 1)) w k) (fun t67_49 w =>
        run1 Try.prog Z (pickV t63_46 t67_49 (Value.bool false)) w fun t68_50 w =>
        Q t68_50 w) w) w) w) w) w) w) w) w) w) w) w) w) w) w) w) w) w) w) w) →
        j_25 w) →
    run1 Try.prog Z (Instr.fieldAt 46 t1_1 0) w fun t33_51 w =>
    run1 Try.prog Z (Instr.loadAt 3 t33_51) w fun t34_52 w =>
    run1 Try.prog Z (eqOp BinOp.eql 3 false true t34_52 (Value.int IntKind.i64 10)) w fun t35_53 w =>
    CondV t35_53 (
      run1 Try.prog Z (Instr.build 54 #[]) w fun t36_54 w =>
      run0 Try.prog Z (Instr.storeAt 54 t6_21 t36_54) w fun w =>
      j_25 w) (
      j_25 w))
noncomputable def f8.code : Code := match Try.f8.body with | some c => c | none => .skip
def f8.an : An := (.sq .leaf (.sq .leaf (.sq (.sq .leaf (.cn (.sq .leaf .leaf) .leaf)) (.sq .leaf (.sq .leaf (.sq (.dr (.take 0 false (.take 1 false (.take 2 true (.take 3 false (.take 4 true (.take 5 false (.take 6 true (.take 7 false (.take 8 true (.take 9 false (.take 10 true (.one 11 (.take 12 false (.one 13 .fin))))))))))))))) (.sq .leaf (.sq .leaf (.sj [] [33, 34, 35, 36] (.sq .leaf (.cn .leaf .leaf)) (.sq .leaf .leaf))))))))))
theorem f8.body_eq : Try.f8.body = some f8.code := by kernel_rfl
theorem f8.shape (Z : List PanicEntry → World → Prop) (x0 : Value) (w : World) (Q : Value → World → Prop) : vc drawD Try.prog 69 Z [9, 23, 15, 24, 26, 31, 32, 33, 22, 28, 30, 29] f8.an f8.code (fnQ Try.prog 69 Try.f8.results Q) (argEnv [x0]) w = f8.sh Z x0 w Q := by kernel_rfl
theorem f8.enters : ∀ f, f ∈ ([9, 23, 15, 24, 26, 31, 32, 33, 22, 28, 30, 29] : List Nat) → Enters Try.prog f := by
  intro f hf
  simp only [List.mem_cons, List.not_mem_nil, or_false] at hf
  rcases hf with rfl | rfl | rfl | rfl | rfl | rfl | rfl | rfl | rfl | rfl | rfl | rfl
  · exact en9
  · exact en23
  · exact en15
  · exact en24
  · exact en26
  · exact en31
  · exact en32
  · exact en33
  · exact en22
  · exact en28
  · exact en30
  · exact en29
theorem f8.calls {Z : List PanicEntry → World → Prop} {x0 : Value} {w : World} {Q : Value → World → Prop} (h : f8.sh Z x0 w Q) : CallV Try.prog Z 8 #[x0] w Q :=
  calls_of_vcn drawD_sound (Q := Q) (n := 69) (rs := Try.f8.results) (an := f8.an) (c := f8.code) (cal := [9, 23, 15, 24, 26, 31, 32, 33, 22, 28, 30, 29]) (args := [x0]) Try.func8 (by kernel_rfl) rfl f8.body_eq follows (Nat.le_of_ble_eq_true (by kernel_rfl)) (enters_of_all f8.enters) ((f8.shape Z x0 w Q).mpr h)

/-! ### 9: lagoon/lagoonlaw01.works -/
def f9.sh (Z : List PanicEntry → World → Prop) (w : World) (Q : Value → World → Prop) : Prop :=
  run1 Try.prog Z (Instr.build 33 #[]) w fun t5_1 w =>
  run1 Try.prog Z (Instr.box 33 t5_1) w fun t6_2 w =>
  CallV Try.prog Z 34 #[t6_2, (Value.int IntKind.i32 (-2))] w fun t8_3 w =>
  run1 Try.prog Z (Instr.buildSlice 22 5 #[(0, (Value.int IntKind.u8 255)), (1, (Value.int IntKind.u8 255)), (2, (Value.int IntKind.u8 255)), (3, (Value.int IntKind.u8 254)), (4, (Value.int IntKind.u8 9))]) w fun t9_4 w =>
  CallV Try.prog Z 25 #[t9_4] w fun t10_5 w =>
  CallV Try.prog Z 35 #[t10_5] w fun t12_6 w =>
  run1 Try.prog Z (Instr.buildSlice 22 3 #[(0, (Value.int IntKind.u8 97)), (1, (Value.int IntKind.u8 98)), (2, (Value.int IntKind.u8 99))]) w fun t13_7 w =>
  CallV Try.prog Z 11 #[t13_7] w fun t14_8 w =>
  CallV Try.prog Z 22 #[t6_2] w fun t16_9 w =>
  run1 Try.prog Z (Instr.buildSlice 22 4 #[(0, (Value.int IntKind.u8 255)), (1, (Value.int IntKind.u8 255)), (2, (Value.int IntKind.u8 255)), (3, (Value.int IntKind.u8 254))]) w fun t17_10 w =>
  CallV Try.prog Z 12 #[t16_9, t17_10] w fun t18_11 w =>
  guardW (t18_11) true (fun k => k (t12_6) w) (fun t20_12 w =>
  guardW (t18_11) true (fun k => run1 Try.prog Z (eqOp BinOp.eql 21 false true t20_12 (Value.int IntKind.i32 (-2))) w k) (fun t21_13 w =>
  run1 Try.prog Z (pickV t18_11 t21_13 (Value.bool false)) w fun t22_14 w =>
  guardW (t22_14) true (fun k => k (t10_5) w) (fun t24_15 w =>
  guardW (t22_14) true (fun k => CallV Try.prog Z 28 #[t24_15] w k) (fun t25_16 w =>
  guardW (t22_14) true (fun k => run1 Try.prog Z (eqOp BinOp.eql 3 false true t25_16 (Value.int IntKind.i64 1)) w k) (fun t26_17 w =>
  run1 Try.prog Z (pickV t22_14 t26_17 (Value.bool false)) w fun t27_18 w =>
  guardW (t27_18) true (fun k => k (t14_8) w) (fun t29_19 w =>
  guardW (t27_18) true (fun k => run1 Try.prog Z (eqOp BinOp.eql 25 false true t29_19 (Value.int IntKind.u32 38600999)) w k) (fun t30_20 w =>
  run1 Try.prog Z (pickV t27_18 t30_20 (Value.bool false)) w fun t31_21 w =>
  Q t31_21 w) w) w) w) w) w) w) w
noncomputable def f9.code : Code := match Try.f9.body with | some c => c | none => .skip
def f9.an : An := (.sq .leaf (.sq .leaf (.sq .leaf (.sq .leaf (.sq .leaf (.sq .leaf (.sq .leaf .leaf)))))))
theorem f9.body_eq : Try.f9.body = some f9.code := by kernel_rfl
theorem f9.shape (Z : List PanicEntry → World → Prop) (w : World) (Q : Value → World → Prop) : vc drawD Try.prog 32 Z [34, 25, 35, 11, 22, 12, 28] f9.an f9.code (fnQ Try.prog 32 Try.f9.results Q) (argEnv []) w = f9.sh Z  w Q := by kernel_rfl
theorem f9.enters : ∀ f, f ∈ ([34, 25, 35, 11, 22, 12, 28] : List Nat) → Enters Try.prog f := by
  intro f hf
  simp only [List.mem_cons, List.not_mem_nil, or_false] at hf
  rcases hf with rfl | rfl | rfl | rfl | rfl | rfl | rfl
  · exact en34
  · exact en25
  · exact en35
  · exact en11
  · exact en22
  · exact en12
  · exact en28
theorem f9.calls {Z : List PanicEntry → World → Prop} {w : World} {Q : Value → World → Prop} (h : f9.sh Z  w Q) : CallV Try.prog Z 9 #[] w Q :=
  calls_of_vcn drawD_sound (Q := Q) (n := 32) (rs := Try.f9.results) (an := f9.an) (c := f9.code) (cal := [34, 25, 35, 11, 22, 12, 28]) (args := []) Try.func9 (by kernel_rfl) rfl f9.body_eq follows (Nat.le_of_ble_eq_true (by kernel_rfl)) (enters_of_all f9.enters) ((f9.shape Z  w Q).mpr h)

/-! ### 10: lagoon/lagoonref00.WideBytes -/
def f10.sh (Z : List PanicEntry → World → Prop) (x0 : Value) (w : World) (Q : Value → World → Prop) : Prop :=
  run1 Try.prog Z (Builtin.len_ #[22] 3 #[x0]) w fun t6_1 w =>
  run1 Try.prog Z (binOp BinOp.add 3 t6_1 (Value.int IntKind.i64 64)) w fun t7_2 w =>
  run1 Try.prog Z (Instr.makeSlice 22 t7_2 t7_2) w fun t8_3 w =>
  ∃ J_4 : Nat → Value → World → Prop, (∃ m, J_4 m (Value.int IntKind.i64 0) w) ∧
    ∀ m_4, ∀ t4_5 : Value, ∀ w : World, J_4 m_4 t4_5 w → Env →
      run1 Try.prog Z (Builtin.len_ #[22] 3 #[t8_3]) w fun t11_6 w =>
      run1 Try.prog Z (binOp BinOp.lss 3 t4_5 t11_6) w fun t12_7 w =>
      CondV t12_7 (
        ∀ j_8 : World → Prop, (∀ w : World, (Env →
            run1 Try.prog Z (binOp BinOp.add 3 t4_5 (Value.int IntKind.i64 1)) w fun t14_9 w =>
            ∃ n_4, n_4 < m_4 ∧ J_4 n_4 t14_9 w) →
            j_8 w) →
        run1 Try.prog Z (binOp BinOp.rem 3 t4_5 (Value.int IntKind.i64 5)) w fun t18_10 w =>
        run1 Try.prog Z (binOp BinOp.add 3 (Value.int IntKind.i64 170) t18_10) w fun t19_11 w =>
        run1 Try.prog Z (convert 3 5 t19_11) w fun t20_12 w =>
        run1 Try.prog Z (Instr.indexAt 22 t8_3 t4_5) w fun t21_13 w =>
        run0 Try.prog Z (Instr.storeAt 5 t21_13 t20_12) w fun w =>
        run1 Try.prog Z (Builtin.len_ #[22] 3 #[x0]) w fun t24_14 w =>
        run1 Try.prog Z (binOp BinOp.lss 3 t4_5 t24_14) w fun t25_15 w =>
        CondV t25_15 (
          run1 Try.prog Z (Instr.indexAt 22 x0 t4_5) w fun t30_16 w =>
          run1 Try.prog Z (Instr.loadAt 5 t30_16) w fun t31_17 w =>
          run1 Try.prog Z (Instr.indexAt 22 t8_3 t4_5) w fun t32_18 w =>
          run0 Try.prog Z (Instr.storeAt 5 t32_18 t31_17) w fun w =>
          j_8 w) (
          j_8 w)) (
        run1 Try.prog Z (Builtin.len_ #[22] 3 #[x0]) w fun t35_19 w =>
        run1 Try.prog Z (Instr.sliceAt 22 t8_3 none (some t35_19) none) w fun t36_20 w =>
        Q t36_20 w)
noncomputable def f10.code : Code := match Try.f10.body with | some c => c | none => .skip
def f10.an : An := (.sq .leaf (.sq .leaf (.sq (.sq .leaf (.bl (.lp [4] [4, 9, 10, 11, 12, 13, 14, 15, 16, 17, 18, 19, 20, 21, 22, 23, 24, 25, 26, 27, 28, 29, 30, 31, 32] (.sq (.sq .leaf (.cn .leaf .leaf)) (.sj [] [15, 16, 17, 18, 19, 20, 21, 22, 23, 24, 25, 26, 27, 28, 29, 30, 31, 32] (.bl (.sq .leaf (.sq .leaf (.cn .leaf .leaf)))) .leaf))))) (.sq .leaf .leaf))))
theorem f10.body_eq : Try.f10.body = some f10.code := by kernel_rfl
theorem f10.shape (Z : List PanicEntry → World → Prop) (x0 : Value) (w : World) (Q : Value → World → Prop) : vc drawD Try.prog 37 Z [] f10.an f10.code (fnQ Try.prog 37 Try.f10.results Q) (argEnv [x0]) w = f10.sh Z x0 w Q := by kernel_rfl
theorem f10.enters : ∀ f, f ∈ ([] : List Nat) → Enters Try.prog f := by
  intro f hf
  cases hf
theorem f10.calls {Z : List PanicEntry → World → Prop} {x0 : Value} {w : World} {Q : Value → World → Prop} (h : f10.sh Z x0 w Q) : CallV Try.prog Z 10 #[x0] w Q :=
  calls_of_vcn drawD_sound (Q := Q) (n := 37) (rs := Try.f10.results) (an := f10.an) (c := f10.code) (cal := []) (args := [x0]) Try.func10 (by kernel_rfl) rfl f10.body_eq follows (Nat.le_of_ble_eq_true (by kernel_rfl)) (enters_of_all f10.enters) ((f10.shape Z x0 w Q).mpr h)

/-! ### 11: lagoon/pack.Sum -/
def f11.sh (Z : List PanicEntry → World → Prop) (x0 : Value) (w : World) (Q : Value → World → Prop) : Prop :=
  run1 Try.prog Z (Builtin.len_ #[22] 3 #[x0]) w fun t8_1 w =>
  ∃ J_2 : Nat → Value → Value → Value → World → Prop, (∃ m, J_2 m (Value.int IntKind.u32 1) (Value.int IntKind.u32 0) (Value.int IntKind.i64 0) w) ∧
    ∀ m_2, ∀ t3_3 : Value, ∀ t4_4 : Value, ∀ t9_5 : Value, ∀ w : World, J_2 m_2 t3_3 t4_4 t9_5 w → Env →
      run1 Try.prog Z (binOp BinOp.lss 3 t9_5 t8_1) w fun t10_6 w =>
      CondV t10_6 (
        run1 Try.prog Z (Instr.indexAt 22 x0 t9_5) w fun t11_7 w =>
        run1 Try.prog Z (Instr.loadAt 5 t11_7) w fun t12_8 w =>
        run1 Try.prog Z (convert 5 25 t12_8) w fun t15_9 w =>
        run1 Try.prog Z (binOp BinOp.add 25 t3_3 t15_9) w fun t16_10 w =>
        run1 Try.prog Z (binOp BinOp.rem 25 t16_10 (Value.int IntKind.u32 65521)) w fun t17_11 w =>
        run1 Try.prog Z (binOp BinOp.add 25 t4_4 t17_11) w fun t20_12 w =>
        run1 Try.prog Z (binOp BinOp.rem 25 t20_12 (Value.int IntKind.u32 65521)) w fun t21_13 w =>
        run1 Try.prog Z (binOp BinOp.add 3 t9_5 (Value.int IntKind.i64 1)) w fun t22_14 w =>
        ∃ n_2, n_2 < m_2 ∧ J_2 n_2 t17_11 t21_13 t22_14 w) (
        run1 Try.prog Z (binOp BinOp.shl 25 t4_4 (Value.int IntKind.u64 16)) w fun t24_15 w =>
        run1 Try.prog Z (binOp BinOp.or 25 t24_15 t3_3) w fun t26_16 w =>
        Q t26_16 w)
noncomputable def f11.code : Code := match Try.f11.body with | some c => c | none => .skip
def f11.an : An := (.sq .leaf (.sq .leaf (.sq (.sq .leaf (.bl (.lp [3, 4, 9] [3, 4, 6, 9, 10, 11, 12, 13, 14, 15, 16, 17, 18, 19, 20, 21, 22] (.sq .leaf (.sq (.cn .leaf .leaf) (.sq (.bl (.sq .leaf (.sq .leaf .leaf))) .leaf)))))) (.sq .leaf .leaf))))
theorem f11.body_eq : Try.f11.body = some f11.code := by kernel_rfl
theorem f11.shape (Z : List PanicEntry → World → Prop) (x0 : Value) (w : World) (Q : Value → World → Prop) : vc drawD Try.prog 27 Z [] f11.an f11.code (fnQ Try.prog 27 Try.f11.results Q) (argEnv [x0]) w = f11.sh Z x0 w Q := by kernel_rfl
theorem f11.enters : ∀ f, f ∈ ([] : List Nat) → Enters Try.prog f := by
  intro f hf
  cases hf
theorem f11.calls {Z : List PanicEntry → World → Prop} {x0 : Value} {w : World} {Q : Value → World → Prop} (h : f11.sh Z x0 w Q) : CallV Try.prog Z 11 #[x0] w Q :=
  calls_of_vcn drawD_sound (Q := Q) (n := 27) (rs := Try.f11.results) (an := f11.an) (c := f11.code) (cal := []) (args := [x0]) Try.func11 (by kernel_rfl) rfl f11.body_eq follows (Nat.le_of_ble_eq_true (by kernel_rfl)) (enters_of_all f11.enters) ((f11.shape Z x0 w Q).mpr h)

/-! ### 12: lagoon/lagoonref00.EqBytes -/
def f12.sh (Z : List PanicEntry → World → Prop) (x0 x1 : Value) (w : World) (Q : Value → World → Prop) : Prop :=
  run1 Try.prog Z (Builtin.len_ #[22] 3 #[x0]) w fun t7_1 w =>
  run1 Try.prog Z (Builtin.len_ #[22] 3 #[x1]) w fun t9_2 w =>
  run1 Try.prog Z (eqOp BinOp.neq 3 false false t7_1 t9_2) w fun t10_3 w =>
  CondV t10_3 (
    Q (Value.bool false) w) (
    ∃ J_4 : Nat → Value → World → Prop, (∃ m, J_4 m (Value.int IntKind.i64 0) w) ∧
      ∀ m_4, ∀ t5_5 : Value, ∀ w : World, J_4 m_4 t5_5 w → Env →
        run1 Try.prog Z (Builtin.len_ #[22] 3 #[x0]) w fun t13_6 w =>
        run1 Try.prog Z (binOp BinOp.lss 3 t5_5 t13_6) w fun t14_7 w =>
        CondV t14_7 (
          Drawn w fun w =>
          Pure1 Try.prog (Instr.indexAt 22 x0 t5_5) fun t19_8 =>
          Read1 Try.prog (Instr.loadAt 5 t19_8) w fun t20_9 =>
          Pure1 Try.prog (Instr.indexAt 22 x1 t5_5) fun t23_10 =>
          Read1 Try.prog (Instr.loadAt 5 t23_10) w fun t24_11 =>
          Pure1 Try.prog (eqOp BinOp.neq 5 false false t20_9 t24_11) fun t25_12 =>
          CondV t25_12 (
            Q (Value.bool false) w) (
            run1 Try.prog Z (binOp BinOp.add 3 t5_5 (Value.int IntKind.i64 1)) w fun t16_13 w =>
            ∃ n_4, n_4 < m_4 ∧ J_4 n_4 t16_13 w)) (
          Q (Value.bool true) w))
noncomputable def f12.code : Code := match Try.f12.body with | some c => c | none => .skip
def f12.an : An := (.sq .leaf (.sq (.sq .leaf (.cn (.sq .leaf .leaf) .leaf)) (.sq (.sq .leaf (.bl (.lp [5] [4, 5, 11, 12, 13, 14, 15, 16, 17, 18, 19, 20, 21, 22, 23, 24, 25] (.sq (.sq .leaf (.cn .leaf .leaf)) (.sq (.bl (.sq (.dr (.take 0 false (.take 1 false (.take 2 false (.take 3 true (.take 4 false (.take 5 false (.take 6 false (.take 7 true (.take 8 false .fin)))))))))) (.cn (.sq .leaf .leaf) .leaf))) .leaf))))) (.sq .leaf .leaf))))
theorem f12.body_eq : Try.f12.body = some f12.code := by kernel_rfl
theorem f12.shape (Z : List PanicEntry → World → Prop) (x0 x1 : Value) (w : World) (Q : Value → World → Prop) : vc drawD Try.prog 26 Z [] f12.an f12.code (fnQ Try.prog 26 Try.f12.results Q) (argEnv [x0, x1]) w = f12.sh Z x0 x1 w Q := by kernel_rfl
theorem f12.enters : ∀ f, f ∈ ([] : List Nat) → Enters Try.prog f := by
  intro f hf
  cases hf
theorem f12.calls {Z : List PanicEntry → World → Prop} {x0 x1 : Value} {w : World} {Q : Value → World → Prop} (h : f12.sh Z x0 x1 w Q) : CallV Try.prog Z 12 #[x0, x1] w Q :=
  calls_of_vcn drawD_sound (Q := Q) (n := 26) (rs := Try.f12.results) (an := f12.an) (c := f12.code) (cal := []) (args := [x0, x1]) Try.func12 (by kernel_rfl) rfl f12.body_eq follows (Nat.le_of_ble_eq_true (by kernel_rfl)) (enters_of_all f12.enters) ((f12.shape Z x0 x1 w Q).mpr h)

/-! ### 13: lagoon/lagoonref00.SpareBytes -/
def f13.sh (Z : List PanicEntry → World → Prop) (x0 : Value) (w : World) (Q : Value → World → Prop) : Prop :=
  run1 Try.prog Z (Builtin.len_ #[22] 3 #[x0]) w fun t7_1 w =>
  run1 Try.prog Z (binOp BinOp.add 3 t7_1 (Value.int IntKind.i64 64)) w fun t8_2 w =>
  run1 Try.prog Z (Instr.sliceAt 22 x0 none (some t8_2) none) w fun t9_3 w =>
  run1 Try.prog Z (Builtin.len_ #[22] 3 #[x0]) w fun t11_4 w =>
  ∃ J_5 : Nat → Value → World → Prop, (∃ m, J_5 m t11_4 w) ∧
    ∀ m_5, ∀ t4_6 : Value, ∀ w : World, J_5 m_5 t4_6 w → Env →
      run1 Try.prog Z (Builtin.len_ #[22] 3 #[t9_3]) w fun t14_7 w =>
      run1 Try.prog Z (binOp BinOp.lss 3 t4_6 t14_7) w fun t15_8 w =>
      CondV t15_8 (
        run1 Try.prog Z (Instr.indexAt 22 t9_3 t4_6) w fun t20_9 w =>
        run1 Try.prog Z (Instr.loadAt 5 t20_9) w fun t21_10 w =>
        run1 Try.prog Z (binOp BinOp.rem 3 t4_6 (Value.int IntKind.i64 5)) w fun t23_11 w =>
        run1 Try.prog Z (binOp BinOp.add 3 (Value.int IntKind.i64 170) t23_11) w fun t24_12 w =>
        run1 Try.prog Z (convert 3 5 t24_12) w fun t25_13 w =>
        run1 Try.prog Z (eqOp BinOp.neq 5 false false t21_10 t25_13) w fun t26_14 w =>
        CondV t26_14 (
          Q (Value.bool false) w) (
          run1 Try.prog Z (binOp BinOp.add 3 t4_6 (Value.int IntKind.i64 1)) w fun t17_15 w =>
          ∃ n_5, n_5 < m_5 ∧ J_5 n_5 t17_15 w)) (
        Q (Value.bool true) w)
noncomputable def f13.code : Code := match Try.f13.body with | some c => c | none => .skip
def f13.an : An := (.sq .leaf (.sq .leaf (.sq (.sq .leaf (.bl (.lp [4] [2, 4, 12, 13, 14, 15, 16, 17, 18, 19, 20, 21, 22, 23, 24, 25, 26] (.sq (.sq .leaf (.cn .leaf .leaf)) (.sq (.bl (.sq .leaf (.cn (.sq .leaf .leaf) .leaf))) .leaf))))) (.sq .leaf .leaf))))
theorem f13.body_eq : Try.f13.body = some f13.code := by kernel_rfl
theorem f13.shape (Z : List PanicEntry → World → Prop) (x0 : Value) (w : World) (Q : Value → World → Prop) : vc drawD Try.prog 27 Z [] f13.an f13.code (fnQ Try.prog 27 Try.f13.results Q) (argEnv [x0]) w = f13.sh Z x0 w Q := by kernel_rfl
theorem f13.enters : ∀ f, f ∈ ([] : List Nat) → Enters Try.prog f := by
  intro f hf
  cases hf
theorem f13.calls {Z : List PanicEntry → World → Prop} {x0 : Value} {w : World} {Q : Value → World → Prop} (h : f13.sh Z x0 w Q) : CallV Try.prog Z 13 #[x0] w Q :=
  calls_of_vcn drawD_sound (Q := Q) (n := 27) (rs := Try.f13.results) (an := f13.an) (c := f13.code) (cal := []) (args := [x0]) Try.func13 (by kernel_rfl) rfl f13.body_eq follows (Nat.le_of_ble_eq_true (by kernel_rfl)) (enters_of_all f13.enters) ((f13.shape Z x0 w Q).mpr h)

/-! ### 14: lagoon/lagoonref01.Sum -/
def f14.sh (Z : List PanicEntry → World → Prop) (x0 : Value) (w : World) (Q : Value → World → Prop) : Prop :=
  ∃ J_1 : Nat → Value → Value → Value → World → Prop, (∃ m, J_1 m (Value.int IntKind.i64 1) (Value.int IntKind.i64 0) (Value.int IntKind.i64 0) w) ∧
    ∀ m_1, ∀ t3_2 : Value, ∀ t4_3 : Value, ∀ t5_4 : Value, ∀ w : World, J_1 m_1 t3_2 t4_3 t5_4 w → Env →
      run1 Try.prog Z (Builtin.len_ #[22] 3 #[x0]) w fun t8_5 w =>
      run1 Try.prog Z (binOp BinOp.lss 3 t5_4 t8_5) w fun t9_6 w =>
      CondV t9_6 (
        run1 Try.prog Z (Instr.indexAt 22 x0 t5_4) w fun t15_7 w =>
        run1 Try.prog Z (Instr.loadAt 5 t15_7) w fun t16_8 w =>
        run1 Try.prog Z (convert 5 3 t16_8) w fun t17_9 w =>
        run1 Try.prog Z (binOp BinOp.add 3 t3_2 t17_9) w fun t18_10 w =>
        ∃ J_11 : Nat → Value → World → Prop, (∃ m, J_11 m t18_10 w) ∧
          ∀ m_11, ∀ t3_12 : Value, ∀ w : World, J_11 m_11 t3_12 w → Env →
            run1 Try.prog Z (binOp BinOp.geq 3 t3_12 (Value.int IntKind.i64 65521)) w fun t20_13 w =>
            CondV t20_13 (
              run1 Try.prog Z (binOp BinOp.sub 3 t3_12 (Value.int IntKind.i64 65521)) w fun t22_14 w =>
              ∃ n_11, n_11 < m_11 ∧ J_11 n_11 t22_14 w) (
              run1 Try.prog Z (binOp BinOp.add 3 t4_3 t3_12) w fun t25_15 w =>
              run1 Try.prog Z (binOp BinOp.rem 3 t25_15 (Value.int IntKind.i64 65521)) w fun t26_16 w =>
              run1 Try.prog Z (binOp BinOp.add 3 t5_4 (Value.int IntKind.i64 1)) w fun t11_17 w =>
              ∃ n_1, n_1 < m_1 ∧ J_1 n_1 t3_12 t26_16 t11_17 w)) (
        run1 Try.prog Z (binOp BinOp.mul 3 t4_3 (Value.int IntKind.i64 65536)) w fun t28_18 w =>
        run1 Try.prog Z (binOp BinOp.add 3 t28_18 t3_2) w fun t30_19 w =>
        run1 Try.prog Z (convert 3 25 t30_19) w fun t31_20 w =>
        Q t31_20 w)
noncomputable def f14.code : Code := match Try.f14.body with | some c => c | none => .skip
def f14.an : An := (.sq .leaf (.sq .leaf (.sq .leaf (.sq (.sq .leaf (.bl (.lp [3, 4, 5] [3, 4, 5, 6, 7, 8, 9, 10, 11, 12, 13, 14, 15, 16, 17, 18, 19, 20, 21, 22, 23, 24, 25, 26] (.sq (.sq .leaf (.cn .leaf .leaf)) (.sq (.bl (.sq .leaf (.sq (.bl (.lp [3] [3, 19, 20, 21, 22] (.sq (.sq .leaf (.cn .leaf .leaf)) (.bl .leaf)))) .leaf))) .leaf))))) (.sq .leaf .leaf)))))
theorem f14.body_eq : Try.f14.body = some f14.code := by kernel_rfl
theorem f14.shape (Z : List PanicEntry → World → Prop) (x0 : Value) (w : World) (Q : Value → World → Prop) : vc drawD Try.prog 32 Z [] f14.an f14.code (fnQ Try.prog 32 Try.f14.results Q) (argEnv [x0]) w = f14.sh Z x0 w Q := by kernel_rfl
theorem f14.enters : ∀ f, f ∈ ([] : List Nat) → Enters Try.prog f := by
  intro f hf
  cases hf
theorem f14.calls {Z : List PanicEntry → World → Prop} {x0 : Value} {w : World} {Q : Value → World → Prop} (h : f14.sh Z x0 w Q) : CallV Try.prog Z 14 #[x0] w Q :=
  calls_of_vcn drawD_sound (Q := Q) (n := 32) (rs := Try.f14.results) (an := f14.an) (c := f14.code) (cal := []) (args := [x0]) Try.func14 (by kernel_rfl) rfl f14.body_eq follows (Nat.le_of_ble_eq_true (by kernel_rfl)) (enters_of_all f14.enters) ((f14.shape Z x0 w Q).mpr h)

/-! ### 15: lagoon/lagoonref00.CopyBytes -/
def f15.sh (Z : List PanicEntry → World → Prop) (x0 : Value) (w : World) (Q : Value → World → Prop) : Prop :=
  ∃ J_1 : Nat → Value → Value → World → Prop, (∃ m, J_1 m (Value.slice none 0 0) (Value.int IntKind.i64 0) w) ∧
    ∀ m_1, ∀ t3_2 : Value, ∀ t4_3 : Value, ∀ w : World, J_1 m_1 t3_2 t4_3 w → Env →
      run1 Try.prog Z (Builtin.len_ #[22] 3 #[x0]) w fun t7_4 w =>
      run1 Try.prog Z (binOp BinOp.lss 3 t4_3 t7_4) w fun t8_5 w =>
      CondV t8_5 (
        run1 Try.prog Z (Instr.indexAt 22 x0 t4_3) w fun t14_6 w =>
        run1 Try.prog Z (Instr.loadAt 5 t14_6) w fun t15_7 w =>
        run1 Try.prog Z (Instr.buildSlice 22 1 #[(0, t15_7)]) w fun t16_8 w =>
        run1 Try.prog Z (Builtin.append_ #[22, 22] 22 #[t3_2, t16_8]) w fun t17_9 w =>
        run1 Try.prog Z (binOp BinOp.add 3 t4_3 (Value.int IntKind.i64 1)) w fun t10_10 w =>
        ∃ n_1, n_1 < m_1 ∧ J_1 n_1 t17_9 t10_10 w) (
        Q t3_2 w)
noncomputable def f15.code : Code := match Try.f15.body with | some c => c | none => .skip
def f15.an : An := (.sq .leaf (.sq .leaf (.sq (.sq .leaf (.bl (.lp [3, 4] [3, 4, 5, 6, 7, 8, 9, 10, 11, 12, 13, 14, 15, 16, 17] (.sq (.sq .leaf (.cn .leaf .leaf)) (.sq (.bl .leaf) .leaf))))) (.sq .leaf .leaf))))
theorem f15.body_eq : Try.f15.body = some f15.code := by kernel_rfl
theorem f15.shape (Z : List PanicEntry → World → Prop) (x0 : Value) (w : World) (Q : Value → World → Prop) : vc drawD Try.prog 19 Z [] f15.an f15.code (fnQ Try.prog 19 Try.f15.results Q) (argEnv [x0]) w = f15.sh Z x0 w Q := by kernel_rfl
theorem f15.enters : ∀ f, f ∈ ([] : List Nat) → Enters Try.prog f := by
  intro f hf
  cases hf
theorem f15.calls {Z : List PanicEntry → World → Prop} {x0 : Value} {w : World} {Q : Value → World → Prop} (h : f15.sh Z x0 w Q) : CallV Try.prog Z 15 #[x0] w Q :=
  calls_of_vcn drawD_sound (Q := Q) (n := 19) (rs := Try.f15.results) (an := f15.an) (c := f15.code) (cal := []) (args := [x0]) Try.func15 (by kernel_rfl) rfl f15.body_eq follows (Nat.le_of_ble_eq_true (by kernel_rfl)) (enters_of_all f15.enters) ((f15.shape Z x0 w Q).mpr h)

/-! ### 16: (*lagoon/pack.Writer).Raw -/
def f16.sh (Z : List PanicEntry → World → Prop) (x0 x1 : Value) (w : World) (Q : Value → World → Prop) : Prop :=
  run1 Try.prog Z (eqOp BinOp.neq 31 false true x0 (Value.pointer none)) w fun t5_1 w =>
  CondV t5_1 (
    runX Try.prog Z (nilChk x0) w fun t8_2 w =>
    run1 Try.prog Z (Instr.fieldAt 33 t8_2 0) w fun t9_3 w =>
    run1 Try.prog Z (Instr.loadAt 22 t9_3) w fun t10_4 w =>
    run1 Try.prog Z (Builtin.append_ #[22, 22] 22 #[t10_4, x1]) w fun t12_5 w =>
    runX Try.prog Z (nilChk x0) w fun t13_6 w =>
    run1 Try.prog Z (Instr.fieldAt 33 t13_6 0) w fun t14_7 w =>
    run0 Try.prog Z (Instr.storeAt 22 t14_7 t12_5) w fun w =>
    Q (Value.tuple #[]) w) (
    Q (Value.tuple #[]) w)
noncomputable def f16.code : Code := match Try.f16.body with | some c => c | none => .skip
def f16.an : An := (.sq .leaf (.cn .leaf .leaf))
theorem f16.body_eq : Try.f16.body = some f16.code := by kernel_rfl
theorem f16.shape (Z : List PanicEntry → World → Prop) (x0 x1 : Value) (w : World) (Q : Value → World → Prop) : vc drawD Try.prog 15 Z [] f16.an f16.code (fnQ Try.prog 15 Try.f16.results Q) (argEnv [x0, x1]) w = f16.sh Z x0 x1 w Q := by kernel_rfl
theorem f16.enters : ∀ f, f ∈ ([] : List Nat) → Enters Try.prog f := by
  intro f hf
  cases hf
theorem f16.calls {Z : List PanicEntry → World → Prop} {x0 x1 : Value} {w : World} {Q : Value → World → Prop} (h : f16.sh Z x0 x1 w Q) : CallV Try.prog Z 16 #[x0, x1] w Q :=
  calls_of_vcn drawD_sound (Q := Q) (n := 15) (rs := Try.f16.results) (an := f16.an) (c := f16.code) (cal := []) (args := [x0, x1]) Try.func16 (by kernel_rfl) rfl f16.body_eq follows (Nat.le_of_ble_eq_true (by kernel_rfl)) (enters_of_all f16.enters) ((f16.shape Z x0 x1 w Q).mpr h)

/-! ### 17: lagoon/pack.PutList[int64] -/
def f17.sh (Z : List PanicEntry → World → Prop) (x0 x1 x2 : Value) (w : World) (Q : Value → World → Prop) : Prop :=
  run1 Try.prog Z (eqOp BinOp.eql 31 false true x0 (Value.pointer none)) w fun t9_1 w =>
  CondV t9_1 (
    Q (Value.tuple #[]) w) (
    run1 Try.prog Z (Builtin.len_ #[30] 3 #[x1]) w fun t12_2 w =>
    run1 Try.prog Z (convert 3 21 t12_2) w fun t13_3 w =>
    CallV Try.prog Z 34 #[x0, t13_3] w fun t14_4 w =>
    run1 Try.prog Z (eqOp BinOp.eql 36 false true x2 Value.nilFunc) w fun t16_5 w =>
    CondV t16_5 (
      Q (Value.tuple #[]) w) (
      run1 Try.prog Z (Builtin.len_ #[30] 3 #[x1]) w fun t18_6 w =>
      ∃ J_7 : Nat → Value → World → Prop, (∃ m, J_7 m (Value.int IntKind.i64 0) w) ∧
        ∀ m_7, ∀ t19_8 : Value, ∀ w : World, J_7 m_7 t19_8 w → Env →
          run1 Try.prog Z (binOp BinOp.lss 3 t19_8 t18_6) w fun t20_9 w =>
          CondV t20_9 (
            run1 Try.prog Z (Instr.indexAt 30 x1 t19_8) w fun t21_10 w =>
            run1 Try.prog Z (Instr.loadAt 2 t21_10) w fun t22_11 w =>
            runX Try.prog Z (callVal x2 #[x0, t22_11]) w fun t26_12 w =>
            run1 Try.prog Z (binOp BinOp.add 3 t19_8 (Value.int IntKind.i64 1)) w fun t27_13 w =>
            ∃ n_7, n_7 < m_7 ∧ J_7 n_7 t27_13 w) (
            Q (Value.tuple #[]) w)))
noncomputable def f17.code : Code := match Try.f17.body with | some c => c | none => .skip
def f17.an : An := (.sq (.sq .leaf (.cn .leaf .leaf)) (.sq .leaf (.sq (.sq .leaf (.cn .leaf .leaf)) (.sq .leaf (.bl (.lp [19] [7, 19, 20, 21, 22, 23, 24, 25, 26, 27] (.sq .leaf (.sq (.cn .leaf .leaf) (.sq (.bl (.sq .leaf .leaf)) .leaf)))))))))
theorem f17.body_eq : Try.f17.body = some f17.code := by kernel_rfl
theorem f17.shape (Z : List PanicEntry → World → Prop) (x0 x1 x2 : Value) (w : World) (Q : Value → World → Prop) : vc drawD Try.prog 28 Z [34] f17.an f17.code (fnQ Try.prog 28 Try.f17.results Q) (argEnv [x0, x1, x2]) w = f17.sh Z x0 x1 x2 w Q := by kernel_rfl
theorem f17.enters : ∀ f, f ∈ ([34] : List Nat) → Enters Try.prog f := by
  intro f hf
  simp only [List.mem_cons, List.not_mem_nil, or_false] at hf
  rcases hf with rfl
  · exact en34
theorem f17.calls {Z : List PanicEntry → World → Prop} {x0 x1 x2 : Value} {w : World} {Q : Value → World → Prop} (h : f17.sh Z x0 x1 x2 w Q) : CallV Try.prog Z 17 #[x0, x1, x2] w Q :=
  calls_of_vcn drawD_sound (Q := Q) (n := 28) (rs := Try.f17.results) (an := f17.an) (c := f17.code) (cal := [34]) (args := [x0, x1, x2]) Try.func17 (by kernel_rfl) rfl f17.body_eq follows (Nat.le_of_ble_eq_true (by kernel_rfl)) (enters_of_all f17.enters) ((f17.shape Z x0 x1 x2 w Q).mpr h)

/-! ### 18: lagoon/lagoonlaw01.putNumber -/
def f18.sh (Z : List PanicEntry → World → Prop) (x0 x1 : Value) (w : World) (Q : Value → World → Prop) : Prop :=
  CallV Try.prog Z 36 #[x0, x1] w fun t6_1 w =>
  Q (Value.tuple #[]) w
noncomputable def f18.code : Code := match Try.f18.body with | some c => c | none => .skip
def f18.an : An := .leaf
theorem f18.body_eq : Try.f18.body = some f18.code := by kernel_rfl
theorem f18.shape (Z : List PanicEntry → World → Prop) (x0 x1 : Value) (w : World) (Q : Value → World → Prop) : vc drawD Try.prog 7 Z [36] f18.an f18.code (fnQ Try.prog 7 Try.f18.results Q) (argEnv [x0, x1]) w = f18.sh Z x0 x1 w Q := by kernel_rfl
theorem f18.enters : ∀ f, f ∈ ([36] : List Nat) → Enters Try.prog f := by
  intro f hf
  simp only [List.mem_cons, List.not_mem_nil, or_false] at hf
  rcases hf with rfl
  · exact en36
theorem f18.calls {Z : List PanicEntry → World → Prop} {x0 x1 : Value} {w : World} {Q : Value → World → Prop} (h : f18.sh Z x0 x1 w Q) : CallV Try.prog Z 18 #[x0, x1] w Q :=
  calls_of_vcn drawD_sound (Q := Q) (n := 7) (rs := Try.f18.results) (an := f18.an) (c := f18.code) (cal := [36]) (args := [x0, x1]) Try.func18 (by kernel_rfl) rfl f18.body_eq follows (Nat.le_of_ble_eq_true (by kernel_rfl)) (enters_of_all f18.enters) ((f18.shape Z x0 x1 w Q).mpr h)

/-! ### 19: lagoon/lagoonlaw01.joined -/
def f19.sh (Z : List PanicEntry → World → Prop) (x0 x1 : Value) (w : World) (Q : Value → World → Prop) : Prop :=
  CallV Try.prog Z 15 #[x0] w fun t8_1 w =>
  ∃ J_2 : Nat → Value → Value → World → Prop, (∃ m, J_2 m t8_1 (Value.int IntKind.i64 0) w) ∧
    ∀ m_2, ∀ t5_3 : Value, ∀ t6_4 : Value, ∀ w : World, J_2 m_2 t5_3 t6_4 w → Env →
      run1 Try.prog Z (Builtin.len_ #[22] 3 #[x1]) w fun t11_5 w =>
      run1 Try.prog Z (binOp BinOp.lss 3 t6_4 t11_5) w fun t12_6 w =>
      CondV t12_6 (
        run1 Try.prog Z (Instr.indexAt 22 x1 t6_4) w fun t18_7 w =>
        run1 Try.prog Z (Instr.loadAt 5 t18_7) w fun t19_8 w =>
        run1 Try.prog Z (Instr.buildSlice 22 1 #[(0, t19_8)]) w fun t20_9 w =>
        run1 Try.prog Z (Builtin.append_ #[22, 22] 22 #[t5_3, t20_9]) w fun t21_10 w =>
        run1 Try.prog Z (binOp BinOp.add 3 t6_4 (Value.int IntKind.i64 1)) w fun t14_11 w =>
        ∃ n_2, n_2 < m_2 ∧ J_2 n_2 t21_10 t14_11 w) (
        Q t5_3 w)
noncomputable def f19.code : Code := match Try.f19.body with | some c => c | none => .skip
def f19.an : An := (.sq .leaf (.sq .leaf (.sq (.sq .leaf (.bl (.lp [5, 6] [5, 6, 9, 10, 11, 12, 13, 14, 15, 16, 17, 18, 19, 20, 21] (.sq (.sq .leaf (.cn .leaf .leaf)) (.sq (.bl .leaf) .leaf))))) (.sq .leaf .leaf))))
theorem f19.body_eq : Try.f19.body = some f19.code := by kernel_rfl
theorem f19.shape (Z : List PanicEntry → World → Prop) (x0 x1 : Value) (w : World) (Q : Value → World → Prop) : vc drawD Try.prog 23 Z [15] f19.an f19.code (fnQ Try.prog 23 Try.f19.results Q) (argEnv [x0, x1]) w = f19.sh Z x0 x1 w Q := by kernel_rfl
theorem f19.enters : ∀ f, f ∈ ([15] : List Nat) → Enters Try.prog f := by
  intro f hf
  simp only [List.mem_cons, List.not_mem_nil, or_false] at hf
  rcases hf with rfl
  · exact en15
theorem f19.calls {Z : List PanicEntry → World → Prop} {x0 x1 : Value} {w : World} {Q : Value → World → Prop} (h : f19.sh Z x0 x1 w Q) : CallV Try.prog Z 19 #[x0, x1] w Q :=
  calls_of_vcn drawD_sound (Q := Q) (n := 23) (rs := Try.f19.results) (an := f19.an) (c := f19.code) (cal := [15]) (args := [x0, x1]) Try.func19 (by kernel_rfl) rfl f19.body_eq follows (Nat.le_of_ble_eq_true (by kernel_rfl)) (enters_of_all f19.enters) ((f19.shape Z x0 x1 w Q).mpr h)

/-! ### 20: lagoon/lagoonref01.Int32 -/
def f20.sh (Z : List PanicEntry → World → Prop) (x0 : Value) (w : World) (Q : Value → World → Prop) : Prop :=
  run1 Try.prog Z (convert 21 2 x0) w fun t5_1 w =>
  ∀ j_2 : Value → World → Prop, (∀ t3_3 : Value, ∀ w : World, (Env →
      run1 Try.prog Z (convert 2 69 t3_3) w fun t11_4 w =>
      CallV Try.prog Z 37 #[t11_4, (Value.int IntKind.i64 4)] w fun t12_5 w =>
      Q t12_5 w) →
      j_2 t3_3 w) →
  run1 Try.prog Z (binOp BinOp.lss 2 t5_1 (Value.int IntKind.i64 0)) w fun t7_6 w =>
  CondV t7_6 (
    run1 Try.prog Z (binOp BinOp.add 2 t5_1 (Value.int IntKind.i64 4294967296)) w fun t9_7 w =>
    j_2 t9_7 w) (
    j_2 t5_1 w)
noncomputable def f20.code : Code := match Try.f20.body with | some c => c | none => .skip
def f20.an : An := (.sq .leaf (.sq .leaf (.sj [3] [3, 6, 7, 8, 9] (.sq .leaf (.cn .leaf .leaf)) (.sq .leaf .leaf))))
theorem f20.body_eq : Try.f20.body = some f20.code := by kernel_rfl
theorem f20.shape (Z : List PanicEntry → World → Prop) (x0 : Value) (w : World) (Q : Value → World → Prop) : vc drawD Try.prog 13 Z [37] f20.an f20.code (fnQ Try.prog 13 Try.f20.results Q) (argEnv [x0]) w = f20.sh Z x0 w Q := by kernel_rfl
theorem f20.enters : ∀ f, f ∈ ([37] : List Nat) → Enters Try.prog f := by
  intro f hf
  simp only [List.mem_cons, List.not_mem_nil, or_false] at hf
  rcases hf with rfl
  · exact en37
theorem f20.calls {Z : List PanicEntry → World → Prop} {x0 : Value} {w : World} {Q : Value → World → Prop} (h : f20.sh Z x0 w Q) : CallV Try.prog Z 20 #[x0] w Q :=
  calls_of_vcn drawD_sound (Q := Q) (n := 13) (rs := Try.f20.results) (an := f20.an) (c := f20.code) (cal := [37]) (args := [x0]) Try.func20 (by kernel_rfl) rfl f20.body_eq follows (Nat.le_of_ble_eq_true (by kernel_rfl)) (enters_of_all f20.enters) ((f20.shape Z x0 w Q).mpr h)

/-! ### 21: lagoon/lagoonref01.Int64 -/
def f21.sh (Z : List PanicEntry → World → Prop) (x0 : Value) (w : World) (Q : Value → World → Prop) : Prop :=
  run1 Try.prog Z (binOp BinOp.geq 2 x0 (Value.int IntKind.i64 0)) w fun t6_1 w =>
  CondV t6_1 (
    run1 Try.prog Z (convert 2 69 x0) w fun t8_2 w =>
    CallV Try.prog Z 37 #[t8_2, (Value.int IntKind.i64 8)] w fun t9_3 w =>
    Q t9_3 w) (
    run1 Try.prog Z (binOp BinOp.sub 2 (Value.int IntKind.i64 (-1)) x0) w fun t11_4 w =>
    run1 Try.prog Z (convert 2 69 t11_4) w fun t12_5 w =>
    CallV Try.prog Z 37 #[t12_5, (Value.int IntKind.i64 8)] w fun t13_6 w =>
    ∃ J_7 : Nat → Value → World → Prop, (∃ m, J_7 m (Value.int IntKind.i64 0) w) ∧
      ∀ m_7, ∀ t4_8 : Value, ∀ w : World, J_7 m_7 t4_8 w → Env →
        run1 Try.prog Z (Builtin.len_ #[22] 3 #[t13_6]) w fun t16_9 w =>
        run1 Try.prog Z (binOp BinOp.lss 3 t4_8 t16_9) w fun t17_10 w =>
        CondV t17_10 (
          run1 Try.prog Z (Instr.indexAt 22 t13_6 t4_8) w fun t24_11 w =>
          run1 Try.prog Z (Instr.loadAt 5 t24_11) w fun t25_12 w =>
          run1 Try.prog Z (binOp BinOp.sub 5 (Value.int IntKind.u8 255) t25_12) w fun t26_13 w =>
          run1 Try.prog Z (Instr.indexAt 22 t13_6 t4_8) w fun t27_14 w =>
          run0 Try.prog Z (Instr.storeAt 5 t27_14 t26_13) w fun w =>
          run1 Try.prog Z (binOp BinOp.add 3 t4_8 (Value.int IntKind.i64 1)) w fun t19_15 w =>
          ∃ n_7, n_7 < m_7 ∧ J_7 n_7 t19_15 w) (
          Q t13_6 w))
noncomputable def f21.code : Code := match Try.f21.body with | some c => c | none => .skip
def f21.an : An := (.sq .leaf (.sq (.sq .leaf (.cn (.sq .leaf .leaf) .leaf)) (.sq .leaf (.sq (.sq .leaf (.bl (.lp [4] [4, 14, 15, 16, 17, 18, 19, 20, 21, 22, 23, 24, 25, 26, 27] (.sq (.sq .leaf (.cn .leaf .leaf)) (.sq (.bl .leaf) .leaf))))) (.sq .leaf .leaf)))))
theorem f21.body_eq : Try.f21.body = some f21.code := by kernel_rfl
theorem f21.shape (Z : List PanicEntry → World → Prop) (x0 : Value) (w : World) (Q : Value → World → Prop) : vc drawD Try.prog 29 Z [37] f21.an f21.code (fnQ Try.prog 29 Try.f21.results Q) (argEnv [x0]) w = f21.sh Z x0 w Q := by kernel_rfl
theorem f21.enters : ∀ f, f ∈ ([37] : List Nat) → Enters Try.prog f := by
  intro f hf
  simp only [List.mem_cons, List.not_mem_nil, or_false] at hf
  rcases hf with rfl
  · exact en37
theorem f21.calls {Z : List PanicEntry → World → Prop} {x0 : Value} {w : World} {Q : Value → World → Prop} (h : f21.sh Z x0 w Q) : CallV Try.prog Z 21 #[x0] w Q :=
  calls_of_vcn drawD_sound (Q := Q) (n := 29) (rs := Try.f21.results) (an := f21.an) (c := f21.code) (cal := [37]) (args := [x0]) Try.func21 (by kernel_rfl) rfl f21.body_eq follows (Nat.le_of_ble_eq_true (by kernel_rfl)) (enters_of_all f21.enters) ((f21.shape Z x0 w Q).mpr h)

/-! ### 22: (*lagoon/pack.Writer).Bytes -/
def f22.sh (Z : List PanicEntry → World → Prop) (x0 : Value) (w : World) (Q : Value → World → Prop) : Prop :=
  run1 Try.prog Z (eqOp BinOp.eql 31 false true x0 (Value.pointer none)) w fun t4_1 w =>
  CondV t4_1 (
    Q (Value.slice none 0 0) w) (
    runX Try.prog Z (nilChk x0) w fun t6_2 w =>
    run1 Try.prog Z (Instr.fieldAt 33 t6_2 0) w fun t7_3 w =>
    run1 Try.prog Z (Instr.loadAt 22 t7_3) w fun t8_4 w =>
    run1 Try.prog Z (Builtin.append_ #[22, 22] 22 #[(Value.slice none 0 0), t8_4]) w fun t9_5 w =>
    Q t9_5 w)
noncomputable def f22.code : Code := match Try.f22.body with | some c => c | none => .skip
def f22.an : An := (.sq .leaf (.sq (.sq .leaf (.cn (.sq .leaf .leaf) .leaf)) (.sq .leaf .leaf)))
theorem f22.body_eq : Try.f22.body = some f22.code := by kernel_rfl
theorem f22.shape (Z : List PanicEntry → World → Prop) (x0 : Value) (w : World) (Q : Value → World → Prop) : vc drawD Try.prog 10 Z [] f22.an f22.code (fnQ Try.prog 10 Try.f22.results Q) (argEnv [x0]) w = f22.sh Z x0 w Q := by kernel_rfl
theorem f22.enters : ∀ f, f ∈ ([] : List Nat) → Enters Try.prog f := by
  intro f hf
  cases hf
theorem f22.calls {Z : List PanicEntry → World → Prop} {x0 : Value} {w : World} {Q : Value → World → Prop} (h : f22.sh Z x0 w Q) : CallV Try.prog Z 22 #[x0] w Q :=
  calls_of_vcn drawD_sound (Q := Q) (n := 10) (rs := Try.f22.results) (an := f22.an) (c := f22.code) (cal := []) (args := [x0]) Try.func22 (by kernel_rfl) rfl f22.body_eq follows (Nat.le_of_ble_eq_true (by kernel_rfl)) (enters_of_all f22.enters) ((f22.shape Z x0 w Q).mpr h)

/-! ### 23: lagoon/lagoonlaw01.long -/
def f23.sh (Z : List PanicEntry → World → Prop) (x0 : Value) (w : World) (Q : Value → World → Prop) : Prop :=
  ∃ J_1 : Nat → Value → Value → World → Prop, (∃ m, J_1 m (Value.int IntKind.i64 0) (Value.int IntKind.i64 0) w) ∧
    ∀ m_1, ∀ t3_2 : Value, ∀ t4_3 : Value, ∀ w : World, J_1 m_1 t3_2 t4_3 w → Env →
      run1 Try.prog Z (Builtin.len_ #[42] 3 #[x0]) w fun t7_4 w =>
      run1 Try.prog Z (binOp BinOp.lss 3 t4_3 t7_4) w fun t8_5 w =>
      guardW (t8_5) true (fun k => k (t3_2) w) (fun t10_6 w =>
      guardW (t8_5) true (fun k => run1 Try.prog Z (binOp BinOp.leq 3 t10_6 (Value.int IntKind.i64 67108864)) w k) (fun t11_7 w =>
      run1 Try.prog Z (pickV t8_5 t11_7 (Value.bool false)) w fun t12_8 w =>
      CondV t12_8 (
        Drawn w fun w =>
        Pure1 Try.prog (binOp BinOp.add 3 t3_2 (Value.int IntKind.i64 1)) fun t16_9 =>
        Pure1 Try.prog (Instr.indexAt 42 x0 t4_3) fun t19_10 =>
        Pure1 Try.prog (Instr.fieldAt 46 t19_10 4) fun t20_11 =>
        Read1 Try.prog (Instr.loadAt 9 t20_11) w fun t21_12 =>
        Pure1 Try.prog (Builtin.len_ #[9] 3 #[t21_12]) fun t22_13 =>
        Pure1 Try.prog (binOp BinOp.add 3 t16_9 t22_13) fun t23_14 =>
        Pure1 Try.prog (Instr.indexAt 42 x0 t4_3) fun t26_15 =>
        Pure1 Try.prog (Instr.fieldAt 46 t26_15 5) fun t27_16 =>
        Read1 Try.prog (Instr.loadAt 22 t27_16) w fun t28_17 =>
        Pure1 Try.prog (Builtin.len_ #[22] 3 #[t28_17]) fun t29_18 =>
        Pure1 Try.prog (binOp BinOp.add 3 t23_14 t29_18) fun t30_19 =>
        run1 Try.prog Z (binOp BinOp.add 3 t4_3 (Value.int IntKind.i64 1)) w fun t14_20 w =>
        ∃ n_1, n_1 < m_1 ∧ J_1 n_1 t30_19 t14_20 w) (
        run1 Try.prog Z (binOp BinOp.gtr 3 t3_2 (Value.int IntKind.i64 67108864)) w fun t32_21 w =>
        Q t32_21 w)) w) w
noncomputable def f23.code : Code := match Try.f23.body with | some c => c | none => .skip
def f23.an : An := (.sq .leaf (.sq .leaf (.sq (.sq .leaf (.bl (.lp [3, 4] [3, 4, 5, 6, 7, 8, 9, 10, 11, 12, 13, 14, 15, 16, 17, 18, 19, 20, 21, 22, 23, 24, 25, 26, 27, 28, 29, 30] (.sq (.sq .leaf (.cn .leaf .leaf)) (.sq (.bl (.dr (.take 0 false (.take 1 false (.take 2 false (.take 3 false (.take 4 false (.take 5 false (.take 6 true (.take 7 false (.take 8 false (.take 9 false (.take 10 false (.take 11 false (.take 12 false (.take 13 true (.take 14 false (.take 15 false (.take 16 false .fin))))))))))))))))))) .leaf))))) (.sq .leaf .leaf))))
theorem f23.body_eq : Try.f23.body = some f23.code := by kernel_rfl
theorem f23.shape (Z : List PanicEntry → World → Prop) (x0 : Value) (w : World) (Q : Value → World → Prop) : vc drawD Try.prog 33 Z [] f23.an f23.code (fnQ Try.prog 33 Try.f23.results Q) (argEnv [x0]) w = f23.sh Z x0 w Q := by kernel_rfl
theorem f23.enters : ∀ f, f ∈ ([] : List Nat) → Enters Try.prog f := by
  intro f hf
  cases hf
theorem f23.calls {Z : List PanicEntry → World → Prop} {x0 : Value} {w : World} {Q : Value → World → Prop} (h : f23.sh Z x0 w Q) : CallV Try.prog Z 23 #[x0] w Q :=
  calls_of_vcn drawD_sound (Q := Q) (n := 33) (rs := Try.f23.results) (an := f23.an) (c := f23.code) (cal := []) (args := [x0]) Try.func23 (by kernel_rfl) rfl f23.body_eq follows (Nat.le_of_ble_eq_true (by kernel_rfl)) (enters_of_all f23.enters) ((f23.shape Z x0 w Q).mpr h)

/-! ### 24: lagoon/lagoonlaw01.put -/
def f24.sh (Z : List PanicEntry → World → Prop) (x0 x1 : Value) (w : World) (Q : Value → World → Prop) : Prop :=
  run1 Try.prog Z (Instr.box 46 x1) w fun t3_1 w =>
  ∀ j_2 : World → Prop, (∀ w : World, (Env →
      Q (Value.tuple #[(Value.slice none 0 0), (Value.bool true)]) w) →
      j_2 w) →
  run1 Try.prog Z (Instr.fieldAt 46 t3_1 0) w fun t9_3 w =>
  run1 Try.prog Z (Instr.loadAt 3 t9_3) w fun t10_4 w =>
  run1 Try.prog Z (eqOp BinOp.eql 3 false true t10_4 (Value.int IntKind.i64 1)) w fun t12_5 w =>
  CondV t12_5 (
    run1 Try.prog Z (Instr.fieldAt 46 t3_1 2) w fun t14_6 w =>
    run1 Try.prog Z (Instr.loadAt 2 t14_6) w fun t15_7 w =>
    run1 Try.prog Z (binOp BinOp.and 2 t15_7 (Value.int IntKind.i64 1)) w fun t16_8 w =>
    run1 Try.prog Z (eqOp BinOp.eql 2 false true t16_8 (Value.int IntKind.i64 1)) w fun t17_9 w =>
    CallV Try.prog Z 38 #[x0, t17_9] w fun t18_10 w =>
    run1 Try.prog Z (Instr.fieldAt 46 t3_1 2) w fun t19_11 w =>
    run1 Try.prog Z (Instr.loadAt 2 t19_11) w fun t20_12 w =>
    run1 Try.prog Z (binOp BinOp.and 2 t20_12 (Value.int IntKind.i64 1)) w fun t21_13 w =>
    run1 Try.prog Z (eqOp BinOp.eql 2 false true t21_13 (Value.int IntKind.i64 1)) w fun t22_14 w =>
    CallV Try.prog Z 39 #[t22_14] w fun t23_15 w =>
    Q (Value.tuple #[t23_15, (Value.bool true)]) w) (
    run1 Try.prog Z (eqOp BinOp.eql 3 false true t10_4 (Value.int IntKind.i64 2)) w fun t25_16 w =>
    CondV t25_16 (
      run1 Try.prog Z (Instr.fieldAt 46 t3_1 2) w fun t27_17 w =>
      run1 Try.prog Z (Instr.loadAt 2 t27_17) w fun t28_18 w =>
      run1 Try.prog Z (convert 2 73 t28_18) w fun t29_19 w =>
      CallV Try.prog Z 40 #[x0, t29_19] w fun t30_20 w =>
      run1 Try.prog Z (Instr.fieldAt 46 t3_1 2) w fun t31_21 w =>
      run1 Try.prog Z (Instr.loadAt 2 t31_21) w fun t32_22 w =>
      run1 Try.prog Z (convert 2 73 t32_22) w fun t33_23 w =>
      CallV Try.prog Z 41 #[t33_23] w fun t34_24 w =>
      Q (Value.tuple #[t34_24, (Value.bool true)]) w) (
      run1 Try.prog Z (eqOp BinOp.eql 3 false true t10_4 (Value.int IntKind.i64 3)) w fun t36_25 w =>
      CondV t36_25 (
        run1 Try.prog Z (Instr.fieldAt 46 t3_1 2) w fun t38_26 w =>
        run1 Try.prog Z (Instr.loadAt 2 t38_26) w fun t39_27 w =>
        run1 Try.prog Z (convert 2 21 t39_27) w fun t40_28 w =>
        CallV Try.prog Z 34 #[x0, t40_28] w fun t41_29 w =>
        run1 Try.prog Z (Instr.fieldAt 46 t3_1 2) w fun t42_30 w =>
        run1 Try.prog Z (Instr.loadAt 2 t42_30) w fun t43_31 w =>
        run1 Try.prog Z (convert 2 21 t43_31) w fun t44_32 w =>
        CallV Try.prog Z 20 #[t44_32] w fun t45_33 w =>
        Q (Value.tuple #[t45_33, (Value.bool true)]) w) (
        run1 Try.prog Z (eqOp BinOp.eql 3 false true t10_4 (Value.int IntKind.i64 4)) w fun t47_34 w =>
        CondV t47_34 (
          run1 Try.prog Z (Instr.fieldAt 46 t3_1 2) w fun t49_35 w =>
          run1 Try.prog Z (Instr.loadAt 2 t49_35) w fun t50_36 w =>
          run1 Try.prog Z (convert 2 25 t50_36) w fun t51_37 w =>
          CallV Try.prog Z 42 #[x0, t51_37] w fun t52_38 w =>
          run1 Try.prog Z (Instr.fieldAt 46 t3_1 2) w fun t53_39 w =>
          run1 Try.prog Z (Instr.loadAt 2 t53_39) w fun t54_40 w =>
          run1 Try.prog Z (convert 2 25 t54_40) w fun t55_41 w =>
          CallV Try.prog Z 43 #[t55_41] w fun t56_42 w =>
          Q (Value.tuple #[t56_42, (Value.bool true)]) w) (
          run1 Try.prog Z (eqOp BinOp.eql 3 false true t10_4 (Value.int IntKind.i64 5)) w fun t58_43 w =>
          CondV t58_43 (
            run1 Try.prog Z (Instr.fieldAt 46 t3_1 2) w fun t60_44 w =>
            run1 Try.prog Z (Instr.loadAt 2 t60_44) w fun t61_45 w =>
            CallV Try.prog Z 36 #[x0, t61_45] w fun t62_46 w =>
            run1 Try.prog Z (Instr.fieldAt 46 t3_1 2) w fun t63_47 w =>
            run1 Try.prog Z (Instr.loadAt 2 t63_47) w fun t64_48 w =>
            CallV Try.prog Z 21 #[t64_48] w fun t65_49 w =>
            Q (Value.tuple #[t65_49, (Value.bool true)]) w) (
            run1 Try.prog Z (eqOp BinOp.eql 3 false true t10_4 (Value.int IntKind.i64 6)) w fun t67_50 w =>
            CondV t67_50 (
              run1 Try.prog Z (Instr.fieldAt 46 t3_1 3) w fun t69_51 w =>
              run1 Try.prog Z (Instr.loadAt 44 t69_51) w fun t70_52 w =>
              CallV Try.prog Z 44 #[x0, t70_52] w fun t71_53 w =>
              run1 Try.prog Z (Instr.fieldAt 46 t3_1 3) w fun t72_54 w =>
              run1 Try.prog Z (Instr.loadAt 44 t72_54) w fun t73_55 w =>
              CallV Try.prog Z 45 #[t73_55] w fun t74_56 w =>
              Q (Value.tuple #[t74_56, (Value.bool true)]) w) (
              run1 Try.prog Z (eqOp BinOp.eql 3 false true t10_4 (Value.int IntKind.i64 7)) w fun t76_57 w =>
              CondV t76_57 (
                run1 Try.prog Z (Instr.fieldAt 46 t3_1 4) w fun t78_58 w =>
                run1 Try.prog Z (Instr.loadAt 9 t78_58) w fun t79_59 w =>
                CallV Try.prog Z 46 #[x0, t79_59] w fun t80_60 w =>
                run1 Try.prog Z (Instr.fieldAt 46 t3_1 4) w fun t81_61 w =>
                run1 Try.prog Z (Instr.loadAt 9 t81_61) w fun t82_62 w =>
                CallV Try.prog Z 47 #[t82_62] w fun t83_63 w =>
                Q (Value.tuple #[t83_63, (Value.bool true)]) w) (
                ∀ j_64 : Value → World → Prop, (∀ t84_65 : Value, ∀ w : World, (Env →
                    CondV t84_65 (
                      run1 Try.prog Z (Instr.fieldAt 46 t3_1 5) w fun t87_66 w =>
                      run1 Try.prog Z (Instr.loadAt 22 t87_66) w fun t88_67 w =>
                      CallV Try.prog Z 10 #[t88_67] w fun t89_68 w =>
                      run1 Try.prog Z (Instr.fieldAt 46 t3_1 5) w fun t90_69 w =>
                      run1 Try.prog Z (Instr.loadAt 22 t90_69) w fun t91_70 w =>
                      CallV Try.prog Z 15 #[t91_70] w fun t92_71 w =>
                      ∀ j_72 : Value → World → Prop, (∀ t7_73 : Value, ∀ w : World, (Env →
                          run1 Try.prog Z (Instr.fieldAt 46 t3_1 5) w fun t106_74 w =>
                          run1 Try.prog Z (Instr.loadAt 22 t106_74) w fun t107_75 w =>
                          CallV Try.prog Z 12 #[t89_68, t107_75] w fun t108_76 w =>
                          guardW (t108_76) true (fun k => k (t89_68) w) (fun t110_77 w =>
                          guardW (t108_76) true (fun k => CallV Try.prog Z 13 #[t110_77] w k) (fun t111_78 w =>
                          run1 Try.prog Z (pickV t108_76 t111_78 (Value.bool false)) w fun t112_79 w =>
                          CallV Try.prog Z 50 #[t89_68] w fun t114_80 w =>
                          Q (Value.tuple #[t7_73, t112_79]) w) w) w) →
                          j_72 t7_73 w) →
                      run1 Try.prog Z (Instr.fieldAt 46 t3_1 0) w fun t93_81 w =>
                      run1 Try.prog Z (Instr.loadAt 3 t93_81) w fun t94_82 w =>
                      run1 Try.prog Z (eqOp BinOp.eql 3 false true t94_82 (Value.int IntKind.i64 8)) w fun t95_83 w =>
                      CondV t95_83 (
                        CallV Try.prog Z 48 #[x0, t89_68] w fun t98_84 w =>
                        run1 Try.prog Z (Instr.fieldAt 46 t3_1 5) w fun t99_85 w =>
                        run1 Try.prog Z (Instr.loadAt 22 t99_85) w fun t100_86 w =>
                        CallV Try.prog Z 49 #[t100_86] w fun t101_87 w =>
                        j_72 t101_87 w) (
                        CallV Try.prog Z 16 #[x0, t89_68] w fun t104_88 w =>
                        j_72 t92_71 w)) (
                      j_2 w)) →
                    j_64 t84_65 w) →
                run1 Try.prog Z (eqOp BinOp.eql 3 false true t10_4 (Value.int IntKind.i64 8)) w fun t85_89 w =>
                CondV t85_89 (
                  j_64 t85_89 w) (
                  run1 Try.prog Z (eqOp BinOp.eql 3 false true t10_4 (Value.int IntKind.i64 9)) w fun t86_90 w =>
                  j_64 t86_90 w))))))))
noncomputable def f24.code : Code := match Try.f24.body with | some c => c | none => .skip
def f24.an : An := (.sq .leaf (.sj [] [4, 5, 6, 7, 8, 9, 10, 11, 12, 13, 14, 15, 16, 17, 18, 19, 20, 21, 22, 23, 24, 25, 26, 27, 28, 29, 30, 31, 32, 33, 34, 35, 36, 37, 38, 39, 40, 41, 42, 43, 44, 45, 46, 47, 48, 49, 50, 51, 52, 53, 54, 55, 56, 57, 58, 59, 60, 61, 62, 63, 64, 65, 66, 67, 68, 69, 70, 71, 72, 73, 74, 75, 76, 77, 78, 79, 80, 81, 82, 83, 84, 85, 86, 87, 88, 89, 90, 91, 92, 93, 94, 95, 96, 97, 98, 99, 100, 101, 102, 103, 104, 105, 106, 107, 108, 109, 110, 111, 112, 113, 114, 115, 116] (.sq .leaf (.bl (.sq .leaf (.cn (.sq .leaf (.sq .leaf .leaf)) (.sq .leaf (.cn (.sq .leaf (.sq .leaf .leaf)) (.sq .leaf (.cn (.sq .leaf (.sq .leaf .leaf)) (.sq .leaf (.cn (.sq .leaf (.sq .leaf .leaf)) (.sq .leaf (.cn (.sq .leaf (.sq .leaf .leaf)) (.sq .leaf (.cn (.sq .leaf (.sq .leaf .leaf)) (.sq .leaf (.cn (.sq .leaf (.sq .leaf .leaf)) (.sj [84] [84, 85, 86] (.sq .leaf (.cn .leaf .leaf)) (.cn (.sq .leaf (.sq .leaf (.sj [7] [7, 93, 94, 95, 96, 97, 98, 99, 100, 101, 102, 103, 104] (.sq .leaf (.cn (.sq .leaf .leaf) .leaf)) (.sq .leaf (.sq .leaf (.sq .leaf .leaf)))))) .leaf)))))))))))))))))) (.sq .leaf .leaf)))
theorem f24.body_eq : Try.f24.body = some f24.code := by kernel_rfl
theorem f24.shape (Z : List PanicEntry → World → Prop) (x0 x1 : Value) (w : World) (Q : Value → World → Prop) : vc drawD Try.prog 117 Z [38, 39, 40, 41, 34, 20, 42, 43, 36, 21, 44, 45, 46, 47, 10, 15, 12, 13, 50, 48, 49, 16] f24.an f24.code (fnQ Try.prog 117 Try.f24.results Q) (argEnv [x0, x1]) w = f24.sh Z x0 x1 w Q := by kernel_rfl
theorem f24.enters : ∀ f, f ∈ ([38, 39, 40, 41, 34, 20, 42, 43, 36, 21, 44, 45, 46, 47, 10, 15, 12, 13, 50, 48, 49, 16] : List Nat) → Enters Try.prog f := by
  intro f hf
  simp only [List.mem_cons, List.not_mem_nil, or_false] at hf
  rcases hf with rfl | rfl | rfl | rfl | rfl | rfl | rfl | rfl | rfl | rfl | rfl | rfl | rfl | rfl | rfl | rfl | rfl | rfl | rfl | rfl | rfl | rfl
  · exact en38
  · exact en39
  · exact en40
  · exact en41
  · exact en34
  · exact en20
  · exact en42
  · exact en43
  · exact en36
  · exact en21
  · exact en44
  · exact en45
  · exact en46
  · exact en47
  · exact en10
  · exact en15
  · exact en12
  · exact en13
  · exact en50
  · exact en48
  · exact en49
  · exact en16
theorem f24.calls {Z : List PanicEntry → World → Prop} {x0 x1 : Value} {w : World} {Q : Value → World → Prop} (h : f24.sh Z x0 x1 w Q) : CallV Try.prog Z 24 #[x0, x1] w Q :=
  calls_of_vcn drawD_sound (Q := Q) (n := 117) (rs := Try.f24.results) (an := f24.an) (c := f24.code) (cal := [38, 39, 40, 41, 34, 20, 42, 43, 36, 21, 44, 45, 46, 47, 10, 15, 12, 13, 50, 48, 49, 16]) (args := [x0, x1]) Try.func24 (by kernel_rfl) rfl f24.body_eq follows (Nat.le_of_ble_eq_true (by kernel_rfl)) (enters_of_all f24.enters) ((f24.shape Z x0 x1 w Q).mpr h)

/-! ### 25: lagoon/pack.New -/
def f25.sh (Z : List PanicEntry → World → Prop) (x0 : Value) (w : World) (Q : Value → World → Prop) : Prop :=
  run1 Try.prog Z (Builtin.append_ #[22, 22] 22 #[(Value.slice none 0 0), x0]) w fun t4_1 w =>
  run1 Try.prog Z (Instr.build 82 #[(0, (Value.bool true)), (1, t4_1)]) w fun t5_2 w =>
  run1 Try.prog Z (Instr.box 82 t5_2) w fun t6_3 w =>
  Q t6_3 w
noncomputable def f25.code : Code := match Try.f25.body with | some c => c | none => .skip
def f25.an : An := (.sq .leaf (.sq .leaf .leaf))
theorem f25.body_eq : Try.f25.body = some f25.code := by kernel_rfl
theorem f25.shape (Z : List PanicEntry → World → Prop) (x0 : Value) (w : World) (Q : Value → World → Prop) : vc drawD Try.prog 7 Z [] f25.an f25.code (fnQ Try.prog 7 Try.f25.results Q) (argEnv [x0]) w = f25.sh Z x0 w Q := by kernel_rfl
theorem f25.enters : ∀ f, f ∈ ([] : List Nat) → Enters Try.prog f := by
  intro f hf
  cases hf
theorem f25.calls {Z : List PanicEntry → World → Prop} {x0 : Value} {w : World} {Q : Value → World → Prop} (h : f25.sh Z x0 w Q) : CallV Try.prog Z 25 #[x0] w Q :=
  calls_of_vcn drawD_sound (Q := Q) (n := 7) (rs := Try.f25.results) (an := f25.an) (c := f25.code) (cal := []) (args := [x0]) Try.func25 (by kernel_rfl) rfl f25.body_eq follows (Nat.le_of_ble_eq_true (by kernel_rfl)) (enters_of_all f25.enters) ((f25.shape Z x0 w Q).mpr h)

/-! ### 26: lagoon/lagoonlaw01.get -/
def f26.sh (Z : List PanicEntry → World → Prop) (x0 x1 : Value) (w : World) (Q : Value → World → Prop) : Prop :=
  run1 Try.prog Z (Instr.box 46 x1) w fun t3_1 w =>
  run1 Try.prog Z (Instr.alloc 54 true (.tuple #[])) w fun t4_2 w =>
  ∀ j_3 : World → Prop, (∀ w : World, (Env →
      run1 Try.prog Z (Instr.build 54 #[]) w fun t84_4 w =>
      run0 Try.prog Z (Instr.storeAt 54 t4_2 t84_4) w fun w =>
      ∃ r_5, (do loadVar 54 (← asAddr t4_2) : Sem Value).run Try.prog w = .ok r_5 w ∧
      Q r_5 w) →
      j_3 w) →
  run1 Try.prog Z (Instr.fieldAt 46 t3_1 0) w fun t7_6 w =>
  run1 Try.prog Z (Instr.loadAt 3 t7_6) w fun t8_7 w =>
  run1 Try.prog Z (eqOp BinOp.eql 3 false true t8_7 (Value.int IntKind.i64 1)) w fun t10_8 w =>
  CondV t10_8 (
    CallV Try.prog Z 51 #[x0] w fun t12_9 w =>
    run1 Try.prog Z (Instr.build 54 #[(0, t12_9)]) w fun t13_10 w =>
    run0 Try.prog Z (Instr.storeAt 54 t4_2 t13_10) w fun w =>
    ∃ r_11, (do loadVar 54 (← asAddr t4_2) : Sem Value).run Try.prog w = .ok r_11 w ∧
    Q r_11 w) (
    run1 Try.prog Z (eqOp BinOp.eql 3 false true t8_7 (Value.int IntKind.i64 2)) w fun t15_12 w =>
    CondV t15_12 (
      CallV Try.prog Z 52 #[x0] w fun t17_13 w =>
      run1 Try.prog Z (convert 73 2 t17_13) w fun t18_14 w =>
      run1 Try.prog Z (Instr.build 54 #[(1, t18_14)]) w fun t19_15 w =>
      run0 Try.prog Z (Instr.storeAt 54 t4_2 t19_15) w fun w =>
      ∃ r_16, (do loadVar 54 (← asAddr t4_2) : Sem Value).run Try.prog w = .ok r_16 w ∧
      Q r_16 w) (
      run1 Try.prog Z (eqOp BinOp.eql 3 false true t8_7 (Value.int IntKind.i64 3)) w fun t21_17 w =>
      CondV t21_17 (
        CallV Try.prog Z 35 #[x0] w fun t23_18 w =>
        run1 Try.prog Z (convert 21 2 t23_18) w fun t24_19 w =>
        run1 Try.prog Z (Instr.build 54 #[(1, t24_19)]) w fun t25_20 w =>
        run0 Try.prog Z (Instr.storeAt 54 t4_2 t25_20) w fun w =>
        ∃ r_21, (do loadVar 54 (← asAddr t4_2) : Sem Value).run Try.prog w = .ok r_21 w ∧
        Q r_21 w) (
        run1 Try.prog Z (eqOp BinOp.eql 3 false true t8_7 (Value.int IntKind.i64 4)) w fun t27_22 w =>
        CondV t27_22 (
          CallV Try.prog Z 53 #[x0] w fun t29_23 w =>
          run1 Try.prog Z (convert 25 2 t29_23) w fun t30_24 w =>
          run1 Try.prog Z (Instr.build 54 #[(1, t30_24)]) w fun t31_25 w =>
          run0 Try.prog Z (Instr.storeAt 54 t4_2 t31_25) w fun w =>
          ∃ r_26, (do loadVar 54 (← asAddr t4_2) : Sem Value).run Try.prog w = .ok r_26 w ∧
          Q r_26 w) (
          run1 Try.prog Z (eqOp BinOp.eql 3 false true t8_7 (Value.int IntKind.i64 5)) w fun t33_27 w =>
          CondV t33_27 (
            CallV Try.prog Z 54 #[x0] w fun t35_28 w =>
            run1 Try.prog Z (Instr.build 54 #[(1, t35_28)]) w fun t36_29 w =>
            run0 Try.prog Z (Instr.storeAt 54 t4_2 t36_29) w fun w =>
            ∃ r_30, (do loadVar 54 (← asAddr t4_2) : Sem Value).run Try.prog w = .ok r_30 w ∧
            Q r_30 w) (
            run1 Try.prog Z (eqOp BinOp.eql 3 false true t8_7 (Value.int IntKind.i64 6)) w fun t38_31 w =>
            CondV t38_31 (
              CallV Try.prog Z 55 #[x0] w fun t40_32 w =>
              run1 Try.prog Z (Instr.build 54 #[(2, t40_32)]) w fun t41_33 w =>
              run0 Try.prog Z (Instr.storeAt 54 t4_2 t41_33) w fun w =>
              ∃ r_34, (do loadVar 54 (← asAddr t4_2) : Sem Value).run Try.prog w = .ok r_34 w ∧
              Q r_34 w) (
              run1 Try.prog Z (eqOp BinOp.eql 3 false true t8_7 (Value.int IntKind.i64 7)) w fun t43_35 w =>
              CondV t43_35 (
                run1 Try.prog Z (Instr.fieldAt 46 t3_1 2) w fun t45_36 w =>
                run1 Try.prog Z (Instr.loadAt 2 t45_36) w fun t46_37 w =>
                CallV Try.prog Z 57 #[t46_37] w fun t47_38 w =>
                CallV Try.prog Z 56 #[x0, t47_38] w fun t48_39 w =>
                run1 Try.prog Z (Instr.build 54 #[(3, t48_39)]) w fun t49_40 w =>
                run0 Try.prog Z (Instr.storeAt 54 t4_2 t49_40) w fun w =>
                ∃ r_41, (do loadVar 54 (← asAddr t4_2) : Sem Value).run Try.prog w = .ok r_41 w ∧
                Q r_41 w) (
                run1 Try.prog Z (eqOp BinOp.eql 3 false true t8_7 (Value.int IntKind.i64 8)) w fun t51_42 w =>
                CondV t51_42 (
                  run1 Try.prog Z (Instr.fieldAt 46 t3_1 2) w fun t53_43 w =>
                  run1 Try.prog Z (Instr.loadAt 2 t53_43) w fun t54_44 w =>
                  CallV Try.prog Z 57 #[t54_44] w fun t55_45 w =>
                  CallV Try.prog Z 58 #[x0, t55_45] w fun t56_46 w =>
                  run1 Try.prog Z (Instr.build 54 #[(4, t56_46)]) w fun t57_47 w =>
                  run0 Try.prog Z (Instr.storeAt 54 t4_2 t57_47) w fun w =>
                  ∃ r_48, (do loadVar 54 (← asAddr t4_2) : Sem Value).run Try.prog w = .ok r_48 w ∧
                  Q r_48 w) (
                  run1 Try.prog Z (eqOp BinOp.eql 3 false true t8_7 (Value.int IntKind.i64 9)) w fun t59_49 w =>
                  CondV t59_49 (
                    run1 Try.prog Z (Instr.fieldAt 46 t3_1 2) w fun t61_50 w =>
                    run1 Try.prog Z (Instr.loadAt 2 t61_50) w fun t62_51 w =>
                    CallV Try.prog Z 57 #[t62_51] w fun t63_52 w =>
                    CallV Try.prog Z 59 #[x0, t63_52] w fun t64_53 w =>
                    run1 Try.prog Z (Instr.build 54 #[(4, t64_53)]) w fun t65_54 w =>
                    run0 Try.prog Z (Instr.storeAt 54 t4_2 t65_54) w fun w =>
                    ∃ r_55, (do loadVar 54 (← asAddr t4_2) : Sem Value).run Try.prog w = .ok r_55 w ∧
                    Q r_55 w) (
                    run1 Try.prog Z (eqOp BinOp.eql 3 false true t8_7 (Value.int IntKind.i64 10)) w fun t67_56 w =>
                    CondV t67_56 (
                      CallV Try.prog Z 28 #[x0] w fun t69_57 w =>
                      CallV Try.prog Z 30 #[x0] w fun t71_58 w =>
                      CallV Try.prog Z 29 #[x0] w fun t75_59 w =>
                      run1 Try.prog Z (Instr.build 52 #[(0, t71_58), (1, t75_59)]) w fun t76_60 w =>
                      run1 Try.prog Z (Instr.build 54 #[(1, t69_57), (5, t76_60)]) w fun t77_61 w =>
                      run0 Try.prog Z (Instr.storeAt 54 t4_2 t77_61) w fun w =>
                      ∃ r_62, (do loadVar 54 (← asAddr t4_2) : Sem Value).run Try.prog w = .ok r_62 w ∧
                      Q r_62 w) (
                      run1 Try.prog Z (eqOp BinOp.eql 3 false true t8_7 (Value.int IntKind.i64 11)) w fun t79_63 w =>
                      CondV t79_63 (
                        run1 Try.prog Z (Instr.fieldAt 46 t3_1 2) w fun t81_64 w =>
                        run1 Try.prog Z (Instr.loadAt 2 t81_64) w fun t82_65 w =>
                        CallV Try.prog Z 31 #[x0, t82_65] w fun t83_66 w =>
                        j_3 w) (
                        j_3 w)))))))))))
noncomputable def f26.code : Code := match Try.f26.body with | some c => c | none => .skip
def f26.an : An := (.sq .leaf (.sj [] [5, 6, 7, 8, 9, 10, 11, 12, 13, 14, 15, 16, 17, 18, 19, 20, 21, 22, 23, 24, 25, 26, 27, 28, 29, 30, 31, 32, 33, 34, 35, 36, 37, 38, 39, 40, 41, 42, 43, 44, 45, 46, 47, 48, 49, 50, 51, 52, 53, 54, 55, 56, 57, 58, 59, 60, 61, 62, 63, 64, 65, 66, 67, 68, 69, 70, 71, 72, 73, 74, 75, 76, 77, 78, 79, 80, 81, 82, 83] (.sq .leaf (.bl (.sq .leaf (.cn (.sq .leaf .leaf) (.sq .leaf (.cn (.sq .leaf .leaf) (.sq .leaf (.cn (.sq .leaf .leaf) (.sq .leaf (.cn (.sq .leaf .leaf) (.sq .leaf (.cn (.sq .leaf .leaf) (.sq .leaf (.cn (.sq .leaf .leaf) (.sq .leaf (.cn (.sq .leaf .leaf) (.sq .leaf (.cn (.sq .leaf .leaf) (.sq .leaf (.cn (.sq .leaf .leaf) (.sq .leaf (.cn (.sq .leaf (.sq .leaf (.sq .leaf .leaf))) (.sq .leaf (.cn .leaf .leaf)))))))))))))))))))))))) (.sq .leaf .leaf)))
theorem f26.body_eq : Try.f26.body = some f26.code := by kernel_rfl
theorem f26.shape (Z : List PanicEntry → World → Prop) (x0 x1 : Value) (w : World) (Q : Value → World → Prop) : vc drawD Try.prog 85 Z [51, 52, 35, 53, 54, 55, 57, 56, 58, 59, 28, 30, 29, 31] f26.an f26.code (fnQ Try.prog 85 Try.f26.results Q) (argEnv [x0, x1]) w = f26.sh Z x0 x1 w Q := by kernel_rfl
theorem f26.enters : ∀ f, f ∈ ([51, 52, 35, 53, 54, 55, 57, 56, 58, 59, 28, 30, 29, 31] : List Nat) → Enters Try.prog f := by
  intro f hf
  simp only [List.mem_cons, List.not_mem_nil, or_false] at hf
  rcases hf with rfl | rfl | rfl | rfl | rfl | rfl | rfl | rfl | rfl | rfl | rfl | rfl | rfl | rfl
  · exact en51
  · exact en52
  · exact en35
  · exact en53
  · exact en54
  · exact en55
  · exact en57
  · exact en56
  · exact en58
  · exact en59
  · exact en28
  · exact en30
  · exact en29
  · exact en31
theorem f26.calls {Z : List PanicEntry → World → Prop} {x0 x1 : Value} {w : World} {Q : Value → World → Prop} (h : f26.sh Z x0 x1 w Q) : CallV Try.prog Z 26 #[x0, x1] w Q :=
  calls_of_vcn drawD_sound (Q := Q) (n := 85) (rs := Try.f26.results) (an := f26.an) (c := f26.code) (cal := [51, 52, 35, 53, 54, 55, 57, 56, 58, 59, 28, 30, 29, 31]) (args := [x0, x1]) Try.func26 (by kernel_rfl) rfl f26.body_eq follows (Nat.le_of_ble_eq_true (by kernel_rfl)) (enters_of_all f26.enters) ((f26.shape Z x0 x1 w Q).mpr h)

/-! ### 27: lagoon/lagoonlaw01.again -/
def f27.sh (Z : List PanicEntry → World → Prop) (x0 x1 : Value) (w : World) (Q : Value → World → Prop) : Prop :=
  run1 Try.prog Z (Instr.box 46 x0) w fun t2_1 w =>
  run1 Try.prog Z (Instr.box 54 x1) w fun t3_2 w =>
  run1 Try.prog Z (Instr.fieldAt 46 t2_1 0) w fun t5_3 w =>
  run1 Try.prog Z (Instr.loadAt 3 t5_3) w fun t6_4 w =>
  run1 Try.prog Z (eqOp BinOp.eql 3 false true t6_4 (Value.int IntKind.i64 1)) w fun t8_5 w =>
  CondV t8_5 (
    run1 Try.prog Z (Instr.fieldAt 54 t3_2 0) w fun t9_6 w =>
    run1 Try.prog Z (Instr.loadAt 4 t9_6) w fun t10_7 w =>
    run1 Try.prog Z (Instr.fieldAt 46 t2_1 2) w fun t11_8 w =>
    run1 Try.prog Z (Instr.loadAt 2 t11_8) w fun t12_9 w =>
    run1 Try.prog Z (binOp BinOp.and 2 t12_9 (Value.int IntKind.i64 1)) w fun t13_10 w =>
    run1 Try.prog Z (eqOp BinOp.eql 2 false true t13_10 (Value.int IntKind.i64 1)) w fun t14_11 w =>
    run1 Try.prog Z (eqOp BinOp.eql 4 false false t10_7 t14_11) w fun t15_12 w =>
    Q t15_12 w) (
    run1 Try.prog Z (eqOp BinOp.eql 3 false true t6_4 (Value.int IntKind.i64 2)) w fun t17_13 w =>
    CondV t17_13 (
      run1 Try.prog Z (Instr.fieldAt 54 t3_2 1) w fun t18_14 w =>
      run1 Try.prog Z (Instr.loadAt 2 t18_14) w fun t19_15 w =>
      run1 Try.prog Z (Instr.fieldAt 46 t2_1 2) w fun t20_16 w =>
      run1 Try.prog Z (Instr.loadAt 2 t20_16) w fun t21_17 w =>
      run1 Try.prog Z (convert 2 73 t21_17) w fun t22_18 w =>
      run1 Try.prog Z (convert 73 2 t22_18) w fun t23_19 w =>
      run1 Try.prog Z (eqOp BinOp.eql 2 false false t19_15 t23_19) w fun t24_20 w =>
      Q t24_20 w) (
      run1 Try.prog Z (eqOp BinOp.eql 3 false true t6_4 (Value.int IntKind.i64 3)) w fun t26_21 w =>
      CondV t26_21 (
        run1 Try.prog Z (Instr.fieldAt 54 t3_2 1) w fun t27_22 w =>
        run1 Try.prog Z (Instr.loadAt 2 t27_22) w fun t28_23 w =>
        run1 Try.prog Z (Instr.fieldAt 46 t2_1 2) w fun t29_24 w =>
        run1 Try.prog Z (Instr.loadAt 2 t29_24) w fun t30_25 w =>
        run1 Try.prog Z (convert 2 21 t30_25) w fun t31_26 w =>
        run1 Try.prog Z (convert 21 2 t31_26) w fun t32_27 w =>
        run1 Try.prog Z (eqOp BinOp.eql 2 false false t28_23 t32_27) w fun t33_28 w =>
        Q t33_28 w) (
        run1 Try.prog Z (eqOp BinOp.eql 3 false true t6_4 (Value.int IntKind.i64 4)) w fun t35_29 w =>
        CondV t35_29 (
          run1 Try.prog Z (Instr.fieldAt 54 t3_2 1) w fun t36_30 w =>
          run1 Try.prog Z (Instr.loadAt 2 t36_30) w fun t37_31 w =>
          run1 Try.prog Z (Instr.fieldAt 46 t2_1 2) w fun t38_32 w =>
          run1 Try.prog Z (Instr.loadAt 2 t38_32) w fun t39_33 w =>
          run1 Try.prog Z (convert 2 25 t39_33) w fun t40_34 w =>
          run1 Try.prog Z (convert 25 2 t40_34) w fun t41_35 w =>
          run1 Try.prog Z (eqOp BinOp.eql 2 false false t37_31 t41_35) w fun t42_36 w =>
          Q t42_36 w) (
          run1 Try.prog Z (eqOp BinOp.eql 3 false true t6_4 (Value.int IntKind.i64 5)) w fun t44_37 w =>
          CondV t44_37 (
            run1 Try.prog Z (Instr.fieldAt 54 t3_2 1) w fun t45_38 w =>
            run1 Try.prog Z (Instr.loadAt 2 t45_38) w fun t46_39 w =>
            run1 Try.prog Z (Instr.fieldAt 46 t2_1 2) w fun t47_40 w =>
            run1 Try.prog Z (Instr.loadAt 2 t47_40) w fun t48_41 w =>
            run1 Try.prog Z (eqOp BinOp.eql 2 false false t46_39 t48_41) w fun t49_42 w =>
            Q t49_42 w) (
            run1 Try.prog Z (eqOp BinOp.eql 3 false true t6_4 (Value.int IntKind.i64 6)) w fun t51_43 w =>
            CondV t51_43 (
              run1 Try.prog Z (Instr.fieldAt 54 t3_2 2) w fun t52_44 w =>
              run1 Try.prog Z (Instr.loadAt 44 t52_44) w fun t53_45 w =>
              run1 Try.prog Z (Instr.fieldAt 46 t2_1 3) w fun t54_46 w =>
              run1 Try.prog Z (Instr.loadAt 44 t54_46) w fun t55_47 w =>
              CallV Try.prog Z 60 #[t53_45, t55_47] w fun t56_48 w =>
              Q t56_48 w) (
              run1 Try.prog Z (eqOp BinOp.eql 3 false true t6_4 (Value.int IntKind.i64 7)) w fun t58_49 w =>
              CondV t58_49 (
                run1 Try.prog Z (Instr.fieldAt 54 t3_2 3) w fun t59_50 w =>
                run1 Try.prog Z (Instr.loadAt 9 t59_50) w fun t60_51 w =>
                run1 Try.prog Z (Instr.fieldAt 46 t2_1 4) w fun t61_52 w =>
                run1 Try.prog Z (Instr.loadAt 9 t61_52) w fun t62_53 w =>
                run1 Try.prog Z (eqOp BinOp.eql 9 false false t60_51 t62_53) w fun t63_54 w =>
                Q t63_54 w) (
                run1 Try.prog Z (Instr.fieldAt 54 t3_2 4) w fun t64_55 w =>
                run1 Try.prog Z (Instr.loadAt 22 t64_55) w fun t65_56 w =>
                run1 Try.prog Z (Instr.fieldAt 46 t2_1 5) w fun t66_57 w =>
                run1 Try.prog Z (Instr.loadAt 22 t66_57) w fun t67_58 w =>
                CallV Try.prog Z 12 #[t65_56, t67_58] w fun t68_59 w =>
                Q t68_59 w)))))))
noncomputable def f27.code : Code := match Try.f27.body with | some c => c | none => .skip
def f27.an : An := (.sq .leaf (.sq (.sq .leaf (.bl (.sq .leaf (.cn (.sq .leaf .leaf) (.sq .leaf (.cn (.sq .leaf .leaf) (.sq .leaf (.cn (.sq .leaf .leaf) (.sq .leaf (.cn (.sq .leaf .leaf) (.sq .leaf (.cn (.sq .leaf .leaf) (.sq .leaf (.cn (.sq .leaf .leaf) (.sq .leaf (.cn (.sq .leaf .leaf) .leaf)))))))))))))))) (.sq .leaf .leaf)))
theorem f27.body_eq : Try.f27.body = some f27.code := by kernel_rfl
theorem f27.shape (Z : List PanicEntry → World → Prop) (x0 x1 : Value) (w : World) (Q : Value → World → Prop) : vc drawD Try.prog 69 Z [60, 12] f27.an f27.code (fnQ Try.prog 69 Try.f27.results Q) (argEnv [x0, x1]) w = f27.sh Z x0 x1 w Q := by kernel_rfl
theorem f27.enters : ∀ f, f ∈ ([60, 12] : List Nat) → Enters Try.prog f := by
  intro f hf
  simp only [List.mem_cons, List.not_mem_nil, or_false] at hf
  rcases hf with rfl | rfl
  · exact en60
  · exact en12
theorem f27.calls {Z : List PanicEntry → World → Prop} {x0 x1 : Value} {w : World} {Q : Value → World → Prop} (h : f27.sh Z x0 x1 w Q) : CallV Try.prog Z 27 #[x0, x1] w Q :=
  calls_of_vcn drawD_sound (Q := Q) (n := 69) (rs := Try.f27.results) (an := f27.an) (c := f27.code) (cal := [60, 12]) (args := [x0, x1]) Try.func27 (by kernel_rfl) rfl f27.body_eq follows (Nat.le_of_ble_eq_true (by kernel_rfl)) (enters_of_all f27.enters) ((f27.shape Z x0 x1 w Q).mpr h)

/-! ### 28: (*lagoon/pack.Reader).Left -/
def f28.sh (Z : List PanicEntry → World → Prop) (x0 : Value) (w : World) (Q : Value → World → Prop) : Prop :=
  CallV Try.prog Z 61 #[x0] w fun t4_1 w =>
  run1 Try.prog Z (Builtin.len_ #[22] 3 #[t4_1]) w fun t5_2 w =>
  Q t5_2 w
noncomputable def f28.code : Code := match Try.f28.body with | some c => c | none => .skip
def f28.an : An := (.sq .leaf (.sq .leaf .leaf))
theorem f28.body_eq : Try.f28.body = some f28.code := by kernel_rfl
theorem f28.shape (Z : List PanicEntry → World → Prop) (x0 : Value) (w : World) (Q : Value → World → Prop) : vc drawD Try.prog 6 Z [61] f28.an f28.code (fnQ Try.prog 6 Try.f28.results Q) (argEnv [x0]) w = f28.sh Z x0 w Q := by kernel_rfl
theorem f28.enters : ∀ f, f ∈ ([61] : List Nat) → Enters Try.prog f := by
  intro f hf
  simp only [List.mem_cons, List.not_mem_nil, or_false] at hf
  rcases hf with rfl
  · exact en61
theorem f28.calls {Z : List PanicEntry → World → Prop} {x0 : Value} {w : World} {Q : Value → World → Prop} (h : f28.sh Z x0 w Q) : CallV Try.prog Z 28 #[x0] w Q :=
  calls_of_vcn drawD_sound (Q := Q) (n := 6) (rs := Try.f28.results) (an := f28.an) (c := f28.code) (cal := [61]) (args := [x0]) Try.func28 (by kernel_rfl) rfl f28.body_eq follows (Nat.le_of_ble_eq_true (by kernel_rfl)) (enters_of_all f28.enters) ((f28.shape Z x0 w Q).mpr h)

/-! ### 29: (*lagoon/pack.Reader).End -/
def f29.sh (Z : List PanicEntry → World → Prop) (x0 : Value) (w : World) (Q : Value → World → Prop) : Prop :=
  CallV Try.prog Z 62 #[x0] w fun t4_1 w =>
  guardW (t4_1) true (fun k => k (x0) w) (fun t6_2 w =>
  guardW (t4_1) true (fun k => runX Try.prog Z (nilChk t6_2) w k) (fun t7_3 w =>
  guardW (t4_1) true (fun k => run1 Try.prog Z (Instr.fieldAt 82 t7_3 1) w k) (fun t8_4 w =>
  guardW (t4_1) true (fun k => run1 Try.prog Z (Instr.loadAt 22 t8_4) w k) (fun t9_5 w =>
  guardW (t4_1) true (fun k => run1 Try.prog Z (Builtin.len_ #[22] 3 #[t9_5]) w k) (fun t10_6 w =>
  guardW (t4_1) true (fun k => run1 Try.prog Z (binOp BinOp.gtr 3 t10_6 (Value.int IntKind.i64 0)) w k) (fun t11_7 w =>
  run1 Try.prog Z (pickV t4_1 t11_7 (Value.bool false)) w fun t12_8 w =>
  CondV t12_8 (
    Q (Value.int IntKind.i64 13) w) (
    CallV Try.prog Z 30 #[x0] w fun t14_9 w =>
    Q t14_9 w)) w) w) w) w) w) w
noncomputable def f29.code : Code := match Try.f29.body with | some c => c | none => .skip
def f29.an : An := (.sq .leaf (.sq (.sq .leaf (.cn (.sq .leaf .leaf) .leaf)) (.sq .leaf .leaf)))
theorem f29.body_eq : Try.f29.body = some f29.code := by kernel_rfl
theorem f29.shape (Z : List PanicEntry → World → Prop) (x0 : Value) (w : World) (Q : Value → World → Prop) : vc drawD Try.prog 15 Z [62, 30] f29.an f29.code (fnQ Try.prog 15 Try.f29.results Q) (argEnv [x0]) w = f29.sh Z x0 w Q := by kernel_rfl
theorem f29.enters : ∀ f, f ∈ ([62, 30] : List Nat) → Enters Try.prog f := by
  intro f hf
  simp only [List.mem_cons, List.not_mem_nil, or_false] at hf
  rcases hf with rfl | rfl
  · exact en62
  · exact en30
theorem f29.calls {Z : List PanicEntry → World → Prop} {x0 : Value} {w : World} {Q : Value → World → Prop} (h : f29.sh Z x0 w Q) : CallV Try.prog Z 29 #[x0] w Q :=
  calls_of_vcn drawD_sound (Q := Q) (n := 15) (rs := Try.f29.results) (an := f29.an) (c := f29.code) (cal := [62, 30]) (args := [x0]) Try.func29 (by kernel_rfl) rfl f29.body_eq follows (Nat.le_of_ble_eq_true (by kernel_rfl)) (enters_of_all f29.enters) ((f29.shape Z x0 w Q).mpr h)

/-! ### 30: (*lagoon/pack.Reader).Err -/
def f30.sh (Z : List PanicEntry → World → Prop) (x0 : Value) (w : World) (Q : Value → World → Prop) : Prop :=
  CallV Try.prog Z 63 #[x0] w fun t4_1 w =>
  CondV t4_1 (
    Q (Value.int IntKind.i64 1) w) (
    runX Try.prog Z (nilChk x0) w fun t6_2 w =>
    run1 Try.prog Z (Instr.fieldAt 82 t6_2 2) w fun t7_3 w =>
    run1 Try.prog Z (Instr.loadAt 51 t7_3) w fun t8_4 w =>
    Q t8_4 w)
noncomputable def f30.code : Code := match Try.f30.body with | some c => c | none => .skip
def f30.an : An := (.sq .leaf (.sq (.sq .leaf (.cn (.sq .leaf .leaf) .leaf)) (.sq .leaf .leaf)))
theorem f30.body_eq : Try.f30.body = some f30.code := by kernel_rfl
theorem f30.shape (Z : List PanicEntry → World → Prop) (x0 : Value) (w : World) (Q : Value → World → Prop) : vc drawD Try.prog 9 Z [63] f30.an f30.code (fnQ Try.prog 9 Try.f30.results Q) (argEnv [x0]) w = f30.sh Z x0 w Q := by kernel_rfl
theorem f30.enters : ∀ f, f ∈ ([63] : List Nat) → Enters Try.prog f := by
  intro f hf
  simp only [List.mem_cons, List.not_mem_nil, or_false] at hf
  rcases hf with rfl
  · exact en63
theorem f30.calls {Z : List PanicEntry → World → Prop} {x0 : Value} {w : World} {Q : Value → World → Prop} (h : f30.sh Z x0 w Q) : CallV Try.prog Z 30 #[x0] w Q :=
  calls_of_vcn drawD_sound (Q := Q) (n := 9) (rs := Try.f30.results) (an := f30.an) (c := f30.code) (cal := [63]) (args := [x0]) Try.func30 (by kernel_rfl) rfl f30.body_eq follows (Nat.le_of_ble_eq_true (by kernel_rfl)) (enters_of_all f30.enters) ((f30.shape Z x0 w Q).mpr h)

/-! ### 31: (*lagoon/pack.Reader).Fail -/
def f31.sh (Z : List PanicEntry → World → Prop) (x0 x1 : Value) (w : World) (Q : Value → World → Prop) : Prop :=
  CallV Try.prog Z 62 #[x0] w fun t5_1 w =>
  CondV t5_1 (
    runX Try.prog Z (nilChk x0) w fun t8_2 w =>
    run1 Try.prog Z (Instr.fieldAt 82 t8_2 2) w fun t9_3 w =>
    run0 Try.prog Z (Instr.storeAt 51 t9_3 x1) w fun w =>
    Q (Value.tuple #[]) w) (
    Q (Value.tuple #[]) w)
noncomputable def f31.code : Code := match Try.f31.body with | some c => c | none => .skip
def f31.an : An := (.sq .leaf (.cn .leaf .leaf))
theorem f31.body_eq : Try.f31.body = some f31.code := by kernel_rfl
theorem f31.shape (Z : List PanicEntry → World → Prop) (x0 x1 : Value) (w : World) (Q : Value → World → Prop) : vc drawD Try.prog 10 Z [62] f31.an f31.code (fnQ Try.prog 10 Try.f31.results Q) (argEnv [x0, x1]) w = f31.sh Z x0 x1 w Q := by kernel_rfl
theorem f31.enters : ∀ f, f ∈ ([62] : List Nat) → Enters Try.prog f := by
  intro f hf
  simp only [List.mem_cons, List.not_mem_nil, or_false] at hf
  rcases hf with rfl
  · exact en62
theorem f31.calls {Z : List PanicEntry → World → Prop} {x0 x1 : Value} {w : World} {Q : Value → World → Prop} (h : f31.sh Z x0 x1 w Q) : CallV Try.prog Z 31 #[x0, x1] w Q :=
  calls_of_vcn drawD_sound (Q := Q) (n := 10) (rs := Try.f31.results) (an := f31.an) (c := f31.code) (cal := [62]) (args := [x0, x1]) Try.func31 (by kernel_rfl) rfl f31.body_eq follows (Nat.le_of_ble_eq_true (by kernel_rfl)) (enters_of_all f31.enters) ((f31.shape Z x0 x1 w Q).mpr h)

/-! ### 32: lagoon/lagoonlaw01.same -/
def f32.sh (Z : List PanicEntry → World → Prop) (x0 x1 : Value) (w : World) (Q : Value → World → Prop) : Prop :=
  run1 Try.prog Z (Instr.box 54 x0) w fun t2_1 w =>
  run1 Try.prog Z (Instr.box 54 x1) w fun t3_2 w =>
  run1 Try.prog Z (Instr.fieldAt 54 t2_1 0) w fun t5_3 w =>
  run1 Try.prog Z (Instr.loadAt 4 t5_3) w fun t6_4 w =>
  run1 Try.prog Z (Instr.fieldAt 54 t3_2 0) w fun t7_5 w =>
  run1 Try.prog Z (Instr.loadAt 4 t7_5) w fun t8_6 w =>
  run1 Try.prog Z (eqOp BinOp.eql 4 false false t6_4 t8_6) w fun t9_7 w =>
  guardW (t9_7) true (fun k => run1 Try.prog Z (Instr.fieldAt 54 t2_1 1) w k) (fun t11_8 w =>
  guardW (t9_7) true (fun k => run1 Try.prog Z (Instr.loadAt 2 t11_8) w k) (fun t12_9 w =>
  guardW (t9_7) true (fun k => run1 Try.prog Z (Instr.fieldAt 54 t3_2 1) w k) (fun t13_10 w =>
  guardW (t9_7) true (fun k => run1 Try.prog Z (Instr.loadAt 2 t13_10) w k) (fun t14_11 w =>
  guardW (t9_7) true (fun k => run1 Try.prog Z (eqOp BinOp.eql 2 false false t12_9 t14_11) w k) (fun t15_12 w =>
  run1 Try.prog Z (pickV t9_7 t15_12 (Value.bool false)) w fun t16_13 w =>
  guardW (t16_13) true (fun k => run1 Try.prog Z (Instr.fieldAt 54 t2_1 2) w k) (fun t18_14 w =>
  guardW (t16_13) true (fun k => run1 Try.prog Z (Instr.loadAt 44 t18_14) w k) (fun t19_15 w =>
  guardW (t16_13) true (fun k => run1 Try.prog Z (Instr.fieldAt 54 t3_2 2) w k) (fun t20_16 w =>
  guardW (t16_13) true (fun k => run1 Try.prog Z (Instr.loadAt 44 t20_16) w k) (fun t21_17 w =>
  guardW (t16_13) true (fun k => CallV Try.prog Z 60 #[t19_15, t21_17] w k) (fun t22_18 w =>
  run1 Try.prog Z (pickV t16_13 t22_18 (Value.bool false)) w fun t23_19 w =>
  guardW (t23_19) true (fun k => run1 Try.prog Z (Instr.fieldAt 54 t2_1 3) w k) (fun t25_20 w =>
  guardW (t23_19) true (fun k => run1 Try.prog Z (Instr.loadAt 9 t25_20) w k) (fun t26_21 w =>
  guardW (t23_19) true (fun k => run1 Try.prog Z (Instr.fieldAt 54 t3_2 3) w k) (fun t27_22 w =>
  guardW (t23_19) true (fun k => run1 Try.prog Z (Instr.loadAt 9 t27_22) w k) (fun t28_23 w =>
  guardW (t23_19) true (fun k => run1 Try.prog Z (eqOp BinOp.eql 9 false false t26_21 t28_23) w k) (fun t29_24 w =>
  run1 Try.prog Z (pickV t23_19 t29_24 (Value.bool false)) w fun t30_25 w =>
  guardW (t30_25) true (fun k => run1 Try.prog Z (Instr.fieldAt 54 t2_1 4) w k) (fun t32_26 w =>
  guardW (t30_25) true (fun k => run1 Try.prog Z (Instr.loadAt 22 t32_26) w k) (fun t33_27 w =>
  guardW (t30_25) true (fun k => run1 Try.prog Z (Instr.fieldAt 54 t3_2 4) w k) (fun t34_28 w =>
  guardW (t30_25) true (fun k => run1 Try.prog Z (Instr.loadAt 22 t34_28) w k) (fun t35_29 w =>
  guardW (t30_25) true (fun k => CallV Try.prog Z 12 #[t33_27, t35_29] w k) (fun t36_30 w =>
  run1 Try.prog Z (pickV t30_25 t36_30 (Value.bool false)) w fun t37_31 w =>
  guardW (t37_31) true (fun k => run1 Try.prog Z (Instr.fieldAt 54 t2_1 5) w k) (fun t39_32 w =>
  guardW (t37_31) true (fun k => run1 Try.prog Z (Instr.loadAt 52 t39_32) w k) (fun t40_33 w =>
  guardW (t37_31) true (fun k => run1 Try.prog Z (Instr.fieldAt 54 t3_2 5) w k) (fun t41_34 w =>
  guardW (t37_31) true (fun k => run1 Try.prog Z (Instr.loadAt 52 t41_34) w k) (fun t42_35 w =>
  guardW (t37_31) true (fun k => run1 Try.prog Z (eqOp BinOp.eql 52 false false t40_33 t42_35) w k) (fun t43_36 w =>
  run1 Try.prog Z (pickV t37_31 t43_36 (Value.bool false)) w fun t44_37 w =>
  Q t44_37 w) w) w) w) w) w) w) w) w) w) w) w) w) w) w) w) w) w) w) w) w) w) w) w) w) w
noncomputable def f32.code : Code := match Try.f32.body with | some c => c | none => .skip
def f32.an : An := (.sq .leaf (.sq .leaf .leaf))
theorem f32.body_eq : Try.f32.body = some f32.code := by kernel_rfl
theorem f32.shape (Z : List PanicEntry → World → Prop) (x0 x1 : Value) (w : World) (Q : Value → World → Prop) : vc drawD Try.prog 45 Z [60, 12] f32.an f32.code (fnQ Try.prog 45 Try.f32.results Q) (argEnv [x0, x1]) w = f32.sh Z x0 x1 w Q := by kernel_rfl
theorem f32.enters : ∀ f, f ∈ ([60, 12] : List Nat) → Enters Try.prog f := by
  intro f hf
  simp only [List.mem_cons, List.not_mem_nil, or_false] at hf
  rcases hf with rfl | rfl
  · exact en60
  · exact en12
theorem f32.calls {Z : List PanicEntry → World → Prop} {x0 x1 : Value} {w : World} {Q : Value → World → Prop} (h : f32.sh Z x0 x1 w Q) : CallV Try.prog Z 32 #[x0, x1] w Q :=
  calls_of_vcn drawD_sound (Q := Q) (n := 45) (rs := Try.f32.results) (an := f32.an) (c := f32.code) (cal := [60, 12]) (args := [x0, x1]) Try.func32 (by kernel_rfl) rfl f32.body_eq follows (Nat.le_of_ble_eq_true (by kernel_rfl)) (enters_of_all f32.enters) ((f32.shape Z x0 x1 w Q).mpr h)

/-! ### 33: (*lagoon/pack.Writer).Len -/
def f33.sh (Z : List PanicEntry → World → Prop) (x0 : Value) (w : World) (Q : Value → World → Prop) : Prop :=
  run1 Try.prog Z (eqOp BinOp.eql 31 false true x0 (Value.pointer none)) w fun t4_1 w =>
  CondV t4_1 (
    Q (Value.int IntKind.i64 0) w) (
    runX Try.prog Z (nilChk x0) w fun t6_2 w =>
    run1 Try.prog Z (Instr.fieldAt 33 t6_2 0) w fun t7_3 w =>
    run1 Try.prog Z (Instr.loadAt 22 t7_3) w fun t8_4 w =>
    run1 Try.prog Z (Builtin.len_ #[22] 3 #[t8_4]) w fun t9_5 w =>
    Q t9_5 w)
noncomputable def f33.code : Code := match Try.f33.body with | some c => c | none => .skip
def f33.an : An := (.sq .leaf (.sq (.sq .leaf (.cn (.sq .leaf .leaf) .leaf)) (.sq .leaf .leaf)))
theorem f33.body_eq : Try.f33.body = some f33.code := by kernel_rfl
theorem f33.shape (Z : List PanicEntry → World → Prop) (x0 : Value) (w : World) (Q : Value → World → Prop) : vc drawD Try.prog 10 Z [] f33.an f33.code (fnQ Try.prog 10 Try.f33.results Q) (argEnv [x0]) w = f33.sh Z x0 w Q := by kernel_rfl
theorem f33.enters : ∀ f, f ∈ ([] : List Nat) → Enters Try.prog f := by
  intro f hf
  cases hf
theorem f33.calls {Z : List PanicEntry → World → Prop} {x0 : Value} {w : World} {Q : Value → World → Prop} (h : f33.sh Z x0 w Q) : CallV Try.prog Z 33 #[x0] w Q :=
  calls_of_vcn drawD_sound (Q := Q) (n := 10) (rs := Try.f33.results) (an := f33.an) (c := f33.code) (cal := []) (args := [x0]) Try.func33 (by kernel_rfl) rfl f33.body_eq follows (Nat.le_of_ble_eq_true (by kernel_rfl)) (enters_of_all f33.enters) ((f33.shape Z x0 w Q).mpr h)

/-! ### 34: (*lagoon/pack.Writer).Int32 -/
def f34.sh (Z : List PanicEntry → World → Prop) (x0 x1 : Value) (w : World) (Q : Value → World → Prop) : Prop :=
  run1 Try.prog Z (convert 21 69 x1) w fun t6_1 w =>
  CallV Try.prog Z 64 #[x0, t6_1, (Value.int IntKind.i64 4)] w fun t7_2 w =>
  Q (Value.tuple #[]) w
noncomputable def f34.code : Code := match Try.f34.body with | some c => c | none => .skip
def f34.an : An := .leaf
theorem f34.body_eq : Try.f34.body = some f34.code := by kernel_rfl
theorem f34.shape (Z : List PanicEntry → World → Prop) (x0 x1 : Value) (w : World) (Q : Value → World → Prop) : vc drawD Try.prog 8 Z [64] f34.an f34.code (fnQ Try.prog 8 Try.f34.results Q) (argEnv [x0, x1]) w = f34.sh Z x0 x1 w Q := by kernel_rfl
theorem f34.enters : ∀ f, f ∈ ([64] : List Nat) → Enters Try.prog f := by
  intro f hf
  simp only [List.mem_cons, List.not_mem_nil, or_false] at hf
  rcases hf with rfl
  · exact en64
theorem f34.calls {Z : List PanicEntry → World → Prop} {x0 x1 : Value} {w : World} {Q : Value → World → Prop} (h : f34.sh Z x0 x1 w Q) : CallV Try.prog Z 34 #[x0, x1] w Q :=
  calls_of_vcn drawD_sound (Q := Q) (n := 8) (rs := Try.f34.results) (an := f34.an) (c := f34.code) (cal := [64]) (args := [x0, x1]) Try.func34 (by kernel_rfl) rfl f34.body_eq follows (Nat.le_of_ble_eq_true (by kernel_rfl)) (enters_of_all f34.enters) ((f34.shape Z x0 x1 w Q).mpr h)

/-! ### 35: (*lagoon/pack.Reader).Int32 -/
def f35.sh (Z : List PanicEntry → World → Prop) (x0 : Value) (w : World) (Q : Value → World → Prop) : Prop :=
  CallV Try.prog Z 65 #[x0, (Value.int IntKind.i64 4)] w fun t4_1 w =>
  run1 Try.prog Z (convert 69 21 t4_1) w fun t5_2 w =>
  Q t5_2 w
noncomputable def f35.code : Code := match Try.f35.body with | some c => c | none => .skip
def f35.an : An := (.sq .leaf (.sq .leaf .leaf))
theorem f35.body_eq : Try.f35.body = some f35.code := by kernel_rfl
theorem f35.shape (Z : List PanicEntry → World → Prop) (x0 : Value) (w : World) (Q : Value → World → Prop) : vc drawD Try.prog 6 Z [65] f35.an f35.code (fnQ Try.prog 6 Try.f35.results Q) (argEnv [x0]) w = f35.sh Z x0 w Q := by kernel_rfl
theorem f35.enters : ∀ f, f ∈ ([65] : List Nat) → Enters Try.prog f := by
  intro f hf
  simp only [List.mem_cons, List.not_mem_nil, or_false] at hf
  rcases hf with rfl
  · exact en65
theorem f35.calls {Z : List PanicEntry → World → Prop} {x0 : Value} {w : World} {Q : Value → World → Prop} (h : f35.sh Z x0 w Q) : CallV Try.prog Z 35 #[x0] w Q :=
  calls_of_vcn drawD_sound (Q := Q) (n := 6) (rs := Try.f35.results) (an := f35.an) (c := f35.code) (cal := [65]) (args := [x0]) Try.func35 (by kernel_rfl) rfl f35.body_eq follows (Nat.le_of_ble_eq_true (by kernel_rfl)) (enters_of_all f35.enters) ((f35.shape Z x0 w Q).mpr h)

/-! ### 36: (*lagoon/pack.Writer).Int64 -/
def f36.sh (Z : List PanicEntry → World → Prop) (x0 x1 : Value) (w : World) (Q : Value → World → Prop) : Prop :=
  run1 Try.prog Z (convert 2 69 x1) w fun t6_1 w =>
  CallV Try.prog Z 64 #[x0, t6_1, (Value.int IntKind.i64 8)] w fun t7_2 w =>
  Q (Value.tuple #[]) w
noncomputable def f36.code : Code := match Try.f36.body with | some c => c | none => .skip
def f36.an : An := .leaf
theorem f36.body_eq : Try.f36.body = some f36.code := by kernel_rfl
theorem f36.shape (Z : List PanicEntry → World → Prop) (x0 x1 : Value) (w : World) (Q : Value → World → Prop) : vc drawD Try.prog 8 Z [64] f36.an f36.code (fnQ Try.prog 8 Try.f36.results Q) (argEnv [x0, x1]) w = f36.sh Z x0 x1 w Q := by kernel_rfl
theorem f36.enters : ∀ f, f ∈ ([64] : List Nat) → Enters Try.prog f := by
  intro f hf
  simp only [List.mem_cons, List.not_mem_nil, or_false] at hf
  rcases hf with rfl
  · exact en64
theorem f36.calls {Z : List PanicEntry → World → Prop} {x0 x1 : Value} {w : World} {Q : Value → World → Prop} (h : f36.sh Z x0 x1 w Q) : CallV Try.prog Z 36 #[x0, x1] w Q :=
  calls_of_vcn drawD_sound (Q := Q) (n := 8) (rs := Try.f36.results) (an := f36.an) (c := f36.code) (cal := [64]) (args := [x0, x1]) Try.func36 (by kernel_rfl) rfl f36.body_eq follows (Nat.le_of_ble_eq_true (by kernel_rfl)) (enters_of_all f36.enters) ((f36.shape Z x0 x1 w Q).mpr h)

/-! ### 37: lagoon/lagoonref01.digits -/
def f37.sh (Z : List PanicEntry → World → Prop) (x0 x1 : Value) (w : World) (Q : Value → World → Prop) : Prop :=
  run1 Try.prog Z (Instr.makeSlice 22 x1 x1) w fun t8_1 w =>
  run1 Try.prog Z (binOp BinOp.sub 3 x1 (Value.int IntKind.i64 1)) w fun t10_2 w =>
  ∃ J_3 : Nat → Value → Value → World → Prop, (∃ m, J_3 m x0 t10_2 w) ∧
    ∀ m_3, ∀ t0_4 : Value, ∀ t6_5 : Value, ∀ w : World, J_3 m_3 t0_4 t6_5 w → Env →
      run1 Try.prog Z (binOp BinOp.geq 3 t6_5 (Value.int IntKind.i64 0)) w fun t12_6 w =>
      CondV t12_6 (
        run1 Try.prog Z (binOp BinOp.rem 69 t0_4 (Value.int IntKind.u64 256)) w fun t18_7 w =>
        run1 Try.prog Z (convert 69 5 t18_7) w fun t19_8 w =>
        run1 Try.prog Z (Instr.indexAt 22 t8_1 t6_5) w fun t20_9 w =>
        run0 Try.prog Z (Instr.storeAt 5 t20_9 t19_8) w fun w =>
        run1 Try.prog Z (binOp BinOp.quo 69 t0_4 (Value.int IntKind.u64 256)) w fun t22_10 w =>
        run1 Try.prog Z (binOp BinOp.sub 3 t6_5 (Value.int IntKind.i64 1)) w fun t14_11 w =>
        ∃ n_3, n_3 < m_3 ∧ J_3 n_3 t22_10 t14_11 w) (
        Q t8_1 w)
noncomputable def f37.code : Code := match Try.f37.body with | some c => c | none => .skip
def f37.an : An := (.sq .leaf (.sq .leaf (.sq (.sq .leaf (.bl (.lp [0, 6] [0, 6, 11, 12, 13, 14, 15, 16, 17, 18, 19, 20, 21, 22] (.sq (.sq .leaf (.cn .leaf .leaf)) (.sq (.bl (.sq .leaf .leaf)) .leaf))))) (.sq .leaf .leaf))))
theorem f37.body_eq : Try.f37.body = some f37.code := by kernel_rfl
theorem f37.shape (Z : List PanicEntry → World → Prop) (x0 x1 : Value) (w : World) (Q : Value → World → Prop) : vc drawD Try.prog 24 Z [] f37.an f37.code (fnQ Try.prog 24 Try.f37.results Q) (argEnv [x0, x1]) w = f37.sh Z x0 x1 w Q := by kernel_rfl
theorem f37.enters : ∀ f, f ∈ ([] : List Nat) → Enters Try.prog f := by
  intro f hf
  cases hf
theorem f37.calls {Z : List PanicEntry → World → Prop} {x0 x1 : Value} {w : World} {Q : Value → World → Prop} (h : f37.sh Z x0 x1 w Q) : CallV Try.prog Z 37 #[x0, x1] w Q :=
  calls_of_vcn drawD_sound (Q := Q) (n := 24) (rs := Try.f37.results) (an := f37.an) (c := f37.code) (cal := []) (args := [x0, x1]) Try.func37 (by kernel_rfl) rfl f37.body_eq follows (Nat.le_of_ble_eq_true (by kernel_rfl)) (enters_of_all f37.enters) ((f37.shape Z x0 x1 w Q).mpr h)

/-! ### 38: (*lagoon/pack.Writer).Bool -/
def f38.sh (Z : List PanicEntry → World → Prop) (x0 x1 : Value) (w : World) (Q : Value → World → Prop) : Prop :=
  ∀ j_1 : Value → World → Prop, (∀ t4_2 : Value, ∀ w : World, (Env →
      CallV Try.prog Z 64 #[x0, t4_2, (Value.int IntKind.i64 1)] w fun t8_3 w =>
      Q (Value.tuple #[]) w) →
      j_1 t4_2 w) →
  CondV x1 (
    j_1 (Value.int IntKind.u64 1) w) (
    j_1 (Value.int IntKind.u64 0) w)
noncomputable def f38.code : Code := match Try.f38.body with | some c => c | none => .skip
def f38.an : An := (.sq .leaf (.sj [4] [4, 5] (.sq .leaf (.cn .leaf .leaf)) .leaf))
theorem f38.body_eq : Try.f38.body = some f38.code := by kernel_rfl
theorem f38.shape (Z : List PanicEntry → World → Prop) (x0 x1 : Value) (w : World) (Q : Value → World → Prop) : vc drawD Try.prog 9 Z [64] f38.an f38.code (fnQ Try.prog 9 Try.f38.results Q) (argEnv [x0, x1]) w = f38.sh Z x0 x1 w Q := by kernel_rfl
theorem f38.enters : ∀ f, f ∈ ([64] : List Nat) → Enters Try.prog f := by
  intro f hf
  simp only [List.mem_cons, List.not_mem_nil, or_false] at hf
  rcases hf with rfl
  · exact en64
theorem f38.calls {Z : List PanicEntry → World → Prop} {x0 x1 : Value} {w : World} {Q : Value → World → Prop} (h : f38.sh Z x0 x1 w Q) : CallV Try.prog Z 38 #[x0, x1] w Q :=
  calls_of_vcn drawD_sound (Q := Q) (n := 9) (rs := Try.f38.results) (an := f38.an) (c := f38.code) (cal := [64]) (args := [x0, x1]) Try.func38 (by kernel_rfl) rfl f38.body_eq follows (Nat.le_of_ble_eq_true (by kernel_rfl)) (enters_of_all f38.enters) ((f38.shape Z x0 x1 w Q).mpr h)

/-! ### 39: lagoon/lagoonref01.Bool -/
def f39.sh (Z : List PanicEntry → World → Prop) (x0 : Value) (w : World) (Q : Value → World → Prop) : Prop :=
  CondV x0 (
    run1 Try.prog Z (Instr.buildSlice 22 1 #[(0, (Value.int IntKind.u8 1))]) w fun t4_1 w =>
    Q t4_1 w) (
    run1 Try.prog Z (Instr.buildSlice 22 1 #[(0, (Value.int IntKind.u8 0))]) w fun t5_2 w =>
    Q t5_2 w)
noncomputable def f39.code : Code := match Try.f39.body with | some c => c | none => .skip
def f39.an : An := (.sq .leaf (.sq (.sq .leaf (.cn (.sq .leaf .leaf) .leaf)) (.sq .leaf .leaf)))
theorem f39.body_eq : Try.f39.body = some f39.code := by kernel_rfl
theorem f39.shape (Z : List PanicEntry → World → Prop) (x0 : Value) (w : World) (Q : Value → World → Prop) : vc drawD Try.prog 6 Z [] f39.an f39.code (fnQ Try.prog 6 Try.f39.results Q) (argEnv [x0]) w = f39.sh Z x0 w Q := by kernel_rfl
theorem f39.enters : ∀ f, f ∈ ([] : List Nat) → Enters Try.prog f := by
  intro f hf
  cases hf
theorem f39.calls {Z : List PanicEntry → World → Prop} {x0 : Value} {w : World} {Q : Value → World → Prop} (h : f39.sh Z x0 w Q) : CallV Try.prog Z 39 #[x0] w Q :=
  calls_of_vcn drawD_sound (Q := Q) (n := 6) (rs := Try.f39.results) (an := f39.an) (c := f39.code) (cal := []) (args := [x0]) Try.func39 (by kernel_rfl) rfl f39.body_eq follows (Nat.le_of_ble_eq_true (by kernel_rfl)) (enters_of_all f39.enters) ((f39.shape Z x0 w Q).mpr h)

/-! ### 40: (*lagoon/pack.Writer).Int8 -/
def f40.sh (Z : List PanicEntry → World → Prop) (x0 x1 : Value) (w : World) (Q : Value → World → Prop) : Prop :=
  run1 Try.prog Z (convert 73 69 x1) w fun t6_1 w =>
  CallV Try.prog Z 64 #[x0, t6_1, (Value.int IntKind.i64 1)] w fun t7_2 w =>
  Q (Value.tuple #[]) w
noncomputable def f40.code : Code := match Try.f40.body with | some c => c | none => .skip
def f40.an : An := .leaf
theorem f40.body_eq : Try.f40.body = some f40.code := by kernel_rfl
theorem f40.shape (Z : List PanicEntry → World → Prop) (x0 x1 : Value) (w : World) (Q : Value → World → Prop) : vc drawD Try.prog 8 Z [64] f40.an f40.code (fnQ Try.prog 8 Try.f40.results Q) (argEnv [x0, x1]) w = f40.sh Z x0 x1 w Q := by kernel_rfl
theorem f40.enters : ∀ f, f ∈ ([64] : List Nat) → Enters Try.prog f := by
  intro f hf
  simp only [List.mem_cons, List.not_mem_nil, or_false] at hf
  rcases hf with rfl
  · exact en64
theorem f40.calls {Z : List PanicEntry → World → Prop} {x0 x1 : Value} {w : World} {Q : Value → World → Prop} (h : f40.sh Z x0 x1 w Q) : CallV Try.prog Z 40 #[x0, x1] w Q :=
  calls_of_vcn drawD_sound (Q := Q) (n := 8) (rs := Try.f40.results) (an := f40.an) (c := f40.code) (cal := [64]) (args := [x0, x1]) Try.func40 (by kernel_rfl) rfl f40.body_eq follows (Nat.le_of_ble_eq_true (by kernel_rfl)) (enters_of_all f40.enters) ((f40.shape Z x0 x1 w Q).mpr h)

/-! ### 41: lagoon/lagoonref01.Int8 -/
def f41.sh (Z : List PanicEntry → World → Prop) (x0 : Value) (w : World) (Q : Value → World → Prop) : Prop :=
  run1 Try.prog Z (convert 73 3 x0) w fun t5_1 w =>
  ∀ j_2 : Value → World → Prop, (∀ t3_3 : Value, ∀ w : World, (Env →
      run1 Try.prog Z (convert 3 5 t3_3) w fun t11_4 w =>
      run1 Try.prog Z (Instr.buildSlice 22 1 #[(0, t11_4)]) w fun t12_5 w =>
      Q t12_5 w) →
      j_2 t3_3 w) →
  run1 Try.prog Z (binOp BinOp.lss 3 t5_1 (Value.int IntKind.i64 0)) w fun t7_6 w =>
  CondV t7_6 (
    run1 Try.prog Z (binOp BinOp.add 3 t5_1 (Value.int IntKind.i64 256)) w fun t9_7 w =>
    j_2 t9_7 w) (
    j_2 t5_1 w)
noncomputable def f41.code : Code := match Try.f41.body with | some c => c | none => .skip
def f41.an : An := (.sq .leaf (.sq .leaf (.sj [3] [3, 6, 7, 8, 9] (.sq .leaf (.cn .leaf .leaf)) (.sq .leaf .leaf))))
theorem f41.body_eq : Try.f41.body = some f41.code := by kernel_rfl
theorem f41.shape (Z : List PanicEntry → World → Prop) (x0 : Value) (w : World) (Q : Value → World → Prop) : vc drawD Try.prog 13 Z [] f41.an f41.code (fnQ Try.prog 13 Try.f41.results Q) (argEnv [x0]) w = f41.sh Z x0 w Q := by kernel_rfl
theorem f41.enters : ∀ f, f ∈ ([] : List Nat) → Enters Try.prog f := by
  intro f hf
  cases hf
theorem f41.calls {Z : List PanicEntry → World → Prop} {x0 : Value} {w : World} {Q : Value → World → Prop} (h : f41.sh Z x0 w Q) : CallV Try.prog Z 41 #[x0] w Q :=
  calls_of_vcn drawD_sound (Q := Q) (n := 13) (rs := Try.f41.results) (an := f41.an) (c := f41.code) (cal := []) (args := [x0]) Try.func41 (by kernel_rfl) rfl f41.body_eq follows (Nat.le_of_ble_eq_true (by kernel_rfl)) (enters_of_all f41.enters) ((f41.shape Z x0 w Q).mpr h)

/-! ### 42: (*lagoon/pack.Writer).Uint32 -/
def f42.sh (Z : List PanicEntry → World → Prop) (x0 x1 : Value) (w : World) (Q : Value → World → Prop) : Prop :=
  run1 Try.prog Z (convert 25 69 x1) w fun t6_1 w =>
  CallV Try.prog Z 64 #[x0, t6_1, (Value.int IntKind.i64 4)] w fun t7_2 w =>
  Q (Value.tuple #[]) w
noncomputable def f42.code : Code := match Try.f42.body with | some c => c | none => .skip
def f42.an : An := .leaf
theorem f42.body_eq : Try.f42.body = some f42.code := by kernel_rfl
theorem f42.shape (Z : List PanicEntry → World → Prop) (x0 x1 : Value) (w : World) (Q : Value → World → Prop) : vc drawD Try.prog 8 Z [64] f42.an f42.code (fnQ Try.prog 8 Try.f42.results Q) (argEnv [x0, x1]) w = f42.sh Z x0 x1 w Q := by kernel_rfl
theorem f42.enters : ∀ f, f ∈ ([64] : List Nat) → Enters Try.prog f := by
  intro f hf
  simp only [List.mem_cons, List.not_mem_nil, or_false] at hf
  rcases hf with rfl
  · exact en64
theorem f42.calls {Z : List PanicEntry → World → Prop} {x0 x1 : Value} {w : World} {Q : Value → World → Prop} (h : f42.sh Z x0 x1 w Q) : CallV Try.prog Z 42 #[x0, x1] w Q :=
  calls_of_vcn drawD_sound (Q := Q) (n := 8) (rs := Try.f42.results) (an := f42.an) (c := f42.code) (cal := [64]) (args := [x0, x1]) Try.func42 (by kernel_rfl) rfl f42.body_eq follows (Nat.le_of_ble_eq_true (by kernel_rfl)) (enters_of_all f42.enters) ((f42.shape Z x0 x1 w Q).mpr h)

/-! ### 43: lagoon/lagoonref01.Uint32 -/
def f43.sh (Z : List PanicEntry → World → Prop) (x0 : Value) (w : World) (Q : Value → World → Prop) : Prop :=
  run1 Try.prog Z (convert 25 69 x0) w fun t4_1 w =>
  CallV Try.prog Z 37 #[t4_1, (Value.int IntKind.i64 4)] w fun t5_2 w =>
  Q t5_2 w
noncomputable def f43.code : Code := match Try.f43.body with | some c => c | none => .skip
def f43.an : An := (.sq .leaf (.sq .leaf .leaf))
theorem f43.body_eq : Try.f43.body = some f43.code := by kernel_rfl
theorem f43.shape (Z : List PanicEntry → World → Prop) (x0 : Value) (w : World) (Q : Value → World → Prop) : vc drawD Try.prog 6 Z [37] f43.an f43.code (fnQ Try.prog 6 Try.f43.results Q) (argEnv [x0]) w = f43.sh Z x0 w Q := by kernel_rfl
theorem f43.enters : ∀ f, f ∈ ([37] : List Nat) → Enters Try.prog f := by
  intro f hf
  simp only [List.mem_cons, List.not_mem_nil, or_false] at hf
  rcases hf with rfl
  · exact en37
theorem f43.calls {Z : List PanicEntry → World → Prop} {x0 : Value} {w : World} {Q : Value → World → Prop} (h : f43.sh Z x0 w Q) : CallV Try.prog Z 43 #[x0] w Q :=
  calls_of_vcn drawD_sound (Q := Q) (n := 6) (rs := Try.f43.results) (an := f43.an) (c := f43.code) (cal := [37]) (args := [x0]) Try.func43 (by kernel_rfl) rfl f43.body_eq follows (Nat.le_of_ble_eq_true (by kernel_rfl)) (enters_of_all f43.enters) ((f43.shape Z x0 w Q).mpr h)

/-! ### 44: (*lagoon/pack.Writer).Float -/
def f44.sh (Z : List PanicEntry → World → Prop) (x0 x1 : Value) (w : World) (Q : Value → World → Prop) : Prop :=
  CallV Try.prog Z 66 #[x1] w fun t6_1 w =>
  CallV Try.prog Z 64 #[x0, t6_1, (Value.int IntKind.i64 8)] w fun t7_2 w =>
  Q (Value.tuple #[]) w
noncomputable def f44.code : Code := match Try.f44.body with | some c => c | none => .skip
def f44.an : An := .leaf
theorem f44.body_eq : Try.f44.body = some f44.code := by kernel_rfl
theorem f44.shape (Z : List PanicEntry → World → Prop) (x0 x1 : Value) (w : World) (Q : Value → World → Prop) : vc drawD Try.prog 8 Z [66, 64] f44.an f44.code (fnQ Try.prog 8 Try.f44.results Q) (argEnv [x0, x1]) w = f44.sh Z x0 x1 w Q := by kernel_rfl
theorem f44.enters : ∀ f, f ∈ ([66, 64] : List Nat) → Enters Try.prog f := by
  intro f hf
  simp only [List.mem_cons, List.not_mem_nil, or_false] at hf
  rcases hf with rfl | rfl
  · exact en66
  · exact en64
theorem f44.calls {Z : List PanicEntry → World → Prop} {x0 x1 : Value} {w : World} {Q : Value → World → Prop} (h : f44.sh Z x0 x1 w Q) : CallV Try.prog Z 44 #[x0, x1] w Q :=
  calls_of_vcn drawD_sound (Q := Q) (n := 8) (rs := Try.f44.results) (an := f44.an) (c := f44.code) (cal := [66, 64]) (args := [x0, x1]) Try.func44 (by kernel_rfl) rfl f44.body_eq follows (Nat.le_of_ble_eq_true (by kernel_rfl)) (enters_of_all f44.enters) ((f44.shape Z x0 x1 w Q).mpr h)

/-! ### 45: lagoon/lagoonref01.Float -/
def f45.sh (Z : List PanicEntry → World → Prop) (x0 : Value) (w : World) (Q : Value → World → Prop) : Prop :=
  CallV Try.prog Z 67 #[x0] w fun t4_1 w =>
  CallV Try.prog Z 37 #[t4_1, (Value.int IntKind.i64 8)] w fun t5_2 w =>
  Q t5_2 w
noncomputable def f45.code : Code := match Try.f45.body with | some c => c | none => .skip
def f45.an : An := (.sq .leaf (.sq .leaf .leaf))
theorem f45.body_eq : Try.f45.body = some f45.code := by kernel_rfl
theorem f45.shape (Z : List PanicEntry → World → Prop) (x0 : Value) (w : World) (Q : Value → World → Prop) : vc drawD Try.prog 6 Z [67, 37] f45.an f45.code (fnQ Try.prog 6 Try.f45.results Q) (argEnv [x0]) w = f45.sh Z x0 w Q := by kernel_rfl
theorem f45.enters : ∀ f, f ∈ ([67, 37] : List Nat) → Enters Try.prog f := by
  intro f hf
  simp only [List.mem_cons, List.not_mem_nil, or_false] at hf
  rcases hf with rfl | rfl
  · exact en67
  · exact en37
theorem f45.calls {Z : List PanicEntry → World → Prop} {x0 : Value} {w : World} {Q : Value → World → Prop} (h : f45.sh Z x0 w Q) : CallV Try.prog Z 45 #[x0] w Q :=
  calls_of_vcn drawD_sound (Q := Q) (n := 6) (rs := Try.f45.results) (an := f45.an) (c := f45.code) (cal := [67, 37]) (args := [x0]) Try.func45 (by kernel_rfl) rfl f45.body_eq follows (Nat.le_of_ble_eq_true (by kernel_rfl)) (enters_of_all f45.enters) ((f45.shape Z x0 w Q).mpr h)

/-! ### 46: (*lagoon/pack.Writer).Text -/
def f46.sh (Z : List PanicEntry → World → Prop) (x0 x1 : Value) (w : World) (Q : Value → World → Prop) : Prop :=
  run1 Try.prog Z (eqOp BinOp.eql 31 false true x0 (Value.pointer none)) w fun t5_1 w =>
  CondV t5_1 (
    Q (Value.tuple #[]) w) (
    run1 Try.prog Z (Builtin.len_ #[9] 3 #[x1]) w fun t8_2 w =>
    run1 Try.prog Z (convert 3 21 t8_2) w fun t9_3 w =>
    CallV Try.prog Z 34 #[x0, t9_3] w fun t10_4 w =>
    runX Try.prog Z (nilChk x0) w fun t13_5 w =>
    run1 Try.prog Z (Instr.fieldAt 33 t13_5 0) w fun t14_6 w =>
    run1 Try.prog Z (Instr.loadAt 22 t14_6) w fun t15_7 w =>
    run1 Try.prog Z (Builtin.append_ #[22, 9] 22 #[t15_7, x1]) w fun t17_8 w =>
    runX Try.prog Z (nilChk x0) w fun t18_9 w =>
    run1 Try.prog Z (Instr.fieldAt 33 t18_9 0) w fun t19_10 w =>
    run0 Try.prog Z (Instr.storeAt 22 t19_10 t17_8) w fun w =>
    Q (Value.tuple #[]) w)
noncomputable def f46.code : Code := match Try.f46.body with | some c => c | none => .skip
def f46.an : An := (.sq (.sq .leaf (.cn .leaf .leaf)) (.sq .leaf .leaf))
theorem f46.body_eq : Try.f46.body = some f46.code := by kernel_rfl
theorem f46.shape (Z : List PanicEntry → World → Prop) (x0 x1 : Value) (w : World) (Q : Value → World → Prop) : vc drawD Try.prog 20 Z [34] f46.an f46.code (fnQ Try.prog 20 Try.f46.results Q) (argEnv [x0, x1]) w = f46.sh Z x0 x1 w Q := by kernel_rfl
theorem f46.enters : ∀ f, f ∈ ([34] : List Nat) → Enters Try.prog f := by
  intro f hf
  simp only [List.mem_cons, List.not_mem_nil, or_false] at hf
  rcases hf with rfl
  · exact en34
theorem f46.calls {Z : List PanicEntry → World → Prop} {x0 x1 : Value} {w : World} {Q : Value → World → Prop} (h : f46.sh Z x0 x1 w Q) : CallV Try.prog Z 46 #[x0, x1] w Q :=
  calls_of_vcn drawD_sound (Q := Q) (n := 20) (rs := Try.f46.results) (an := f46.an) (c := f46.code) (cal := [34]) (args := [x0, x1]) Try.func46 (by kernel_rfl) rfl f46.body_eq follows (Nat.le_of_ble_eq_true (by kernel_rfl)) (enters_of_all f46.enters) ((f46.shape Z x0 x1 w Q).mpr h)

/-! ### 47: lagoon/lagoonref01.Text -/
def f47.sh (Z : List PanicEntry → World → Prop) (x0 : Value) (w : World) (Q : Value → World → Prop) : Prop :=
  run1 Try.prog Z (convert 9 22 x0) w fun t4_1 w =>
  CallV Try.prog Z 49 #[t4_1] w fun t5_2 w =>
  Q t5_2 w
noncomputable def f47.code : Code := match Try.f47.body with | some c => c | none => .skip
def f47.an : An := (.sq .leaf (.sq .leaf .leaf))
theorem f47.body_eq : Try.f47.body = some f47.code := by kernel_rfl
theorem f47.shape (Z : List PanicEntry → World → Prop) (x0 : Value) (w : World) (Q : Value → World → Prop) : vc drawD Try.prog 6 Z [49] f47.an f47.code (fnQ Try.prog 6 Try.f47.results Q) (argEnv [x0]) w = f47.sh Z x0 w Q := by kernel_rfl
theorem f47.enters : ∀ f, f ∈ ([49] : List Nat) → Enters Try.prog f := by
  intro f hf
  simp only [List.mem_cons, List.not_mem_nil, or_false] at hf
  rcases hf with rfl
  · exact en49
theorem f47.calls {Z : List PanicEntry → World → Prop} {x0 : Value} {w : World} {Q : Value → World → Prop} (h : f47.sh Z x0 w Q) : CallV Try.prog Z 47 #[x0] w Q :=
  calls_of_vcn drawD_sound (Q := Q) (n := 6) (rs := Try.f47.results) (an := f47.an) (c := f47.code) (cal := [49]) (args := [x0]) Try.func47 (by kernel_rfl) rfl f47.body_eq follows (Nat.le_of_ble_eq_true (by kernel_rfl)) (enters_of_all f47.enters) ((f47.shape Z x0 w Q).mpr h)

/-! ### 48: (*lagoon/pack.Writer).Buffer -/
def f48.sh (Z : List PanicEntry → World → Prop) (x0 x1 : Value) (w : World) (Q : Value → World → Prop) : Prop :=
  run1 Try.prog Z (eqOp BinOp.eql 31 false true x0 (Value.pointer none)) w fun t5_1 w =>
  CondV t5_1 (
    Q (Value.tuple #[]) w) (
    run1 Try.prog Z (Builtin.len_ #[22] 3 #[x1]) w fun t8_2 w =>
    run1 Try.prog Z (convert 3 21 t8_2) w fun t9_3 w =>
    CallV Try.prog Z 34 #[x0, t9_3] w fun t10_4 w =>
    CallV Try.prog Z 16 #[x0, x1] w fun t13_5 w =>
    Q (Value.tuple #[]) w)
noncomputable def f48.code : Code := match Try.f48.body with | some c => c | none => .skip
def f48.an : An := (.sq (.sq .leaf (.cn .leaf .leaf)) (.sq .leaf .leaf))
theorem f48.body_eq : Try.f48.body = some f48.code := by kernel_rfl
theorem f48.shape (Z : List PanicEntry → World → Prop) (x0 x1 : Value) (w : World) (Q : Value → World → Prop) : vc drawD Try.prog 14 Z [34, 16] f48.an f48.code (fnQ Try.prog 14 Try.f48.results Q) (argEnv [x0, x1]) w = f48.sh Z x0 x1 w Q := by kernel_rfl
theorem f48.enters : ∀ f, f ∈ ([34, 16] : List Nat) → Enters Try.prog f := by
  intro f hf
  simp only [List.mem_cons, List.not_mem_nil, or_false] at hf
  rcases hf with rfl | rfl
  · exact en34
  · exact en16
theorem f48.calls {Z : List PanicEntry → World → Prop} {x0 x1 : Value} {w : World} {Q : Value → World → Prop} (h : f48.sh Z x0 x1 w Q) : CallV Try.prog Z 48 #[x0, x1] w Q :=
  calls_of_vcn drawD_sound (Q := Q) (n := 14) (rs := Try.f48.results) (an := f48.an) (c := f48.code) (cal := [34, 16]) (args := [x0, x1]) Try.func48 (by kernel_rfl) rfl f48.body_eq follows (Nat.le_of_ble_eq_true (by kernel_rfl)) (enters_of_all f48.enters) ((f48.shape Z x0 x1 w Q).mpr h)

/-! ### 49: lagoon/lagoonref01.Buffer -/
def f49.sh (Z : List PanicEntry → World → Prop) (x0 : Value) (w : World) (Q : Value → World → Prop) : Prop :=
  run1 Try.prog Z (Builtin.len_ #[22] 3 #[x0]) w fun t6_1 w =>
  run1 Try.prog Z (convert 3 21 t6_1) w fun t7_2 w =>
  CallV Try.prog Z 20 #[t7_2] w fun t8_3 w =>
  ∃ J_4 : Nat → Value → Value → World → Prop, (∃ m, J_4 m t8_3 (Value.int IntKind.i64 0) w) ∧
    ∀ m_4, ∀ t3_5 : Value, ∀ t4_6 : Value, ∀ w : World, J_4 m_4 t3_5 t4_6 w → Env →
      run1 Try.prog Z (Builtin.len_ #[22] 3 #[x0]) w fun t11_7 w =>
      run1 Try.prog Z (binOp BinOp.lss 3 t4_6 t11_7) w fun t12_8 w =>
      CondV t12_8 (
        run1 Try.prog Z (Instr.indexAt 22 x0 t4_6) w fun t18_9 w =>
        run1 Try.prog Z (Instr.loadAt 5 t18_9) w fun t19_10 w =>
        run1 Try.prog Z (Instr.buildSlice 22 1 #[(0, t19_10)]) w fun t20_11 w =>
        run1 Try.prog Z (Builtin.append_ #[22, 22] 22 #[t3_5, t20_11]) w fun t21_12 w =>
        run1 Try.prog Z (binOp BinOp.add 3 t4_6 (Value.int IntKind.i64 1)) w fun t14_13 w =>
        ∃ n_4, n_4 < m_4 ∧ J_4 n_4 t21_12 t14_13 w) (
        Q t3_5 w)
noncomputable def f49.code : Code := match Try.f49.body with | some c => c | none => .skip
def f49.an : An := (.sq .leaf (.sq .leaf (.sq (.sq .leaf (.bl (.lp [3, 4] [3, 4, 9, 10, 11, 12, 13, 14, 15, 16, 17, 18, 19, 20, 21] (.sq (.sq .leaf (.cn .leaf .leaf)) (.sq (.bl .leaf) .leaf))))) (.sq .leaf .leaf))))
theorem f49.body_eq : Try.f49.body = some f49.code := by kernel_rfl
theorem f49.shape (Z : List PanicEntry → World → Prop) (x0 : Value) (w : World) (Q : Value → World → Prop) : vc drawD Try.prog 23 Z [20] f49.an f49.code (fnQ Try.prog 23 Try.f49.results Q) (argEnv [x0]) w = f49.sh Z x0 w Q := by kernel_rfl
theorem f49.enters : ∀ f, f ∈ ([20] : List Nat) → Enters Try.prog f := by
  intro f hf
  simp only [List.mem_cons, List.not_mem_nil, or_false] at hf
  rcases hf with rfl
  · exact en20
theorem f49.calls {Z : List PanicEntry → World → Prop} {x0 : Value} {w : World} {Q : Value → World → Prop} (h : f49.sh Z x0 w Q) : CallV Try.prog Z 49 #[x0] w Q :=
  calls_of_vcn drawD_sound (Q := Q) (n := 23) (rs := Try.f49.results) (an := f49.an) (c := f49.code) (cal := [20]) (args := [x0]) Try.func49 (by kernel_rfl) rfl f49.body_eq follows (Nat.le_of_ble_eq_true (by kernel_rfl)) (enters_of_all f49.enters) ((f49.shape Z x0 w Q).mpr h)

/-! ### 50: lagoon/lagoonlaw01.spoil -/
def f50.sh (Z : List PanicEntry → World → Prop) (x0 : Value) (w : World) (Q : Value → World → Prop) : Prop :=
  ∃ J_1 : Nat → Value → World → Prop, (∃ m, J_1 m (Value.int IntKind.i64 0) w) ∧
    ∀ m_1, ∀ t2_2 : Value, ∀ w : World, J_1 m_1 t2_2 w → Env →
      run1 Try.prog Z (Builtin.len_ #[22] 3 #[x0]) w fun t5_3 w =>
      run1 Try.prog Z (binOp BinOp.lss 3 t2_2 t5_3) w fun t6_4 w =>
      CondV t6_4 (
        run1 Try.prog Z (binOp BinOp.rem 3 t2_2 (Value.int IntKind.i64 50)) w fun t12_5 w =>
        run1 Try.prog Z (binOp BinOp.add 3 (Value.int IntKind.i64 200) t12_5) w fun t13_6 w =>
        run1 Try.prog Z (convert 3 5 t13_6) w fun t14_7 w =>
        run1 Try.prog Z (Instr.indexAt 22 x0 t2_2) w fun t15_8 w =>
        run0 Try.prog Z (Instr.storeAt 5 t15_8 t14_7) w fun w =>
        run1 Try.prog Z (binOp BinOp.add 3 t2_2 (Value.int IntKind.i64 1)) w fun t8_9 w =>
        ∃ n_1, n_1 < m_1 ∧ J_1 n_1 t8_9 w) (
        Q (Value.tuple #[]) w)
noncomputable def f50.code : Code := match Try.f50.body with | some c => c | none => .skip
def f50.an : An := (.sq .leaf (.bl (.lp [2] [2, 3, 4, 5, 6, 7, 8, 9, 10, 11, 12, 13, 14, 15] (.sq (.sq .leaf (.cn .leaf .leaf)) (.sq (.bl .leaf) .leaf)))))
theorem f50.body_eq : Try.f50.body = some f50.code := by kernel_rfl
theorem f50.shape (Z : List PanicEntry → World → Prop) (x0 : Value) (w : World) (Q : Value → World → Prop) : vc drawD Try.prog 16 Z [] f50.an f50.code (fnQ Try.prog 16 Try.f50.results Q) (argEnv [x0]) w = f50.sh Z x0 w Q := by kernel_rfl
theorem f50.enters : ∀ f, f ∈ ([] : List Nat) → Enters Try.prog f := by
  intro f hf
  cases hf
theorem f50.calls {Z : List PanicEntry → World → Prop} {x0 : Value} {w : World} {Q : Value → World → Prop} (h : f50.sh Z x0 w Q) : CallV Try.prog Z 50 #[x0] w Q :=
  calls_of_vcn drawD_sound (Q := Q) (n := 16) (rs := Try.f50.results) (an := f50.an) (c := f50.code) (cal := []) (args := [x0]) Try.func50 (by kernel_rfl) rfl f50.body_eq follows (Nat.le_of_ble_eq_true (by kernel_rfl)) (enters_of_all f50.enters) ((f50.shape Z x0 w Q).mpr h)

/-! ### 51: (*lagoon/pack.Reader).Bool -/
def f51.sh (Z : List PanicEntry → World → Prop) (x0 : Value) (w : World) (Q : Value → World → Prop) : Prop :=
  CallV Try.prog Z 68 #[x0, (Value.int IntKind.i64 1)] w fun t7_1 w =>
  run1 Try.prog Z (Instr.extract t7_1 0) w fun t8_2 w =>
  run1 Try.prog Z (Instr.extract t7_1 1) w fun t9_3 w =>
  run1 Try.prog Z (Op.unary UnOp.not t9_3) w fun t11_4 w =>
  CondV t11_4 (
    Q (Value.bool false) w) (
    run1 Try.prog Z (Instr.indexAt 22 t8_2 (Value.int IntKind.i64 0)) w fun t13_5 w =>
    run1 Try.prog Z (Instr.loadAt 5 t13_5) w fun t14_6 w =>
    run1 Try.prog Z (binOp BinOp.gtr 5 t14_6 (Value.int IntKind.u8 1)) w fun t15_7 w =>
    CondV t15_7 (
      runX Try.prog Z (nilChk x0) w fun t17_8 w =>
      run1 Try.prog Z (Instr.fieldAt 82 t17_8 2) w fun t18_9 w =>
      run0 Try.prog Z (Instr.storeAt 51 t18_9 (Value.int IntKind.i64 12)) w fun w =>
      Q (Value.bool false) w) (
      runX Try.prog Z (nilChk x0) w fun t21_10 w =>
      run1 Try.prog Z (Instr.fieldAt 82 t21_10 1) w fun t22_11 w =>
      run1 Try.prog Z (Instr.loadAt 22 t22_11) w fun t23_12 w =>
      run1 Try.prog Z (Instr.sliceAt 22 t23_12 (some (Value.int IntKind.i64 1)) none none) w fun t24_13 w =>
      runX Try.prog Z (nilChk x0) w fun t25_14 w =>
      run1 Try.prog Z (Instr.fieldAt 82 t25_14 1) w fun t26_15 w =>
      run0 Try.prog Z (Instr.storeAt 22 t26_15 t24_13) w fun w =>
      run1 Try.prog Z (Instr.indexAt 22 t8_2 (Value.int IntKind.i64 0)) w fun t28_16 w =>
      run1 Try.prog Z (Instr.loadAt 5 t28_16) w fun t29_17 w =>
      run1 Try.prog Z (eqOp BinOp.eql 5 false true t29_17 (Value.int IntKind.u8 1)) w fun t30_18 w =>
      Q t30_18 w))
noncomputable def f51.code : Code := match Try.f51.body with | some c => c | none => .skip
def f51.an : An := (.sq .leaf (.sq .leaf (.sq (.sq .leaf (.cn (.sq .leaf .leaf) .leaf)) (.sq (.sq .leaf (.cn (.sq .leaf (.sq .leaf .leaf)) .leaf)) (.sq .leaf (.sq .leaf .leaf))))))
theorem f51.body_eq : Try.f51.body = some f51.code := by kernel_rfl
theorem f51.shape (Z : List PanicEntry → World → Prop) (x0 : Value) (w : World) (Q : Value → World → Prop) : vc drawD Try.prog 31 Z [68] f51.an f51.code (fnQ Try.prog 31 Try.f51.results Q) (argEnv [x0]) w = f51.sh Z x0 w Q := by kernel_rfl
theorem f51.enters : ∀ f, f ∈ ([68] : List Nat) → Enters Try.prog f := by
  intro f hf
  simp only [List.mem_cons, List.not_mem_nil, or_false] at hf
  rcases hf with rfl
  · exact en68
theorem f51.calls {Z : List PanicEntry → World → Prop} {x0 : Value} {w : World} {Q : Value → World → Prop} (h : f51.sh Z x0 w Q) : CallV Try.prog Z 51 #[x0] w Q :=
  calls_of_vcn drawD_sound (Q := Q) (n := 31) (rs := Try.f51.results) (an := f51.an) (c := f51.code) (cal := [68]) (args := [x0]) Try.func51 (by kernel_rfl) rfl f51.body_eq follows (Nat.le_of_ble_eq_true (by kernel_rfl)) (enters_of_all f51.enters) ((f51.shape Z x0 w Q).mpr h)

/-! ### 52: (*lagoon/pack.Reader).Int8 -/
def f52.sh (Z : List PanicEntry → World → Prop) (x0 : Value) (w : World) (Q : Value → World → Prop) : Prop :=
  CallV Try.prog Z 65 #[x0, (Value.int IntKind.i64 1)] w fun t4_1 w =>
  run1 Try.prog Z (convert 69 73 t4_1) w fun t5_2 w =>
  Q t5_2 w
noncomputable def f52.code : Code := match Try.f52.body with | some c => c | none => .skip
def f52.an : An := (.sq .leaf (.sq .leaf .leaf))
theorem f52.body_eq : Try.f52.body = some f52.code := by kernel_rfl
theorem f52.shape (Z : List PanicEntry → World → Prop) (x0 : Value) (w : World) (Q : Value → World → Prop) : vc drawD Try.prog 6 Z [65] f52.an f52.code (fnQ Try.prog 6 Try.f52.results Q) (argEnv [x0]) w = f52.sh Z x0 w Q := by kernel_rfl
theorem f52.enters : ∀ f, f ∈ ([65] : List Nat) → Enters Try.prog f := by
  intro f hf
  simp only [List.mem_cons, List.not_mem_nil, or_false] at hf
  rcases hf with rfl
  · exact en65
theorem f52.calls {Z : List PanicEntry → World → Prop} {x0 : Value} {w : World} {Q : Value → World → Prop} (h : f52.sh Z x0 w Q) : CallV Try.prog Z 52 #[x0] w Q :=
  calls_of_vcn drawD_sound (Q := Q) (n := 6) (rs := Try.f52.results) (an := f52.an) (c := f52.code) (cal := [65]) (args := [x0]) Try.func52 (by kernel_rfl) rfl f52.body_eq follows (Nat.le_of_ble_eq_true (by kernel_rfl)) (enters_of_all f52.enters) ((f52.shape Z x0 w Q).mpr h)

/-! ### 53: (*lagoon/pack.Reader).Uint32 -/
def f53.sh (Z : List PanicEntry → World → Prop) (x0 : Value) (w : World) (Q : Value → World → Prop) : Prop :=
  CallV Try.prog Z 65 #[x0, (Value.int IntKind.i64 4)] w fun t4_1 w =>
  run1 Try.prog Z (convert 69 25 t4_1) w fun t5_2 w =>
  Q t5_2 w
noncomputable def f53.code : Code := match Try.f53.body with | some c => c | none => .skip
def f53.an : An := (.sq .leaf (.sq .leaf .leaf))
theorem f53.body_eq : Try.f53.body = some f53.code := by kernel_rfl
theorem f53.shape (Z : List PanicEntry → World → Prop) (x0 : Value) (w : World) (Q : Value → World → Prop) : vc drawD Try.prog 6 Z [65] f53.an f53.code (fnQ Try.prog 6 Try.f53.results Q) (argEnv [x0]) w = f53.sh Z x0 w Q := by kernel_rfl
theorem f53.enters : ∀ f, f ∈ ([65] : List Nat) → Enters Try.prog f := by
  intro f hf
  simp only [List.mem_cons, List.not_mem_nil, or_false] at hf
  rcases hf with rfl
  · exact en65
theorem f53.calls {Z : List PanicEntry → World → Prop} {x0 : Value} {w : World} {Q : Value → World → Prop} (h : f53.sh Z x0 w Q) : CallV Try.prog Z 53 #[x0] w Q :=
  calls_of_vcn drawD_sound (Q := Q) (n := 6) (rs := Try.f53.results) (an := f53.an) (c := f53.code) (cal := [65]) (args := [x0]) Try.func53 (by kernel_rfl) rfl f53.body_eq follows (Nat.le_of_ble_eq_true (by kernel_rfl)) (enters_of_all f53.enters) ((f53.shape Z x0 w Q).mpr h)

/-! ### 54: (*lagoon/pack.Reader).Int64 -/
def f54.sh (Z : List PanicEntry → World → Prop) (x0 : Value) (w : World) (Q : Value → World → Prop) : Prop :=
  CallV Try.prog Z 65 #[x0, (Value.int IntKind.i64 8)] w fun t4_1 w =>
  run1 Try.prog Z (convert 69 2 t4_1) w fun t5_2 w =>
  Q t5_2 w
noncomputable def f54.code : Code := match Try.f54.body with | some c => c | none => .skip
def f54.an : An := (.sq .leaf (.sq .leaf .leaf))
theorem f54.body_eq : Try.f54.body = some f54.code := by kernel_rfl
theorem f54.shape (Z : List PanicEntry → World → Prop) (x0 : Value) (w : World) (Q : Value → World → Prop) : vc drawD Try.prog 6 Z [65] f54.an f54.code (fnQ Try.prog 6 Try.f54.results Q) (argEnv [x0]) w = f54.sh Z x0 w Q := by kernel_rfl
theorem f54.enters : ∀ f, f ∈ ([65] : List Nat) → Enters Try.prog f := by
  intro f hf
  simp only [List.mem_cons, List.not_mem_nil, or_false] at hf
  rcases hf with rfl
  · exact en65
theorem f54.calls {Z : List PanicEntry → World → Prop} {x0 : Value} {w : World} {Q : Value → World → Prop} (h : f54.sh Z x0 w Q) : CallV Try.prog Z 54 #[x0] w Q :=
  calls_of_vcn drawD_sound (Q := Q) (n := 6) (rs := Try.f54.results) (an := f54.an) (c := f54.code) (cal := [65]) (args := [x0]) Try.func54 (by kernel_rfl) rfl f54.body_eq follows (Nat.le_of_ble_eq_true (by kernel_rfl)) (enters_of_all f54.enters) ((f54.shape Z x0 w Q).mpr h)

/-! ### 55: (*lagoon/pack.Reader).Float -/
def f55.sh (Z : List PanicEntry → World → Prop) (x0 : Value) (w : World) (Q : Value → World → Prop) : Prop :=
  CallV Try.prog Z 61 #[x0] w fun t7_1 w =>
  CallV Try.prog Z 65 #[x0, (Value.int IntKind.i64 8)] w fun t9_2 w =>
  runX Try.prog Z (callFunc 69 #[t9_2]) w fun t11_3 w =>
  run1 Try.prog Z (eqOp BinOp.neq 44 false false t11_3 t11_3) w fun t14_4 w =>
  guardW (t14_4) true (fun k => k (t9_2) w) (fun t16_5 w =>
  guardW (t14_4) true (fun k => run1 Try.prog Z (eqOp BinOp.neq 69 false true t16_5 (Value.int IntKind.u64 9221120237041090560)) w k) (fun t17_6 w =>
  run1 Try.prog Z (pickV t14_4 t17_6 (Value.bool false)) w fun t18_7 w =>
  CondV t18_7 (
    CallV Try.prog Z 70 #[x0, t7_1, (Value.int IntKind.i64 12)] w fun t21_8 w =>
    Q (Value.float FloatKind.f64 0) w) (
    Q t11_3 w)) w) w
noncomputable def f55.code : Code := match Try.f55.body with | some c => c | none => .skip
def f55.an : An := (.sq .leaf (.sq .leaf (.sq .leaf (.sq .leaf (.sq (.sq .leaf (.cn (.sq .leaf (.sq .leaf .leaf)) .leaf)) (.sq .leaf .leaf))))))
theorem f55.body_eq : Try.f55.body = some f55.code := by kernel_rfl
theorem f55.shape (Z : List PanicEntry → World → Prop) (x0 : Value) (w : World) (Q : Value → World → Prop) : vc drawD Try.prog 23 Z [61, 65, 70] f55.an f55.code (fnQ Try.prog 23 Try.f55.results Q) (argEnv [x0]) w = f55.sh Z x0 w Q := by kernel_rfl
theorem f55.enters : ∀ f, f ∈ ([61, 65, 70] : List Nat) → Enters Try.prog f := by
  intro f hf
  simp only [List.mem_cons, List.not_mem_nil, or_false] at hf
  rcases hf with rfl | rfl | rfl
  · exact en61
  · exact en65
  · exact en70
theorem f55.calls {Z : List PanicEntry → World → Prop} {x0 : Value} {w : World} {Q : Value → World → Prop} (h : f55.sh Z x0 w Q) : CallV Try.prog Z 55 #[x0] w Q :=
  calls_of_vcn drawD_sound (Q := Q) (n := 23) (rs := Try.f55.results) (an := f55.an) (c := f55.code) (cal := [61, 65, 70]) (args := [x0]) Try.func55 (by kernel_rfl) rfl f55.body_eq follows (Nat.le_of_ble_eq_true (by kernel_rfl)) (enters_of_all f55.enters) ((f55.shape Z x0 w Q).mpr h)

/-! ### 56: (*lagoon/pack.Reader).Text -/
def f56.sh (Z : List PanicEntry → World → Prop) (x0 x1 : Value) (w : World) (Q : Value → World → Prop) : Prop :=
  CallV Try.prog Z 71 #[x0, x1] w fun t7_1 w =>
  run1 Try.prog Z (convert 22 9 t7_1) w fun t8_2 w =>
  Q t8_2 w
noncomputable def f56.code : Code := match Try.f56.body with | some c => c | none => .skip
def f56.an : An := (.sq .leaf (.sq .leaf .leaf))
theorem f56.body_eq : Try.f56.body = some f56.code := by kernel_rfl
theorem f56.shape (Z : List PanicEntry → World → Prop) (x0 x1 : Value) (w : World) (Q : Value → World → Prop) : vc drawD Try.prog 9 Z [71] f56.an f56.code (fnQ Try.prog 9 Try.f56.results Q) (argEnv [x0, x1]) w = f56.sh Z x0 x1 w Q := by kernel_rfl
theorem f56.enters : ∀ f, f ∈ ([71] : List Nat) → Enters Try.prog f := by
  intro f hf
  simp only [List.mem_cons, List.not_mem_nil, or_false] at hf
  rcases hf with rfl
  · exact en71
theorem f56.calls {Z : List PanicEntry → World → Prop} {x0 x1 : Value} {w : World} {Q : Value → World → Prop} (h : f56.sh Z x0 x1 w Q) : CallV Try.prog Z 56 #[x0, x1] w Q :=
  calls_of_vcn drawD_sound (Q := Q) (n := 9) (rs := Try.f56.results) (an := f56.an) (c := f56.code) (cal := [71]) (args := [x0, x1]) Try.func56 (by kernel_rfl) rfl f56.body_eq follows (Nat.le_of_ble_eq_true (by kernel_rfl)) (enters_of_all f56.enters) ((f56.shape Z x0 x1 w Q).mpr h)

/-! ### 57: lagoon/lagoonlaw01.bound -/
def f57.sh (Z : List PanicEntry → World → Prop) (x0 : Value) (w : World) (Q : Value → World → Prop) : Prop :=
  Q x0 w
noncomputable def f57.code : Code := match Try.f57.body with | some c => c | none => .skip
def f57.an : An := (.sq .leaf (.sq .leaf .leaf))
theorem f57.body_eq : Try.f57.body = some f57.code := by kernel_rfl
theorem f57.shape (Z : List PanicEntry → World → Prop) (x0 : Value) (w : World) (Q : Value → World → Prop) : vc drawD Try.prog 4 Z [] f57.an f57.code (fnQ Try.prog 4 Try.f57.results Q) (argEnv [x0]) w = f57.sh Z x0 w Q := by kernel_rfl
theorem f57.enters : ∀ f, f ∈ ([] : List Nat) → Enters Try.prog f := by
  intro f hf
  cases hf
theorem f57.calls {Z : List PanicEntry → World → Prop} {x0 : Value} {w : World} {Q : Value → World → Prop} (h : f57.sh Z x0 w Q) : CallV Try.prog Z 57 #[x0] w Q :=
  calls_of_vcn drawD_sound (Q := Q) (n := 4) (rs := Try.f57.results) (an := f57.an) (c := f57.code) (cal := []) (args := [x0]) Try.func57 (by kernel_rfl) rfl f57.body_eq follows (Nat.le_of_ble_eq_true (by kernel_rfl)) (enters_of_all f57.enters) ((f57.shape Z x0 w Q).mpr h)

/-! ### 58: (*lagoon/pack.Reader).Buffer -/
def f58.sh (Z : List PanicEntry → World → Prop) (x0 x1 : Value) (w : World) (Q : Value → World → Prop) : Prop :=
  CallV Try.prog Z 71 #[x0, x1] w fun t7_1 w =>
  run1 Try.prog Z (Builtin.append_ #[22, 22] 22 #[(Value.slice none 0 0), t7_1]) w fun t8_2 w =>
  Q t8_2 w
noncomputable def f58.code : Code := match Try.f58.body with | some c => c | none => .skip
def f58.an : An := (.sq .leaf (.sq .leaf .leaf))
theorem f58.body_eq : Try.f58.body = some f58.code := by kernel_rfl
theorem f58.shape (Z : List PanicEntry → World → Prop) (x0 x1 : Value) (w : World) (Q : Value → World → Prop) : vc drawD Try.prog 9 Z [71] f58.an f58.code (fnQ Try.prog 9 Try.f58.results Q) (argEnv [x0, x1]) w = f58.sh Z x0 x1 w Q := by kernel_rfl
theorem f58.enters : ∀ f, f ∈ ([71] : List Nat) → Enters Try.prog f := by
  intro f hf
  simp only [List.mem_cons, List.not_mem_nil, or_false] at hf
  rcases hf with rfl
  · exact en71
theorem f58.calls {Z : List PanicEntry → World → Prop} {x0 x1 : Value} {w : World} {Q : Value → World → Prop} (h : f58.sh Z x0 x1 w Q) : CallV Try.prog Z 58 #[x0, x1] w Q :=
  calls_of_vcn drawD_sound (Q := Q) (n := 9) (rs := Try.f58.results) (an := f58.an) (c := f58.code) (cal := [71]) (args := [x0, x1]) Try.func58 (by kernel_rfl) rfl f58.body_eq follows (Nat.le_of_ble_eq_true (by kernel_rfl)) (enters_of_all f58.enters) ((f58.shape Z x0 x1 w Q).mpr h)

/-! ### 59: (*lagoon/pack.Reader).Raw -/
def f59.sh (Z : List PanicEntry → World → Prop) (x0 x1 : Value) (w : World) (Q : Value → World → Prop) : Prop :=
  CallV Try.prog Z 62 #[x0] w fun t8_1 w =>
  guardW (t8_1) true (fun k => k (x1) w) (fun t10_2 w =>
  guardW (t8_1) true (fun k => run1 Try.prog Z (binOp BinOp.lss 3 t10_2 (Value.int IntKind.i64 0)) w k) (fun t11_3 w =>
  run1 Try.prog Z (pickV t8_1 t11_3 (Value.bool false)) w fun t12_4 w =>
  CondV t12_4 (
    runX Try.prog Z (nilChk x0) w fun t14_5 w =>
    run1 Try.prog Z (Instr.fieldAt 82 t14_5 2) w fun t15_6 w =>
    run0 Try.prog Z (Instr.storeAt 51 t15_6 (Value.int IntKind.i64 11)) w fun w =>
    Q (Value.slice none 0 0) w) (
    CallV Try.prog Z 68 #[x0, x1] w fun t19_7 w =>
    run1 Try.prog Z (Instr.extract t19_7 0) w fun t20_8 w =>
    run1 Try.prog Z (Instr.extract t19_7 1) w fun t21_9 w =>
    run1 Try.prog Z (Op.unary UnOp.not t21_9) w fun t23_10 w =>
    CondV t23_10 (
      Q (Value.slice none 0 0) w) (
      runX Try.prog Z (nilChk x0) w fun t26_11 w =>
      run1 Try.prog Z (Instr.fieldAt 82 t26_11 1) w fun t27_12 w =>
      run1 Try.prog Z (Instr.loadAt 22 t27_12) w fun t28_13 w =>
      run1 Try.prog Z (Instr.sliceAt 22 t28_13 (some x1) none none) w fun t30_14 w =>
      runX Try.prog Z (nilChk x0) w fun t31_15 w =>
      run1 Try.prog Z (Instr.fieldAt 82 t31_15 1) w fun t32_16 w =>
      run0 Try.prog Z (Instr.storeAt 22 t32_16 t30_14) w fun w =>
      run1 Try.prog Z (Builtin.append_ #[22, 22] 22 #[(Value.slice none 0 0), t20_8]) w fun t34_17 w =>
      Q t34_17 w))) w) w
noncomputable def f59.code : Code := match Try.f59.body with | some c => c | none => .skip
def f59.an : An := (.sq .leaf (.sq (.sq .leaf (.cn (.sq .leaf (.sq .leaf .leaf)) .leaf)) (.sq .leaf (.sq (.sq .leaf (.cn (.sq .leaf .leaf) .leaf)) (.sq .leaf (.sq .leaf .leaf))))))
theorem f59.body_eq : Try.f59.body = some f59.code := by kernel_rfl
theorem f59.shape (Z : List PanicEntry → World → Prop) (x0 x1 : Value) (w : World) (Q : Value → World → Prop) : vc drawD Try.prog 35 Z [62, 68] f59.an f59.code (fnQ Try.prog 35 Try.f59.results Q) (argEnv [x0, x1]) w = f59.sh Z x0 x1 w Q := by kernel_rfl
theorem f59.enters : ∀ f, f ∈ ([62, 68] : List Nat) → Enters Try.prog f := by
  intro f hf
  simp only [List.mem_cons, List.not_mem_nil, or_false] at hf
  rcases hf with rfl | rfl
  · exact en62
  · exact en68
theorem f59.calls {Z : List PanicEntry → World → Prop} {x0 x1 : Value} {w : World} {Q : Value → World → Prop} (h : f59.sh Z x0 x1 w Q) : CallV Try.prog Z 59 #[x0, x1] w Q :=
  calls_of_vcn drawD_sound (Q := Q) (n := 35) (rs := Try.f59.results) (an := f59.an) (c := f59.code) (cal := [62, 68]) (args := [x0, x1]) Try.func59 (by kernel_rfl) rfl f59.body_eq follows (Nat.le_of_ble_eq_true (by kernel_rfl)) (enters_of_all f59.enters) ((f59.shape Z x0 x1 w Q).mpr h)

/-! ### 60: lagoon/lagoonref00.EqFloats -/
def f60.sh (Z : List PanicEntry → World → Prop) (x0 x1 : Value) (w : World) (Q : Value → World → Prop) : Prop :=
  run1 Try.prog Z (eqOp BinOp.neq 44 false false x0 x0) w fun t7_1 w =>
  guardW (t7_1) false (fun k => k (x1) w) (fun t9_2 w =>
  guardW (t7_1) false (fun k => k (x1) w) (fun t10_3 w =>
  guardW (t7_1) false (fun k => run1 Try.prog Z (eqOp BinOp.neq 44 false false t9_2 t10_3) w k) (fun t11_4 w =>
  run1 Try.prog Z (pickV t7_1 (Value.bool true) t11_4) w fun t12_5 w =>
  CondV t12_5 (
    run1 Try.prog Z (eqOp BinOp.neq 44 false false x0 x0) w fun t15_6 w =>
    guardW (t15_6) true (fun k => k (x1) w) (fun t17_7 w =>
    guardW (t15_6) true (fun k => k (x1) w) (fun t18_8 w =>
    guardW (t15_6) true (fun k => run1 Try.prog Z (eqOp BinOp.neq 44 false false t17_7 t18_8) w k) (fun t19_9 w =>
    run1 Try.prog Z (pickV t15_6 t19_9 (Value.bool false)) w fun t20_10 w =>
    Q t20_10 w) w) w) w) (
    run1 Try.prog Z (eqOp BinOp.eql 44 false false x0 x1) w fun t23_11 w =>
    guardW (t23_11) true (fun k => k (x0) w) (fun t25_12 w =>
    guardW (t23_11) true (fun k => run1 Try.prog Z (eqOp BinOp.neq 44 false true t25_12 (Value.float FloatKind.f64 0)) w k) (fun t26_13 w =>
    guardW (t23_11) true (fun k => k (t26_13) w) (fun t27_14 w =>
    guardW (t27_14) false (fun k => k (x0) w) (fun t28_15 w =>
    guardW (t27_14) false (fun k => run1 Try.prog Z (binOp BinOp.quo 44 (Value.float FloatKind.f64 4607182418800017408) t28_15) w k) (fun t29_16 w =>
    guardW (t27_14) false (fun k => k (x1) w) (fun t30_17 w =>
    guardW (t27_14) false (fun k => run1 Try.prog Z (binOp BinOp.quo 44 (Value.float FloatKind.f64 4607182418800017408) t30_17) w k) (fun t31_18 w =>
    guardW (t27_14) false (fun k => run1 Try.prog Z (eqOp BinOp.eql 44 false false t29_16 t31_18) w k) (fun t32_19 w =>
    guardW (t23_11) true (fun k => run1 Try.prog Z (pickV t27_14 (Value.bool true) t32_19) w k) (fun t33_20 w =>
    run1 Try.prog Z (pickV t23_11 t33_20 (Value.bool false)) w fun t34_21 w =>
    Q t34_21 w) w) w) w) w) w) w) w) w) w)) w) w) w
noncomputable def f60.code : Code := match Try.f60.body with | some c => c | none => .skip
def f60.an : An := (.sq .leaf (.sq (.sq .leaf (.cn (.sq .leaf .leaf) .leaf)) (.sq .leaf .leaf)))
theorem f60.body_eq : Try.f60.body = some f60.code := by kernel_rfl
theorem f60.shape (Z : List PanicEntry → World → Prop) (x0 x1 : Value) (w : World) (Q : Value → World → Prop) : vc drawD Try.prog 35 Z [] f60.an f60.code (fnQ Try.prog 35 Try.f60.results Q) (argEnv [x0, x1]) w = f60.sh Z x0 x1 w Q := by kernel_rfl
theorem f60.enters : ∀ f, f ∈ ([] : List Nat) → Enters Try.prog f := by
  intro f hf
  cases hf
theorem f60.calls {Z : List PanicEntry → World → Prop} {x0 x1 : Value} {w : World} {Q : Value → World → Prop} (h : f60.sh Z x0 x1 w Q) : CallV Try.prog Z 60 #[x0, x1] w Q :=
  calls_of_vcn drawD_sound (Q := Q) (n := 35) (rs := Try.f60.results) (an := f60.an) (c := f60.code) (cal := []) (args := [x0, x1]) Try.func60 (by kernel_rfl) rfl f60.body_eq follows (Nat.le_of_ble_eq_true (by kernel_rfl)) (enters_of_all f60.enters) ((f60.shape Z x0 x1 w Q).mpr h)

/-! ### 61: (*lagoon/pack.Reader).mark -/
def f61.sh (Z : List PanicEntry → World → Prop) (x0 : Value) (w : World) (Q : Value → World → Prop) : Prop :=
  CallV Try.prog Z 63 #[x0] w fun t4_1 w =>
  CondV t4_1 (
    Q (Value.slice none 0 0) w) (
    runX Try.prog Z (nilChk x0) w fun t6_2 w =>
    run1 Try.prog Z (Instr.fieldAt 82 t6_2 1) w fun t7_3 w =>
    run1 Try.prog Z (Instr.loadAt 22 t7_3) w fun t8_4 w =>
    Q t8_4 w)
noncomputable def f61.code : Code := match Try.f61.body with | some c => c | none => .skip
def f61.an : An := (.sq .leaf (.sq (.sq .leaf (.cn (.sq .leaf .leaf) .leaf)) (.sq .leaf .leaf)))
theorem f61.body_eq : Try.f61.body = some f61.code := by kernel_rfl
theorem f61.shape (Z : List PanicEntry → World → Prop) (x0 : Value) (w : World) (Q : Value → World → Prop) : vc drawD Try.prog 9 Z [63] f61.an f61.code (fnQ Try.prog 9 Try.f61.results Q) (argEnv [x0]) w = f61.sh Z x0 w Q := by kernel_rfl
theorem f61.enters : ∀ f, f ∈ ([63] : List Nat) → Enters Try.prog f := by
  intro f hf
  simp only [List.mem_cons, List.not_mem_nil, or_false] at hf
  rcases hf with rfl
  · exact en63
theorem f61.calls {Z : List PanicEntry → World → Prop} {x0 : Value} {w : World} {Q : Value → World → Prop} (h : f61.sh Z x0 w Q) : CallV Try.prog Z 61 #[x0] w Q :=
  calls_of_vcn drawD_sound (Q := Q) (n := 9) (rs := Try.f61.results) (an := f61.an) (c := f61.code) (cal := [63]) (args := [x0]) Try.func61 (by kernel_rfl) rfl f61.body_eq follows (Nat.le_of_ble_eq_true (by kernel_rfl)) (enters_of_all f61.enters) ((f61.shape Z x0 w Q).mpr h)

/-! ### 62: (*lagoon/pack.Reader).open -/
def f62.sh (Z : List PanicEntry → World → Prop) (x0 : Value) (w : World) (Q : Value → World → Prop) : Prop :=
  CallV Try.prog Z 63 #[x0] w fun t4_1 w =>
  run1 Try.prog Z (Op.unary UnOp.not t4_1) w fun t5_2 w =>
  guardW (t5_2) true (fun k => k (x0) w) (fun t7_3 w =>
  guardW (t5_2) true (fun k => runX Try.prog Z (nilChk t7_3) w k) (fun t8_4 w =>
  guardW (t5_2) true (fun k => run1 Try.prog Z (Instr.fieldAt 82 t8_4 2) w k) (fun t9_5 w =>
  guardW (t5_2) true (fun k => run1 Try.prog Z (Instr.loadAt 51 t9_5) w k) (fun t10_6 w =>
  guardW (t5_2) true (fun k => run1 Try.prog Z (eqOp BinOp.eql 51 false true t10_6 (Value.int IntKind.i64 0)) w k) (fun t11_7 w =>
  run1 Try.prog Z (pickV t5_2 t11_7 (Value.bool false)) w fun t12_8 w =>
  Q t12_8 w) w) w) w) w) w
noncomputable def f62.code : Code := match Try.f62.body with | some c => c | none => .skip
def f62.an : An := (.sq .leaf (.sq .leaf .leaf))
theorem f62.body_eq : Try.f62.body = some f62.code := by kernel_rfl
theorem f62.shape (Z : List PanicEntry → World → Prop) (x0 : Value) (w : World) (Q : Value → World → Prop) : vc drawD Try.prog 13 Z [63] f62.an f62.code (fnQ Try.prog 13 Try.f62.results Q) (argEnv [x0]) w = f62.sh Z x0 w Q := by kernel_rfl
theorem f62.enters : ∀ f, f ∈ ([63] : List Nat) → Enters Try.prog f := by
  intro f hf
  simp only [List.mem_cons, List.not_mem_nil, or_false] at hf
  rcases hf with rfl
  · exact en63
theorem f62.calls {Z : List PanicEntry → World → Prop} {x0 : Value} {w : World} {Q : Value → World → Prop} (h : f62.sh Z x0 w Q) : CallV Try.prog Z 62 #[x0] w Q :=
  calls_of_vcn drawD_sound (Q := Q) (n := 13) (rs := Try.f62.results) (an := f62.an) (c := f62.code) (cal := [63]) (args := [x0]) Try.func62 (by kernel_rfl) rfl f62.body_eq follows (Nat.le_of_ble_eq_true (by kernel_rfl)) (enters_of_all f62.enters) ((f62.shape Z x0 w Q).mpr h)

/-! ### 63: (*lagoon/pack.Reader).none -/
def f63.sh (Z : List PanicEntry → World → Prop) (x0 : Value) (w : World) (Q : Value → World → Prop) : Prop :=
  run1 Try.prog Z (eqOp BinOp.eql 49 false true x0 (Value.pointer none)) w fun t4_1 w =>
  guardW (t4_1) false (fun k => k (x0) w) (fun t6_2 w =>
  guardW (t4_1) false (fun k => runX Try.prog Z (nilChk t6_2) w k) (fun t7_3 w =>
  guardW (t4_1) false (fun k => run1 Try.prog Z (Instr.fieldAt 82 t7_3 0) w k) (fun t8_4 w =>
  guardW (t4_1) false (fun k => run1 Try.prog Z (Instr.loadAt 4 t8_4) w k) (fun t9_5 w =>
  guardW (t4_1) false (fun k => run1 Try.prog Z (Op.unary UnOp.not t9_5) w k) (fun t10_6 w =>
  run1 Try.prog Z (pickV t4_1 (Value.bool true) t10_6) w fun t11_7 w =>
  Q t11_7 w) w) w) w) w) w
noncomputable def f63.code : Code := match Try.f63.body with | some c => c | none => .skip
def f63.an : An := (.sq .leaf (.sq .leaf .leaf))
theorem f63.body_eq : Try.f63.body = some f63.code := by kernel_rfl
theorem f63.shape (Z : List PanicEntry → World → Prop) (x0 : Value) (w : World) (Q : Value → World → Prop) : vc drawD Try.prog 12 Z [] f63.an f63.code (fnQ Try.prog 12 Try.f63.results Q) (argEnv [x0]) w = f63.sh Z x0 w Q := by kernel_rfl
theorem f63.enters : ∀ f, f ∈ ([] : List Nat) → Enters Try.prog f := by
  intro f hf
  cases hf
theorem f63.calls {Z : List PanicEntry → World → Prop} {x0 : Value} {w : World} {Q : Value → World → Prop} (h : f63.sh Z x0 w Q) : CallV Try.prog Z 63 #[x0] w Q :=
  calls_of_vcn drawD_sound (Q := Q) (n := 12) (rs := Try.f63.results) (an := f63.an) (c := f63.code) (cal := []) (args := [x0]) Try.func63 (by kernel_rfl) rfl f63.body_eq follows (Nat.le_of_ble_eq_true (by kernel_rfl)) (enters_of_all f63.enters) ((f63.shape Z x0 w Q).mpr h)

/-! ### 64: (*lagoon/pack.Writer).whole -/
def f64.sh (Z : List PanicEntry → World → Prop) (x0 x1 x2 : Value) (w : World) (Q : Value → World → Prop) : Prop :=
  run1 Try.prog Z (eqOp BinOp.eql 31 false true x0 (Value.pointer none)) w fun t8_1 w =>
  CondV t8_1 (
    Q (Value.tuple #[]) w) (
    run1 Try.prog Z (binOp BinOp.sub 3 x2 (Value.int IntKind.i64 1)) w fun t10_2 w =>
    ∃ J_3 : Nat → Value → World → Prop, (∃ m, J_3 m t10_2 w) ∧
      ∀ m_3, ∀ t6_4 : Value, ∀ w : World, J_3 m_3 t6_4 w → Env →
        run1 Try.prog Z (binOp BinOp.geq 3 t6_4 (Value.int IntKind.i64 0)) w fun t12_5 w =>
        CondV t12_5 (
          Drawn w fun w =>
          PureV Try.prog (nilChk x0) fun t17_6 =>
          Pure1 Try.prog (Instr.fieldAt 33 t17_6 0) fun t18_7 =>
          Read1 Try.prog (Instr.loadAt 22 t18_7) w fun t19_8 =>
          Pure1 Try.prog (binOp BinOp.mul 3 (Value.int IntKind.i64 8) t6_4) fun t22_9 =>
          Pure1 Try.prog (binOp BinOp.shr 69 x1 t22_9) fun t23_10 =>
          Pure1 Try.prog (convert 69 5 t23_10) fun t24_11 =>
          run1 Try.prog Z (Instr.buildSlice 22 1 #[(0, t24_11)]) w fun t25_12 w =>
            Still Try.prog (nx (Instr.loadAt 22 t18_7)) t19_8 w <|
          run1 Try.prog Z (Builtin.append_ #[22, 22] 22 #[t19_8, t25_12]) w fun t26_13 w =>
          PureV Try.prog (nilChk x0) fun t27_14 =>
          Pure1 Try.prog (Instr.fieldAt 33 t27_14 0) fun t28_15 =>
          run0 Try.prog Z (Instr.storeAt 22 t28_15 t26_13) w fun w =>
          run1 Try.prog Z (binOp BinOp.sub 3 t6_4 (Value.int IntKind.i64 1)) w fun t14_16 w =>
          ∃ n_3, n_3 < m_3 ∧ J_3 n_3 t14_16 w) (
          Q (Value.tuple #[]) w))
noncomputable def f64.code : Code := match Try.f64.body with | some c => c | none => .skip
def f64.an : An := (.sq (.sq .leaf (.cn .leaf .leaf)) (.sq .leaf (.bl (.lp [6] [6, 11, 12, 13, 14, 15, 16, 17, 18, 19, 20, 21, 22, 23, 24, 25, 26, 27, 28] (.sq (.sq .leaf (.cn .leaf .leaf)) (.sq (.bl (.dr (.take 0 false (.take 1 false (.take 2 false (.take 3 false (.take 4 true (.take 5 false (.take 6 false (.take 7 false (.take 8 false (.take 9 false (.one 10 (.one 11 (.take 12 false (.take 13 false (.one 14 .fin))))))))))))))))) .leaf))))))
theorem f64.body_eq : Try.f64.body = some f64.code := by kernel_rfl
theorem f64.shape (Z : List PanicEntry → World → Prop) (x0 x1 x2 : Value) (w : World) (Q : Value → World → Prop) : vc drawD Try.prog 29 Z [] f64.an f64.code (fnQ Try.prog 29 Try.f64.results Q) (argEnv [x0, x1, x2]) w = f64.sh Z x0 x1 x2 w Q := by kernel_rfl
theorem f64.enters : ∀ f, f ∈ ([] : List Nat) → Enters Try.prog f := by
  intro f hf
  cases hf
theorem f64.calls {Z : List PanicEntry → World → Prop} {x0 x1 x2 : Value} {w : World} {Q : Value → World → Prop} (h : f64.sh Z x0 x1 x2 w Q) : CallV Try.prog Z 64 #[x0, x1, x2] w Q :=
  calls_of_vcn drawD_sound (Q := Q) (n := 29) (rs := Try.f64.results) (an := f64.an) (c := f64.code) (cal := []) (args := [x0, x1, x2]) Try.func64 (by kernel_rfl) rfl f64.body_eq follows (Nat.le_of_ble_eq_true (by kernel_rfl)) (enters_of_all f64.enters) ((f64.shape Z x0 x1 x2 w Q).mpr h)

/-! ### 65: (*lagoon/pack.Reader).whole -/
def f65.sh (Z : List PanicEntry → World → Prop) (x0 x1 : Value) (w : World) (Q : Value → World → Prop) : Prop :=
  CallV Try.prog Z 68 #[x0, x1] w fun t13_1 w =>
  run1 Try.prog Z (Instr.extract t13_1 0) w fun t14_2 w =>
  run1 Try.prog Z (Instr.extract t13_1 1) w fun t15_3 w =>
  run1 Try.prog Z (Op.unary UnOp.not t15_3) w fun t17_4 w =>
  CondV t17_4 (
    Q (Value.int IntKind.u64 0) w) (
    run1 Try.prog Z (Builtin.len_ #[22] 3 #[t14_2]) w fun t19_5 w =>
    ∃ J_6 : Nat → Value → Value → World → Prop, (∃ m, J_6 m (Value.int IntKind.u64 0) (Value.int IntKind.i64 0) w) ∧
      ∀ m_6, ∀ t7_7 : Value, ∀ t20_8 : Value, ∀ w : World, J_6 m_6 t7_7 t20_8 w → Env →
        run1 Try.prog Z (binOp BinOp.lss 3 t20_8 t19_5) w fun t21_9 w =>
        CondV t21_9 (
          run1 Try.prog Z (Instr.indexAt 22 t14_2 t20_8) w fun t22_10 w =>
          run1 Try.prog Z (Instr.loadAt 5 t22_10) w fun t23_11 w =>
          run1 Try.prog Z (binOp BinOp.shl 69 t7_7 (Value.int IntKind.u64 8)) w fun t25_12 w =>
          run1 Try.prog Z (convert 5 69 t23_11) w fun t27_13 w =>
          run1 Try.prog Z (binOp BinOp.or 69 t25_12 t27_13) w fun t28_14 w =>
          run1 Try.prog Z (binOp BinOp.add 3 t20_8 (Value.int IntKind.i64 1)) w fun t29_15 w =>
          ∃ n_6, n_6 < m_6 ∧ J_6 n_6 t28_14 t29_15 w) (
          runX Try.prog Z (nilChk x0) w fun t32_16 w =>
          run1 Try.prog Z (Instr.fieldAt 82 t32_16 1) w fun t33_17 w =>
          run1 Try.prog Z (Instr.loadAt 22 t33_17) w fun t34_18 w =>
          run1 Try.prog Z (Instr.sliceAt 22 t34_18 (some x1) none none) w fun t36_19 w =>
          runX Try.prog Z (nilChk x0) w fun t37_20 w =>
          run1 Try.prog Z (Instr.fieldAt 82 t37_20 1) w fun t38_21 w =>
          run0 Try.prog Z (Instr.storeAt 22 t38_21 t36_19) w fun w =>
          Q t7_7 w))
noncomputable def f65.code : Code := match Try.f65.body with | some c => c | none => .skip
def f65.an : An := (.sq .leaf (.sq .leaf (.sq (.sq .leaf (.cn (.sq .leaf .leaf) .leaf)) (.sq .leaf (.sq (.sq .leaf (.bl (.lp [7, 20] [7, 9, 20, 21, 22, 23, 24, 25, 26, 27, 28, 29] (.sq .leaf (.sq (.cn .leaf .leaf) (.sq (.bl (.sq .leaf .leaf)) .leaf)))))) (.sq .leaf (.sq .leaf .leaf)))))))
theorem f65.body_eq : Try.f65.body = some f65.code := by kernel_rfl
theorem f65.shape (Z : List PanicEntry → World → Prop) (x0 x1 : Value) (w : World) (Q : Value → World → Prop) : vc drawD Try.prog 40 Z [68] f65.an f65.code (fnQ Try.prog 40 Try.f65.results Q) (argEnv [x0, x1]) w = f65.sh Z x0 x1 w Q := by kernel_rfl
theorem f65.enters : ∀ f, f ∈ ([68] : List Nat) → Enters Try.prog f := by
  intro f hf
  simp only [List.mem_cons, List.not_mem_nil, or_false] at hf
  rcases hf with rfl
  · exact en68
theorem f65.calls {Z : List PanicEntry → World → Prop} {x0 x1 : Value} {w : World} {Q : Value → World → Prop} (h : f65.sh Z x0 x1 w Q) : CallV Try.prog Z 65 #[x0, x1] w Q :=
  calls_of_vcn drawD_sound (Q := Q) (n := 40) (rs := Try.f65.results) (an := f65.an) (c := f65.code) (cal := [68]) (args := [x0, x1]) Try.func65 (by kernel_rfl) rfl f65.body_eq follows (Nat.le_of_ble_eq_true (by kernel_rfl)) (enters_of_all f65.enters) ((f65.shape Z x0 x1 w Q).mpr h)

/-! ### 66: lagoon/pack.bits -/
def f66.sh (Z : List PanicEntry → World → Prop) (x0 : Value) (w : World) (Q : Value → World → Prop) : Prop :=
  run1 Try.prog Z (eqOp BinOp.neq 44 false false x0 x0) w fun t5_1 w =>
  CondV t5_1 (
    Q (Value.int IntKind.u64 9221120237041090560) w) (
    runX Try.prog Z (callFunc 72 #[x0]) w fun t7_2 w =>
    Q t7_2 w)
noncomputable def f66.code : Code := match Try.f66.body with | some c => c | none => .skip
def f66.an : An := (.sq .leaf (.sq (.sq .leaf (.cn (.sq .leaf .leaf) .leaf)) (.sq .leaf .leaf)))
theorem f66.body_eq : Try.f66.body = some f66.code := by kernel_rfl
theorem f66.shape (Z : List PanicEntry → World → Prop) (x0 : Value) (w : World) (Q : Value → World → Prop) : vc drawD Try.prog 8 Z [] f66.an f66.code (fnQ Try.prog 8 Try.f66.results Q) (argEnv [x0]) w = f66.sh Z x0 w Q := by kernel_rfl
theorem f66.enters : ∀ f, f ∈ ([] : List Nat) → Enters Try.prog f := by
  intro f hf
  cases hf
theorem f66.calls {Z : List PanicEntry → World → Prop} {x0 : Value} {w : World} {Q : Value → World → Prop} (h : f66.sh Z x0 w Q) : CallV Try.prog Z 66 #[x0] w Q :=
  calls_of_vcn drawD_sound (Q := Q) (n := 8) (rs := Try.f66.results) (an := f66.an) (c := f66.code) (cal := []) (args := [x0]) Try.func66 (by kernel_rfl) rfl f66.body_eq follows (Nat.le_of_ble_eq_true (by kernel_rfl)) (enters_of_all f66.enters) ((f66.shape Z x0 w Q).mpr h)

/-! ### 67: lagoon/lagoonref01.Bits -/
def f67.sh (Z : List PanicEntry → World → Prop) (x0 : Value) (w : World) (Q : Value → World → Prop) : Prop :=
  run1 Try.prog Z (eqOp BinOp.neq 44 false false x0 x0) w fun t7_1 w =>
  CondV t7_1 (
    Q (Value.int IntKind.u64 9221120237041090560) w) (
    ∀ j_2 : Value → Value → World → Prop, (∀ t0_3 : Value, ∀ t3_4 : Value, ∀ w : World, (Env →
        run1 Try.prog Z (eqOp BinOp.eql 44 false true t0_3 (Value.float FloatKind.f64 0)) w fun t22_5 w =>
        CondV t22_5 (
          Q t3_4 w) (
          run1 Try.prog Z (binOp BinOp.mul 44 t0_3 (Value.float FloatKind.f64 4611686018427387904)) w fun t25_6 w =>
          run1 Try.prog Z (eqOp BinOp.eql 44 false false t25_6 t0_3) w fun t27_7 w =>
          CondV t27_7 (
            run1 Try.prog Z (binOp BinOp.add 69 t3_4 (Value.int IntKind.u64 9218868437227405312)) w fun t29_8 w =>
            Q t29_8 w) (
            ∃ J_9 : Nat → Value → Value → World → Prop, (∃ m, J_9 m t0_3 (Value.int IntKind.i64 0) w) ∧
              ∀ m_9, ∀ t0_10 : Value, ∀ t4_11 : Value, ∀ w : World, J_9 m_9 t0_10 t4_11 w → Env →
                run1 Try.prog Z (binOp BinOp.geq 44 t0_10 (Value.float FloatKind.f64 4611686018427387904)) w fun t31_12 w =>
                CondV t31_12 (
                  run1 Try.prog Z (binOp BinOp.quo 44 t0_10 (Value.float FloatKind.f64 4611686018427387904)) w fun t33_13 w =>
                  run1 Try.prog Z (binOp BinOp.add 3 t4_11 (Value.int IntKind.i64 1)) w fun t35_14 w =>
                  ∃ n_9, n_9 < m_9 ∧ J_9 n_9 t33_13 t35_14 w) (
                  ∃ J_15 : Nat → Value → Value → World → Prop, (∃ m, J_15 m t0_10 t4_11 w) ∧
                    ∀ m_15, ∀ t0_16 : Value, ∀ t4_17 : Value, ∀ w : World, J_15 m_15 t0_16 t4_17 w → Env →
                      run1 Try.prog Z (binOp BinOp.lss 44 t0_16 (Value.float FloatKind.f64 4607182418800017408)) w fun t37_18 w =>
                      guardW (t37_18) true (fun k => k (t4_17) w) (fun t39_19 w =>
                      guardW (t37_18) true (fun k => run1 Try.prog Z (binOp BinOp.gtr 3 t39_19 (Value.int IntKind.i64 (-1022))) w k) (fun t40_20 w =>
                      run1 Try.prog Z (pickV t37_18 t40_20 (Value.bool false)) w fun t41_21 w =>
                      CondV t41_21 (
                        run1 Try.prog Z (binOp BinOp.mul 44 t0_16 (Value.float FloatKind.f64 4611686018427387904)) w fun t43_22 w =>
                        run1 Try.prog Z (binOp BinOp.sub 3 t4_17 (Value.int IntKind.i64 1)) w fun t45_23 w =>
                        ∃ n_15, n_15 < m_15 ∧ J_15 n_15 t43_22 t45_23 w) (
                        run1 Try.prog Z (binOp BinOp.lss 44 t0_16 (Value.float FloatKind.f64 4607182418800017408)) w fun t47_24 w =>
                        CondV t47_24 (
                          run1 Try.prog Z (binOp BinOp.mul 44 t0_16 (Value.float FloatKind.f64 4841369599423283200)) w fun t50_25 w =>
                          run1 Try.prog Z (convert 44 69 t50_25) w fun t51_26 w =>
                          run1 Try.prog Z (binOp BinOp.add 69 t3_4 t51_26) w fun t52_27 w =>
                          Q t52_27 w) (
                          run1 Try.prog Z (binOp BinOp.add 3 t4_17 (Value.int IntKind.i64 1023)) w fun t55_28 w =>
                          run1 Try.prog Z (convert 3 69 t55_28) w fun t56_29 w =>
                          run1 Try.prog Z (binOp BinOp.mul 69 t56_29 (Value.int IntKind.u64 4503599627370496)) w fun t57_30 w =>
                          run1 Try.prog Z (binOp BinOp.add 69 t3_4 t57_30) w fun t58_31 w =>
                          run1 Try.prog Z (binOp BinOp.sub 44 t0_16 (Value.float FloatKind.f64 4607182418800017408)) w fun t60_32 w =>
                          run1 Try.prog Z (binOp BinOp.mul 44 t60_32 (Value.float FloatKind.f64 4841369599423283200)) w fun t61_33 w =>
                          run1 Try.prog Z (convert 44 69 t61_33) w fun t62_34 w =>
                          run1 Try.prog Z (binOp BinOp.add 69 t58_31 t62_34) w fun t63_35 w =>
                          Q t63_35 w))) w) w)))) →
        j_2 t0_3 t3_4 w) →
    run1 Try.prog Z (binOp BinOp.lss 44 x0 (Value.float FloatKind.f64 0)) w fun t9_36 w =>
    guardW (t9_36) false (fun k => k (x0) w) (fun t11_37 w =>
    guardW (t9_36) false (fun k => run1 Try.prog Z (eqOp BinOp.eql 44 false true t11_37 (Value.float FloatKind.f64 0)) w k) (fun t12_38 w =>
    guardW (t9_36) false (fun k => k (t12_38) w) (fun t13_39 w =>
    guardW (t13_39) true (fun k => k (x0) w) (fun t14_40 w =>
    guardW (t13_39) true (fun k => run1 Try.prog Z (binOp BinOp.quo 44 (Value.float FloatKind.f64 4607182418800017408) t14_40) w k) (fun t15_41 w =>
    guardW (t13_39) true (fun k => run1 Try.prog Z (binOp BinOp.lss 44 t15_41 (Value.float FloatKind.f64 0)) w k) (fun t16_42 w =>
    guardW (t9_36) false (fun k => run1 Try.prog Z (pickV t13_39 t16_42 (Value.bool false)) w k) (fun t17_43 w =>
    run1 Try.prog Z (pickV t9_36 (Value.bool true) t17_43) w fun t18_44 w =>
    CondV t18_44 (
      run1 Try.prog Z (Op.unary UnOp.neg x0) w fun t20_45 w =>
      j_2 t20_45 (Value.int IntKind.u64 9223372036854775808) w) (
      j_2 x0 (Value.int IntKind.u64 0) w)) w) w) w) w) w) w) w)
noncomputable def f67.code : Code := match Try.f67.body with | some c => c | none => .skip
def f67.an : An := (.sq .leaf (.sq (.sq .leaf (.cn (.sq .leaf .leaf) .leaf)) (.sq .leaf (.sj [0, 3] [0, 3, 8, 9, 10, 11, 12, 13, 14, 15, 16, 17, 18, 19, 20] (.sq .leaf (.cn (.sq .leaf .leaf) .leaf)) (.sq (.sq .leaf (.cn (.sq .leaf .leaf) .leaf)) (.sq (.sq .leaf (.cn (.sq .leaf .leaf) .leaf)) (.sq .leaf (.sq (.bl (.lp [0, 4] [0, 4, 30, 31, 32, 33, 34, 35] (.sq (.sq .leaf (.cn .leaf .leaf)) (.bl (.sq .leaf .leaf))))) (.sq (.bl (.lp [0, 4] [0, 4, 36, 37, 38, 39, 40, 41, 42, 43, 44, 45] (.sq (.sq .leaf (.cn .leaf .leaf)) (.bl (.sq .leaf .leaf))))) (.sq (.sq .leaf (.cn (.sq .leaf .leaf) .leaf)) (.sq .leaf .leaf)))))))))))
theorem f67.body_eq : Try.f67.body = some f67.code := by kernel_rfl
theorem f67.shape (Z : List PanicEntry → World → Prop) (x0 : Value) (w : World) (Q : Value → World → Prop) : vc drawD Try.prog 64 Z [] f67.an f67.code (fnQ Try.prog 64 Try.f67.results Q) (argEnv [x0]) w = f67.sh Z x0 w Q := by kernel_rfl
theorem f67.enters : ∀ f, f ∈ ([] : List Nat) → Enters Try.prog f := by
  intro f hf
  cases hf
theorem f67.calls {Z : List PanicEntry → World → Prop} {x0 : Value} {w : World} {Q : Value → World → Prop} (h : f67.sh Z x0 w Q) : CallV Try.prog Z 67 #[x0] w Q :=
  calls_of_vcn drawD_sound (Q := Q) (n := 64) (rs := Try.f67.results) (an := f67.an) (c := f67.code) (cal := []) (args := [x0]) Try.func67 (by kernel_rfl) rfl f67.body_eq follows (Nat.le_of_ble_eq_true (by kernel_rfl)) (enters_of_all f67.enters) ((f67.shape Z x0 w Q).mpr h)

/-! ### 68: (*lagoon/pack.Reader).ahead -/
def f68.sh (Z : List PanicEntry → World → Prop) (x0 x1 : Value) (w : World) (Q : Value → World → Prop) : Prop :=
  CallV Try.prog Z 62 #[x0] w fun t7_1 w =>
  run1 Try.prog Z (Op.unary UnOp.not t7_1) w fun t8_2 w =>
  CondV t8_2 (
    Q (Value.tuple #[(Value.slice none 0 0), (Value.bool false)]) w) (
    runX Try.prog Z (nilChk x0) w fun t10_3 w =>
    run1 Try.prog Z (Instr.fieldAt 82 t10_3 1) w fun t11_4 w =>
    run1 Try.prog Z (Instr.loadAt 22 t11_4) w fun t12_5 w =>
    run1 Try.prog Z (Builtin.len_ #[22] 3 #[t12_5]) w fun t13_6 w =>
    run1 Try.prog Z (binOp BinOp.lss 3 t13_6 x1) w fun t15_7 w =>
    CondV t15_7 (
      runX Try.prog Z (nilChk x0) w fun t17_8 w =>
      run1 Try.prog Z (Instr.fieldAt 82 t17_8 2) w fun t18_9 w =>
      run0 Try.prog Z (Instr.storeAt 51 t18_9 (Value.int IntKind.i64 10)) w fun w =>
      Q (Value.tuple #[(Value.slice none 0 0), (Value.bool false)]) w) (
      runX Try.prog Z (nilChk x0) w fun t20_10 w =>
      run1 Try.prog Z (Instr.fieldAt 82 t20_10 1) w fun t21_11 w =>
      run1 Try.prog Z (Instr.loadAt 22 t21_11) w fun t22_12 w =>
      run1 Try.prog Z (Instr.sliceAt 22 t22_12 none (some x1) (some x1)) w fun t25_13 w =>
      Q (Value.tuple #[t25_13, (Value.bool true)]) w))
noncomputable def f68.code : Code := match Try.f68.body with | some c => c | none => .skip
def f68.an : An := (.sq .leaf (.sq (.sq .leaf (.cn (.sq .leaf .leaf) .leaf)) (.sq (.sq .leaf (.cn (.sq .leaf (.sq .leaf .leaf)) .leaf)) (.sq .leaf .leaf))))
theorem f68.body_eq : Try.f68.body = some f68.code := by kernel_rfl
theorem f68.shape (Z : List PanicEntry → World → Prop) (x0 x1 : Value) (w : World) (Q : Value → World → Prop) : vc drawD Try.prog 26 Z [62] f68.an f68.code (fnQ Try.prog 26 Try.f68.results Q) (argEnv [x0, x1]) w = f68.sh Z x0 x1 w Q := by kernel_rfl
theorem f68.enters : ∀ f, f ∈ ([62] : List Nat) → Enters Try.prog f := by
  intro f hf
  simp only [List.mem_cons, List.not_mem_nil, or_false] at hf
  rcases hf with rfl
  · exact en62
theorem f68.calls {Z : List PanicEntry → World → Prop} {x0 x1 : Value} {w : World} {Q : Value → World → Prop} (h : f68.sh Z x0 x1 w Q) : CallV Try.prog Z 68 #[x0, x1] w Q :=
  calls_of_vcn drawD_sound (Q := Q) (n := 26) (rs := Try.f68.results) (an := f68.an) (c := f68.code) (cal := [62]) (args := [x0, x1]) Try.func68 (by kernel_rfl) rfl f68.body_eq follows (Nat.le_of_ble_eq_true (by kernel_rfl)) (enters_of_all f68.enters) ((f68.shape Z x0 x1 w Q).mpr h)

/-! ### 70: (*lagoon/pack.Reader).back -/
def f70.sh (Z : List PanicEntry → World → Prop) (x0 x1 x2 : Value) (w : World) (Q : Value → World → Prop) : Prop :=
  runX Try.prog Z (nilChk x0) w fun t10_1 w =>
  run1 Try.prog Z (Instr.fieldAt 82 t10_1 1) w fun t11_2 w =>
  run0 Try.prog Z (Instr.storeAt 22 t11_2 x1) w fun w =>
  runX Try.prog Z (nilChk x0) w fun t12_3 w =>
  run1 Try.prog Z (Instr.fieldAt 82 t12_3 2) w fun t13_4 w =>
  run0 Try.prog Z (Instr.storeAt 51 t13_4 x2) w fun w =>
  Q (Value.tuple #[]) w
noncomputable def f70.code : Code := match Try.f70.body with | some c => c | none => .skip
def f70.an : An := .leaf
theorem f70.body_eq : Try.f70.body = some f70.code := by kernel_rfl
theorem f70.shape (Z : List PanicEntry → World → Prop) (x0 x1 x2 : Value) (w : World) (Q : Value → World → Prop) : vc drawD Try.prog 14 Z [] f70.an f70.code (fnQ Try.prog 14 Try.f70.results Q) (argEnv [x0, x1, x2]) w = f70.sh Z x0 x1 x2 w Q := by kernel_rfl
theorem f70.enters : ∀ f, f ∈ ([] : List Nat) → Enters Try.prog f := by
  intro f hf
  cases hf
theorem f70.calls {Z : List PanicEntry → World → Prop} {x0 x1 x2 : Value} {w : World} {Q : Value → World → Prop} (h : f70.sh Z x0 x1 x2 w Q) : CallV Try.prog Z 70 #[x0, x1, x2] w Q :=
  calls_of_vcn drawD_sound (Q := Q) (n := 14) (rs := Try.f70.results) (an := f70.an) (c := f70.code) (cal := []) (args := [x0, x1, x2]) Try.func70 (by kernel_rfl) rfl f70.body_eq follows (Nat.le_of_ble_eq_true (by kernel_rfl)) (enters_of_all f70.enters) ((f70.shape Z x0 x1 x2 w Q).mpr h)

/-! ### 71: (*lagoon/pack.Reader).sized -/
def f71.sh (Z : List PanicEntry → World → Prop) (x0 x1 : Value) (w : World) (Q : Value → World → Prop) : Prop :=
  CallV Try.prog Z 61 #[x0] w fun t10_1 w =>
  CallV Try.prog Z 35 #[x0] w fun t12_2 w =>
  run1 Try.prog Z (convert 21 3 t12_2) w fun t13_3 w =>
  CallV Try.prog Z 62 #[x0] w fun t15_4 w =>
  run1 Try.prog Z (Op.unary UnOp.not t15_4) w fun t16_5 w =>
  CondV t16_5 (
    Q (Value.slice none 0 0) w) (
    run1 Try.prog Z (binOp BinOp.lss 3 t13_3 (Value.int IntKind.i64 0)) w fun t18_6 w =>
    guardW (t18_6) false (fun k => k (t13_3) w) (fun t20_7 w =>
    guardW (t18_6) false (fun k => k (x1) w) (fun t21_8 w =>
    guardW (t18_6) false (fun k => run1 Try.prog Z (binOp BinOp.gtr 3 t20_7 t21_8) w k) (fun t22_9 w =>
    run1 Try.prog Z (pickV t18_6 (Value.bool true) t22_9) w fun t23_10 w =>
    CondV t23_10 (
      CallV Try.prog Z 70 #[x0, t10_1, (Value.int IntKind.i64 11)] w fun t26_11 w =>
      Q (Value.slice none 0 0) w) (
      CallV Try.prog Z 68 #[x0, t13_3] w fun t30_12 w =>
      run1 Try.prog Z (Instr.extract t30_12 0) w fun t31_13 w =>
      run1 Try.prog Z (Instr.extract t30_12 1) w fun t32_14 w =>
      run1 Try.prog Z (Op.unary UnOp.not t32_14) w fun t34_15 w =>
      CondV t34_15 (
        CallV Try.prog Z 70 #[x0, t10_1, (Value.int IntKind.i64 10)] w fun t37_16 w =>
        Q (Value.slice none 0 0) w) (
        runX Try.prog Z (nilChk x0) w fun t40_17 w =>
        run1 Try.prog Z (Instr.fieldAt 82 t40_17 1) w fun t41_18 w =>
        run1 Try.prog Z (Instr.loadAt 22 t41_18) w fun t42_19 w =>
        run1 Try.prog Z (Instr.sliceAt 22 t42_19 (some t13_3) none none) w fun t44_20 w =>
        runX Try.prog Z (nilChk x0) w fun t45_21 w =>
        run1 Try.prog Z (Instr.fieldAt 82 t45_21 1) w fun t46_22 w =>
        run0 Try.prog Z (Instr.storeAt 22 t46_22 t44_20) w fun w =>
        Q t31_13 w))) w) w) w)
noncomputable def f71.code : Code := match Try.f71.body with | some c => c | none => .skip
def f71.an : An := (.sq .leaf (.sq .leaf (.sq .leaf (.sq (.sq .leaf (.cn (.sq .leaf .leaf) .leaf)) (.sq (.sq .leaf (.cn (.sq .leaf (.sq .leaf .leaf)) .leaf)) (.sq .leaf (.sq (.sq .leaf (.cn (.sq .leaf (.sq .leaf .leaf)) .leaf)) (.sq .leaf (.sq .leaf .leaf)))))))))
theorem f71.body_eq : Try.f71.body = some f71.code := by kernel_rfl
theorem f71.shape (Z : List PanicEntry → World → Prop) (x0 x1 : Value) (w : World) (Q : Value → World → Prop) : vc drawD Try.prog 48 Z [61, 35, 62, 70, 68] f71.an f71.code (fnQ Try.prog 48 Try.f71.results Q) (argEnv [x0, x1]) w = f71.sh Z x0 x1 w Q := by kernel_rfl
theorem f71.enters : ∀ f, f ∈ ([61, 35, 62, 70, 68] : List Nat) → Enters Try.prog f := by
  intro f hf
  simp only [List.mem_cons, List.not_mem_nil, or_false] at hf
  rcases hf with rfl | rfl | rfl | rfl | rfl
  · exact en61
  · exact en35
  · exact en62
  · exact en70
  · exact en68
theorem f71.calls {Z : List PanicEntry → World → Prop} {x0 x1 : Value} {w : World} {Q : Value → World → Prop} (h : f71.sh Z x0 x1 w Q) : CallV Try.prog Z 71 #[x0, x1] w Q :=
  calls_of_vcn drawD_sound (Q := Q) (n := 48) (rs := Try.f71.results) (an := f71.an) (c := f71.code) (cal := [61, 35, 62, 70, 68]) (args := [x0, x1]) Try.func71 (by kernel_rfl) rfl f71.body_eq follows (Nat.le_of_ble_eq_true (by kernel_rfl)) (enters_of_all f71.enters) ((f71.shape Z x0 x1 w Q).mpr h)

end Go.Proofs.Ytklojohafbmonaa
