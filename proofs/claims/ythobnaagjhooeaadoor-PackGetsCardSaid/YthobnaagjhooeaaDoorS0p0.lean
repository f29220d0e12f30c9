import Derived.Test.YthobnaagjhooeaaDoorShBase
set_option linter.unusedVariables false
namespace Go.Proofs.YthobnaagjhooeaaDoor
open Go.Sh
/-! ### 2: gosem.cut.init -/
def f2.sh (Z : List PanicEntry → World → Prop) (w : World) (Q : Value → World → Prop) : Prop :=
  runX Tryd.prog Z (callFunc 1 #[]) w fun t0_1 w =>
  Q (Value.tuple #[]) w
noncomputable def f2.code : Code := match Tryd.f2.body with | some c => c | none => .skip
def f2.an : An := .leaf
theorem f2.body_eq : Tryd.f2.body = some f2.code := by kernel_rfl
theorem f2.shape (Z : List PanicEntry → World → Prop) (w : World) (Q : Value → World → Prop) : vc drawD Tryd.prog 1 Z [] f2.an f2.code (fnQ Tryd.prog 1 Tryd.f2.results Q) (argEnv []) w = f2.sh Z  w Q := by kernel_rfl
theorem f2.enters : ∀ f, f ∈ ([] : List Nat) → Enters Tryd.prog f := by
  intro f hf
  cases hf
theorem f2.calls {Z : List PanicEntry → World → Prop} {w : World} {Q : Value → World → Prop} (h : f2.sh Z  w Q) : CallV Tryd.prog Z 2 #[] w Q :=
  calls_of_vcn drawD_sound (Q := Q) (n := 1) (rs := Tryd.f2.results) (an := f2.an) (c := f2.code) (cal := []) (args := []) Tryd.func2 (by kernel_rfl) rfl f2.body_eq follows (Nat.le_of_ble_eq_true (by kernel_rfl)) (enters_of_all f2.enters) ((f2.shape Z  w Q).mpr h)

/-! ### 3: lagoon/lagoonlaw01.PackGets -/
def f3.sh (Z : List PanicEntry → World → Prop) (x0 x1 : Value) (w : World) (Q : Value → World → Prop) : Prop :=
  CallV Tryd.prog Z 4 #[] w fun t18_1 w =>
  run1 Tryd.prog Z (Builtin.len_ #[22] 3 #[x0]) w fun t20_2 w =>
  run1 Tryd.prog Z (binOp BinOp.gtr 3 t20_2 (Value.int IntKind.i64 67108864)) w fun t21_3 w =>
  CondV t21_3 (
    Q t18_1 w) (
    CallV Tryd.prog Z 6 #[x0] w fun t24_4 w =>
    CallV Tryd.prog Z 5 #[t24_4] w fun t25_5 w =>
    CallV Tryd.prog Z 6 #[x0] w fun t27_6 w =>
    CallV Tryd.prog Z 5 #[t27_6] w fun t28_7 w =>
    run1 Tryd.prog Z (eqOp BinOp.eql 24 false true t25_5 (Value.pointer none)) w fun t30_8 w =>
    guardW (t30_8) false (fun k => k (t28_7) w) (fun t32_9 w =>
    guardW (t30_8) false (fun k => run1 Tryd.prog Z (eqOp BinOp.eql 24 false true t32_9 (Value.pointer none)) w k) (fun t33_10 w =>
    run1 Tryd.prog Z (pickV t30_8 (Value.bool true) t33_10) w fun t34_11 w =>
    CondV t34_11 (
      Q (Value.bool false) w) (
      CallV Tryd.prog Z 7 #[t25_5, x1, (Value.func (Fn.func 8) #[] #[])] w fun t37_12 w =>
      CallV Tryd.prog Z 7 #[t28_7, x1, (Value.func (Fn.func 8) #[] #[])] w fun t40_13 w =>
      CallV Tryd.prog Z 9 #[x0] w fun t42_14 w =>
      CallV Tryd.prog Z 10 #[t42_14, x1] w fun t45_15 w =>
      ∃ J_16 : Nat → Value → Value → World → Prop, (∃ m, J_16 m (Value.slice none 0 0) (Value.int IntKind.i64 0) w) ∧
        ∀ m_16, ∀ t12_17 : Value, ∀ t13_18 : Value, ∀ w : World, J_16 m_16 t12_17 t13_18 w → Env →
          run1 Tryd.prog Z (binOp BinOp.lss 3 t13_18 t45_15) w fun t48_19 w =>
          guardW (t48_19) true (fun k => k (t42_14) w) (fun t50_20 w =>
          guardW (t48_19) true (fun k => runX Tryd.prog Z (nilChk t50_20) w k) (fun t51_21 w =>
          guardW (t48_19) true (fun k => run1 Tryd.prog Z (Instr.fieldAt 35 t51_21 2) w k) (fun t52_22 w =>
          guardW (t48_19) true (fun k => run1 Tryd.prog Z (Instr.loadAt 33 t52_22) w k) (fun t53_23 w =>
          guardW (t48_19) true (fun k => run1 Tryd.prog Z (eqOp BinOp.eql 33 false true t53_23 (Value.int IntKind.i64 0)) w k) (fun t54_24 w =>
          run1 Tryd.prog Z (pickV t48_19 t54_24 (Value.bool false)) w fun t55_25 w =>
          CondV t55_25 (
            CallV Tryd.prog Z 11 #[t42_14, (Value.int IntKind.i64 8)] w fun t60_26 w =>
            run1 Tryd.prog Z (Instr.buildSlice 27 1 #[(0, t60_26)]) w fun t61_27 w =>
            run1 Tryd.prog Z (Builtin.append_ #[27, 27] 27 #[t12_17, t61_27]) w fun t62_28 w =>
            run1 Tryd.prog Z (binOp BinOp.add 3 t13_18 (Value.int IntKind.i64 1)) w fun t57_29 w =>
            ∃ n_16, n_16 < m_16 ∧ J_16 n_16 t62_28 t57_29 w) (
            ∀ j_30 : Value → World → Prop, (∀ t12_31 : Value, ∀ w : World, (Env →
                Drawn w fun w =>
                CallV Tryd.prog Z 12 #[t37_12, t12_31] w fun t70_32 w =>
                Pure1 Tryd.prog (Op.unary UnOp.not t70_32) fun t71_33 =>
                guardV (t71_33) false (fun k => k (t25_5)) (fun t73_34 =>
                guardV (t71_33) false (fun k => k (t42_14)) (fun t75_35 =>
                guardW (t71_33) false (fun k => CallV Tryd.prog Z 13 #[t73_34] w k) (fun t74_36 w =>
                  guardW (t71_33) false (fun k => CallV Tryd.prog Z 14 #[t75_35] w k) (fun t76_37 w =>
                    guardV (t71_33) false (fun k => Pure1 Tryd.prog (eqOp BinOp.neq 3 false false t74_36 t76_37) k) (fun t77_38 =>
                    Pure1 Tryd.prog (pickV t71_33 (Value.bool true) t77_38) fun t78_39 =>
                    guardV (t78_39) false (fun k => k (t25_5)) (fun t80_40 =>
                    guardV (t78_39) false (fun k => k (t42_14)) (fun t82_41 =>
                    guardV (t78_39) false (fun k => PureV Tryd.prog (nilChk t82_41) k) (fun t83_42 =>
                    guardV (t78_39) false (fun k => Pure1 Tryd.prog (Instr.fieldAt 35 t83_42 2) k) (fun t84_43 =>
                    guardV (t78_39) false (fun k => Read1 Tryd.prog (Instr.loadAt 33 t84_43) w k) (fun t85_44 =>
                    guardW (t78_39) false (fun k => CallV Tryd.prog Z 15 #[t80_40] w k) (fun t81_45 w =>
                      Still Tryd.prog (gSem (t78_39) false (nx (Instr.loadAt 33 t84_43))) t85_44 w <|
                      guardV (t78_39) false (fun k => Pure1 Tryd.prog (eqOp BinOp.neq 33 false false t81_45 t85_44) k) (fun t86_46 =>
                      Pure1 Tryd.prog (pickV t78_39 (Value.bool true) t86_46) fun t87_47 =>
                      guardV (t87_47) false (fun k => k (t25_5)) (fun t89_48 =>
                      guardV (t87_47) false (fun k => k (t42_14)) (fun t91_49 =>
                      guardW (t87_47) false (fun k => CallV Tryd.prog Z 16 #[t89_48] w k) (fun t90_50 w =>
                        Still Tryd.prog (gSem (t78_39) false (nx (Instr.loadAt 33 t84_43))) t85_44 w <|
                        guardW (t87_47) false (fun k => CallV Tryd.prog Z 17 #[t91_49] w k) (fun t92_51 w =>
                          Still Tryd.prog (gSem (t78_39) false (nx (Instr.loadAt 33 t84_43))) t85_44 w <|
                          guardV (t87_47) false (fun k => Pure1 Tryd.prog (eqOp BinOp.neq 33 false false t90_50 t92_51) k) (fun t93_52 =>
                          Pure1 Tryd.prog (pickV t87_47 (Value.bool true) t93_52) fun t94_53 =>
                          CondV t94_53 (
                            Q (Value.bool false) w) (
                            run1 Tryd.prog Z (Instr.build 63 #[]) w fun t95_54 w =>
                            run1 Tryd.prog Z (Instr.box 63 t95_54) w fun t96_55 w =>
                            CallV Tryd.prog Z 18 #[t96_55, t37_12] w fun t99_56 w =>
                            CallV Tryd.prog Z 19 #[t96_55] w fun t101_57 w =>
                            CallV Tryd.prog Z 12 #[t40_13, t12_31] w fun t104_58 w =>
                            run1 Tryd.prog Z (Instr.build 63 #[]) w fun t105_59 w =>
                            run1 Tryd.prog Z (Instr.box 63 t105_59) w fun t106_60 w =>
                            CallV Tryd.prog Z 18 #[t106_60, t37_12] w fun t109_61 w =>
                            CallV Tryd.prog Z 18 #[t106_60, t40_13] w fun t112_62 w =>
                            guardW (t18_1) true (fun k => k (t101_57) w) (fun t115_63 w =>
                            run1 Tryd.prog Z (pickV t18_1 t115_63 (Value.bool false)) w fun t116_64 w =>
                            guardW (t116_64) true (fun k => k (t104_58) w) (fun t118_65 w =>
                            run1 Tryd.prog Z (pickV t116_64 t118_65 (Value.bool false)) w fun t119_66 w =>
                            guardW (t119_66) true (fun k => k (t106_60) w) (fun t121_67 w =>
                            guardW (t119_66) true (fun k => CallV Tryd.prog Z 19 #[t121_67] w k) (fun t122_68 w =>
                            run1 Tryd.prog Z (pickV t119_66 t122_68 (Value.bool false)) w fun t123_69 w =>
                            Q t123_69 w) w) w) w) w))) w) w)))) w))))))) w) w))) →
                j_30 t12_31 w) →
            runX Tryd.prog Z (nilChk t42_14) w fun t64_70 w =>
            run1 Tryd.prog Z (Instr.fieldAt 35 t64_70 2) w fun t65_71 w =>
            run1 Tryd.prog Z (Instr.loadAt 33 t65_71) w fun t66_72 w =>
            run1 Tryd.prog Z (eqOp BinOp.neq 33 false true t66_72 (Value.int IntKind.i64 0)) w fun t67_73 w =>
            CondV t67_73 (
              j_30 (Value.slice none 0 0) w) (
              j_30 t12_17 w))) w) w) w) w) w)) w) w)
noncomputable def f3.code : Code := match Tryd.f3.body with | some c => c | none => .skip
def f3.an : An := (.sq .leaf (.sq .leaf (.sq (.sq .leaf (.cn (.sq .leaf .leaf) .leaf)) (.sq .leaf (.sq .leaf (.sq (.sq .leaf (.cn (.sq .leaf .leaf) .leaf)) (.sq .leaf (.sq .leaf (.sq .leaf (.sq .leaf (.sq .leaf (.sq (.sq .leaf (.bl (.lp [12, 13] [12, 13, 46, 47, 48, 49, 50, 51, 52, 53, 54, 55, 56, 57, 58, 59, 60, 61, 62] (.sq (.sq .leaf (.cn .leaf .leaf)) (.sq (.bl .leaf) .leaf))))) (.sj [12] [12, 63, 64, 65, 66, 67] (.sq .leaf (.cn .leaf .leaf)) (.sq (.sq (.dr (.take 0 false (.take 1 false (.one 2 (.take 3 false (.take 4 false (.take 5 false (.take 7 false (.one 6 (.one 8 (.take 9 false (.take 10 false (.take 11 false (.take 12 false (.take 14 false (.take 15 false (.take 16 false (.take 17 true (.one 13 (.take 18 false (.take 19 false (.take 20 false (.take 21 false (.take 23 false (.one 22 (.one 24 (.take 25 false (.take 26 false .fin)))))))))))))))))))))))))))) (.cn (.sq .leaf .leaf) .leaf)) (.sq .leaf (.sq .leaf (.sq .leaf (.sq .leaf (.sq .leaf (.sq .leaf (.sq .leaf (.sq .leaf .leaf))))))))))))))))))))))
theorem f3.body_eq : Tryd.f3.body = some f3.code := by kernel_rfl
theorem f3.shape (Z : List PanicEntry → World → Prop) (x0 x1 : Value) (w : World) (Q : Value → World → Prop) : vc drawD Tryd.prog 124 Z [4, 6, 5, 7, 9, 10, 11, 12, 13, 14, 15, 16, 17, 18, 19] f3.an f3.code (fnQ Tryd.prog 124 Tryd.f3.results Q) (argEnv [x0, x1]) w = f3.sh Z x0 x1 w Q := by kernel_rfl
theorem f3.enters : ∀ f, f ∈ ([4, 6, 5, 7, 9, 10, 11, 12, 13, 14, 15, 16, 17, 18, 19] : List Nat) → Enters Tryd.prog f := by
  intro f hf
  simp only [List.mem_cons, List.not_mem_nil, or_false] at hf
  rcases hf with rfl | rfl | rfl | rfl | rfl | rfl | rfl | rfl | rfl | rfl | rfl | rfl | rfl | rfl | rfl
  · exact en4
  · exact en6
  · exact en5
  · exact en7
  · exact en9
  · exact en10
  · exact en11
  · exact en12
  · exact en13
  · exact en14
  · exact en15
  · exact en16
  · exact en17
  · exact en18
  · exact en19
theorem f3.calls {Z : List PanicEntry → World → Prop} {x0 x1 : Value} {w : World} {Q : Value → World → Prop} (h : f3.sh Z x0 x1 w Q) : CallV Tryd.prog Z 3 #[x0, x1] w Q :=
  calls_of_vcn drawD_sound (Q := Q) (n := 124) (rs := Tryd.f3.results) (an := f3.an) (c := f3.code) (cal := [4, 6, 5, 7, 9, 10, 11, 12, 13, 14, 15, 16, 17, 18, 19]) (args := [x0, x1]) Tryd.func3 (by kernel_rfl) rfl f3.body_eq follows (Nat.le_of_ble_eq_true (by kernel_rfl)) (enters_of_all f3.enters) ((f3.shape Z x0 x1 w Q).mpr h)

/-! ### 4: lagoon/lagoonlaw01.works -/
def f4.sh (Z : List PanicEntry → World → Prop) (w : World) (Q : Value → World → Prop) : Prop :=
  run1 Tryd.prog Z (Instr.build 68 #[]) w fun t5_1 w =>
  run1 Tryd.prog Z (Instr.box 68 t5_1) w fun t6_2 w =>
  CallV Tryd.prog Z 20 #[t6_2, (Value.int IntKind.i32 (-2))] w fun t8_3 w =>
  run1 Tryd.prog Z (Instr.buildSlice 22 5 #[(0, (Value.int IntKind.u8 255)), (1, (Value.int IntKind.u8 255)), (2, (Value.int IntKind.u8 255)), (3, (Value.int IntKind.u8 254)), (4, (Value.int IntKind.u8 9))]) w fun t9_4 w =>
  CallV Tryd.prog Z 5 #[t9_4] w fun t10_5 w =>
  CallV Tryd.prog Z 21 #[t10_5] w fun t12_6 w =>
  run1 Tryd.prog Z (Instr.buildSlice 22 3 #[(0, (Value.int IntKind.u8 97)), (1, (Value.int IntKind.u8 98)), (2, (Value.int IntKind.u8 99))]) w fun t13_7 w =>
  CallV Tryd.prog Z 22 #[t13_7] w fun t14_8 w =>
  CallV Tryd.prog Z 24 #[t6_2] w fun t16_9 w =>
  run1 Tryd.prog Z (Instr.buildSlice 22 4 #[(0, (Value.int IntKind.u8 255)), (1, (Value.int IntKind.u8 255)), (2, (Value.int IntKind.u8 255)), (3, (Value.int IntKind.u8 254))]) w fun t17_10 w =>
  CallV Tryd.prog Z 23 #[t16_9, t17_10] w fun t18_11 w =>
  guardW (t18_11) true (fun k => k (t12_6) w) (fun t20_12 w =>
  guardW (t18_11) true (fun k => run1 Tryd.prog Z (eqOp BinOp.eql 21 false true t20_12 (Value.int IntKind.i32 (-2))) w k) (fun t21_13 w =>
  run1 Tryd.prog Z (pickV t18_11 t21_13 (Value.bool false)) w fun t22_14 w =>
  guardW (t22_14) true (fun k => k (t10_5) w) (fun t24_15 w =>
  guardW (t22_14) true (fun k => CallV Tryd.prog Z 13 #[t24_15] w k) (fun t25_16 w =>
  guardW (t22_14) true (fun k => run1 Tryd.prog Z (eqOp BinOp.eql 3 false true t25_16 (Value.int IntKind.i64 1)) w k) (fun t26_17 w =>
  run1 Tryd.prog Z (pickV t22_14 t26_17 (Value.bool false)) w fun t27_18 w =>
  guardW (t27_18) true (fun k => k (t14_8) w) (fun t29_19 w =>
  guardW (t27_18) true (fun k => run1 Tryd.prog Z (eqOp BinOp.eql 71 false true t29_19 (Value.int IntKind.u32 38600999)) w k) (fun t30_20 w =>
  run1 Tryd.prog Z (pickV t27_18 t30_20 (Value.bool false)) w fun t31_21 w =>
  Q t31_21 w) w) w) w) w) w) w) w
noncomputable def f4.code : Code := match Tryd.f4.body with | some c => c | none => .skip
def f4.an : An := (.sq .leaf (.sq .leaf (.sq .leaf (.sq .leaf (.sq .leaf (.sq .leaf (.sq .leaf .leaf)))))))
theorem f4.body_eq : Tryd.f4.body = some f4.code := by kernel_rfl
theorem f4.shape (Z : List PanicEntry → World → Prop) (w : World) (Q : Value → World → Prop) : vc drawD Tryd.prog 32 Z [20, 5, 21, 22, 24, 23, 13] f4.an f4.code (fnQ Tryd.prog 32 Tryd.f4.results Q) (argEnv []) w = f4.sh Z  w Q := by kernel_rfl
theorem f4.enters : ∀ f, f ∈ ([20, 5, 21, 22, 24, 23, 13] : List Nat) → Enters Tryd.prog f := by
  intro f hf
  simp only [List.mem_cons, List.not_mem_nil, or_false] at hf
  rcases hf with rfl | rfl | rfl | rfl | rfl | rfl | rfl
  · exact en20
  · exact en5
  · exact en21
  · exact en22
  · exact en24
  · exact en23
  · exact en13
theorem f4.calls {Z : List PanicEntry → World → Prop} {w : World} {Q : Value → World → Prop} (h : f4.sh Z  w Q) : CallV Tryd.prog Z 4 #[] w Q :=
  calls_of_vcn drawD_sound (Q := Q) (n := 32) (rs := Tryd.f4.results) (an := f4.an) (c := f4.code) (cal := [20, 5, 21, 22, 24, 23, 13]) (args := []) Tryd.func4 (by kernel_rfl) rfl f4.body_eq follows (Nat.le_of_ble_eq_true (by kernel_rfl)) (enters_of_all f4.enters) ((f4.shape Z  w Q).mpr h)

/-! ### 5: lagoon/pack.New -/
def f5.sh (Z : List PanicEntry → World → Prop) (x0 : Value) (w : World) (Q : Value → World → Prop) : Prop :=
  run1 Tryd.prog Z (Builtin.append_ #[22, 22] 22 #[(Value.slice none 0 0), x0]) w fun t4_1 w =>
  run1 Tryd.prog Z (Instr.build 76 #[(0, (Value.bool true)), (1, t4_1)]) w fun t5_2 w =>
  run1 Tryd.prog Z (Instr.box 76 t5_2) w fun t6_3 w =>
  Q t6_3 w
noncomputable def f5.code : Code := match Tryd.f5.body with | some c => c | none => .skip
def f5.an : An := (.sq .leaf (.sq .leaf .leaf))
theorem f5.body_eq : Tryd.f5.body = some f5.code := by kernel_rfl
theorem f5.shape (Z : List PanicEntry → World → Prop) (x0 : Value) (w : World) (Q : Value → World → Prop) : vc drawD Tryd.prog 7 Z [] f5.an f5.code (fnQ Tryd.prog 7 Tryd.f5.results Q) (argEnv [x0]) w = f5.sh Z x0 w Q := by kernel_rfl
theorem f5.enters : ∀ f, f ∈ ([] : List Nat) → Enters Tryd.prog f := by
  intro f hf
  cases hf
theorem f5.calls {Z : List PanicEntry → World → Prop} {x0 : Value} {w : World} {Q : Value → World → Prop} (h : f5.sh Z x0 w Q) : CallV Tryd.prog Z 5 #[x0] w Q :=
  calls_of_vcn drawD_sound (Q := Q) (n := 7) (rs := Tryd.f5.results) (an := f5.an) (c := f5.code) (cal := []) (args := [x0]) Tryd.func5 (by kernel_rfl) rfl f5.body_eq follows (Nat.le_of_ble_eq_true (by kernel_rfl)) (enters_of_all f5.enters) ((f5.shape Z x0 w Q).mpr h)

/-! ### 6: lagoon/lagoonref00.CopyBytes -/
def f6.sh (Z : List PanicEntry → World → Prop) (x0 : Value) (w : World) (Q : Value → World → Prop) : Prop :=
  ∃ J_1 : Nat → Value → Value → World → Prop, (∃ m, J_1 m (Value.slice none 0 0) (Value.int IntKind.i64 0) w) ∧
    ∀ m_1, ∀ t3_2 : Value, ∀ t4_3 : Value, ∀ w : World, J_1 m_1 t3_2 t4_3 w → Env →
      run1 Tryd.prog Z (Builtin.len_ #[22] 3 #[x0]) w fun t7_4 w =>
      run1 Tryd.prog Z (binOp BinOp.lss 3 t4_3 t7_4) w fun t8_5 w =>
      CondV t8_5 (
        run1 Tryd.prog Z (Instr.indexAt 22 x0 t4_3) w fun t14_6 w =>
        run1 Tryd.prog Z (Instr.loadAt 5 t14_6) w fun t15_7 w =>
        run1 Tryd.prog Z (Instr.buildSlice 22 1 #[(0, t15_7)]) w fun t16_8 w =>
        run1 Tryd.prog Z (Builtin.append_ #[22, 22] 22 #[t3_2, t16_8]) w fun t17_9 w =>
        run1 Tryd.prog Z (binOp BinOp.add 3 t4_3 (Value.int IntKind.i64 1)) w fun t10_10 w =>
        ∃ n_1, n_1 < m_1 ∧ J_1 n_1 t17_9 t10_10 w) (
        Q t3_2 w)
noncomputable def f6.code : Code := match Tryd.f6.body with | some c => c | none => .skip
def f6.an : An := (.sq .leaf (.sq .leaf (.sq (.sq .leaf (.bl (.lp [3, 4] [3, 4, 5, 6, 7, 8, 9, 10, 11, 12, 13, 14, 15, 16, 17] (.sq (.sq .leaf (.cn .leaf .leaf)) (.sq (.bl .leaf) .leaf))))) (.sq .leaf .leaf))))
theorem f6.body_eq : Tryd.f6.body = some f6.code := by kernel_rfl
theorem f6.shape (Z : List PanicEntry → World → Prop) (x0 : Value) (w : World) (Q : Value → World → Prop) : vc drawD Tryd.prog 19 Z [] f6.an f6.code (fnQ Tryd.prog 19 Tryd.f6.results Q) (argEnv [x0]) w = f6.sh Z x0 w Q := by kernel_rfl
theorem f6.enters : ∀ f, f ∈ ([] : List Nat) → Enters Tryd.prog f := by
  intro f hf
  cases hf
theorem f6.calls {Z : List PanicEntry → World → Prop} {x0 : Value} {w : World} {Q : Value → World → Prop} (h : f6.sh Z x0 w Q) : CallV Tryd.prog Z 6 #[x0] w Q :=
  calls_of_vcn drawD_sound (Q := Q) (n := 19) (rs := Tryd.f6.results) (an := f6.an) (c := f6.code) (cal := []) (args := [x0]) Tryd.func6 (by kernel_rfl) rfl f6.body_eq follows (Nat.le_of_ble_eq_true (by kernel_rfl)) (enters_of_all f6.enters) ((f6.shape Z x0 w Q).mpr h)

/-! ### 7: lagoon/pack.GetList[string] -/
def f7.sh (Z : List PanicEntry → World → Prop) (x0 x1 x2 : Value) (w : World) (Q : Value → World → Prop) : Prop :=
  CallV Tryd.prog Z 25 #[x0] w fun t12_1 w =>
  CallV Tryd.prog Z 21 #[x0] w fun t14_2 w =>
  run1 Tryd.prog Z (convert 21 3 t14_2) w fun t15_3 w =>
  CallV Tryd.prog Z 26 #[x0] w fun t17_4 w =>
  run1 Tryd.prog Z (Op.unary UnOp.not t17_4) w fun t18_5 w =>
  CondV t18_5 (
    Q (Value.slice none 0 0) w) (
    run1 Tryd.prog Z (binOp BinOp.lss 3 t15_3 (Value.int IntKind.i64 0)) w fun t21_6 w =>
    guardW (t21_6) false (fun k => k (t15_3) w) (fun t23_7 w =>
    guardW (t21_6) false (fun k => k (x1) w) (fun t24_8 w =>
    guardW (t21_6) false (fun k => run1 Tryd.prog Z (binOp BinOp.gtr 3 t23_7 t24_8) w k) (fun t25_9 w =>
    run1 Tryd.prog Z (pickV t21_6 (Value.bool true) t25_9) w fun t26_10 w =>
    CondV t26_10 (
      CallV Tryd.prog Z 27 #[x0, t12_1, (Value.int IntKind.i64 11)] w fun t29_11 w =>
      Q (Value.slice none 0 0) w) (
      runX Tryd.prog Z (nilChk x0) w fun t33_12 w =>
      run1 Tryd.prog Z (Instr.fieldAt 76 t33_12 1) w fun t34_13 w =>
      run1 Tryd.prog Z (Instr.loadAt 22 t34_13) w fun t35_14 w =>
      run1 Tryd.prog Z (Builtin.len_ #[22] 3 #[t35_14]) w fun t36_15 w =>
      run1 Tryd.prog Z (binOp BinOp.gtr 3 t15_3 t36_15) w fun t37_16 w =>
      CondV t37_16 (
        CallV Tryd.prog Z 27 #[x0, t12_1, (Value.int IntKind.i64 10)] w fun t40_17 w =>
        Q (Value.slice none 0 0) w) (
        run1 Tryd.prog Z (eqOp BinOp.eql 29 false true x2 Value.nilFunc) w fun t42_18 w =>
        CondV t42_18 (
          run1 Tryd.prog Z (Instr.makeSlice 27 t15_3 t15_3) w fun t44_19 w =>
          Q t44_19 w) (
          ∃ J_20 : Nat → Value → Value → World → Prop, (∃ m, J_20 m (Value.slice none 0 0) (Value.int IntKind.i64 0) w) ∧
            ∀ m_20, ∀ t9_21 : Value, ∀ t46_22 : Value, ∀ w : World, J_20 m_20 t9_21 t46_22 w → Env →
              run1 Tryd.prog Z (binOp BinOp.lss 3 t46_22 t15_3) w fun t47_23 w =>
              CondV t47_23 (
                runX Tryd.prog Z (callVal x2 #[x0]) w fun t50_24 w =>
                CallV Tryd.prog Z 26 #[x0] w fun t52_25 w =>
                run1 Tryd.prog Z (Op.unary UnOp.not t52_25) w fun t53_26 w =>
                CondV t53_26 (
                  Q (Value.slice none 0 0) w) (
                  run1 Tryd.prog Z (Instr.buildSlice 27 1 #[(0, t50_24)]) w fun t56_27 w =>
                  run1 Tryd.prog Z (Builtin.append_ #[27, 27] 27 #[t9_21, t56_27]) w fun t57_28 w =>
                  run1 Tryd.prog Z (binOp BinOp.add 3 t46_22 (Value.int IntKind.i64 1)) w fun t58_29 w =>
                  ∃ n_20, n_20 < m_20 ∧ J_20 n_20 t57_28 t58_29 w)) (
                Q t9_21 w))))) w) w) w)
noncomputable def f7.code : Code := match Tryd.f7.body with | some c => c | none => .skip
def f7.an : An := (.sq .leaf (.sq .leaf (.sq .leaf (.sq (.sq .leaf (.cn (.sq .leaf .leaf) .leaf)) (.sq (.bl (.sq .leaf (.cn (.sq .leaf (.sq .leaf .leaf)) (.sq .leaf (.cn (.sq .leaf (.sq .leaf .leaf)) .leaf))))) (.sq (.sq .leaf (.cn (.sq .leaf .leaf) .leaf)) (.sq .leaf (.sq (.sq .leaf (.bl (.lp [9, 46] [6, 9, 10, 46, 47, 48, 49, 50, 51, 52, 53, 54, 55, 56, 57, 58] (.sq .leaf (.sq (.cn .leaf .leaf) (.sq (.bl (.sq .leaf (.sq (.sq .leaf (.cn (.sq .leaf .leaf) .leaf)) .leaf))) .leaf)))))) (.sq .leaf .leaf)))))))))
theorem f7.body_eq : Tryd.f7.body = some f7.code := by kernel_rfl
theorem f7.shape (Z : List PanicEntry → World → Prop) (x0 x1 x2 : Value) (w : World) (Q : Value → World → Prop) : vc drawD Tryd.prog 60 Z [25, 21, 26, 27] f7.an f7.code (fnQ Tryd.prog 60 Tryd.f7.results Q) (argEnv [x0, x1, x2]) w = f7.sh Z x0 x1 x2 w Q := by kernel_rfl
theorem f7.enters : ∀ f, f ∈ ([25, 21, 26, 27] : List Nat) → Enters Tryd.prog f := by
  intro f hf
  simp only [List.mem_cons, List.not_mem_nil, or_false] at hf
  rcases hf with rfl | rfl | rfl | rfl
  · exact en25
  · exact en21
  · exact en26
  · exact en27
theorem f7.calls {Z : List PanicEntry → World → Prop} {x0 x1 x2 : Value} {w : World} {Q : Value → World → Prop} (h : f7.sh Z x0 x1 x2 w Q) : CallV Tryd.prog Z 7 #[x0, x1, x2] w Q :=
  calls_of_vcn drawD_sound (Q := Q) (n := 60) (rs := Tryd.f7.results) (an := f7.an) (c := f7.code) (cal := [25, 21, 26, 27]) (args := [x0, x1, x2]) Tryd.func7 (by kernel_rfl) rfl f7.body_eq follows (Nat.le_of_ble_eq_true (by kernel_rfl)) (enters_of_all f7.enters) ((f7.shape Z x0 x1 x2 w Q).mpr h)

/-! ### 8: lagoon/lagoonlaw01.getText -/
def f8.sh (Z : List PanicEntry → World → Prop) (x0 : Value) (w : World) (Q : Value → World → Prop) : Prop :=
  CallV Tryd.prog Z 28 #[x0, (Value.int IntKind.i64 8)] w fun t4_1 w =>
  Q t4_1 w
noncomputable def f8.code : Code := match Tryd.f8.body with | some c => c | none => .skip
def f8.an : An := (.sq .leaf (.sq .leaf .leaf))
theorem f8.body_eq : Tryd.f8.body = some f8.code := by kernel_rfl
theorem f8.shape (Z : List PanicEntry → World → Prop) (x0 : Value) (w : World) (Q : Value → World → Prop) : vc drawD Tryd.prog 5 Z [28] f8.an f8.code (fnQ Tryd.prog 5 Tryd.f8.results Q) (argEnv [x0]) w = f8.sh Z x0 w Q := by kernel_rfl
theorem f8.enters : ∀ f, f ∈ ([28] : List Nat) → Enters Tryd.prog f := by
  intro f hf
  simp only [List.mem_cons, List.not_mem_nil, or_false] at hf
  rcases hf with rfl
  · exact en28
theorem f8.calls {Z : List PanicEntry → World → Prop} {x0 : Value} {w : World} {Q : Value → World → Prop} (h : f8.sh Z x0 w Q) : CallV Tryd.prog Z 8 #[x0] w Q :=
  calls_of_vcn drawD_sound (Q := Q) (n := 5) (rs := Tryd.f8.results) (an := f8.an) (c := f8.code) (cal := [28]) (args := [x0]) Tryd.func8 (by kernel_rfl) rfl f8.body_eq follows (Nat.le_of_ble_eq_true (by kernel_rfl)) (enters_of_all f8.enters) ((f8.shape Z x0 w Q).mpr h)

/-! ### 9: lagoon/lagoonref01.New -/
def f9.sh (Z : List PanicEntry → World → Prop) (x0 : Value) (w : World) (Q : Value → World → Prop) : Prop :=
  CallV Tryd.prog Z 6 #[x0] w fun t4_1 w =>
  run1 Tryd.prog Z (Instr.build 35 #[(0, t4_1)]) w fun t5_2 w =>
  run1 Tryd.prog Z (Instr.box 35 t5_2) w fun t6_3 w =>
  Q t6_3 w
noncomputable def f9.code : Code := match Tryd.f9.body with | some c => c | none => .skip
def f9.an : An := (.sq .leaf (.sq .leaf .leaf))
theorem f9.body_eq : Tryd.f9.body = some f9.code := by kernel_rfl
theorem f9.shape (Z : List PanicEntry → World → Prop) (x0 : Value) (w : World) (Q : Value → World → Prop) : vc drawD Tryd.prog 7 Z [6] f9.an f9.code (fnQ Tryd.prog 7 Tryd.f9.results Q) (argEnv [x0]) w = f9.sh Z x0 w Q := by kernel_rfl
theorem f9.enters : ∀ f, f ∈ ([6] : List Nat) → Enters Tryd.prog f := by
  intro f hf
  simp only [List.mem_cons, List.not_mem_nil, or_false] at hf
  rcases hf with rfl
  · exact en6
theorem f9.calls {Z : List PanicEntry → World → Prop} {x0 : Value} {w : World} {Q : Value → World → Prop} (h : f9.sh Z x0 w Q) : CallV Tryd.prog Z 9 #[x0] w Q :=
  calls_of_vcn drawD_sound (Q := Q) (n := 7) (rs := Tryd.f9.results) (an := f9.an) (c := f9.code) (cal := [6]) (args := [x0]) Tryd.func9 (by kernel_rfl) rfl f9.body_eq follows (Nat.le_of_ble_eq_true (by kernel_rfl)) (enters_of_all f9.enters) ((f9.shape Z x0 w Q).mpr h)

/-! ### 10: (*lagoon/lagoonref01.Reader).Count -/
def f10.sh (Z : List PanicEntry → World → Prop) (x0 x1 : Value) (w : World) (Q : Value → World → Prop) : Prop :=
  runX Tryd.prog Z (nilChk x0) w fun t8_1 w =>
  run1 Tryd.prog Z (Instr.fieldAt 35 t8_1 1) w fun t9_2 w =>
  run1 Tryd.prog Z (Instr.loadAt 3 t9_2) w fun t10_3 w =>
  CallV Tryd.prog Z 29 #[x0] w fun t12_4 w =>
  run1 Tryd.prog Z (convert 21 3 t12_4) w fun t13_5 w =>
  runX Tryd.prog Z (nilChk x0) w fun t15_6 w =>
  run1 Tryd.prog Z (Instr.fieldAt 35 t15_6 2) w fun t16_7 w =>
  run1 Tryd.prog Z (Instr.loadAt 33 t16_7) w fun t17_8 w =>
  run1 Tryd.prog Z (eqOp BinOp.neq 33 false true t17_8 (Value.int IntKind.i64 0)) w fun t18_9 w =>
  CondV t18_9 (
    Q (Value.int IntKind.i64 (-1)) w) (
    run1 Tryd.prog Z (binOp BinOp.lss 3 t13_5 (Value.int IntKind.i64 0)) w fun t20_10 w =>
    guardW (t20_10) false (fun k => k (t13_5) w) (fun t22_11 w =>
    guardW (t20_10) false (fun k => k (x1) w) (fun t23_12 w =>
    guardW (t20_10) false (fun k => run1 Tryd.prog Z (binOp BinOp.gtr 3 t22_11 t23_12) w k) (fun t24_13 w =>
    run1 Tryd.prog Z (pickV t20_10 (Value.bool true) t24_13) w fun t25_14 w =>
    CondV t25_14 (
      CallV Tryd.prog Z 30 #[x0, t10_3, (Value.int IntKind.i64 11)] w fun t28_15 w =>
      Q (Value.int IntKind.i64 (-1)) w) (
      Drawn w fun w =>
      PureV Tryd.prog (nilChk x0) fun t31_16 =>
      Pure1 Tryd.prog (Instr.fieldAt 35 t31_16 0) fun t32_17 =>
      Read1 Tryd.prog (Instr.loadAt 22 t32_17) w fun t33_18 =>
      Pure1 Tryd.prog (Builtin.len_ #[22] 3 #[t33_18]) fun t34_19 =>
      PureV Tryd.prog (nilChk x0) fun t36_20 =>
      Pure1 Tryd.prog (Instr.fieldAt 35 t36_20 1) fun t37_21 =>
      Read1 Tryd.prog (Instr.loadAt 3 t37_21) w fun t38_22 =>
      Pure1 Tryd.prog (binOp BinOp.sub 3 t34_19 t38_22) fun t39_23 =>
      Pure1 Tryd.prog (binOp BinOp.gtr 3 t13_5 t39_23) fun t40_24 =>
      CondV t40_24 (
        CallV Tryd.prog Z 30 #[x0, t10_3, (Value.int IntKind.i64 10)] w fun t43_25 w =>
        Q (Value.int IntKind.i64 (-1)) w) (
        Q t13_5 w))) w) w) w)
noncomputable def f10.code : Code := match Tryd.f10.body with | some c => c | none => .skip
def f10.an : An := (.sq .leaf (.sq .leaf (.sq .leaf (.sq (.sq .leaf (.cn (.sq .leaf .leaf) .leaf)) (.sq (.sq .leaf (.cn (.sq .leaf (.sq .leaf .leaf)) .leaf)) (.sq (.sq (.dr (.take 0 false (.take 1 false (.take 2 false (.take 3 false (.take 4 true (.take 5 false (.take 6 false (.take 7 false (.take 8 false (.take 9 true (.take 10 false (.take 11 false .fin))))))))))))) (.cn (.sq .leaf (.sq .leaf .leaf)) .leaf)) (.sq .leaf .leaf)))))))
theorem f10.body_eq : Tryd.f10.body = some f10.code := by kernel_rfl
theorem f10.shape (Z : List PanicEntry → World → Prop) (x0 x1 : Value) (w : World) (Q : Value → World → Prop) : vc drawD Tryd.prog 45 Z [29, 30] f10.an f10.code (fnQ Tryd.prog 45 Tryd.f10.results Q) (argEnv [x0, x1]) w = f10.sh Z x0 x1 w Q := by kernel_rfl
theorem f10.enters : ∀ f, f ∈ ([29, 30] : List Nat) → Enters Tryd.prog f := by
  intro f hf
  simp only [List.mem_cons, List.not_mem_nil, or_false] at hf
  rcases hf with rfl | rfl
  · exact en29
  · exact en30
theorem f10.calls {Z : List PanicEntry → World → Prop} {x0 x1 : Value} {w : World} {Q : Value → World → Prop} (h : f10.sh Z x0 x1 w Q) : CallV Tryd.prog Z 10 #[x0, x1] w Q :=
  calls_of_vcn drawD_sound (Q := Q) (n := 45) (rs := Tryd.f10.results) (an := f10.an) (c := f10.code) (cal := [29, 30]) (args := [x0, x1]) Tryd.func10 (by kernel_rfl) rfl f10.body_eq follows (Nat.le_of_ble_eq_true (by kernel_rfl)) (enters_of_all f10.enters) ((f10.shape Z x0 x1 w Q).mpr h)

/-! ### 11: (*lagoon/lagoonref01.Reader).Text -/
def f11.sh (Z : List PanicEntry → World → Prop) (x0 x1 : Value) (w : World) (Q : Value → World → Prop) : Prop :=
  CallV Tryd.prog Z 31 #[x0, x1] w fun t7_1 w =>
  run1 Tryd.prog Z (convert 22 9 t7_1) w fun t8_2 w =>
  Q t8_2 w
noncomputable def f11.code : Code := match Tryd.f11.body with | some c => c | none => .skip
def f11.an : An := (.sq .leaf (.sq .leaf .leaf))
theorem f11.body_eq : Tryd.f11.body = some f11.code := by kernel_rfl
theorem f11.shape (Z : List PanicEntry → World → Prop) (x0 x1 : Value) (w : World) (Q : Value → World → Prop) : vc drawD Tryd.prog 9 Z [31] f11.an f11.code (fnQ Tryd.prog 9 Tryd.f11.results Q) (argEnv [x0, x1]) w = f11.sh Z x0 x1 w Q := by kernel_rfl
theorem f11.enters : ∀ f, f ∈ ([31] : List Nat) → Enters Tryd.prog f := by
  intro f hf
  simp only [List.mem_cons, List.not_mem_nil, or_false] at hf
  rcases hf with rfl
  · exact en31
theorem f11.calls {Z : List PanicEntry → World → Prop} {x0 x1 : Value} {w : World} {Q : Value → World → Prop} (h : f11.sh Z x0 x1 w Q) : CallV Tryd.prog Z 11 #[x0, x1] w Q :=
  calls_of_vcn drawD_sound (Q := Q) (n := 9) (rs := Tryd.f11.results) (an := f11.an) (c := f11.code) (cal := [31]) (args := [x0, x1]) Tryd.func11 (by kernel_rfl) rfl f11.body_eq follows (Nat.le_of_ble_eq_true (by kernel_rfl)) (enters_of_all f11.enters) ((f11.shape Z x0 x1 w Q).mpr h)

/-! ### 12: lagoon/lagoonref00.EqTexts -/
def f12.sh (Z : List PanicEntry → World → Prop) (x0 x1 : Value) (w : World) (Q : Value → World → Prop) : Prop :=
  run1 Tryd.prog Z (Builtin.len_ #[27] 3 #[x0]) w fun t7_1 w =>
  run1 Tryd.prog Z (Builtin.len_ #[27] 3 #[x1]) w fun t9_2 w =>
  run1 Tryd.prog Z (eqOp BinOp.neq 3 false false t7_1 t9_2) w fun t10_3 w =>
  CondV t10_3 (
    Q (Value.bool false) w) (
    ∃ J_4 : Nat → Value → World → Prop, (∃ m, J_4 m (Value.int IntKind.i64 0) w) ∧
      ∀ m_4, ∀ t5_5 : Value, ∀ w : World, J_4 m_4 t5_5 w → Env →
        run1 Tryd.prog Z (Builtin.len_ #[27] 3 #[x0]) w fun t13_6 w =>
        run1 Tryd.prog Z (binOp BinOp.lss 3 t5_5 t13_6) w fun t14_7 w =>
        CondV t14_7 (
          Drawn w fun w =>
          Pure1 Tryd.prog (Instr.indexAt 27 x0 t5_5) fun t19_8 =>
          Read1 Tryd.prog (Instr.loadAt 9 t19_8) w fun t20_9 =>
          Pure1 Tryd.prog (Instr.indexAt 27 x1 t5_5) fun t23_10 =>
          Read1 Tryd.prog (Instr.loadAt 9 t23_10) w fun t24_11 =>
          Pure1 Tryd.prog (eqOp BinOp.neq 9 false false t20_9 t24_11) fun t25_12 =>
          CondV t25_12 (
            Q (Value.bool false) w) (
            run1 Tryd.prog Z (binOp BinOp.add 3 t5_5 (Value.int IntKind.i64 1)) w fun t16_13 w =>
            ∃ n_4, n_4 < m_4 ∧ J_4 n_4 t16_13 w)) (
          Q (Value.bool true) w))
noncomputable def f12.code : Code := match Tryd.f12.body with | some c => c | none => .skip
def f12.an : An := (.sq .leaf (.sq (.sq .leaf (.cn (.sq .leaf .leaf) .leaf)) (.sq (.sq .leaf (.bl (.lp [5] [4, 5, 11, 12, 13, 14, 15, 16, 17, 18, 19, 20, 21, 22, 23, 24, 25] (.sq (.sq .leaf (.cn .leaf .leaf)) (.sq (.bl (.sq (.dr (.take 0 false (.take 1 false (.take 2 false (.take 3 true (.take 4 false (.take 5 false (.take 6 false (.take 7 true (.take 8 false .fin)))))))))) (.cn (.sq .leaf .leaf) .leaf))) .leaf))))) (.sq .leaf .leaf))))
theorem f12.body_eq : Tryd.f12.body = some f12.code := by kernel_rfl
theorem f12.shape (Z : List PanicEntry → World → Prop) (x0 x1 : Value) (w : World) (Q : Value → World → Prop) : vc drawD Tryd.prog 26 Z [] f12.an f12.code (fnQ Tryd.prog 26 Tryd.f12.results Q) (argEnv [x0, x1]) w = f12.sh Z x0 x1 w Q := by kernel_rfl
theorem f12.enters : ∀ f, f ∈ ([] : List Nat) → Enters Tryd.prog f := by
  intro f hf
  cases hf
theorem f12.calls {Z : List PanicEntry → World → Prop} {x0 x1 : Value} {w : World} {Q : Value → World → Prop} (h : f12.sh Z x0 x1 w Q) : CallV Tryd.prog Z 12 #[x0, x1] w Q :=
  calls_of_vcn drawD_sound (Q := Q) (n := 26) (rs := Tryd.f12.results) (an := f12.an) (c := f12.code) (cal := []) (args := [x0, x1]) Tryd.func12 (by kernel_rfl) rfl f12.body_eq follows (Nat.le_of_ble_eq_true (by kernel_rfl)) (enters_of_all f12.enters) ((f12.shape Z x0 x1 w Q).mpr h)

/-! ### 13: (*lagoon/pack.Reader).Left -/
def f13.sh (Z : List PanicEntry → World → Prop) (x0 : Value) (w : World) (Q : Value → World → Prop) : Prop :=
  CallV Tryd.prog Z 25 #[x0] w fun t4_1 w =>
  run1 Tryd.prog Z (Builtin.len_ #[22] 3 #[t4_1]) w fun t5_2 w =>
  Q t5_2 w
noncomputable def f13.code : Code := match Tryd.f13.body with | some c => c | none => .skip
def f13.an : An := (.sq .leaf (.sq .leaf .leaf))
theorem f13.body_eq : Tryd.f13.body = some f13.code := by kernel_rfl
theorem f13.shape (Z : List PanicEntry → World → Prop) (x0 : Value) (w : World) (Q : Value → World → Prop) : vc drawD Tryd.prog 6 Z [25] f13.an f13.code (fnQ Tryd.prog 6 Tryd.f13.results Q) (argEnv [x0]) w = f13.sh Z x0 w Q := by kernel_rfl
theorem f13.enters : ∀ f, f ∈ ([25] : List Nat) → Enters Tryd.prog f := by
  intro f hf
  simp only [List.mem_cons, List.not_mem_nil, or_false] at hf
  rcases hf with rfl
  · exact en25
theorem f13.calls {Z : List PanicEntry → World → Prop} {x0 : Value} {w : World} {Q : Value → World → Prop} (h : f13.sh Z x0 w Q) : CallV Tryd.prog Z 13 #[x0] w Q :=
  calls_of_vcn drawD_sound (Q := Q) (n := 6) (rs := Tryd.f13.results) (an := f13.an) (c := f13.code) (cal := [25]) (args := [x0]) Tryd.func13 (by kernel_rfl) rfl f13.body_eq follows (Nat.le_of_ble_eq_true (by kernel_rfl)) (enters_of_all f13.enters) ((f13.shape Z x0 w Q).mpr h)

/-! ### 14: (*lagoon/lagoonref01.Reader).Left -/
def f14.sh (Z : List PanicEntry → World → Prop) (x0 : Value) (w : World) (Q : Value → World → Prop) : Prop :=
  Drawn w fun w =>
  PureV Tryd.prog (nilChk x0) fun t4_1 =>
  Pure1 Tryd.prog (Instr.fieldAt 35 t4_1 0) fun t5_2 =>
  Read1 Tryd.prog (Instr.loadAt 22 t5_2) w fun t6_3 =>
  Pure1 Tryd.prog (Builtin.len_ #[22] 3 #[t6_3]) fun t7_4 =>
  PureV Tryd.prog (nilChk x0) fun t9_5 =>
  Pure1 Tryd.prog (Instr.fieldAt 35 t9_5 1) fun t10_6 =>
  Read1 Tryd.prog (Instr.loadAt 3 t10_6) w fun t11_7 =>
  Pure1 Tryd.prog (binOp BinOp.sub 3 t7_4 t11_7) fun t12_8 =>
  Q t12_8 w
noncomputable def f14.code : Code := match Tryd.f14.body with | some c => c | none => .skip
def f14.an : An := (.sq .leaf (.sq (.dr (.take 0 false (.take 1 false (.take 2 false (.take 3 true (.take 4 false (.take 5 false (.take 6 false (.take 7 false (.take 8 true (.take 9 false (.take 10 false .fin)))))))))))) .leaf))
theorem f14.body_eq : Tryd.f14.body = some f14.code := by kernel_rfl
theorem f14.shape (Z : List PanicEntry → World → Prop) (x0 : Value) (w : World) (Q : Value → World → Prop) : vc drawD Tryd.prog 13 Z [] f14.an f14.code (fnQ Tryd.prog 13 Tryd.f14.results Q) (argEnv [x0]) w = f14.sh Z x0 w Q := by kernel_rfl
theorem f14.enters : ∀ f, f ∈ ([] : List Nat) → Enters Tryd.prog f := by
  intro f hf
  cases hf
theorem f14.calls {Z : List PanicEntry → World → Prop} {x0 : Value} {w : World} {Q : Value → World → Prop} (h : f14.sh Z x0 w Q) : CallV Tryd.prog Z 14 #[x0] w Q :=
  calls_of_vcn drawD_sound (Q := Q) (n := 13) (rs := Tryd.f14.results) (an := f14.an) (c := f14.code) (cal := []) (args := [x0]) Tryd.func14 (by kernel_rfl) rfl f14.body_eq follows (Nat.le_of_ble_eq_true (by kernel_rfl)) (enters_of_all f14.enters) ((f14.shape Z x0 w Q).mpr h)

/-! ### 15: (*lagoon/pack.Reader).Err -/
def f15.sh (Z : List PanicEntry → World → Prop) (x0 : Value) (w : World) (Q : Value → World → Prop) : Prop :=
  CallV Tryd.prog Z 32 #[x0] w fun t4_1 w =>
  CondV t4_1 (
    Q (Value.int IntKind.i64 1) w) (
    runX Tryd.prog Z (nilChk x0) w fun t6_2 w =>
    run1 Tryd.prog Z (Instr.fieldAt 76 t6_2 2) w fun t7_3 w =>
    run1 Tryd.prog Z (Instr.loadAt 33 t7_3) w fun t8_4 w =>
    Q t8_4 w)
noncomputable def f15.code : Code := match Tryd.f15.body with | some c => c | none => .skip
def f15.an : An := (.sq .leaf (.sq (.sq .leaf (.cn (.sq .leaf .leaf) .leaf)) (.sq .leaf .leaf)))
theorem f15.body_eq : Tryd.f15.body = some f15.code := by kernel_rfl
theorem f15.shape (Z : List PanicEntry → World → Prop) (x0 : Value) (w : World) (Q : Value → World → Prop) : vc drawD Tryd.prog 9 Z [32] f15.an f15.code (fnQ Tryd.prog 9 Tryd.f15.results Q) (argEnv [x0]) w = f15.sh Z x0 w Q := by kernel_rfl
theorem f15.enters : ∀ f, f ∈ ([32] : List Nat) → Enters Tryd.prog f := by
  intro f hf
  simp only [List.mem_cons, List.not_mem_nil, or_false] at hf
  rcases hf with rfl
  · exact en32
theorem f15.calls {Z : List PanicEntry → World → Prop} {x0 : Value} {w : World} {Q : Value → World → Prop} (h : f15.sh Z x0 w Q) : CallV Tryd.prog Z 15 #[x0] w Q :=
  calls_of_vcn drawD_sound (Q := Q) (n := 9) (rs := Tryd.f15.results) (an := f15.an) (c := f15.code) (cal := [32]) (args := [x0]) Tryd.func15 (by kernel_rfl) rfl f15.body_eq follows (Nat.le_of_ble_eq_true (by kernel_rfl)) (enters_of_all f15.enters) ((f15.shape Z x0 w Q).mpr h)

/-! ### 16: (*lagoon/pack.Reader).End -/
def f16.sh (Z : List PanicEntry → World → Prop) (x0 : Value) (w : World) (Q : Value → World → Prop) : Prop :=
  CallV Tryd.prog Z 26 #[x0] w fun t4_1 w =>
  guardW (t4_1) true (fun k => k (x0) w) (fun t6_2 w =>
  guardW (t4_1) true (fun k => runX Tryd.prog Z (nilChk t6_2) w k) (fun t7_3 w =>
  guardW (t4_1) true (fun k => run1 Tryd.prog Z (Instr.fieldAt 76 t7_3 1) w k) (fun t8_4 w =>
  guardW (t4_1) true (fun k => run1 Tryd.prog Z (Instr.loadAt 22 t8_4) w k) (fun t9_5 w =>
  guardW (t4_1) true (fun k => run1 Tryd.prog Z (Builtin.len_ #[22] 3 #[t9_5]) w k) (fun t10_6 w =>
  guardW (t4_1) true (fun k => run1 Tryd.prog Z (binOp BinOp.gtr 3 t10_6 (Value.int IntKind.i64 0)) w k) (fun t11_7 w =>
  run1 Tryd.prog Z (pickV t4_1 t11_7 (Value.bool false)) w fun t12_8 w =>
  CondV t12_8 (
    Q (Value.int IntKind.i64 13) w) (
    CallV Tryd.prog Z 15 #[x0] w fun t14_9 w =>
    Q t14_9 w)) w) w) w) w) w) w
noncomputable def f16.code : Code := match Tryd.f16.body with | some c => c | none => .skip
def f16.an : An := (.sq .leaf (.sq (.sq .leaf (.cn (.sq .leaf .leaf) .leaf)) (.sq .leaf .leaf)))
theorem f16.body_eq : Tryd.f16.body = some f16.code := by kernel_rfl
theorem f16.shape (Z : List PanicEntry → World → Prop) (x0 : Value) (w : World) (Q : Value → World → Prop) : vc drawD Tryd.prog 15 Z [26, 15] f16.an f16.code (fnQ Tryd.prog 15 Tryd.f16.results Q) (argEnv [x0]) w = f16.sh Z x0 w Q := by kernel_rfl
theorem f16.enters : ∀ f, f ∈ ([26, 15] : List Nat) → Enters Tryd.prog f := by
  intro f hf
  simp only [List.mem_cons, List.not_mem_nil, or_false] at hf
  rcases hf with rfl | rfl
  · exact en26
  · exact en15
theorem f16.calls {Z : List PanicEntry → World → Prop} {x0 : Value} {w : World} {Q : Value → World → Prop} (h : f16.sh Z x0 w Q) : CallV Tryd.prog Z 16 #[x0] w Q :=
  calls_of_vcn drawD_sound (Q := Q) (n := 15) (rs := Tryd.f16.results) (an := f16.an) (c := f16.code) (cal := [26, 15]) (args := [x0]) Tryd.func16 (by kernel_rfl) rfl f16.body_eq follows (Nat.le_of_ble_eq_true (by kernel_rfl)) (enters_of_all f16.enters) ((f16.shape Z x0 w Q).mpr h)

/-! ### 17: (*lagoon/lagoonref01.Reader).End -/
def f17.sh (Z : List PanicEntry → World → Prop) (x0 : Value) (w : World) (Q : Value → World → Prop) : Prop :=
  Drawn w fun w =>
  PureV Tryd.prog (nilChk x0) fun t4_1 =>
  Pure1 Tryd.prog (Instr.fieldAt 35 t4_1 2) fun t5_2 =>
  Read1 Tryd.prog (Instr.loadAt 33 t5_2) w fun t6_3 =>
  Pure1 Tryd.prog (eqOp BinOp.eql 33 false true t6_3 (Value.int IntKind.i64 0)) fun t7_4 =>
  guardV (t7_4) true (fun k => k (x0)) (fun t9_5 =>
  guardV (t7_4) true (fun k => PureV Tryd.prog (nilChk t9_5) k) (fun t10_6 =>
  guardV (t7_4) true (fun k => Pure1 Tryd.prog (Instr.fieldAt 35 t10_6 1) k) (fun t11_7 =>
  guardV (t7_4) true (fun k => Read1 Tryd.prog (Instr.loadAt 3 t11_7) w k) (fun t12_8 =>
  guardV (t7_4) true (fun k => k (x0)) (fun t13_9 =>
  guardV (t7_4) true (fun k => PureV Tryd.prog (nilChk t13_9) k) (fun t14_10 =>
  guardV (t7_4) true (fun k => Pure1 Tryd.prog (Instr.fieldAt 35 t14_10 0) k) (fun t15_11 =>
  guardV (t7_4) true (fun k => Read1 Tryd.prog (Instr.loadAt 22 t15_11) w k) (fun t16_12 =>
  guardV (t7_4) true (fun k => Pure1 Tryd.prog (Builtin.len_ #[22] 3 #[t16_12]) k) (fun t17_13 =>
  guardV (t7_4) true (fun k => Pure1 Tryd.prog (binOp BinOp.lss 3 t12_8 t17_13) k) (fun t18_14 =>
  Pure1 Tryd.prog (pickV t7_4 t18_14 (Value.bool false)) fun t19_15 =>
  CondV t19_15 (
    Q (Value.int IntKind.i64 13) w) (
    runX Tryd.prog Z (nilChk x0) w fun t21_16 w =>
    run1 Tryd.prog Z (Instr.fieldAt 35 t21_16 2) w fun t22_17 w =>
    run1 Tryd.prog Z (Instr.loadAt 33 t22_17) w fun t23_18 w =>
    Q t23_18 w)))))))))))
noncomputable def f17.code : Code := match Tryd.f17.body with | some c => c | none => .skip
def f17.an : An := (.sq .leaf (.sq (.sq (.dr (.take 0 false (.take 1 false (.take 2 false (.take 3 true (.take 4 false (.take 5 false (.take 6 false (.take 7 false (.take 8 false (.take 9 true (.take 10 false (.take 11 false (.take 12 false (.take 13 true (.take 14 false (.take 15 false (.take 16 false .fin)))))))))))))))))) (.cn (.sq .leaf .leaf) .leaf)) (.sq .leaf .leaf)))
theorem f17.body_eq : Tryd.f17.body = some f17.code := by kernel_rfl
theorem f17.shape (Z : List PanicEntry → World → Prop) (x0 : Value) (w : World) (Q : Value → World → Prop) : vc drawD Tryd.prog 24 Z [] f17.an f17.code (fnQ Tryd.prog 24 Tryd.f17.results Q) (argEnv [x0]) w = f17.sh Z x0 w Q := by kernel_rfl
theorem f17.enters : ∀ f, f ∈ ([] : List Nat) → Enters Tryd.prog f := by
  intro f hf
  cases hf
theorem f17.calls {Z : List PanicEntry → World → Prop} {x0 : Value} {w : World} {Q : Value → World → Prop} (h : f17.sh Z x0 w Q) : CallV Tryd.prog Z 17 #[x0] w Q :=
  calls_of_vcn drawD_sound (Q := Q) (n := 24) (rs := Tryd.f17.results) (an := f17.an) (c := f17.code) (cal := []) (args := [x0]) Tryd.func17 (by kernel_rfl) rfl f17.body_eq follows (Nat.le_of_ble_eq_true (by kernel_rfl)) (enters_of_all f17.enters) ((f17.shape Z x0 w Q).mpr h)

/-! ### 18: (*lagoon/lagoonref00.Bag).AddTexts -/
def f18.sh (Z : List PanicEntry → World → Prop) (x0 x1 : Value) (w : World) (Q : Value → World → Prop) : Prop :=
  runX Tryd.prog Z (nilChk x0) w fun t5_1 w =>
  run1 Tryd.prog Z (Instr.fieldAt 63 t5_1 2) w fun t6_2 w =>
  run1 Tryd.prog Z (Instr.loadAt 43 t6_2) w fun t7_3 w =>
  run1 Tryd.prog Z (Builtin.len_ #[43] 3 #[t7_3]) w fun t8_4 w =>
  run1 Tryd.prog Z (binOp BinOp.lss 3 t8_4 (Value.int IntKind.i64 600)) w fun t9_5 w =>
  CondV t9_5 (
    runX Tryd.prog Z (nilChk x0) w fun t12_6 w =>
    run1 Tryd.prog Z (Instr.fieldAt 63 t12_6 2) w fun t13_7 w =>
    run1 Tryd.prog Z (Instr.loadAt 43 t13_7) w fun t14_8 w =>
    run1 Tryd.prog Z (Instr.buildSlice 43 1 #[(0, x1)]) w fun t16_9 w =>
    run1 Tryd.prog Z (Builtin.append_ #[43, 43] 43 #[t14_8, t16_9]) w fun t17_10 w =>
    runX Tryd.prog Z (nilChk x0) w fun t18_11 w =>
    run1 Tryd.prog Z (Instr.fieldAt 63 t18_11 2) w fun t19_12 w =>
    run0 Tryd.prog Z (Instr.storeAt 43 t19_12 t17_10) w fun w =>
    Q (Value.tuple #[]) w) (
    Q (Value.tuple #[]) w)
noncomputable def f18.code : Code := match Tryd.f18.body with | some c => c | none => .skip
def f18.an : An := (.sq .leaf (.cn .leaf .leaf))
theorem f18.body_eq : Tryd.f18.body = some f18.code := by kernel_rfl
theorem f18.shape (Z : List PanicEntry → World → Prop) (x0 x1 : Value) (w : World) (Q : Value → World → Prop) : vc drawD Tryd.prog 20 Z [] f18.an f18.code (fnQ Tryd.prog 20 Tryd.f18.results Q) (argEnv [x0, x1]) w = f18.sh Z x0 x1 w Q := by kernel_rfl
theorem f18.enters : ∀ f, f ∈ ([] : List Nat) → Enters Tryd.prog f := by
  intro f hf
  cases hf
theorem f18.calls {Z : List PanicEntry → World → Prop} {x0 x1 : Value} {w : World} {Q : Value → World → Prop} (h : f18.sh Z x0 x1 w Q) : CallV Tryd.prog Z 18 #[x0, x1] w Q :=
  calls_of_vcn drawD_sound (Q := Q) (n := 20) (rs := Tryd.f18.results) (an := f18.an) (c := f18.code) (cal := []) (args := [x0, x1]) Tryd.func18 (by kernel_rfl) rfl f18.body_eq follows (Nat.le_of_ble_eq_true (by kernel_rfl)) (enters_of_all f18.enters) ((f18.shape Z x0 x1 w Q).mpr h)

/-! ### 19: (*lagoon/lagoonref00.Bag).Apart -/
def f19.sh (Z : List PanicEntry → World → Prop) (x0 : Value) (w : World) (Q : Value → World → Prop) : Prop :=
  runX Tryd.prog Z (nilChk x0) w fun t25_1 w =>
  run1 Tryd.prog Z (Instr.fieldAt 63 t25_1 0) w fun t26_2 w =>
  run1 Tryd.prog Z (Instr.loadAt 41 t26_2) w fun t27_3 w =>
  CallV Tryd.prog Z 33 #[t27_3] w fun t28_4 w =>
  runX Tryd.prog Z (nilChk x0) w fun t30_5 w =>
  run1 Tryd.prog Z (Instr.fieldAt 63 t30_5 1) w fun t31_6 w =>
  run1 Tryd.prog Z (Instr.loadAt 42 t31_6) w fun t32_7 w =>
  CallV Tryd.prog Z 34 #[t32_7] w fun t33_8 w =>
  runX Tryd.prog Z (nilChk x0) w fun t35_9 w =>
  run1 Tryd.prog Z (Instr.fieldAt 63 t35_9 2) w fun t36_10 w =>
  run1 Tryd.prog Z (Instr.loadAt 43 t36_10) w fun t37_11 w =>
  CallV Tryd.prog Z 35 #[t37_11] w fun t38_12 w =>
  runX Tryd.prog Z (nilChk x0) w fun t40_13 w =>
  run1 Tryd.prog Z (Instr.fieldAt 63 t40_13 3) w fun t41_14 w =>
  run1 Tryd.prog Z (Instr.loadAt 44 t41_14) w fun t42_15 w =>
  CallV Tryd.prog Z 36 #[t42_15] w fun t43_16 w =>
  runX Tryd.prog Z (nilChk x0) w fun t45_17 w =>
  run1 Tryd.prog Z (Instr.fieldAt 63 t45_17 4) w fun t46_18 w =>
  run1 Tryd.prog Z (Instr.loadAt 45 t46_18) w fun t47_19 w =>
  CallV Tryd.prog Z 37 #[t47_19] w fun t48_20 w =>
  runX Tryd.prog Z (nilChk x0) w fun t50_21 w =>
  run1 Tryd.prog Z (Instr.fieldAt 63 t50_21 5) w fun t51_22 w =>
  run1 Tryd.prog Z (Instr.loadAt 46 t51_22) w fun t52_23 w =>
  CallV Tryd.prog Z 38 #[t52_23] w fun t53_24 w =>
  runX Tryd.prog Z (nilChk x0) w fun t55_25 w =>
  run1 Tryd.prog Z (Instr.fieldAt 63 t55_25 6) w fun t56_26 w =>
  run1 Tryd.prog Z (Instr.loadAt 47 t56_26) w fun t57_27 w =>
  CallV Tryd.prog Z 39 #[t57_27] w fun t58_28 w =>
  runX Tryd.prog Z (nilChk x0) w fun t60_29 w =>
  run1 Tryd.prog Z (Instr.fieldAt 63 t60_29 7) w fun t61_30 w =>
  run1 Tryd.prog Z (Instr.loadAt 48 t61_30) w fun t62_31 w =>
  CallV Tryd.prog Z 40 #[t62_31] w fun t63_32 w =>
  runX Tryd.prog Z (nilChk x0) w fun t65_33 w =>
  run1 Tryd.prog Z (Instr.fieldAt 63 t65_33 8) w fun t66_34 w =>
  run1 Tryd.prog Z (Instr.loadAt 49 t66_34) w fun t67_35 w =>
  CallV Tryd.prog Z 41 #[t67_35] w fun t68_36 w =>
  runX Tryd.prog Z (nilChk x0) w fun t70_37 w =>
  run1 Tryd.prog Z (Instr.fieldAt 63 t70_37 9) w fun t71_38 w =>
  run1 Tryd.prog Z (Instr.loadAt 50 t71_38) w fun t72_39 w =>
  CallV Tryd.prog Z 42 #[t72_39] w fun t73_40 w =>
  runX Tryd.prog Z (nilChk x0) w fun t75_41 w =>
  run1 Tryd.prog Z (Instr.fieldAt 63 t75_41 10) w fun t76_42 w =>
  run1 Tryd.prog Z (Instr.loadAt 51 t76_42) w fun t77_43 w =>
  CallV Tryd.prog Z 43 #[t77_43] w fun t78_44 w =>
  runX Tryd.prog Z (nilChk x0) w fun t80_45 w =>
  run1 Tryd.prog Z (Instr.fieldAt 63 t80_45 11) w fun t81_46 w =>
  run1 Tryd.prog Z (Instr.loadAt 52 t81_46) w fun t82_47 w =>
  CallV Tryd.prog Z 44 #[t82_47] w fun t83_48 w =>
  runX Tryd.prog Z (nilChk x0) w fun t85_49 w =>
  run1 Tryd.prog Z (Instr.fieldAt 63 t85_49 12) w fun t86_50 w =>
  run1 Tryd.prog Z (Instr.loadAt 53 t86_50) w fun t87_51 w =>
  CallV Tryd.prog Z 45 #[t87_51] w fun t88_52 w =>
  runX Tryd.prog Z (nilChk x0) w fun t90_53 w =>
  run1 Tryd.prog Z (Instr.fieldAt 63 t90_53 13) w fun t91_54 w =>
  run1 Tryd.prog Z (Instr.loadAt 54 t91_54) w fun t92_55 w =>
  CallV Tryd.prog Z 46 #[t92_55] w fun t93_56 w =>
  runX Tryd.prog Z (nilChk x0) w fun t95_57 w =>
  run1 Tryd.prog Z (Instr.fieldAt 63 t95_57 14) w fun t96_58 w =>
  run1 Tryd.prog Z (Instr.loadAt 55 t96_58) w fun t97_59 w =>
  CallV Tryd.prog Z 47 #[t97_59] w fun t98_60 w =>
  runX Tryd.prog Z (nilChk x0) w fun t100_61 w =>
  run1 Tryd.prog Z (Instr.fieldAt 63 t100_61 15) w fun t101_62 w =>
  run1 Tryd.prog Z (Instr.loadAt 56 t101_62) w fun t102_63 w =>
  CallV Tryd.prog Z 48 #[t102_63] w fun t103_64 w =>
  runX Tryd.prog Z (nilChk x0) w fun t105_65 w =>
  run1 Tryd.prog Z (Instr.fieldAt 63 t105_65 16) w fun t106_66 w =>
  run1 Tryd.prog Z (Instr.loadAt 57 t106_66) w fun t107_67 w =>
  CallV Tryd.prog Z 49 #[t107_67] w fun t108_68 w =>
  runX Tryd.prog Z (nilChk x0) w fun t110_69 w =>
  run1 Tryd.prog Z (Instr.fieldAt 63 t110_69 17) w fun t111_70 w =>
  run1 Tryd.prog Z (Instr.loadAt 58 t111_70) w fun t112_71 w =>
  CallV Tryd.prog Z 50 #[t112_71] w fun t113_72 w =>
  runX Tryd.prog Z (nilChk x0) w fun t115_73 w =>
  run1 Tryd.prog Z (Instr.fieldAt 63 t115_73 18) w fun t116_74 w =>
  run1 Tryd.prog Z (Instr.loadAt 59 t116_74) w fun t117_75 w =>
  CallV Tryd.prog Z 51 #[t117_75] w fun t118_76 w =>
  runX Tryd.prog Z (nilChk x0) w fun t120_77 w =>
  run1 Tryd.prog Z (Instr.fieldAt 63 t120_77 19) w fun t121_78 w =>
  run1 Tryd.prog Z (Instr.loadAt 60 t121_78) w fun t122_79 w =>
  CallV Tryd.prog Z 52 #[t122_79] w fun t123_80 w =>
  runX Tryd.prog Z (nilChk x0) w fun t125_81 w =>
  run1 Tryd.prog Z (Instr.fieldAt 63 t125_81 20) w fun t126_82 w =>
  run1 Tryd.prog Z (Instr.loadAt 61 t126_82) w fun t127_83 w =>
  CallV Tryd.prog Z 53 #[t127_83] w fun t128_84 w =>
  guardW (t28_4) true (fun k => k (t33_8) w) (fun t131_85 w =>
  run1 Tryd.prog Z (pickV t28_4 t131_85 (Value.bool false)) w fun t132_86 w =>
  guardW (t132_86) true (fun k => k (t38_12) w) (fun t134_87 w =>
  run1 Tryd.prog Z (pickV t132_86 t134_87 (Value.bool false)) w fun t135_88 w =>
  guardW (t135_88) true (fun k => k (t43_16) w) (fun t137_89 w =>
  run1 Tryd.prog Z (pickV t135_88 t137_89 (Value.bool false)) w fun t138_90 w =>
  guardW (t138_90) true (fun k => k (t48_20) w) (fun t140_91 w =>
  run1 Tryd.prog Z (pickV t138_90 t140_91 (Value.bool false)) w fun t141_92 w =>
  guardW (t141_92) true (fun k => k (t53_24) w) (fun t143_93 w =>
  run1 Tryd.prog Z (pickV t141_92 t143_93 (Value.bool false)) w fun t144_94 w =>
  guardW (t144_94) true (fun k => k (t58_28) w) (fun t146_95 w =>
  run1 Tryd.prog Z (pickV t144_94 t146_95 (Value.bool false)) w fun t147_96 w =>
  guardW (t147_96) true (fun k => k (t63_32) w) (fun t149_97 w =>
  run1 Tryd.prog Z (pickV t147_96 t149_97 (Value.bool false)) w fun t150_98 w =>
  guardW (t150_98) true (fun k => k (t68_36) w) (fun t152_99 w =>
  run1 Tryd.prog Z (pickV t150_98 t152_99 (Value.bool false)) w fun t153_100 w =>
  guardW (t153_100) true (fun k => k (t73_40) w) (fun t155_101 w =>
  run1 Tryd.prog Z (pickV t153_100 t155_101 (Value.bool false)) w fun t156_102 w =>
  guardW (t156_102) true (fun k => k (t78_44) w) (fun t158_103 w =>
  run1 Tryd.prog Z (pickV t156_102 t158_103 (Value.bool false)) w fun t159_104 w =>
  guardW (t159_104) true (fun k => k (t83_48) w) (fun t161_105 w =>
  run1 Tryd.prog Z (pickV t159_104 t161_105 (Value.bool false)) w fun t162_106 w =>
  guardW (t162_106) true (fun k => k (t88_52) w) (fun t164_107 w =>
  run1 Tryd.prog Z (pickV t162_106 t164_107 (Value.bool false)) w fun t165_108 w =>
  guardW (t165_108) true (fun k => k (t93_56) w) (fun t167_109 w =>
  run1 Tryd.prog Z (pickV t165_108 t167_109 (Value.bool false)) w fun t168_110 w =>
  guardW (t168_110) true (fun k => k (t98_60) w) (fun t170_111 w =>
  run1 Tryd.prog Z (pickV t168_110 t170_111 (Value.bool false)) w fun t171_112 w =>
  guardW (t171_112) true (fun k => k (t103_64) w) (fun t173_113 w =>
  run1 Tryd.prog Z (pickV t171_112 t173_113 (Value.bool false)) w fun t174_114 w =>
  guardW (t174_114) true (fun k => k (t108_68) w) (fun t176_115 w =>
  run1 Tryd.prog Z (pickV t174_114 t176_115 (Value.bool false)) w fun t177_116 w =>
  guardW (t177_116) true (fun k => k (t113_72) w) (fun t179_117 w =>
  run1 Tryd.prog Z (pickV t177_116 t179_117 (Value.bool false)) w fun t180_118 w =>
  guardW (t180_118) true (fun k => k (t118_76) w) (fun t182_119 w =>
  run1 Tryd.prog Z (pickV t180_118 t182_119 (Value.bool false)) w fun t183_120 w =>
  guardW (t183_120) true (fun k => k (t123_80) w) (fun t185_121 w =>
  run1 Tryd.prog Z (pickV t183_120 t185_121 (Value.bool false)) w fun t186_122 w =>
  guardW (t186_122) true (fun k => k (t128_84) w) (fun t188_123 w =>
  run1 Tryd.prog Z (pickV t186_122 t188_123 (Value.bool false)) w fun t189_124 w =>
  Q t189_124 w) w) w) w) w) w) w) w) w) w) w) w) w) w) w) w) w) w) w) w) w
noncomputable def f19.code : Code := match Tryd.f19.body with | some c => c | none => .skip
def f19.an : An := (.sq .leaf (.sq .leaf (.sq .leaf (.sq .leaf (.sq .leaf (.sq .leaf (.sq .leaf (.sq .leaf (.sq .leaf (.sq .leaf (.sq .leaf (.sq .leaf (.sq .leaf (.sq .leaf (.sq .leaf (.sq .leaf (.sq .leaf (.sq .leaf (.sq .leaf (.sq .leaf (.sq .leaf (.sq .leaf (.sq .leaf .leaf)))))))))))))))))))))))
theorem f19.body_eq : Tryd.f19.body = some f19.code := by kernel_rfl
theorem f19.shape (Z : List PanicEntry → World → Prop) (x0 : Value) (w : World) (Q : Value → World → Prop) : vc drawD Tryd.prog 190 Z [33, 34, 35, 36, 37, 38, 39, 40, 41, 42, 43, 44, 45, 46, 47, 48, 49, 50, 51, 52, 53] f19.an f19.code (fnQ Tryd.prog 190 Tryd.f19.results Q) (argEnv [x0]) w = f19.sh Z x0 w Q := by kernel_rfl
theorem f19.enters : ∀ f, f ∈ ([33, 34, 35, 36, 37, 38, 39, 40, 41, 42, 43, 44, 45, 46, 47, 48, 49, 50, 51, 52, 53] : List Nat) → Enters Tryd.prog f := by
  intro f hf
  simp only [List.mem_cons, List.not_mem_nil, or_false] at hf
  rcases hf with rfl | rfl | rfl | rfl | rfl | rfl | rfl | rfl | rfl | rfl | rfl | rfl | rfl | rfl | rfl | rfl | rfl | rfl | rfl | rfl | rfl
  · exact en33
  · exact en34
  · exact en35
  · exact en36
  · exact en37
  · exact en38
  · exact en39
  · exact en40
  · exact en41
  · exact en42
  · exact en43
  · exact en44
  · exact en45
  · exact en46
  · exact en47
  · exact en48
  · exact en49
  · exact en50
  · exact en51
  · exact en52
  · exact en53
theorem f19.calls {Z : List PanicEntry → World → Prop} {x0 : Value} {w : World} {Q : Value → World → Prop} (h : f19.sh Z x0 w Q) : CallV Tryd.prog Z 19 #[x0] w Q :=
  calls_of_vcn drawD_sound (Q := Q) (n := 190) (rs := Tryd.f19.results) (an := f19.an) (c := f19.code) (cal := [33, 34, 35, 36, 37, 38, 39, 40, 41, 42, 43, 44, 45, 46, 47, 48, 49, 50, 51, 52, 53]) (args := [x0]) Tryd.func19 (by kernel_rfl) rfl f19.body_eq follows (Nat.le_of_ble_eq_true (by kernel_rfl)) (enters_of_all f19.enters) ((f19.shape Z x0 w Q).mpr h)

/-! ### 20: (*lagoon/pack.Writer).Int32 -/
def f20.sh (Z : List PanicEntry → World → Prop) (x0 x1 : Value) (w : World) (Q : Value → World → Prop) : Prop :=
  run1 Tryd.prog Z (convert 21 102 x1) w fun t6_1 w =>
  CallV Tryd.prog Z 54 #[x0, t6_1, (Value.int IntKind.i64 4)] w fun t7_2 w =>
  Q (Value.tuple #[]) w
noncomputable def f20.code : Code := match Tryd.f20.body with | some c => c | none => .skip
def f20.an : An := .leaf
theorem f20.body_eq : Tryd.f20.body = some f20.code := by kernel_rfl
theorem f20.shape (Z : List PanicEntry → World → Prop) (x0 x1 : Value) (w : World) (Q : Value → World → Prop) : vc drawD Tryd.prog 8 Z [54] f20.an f20.code (fnQ Tryd.prog 8 Tryd.f20.results Q) (argEnv [x0, x1]) w = f20.sh Z x0 x1 w Q := by kernel_rfl
theorem f20.enters : ∀ f, f ∈ ([54] : List Nat) → Enters Tryd.prog f := by
  intro f hf
  simp only [List.mem_cons, List.not_mem_nil, or_false] at hf
  rcases hf with rfl
  · exact en54
theorem f20.calls {Z : List PanicEntry → World → Prop} {x0 x1 : Value} {w : World} {Q : Value → World → Prop} (h : f20.sh Z x0 x1 w Q) : CallV Tryd.prog Z 20 #[x0, x1] w Q :=
  calls_of_vcn drawD_sound (Q := Q) (n := 8) (rs := Tryd.f20.results) (an := f20.an) (c := f20.code) (cal := [54]) (args := [x0, x1]) Tryd.func20 (by kernel_rfl) rfl f20.body_eq follows (Nat.le_of_ble_eq_true (by kernel_rfl)) (enters_of_all f20.enters) ((f20.shape Z x0 x1 w Q).mpr h)

/-! ### 21: (*lagoon/pack.Reader).Int32 -/
def f21.sh (Z : List PanicEntry → World → Prop) (x0 : Value) (w : World) (Q : Value → World → Prop) : Prop :=
  CallV Tryd.prog Z 55 #[x0, (Value.int IntKind.i64 4)] w fun t4_1 w =>
  run1 Tryd.prog Z (convert 102 21 t4_1) w fun t5_2 w =>
  Q t5_2 w
noncomputable def f21.code : Code := match Tryd.f21.body with | some c => c | none => .skip
def f21.an : An := (.sq .leaf (.sq .leaf .leaf))
theorem f21.body_eq : Tryd.f21.body = some f21.code := by kernel_rfl
theorem f21.shape (Z : List PanicEntry → World → Prop) (x0 : Value) (w : World) (Q : Value → World → Prop) : vc drawD Tryd.prog 6 Z [55] f21.an f21.code (fnQ Tryd.prog 6 Tryd.f21.results Q) (argEnv [x0]) w = f21.sh Z x0 w Q := by kernel_rfl
theorem f21.enters : ∀ f, f ∈ ([55] : List Nat) → Enters Tryd.prog f := by
  intro f hf
  simp only [List.mem_cons, List.not_mem_nil, or_false] at hf
  rcases hf with rfl
  · exact en55
theorem f21.calls {Z : List PanicEntry → World → Prop} {x0 : Value} {w : World} {Q : Value → World → Prop} (h : f21.sh Z x0 w Q) : CallV Tryd.prog Z 21 #[x0] w Q :=
  calls_of_vcn drawD_sound (Q := Q) (n := 6) (rs := Tryd.f21.results) (an := f21.an) (c := f21.code) (cal := [55]) (args := [x0]) Tryd.func21 (by kernel_rfl) rfl f21.body_eq follows (Nat.le_of_ble_eq_true (by kernel_rfl)) (enters_of_all f21.enters) ((f21.shape Z x0 w Q).mpr h)

/-! ### 22: lagoon/pack.Sum -/
def f22.sh (Z : List PanicEntry → World → Prop) (x0 : Value) (w : World) (Q : Value → World → Prop) : Prop :=
  run1 Tryd.prog Z (Builtin.len_ #[22] 3 #[x0]) w fun t8_1 w =>
  ∃ J_2 : Nat → Value → Value → Value → World → Prop, (∃ m, J_2 m (Value.int IntKind.u32 1) (Value.int IntKind.u32 0) (Value.int IntKind.i64 0) w) ∧
    ∀ m_2, ∀ t3_3 : Value, ∀ t4_4 : Value, ∀ t9_5 : Value, ∀ w : World, J_2 m_2 t3_3 t4_4 t9_5 w → Env →
      run1 Tryd.prog Z (binOp BinOp.lss 3 t9_5 t8_1) w fun t10_6 w =>
      CondV t10_6 (
        run1 Tryd.prog Z (Instr.indexAt 22 x0 t9_5) w fun t11_7 w =>
        run1 Tryd.prog Z (Instr.loadAt 5 t11_7) w fun t12_8 w =>
        run1 Tryd.prog Z (convert 5 71 t12_8) w fun t15_9 w =>
        run1 Tryd.prog Z (binOp BinOp.add 71 t3_3 t15_9) w fun t16_10 w =>
        run1 Tryd.prog Z (binOp BinOp.rem 71 t16_10 (Value.int IntKind.u32 65521)) w fun t17_11 w =>
        run1 Tryd.prog Z (binOp BinOp.add 71 t4_4 t17_11) w fun t20_12 w =>
        run1 Tryd.prog Z (binOp BinOp.rem 71 t20_12 (Value.int IntKind.u32 65521)) w fun t21_13 w =>
        run1 Tryd.prog Z (binOp BinOp.add 3 t9_5 (Value.int IntKind.i64 1)) w fun t22_14 w =>
        ∃ n_2, n_2 < m_2 ∧ J_2 n_2 t17_11 t21_13 t22_14 w) (
        run1 Tryd.prog Z (binOp BinOp.shl 71 t4_4 (Value.int IntKind.u64 16)) w fun t24_15 w =>
        run1 Tryd.prog Z (binOp BinOp.or 71 t24_15 t3_3) w fun t26_16 w =>
        Q t26_16 w)
noncomputable def f22.code : Code := match Tryd.f22.body with | some c => c | none => .skip
def f22.an : An := (.sq .leaf (.sq .leaf (.sq (.sq .leaf (.bl (.lp [3, 4, 9] [3, 4, 6, 9, 10, 11, 12, 13, 14, 15, 16, 17, 18, 19, 20, 21, 22] (.sq .leaf (.sq (.cn .leaf .leaf) (.sq (.bl (.sq .leaf (.sq .leaf .leaf))) .leaf)))))) (.sq .leaf .leaf))))
theorem f22.body_eq : Tryd.f22.body = some f22.code := by kernel_rfl
theorem f22.shape (Z : List PanicEntry → World → Prop) (x0 : Value) (w : World) (Q : Value → World → Prop) : vc drawD Tryd.prog 27 Z [] f22.an f22.code (fnQ Tryd.prog 27 Tryd.f22.results Q) (argEnv [x0]) w = f22.sh Z x0 w Q := by kernel_rfl
theorem f22.enters : ∀ f, f ∈ ([] : List Nat) → Enters Tryd.prog f := by
  intro f hf
  cases hf
theorem f22.calls {Z : List PanicEntry → World → Prop} {x0 : Value} {w : World} {Q : Value → World → Prop} (h : f22.sh Z x0 w Q) : CallV Tryd.prog Z 22 #[x0] w Q :=
  calls_of_vcn drawD_sound (Q := Q) (n := 27) (rs := Tryd.f22.results) (an := f22.an) (c := f22.code) (cal := []) (args := [x0]) Tryd.func22 (by kernel_rfl) rfl f22.body_eq follows (Nat.le_of_ble_eq_true (by kernel_rfl)) (enters_of_all f22.enters) ((f22.shape Z x0 w Q).mpr h)

/-! ### 23: lagoon/lagoonref00.EqBytes -/
def f23.sh (Z : List PanicEntry → World → Prop) (x0 x1 : Value) (w : World) (Q : Value → World → Prop) : Prop :=
  run1 Tryd.prog Z (Builtin.len_ #[22] 3 #[x0]) w fun t7_1 w =>
  run1 Tryd.prog Z (Builtin.len_ #[22] 3 #[x1]) w fun t9_2 w =>
  run1 Tryd.prog Z (eqOp BinOp.neq 3 false false t7_1 t9_2) w fun t10_3 w =>
  CondV t10_3 (
    Q (Value.bool false) w) (
    ∃ J_4 : Nat → Value → World → Prop, (∃ m, J_4 m (Value.int IntKind.i64 0) w) ∧
      ∀ m_4, ∀ t5_5 : Value, ∀ w : World, J_4 m_4 t5_5 w → Env →
        run1 Tryd.prog Z (Builtin.len_ #[22] 3 #[x0]) w fun t13_6 w =>
        run1 Tryd.prog Z (binOp BinOp.lss 3 t5_5 t13_6) w fun t14_7 w =>
        CondV t14_7 (
          Drawn w fun w =>
          Pure1 Tryd.prog (Instr.indexAt 22 x0 t5_5) fun t19_8 =>
          Read1 Tryd.prog (Instr.loadAt 5 t19_8) w fun t20_9 =>
          Pure1 Tryd.prog (Instr.indexAt 22 x1 t5_5) fun t23_10 =>
          Read1 Tryd.prog (Instr.loadAt 5 t23_10) w fun t24_11 =>
          Pure1 Tryd.prog (eqOp BinOp.neq 5 false false t20_9 t24_11) fun t25_12 =>
          CondV t25_12 (
            Q (Value.bool false) w) (
            run1 Tryd.prog Z (binOp BinOp.add 3 t5_5 (Value.int IntKind.i64 1)) w fun t16_13 w =>
            ∃ n_4, n_4 < m_4 ∧ J_4 n_4 t16_13 w)) (
          Q (Value.bool true) w))
noncomputable def f23.code : Code := match Tryd.f23.body with | some c => c | none => .skip
def f23.an : An := (.sq .leaf (.sq (.sq .leaf (.cn (.sq .leaf .leaf) .leaf)) (.sq (.sq .leaf (.bl (.lp [5] [4, 5, 11, 12, 13, 14, 15, 16, 17, 18, 19, 20, 21, 22, 23, 24, 25] (.sq (.sq .leaf (.cn .leaf .leaf)) (.sq (.bl (.sq (.dr (.take 0 false (.take 1 false (.take 2 false (.take 3 true (.take 4 false (.take 5 false (.take 6 false (.take 7 true (.take 8 false .fin)))))))))) (.cn (.sq .leaf .leaf) .leaf))) .leaf))))) (.sq .leaf .leaf))))
theorem f23.body_eq : Tryd.f23.body = some f23.code := by kernel_rfl
theorem f23.shape (Z : List PanicEntry → World → Prop) (x0 x1 : Value) (w : World) (Q : Value → World → Prop) : vc drawD Tryd.prog 26 Z [] f23.an f23.code (fnQ Tryd.prog 26 Tryd.f23.results Q) (argEnv [x0, x1]) w = f23.sh Z x0 x1 w Q := by kernel_rfl
theorem f23.enters : ∀ f, f ∈ ([] : List Nat) → Enters Tryd.prog f := by
  intro f hf
  cases hf
theorem f23.calls {Z : List PanicEntry → World → Prop} {x0 x1 : Value} {w : World} {Q : Value → World → Prop} (h : f23.sh Z x0 x1 w Q) : CallV Tryd.prog Z 23 #[x0, x1] w Q :=
  calls_of_vcn drawD_sound (Q := Q) (n := 26) (rs := Tryd.f23.results) (an := f23.an) (c := f23.code) (cal := []) (args := [x0, x1]) Tryd.func23 (by kernel_rfl) rfl f23.body_eq follows (Nat.le_of_ble_eq_true (by kernel_rfl)) (enters_of_all f23.enters) ((f23.shape Z x0 x1 w Q).mpr h)

/-! ### 24: (*lagoon/pack.Writer).Bytes -/
def f24.sh (Z : List PanicEntry → World → Prop) (x0 : Value) (w : World) (Q : Value → World → Prop) : Prop :=
  run1 Tryd.prog Z (eqOp BinOp.eql 66 false true x0 (Value.pointer none)) w fun t4_1 w =>
  CondV t4_1 (
    Q (Value.slice none 0 0) w) (
    runX Tryd.prog Z (nilChk x0) w fun t6_2 w =>
    run1 Tryd.prog Z (Instr.fieldAt 68 t6_2 0) w fun t7_3 w =>
    run1 Tryd.prog Z (Instr.loadAt 22 t7_3) w fun t8_4 w =>
    run1 Tryd.prog Z (Builtin.append_ #[22, 22] 22 #[(Value.slice none 0 0), t8_4]) w fun t9_5 w =>
    Q t9_5 w)
noncomputable def f24.code : Code := match Tryd.f24.body with | some c => c | none => .skip
def f24.an : An := (.sq .leaf (.sq (.sq .leaf (.cn (.sq .leaf .leaf) .leaf)) (.sq .leaf .leaf)))
theorem f24.body_eq : Tryd.f24.body = some f24.code := by kernel_rfl
theorem f24.shape (Z : List PanicEntry → World → Prop) (x0 : Value) (w : World) (Q : Value → World → Prop) : vc drawD Tryd.prog 10 Z [] f24.an f24.code (fnQ Tryd.prog 10 Tryd.f24.results Q) (argEnv [x0]) w = f24.sh Z x0 w Q := by kernel_rfl
theorem f24.enters : ∀ f, f ∈ ([] : List Nat) → Enters Tryd.prog f := by
  intro f hf
  cases hf
theorem f24.calls {Z : List PanicEntry → World → Prop} {x0 : Value} {w : World} {Q : Value → World → Prop} (h : f24.sh Z x0 w Q) : CallV Tryd.prog Z 24 #[x0] w Q :=
  calls_of_vcn drawD_sound (Q := Q) (n := 10) (rs := Tryd.f24.results) (an := f24.an) (c := f24.code) (cal := []) (args := [x0]) Tryd.func24 (by kernel_rfl) rfl f24.body_eq follows (Nat.le_of_ble_eq_true (by kernel_rfl)) (enters_of_all f24.enters) ((f24.shape Z x0 w Q).mpr h)

/-! ### 25: (*lagoon/pack.Reader).mark -/
def f25.sh (Z : List PanicEntry → World → Prop) (x0 : Value) (w : World) (Q : Value → World → Prop) : Prop :=
  CallV Tryd.prog Z 32 #[x0] w fun t4_1 w =>
  CondV t4_1 (
    Q (Value.slice none 0 0) w) (
    runX Tryd.prog Z (nilChk x0) w fun t6_2 w =>
    run1 Tryd.prog Z (Instr.fieldAt 76 t6_2 1) w fun t7_3 w =>
    run1 Tryd.prog Z (Instr.loadAt 22 t7_3) w fun t8_4 w =>
    Q t8_4 w)
noncomputable def f25.code : Code := match Tryd.f25.body with | some c => c | none => .skip
def f25.an : An := (.sq .leaf (.sq (.sq .leaf (.cn (.sq .leaf .leaf) .leaf)) (.sq .leaf .leaf)))
theorem f25.body_eq : Tryd.f25.body = some f25.code := by kernel_rfl
theorem f25.shape (Z : List PanicEntry → World → Prop) (x0 : Value) (w : World) (Q : Value → World → Prop) : vc drawD Tryd.prog 9 Z [32] f25.an f25.code (fnQ Tryd.prog 9 Tryd.f25.results Q) (argEnv [x0]) w = f25.sh Z x0 w Q := by kernel_rfl
theorem f25.enters : ∀ f, f ∈ ([32] : List Nat) → Enters Tryd.prog f := by
  intro f hf
  simp only [List.mem_cons, List.not_mem_nil, or_false] at hf
  rcases hf with rfl
  · exact en32
theorem f25.calls {Z : List PanicEntry → World → Prop} {x0 : Value} {w : World} {Q : Value → World → Prop} (h : f25.sh Z x0 w Q) : CallV Tryd.prog Z 25 #[x0] w Q :=
  calls_of_vcn drawD_sound (Q := Q) (n := 9) (rs := Tryd.f25.results) (an := f25.an) (c := f25.code) (cal := [32]) (args := [x0]) Tryd.func25 (by kernel_rfl) rfl f25.body_eq follows (Nat.le_of_ble_eq_true (by kernel_rfl)) (enters_of_all f25.enters) ((f25.shape Z x0 w Q).mpr h)

/-! ### 26: (*lagoon/pack.Reader).open -/
def f26.sh (Z : List PanicEntry → World → Prop) (x0 : Value) (w : World) (Q : Value → World → Prop) : Prop :=
  CallV Tryd.prog Z 32 #[x0] w fun t4_1 w =>
  run1 Tryd.prog Z (Op.unary UnOp.not t4_1) w fun t5_2 w =>
  guardW (t5_2) true (fun k => k (x0) w) (fun t7_3 w =>
  guardW (t5_2) true (fun k => runX Tryd.prog Z (nilChk t7_3) w k) (fun t8_4 w =>
  guardW (t5_2) true (fun k => run1 Tryd.prog Z (Instr.fieldAt 76 t8_4 2) w k) (fun t9_5 w =>
  guardW (t5_2) true (fun k => run1 Tryd.prog Z (Instr.loadAt 33 t9_5) w k) (fun t10_6 w =>
  guardW (t5_2) true (fun k => run1 Tryd.prog Z (eqOp BinOp.eql 33 false true t10_6 (Value.int IntKind.i64 0)) w k) (fun t11_7 w =>
  run1 Tryd.prog Z (pickV t5_2 t11_7 (Value.bool false)) w fun t12_8 w =>
  Q t12_8 w) w) w) w) w) w
noncomputable def f26.code : Code := match Tryd.f26.body with | some c => c | none => .skip
def f26.an : An := (.sq .leaf (.sq .leaf .leaf))
theorem f26.body_eq : Tryd.f26.body = some f26.code := by kernel_rfl
theorem f26.shape (Z : List PanicEntry → World → Prop) (x0 : Value) (w : World) (Q : Value → World → Prop) : vc drawD Tryd.prog 13 Z [32] f26.an f26.code (fnQ Tryd.prog 13 Tryd.f26.results Q) (argEnv [x0]) w = f26.sh Z x0 w Q := by kernel_rfl
theorem f26.enters : ∀ f, f ∈ ([32] : List Nat) → Enters Tryd.prog f := by
  intro f hf
  simp only [List.mem_cons, List.not_mem_nil, or_false] at hf
  rcases hf with rfl
  · exact en32
theorem f26.calls {Z : List PanicEntry → World → Prop} {x0 : Value} {w : World} {Q : Value → World → Prop} (h : f26.sh Z x0 w Q) : CallV Tryd.prog Z 26 #[x0] w Q :=
  calls_of_vcn drawD_sound (Q := Q) (n := 13) (rs := Tryd.f26.results) (an := f26.an) (c := f26.code) (cal := [32]) (args := [x0]) Tryd.func26 (by kernel_rfl) rfl f26.body_eq follows (Nat.le_of_ble_eq_true (by kernel_rfl)) (enters_of_all f26.enters) ((f26.shape Z x0 w Q).mpr h)

/-! ### 27: (*lagoon/pack.Reader).back -/
def f27.sh (Z : List PanicEntry → World → Prop) (x0 x1 x2 : Value) (w : World) (Q : Value → World → Prop) : Prop :=
  runX Tryd.prog Z (nilChk x0) w fun t10_1 w =>
  run1 Tryd.prog Z (Instr.fieldAt 76 t10_1 1) w fun t11_2 w =>
  run0 Tryd.prog Z (Instr.storeAt 22 t11_2 x1) w fun w =>
  runX Tryd.prog Z (nilChk x0) w fun t12_3 w =>
  run1 Tryd.prog Z (Instr.fieldAt 76 t12_3 2) w fun t13_4 w =>
  run0 Tryd.prog Z (Instr.storeAt 33 t13_4 x2) w fun w =>
  Q (Value.tuple #[]) w
noncomputable def f27.code : Code := match Tryd.f27.body with | some c => c | none => .skip
def f27.an : An := .leaf
theorem f27.body_eq : Tryd.f27.body = some f27.code := by kernel_rfl
theorem f27.shape (Z : List PanicEntry → World → Prop) (x0 x1 x2 : Value) (w : World) (Q : Value → World → Prop) : vc drawD Tryd.prog 14 Z [] f27.an f27.code (fnQ Tryd.prog 14 Tryd.f27.results Q) (argEnv [x0, x1, x2]) w = f27.sh Z x0 x1 x2 w Q := by kernel_rfl
theorem f27.enters : ∀ f, f ∈ ([] : List Nat) → Enters Tryd.prog f := by
  intro f hf
  cases hf
theorem f27.calls {Z : List PanicEntry → World → Prop} {x0 x1 x2 : Value} {w : World} {Q : Value → World → Prop} (h : f27.sh Z x0 x1 x2 w Q) : CallV Tryd.prog Z 27 #[x0, x1, x2] w Q :=
  calls_of_vcn drawD_sound (Q := Q) (n := 14) (rs := Tryd.f27.results) (an := f27.an) (c := f27.code) (cal := []) (args := [x0, x1, x2]) Tryd.func27 (by kernel_rfl) rfl f27.body_eq follows (Nat.le_of_ble_eq_true (by kernel_rfl)) (enters_of_all f27.enters) ((f27.shape Z x0 x1 x2 w Q).mpr h)

/-! ### 28: (*lagoon/pack.Reader).Text -/
def f28.sh (Z : List PanicEntry → World → Prop) (x0 x1 : Value) (w : World) (Q : Value → World → Prop) : Prop :=
  CallV Tryd.prog Z 56 #[x0, x1] w fun t7_1 w =>
  run1 Tryd.prog Z (convert 22 9 t7_1) w fun t8_2 w =>
  Q t8_2 w
noncomputable def f28.code : Code := match Tryd.f28.body with | some c => c | none => .skip
def f28.an : An := (.sq .leaf (.sq .leaf .leaf))
theorem f28.body_eq : Tryd.f28.body = some f28.code := by kernel_rfl
theorem f28.shape (Z : List PanicEntry → World → Prop) (x0 x1 : Value) (w : World) (Q : Value → World → Prop) : vc drawD Tryd.prog 9 Z [56] f28.an f28.code (fnQ Tryd.prog 9 Tryd.f28.results Q) (argEnv [x0, x1]) w = f28.sh Z x0 x1 w Q := by kernel_rfl
theorem f28.enters : ∀ f, f ∈ ([56] : List Nat) → Enters Tryd.prog f := by
  intro f hf
  simp only [List.mem_cons, List.not_mem_nil, or_false] at hf
  rcases hf with rfl
  · exact en56
theorem f28.calls {Z : List PanicEntry → World → Prop} {x0 x1 : Value} {w : World} {Q : Value → World → Prop} (h : f28.sh Z x0 x1 w Q) : CallV Tryd.prog Z 28 #[x0, x1] w Q :=
  calls_of_vcn drawD_sound (Q := Q) (n := 9) (rs := Tryd.f28.results) (an := f28.an) (c := f28.code) (cal := [56]) (args := [x0, x1]) Tryd.func28 (by kernel_rfl) rfl f28.body_eq follows (Nat.le_of_ble_eq_true (by kernel_rfl)) (enters_of_all f28.enters) ((f28.shape Z x0 x1 w Q).mpr h)

/-! ### 29: (*lagoon/lagoonref01.Reader).Int32 -/
def f29.sh (Z : List PanicEntry → World → Prop) (x0 : Value) (w : World) (Q : Value → World → Prop) : Prop :=
  CallV Tryd.prog Z 57 #[x0, (Value.int IntKind.i64 4)] w fun t8_1 w =>
  run1 Tryd.prog Z (Instr.extract t8_1 0) w fun t9_2 w =>
  run1 Tryd.prog Z (Instr.extract t8_1 1) w fun t10_3 w =>
  run1 Tryd.prog Z (convert 102 2 t9_2) w fun t12_4 w =>
  ∀ j_5 : Value → World → Prop, (∀ t5_6 : Value, ∀ w : World, (Env →
      run1 Tryd.prog Z (convert 2 21 t5_6) w fun t18_7 w =>
      Q t18_7 w) →
      j_5 t5_6 w) →
  run1 Tryd.prog Z (binOp BinOp.gtr 2 t12_4 (Value.int IntKind.i64 2147483647)) w fun t14_8 w =>
  CondV t14_8 (
    run1 Tryd.prog Z (binOp BinOp.sub 2 t12_4 (Value.int IntKind.i64 4294967296)) w fun t16_9 w =>
    j_5 t16_9 w) (
    j_5 t12_4 w)
noncomputable def f29.code : Code := match Tryd.f29.body with | some c => c | none => .skip
def f29.an : An := (.sq .leaf (.sq .leaf (.sq .leaf (.sj [5] [5, 13, 14, 15, 16] (.sq .leaf (.cn .leaf .leaf)) (.sq .leaf .leaf)))))
theorem f29.body_eq : Tryd.f29.body = some f29.code := by kernel_rfl
theorem f29.shape (Z : List PanicEntry → World → Prop) (x0 : Value) (w : World) (Q : Value → World → Prop) : vc drawD Tryd.prog 19 Z [57] f29.an f29.code (fnQ Tryd.prog 19 Tryd.f29.results Q) (argEnv [x0]) w = f29.sh Z x0 w Q := by kernel_rfl
theorem f29.enters : ∀ f, f ∈ ([57] : List Nat) → Enters Tryd.prog f := by
  intro f hf
  simp only [List.mem_cons, List.not_mem_nil, or_false] at hf
  rcases hf with rfl
  · exact en57
theorem f29.calls {Z : List PanicEntry → World → Prop} {x0 : Value} {w : World} {Q : Value → World → Prop} (h : f29.sh Z x0 w Q) : CallV Tryd.prog Z 29 #[x0] w Q :=
  calls_of_vcn drawD_sound (Q := Q) (n := 19) (rs := Tryd.f29.results) (an := f29.an) (c := f29.code) (cal := [57]) (args := [x0]) Tryd.func29 (by kernel_rfl) rfl f29.body_eq follows (Nat.le_of_ble_eq_true (by kernel_rfl)) (enters_of_all f29.enters) ((f29.shape Z x0 w Q).mpr h)

/-! ### 30: (*lagoon/lagoonref01.Reader).fault -/
def f30.sh (Z : List PanicEntry → World → Prop) (x0 x1 x2 : Value) (w : World) (Q : Value → World → Prop) : Prop :=
  runX Tryd.prog Z (nilChk x0) w fun t8_1 w =>
  run1 Tryd.prog Z (Instr.fieldAt 35 t8_1 1) w fun t9_2 w =>
  run0 Tryd.prog Z (Instr.storeAt 3 t9_2 x1) w fun w =>
  runX Tryd.prog Z (nilChk x0) w fun t12_3 w =>
  run1 Tryd.prog Z (Instr.fieldAt 35 t12_3 2) w fun t13_4 w =>
  run0 Tryd.prog Z (Instr.storeAt 33 t13_4 x2) w fun w =>
  Q (Value.tuple #[]) w
noncomputable def f30.code : Code := match Tryd.f30.body with | some c => c | none => .skip
def f30.an : An := (.sq .leaf .leaf)
theorem f30.body_eq : Tryd.f30.body = some f30.code := by kernel_rfl
theorem f30.shape (Z : List PanicEntry → World → Prop) (x0 x1 x2 : Value) (w : World) (Q : Value → World → Prop) : vc drawD Tryd.prog 14 Z [] f30.an f30.code (fnQ Tryd.prog 14 Tryd.f30.results Q) (argEnv [x0, x1, x2]) w = f30.sh Z x0 x1 x2 w Q := by kernel_rfl
theorem f30.enters : ∀ f, f ∈ ([] : List Nat) → Enters Tryd.prog f := by
  intro f hf
  cases hf
theorem f30.calls {Z : List PanicEntry → World → Prop} {x0 x1 x2 : Value} {w : World} {Q : Value → World → Prop} (h : f30.sh Z x0 x1 x2 w Q) : CallV Tryd.prog Z 30 #[x0, x1, x2] w Q :=
  calls_of_vcn drawD_sound (Q := Q) (n := 14) (rs := Tryd.f30.results) (an := f30.an) (c := f30.code) (cal := []) (args := [x0, x1, x2]) Tryd.func30 (by kernel_rfl) rfl f30.body_eq follows (Nat.le_of_ble_eq_true (by kernel_rfl)) (enters_of_all f30.enters) ((f30.shape Z x0 x1 x2 w Q).mpr h)

/-! ### 31: (*lagoon/lagoonref01.Reader).Buffer -/
def f31.sh (Z : List PanicEntry → World → Prop) (x0 x1 : Value) (w : World) (Q : Value → World → Prop) : Prop :=
  runX Tryd.prog Z (nilChk x0) w fun t9_1 w =>
  run1 Tryd.prog Z (Instr.fieldAt 35 t9_1 1) w fun t10_2 w =>
  run1 Tryd.prog Z (Instr.loadAt 3 t10_2) w fun t11_3 w =>
  CallV Tryd.prog Z 29 #[x0] w fun t13_4 w =>
  run1 Tryd.prog Z (convert 21 3 t13_4) w fun t14_5 w =>
  runX Tryd.prog Z (nilChk x0) w fun t16_6 w =>
  run1 Tryd.prog Z (Instr.fieldAt 35 t16_6 2) w fun t17_7 w =>
  run1 Tryd.prog Z (Instr.loadAt 33 t17_7) w fun t18_8 w =>
  run1 Tryd.prog Z (eqOp BinOp.neq 33 false true t18_8 (Value.int IntKind.i64 0)) w fun t19_9 w =>
  CondV t19_9 (
    Q (Value.slice none 0 0) w) (
    run1 Tryd.prog Z (binOp BinOp.lss 3 t14_5 (Value.int IntKind.i64 0)) w fun t21_10 w =>
    guardW (t21_10) false (fun k => k (t14_5) w) (fun t23_11 w =>
    guardW (t21_10) false (fun k => k (x1) w) (fun t24_12 w =>
    guardW (t21_10) false (fun k => run1 Tryd.prog Z (binOp BinOp.gtr 3 t23_11 t24_12) w k) (fun t25_13 w =>
    run1 Tryd.prog Z (pickV t21_10 (Value.bool true) t25_13) w fun t26_14 w =>
    CondV t26_14 (
      CallV Tryd.prog Z 30 #[x0, t11_3, (Value.int IntKind.i64 11)] w fun t29_15 w =>
      Q (Value.slice none 0 0) w) (
      Drawn w fun w =>
      PureV Tryd.prog (nilChk x0) fun t31_16 =>
      Pure1 Tryd.prog (Instr.fieldAt 35 t31_16 0) fun t32_17 =>
      Read1 Tryd.prog (Instr.loadAt 22 t32_17) w fun t33_18 =>
      Pure1 Tryd.prog (Builtin.len_ #[22] 3 #[t33_18]) fun t34_19 =>
      PureV Tryd.prog (nilChk x0) fun t36_20 =>
      Pure1 Tryd.prog (Instr.fieldAt 35 t36_20 1) fun t37_21 =>
      Read1 Tryd.prog (Instr.loadAt 3 t37_21) w fun t38_22 =>
      Pure1 Tryd.prog (binOp BinOp.sub 3 t34_19 t38_22) fun t39_23 =>
      Pure1 Tryd.prog (binOp BinOp.lss 3 t39_23 t14_5) fun t41_24 =>
      CondV t41_24 (
        CallV Tryd.prog Z 30 #[x0, t11_3, (Value.int IntKind.i64 10)] w fun t44_25 w =>
        Q (Value.slice none 0 0) w) (
        Drawn w fun w =>
        PureV Tryd.prog (nilChk x0) fun t46_26 =>
        Pure1 Tryd.prog (Instr.fieldAt 35 t46_26 0) fun t47_27 =>
        Read1 Tryd.prog (Instr.loadAt 22 t47_27) w fun t48_28 =>
        PureV Tryd.prog (nilChk x0) fun t50_29 =>
        Pure1 Tryd.prog (Instr.fieldAt 35 t50_29 1) fun t51_30 =>
        Read1 Tryd.prog (Instr.loadAt 3 t51_30) w fun t52_31 =>
        PureV Tryd.prog (nilChk x0) fun t54_32 =>
        Pure1 Tryd.prog (Instr.fieldAt 35 t54_32 1) fun t55_33 =>
        Read1 Tryd.prog (Instr.loadAt 3 t55_33) w fun t56_34 =>
        Pure1 Tryd.prog (binOp BinOp.add 3 t56_34 t14_5) fun t58_35 =>
        Pure1 Tryd.prog (Instr.sliceAt 22 t48_28 (some t52_31) (some t58_35) none) fun t59_36 =>
        CallV Tryd.prog Z 6 #[t59_36] w fun t60_37 w =>
          Still Tryd.prog (nx (Instr.loadAt 3 t55_33)) t56_34 w <|
          Still Tryd.prog (nx (Instr.loadAt 3 t51_30)) t52_31 w <|
          Still Tryd.prog (nx (Instr.loadAt 22 t47_27)) t48_28 w <|
        runX Tryd.prog Z (nilChk x0) w fun t63_38 w =>
        run1 Tryd.prog Z (Instr.fieldAt 35 t63_38 1) w fun t64_39 w =>
        run1 Tryd.prog Z (Instr.loadAt 3 t64_39) w fun t65_40 w =>
        run1 Tryd.prog Z (binOp BinOp.add 3 t65_40 t14_5) w fun t67_41 w =>
        runX Tryd.prog Z (nilChk x0) w fun t68_42 w =>
        run1 Tryd.prog Z (Instr.fieldAt 35 t68_42 1) w fun t69_43 w =>
        run0 Tryd.prog Z (Instr.storeAt 3 t69_43 t67_41) w fun w =>
        Q t60_37 w))) w) w) w)
noncomputable def f31.code : Code := match Tryd.f31.body with | some c => c | none => .skip
def f31.an : An := (.sq .leaf (.sq .leaf (.sq .leaf (.sq (.sq .leaf (.cn (.sq .leaf .leaf) .leaf)) (.sq (.sq .leaf (.cn (.sq .leaf (.sq .leaf .leaf)) .leaf)) (.sq (.sq (.dr (.take 0 false (.take 1 false (.take 2 false (.take 3 true (.take 4 false (.take 5 false (.take 6 false (.take 7 false (.take 8 true (.take 9 false (.take 10 false (.take 11 false .fin))))))))))))) (.cn (.sq .leaf (.sq .leaf .leaf)) .leaf)) (.sq (.dr (.take 0 false (.take 1 false (.take 2 false (.take 3 true (.take 4 false (.take 5 false (.take 6 false (.take 7 true (.take 8 false (.take 9 false (.take 10 false (.take 11 true (.take 12 false (.take 13 false (.take 14 false (.one 15 (.take 16 false .fin)))))))))))))))))) (.sq .leaf (.sq .leaf .leaf)))))))))
theorem f31.body_eq : Tryd.f31.body = some f31.code := by kernel_rfl
theorem f31.shape (Z : List PanicEntry → World → Prop) (x0 x1 : Value) (w : World) (Q : Value → World → Prop) : vc drawD Tryd.prog 71 Z [29, 30, 6] f31.an f31.code (fnQ Tryd.prog 71 Tryd.f31.results Q) (argEnv [x0, x1]) w = f31.sh Z x0 x1 w Q := by kernel_rfl
theorem f31.enters : ∀ f, f ∈ ([29, 30, 6] : List Nat) → Enters Tryd.prog f := by
  intro f hf
  simp only [List.mem_cons, List.not_mem_nil, or_false] at hf
  rcases hf with rfl | rfl | rfl
  · exact en29
  · exact en30
  · exact en6
theorem f31.calls {Z : List PanicEntry → World → Prop} {x0 x1 : Value} {w : World} {Q : Value → World → Prop} (h : f31.sh Z x0 x1 w Q) : CallV Tryd.prog Z 31 #[x0, x1] w Q :=
  calls_of_vcn drawD_sound (Q := Q) (n := 71) (rs := Tryd.f31.results) (an := f31.an) (c := f31.code) (cal := [29, 30, 6]) (args := [x0, x1]) Tryd.func31 (by kernel_rfl) rfl f31.body_eq follows (Nat.le_of_ble_eq_true (by kernel_rfl)) (enters_of_all f31.enters) ((f31.shape Z x0 x1 w Q).mpr h)

/-! ### 32: (*lagoon/pack.Reader).none -/
def f32.sh (Z : List PanicEntry → World → Prop) (x0 : Value) (w : World) (Q : Value → World → Prop) : Prop :=
  run1 Tryd.prog Z (eqOp BinOp.eql 24 false true x0 (Value.pointer none)) w fun t4_1 w =>
  guardW (t4_1) false (fun k => k (x0) w) (fun t6_2 w =>
  guardW (t4_1) false (fun k => runX Tryd.prog Z (nilChk t6_2) w k) (fun t7_3 w =>
  guardW (t4_1) false (fun k => run1 Tryd.prog Z (Instr.fieldAt 76 t7_3 0) w k) (fun t8_4 w =>
  guardW (t4_1) false (fun k => run1 Tryd.prog Z (Instr.loadAt 4 t8_4) w k) (fun t9_5 w =>
  guardW (t4_1) false (fun k => run1 Tryd.prog Z (Op.unary UnOp.not t9_5) w k) (fun t10_6 w =>
  run1 Tryd.prog Z (pickV t4_1 (Value.bool true) t10_6) w fun t11_7 w =>
  Q t11_7 w) w) w) w) w) w
noncomputable def f32.code : Code := match Tryd.f32.body with | some c => c | none => .skip
def f32.an : An := (.sq .leaf (.sq .leaf .leaf))
theorem f32.body_eq : Tryd.f32.body = some f32.code := by kernel_rfl
theorem f32.shape (Z : List PanicEntry → World → Prop) (x0 : Value) (w : World) (Q : Value → World → Prop) : vc drawD Tryd.prog 12 Z [] f32.an f32.code (fnQ Tryd.prog 12 Tryd.f32.results Q) (argEnv [x0]) w = f32.sh Z x0 w Q := by kernel_rfl
theorem f32.enters : ∀ f, f ∈ ([] : List Nat) → Enters Tryd.prog f := by
  intro f hf
  cases hf
theorem f32.calls {Z : List PanicEntry → World → Prop} {x0 : Value} {w : World} {Q : Value → World → Prop} (h : f32.sh Z x0 w Q) : CallV Tryd.prog Z 32 #[x0] w Q :=
  calls_of_vcn drawD_sound (Q := Q) (n := 12) (rs := Tryd.f32.results) (an := f32.an) (c := f32.code) (cal := []) (args := [x0]) Tryd.func32 (by kernel_rfl) rfl f32.body_eq follows (Nat.le_of_ble_eq_true (by kernel_rfl)) (enters_of_all f32.enters) ((f32.shape Z x0 w Q).mpr h)

/-! ### 33: lagoon/lagoonref00.apartBytes -/
def f33.sh (Z : List PanicEntry → World → Prop) (x0 : Value) (w : World) (Q : Value → World → Prop) : Prop :=
  ∃ J_1 : Nat → Value → World → Prop, (∃ m, J_1 m (Value.int IntKind.i64 1) w) ∧
    ∀ m_1, ∀ t3_2 : Value, ∀ w : World, J_1 m_1 t3_2 w → Env →
      run1 Tryd.prog Z (eqOp BinOp.eql 3 false true t3_2 (Value.int IntKind.i64 1)) w fun t8_3 w =>
      guardW (t8_3) false (fun k => k (t3_2) w) (fun t10_4 w =>
      guardW (t8_3) false (fun k => k (x0) w) (fun t11_5 w =>
      guardW (t8_3) false (fun k => run1 Tryd.prog Z (Builtin.len_ #[41] 3 #[t11_5]) w k) (fun t12_6 w =>
      guardW (t8_3) false (fun k => run1 Tryd.prog Z (binOp BinOp.leq 3 t10_4 t12_6) w k) (fun t13_7 w =>
      run1 Tryd.prog Z (pickV t8_3 (Value.bool true) t13_7) w fun t14_8 w =>
      CondV t14_8 (
        ∃ J_9 : Nat → Value → World → Prop, (∃ m, J_9 m (Value.int IntKind.i64 0) w) ∧
          ∀ m_9, ∀ t4_10 : Value, ∀ w : World, J_9 m_9 t4_10 w → Env →
            run1 Tryd.prog Z (Builtin.len_ #[41] 3 #[x0]) w fun t19_11 w =>
            run1 Tryd.prog Z (binOp BinOp.lss 3 t4_10 t19_11) w fun t20_12 w =>
            CondV t20_12 (
              ∃ J_13 : Nat → Value → World → Prop, (∃ m, J_13 m (Value.int IntKind.i64 0) w) ∧
                ∀ m_13, ∀ t5_14 : Value, ∀ w : World, J_13 m_13 t5_14 w → Env →
                  run1 Tryd.prog Z (Instr.indexAt 41 x0 t4_10) w fun t26_15 w =>
                  run1 Tryd.prog Z (Instr.loadAt 22 t26_15) w fun t27_16 w =>
                  run1 Tryd.prog Z (Builtin.len_ #[22] 3 #[t27_16]) w fun t28_17 w =>
                  run1 Tryd.prog Z (binOp BinOp.lss 3 t5_14 t28_17) w fun t29_18 w =>
                  CondV t29_18 (
                    Drawn w fun w =>
                    Pure1 Tryd.prog (Instr.indexAt 41 x0 t4_10) fun t34_19 =>
                    Read1 Tryd.prog (Instr.loadAt 22 t34_19) w fun t35_20 =>
                    Pure1 Tryd.prog (binOp BinOp.quo 3 t4_10 t3_2) fun t39_21 =>
                    Pure1 Tryd.prog (binOp BinOp.rem 3 t39_21 (Value.int IntKind.i64 100)) fun t40_22 =>
                    Pure1 Tryd.prog (convert 3 5 t40_22) fun t41_23 =>
                    Pure1 Tryd.prog (Instr.indexAt 22 t35_20 t5_14) fun t42_24 =>
                    run0 Tryd.prog Z (Instr.storeAt 5 t42_24 t41_23) w fun w =>
                    run1 Tryd.prog Z (binOp BinOp.add 3 t5_14 (Value.int IntKind.i64 1)) w fun t31_25 w =>
                    ∃ n_13, n_13 < m_13 ∧ J_13 n_13 t31_25 w) (
                    run1 Tryd.prog Z (binOp BinOp.add 3 t4_10 (Value.int IntKind.i64 1)) w fun t22_26 w =>
                    ∃ n_9, n_9 < m_9 ∧ J_9 n_9 t22_26 w)) (
              CallV Tryd.prog Z 58 #[x0, t3_2, (Value.int IntKind.i64 1)] w fun t45_27 w =>
              guardW (t45_27) true (fun k => k (x0) w) (fun t47_28 w =>
              guardW (t45_27) true (fun k => k (t3_2) w) (fun t48_29 w =>
              guardW (t45_27) true (fun k => CallV Tryd.prog Z 58 #[t47_28, t48_29, (Value.int IntKind.i64 64)] w k) (fun t49_30 w =>
              run1 Tryd.prog Z (pickV t45_27 t49_30 (Value.bool false)) w fun t50_31 w =>
              run1 Tryd.prog Z (Op.unary UnOp.not t50_31) w fun t52_32 w =>
              CondV t52_32 (
                Q (Value.bool false) w) (
                run1 Tryd.prog Z (binOp BinOp.mul 3 t3_2 (Value.int IntKind.i64 100)) w fun t16_33 w =>
                ∃ n_1, n_1 < m_1 ∧ J_1 n_1 t16_33 w)) w) w) w)) (
        Q (Value.bool true) w)) w) w) w) w
noncomputable def f33.code : Code := match Tryd.f33.body with | some c => c | none => .skip
def f33.an : An := (.sq .leaf (.sq (.sq .leaf (.bl (.lp [3] [2, 3, 4, 5, 6, 7, 8, 9, 10, 11, 12, 13, 14, 15, 16, 17, 18, 19, 20, 21, 22, 23, 24, 25, 26, 27, 28, 29, 30, 31, 32, 33, 34, 35, 36, 37, 38, 39, 40, 41, 42, 43, 44, 45, 46, 47, 48, 49, 50, 51, 52] (.sq (.sq .leaf (.cn .leaf .leaf)) (.sq (.bl (.sq (.sq .leaf (.bl (.lp [4] [4, 5, 17, 18, 19, 20, 21, 22, 23, 24, 25, 26, 27, 28, 29, 30, 31, 32, 33, 34, 35, 36, 37, 38, 39, 40, 41, 42] (.sq (.sq .leaf (.cn .leaf .leaf)) (.sq (.bl (.sq .leaf (.bl (.lp [5] [5, 23, 24, 25, 26, 27, 28, 29, 30, 31, 32, 33, 34, 35, 36, 37, 38, 39, 40, 41, 42] (.sq (.sq .leaf (.cn .leaf .leaf)) (.sq (.bl (.dr (.take 0 false (.take 1 false (.take 2 false (.take 3 true (.take 4 false (.take 5 false (.take 6 false (.take 7 false (.take 8 false (.take 9 false (.take 10 false (.one 11 .fin)))))))))))))) .leaf)))))) .leaf))))) (.sq .leaf (.sq .leaf (.cn (.sq .leaf .leaf) .leaf))))) .leaf))))) (.sq .leaf .leaf)))
theorem f33.body_eq : Tryd.f33.body = some f33.code := by kernel_rfl
theorem f33.shape (Z : List PanicEntry → World → Prop) (x0 : Value) (w : World) (Q : Value → World → Prop) : vc drawD Tryd.prog 53 Z [58] f33.an f33.code (fnQ Tryd.prog 53 Tryd.f33.results Q) (argEnv [x0]) w = f33.sh Z x0 w Q := by kernel_rfl
theorem f33.enters : ∀ f, f ∈ ([58] : List Nat) → Enters Tryd.prog f := by
  intro f hf
  simp only [List.mem_cons, List.not_mem_nil, or_false] at hf
  rcases hf with rfl
  · exact en58
theorem f33.calls {Z : List PanicEntry → World → Prop} {x0 : Value} {w : World} {Q : Value → World → Prop} (h : f33.sh Z x0 w Q) : CallV Tryd.prog Z 33 #[x0] w Q :=
  calls_of_vcn drawD_sound (Q := Q) (n := 53) (rs := Tryd.f33.results) (an := f33.an) (c := f33.code) (cal := [58]) (args := [x0]) Tryd.func33 (by kernel_rfl) rfl f33.body_eq follows (Nat.le_of_ble_eq_true (by kernel_rfl)) (enters_of_all f33.enters) ((f33.shape Z x0 w Q).mpr h)

/-! ### 34: lagoon/lagoonref00.apartInts -/
def f34.sh (Z : List PanicEntry → World → Prop) (x0 : Value) (w : World) (Q : Value → World → Prop) : Prop :=
  ∃ J_1 : Nat → Value → World → Prop, (∃ m, J_1 m (Value.int IntKind.i64 0) w) ∧
    ∀ m_1, ∀ t3_2 : Value, ∀ w : World, J_1 m_1 t3_2 w → Env →
      run1 Tryd.prog Z (Builtin.len_ #[42] 3 #[x0]) w fun t9_3 w =>
      run1 Tryd.prog Z (binOp BinOp.lss 3 t3_2 t9_3) w fun t10_4 w =>
      CondV t10_4 (
        ∃ J_5 : Nat → Value → World → Prop, (∃ m, J_5 m (Value.int IntKind.i64 0) w) ∧
          ∀ m_5, ∀ t4_6 : Value, ∀ w : World, J_5 m_5 t4_6 w → Env →
            run1 Tryd.prog Z (Instr.indexAt 42 x0 t3_2) w fun t16_7 w =>
            run1 Tryd.prog Z (Instr.loadAt 108 t16_7) w fun t17_8 w =>
            run1 Tryd.prog Z (Builtin.len_ #[108] 3 #[t17_8]) w fun t18_9 w =>
            run1 Tryd.prog Z (binOp BinOp.lss 3 t4_6 t18_9) w fun t19_10 w =>
            CondV t19_10 (
              run1 Tryd.prog Z (Instr.indexAt 42 x0 t3_2) w fun t24_11 w =>
              run1 Tryd.prog Z (Instr.loadAt 108 t24_11) w fun t25_12 w =>
              run1 Tryd.prog Z (binOp BinOp.sub 3 (Value.int IntKind.i64 (-1000000)) t3_2) w fun t28_13 w =>
              run1 Tryd.prog Z (Instr.indexAt 108 t25_12 t4_6) w fun t29_14 w =>
              run0 Tryd.prog Z (Instr.storeAt 3 t29_14 t28_13) w fun w =>
              run1 Tryd.prog Z (binOp BinOp.add 3 t4_6 (Value.int IntKind.i64 1)) w fun t21_15 w =>
              ∃ n_5, n_5 < m_5 ∧ J_5 n_5 t21_15 w) (
              run1 Tryd.prog Z (binOp BinOp.add 3 t3_2 (Value.int IntKind.i64 1)) w fun t12_16 w =>
              ∃ n_1, n_1 < m_1 ∧ J_1 n_1 t12_16 w)) (
        CallV Tryd.prog Z 59 #[x0, (Value.int IntKind.i64 1)] w fun t31_17 w =>
        CallV Tryd.prog Z 59 #[x0, (Value.int IntKind.i64 24)] w fun t33_18 w =>
        guardW (t31_17) true (fun k => k (t33_18) w) (fun t36_19 w =>
        run1 Tryd.prog Z (pickV t31_17 t36_19 (Value.bool false)) w fun t37_20 w =>
        Q t37_20 w) w)
noncomputable def f34.code : Code := match Tryd.f34.body with | some c => c | none => .skip
def f34.an : An := (.sq .leaf (.sq (.sq .leaf (.bl (.lp [3] [3, 4, 7, 8, 9, 10, 11, 12, 13, 14, 15, 16, 17, 18, 19, 20, 21, 22, 23, 24, 25, 26, 27, 28, 29] (.sq (.sq .leaf (.cn .leaf .leaf)) (.sq (.bl (.sq .leaf (.bl (.lp [4] [4, 13, 14, 15, 16, 17, 18, 19, 20, 21, 22, 23, 24, 25, 26, 27, 28, 29] (.sq (.sq .leaf (.cn .leaf .leaf)) (.sq (.bl .leaf) .leaf)))))) .leaf))))) (.sq .leaf (.sq .leaf (.sq .leaf .leaf)))))
theorem f34.body_eq : Tryd.f34.body = some f34.code := by kernel_rfl
theorem f34.shape (Z : List PanicEntry → World → Prop) (x0 : Value) (w : World) (Q : Value → World → Prop) : vc drawD Tryd.prog 38 Z [59] f34.an f34.code (fnQ Tryd.prog 38 Tryd.f34.results Q) (argEnv [x0]) w = f34.sh Z x0 w Q := by kernel_rfl
theorem f34.enters : ∀ f, f ∈ ([59] : List Nat) → Enters Tryd.prog f := by
  intro f hf
  simp only [List.mem_cons, List.not_mem_nil, or_false] at hf
  rcases hf with rfl
  · exact en59
theorem f34.calls {Z : List PanicEntry → World → Prop} {x0 : Value} {w : World} {Q : Value → World → Prop} (h : f34.sh Z x0 w Q) : CallV Tryd.prog Z 34 #[x0] w Q :=
  calls_of_vcn drawD_sound (Q := Q) (n := 38) (rs := Tryd.f34.results) (an := f34.an) (c := f34.code) (cal := [59]) (args := [x0]) Tryd.func34 (by kernel_rfl) rfl f34.body_eq follows (Nat.le_of_ble_eq_true (by kernel_rfl)) (enters_of_all f34.enters) ((f34.shape Z x0 w Q).mpr h)

/-! ### 35: lagoon/lagoonref00.apartTexts -/
def f35.sh (Z : List PanicEntry → World → Prop) (x0 : Value) (w : World) (Q : Value → World → Prop) : Prop :=
  ∃ J_1 : Nat → Value → World → Prop, (∃ m, J_1 m (Value.int IntKind.i64 0) w) ∧
    ∀ m_1, ∀ t3_2 : Value, ∀ w : World, J_1 m_1 t3_2 w → Env →
      run1 Tryd.prog Z (Builtin.len_ #[43] 3 #[x0]) w fun t9_3 w =>
      run1 Tryd.prog Z (binOp BinOp.lss 3 t3_2 t9_3) w fun t10_4 w =>
      CondV t10_4 (
        ∃ J_5 : Nat → Value → World → Prop, (∃ m, J_5 m (Value.int IntKind.i64 0) w) ∧
          ∀ m_5, ∀ t4_6 : Value, ∀ w : World, J_5 m_5 t4_6 w → Env →
            run1 Tryd.prog Z (Instr.indexAt 43 x0 t3_2) w fun t16_7 w =>
            run1 Tryd.prog Z (Instr.loadAt 27 t16_7) w fun t17_8 w =>
            run1 Tryd.prog Z (Builtin.len_ #[27] 3 #[t17_8]) w fun t18_9 w =>
            run1 Tryd.prog Z (binOp BinOp.lss 3 t4_6 t18_9) w fun t19_10 w =>
            CondV t19_10 (
              Drawn w fun w =>
              Pure1 Tryd.prog (Instr.indexAt 43 x0 t3_2) fun t24_11 =>
              Read1 Tryd.prog (Instr.loadAt 27 t24_11) w fun t25_12 =>
              Pure1 Tryd.prog (binOp BinOp.sub 3 (Value.int IntKind.i64 (-1000000)) t3_2) fun t28_13 =>
              CallV Tryd.prog Z 60 #[t28_13] w fun t29_14 w =>
                Still Tryd.prog (nx (Instr.loadAt 27 t24_11)) t25_12 w <|
              Pure1 Tryd.prog (Instr.indexAt 27 t25_12 t4_6) fun t30_15 =>
              run0 Tryd.prog Z (Instr.storeAt 9 t30_15 t29_14) w fun w =>
              run1 Tryd.prog Z (binOp BinOp.add 3 t4_6 (Value.int IntKind.i64 1)) w fun t21_16 w =>
              ∃ n_5, n_5 < m_5 ∧ J_5 n_5 t21_16 w) (
              run1 Tryd.prog Z (binOp BinOp.add 3 t3_2 (Value.int IntKind.i64 1)) w fun t12_17 w =>
              ∃ n_1, n_1 < m_1 ∧ J_1 n_1 t12_17 w)) (
        CallV Tryd.prog Z 61 #[x0, (Value.int IntKind.i64 1)] w fun t32_18 w =>
        CallV Tryd.prog Z 61 #[x0, (Value.int IntKind.i64 24)] w fun t34_19 w =>
        guardW (t32_18) true (fun k => k (t34_19) w) (fun t37_20 w =>
        run1 Tryd.prog Z (pickV t32_18 t37_20 (Value.bool false)) w fun t38_21 w =>
        Q t38_21 w) w)
noncomputable def f35.code : Code := match Tryd.f35.body with | some c => c | none => .skip
def f35.an : An := (.sq .leaf (.sq (.sq .leaf (.bl (.lp [3] [3, 4, 7, 8, 9, 10, 11, 12, 13, 14, 15, 16, 17, 18, 19, 20, 21, 22, 23, 24, 25, 26, 27, 28, 29, 30] (.sq (.sq .leaf (.cn .leaf .leaf)) (.sq (.bl (.sq .leaf (.bl (.lp [4] [4, 13, 14, 15, 16, 17, 18, 19, 20, 21, 22, 23, 24, 25, 26, 27, 28, 29, 30] (.sq (.sq .leaf (.cn .leaf .leaf)) (.sq (.bl (.dr (.take 0 false (.take 1 false (.take 2 false (.take 3 true (.take 4 false (.take 5 false (.take 6 false (.one 7 (.take 8 false (.one 9 .fin)))))))))))) .leaf)))))) .leaf))))) (.sq .leaf (.sq .leaf (.sq .leaf .leaf)))))
theorem f35.body_eq : Tryd.f35.body = some f35.code := by kernel_rfl
theorem f35.shape (Z : List PanicEntry → World → Prop) (x0 : Value) (w : World) (Q : Value → World → Prop) : vc drawD Tryd.prog 39 Z [60, 61] f35.an f35.code (fnQ Tryd.prog 39 Tryd.f35.results Q) (argEnv [x0]) w = f35.sh Z x0 w Q := by kernel_rfl
theorem f35.enters : ∀ f, f ∈ ([60, 61] : List Nat) → Enters Tryd.prog f := by
  intro f hf
  simp only [List.mem_cons, List.not_mem_nil, or_false] at hf
  rcases hf with rfl | rfl
  · exact en60
  · exact en61
theorem f35.calls {Z : List PanicEntry → World → Prop} {x0 : Value} {w : World} {Q : Value → World → Prop} (h : f35.sh Z x0 w Q) : CallV Tryd.prog Z 35 #[x0] w Q :=
  calls_of_vcn drawD_sound (Q := Q) (n := 39) (rs := Tryd.f35.results) (an := f35.an) (c := f35.code) (cal := [60, 61]) (args := [x0]) Tryd.func35 (by kernel_rfl) rfl f35.body_eq follows (Nat.le_of_ble_eq_true (by kernel_rfl)) (enters_of_all f35.enters) ((f35.shape Z x0 w Q).mpr h)

/-! ### 36: lagoon/lagoonref00.apartPieces -/
def f36.sh (Z : List PanicEntry → World → Prop) (x0 : Value) (w : World) (Q : Value → World → Prop) : Prop :=
  ∃ J_1 : Nat → Value → World → Prop, (∃ m, J_1 m (Value.int IntKind.i64 0) w) ∧
    ∀ m_1, ∀ t3_2 : Value, ∀ w : World, J_1 m_1 t3_2 w → Env →
      run1 Tryd.prog Z (Builtin.len_ #[44] 3 #[x0]) w fun t9_3 w =>
      run1 Tryd.prog Z (binOp BinOp.lss 3 t3_2 t9_3) w fun t10_4 w =>
      CondV t10_4 (
        ∃ J_5 : Nat → Value → World → Prop, (∃ m, J_5 m (Value.int IntKind.i64 0) w) ∧
          ∀ m_5, ∀ t4_6 : Value, ∀ w : World, J_5 m_5 t4_6 w → Env →
            run1 Tryd.prog Z (Instr.indexAt 44 x0 t3_2) w fun t16_7 w =>
            run1 Tryd.prog Z (Instr.loadAt 41 t16_7) w fun t17_8 w =>
            run1 Tryd.prog Z (Builtin.len_ #[41] 3 #[t17_8]) w fun t18_9 w =>
            run1 Tryd.prog Z (binOp BinOp.lss 3 t4_6 t18_9) w fun t19_10 w =>
            CondV t19_10 (
              Drawn w fun w =>
              Pure1 Tryd.prog (Instr.indexAt 44 x0 t3_2) fun t24_11 =>
              Read1 Tryd.prog (Instr.loadAt 41 t24_11) w fun t25_12 =>
              Pure1 Tryd.prog (binOp BinOp.sub 3 (Value.int IntKind.i64 (-1000000)) t3_2) fun t28_13 =>
              CallV Tryd.prog Z 60 #[t28_13] w fun t29_14 w =>
                Still Tryd.prog (nx (Instr.loadAt 41 t24_11)) t25_12 w <|
              run1 Tryd.prog Z (convert 9 22 t29_14) w fun t30_15 w =>
                Still Tryd.prog (nx (Instr.loadAt 41 t24_11)) t25_12 w <|
              Pure1 Tryd.prog (Instr.indexAt 41 t25_12 t4_6) fun t31_16 =>
              run0 Tryd.prog Z (Instr.storeAt 22 t31_16 t30_15) w fun w =>
              run1 Tryd.prog Z (binOp BinOp.add 3 t4_6 (Value.int IntKind.i64 1)) w fun t21_17 w =>
              ∃ n_5, n_5 < m_5 ∧ J_5 n_5 t21_17 w) (
              run1 Tryd.prog Z (binOp BinOp.add 3 t3_2 (Value.int IntKind.i64 1)) w fun t12_18 w =>
              ∃ n_1, n_1 < m_1 ∧ J_1 n_1 t12_18 w)) (
        CallV Tryd.prog Z 62 #[x0, (Value.int IntKind.i64 1)] w fun t33_19 w =>
        CallV Tryd.prog Z 62 #[x0, (Value.int IntKind.i64 24)] w fun t35_20 w =>
        guardW (t33_19) true (fun k => k (t35_20) w) (fun t38_21 w =>
        run1 Tryd.prog Z (pickV t33_19 t38_21 (Value.bool false)) w fun t39_22 w =>
        Q t39_22 w) w)
noncomputable def f36.code : Code := match Tryd.f36.body with | some c => c | none => .skip
def f36.an : An := (.sq .leaf (.sq (.sq .leaf (.bl (.lp [3] [3, 4, 7, 8, 9, 10, 11, 12, 13, 14, 15, 16, 17, 18, 19, 20, 21, 22, 23, 24, 25, 26, 27, 28, 29, 30, 31] (.sq (.sq .leaf (.cn .leaf .leaf)) (.sq (.bl (.sq .leaf (.bl (.lp [4] [4, 13, 14, 15, 16, 17, 18, 19, 20, 21, 22, 23, 24, 25, 26, 27, 28, 29, 30, 31] (.sq (.sq .leaf (.cn .leaf .leaf)) (.sq (.bl (.dr (.take 0 false (.take 1 false (.take 2 false (.take 3 true (.take 4 false (.take 5 false (.take 6 false (.one 7 (.one 8 (.take 9 false (.one 10 .fin))))))))))))) .leaf)))))) .leaf))))) (.sq .leaf (.sq .leaf (.sq .leaf .leaf)))))
theorem f36.body_eq : Tryd.f36.body = some f36.code := by kernel_rfl
theorem f36.shape (Z : List PanicEntry → World → Prop) (x0 : Value) (w : World) (Q : Value → World → Prop) : vc drawD Tryd.prog 40 Z [60, 62] f36.an f36.code (fnQ Tryd.prog 40 Tryd.f36.results Q) (argEnv [x0]) w = f36.sh Z x0 w Q := by kernel_rfl
theorem f36.enters : ∀ f, f ∈ ([60, 62] : List Nat) → Enters Tryd.prog f := by
  intro f hf
  simp only [List.mem_cons, List.not_mem_nil, or_false] at hf
  rcases hf with rfl | rfl
  · exact en60
  · exact en62
theorem f36.calls {Z : List PanicEntry → World → Prop} {x0 : Value} {w : World} {Q : Value → World → Prop} (h : f36.sh Z x0 w Q) : CallV Tryd.prog Z 36 #[x0] w Q :=
  calls_of_vcn drawD_sound (Q := Q) (n := 40) (rs := Tryd.f36.results) (an := f36.an) (c := f36.code) (cal := [60, 62]) (args := [x0]) Tryd.func36 (by kernel_rfl) rfl f36.body_eq follows (Nat.le_of_ble_eq_true (by kernel_rfl)) (enters_of_all f36.enters) ((f36.shape Z x0 w Q).mpr h)

/-! ### 37: lagoon/lagoonref00.apartIds -/
def f37.sh (Z : List PanicEntry → World → Prop) (x0 : Value) (w : World) (Q : Value → World → Prop) : Prop :=
  ∃ J_1 : Nat → Value → World → Prop, (∃ m, J_1 m (Value.int IntKind.i64 0) w) ∧
    ∀ m_1, ∀ t3_2 : Value, ∀ w : World, J_1 m_1 t3_2 w → Env →
      run1 Tryd.prog Z (Builtin.len_ #[45] 3 #[x0]) w fun t9_3 w =>
      run1 Tryd.prog Z (binOp BinOp.lss 3 t3_2 t9_3) w fun t10_4 w =>
      CondV t10_4 (
        ∃ J_5 : Nat → Value → World → Prop, (∃ m, J_5 m (Value.int IntKind.i64 0) w) ∧
          ∀ m_5, ∀ t4_6 : Value, ∀ w : World, J_5 m_5 t4_6 w → Env →
            run1 Tryd.prog Z (Instr.indexAt 45 x0 t3_2) w fun t16_7 w =>
            run1 Tryd.prog Z (Instr.loadAt 112 t16_7) w fun t17_8 w =>
            run1 Tryd.prog Z (Builtin.len_ #[112] 3 #[t17_8]) w fun t18_9 w =>
            run1 Tryd.prog Z (binOp BinOp.lss 3 t4_6 t18_9) w fun t19_10 w =>
            CondV t19_10 (
              Drawn w fun w =>
              Pure1 Tryd.prog (Instr.indexAt 45 x0 t3_2) fun t24_11 =>
              Read1 Tryd.prog (Instr.loadAt 112 t24_11) w fun t25_12 =>
              Pure1 Tryd.prog (binOp BinOp.sub 3 (Value.int IntKind.i64 (-1000000)) t3_2) fun t28_13 =>
              CallV Tryd.prog Z 60 #[t28_13] w fun t29_14 w =>
                Still Tryd.prog (nx (Instr.loadAt 112 t24_11)) t25_12 w <|
              Pure1 Tryd.prog (Instr.build 114 #[(1, t29_14)]) fun t30_15 =>
              Pure1 Tryd.prog (Instr.indexAt 112 t25_12 t4_6) fun t31_16 =>
              run0 Tryd.prog Z (Instr.storeAt 114 t31_16 t30_15) w fun w =>
              run1 Tryd.prog Z (binOp BinOp.add 3 t4_6 (Value.int IntKind.i64 1)) w fun t21_17 w =>
              ∃ n_5, n_5 < m_5 ∧ J_5 n_5 t21_17 w) (
              run1 Tryd.prog Z (binOp BinOp.add 3 t3_2 (Value.int IntKind.i64 1)) w fun t12_18 w =>
              ∃ n_1, n_1 < m_1 ∧ J_1 n_1 t12_18 w)) (
        CallV Tryd.prog Z 63 #[x0, (Value.int IntKind.i64 1)] w fun t33_19 w =>
        CallV Tryd.prog Z 63 #[x0, (Value.int IntKind.i64 24)] w fun t35_20 w =>
        guardW (t33_19) true (fun k => k (t35_20) w) (fun t38_21 w =>
        run1 Tryd.prog Z (pickV t33_19 t38_21 (Value.bool false)) w fun t39_22 w =>
        Q t39_22 w) w)
noncomputable def f37.code : Code := match Tryd.f37.body with | some c => c | none => .skip
def f37.an : An := (.sq .leaf (.sq (.sq .leaf (.bl (.lp [3] [3, 4, 7, 8, 9, 10, 11, 12, 13, 14, 15, 16, 17, 18, 19, 20, 21, 22, 23, 24, 25, 26, 27, 28, 29, 30, 31] (.sq (.sq .leaf (.cn .leaf .leaf)) (.sq (.bl (.sq .leaf (.bl (.lp [4] [4, 13, 14, 15, 16, 17, 18, 19, 20, 21, 22, 23, 24, 25, 26, 27, 28, 29, 30, 31] (.sq (.sq .leaf (.cn .leaf .leaf)) (.sq (.bl (.dr (.take 0 false (.take 1 false (.take 2 false (.take 3 true (.take 4 false (.take 5 false (.take 6 false (.one 7 (.take 8 false (.take 9 false (.one 10 .fin))))))))))))) .leaf)))))) .leaf))))) (.sq .leaf (.sq .leaf (.sq .leaf .leaf)))))
theorem f37.body_eq : Tryd.f37.body = some f37.code := by kernel_rfl
theorem f37.shape (Z : List PanicEntry → World → Prop) (x0 : Value) (w : World) (Q : Value → World → Prop) : vc drawD Tryd.prog 40 Z [60, 63] f37.an f37.code (fnQ Tryd.prog 40 Tryd.f37.results Q) (argEnv [x0]) w = f37.sh Z x0 w Q := by kernel_rfl
theorem f37.enters : ∀ f, f ∈ ([60, 63] : List Nat) → Enters Tryd.prog f := by
  intro f hf
  simp only [List.mem_cons, List.not_mem_nil, or_false] at hf
  rcases hf with rfl | rfl
  · exact en60
  · exact en63
theorem f37.calls {Z : List PanicEntry → World → Prop} {x0 : Value} {w : World} {Q : Value → World → Prop} (h : f37.sh Z x0 w Q) : CallV Tryd.prog Z 37 #[x0] w Q :=
  calls_of_vcn drawD_sound (Q := Q) (n := 40) (rs := Tryd.f37.results) (an := f37.an) (c := f37.code) (cal := [60, 63]) (args := [x0]) Tryd.func37 (by kernel_rfl) rfl f37.body_eq follows (Nat.le_of_ble_eq_true (by kernel_rfl)) (enters_of_all f37.enters) ((f37.shape Z x0 w Q).mpr h)

/-! ### 38: lagoon/lagoonref00.apartAcl -/
def f38.sh (Z : List PanicEntry → World → Prop) (x0 : Value) (w : World) (Q : Value → World → Prop) : Prop :=
  ∃ J_1 : Nat → Value → World → Prop, (∃ m, J_1 m (Value.int IntKind.i64 0) w) ∧
    ∀ m_1, ∀ t3_2 : Value, ∀ w : World, J_1 m_1 t3_2 w → Env →
      run1 Tryd.prog Z (Builtin.len_ #[46] 3 #[x0]) w fun t9_3 w =>
      run1 Tryd.prog Z (binOp BinOp.lss 3 t3_2 t9_3) w fun t10_4 w =>
      CondV t10_4 (
        ∃ J_5 : Nat → Value → World → Prop, (∃ m, J_5 m (Value.int IntKind.i64 0) w) ∧
          ∀ m_5, ∀ t4_6 : Value, ∀ w : World, J_5 m_5 t4_6 w → Env →
            run1 Tryd.prog Z (Instr.indexAt 46 x0 t3_2) w fun t16_7 w =>
            run1 Tryd.prog Z (Instr.loadAt 116 t16_7) w fun t17_8 w =>
            run1 Tryd.prog Z (Builtin.len_ #[116] 3 #[t17_8]) w fun t18_9 w =>
            run1 Tryd.prog Z (binOp BinOp.lss 3 t4_6 t18_9) w fun t19_10 w =>
            CondV t19_10 (
              Drawn w fun w =>
              Pure1 Tryd.prog (Instr.indexAt 46 x0 t3_2) fun t24_11 =>
              Read1 Tryd.prog (Instr.loadAt 116 t24_11) w fun t25_12 =>
              Pure1 Tryd.prog (binOp BinOp.sub 3 (Value.int IntKind.i64 (-1000000)) t3_2) fun t28_13 =>
              CallV Tryd.prog Z 60 #[t28_13] w fun t29_14 w =>
                Still Tryd.prog (nx (Instr.loadAt 116 t24_11)) t25_12 w <|
              Pure1 Tryd.prog (Instr.build 114 #[(1, t29_14)]) fun t30_15 =>
              Pure1 Tryd.prog (Instr.build 119 #[(1, t30_15)]) fun t31_16 =>
              Pure1 Tryd.prog (Instr.indexAt 116 t25_12 t4_6) fun t32_17 =>
              run0 Tryd.prog Z (Instr.storeAt 119 t32_17 t31_16) w fun w =>
              run1 Tryd.prog Z (binOp BinOp.add 3 t4_6 (Value.int IntKind.i64 1)) w fun t21_18 w =>
              ∃ n_5, n_5 < m_5 ∧ J_5 n_5 t21_18 w) (
              run1 Tryd.prog Z (binOp BinOp.add 3 t3_2 (Value.int IntKind.i64 1)) w fun t12_19 w =>
              ∃ n_1, n_1 < m_1 ∧ J_1 n_1 t12_19 w)) (
        CallV Tryd.prog Z 64 #[x0, (Value.int IntKind.i64 1)] w fun t34_20 w =>
        CallV Tryd.prog Z 64 #[x0, (Value.int IntKind.i64 24)] w fun t36_21 w =>
        guardW (t34_20) true (fun k => k (t36_21) w) (fun t39_22 w =>
        run1 Tryd.prog Z (pickV t34_20 t39_22 (Value.bool false)) w fun t40_23 w =>
        Q t40_23 w) w)
noncomputable def f38.code : Code := match Tryd.f38.body with | some c => c | none => .skip
def f38.an : An := (.sq .leaf (.sq (.sq .leaf (.bl (.lp [3] [3, 4, 7, 8, 9, 10, 11, 12, 13, 14, 15, 16, 17, 18, 19, 20, 21, 22, 23, 24, 25, 26, 27, 28, 29, 30, 31, 32] (.sq (.sq .leaf (.cn .leaf .leaf)) (.sq (.bl (.sq .leaf (.bl (.lp [4] [4, 13, 14, 15, 16, 17, 18, 19, 20, 21, 22, 23, 24, 25, 26, 27, 28, 29, 30, 31, 32] (.sq (.sq .leaf (.cn .leaf .leaf)) (.sq (.bl (.dr (.take 0 false (.take 1 false (.take 2 false (.take 3 true (.take 4 false (.take 5 false (.take 6 false (.one 7 (.take 8 false (.take 9 false (.take 10 false (.one 11 .fin)))))))))))))) .leaf)))))) .leaf))))) (.sq .leaf (.sq .leaf (.sq .leaf .leaf)))))
theorem f38.body_eq : Tryd.f38.body = some f38.code := by kernel_rfl
theorem f38.shape (Z : List PanicEntry → World → Prop) (x0 : Value) (w : World) (Q : Value → World → Prop) : vc drawD Tryd.prog 41 Z [60, 64] f38.an f38.code (fnQ Tryd.prog 41 Tryd.f38.results Q) (argEnv [x0]) w = f38.sh Z x0 w Q := by kernel_rfl
theorem f38.enters : ∀ f, f ∈ ([60, 64] : List Nat) → Enters Tryd.prog f := by
  intro f hf
  simp only [List.mem_cons, List.not_mem_nil, or_false] at hf
  rcases hf with rfl | rfl
  · exact en60
  · exact en64
theorem f38.calls {Z : List PanicEntry → World → Prop} {x0 : Value} {w : World} {Q : Value → World → Prop} (h : f38.sh Z x0 w Q) : CallV Tryd.prog Z 38 #[x0] w Q :=
  calls_of_vcn drawD_sound (Q := Q) (n := 41) (rs := Tryd.f38.results) (an := f38.an) (c := f38.code) (cal := [60, 64]) (args := [x0]) Tryd.func38 (by kernel_rfl) rfl f38.body_eq follows (Nat.le_of_ble_eq_true (by kernel_rfl)) (enters_of_all f38.enters) ((f38.shape Z x0 w Q).mpr h)

/-! ### 39: lagoon/lagoonref00.apartRequests -/
def f39.sh (Z : List PanicEntry → World → Prop) (x0 : Value) (w : World) (Q : Value → World → Prop) : Prop :=
  ∃ J_1 : Nat → Value → World → Prop, (∃ m, J_1 m (Value.int IntKind.i64 0) w) ∧
    ∀ m_1, ∀ t3_2 : Value, ∀ w : World, J_1 m_1 t3_2 w → Env →
      run1 Tryd.prog Z (Builtin.len_ #[47] 3 #[x0]) w fun t9_3 w =>
      run1 Tryd.prog Z (binOp BinOp.lss 3 t3_2 t9_3) w fun t10_4 w =>
      CondV t10_4 (
        ∃ J_5 : Nat → Value → World → Prop, (∃ m, J_5 m (Value.int IntKind.i64 0) w) ∧
          ∀ m_5, ∀ t4_6 : Value, ∀ w : World, J_5 m_5 t4_6 w → Env →
            run1 Tryd.prog Z (Instr.indexAt 47 x0 t3_2) w fun t16_7 w =>
            run1 Tryd.prog Z (Instr.loadAt 121 t16_7) w fun t17_8 w =>
            run1 Tryd.prog Z (Builtin.len_ #[121] 3 #[t17_8]) w fun t18_9 w =>
            run1 Tryd.prog Z (binOp BinOp.lss 3 t4_6 t18_9) w fun t19_10 w =>
            CondV t19_10 (
              run1 Tryd.prog Z (Instr.indexAt 47 x0 t3_2) w fun t24_11 w =>
              run1 Tryd.prog Z (Instr.loadAt 121 t24_11) w fun t25_12 w =>
              run1 Tryd.prog Z (binOp BinOp.sub 3 (Value.int IntKind.i64 (-1000000)) t3_2) w fun t28_13 w =>
              run1 Tryd.prog Z (Instr.build 123 #[(7, t28_13)]) w fun t29_14 w =>
              run1 Tryd.prog Z (Instr.indexAt 121 t25_12 t4_6) w fun t30_15 w =>
              run0 Tryd.prog Z (Instr.storeAt 123 t30_15 t29_14) w fun w =>
              run1 Tryd.prog Z (binOp BinOp.add 3 t4_6 (Value.int IntKind.i64 1)) w fun t21_16 w =>
              ∃ n_5, n_5 < m_5 ∧ J_5 n_5 t21_16 w) (
              run1 Tryd.prog Z (binOp BinOp.add 3 t3_2 (Value.int IntKind.i64 1)) w fun t12_17 w =>
              ∃ n_1, n_1 < m_1 ∧ J_1 n_1 t12_17 w)) (
        CallV Tryd.prog Z 65 #[x0, (Value.int IntKind.i64 1)] w fun t32_18 w =>
        CallV Tryd.prog Z 65 #[x0, (Value.int IntKind.i64 24)] w fun t34_19 w =>
        guardW (t32_18) true (fun k => k (t34_19) w) (fun t37_20 w =>
        run1 Tryd.prog Z (pickV t32_18 t37_20 (Value.bool false)) w fun t38_21 w =>
        Q t38_21 w) w)
noncomputable def f39.code : Code := match Tryd.f39.body with | some c => c | none => .skip
def f39.an : An := (.sq .leaf (.sq (.sq .leaf (.bl (.lp [3] [3, 4, 7, 8, 9, 10, 11, 12, 13, 14, 15, 16, 17, 18, 19, 20, 21, 22, 23, 24, 25, 26, 27, 28, 29, 30] (.sq (.sq .leaf (.cn .leaf .leaf)) (.sq (.bl (.sq .leaf (.bl (.lp [4] [4, 13, 14, 15, 16, 17, 18, 19, 20, 21, 22, 23, 24, 25, 26, 27, 28, 29, 30] (.sq (.sq .leaf (.cn .leaf .leaf)) (.sq (.bl .leaf) .leaf)))))) .leaf))))) (.sq .leaf (.sq .leaf (.sq .leaf .leaf)))))
theorem f39.body_eq : Tryd.f39.body = some f39.code := by kernel_rfl
theorem f39.shape (Z : List PanicEntry → World → Prop) (x0 : Value) (w : World) (Q : Value → World → Prop) : vc drawD Tryd.prog 39 Z [65] f39.an f39.code (fnQ Tryd.prog 39 Tryd.f39.results Q) (argEnv [x0]) w = f39.sh Z x0 w Q := by kernel_rfl
theorem f39.enters : ∀ f, f ∈ ([65] : List Nat) → Enters Tryd.prog f := by
  intro f hf
  simp only [List.mem_cons, List.not_mem_nil, or_false] at hf
  rcases hf with rfl
  · exact en65
theorem f39.calls {Z : List PanicEntry → World → Prop} {x0 : Value} {w : World} {Q : Value → World → Prop} (h : f39.sh Z x0 w Q) : CallV Tryd.prog Z 39 #[x0] w Q :=
  calls_of_vcn drawD_sound (Q := Q) (n := 39) (rs := Tryd.f39.results) (an := f39.an) (c := f39.code) (cal := [65]) (args := [x0]) Tryd.func39 (by kernel_rfl) rfl f39.body_eq follows (Nat.le_of_ble_eq_true (by kernel_rfl)) (enters_of_all f39.enters) ((f39.shape Z x0 w Q).mpr h)

/-! ### 40: lagoon/lagoonref00.apartTxns -/
def f40.sh (Z : List PanicEntry → World → Prop) (x0 : Value) (w : World) (Q : Value → World → Prop) : Prop :=
  ∃ J_1 : Nat → Value → World → Prop, (∃ m, J_1 m (Value.int IntKind.i64 0) w) ∧
    ∀ m_1, ∀ t3_2 : Value, ∀ w : World, J_1 m_1 t3_2 w → Env →
      run1 Tryd.prog Z (Builtin.len_ #[48] 3 #[x0]) w fun t9_3 w =>
      run1 Tryd.prog Z (binOp BinOp.lss 3 t3_2 t9_3) w fun t10_4 w =>
      CondV t10_4 (
        ∃ J_5 : Nat → Value → World → Prop, (∃ m, J_5 m (Value.int IntKind.i64 0) w) ∧
          ∀ m_5, ∀ t4_6 : Value, ∀ w : World, J_5 m_5 t4_6 w → Env →
            run1 Tryd.prog Z (Instr.indexAt 48 x0 t3_2) w fun t16_7 w =>
            run1 Tryd.prog Z (Instr.loadAt 125 t16_7) w fun t17_8 w =>
            run1 Tryd.prog Z (Builtin.len_ #[125] 3 #[t17_8]) w fun t18_9 w =>
            run1 Tryd.prog Z (binOp BinOp.lss 3 t4_6 t18_9) w fun t19_10 w =>
            CondV t19_10 (
              run1 Tryd.prog Z (Instr.indexAt 48 x0 t3_2) w fun t24_11 w =>
              run1 Tryd.prog Z (Instr.loadAt 125 t24_11) w fun t25_12 w =>
              run1 Tryd.prog Z (binOp BinOp.sub 3 (Value.int IntKind.i64 (-1000000)) t3_2) w fun t28_13 w =>
              run1 Tryd.prog Z (Instr.build 127 #[(2, t28_13)]) w fun t29_14 w =>
              run1 Tryd.prog Z (Instr.build 131 #[(1, t29_14)]) w fun t30_15 w =>
              run1 Tryd.prog Z (Instr.indexAt 125 t25_12 t4_6) w fun t31_16 w =>
              run0 Tryd.prog Z (Instr.storeAt 131 t31_16 t30_15) w fun w =>
              run1 Tryd.prog Z (binOp BinOp.add 3 t4_6 (Value.int IntKind.i64 1)) w fun t21_17 w =>
              ∃ n_5, n_5 < m_5 ∧ J_5 n_5 t21_17 w) (
              run1 Tryd.prog Z (binOp BinOp.add 3 t3_2 (Value.int IntKind.i64 1)) w fun t12_18 w =>
              ∃ n_1, n_1 < m_1 ∧ J_1 n_1 t12_18 w)) (
        CallV Tryd.prog Z 66 #[x0, (Value.int IntKind.i64 1)] w fun t33_19 w =>
        CallV Tryd.prog Z 66 #[x0, (Value.int IntKind.i64 24)] w fun t35_20 w =>
        guardW (t33_19) true (fun k => k (t35_20) w) (fun t38_21 w =>
        run1 Tryd.prog Z (pickV t33_19 t38_21 (Value.bool false)) w fun t39_22 w =>
        Q t39_22 w) w)
noncomputable def f40.code : Code := match Tryd.f40.body with | some c => c | none => .skip
def f40.an : An := (.sq .leaf (.sq (.sq .leaf (.bl (.lp [3] [3, 4, 7, 8, 9, 10, 11, 12, 13, 14, 15, 16, 17, 18, 19, 20, 21, 22, 23, 24, 25, 26, 27, 28, 29, 30, 31] (.sq (.sq .leaf (.cn .leaf .leaf)) (.sq (.bl (.sq .leaf (.bl (.lp [4] [4, 13, 14, 15, 16, 17, 18, 19, 20, 21, 22, 23, 24, 25, 26, 27, 28, 29, 30, 31] (.sq (.sq .leaf (.cn .leaf .leaf)) (.sq (.bl .leaf) .leaf)))))) .leaf))))) (.sq .leaf (.sq .leaf (.sq .leaf .leaf)))))
theorem f40.body_eq : Tryd.f40.body = some f40.code := by kernel_rfl
theorem f40.shape (Z : List PanicEntry → World → Prop) (x0 : Value) (w : World) (Q : Value → World → Prop) : vc drawD Tryd.prog 40 Z [66] f40.an f40.code (fnQ Tryd.prog 40 Tryd.f40.results Q) (argEnv [x0]) w = f40.sh Z x0 w Q := by kernel_rfl
theorem f40.enters : ∀ f, f ∈ ([66] : List Nat) → Enters Tryd.prog f := by
  intro f hf
  simp only [List.mem_cons, List.not_mem_nil, or_false] at hf
  rcases hf with rfl
  · exact en66
theorem f40.calls {Z : List PanicEntry → World → Prop} {x0 : Value} {w : World} {Q : Value → World → Prop} (h : f40.sh Z x0 w Q) : CallV Tryd.prog Z 40 #[x0] w Q :=
  calls_of_vcn drawD_sound (Q := Q) (n := 40) (rs := Tryd.f40.results) (an := f40.an) (c := f40.code) (cal := [66]) (args := [x0]) Tryd.func40 (by kernel_rfl) rfl f40.body_eq follows (Nat.le_of_ble_eq_true (by kernel_rfl)) (enters_of_all f40.enters) ((f40.shape Z x0 w Q).mpr h)

/-! ### 41: lagoon/lagoonref00.apartResults -/
def f41.sh (Z : List PanicEntry → World → Prop) (x0 : Value) (w : World) (Q : Value → World → Prop) : Prop :=
  ∃ J_1 : Nat → Value → World → Prop, (∃ m, J_1 m (Value.int IntKind.i64 0) w) ∧
    ∀ m_1, ∀ t3_2 : Value, ∀ w : World, J_1 m_1 t3_2 w → Env →
      run1 Tryd.prog Z (Builtin.len_ #[49] 3 #[x0]) w fun t9_3 w =>
      run1 Tryd.prog Z (binOp BinOp.lss 3 t3_2 t9_3) w fun t10_4 w =>
      CondV t10_4 (
        ∃ J_5 : Nat → Value → World → Prop, (∃ m, J_5 m (Value.int IntKind.i64 0) w) ∧
          ∀ m_5, ∀ t4_6 : Value, ∀ w : World, J_5 m_5 t4_6 w → Env →
            run1 Tryd.prog Z (Instr.indexAt 49 x0 t3_2) w fun t16_7 w =>
            run1 Tryd.prog Z (Instr.loadAt 133 t16_7) w fun t17_8 w =>
            run1 Tryd.prog Z (Builtin.len_ #[133] 3 #[t17_8]) w fun t18_9 w =>
            run1 Tryd.prog Z (binOp BinOp.lss 3 t4_6 t18_9) w fun t19_10 w =>
            CondV t19_10 (
              run1 Tryd.prog Z (Instr.indexAt 49 x0 t3_2) w fun t24_11 w =>
              run1 Tryd.prog Z (Instr.loadAt 133 t24_11) w fun t25_12 w =>
              run1 Tryd.prog Z (binOp BinOp.sub 3 (Value.int IntKind.i64 (-1000000)) t3_2) w fun t28_13 w =>
              run1 Tryd.prog Z (Instr.build 137 #[(6, t28_13)]) w fun t29_14 w =>
              run1 Tryd.prog Z (Instr.indexAt 133 t25_12 t4_6) w fun t30_15 w =>
              run0 Tryd.prog Z (Instr.storeAt 137 t30_15 t29_14) w fun w =>
              run1 Tryd.prog Z (binOp BinOp.add 3 t4_6 (Value.int IntKind.i64 1)) w fun t21_16 w =>
              ∃ n_5, n_5 < m_5 ∧ J_5 n_5 t21_16 w) (
              run1 Tryd.prog Z (binOp BinOp.add 3 t3_2 (Value.int IntKind.i64 1)) w fun t12_17 w =>
              ∃ n_1, n_1 < m_1 ∧ J_1 n_1 t12_17 w)) (
        CallV Tryd.prog Z 67 #[x0, (Value.int IntKind.i64 1)] w fun t32_18 w =>
        CallV Tryd.prog Z 67 #[x0, (Value.int IntKind.i64 24)] w fun t34_19 w =>
        guardW (t32_18) true (fun k => k (t34_19) w) (fun t37_20 w =>
        run1 Tryd.prog Z (pickV t32_18 t37_20 (Value.bool false)) w fun t38_21 w =>
        Q t38_21 w) w)
noncomputable def f41.code : Code := match Tryd.f41.body with | some c => c | none => .skip
def f41.an : An := (.sq .leaf (.sq (.sq .leaf (.bl (.lp [3] [3, 4, 7, 8, 9, 10, 11, 12, 13, 14, 15, 16, 17, 18, 19, 20, 21, 22, 23, 24, 25, 26, 27, 28, 29, 30] (.sq (.sq .leaf (.cn .leaf .leaf)) (.sq (.bl (.sq .leaf (.bl (.lp [4] [4, 13, 14, 15, 16, 17, 18, 19, 20, 21, 22, 23, 24, 25, 26, 27, 28, 29, 30] (.sq (.sq .leaf (.cn .leaf .leaf)) (.sq (.bl .leaf) .leaf)))))) .leaf))))) (.sq .leaf (.sq .leaf (.sq .leaf .leaf)))))
theorem f41.body_eq : Tryd.f41.body = some f41.code := by kernel_rfl
theorem f41.shape (Z : List PanicEntry → World → Prop) (x0 : Value) (w : World) (Q : Value → World → Prop) : vc drawD Tryd.prog 39 Z [67] f41.an f41.code (fnQ Tryd.prog 39 Tryd.f41.results Q) (argEnv [x0]) w = f41.sh Z x0 w Q := by kernel_rfl
theorem f41.enters : ∀ f, f ∈ ([67] : List Nat) → Enters Tryd.prog f := by
  intro f hf
  simp only [List.mem_cons, List.not_mem_nil, or_false] at hf
  rcases hf with rfl
  · exact en67
theorem f41.calls {Z : List PanicEntry → World → Prop} {x0 : Value} {w : World} {Q : Value → World → Prop} (h : f41.sh Z x0 w Q) : CallV Tryd.prog Z 41 #[x0] w Q :=
  calls_of_vcn drawD_sound (Q := Q) (n := 39) (rs := Tryd.f41.results) (an := f41.an) (c := f41.code) (cal := [67]) (args := [x0]) Tryd.func41 (by kernel_rfl) rfl f41.body_eq follows (Nat.le_of_ble_eq_true (by kernel_rfl)) (enters_of_all f41.enters) ((f41.shape Z x0 w Q).mpr h)

/-! ### 42: lagoon/lagoonref00.apartNodes -/
def f42.sh (Z : List PanicEntry → World → Prop) (x0 : Value) (w : World) (Q : Value → World → Prop) : Prop :=
  ∃ J_1 : Nat → Value → World → Prop, (∃ m, J_1 m (Value.int IntKind.i64 0) w) ∧
    ∀ m_1, ∀ t3_2 : Value, ∀ w : World, J_1 m_1 t3_2 w → Env →
      run1 Tryd.prog Z (Builtin.len_ #[50] 3 #[x0]) w fun t9_3 w =>
      run1 Tryd.prog Z (binOp BinOp.lss 3 t3_2 t9_3) w fun t10_4 w =>
      CondV t10_4 (
        ∃ J_5 : Nat → Value → World → Prop, (∃ m, J_5 m (Value.int IntKind.i64 0) w) ∧
          ∀ m_5, ∀ t4_6 : Value, ∀ w : World, J_5 m_5 t4_6 w → Env →
            run1 Tryd.prog Z (Instr.indexAt 50 x0 t3_2) w fun t16_7 w =>
            run1 Tryd.prog Z (Instr.loadAt 139 t16_7) w fun t17_8 w =>
            run1 Tryd.prog Z (Builtin.len_ #[139] 3 #[t17_8]) w fun t18_9 w =>
            run1 Tryd.prog Z (binOp BinOp.lss 3 t4_6 t18_9) w fun t19_10 w =>
            CondV t19_10 (
              Drawn w fun w =>
              Pure1 Tryd.prog (Instr.indexAt 50 x0 t3_2) fun t24_11 =>
              Read1 Tryd.prog (Instr.loadAt 139 t24_11) w fun t25_12 =>
              Pure1 Tryd.prog (binOp BinOp.sub 3 (Value.int IntKind.i64 (-1000000)) t3_2) fun t28_13 =>
              CallV Tryd.prog Z 60 #[t28_13] w fun t29_14 w =>
                Still Tryd.prog (nx (Instr.loadAt 139 t24_11)) t25_12 w <|
              Pure1 Tryd.prog (Instr.build 141 #[(0, t29_14)]) fun t30_15 =>
              Pure1 Tryd.prog (Instr.indexAt 139 t25_12 t4_6) fun t31_16 =>
              run0 Tryd.prog Z (Instr.storeAt 141 t31_16 t30_15) w fun w =>
              run1 Tryd.prog Z (binOp BinOp.add 3 t4_6 (Value.int IntKind.i64 1)) w fun t21_17 w =>
              ∃ n_5, n_5 < m_5 ∧ J_5 n_5 t21_17 w) (
              run1 Tryd.prog Z (binOp BinOp.add 3 t3_2 (Value.int IntKind.i64 1)) w fun t12_18 w =>
              ∃ n_1, n_1 < m_1 ∧ J_1 n_1 t12_18 w)) (
        CallV Tryd.prog Z 68 #[x0, (Value.int IntKind.i64 1)] w fun t33_19 w =>
        CallV Tryd.prog Z 68 #[x0, (Value.int IntKind.i64 24)] w fun t35_20 w =>
        guardW (t33_19) true (fun k => k (t35_20) w) (fun t38_21 w =>
        run1 Tryd.prog Z (pickV t33_19 t38_21 (Value.bool false)) w fun t39_22 w =>
        Q t39_22 w) w)
noncomputable def f42.code : Code := match Tryd.f42.body with | some c => c | none => .skip
def f42.an : An := (.sq .leaf (.sq (.sq .leaf (.bl (.lp [3] [3, 4, 7, 8, 9, 10, 11, 12, 13, 14, 15, 16, 17, 18, 19, 20, 21, 22, 23, 24, 25, 26, 27, 28, 29, 30, 31] (.sq (.sq .leaf (.cn .leaf .leaf)) (.sq (.bl (.sq .leaf (.bl (.lp [4] [4, 13, 14, 15, 16, 17, 18, 19, 20, 21, 22, 23, 24, 25, 26, 27, 28, 29, 30, 31] (.sq (.sq .leaf (.cn .leaf .leaf)) (.sq (.bl (.dr (.take 0 false (.take 1 false (.take 2 false (.take 3 true (.take 4 false (.take 5 false (.take 6 false (.one 7 (.take 8 false (.take 9 false (.one 10 .fin))))))))))))) .leaf)))))) .leaf))))) (.sq .leaf (.sq .leaf (.sq .leaf .leaf)))))
theorem f42.body_eq : Tryd.f42.body = some f42.code := by kernel_rfl
theorem f42.shape (Z : List PanicEntry → World → Prop) (x0 : Value) (w : World) (Q : Value → World → Prop) : vc drawD Tryd.prog 40 Z [60, 68] f42.an f42.code (fnQ Tryd.prog 40 Tryd.f42.results Q) (argEnv [x0]) w = f42.sh Z x0 w Q := by kernel_rfl
theorem f42.enters : ∀ f, f ∈ ([60, 68] : List Nat) → Enters Tryd.prog f := by
  intro f hf
  simp only [List.mem_cons, List.not_mem_nil, or_false] at hf
  rcases hf with rfl | rfl
  · exact en60
  · exact en68
theorem f42.calls {Z : List PanicEntry → World → Prop} {x0 : Value} {w : World} {Q : Value → World → Prop} (h : f42.sh Z x0 w Q) : CallV Tryd.prog Z 42 #[x0] w Q :=
  calls_of_vcn drawD_sound (Q := Q) (n := 40) (rs := Tryd.f42.results) (an := f42.an) (c := f42.code) (cal := [60, 68]) (args := [x0]) Tryd.func42 (by kernel_rfl) rfl f42.body_eq follows (Nat.le_of_ble_eq_true (by kernel_rfl)) (enters_of_all f42.enters) ((f42.shape Z x0 w Q).mpr h)

/-! ### 43: lagoon/lagoonref00.apartSessions -/
def f43.sh (Z : List PanicEntry → World → Prop) (x0 : Value) (w : World) (Q : Value → World → Prop) : Prop :=
  ∃ J_1 : Nat → Value → World → Prop, (∃ m, J_1 m (Value.int IntKind.i64 0) w) ∧
    ∀ m_1, ∀ t3_2 : Value, ∀ w : World, J_1 m_1 t3_2 w → Env →
      run1 Tryd.prog Z (Builtin.len_ #[51] 3 #[x0]) w fun t9_3 w =>
      run1 Tryd.prog Z (binOp BinOp.lss 3 t3_2 t9_3) w fun t10_4 w =>
      CondV t10_4 (
        ∃ J_5 : Nat → Value → World → Prop, (∃ m, J_5 m (Value.int IntKind.i64 0) w) ∧
          ∀ m_5, ∀ t4_6 : Value, ∀ w : World, J_5 m_5 t4_6 w → Env →
            run1 Tryd.prog Z (Instr.indexAt 51 x0 t3_2) w fun t16_7 w =>
            run1 Tryd.prog Z (Instr.loadAt 143 t16_7) w fun t17_8 w =>
            run1 Tryd.prog Z (Builtin.len_ #[143] 3 #[t17_8]) w fun t18_9 w =>
            run1 Tryd.prog Z (binOp BinOp.lss 3 t4_6 t18_9) w fun t19_10 w =>
            CondV t19_10 (
              run1 Tryd.prog Z (Instr.indexAt 51 x0 t3_2) w fun t24_11 w =>
              run1 Tryd.prog Z (Instr.loadAt 143 t24_11) w fun t25_12 w =>
              run1 Tryd.prog Z (binOp BinOp.sub 3 (Value.int IntKind.i64 (-1000000)) t3_2) w fun t28_13 w =>
              run1 Tryd.prog Z (Instr.build 145 #[(0, t28_13)]) w fun t29_14 w =>
              run1 Tryd.prog Z (Instr.indexAt 143 t25_12 t4_6) w fun t30_15 w =>
              run0 Tryd.prog Z (Instr.storeAt 145 t30_15 t29_14) w fun w =>
              run1 Tryd.prog Z (binOp BinOp.add 3 t4_6 (Value.int IntKind.i64 1)) w fun t21_16 w =>
              ∃ n_5, n_5 < m_5 ∧ J_5 n_5 t21_16 w) (
              run1 Tryd.prog Z (binOp BinOp.add 3 t3_2 (Value.int IntKind.i64 1)) w fun t12_17 w =>
              ∃ n_1, n_1 < m_1 ∧ J_1 n_1 t12_17 w)) (
        CallV Tryd.prog Z 69 #[x0, (Value.int IntKind.i64 1)] w fun t32_18 w =>
        CallV Tryd.prog Z 69 #[x0, (Value.int IntKind.i64 24)] w fun t34_19 w =>
        guardW (t32_18) true (fun k => k (t34_19) w) (fun t37_20 w =>
        run1 Tryd.prog Z (pickV t32_18 t37_20 (Value.bool false)) w fun t38_21 w =>
        Q t38_21 w) w)
noncomputable def f43.code : Code := match Tryd.f43.body with | some c => c | none => .skip
def f43.an : An := (.sq .leaf (.sq (.sq .leaf (.bl (.lp [3] [3, 4, 7, 8, 9, 10, 11, 12, 13, 14, 15, 16, 17, 18, 19, 20, 21, 22, 23, 24, 25, 26, 27, 28, 29, 30] (.sq (.sq .leaf (.cn .leaf .leaf)) (.sq (.bl (.sq .leaf (.bl (.lp [4] [4, 13, 14, 15, 16, 17, 18, 19, 20, 21, 22, 23, 24, 25, 26, 27, 28, 29, 30] (.sq (.sq .leaf (.cn .leaf .leaf)) (.sq (.bl .leaf) .leaf)))))) .leaf))))) (.sq .leaf (.sq .leaf (.sq .leaf .leaf)))))
theorem f43.body_eq : Tryd.f43.body = some f43.code := by kernel_rfl
theorem f43.shape (Z : List PanicEntry → World → Prop) (x0 : Value) (w : World) (Q : Value → World → Prop) : vc drawD Tryd.prog 39 Z [69] f43.an f43.code (fnQ Tryd.prog 39 Tryd.f43.results Q) (argEnv [x0]) w = f43.sh Z x0 w Q := by kernel_rfl
theorem f43.enters : ∀ f, f ∈ ([69] : List Nat) → Enters Tryd.prog f := by
  intro f hf
  simp only [List.mem_cons, List.not_mem_nil, or_false] at hf
  rcases hf with rfl
  · exact en69
theorem f43.calls {Z : List PanicEntry → World → Prop} {x0 : Value} {w : World} {Q : Value → World → Prop} (h : f43.sh Z x0 w Q) : CallV Tryd.prog Z 43 #[x0] w Q :=
  calls_of_vcn drawD_sound (Q := Q) (n := 39) (rs := Tryd.f43.results) (an := f43.an) (c := f43.code) (cal := [69]) (args := [x0]) Tryd.func43 (by kernel_rfl) rfl f43.body_eq follows (Nat.le_of_ble_eq_true (by kernel_rfl)) (enters_of_all f43.enters) ((f43.shape Z x0 w Q).mpr h)

/-! ### 44: lagoon/lagoonref00.apartChanges -/
def f44.sh (Z : List PanicEntry → World → Prop) (x0 : Value) (w : World) (Q : Value → World → Prop) : Prop :=
  ∃ J_1 : Nat → Value → World → Prop, (∃ m, J_1 m (Value.int IntKind.i64 0) w) ∧
    ∀ m_1, ∀ t3_2 : Value, ∀ w : World, J_1 m_1 t3_2 w → Env →
      run1 Tryd.prog Z (Builtin.len_ #[52] 3 #[x0]) w fun t9_3 w =>
      run1 Tryd.prog Z (binOp BinOp.lss 3 t3_2 t9_3) w fun t10_4 w =>
      CondV t10_4 (
        ∃ J_5 : Nat → Value → World → Prop, (∃ m, J_5 m (Value.int IntKind.i64 0) w) ∧
          ∀ m_5, ∀ t4_6 : Value, ∀ w : World, J_5 m_5 t4_6 w → Env →
            run1 Tryd.prog Z (Instr.indexAt 52 x0 t3_2) w fun t16_7 w =>
            run1 Tryd.prog Z (Instr.loadAt 147 t16_7) w fun t17_8 w =>
            run1 Tryd.prog Z (Builtin.len_ #[147] 3 #[t17_8]) w fun t18_9 w =>
            run1 Tryd.prog Z (binOp BinOp.lss 3 t4_6 t18_9) w fun t19_10 w =>
            CondV t19_10 (
              Drawn w fun w =>
              Pure1 Tryd.prog (Instr.indexAt 52 x0 t3_2) fun t24_11 =>
              Read1 Tryd.prog (Instr.loadAt 147 t24_11) w fun t25_12 =>
              Pure1 Tryd.prog (binOp BinOp.sub 3 (Value.int IntKind.i64 (-1000000)) t3_2) fun t28_13 =>
              CallV Tryd.prog Z 60 #[t28_13] w fun t29_14 w =>
                Still Tryd.prog (nx (Instr.loadAt 147 t24_11)) t25_12 w <|
              Pure1 Tryd.prog (Instr.build 149 #[(1, t29_14)]) fun t30_15 =>
              Pure1 Tryd.prog (Instr.indexAt 147 t25_12 t4_6) fun t31_16 =>
              run0 Tryd.prog Z (Instr.storeAt 149 t31_16 t30_15) w fun w =>
              run1 Tryd.prog Z (binOp BinOp.add 3 t4_6 (Value.int IntKind.i64 1)) w fun t21_17 w =>
              ∃ n_5, n_5 < m_5 ∧ J_5 n_5 t21_17 w) (
              run1 Tryd.prog Z (binOp BinOp.add 3 t3_2 (Value.int IntKind.i64 1)) w fun t12_18 w =>
              ∃ n_1, n_1 < m_1 ∧ J_1 n_1 t12_18 w)) (
        CallV Tryd.prog Z 70 #[x0, (Value.int IntKind.i64 1)] w fun t33_19 w =>
        CallV Tryd.prog Z 70 #[x0, (Value.int IntKind.i64 24)] w fun t35_20 w =>
        guardW (t33_19) true (fun k => k (t35_20) w) (fun t38_21 w =>
        run1 Tryd.prog Z (pickV t33_19 t38_21 (Value.bool false)) w fun t39_22 w =>
        Q t39_22 w) w)
noncomputable def f44.code : Code := match Tryd.f44.body with | some c => c | none => .skip
def f44.an : An := (.sq .leaf (.sq (.sq .leaf (.bl (.lp [3] [3, 4, 7, 8, 9, 10, 11, 12, 13, 14, 15, 16, 17, 18, 19, 20, 21, 22, 23, 24, 25, 26, 27, 28, 29, 30, 31] (.sq (.sq .leaf (.cn .leaf .leaf)) (.sq (.bl (.sq .leaf (.bl (.lp [4] [4, 13, 14, 15, 16, 17, 18, 19, 20, 21, 22, 23, 24, 25, 26, 27, 28, 29, 30, 31] (.sq (.sq .leaf (.cn .leaf .leaf)) (.sq (.bl (.dr (.take 0 false (.take 1 false (.take 2 false (.take 3 true (.take 4 false (.take 5 false (.take 6 false (.one 7 (.take 8 false (.take 9 false (.one 10 .fin))))))))))))) .leaf)))))) .leaf))))) (.sq .leaf (.sq .leaf (.sq .leaf .leaf)))))
theorem f44.body_eq : Tryd.f44.body = some f44.code := by kernel_rfl
theorem f44.shape (Z : List PanicEntry → World → Prop) (x0 : Value) (w : World) (Q : Value → World → Prop) : vc drawD Tryd.prog 40 Z [60, 70] f44.an f44.code (fnQ Tryd.prog 40 Tryd.f44.results Q) (argEnv [x0]) w = f44.sh Z x0 w Q := by kernel_rfl
theorem f44.enters : ∀ f, f ∈ ([60, 70] : List Nat) → Enters Tryd.prog f := by
  intro f hf
  simp only [List.mem_cons, List.not_mem_nil, or_false] at hf
  rcases hf with rfl | rfl
  · exact en60
  · exact en70
theorem f44.calls {Z : List PanicEntry → World → Prop} {x0 : Value} {w : World} {Q : Value → World → Prop} (h : f44.sh Z x0 w Q) : CallV Tryd.prog Z 44 #[x0] w Q :=
  calls_of_vcn drawD_sound (Q := Q) (n := 40) (rs := Tryd.f44.results) (an := f44.an) (c := f44.code) (cal := [60, 70]) (args := [x0]) Tryd.func44 (by kernel_rfl) rfl f44.body_eq follows (Nat.le_of_ble_eq_true (by kernel_rfl)) (enters_of_all f44.enters) ((f44.shape Z x0 w Q).mpr h)

/-! ### 45: lagoon/lagoonref00.apartFiles -/
def f45.sh (Z : List PanicEntry → World → Prop) (x0 : Value) (w : World) (Q : Value → World → Prop) : Prop :=
  ∃ J_1 : Nat → Value → World → Prop, (∃ m, J_1 m (Value.int IntKind.i64 0) w) ∧
    ∀ m_1, ∀ t3_2 : Value, ∀ w : World, J_1 m_1 t3_2 w → Env →
      run1 Tryd.prog Z (Builtin.len_ #[53] 3 #[x0]) w fun t9_3 w =>
      run1 Tryd.prog Z (binOp BinOp.lss 3 t3_2 t9_3) w fun t10_4 w =>
      CondV t10_4 (
        ∃ J_5 : Nat → Value → World → Prop, (∃ m, J_5 m (Value.int IntKind.i64 0) w) ∧
          ∀ m_5, ∀ t4_6 : Value, ∀ w : World, J_5 m_5 t4_6 w → Env →
            run1 Tryd.prog Z (Instr.indexAt 53 x0 t3_2) w fun t16_7 w =>
            run1 Tryd.prog Z (Instr.loadAt 151 t16_7) w fun t17_8 w =>
            run1 Tryd.prog Z (Builtin.len_ #[151] 3 #[t17_8]) w fun t18_9 w =>
            run1 Tryd.prog Z (binOp BinOp.lss 3 t4_6 t18_9) w fun t19_10 w =>
            CondV t19_10 (
              Drawn w fun w =>
              Pure1 Tryd.prog (Instr.indexAt 53 x0 t3_2) fun t24_11 =>
              Read1 Tryd.prog (Instr.loadAt 151 t24_11) w fun t25_12 =>
              Pure1 Tryd.prog (binOp BinOp.sub 3 (Value.int IntKind.i64 (-1000000)) t3_2) fun t28_13 =>
              CallV Tryd.prog Z 60 #[t28_13] w fun t29_14 w =>
                Still Tryd.prog (nx (Instr.loadAt 151 t24_11)) t25_12 w <|
              Pure1 Tryd.prog (Instr.build 153 #[(0, t29_14)]) fun t30_15 =>
              Pure1 Tryd.prog (Instr.indexAt 151 t25_12 t4_6) fun t31_16 =>
              run0 Tryd.prog Z (Instr.storeAt 153 t31_16 t30_15) w fun w =>
              run1 Tryd.prog Z (binOp BinOp.add 3 t4_6 (Value.int IntKind.i64 1)) w fun t21_17 w =>
              ∃ n_5, n_5 < m_5 ∧ J_5 n_5 t21_17 w) (
              run1 Tryd.prog Z (binOp BinOp.add 3 t3_2 (Value.int IntKind.i64 1)) w fun t12_18 w =>
              ∃ n_1, n_1 < m_1 ∧ J_1 n_1 t12_18 w)) (
        CallV Tryd.prog Z 71 #[x0, (Value.int IntKind.i64 1)] w fun t33_19 w =>
        CallV Tryd.prog Z 71 #[x0, (Value.int IntKind.i64 24)] w fun t35_20 w =>
        guardW (t33_19) true (fun k => k (t35_20) w) (fun t38_21 w =>
        run1 Tryd.prog Z (pickV t33_19 t38_21 (Value.bool false)) w fun t39_22 w =>
        Q t39_22 w) w)
noncomputable def f45.code : Code := match Tryd.f45.body with | some c => c | none => .skip
def f45.an : An := (.sq .leaf (.sq (.sq .leaf (.bl (.lp [3] [3, 4, 7, 8, 9, 10, 11, 12, 13, 14, 15, 16, 17, 18, 19, 20, 21, 22, 23, 24, 25, 26, 27, 28, 29, 30, 31] (.sq (.sq .leaf (.cn .leaf .leaf)) (.sq (.bl (.sq .leaf (.bl (.lp [4] [4, 13, 14, 15, 16, 17, 18, 19, 20, 21, 22, 23, 24, 25, 26, 27, 28, 29, 30, 31] (.sq (.sq .leaf (.cn .leaf .leaf)) (.sq (.bl (.dr (.take 0 false (.take 1 false (.take 2 false (.take 3 true (.take 4 false (.take 5 false (.take 6 false (.one 7 (.take 8 false (.take 9 false (.one 10 .fin))))))))))))) .leaf)))))) .leaf))))) (.sq .leaf (.sq .leaf (.sq .leaf .leaf)))))
theorem f45.body_eq : Tryd.f45.body = some f45.code := by kernel_rfl
theorem f45.shape (Z : List PanicEntry → World → Prop) (x0 : Value) (w : World) (Q : Value → World → Prop) : vc drawD Tryd.prog 40 Z [60, 71] f45.an f45.code (fnQ Tryd.prog 40 Tryd.f45.results Q) (argEnv [x0]) w = f45.sh Z x0 w Q := by kernel_rfl
theorem f45.enters : ∀ f, f ∈ ([60, 71] : List Nat) → Enters Tryd.prog f := by
  intro f hf
  simp only [List.mem_cons, List.not_mem_nil, or_false] at hf
  rcases hf with rfl | rfl
  · exact en60
  · exact en71
theorem f45.calls {Z : List PanicEntry → World → Prop} {x0 : Value} {w : World} {Q : Value → World → Prop} (h : f45.sh Z x0 w Q) : CallV Tryd.prog Z 45 #[x0] w Q :=
  calls_of_vcn drawD_sound (Q := Q) (n := 40) (rs := Tryd.f45.results) (an := f45.an) (c := f45.code) (cal := [60, 71]) (args := [x0]) Tryd.func45 (by kernel_rfl) rfl f45.body_eq follows (Nat.le_of_ble_eq_true (by kernel_rfl)) (enters_of_all f45.enters) ((f45.shape Z x0 w Q).mpr h)

/-! ### 46: lagoon/lagoonref00.apartPackets -/
def f46.sh (Z : List PanicEntry → World → Prop) (x0 : Value) (w : World) (Q : Value → World → Prop) : Prop :=
  ∃ J_1 : Nat → Value → World → Prop, (∃ m, J_1 m (Value.int IntKind.i64 0) w) ∧
    ∀ m_1, ∀ t3_2 : Value, ∀ w : World, J_1 m_1 t3_2 w → Env →
      run1 Tryd.prog Z (Builtin.len_ #[54] 3 #[x0]) w fun t9_3 w =>
      run1 Tryd.prog Z (binOp BinOp.lss 3 t3_2 t9_3) w fun t10_4 w =>
      CondV t10_4 (
        ∃ J_5 : Nat → Value → World → Prop, (∃ m, J_5 m (Value.int IntKind.i64 0) w) ∧
          ∀ m_5, ∀ t4_6 : Value, ∀ w : World, J_5 m_5 t4_6 w → Env →
            run1 Tryd.prog Z (Instr.indexAt 54 x0 t3_2) w fun t16_7 w =>
            run1 Tryd.prog Z (Instr.loadAt 155 t16_7) w fun t17_8 w =>
            run1 Tryd.prog Z (Builtin.len_ #[155] 3 #[t17_8]) w fun t18_9 w =>
            run1 Tryd.prog Z (binOp BinOp.lss 3 t4_6 t18_9) w fun t19_10 w =>
            CondV t19_10 (
              run1 Tryd.prog Z (Instr.indexAt 54 x0 t3_2) w fun t24_11 w =>
              run1 Tryd.prog Z (Instr.loadAt 155 t24_11) w fun t25_12 w =>
              run1 Tryd.prog Z (binOp BinOp.sub 3 (Value.int IntKind.i64 (-1000000)) t3_2) w fun t28_13 w =>
              run1 Tryd.prog Z (Instr.build 159 #[(3, t28_13)]) w fun t29_14 w =>
              run1 Tryd.prog Z (Instr.indexAt 155 t25_12 t4_6) w fun t30_15 w =>
              run0 Tryd.prog Z (Instr.storeAt 159 t30_15 t29_14) w fun w =>
              run1 Tryd.prog Z (binOp BinOp.add 3 t4_6 (Value.int IntKind.i64 1)) w fun t21_16 w =>
              ∃ n_5, n_5 < m_5 ∧ J_5 n_5 t21_16 w) (
              run1 Tryd.prog Z (binOp BinOp.add 3 t3_2 (Value.int IntKind.i64 1)) w fun t12_17 w =>
              ∃ n_1, n_1 < m_1 ∧ J_1 n_1 t12_17 w)) (
        CallV Tryd.prog Z 72 #[x0, (Value.int IntKind.i64 1)] w fun t32_18 w =>
        CallV Tryd.prog Z 72 #[x0, (Value.int IntKind.i64 24)] w fun t34_19 w =>
        guardW (t32_18) true (fun k => k (t34_19) w) (fun t37_20 w =>
        run1 Tryd.prog Z (pickV t32_18 t37_20 (Value.bool false)) w fun t38_21 w =>
        Q t38_21 w) w)
noncomputable def f46.code : Code := match Tryd.f46.body with | some c => c | none => .skip
def f46.an : An := (.sq .leaf (.sq (.sq .leaf (.bl (.lp [3] [3, 4, 7, 8, 9, 10, 11, 12, 13, 14, 15, 16, 17, 18, 19, 20, 21, 22, 23, 24, 25, 26, 27, 28, 29, 30] (.sq (.sq .leaf (.cn .leaf .leaf)) (.sq (.bl (.sq .leaf (.bl (.lp [4] [4, 13, 14, 15, 16, 17, 18, 19, 20, 21, 22, 23, 24, 25, 26, 27, 28, 29, 30] (.sq (.sq .leaf (.cn .leaf .leaf)) (.sq (.bl .leaf) .leaf)))))) .leaf))))) (.sq .leaf (.sq .leaf (.sq .leaf .leaf)))))
theorem f46.body_eq : Tryd.f46.body = some f46.code := by kernel_rfl
theorem f46.shape (Z : List PanicEntry → World → Prop) (x0 : Value) (w : World) (Q : Value → World → Prop) : vc drawD Tryd.prog 39 Z [72] f46.an f46.code (fnQ Tryd.prog 39 Tryd.f46.results Q) (argEnv [x0]) w = f46.sh Z x0 w Q := by kernel_rfl
theorem f46.enters : ∀ f, f ∈ ([72] : List Nat) → Enters Tryd.prog f := by
  intro f hf
  simp only [List.mem_cons, List.not_mem_nil, or_false] at hf
  rcases hf with rfl
  · exact en72
theorem f46.calls {Z : List PanicEntry → World → Prop} {x0 : Value} {w : World} {Q : Value → World → Prop} (h : f46.sh Z x0 w Q) : CallV Tryd.prog Z 46 #[x0] w Q :=
  calls_of_vcn drawD_sound (Q := Q) (n := 39) (rs := Tryd.f46.results) (an := f46.an) (c := f46.code) (cal := [72]) (args := [x0]) Tryd.func46 (by kernel_rfl) rfl f46.body_eq follows (Nat.le_of_ble_eq_true (by kernel_rfl)) (enters_of_all f46.enters) ((f46.shape Z x0 w Q).mpr h)

/-! ### 47: lagoon/lagoonref00.apartMessages -/
def f47.sh (Z : List PanicEntry → World → Prop) (x0 : Value) (w : World) (Q : Value → World → Prop) : Prop :=
  ∃ J_1 : Nat → Value → World → Prop, (∃ m, J_1 m (Value.int IntKind.i64 0) w) ∧
    ∀ m_1, ∀ t3_2 : Value, ∀ w : World, J_1 m_1 t3_2 w → Env →
      run1 Tryd.prog Z (Builtin.len_ #[55] 3 #[x0]) w fun t9_3 w =>
      run1 Tryd.prog Z (binOp BinOp.lss 3 t3_2 t9_3) w fun t10_4 w =>
      CondV t10_4 (
        ∃ J_5 : Nat → Value → World → Prop, (∃ m, J_5 m (Value.int IntKind.i64 0) w) ∧
          ∀ m_5, ∀ t4_6 : Value, ∀ w : World, J_5 m_5 t4_6 w → Env →
            run1 Tryd.prog Z (Instr.indexAt 55 x0 t3_2) w fun t16_7 w =>
            run1 Tryd.prog Z (Instr.loadAt 161 t16_7) w fun t17_8 w =>
            run1 Tryd.prog Z (Builtin.len_ #[161] 3 #[t17_8]) w fun t18_9 w =>
            run1 Tryd.prog Z (binOp BinOp.lss 3 t4_6 t18_9) w fun t19_10 w =>
            CondV t19_10 (
              Drawn w fun w =>
              Pure1 Tryd.prog (Instr.indexAt 55 x0 t3_2) fun t24_11 =>
              Read1 Tryd.prog (Instr.loadAt 161 t24_11) w fun t25_12 =>
              Pure1 Tryd.prog (binOp BinOp.sub 3 (Value.int IntKind.i64 (-1000000)) t3_2) fun t28_13 =>
              CallV Tryd.prog Z 60 #[t28_13] w fun t29_14 w =>
                Still Tryd.prog (nx (Instr.loadAt 161 t24_11)) t25_12 w <|
              run1 Tryd.prog Z (convert 9 22 t29_14) w fun t30_15 w =>
                Still Tryd.prog (nx (Instr.loadAt 161 t24_11)) t25_12 w <|
              Pure1 Tryd.prog (Instr.build 163 #[(2, t30_15)]) fun t31_16 =>
              Pure1 Tryd.prog (Instr.indexAt 161 t25_12 t4_6) fun t32_17 =>
              run0 Tryd.prog Z (Instr.storeAt 163 t32_17 t31_16) w fun w =>
              run1 Tryd.prog Z (binOp BinOp.add 3 t4_6 (Value.int IntKind.i64 1)) w fun t21_18 w =>
              ∃ n_5, n_5 < m_5 ∧ J_5 n_5 t21_18 w) (
              run1 Tryd.prog Z (binOp BinOp.add 3 t3_2 (Value.int IntKind.i64 1)) w fun t12_19 w =>
              ∃ n_1, n_1 < m_1 ∧ J_1 n_1 t12_19 w)) (
        CallV Tryd.prog Z 73 #[x0, (Value.int IntKind.i64 1)] w fun t34_20 w =>
        CallV Tryd.prog Z 73 #[x0, (Value.int IntKind.i64 24)] w fun t36_21 w =>
        guardW (t34_20) true (fun k => k (t36_21) w) (fun t39_22 w =>
        run1 Tryd.prog Z (pickV t34_20 t39_22 (Value.bool false)) w fun t40_23 w =>
        Q t40_23 w) w)
noncomputable def f47.code : Code := match Tryd.f47.body with | some c => c | none => .skip
def f47.an : An := (.sq .leaf (.sq (.sq .leaf (.bl (.lp [3] [3, 4, 7, 8, 9, 10, 11, 12, 13, 14, 15, 16, 17, 18, 19, 20, 21, 22, 23, 24, 25, 26, 27, 28, 29, 30, 31, 32] (.sq (.sq .leaf (.cn .leaf .leaf)) (.sq (.bl (.sq .leaf (.bl (.lp [4] [4, 13, 14, 15, 16, 17, 18, 19, 20, 21, 22, 23, 24, 25, 26, 27, 28, 29, 30, 31, 32] (.sq (.sq .leaf (.cn .leaf .leaf)) (.sq (.bl (.dr (.take 0 false (.take 1 false (.take 2 false (.take 3 true (.take 4 false (.take 5 false (.take 6 false (.one 7 (.one 8 (.take 9 false (.take 10 false (.one 11 .fin)))))))))))))) .leaf)))))) .leaf))))) (.sq .leaf (.sq .leaf (.sq .leaf .leaf)))))
theorem f47.body_eq : Tryd.f47.body = some f47.code := by kernel_rfl
theorem f47.shape (Z : List PanicEntry → World → Prop) (x0 : Value) (w : World) (Q : Value → World → Prop) : vc drawD Tryd.prog 41 Z [60, 73] f47.an f47.code (fnQ Tryd.prog 41 Tryd.f47.results Q) (argEnv [x0]) w = f47.sh Z x0 w Q := by kernel_rfl
theorem f47.enters : ∀ f, f ∈ ([60, 73] : List Nat) → Enters Tryd.prog f := by
  intro f hf
  simp only [List.mem_cons, List.not_mem_nil, or_false] at hf
  rcases hf with rfl | rfl
  · exact en60
  · exact en73
theorem f47.calls {Z : List PanicEntry → World → Prop} {x0 : Value} {w : World} {Q : Value → World → Prop} (h : f47.sh Z x0 w Q) : CallV Tryd.prog Z 47 #[x0] w Q :=
  calls_of_vcn drawD_sound (Q := Q) (n := 41) (rs := Tryd.f47.results) (an := f47.an) (c := f47.code) (cal := [60, 73]) (args := [x0]) Tryd.func47 (by kernel_rfl) rfl f47.body_eq follows (Nat.le_of_ble_eq_true (by kernel_rfl)) (enters_of_all f47.enters) ((f47.shape Z x0 w Q).mpr h)

/-! ### 48: lagoon/lagoonref00.apartWatches -/
def f48.sh (Z : List PanicEntry → World → Prop) (x0 : Value) (w : World) (Q : Value → World → Prop) : Prop :=
  ∃ J_1 : Nat → Value → World → Prop, (∃ m, J_1 m (Value.int IntKind.i64 0) w) ∧
    ∀ m_1, ∀ t3_2 : Value, ∀ w : World, J_1 m_1 t3_2 w → Env →
      run1 Tryd.prog Z (Builtin.len_ #[56] 3 #[x0]) w fun t9_3 w =>
      run1 Tryd.prog Z (binOp BinOp.lss 3 t3_2 t9_3) w fun t10_4 w =>
      CondV t10_4 (
        ∃ J_5 : Nat → Value → World → Prop, (∃ m, J_5 m (Value.int IntKind.i64 0) w) ∧
          ∀ m_5, ∀ t4_6 : Value, ∀ w : World, J_5 m_5 t4_6 w → Env →
            run1 Tryd.prog Z (Instr.indexAt 56 x0 t3_2) w fun t16_7 w =>
            run1 Tryd.prog Z (Instr.loadAt 165 t16_7) w fun t17_8 w =>
            run1 Tryd.prog Z (Builtin.len_ #[165] 3 #[t17_8]) w fun t18_9 w =>
            run1 Tryd.prog Z (binOp BinOp.lss 3 t4_6 t18_9) w fun t19_10 w =>
            CondV t19_10 (
              run1 Tryd.prog Z (Instr.indexAt 56 x0 t3_2) w fun t24_11 w =>
              run1 Tryd.prog Z (Instr.loadAt 165 t24_11) w fun t25_12 w =>
              run1 Tryd.prog Z (binOp BinOp.sub 3 (Value.int IntKind.i64 (-1000000)) t3_2) w fun t28_13 w =>
              run1 Tryd.prog Z (Instr.build 167 #[(0, t28_13)]) w fun t29_14 w =>
              run1 Tryd.prog Z (Instr.indexAt 165 t25_12 t4_6) w fun t30_15 w =>
              run0 Tryd.prog Z (Instr.storeAt 167 t30_15 t29_14) w fun w =>
              run1 Tryd.prog Z (binOp BinOp.add 3 t4_6 (Value.int IntKind.i64 1)) w fun t21_16 w =>
              ∃ n_5, n_5 < m_5 ∧ J_5 n_5 t21_16 w) (
              run1 Tryd.prog Z (binOp BinOp.add 3 t3_2 (Value.int IntKind.i64 1)) w fun t12_17 w =>
              ∃ n_1, n_1 < m_1 ∧ J_1 n_1 t12_17 w)) (
        CallV Tryd.prog Z 74 #[x0, (Value.int IntKind.i64 1)] w fun t32_18 w =>
        CallV Tryd.prog Z 74 #[x0, (Value.int IntKind.i64 24)] w fun t34_19 w =>
        guardW (t32_18) true (fun k => k (t34_19) w) (fun t37_20 w =>
        run1 Tryd.prog Z (pickV t32_18 t37_20 (Value.bool false)) w fun t38_21 w =>
        Q t38_21 w) w)
noncomputable def f48.code : Code := match Tryd.f48.body with | some c => c | none => .skip
def f48.an : An := (.sq .leaf (.sq (.sq .leaf (.bl (.lp [3] [3, 4, 7, 8, 9, 10, 11, 12, 13, 14, 15, 16, 17, 18, 19, 20, 21, 22, 23, 24, 25, 26, 27, 28, 29, 30] (.sq (.sq .leaf (.cn .leaf .leaf)) (.sq (.bl (.sq .leaf (.bl (.lp [4] [4, 13, 14, 15, 16, 17, 18, 19, 20, 21, 22, 23, 24, 25, 26, 27, 28, 29, 30] (.sq (.sq .leaf (.cn .leaf .leaf)) (.sq (.bl .leaf) .leaf)))))) .leaf))))) (.sq .leaf (.sq .leaf (.sq .leaf .leaf)))))
theorem f48.body_eq : Tryd.f48.body = some f48.code := by kernel_rfl
theorem f48.shape (Z : List PanicEntry → World → Prop) (x0 : Value) (w : World) (Q : Value → World → Prop) : vc drawD Tryd.prog 39 Z [74] f48.an f48.code (fnQ Tryd.prog 39 Tryd.f48.results Q) (argEnv [x0]) w = f48.sh Z x0 w Q := by kernel_rfl
theorem f48.enters : ∀ f, f ∈ ([74] : List Nat) → Enters Tryd.prog f := by
  intro f hf
  simp only [List.mem_cons, List.not_mem_nil, or_false] at hf
  rcases hf with rfl
  · exact en74
theorem f48.calls {Z : List PanicEntry → World → Prop} {x0 : Value} {w : World} {Q : Value → World → Prop} (h : f48.sh Z x0 w Q) : CallV Tryd.prog Z 48 #[x0] w Q :=
  calls_of_vcn drawD_sound (Q := Q) (n := 39) (rs := Tryd.f48.results) (an := f48.an) (c := f48.code) (cal := [74]) (args := [x0]) Tryd.func48 (by kernel_rfl) rfl f48.body_eq follows (Nat.le_of_ble_eq_true (by kernel_rfl)) (enters_of_all f48.enters) ((f48.shape Z x0 w Q).mpr h)

/-! ### 49: lagoon/lagoonref00.apartFired -/
def f49.sh (Z : List PanicEntry → World → Prop) (x0 : Value) (w : World) (Q : Value → World → Prop) : Prop :=
  ∃ J_1 : Nat → Value → World → Prop, (∃ m, J_1 m (Value.int IntKind.i64 0) w) ∧
    ∀ m_1, ∀ t3_2 : Value, ∀ w : World, J_1 m_1 t3_2 w → Env →
      run1 Tryd.prog Z (Builtin.len_ #[57] 3 #[x0]) w fun t9_3 w =>
      run1 Tryd.prog Z (binOp BinOp.lss 3 t3_2 t9_3) w fun t10_4 w =>
      CondV t10_4 (
        ∃ J_5 : Nat → Value → World → Prop, (∃ m, J_5 m (Value.int IntKind.i64 0) w) ∧
          ∀ m_5, ∀ t4_6 : Value, ∀ w : World, J_5 m_5 t4_6 w → Env →
            run1 Tryd.prog Z (Instr.indexAt 57 x0 t3_2) w fun t16_7 w =>
            run1 Tryd.prog Z (Instr.loadAt 169 t16_7) w fun t17_8 w =>
            run1 Tryd.prog Z (Builtin.len_ #[169] 3 #[t17_8]) w fun t18_9 w =>
            run1 Tryd.prog Z (binOp BinOp.lss 3 t4_6 t18_9) w fun t19_10 w =>
            CondV t19_10 (
              run1 Tryd.prog Z (Instr.indexAt 57 x0 t3_2) w fun t24_11 w =>
              run1 Tryd.prog Z (Instr.loadAt 169 t24_11) w fun t25_12 w =>
              run1 Tryd.prog Z (binOp BinOp.sub 3 (Value.int IntKind.i64 (-1000000)) t3_2) w fun t28_13 w =>
              run1 Tryd.prog Z (Instr.build 167 #[(0, t28_13)]) w fun t29_14 w =>
              run1 Tryd.prog Z (Instr.build 171 #[(0, t29_14)]) w fun t30_15 w =>
              run1 Tryd.prog Z (Instr.indexAt 169 t25_12 t4_6) w fun t31_16 w =>
              run0 Tryd.prog Z (Instr.storeAt 171 t31_16 t30_15) w fun w =>
              run1 Tryd.prog Z (binOp BinOp.add 3 t4_6 (Value.int IntKind.i64 1)) w fun t21_17 w =>
              ∃ n_5, n_5 < m_5 ∧ J_5 n_5 t21_17 w) (
              run1 Tryd.prog Z (binOp BinOp.add 3 t3_2 (Value.int IntKind.i64 1)) w fun t12_18 w =>
              ∃ n_1, n_1 < m_1 ∧ J_1 n_1 t12_18 w)) (
        CallV Tryd.prog Z 75 #[x0, (Value.int IntKind.i64 1)] w fun t33_19 w =>
        CallV Tryd.prog Z 75 #[x0, (Value.int IntKind.i64 24)] w fun t35_20 w =>
        guardW (t33_19) true (fun k => k (t35_20) w) (fun t38_21 w =>
        run1 Tryd.prog Z (pickV t33_19 t38_21 (Value.bool false)) w fun t39_22 w =>
        Q t39_22 w) w)
noncomputable def f49.code : Code := match Tryd.f49.body with | some c => c | none => .skip
def f49.an : An := (.sq .leaf (.sq (.sq .leaf (.bl (.lp [3] [3, 4, 7, 8, 9, 10, 11, 12, 13, 14, 15, 16, 17, 18, 19, 20, 21, 22, 23, 24, 25, 26, 27, 28, 29, 30, 31] (.sq (.sq .leaf (.cn .leaf .leaf)) (.sq (.bl (.sq .leaf (.bl (.lp [4] [4, 13, 14, 15, 16, 17, 18, 19, 20, 21, 22, 23, 24, 25, 26, 27, 28, 29, 30, 31] (.sq (.sq .leaf (.cn .leaf .leaf)) (.sq (.bl .leaf) .leaf)))))) .leaf))))) (.sq .leaf (.sq .leaf (.sq .leaf .leaf)))))
theorem f49.body_eq : Tryd.f49.body = some f49.code := by kernel_rfl
theorem f49.shape (Z : List PanicEntry → World → Prop) (x0 : Value) (w : World) (Q : Value → World → Prop) : vc drawD Tryd.prog 40 Z [75] f49.an f49.code (fnQ Tryd.prog 40 Tryd.f49.results Q) (argEnv [x0]) w = f49.sh Z x0 w Q := by kernel_rfl
theorem f49.enters : ∀ f, f ∈ ([75] : List Nat) → Enters Tryd.prog f := by
  intro f hf
  simp only [List.mem_cons, List.not_mem_nil, or_false] at hf
  rcases hf with rfl
  · exact en75
theorem f49.calls {Z : List PanicEntry → World → Prop} {x0 : Value} {w : World} {Q : Value → World → Prop} (h : f49.sh Z x0 w Q) : CallV Tryd.prog Z 49 #[x0] w Q :=
  calls_of_vcn drawD_sound (Q := Q) (n := 40) (rs := Tryd.f49.results) (an := f49.an) (c := f49.code) (cal := [75]) (args := [x0]) Tryd.func49 (by kernel_rfl) rfl f49.body_eq follows (Nat.le_of_ble_eq_true (by kernel_rfl)) (enters_of_all f49.enters) ((f49.shape Z x0 w Q).mpr h)

/-! ### 50: lagoon/lagoonref00.apartFacts -/
def f50.sh (Z : List PanicEntry → World → Prop) (x0 : Value) (w : World) (Q : Value → World → Prop) : Prop :=
  ∃ J_1 : Nat → Value → World → Prop, (∃ m, J_1 m (Value.int IntKind.i64 0) w) ∧
    ∀ m_1, ∀ t3_2 : Value, ∀ w : World, J_1 m_1 t3_2 w → Env →
      run1 Tryd.prog Z (Builtin.len_ #[58] 3 #[x0]) w fun t9_3 w =>
      run1 Tryd.prog Z (binOp BinOp.lss 3 t3_2 t9_3) w fun t10_4 w =>
      CondV t10_4 (
        ∃ J_5 : Nat → Value → World → Prop, (∃ m, J_5 m (Value.int IntKind.i64 0) w) ∧
          ∀ m_5, ∀ t4_6 : Value, ∀ w : World, J_5 m_5 t4_6 w → Env →
            run1 Tryd.prog Z (Instr.indexAt 58 x0 t3_2) w fun t16_7 w =>
            run1 Tryd.prog Z (Instr.loadAt 173 t16_7) w fun t17_8 w =>
            run1 Tryd.prog Z (Builtin.len_ #[173] 3 #[t17_8]) w fun t18_9 w =>
            run1 Tryd.prog Z (binOp BinOp.lss 3 t4_6 t18_9) w fun t19_10 w =>
            CondV t19_10 (
              run1 Tryd.prog Z (Instr.indexAt 58 x0 t3_2) w fun t24_11 w =>
              run1 Tryd.prog Z (Instr.loadAt 173 t24_11) w fun t25_12 w =>
              run1 Tryd.prog Z (binOp BinOp.sub 3 (Value.int IntKind.i64 (-1000000)) t3_2) w fun t28_13 w =>
              run1 Tryd.prog Z (Instr.build 175 #[(6, t28_13)]) w fun t29_14 w =>
              run1 Tryd.prog Z (Instr.indexAt 173 t25_12 t4_6) w fun t30_15 w =>
              run0 Tryd.prog Z (Instr.storeAt 175 t30_15 t29_14) w fun w =>
              run1 Tryd.prog Z (binOp BinOp.add 3 t4_6 (Value.int IntKind.i64 1)) w fun t21_16 w =>
              ∃ n_5, n_5 < m_5 ∧ J_5 n_5 t21_16 w) (
              run1 Tryd.prog Z (binOp BinOp.add 3 t3_2 (Value.int IntKind.i64 1)) w fun t12_17 w =>
              ∃ n_1, n_1 < m_1 ∧ J_1 n_1 t12_17 w)) (
        CallV Tryd.prog Z 76 #[x0, (Value.int IntKind.i64 1)] w fun t32_18 w =>
        CallV Tryd.prog Z 76 #[x0, (Value.int IntKind.i64 24)] w fun t34_19 w =>
        guardW (t32_18) true (fun k => k (t34_19) w) (fun t37_20 w =>
        run1 Tryd.prog Z (pickV t32_18 t37_20 (Value.bool false)) w fun t38_21 w =>
        Q t38_21 w) w)
noncomputable def f50.code : Code := match Tryd.f50.body with | some c => c | none => .skip
def f50.an : An := (.sq .leaf (.sq (.sq .leaf (.bl (.lp [3] [3, 4, 7, 8, 9, 10, 11, 12, 13, 14, 15, 16, 17, 18, 19, 20, 21, 22, 23, 24, 25, 26, 27, 28, 29, 30] (.sq (.sq .leaf (.cn .leaf .leaf)) (.sq (.bl (.sq .leaf (.bl (.lp [4] [4, 13, 14, 15, 16, 17, 18, 19, 20, 21, 22, 23, 24, 25, 26, 27, 28, 29, 30] (.sq (.sq .leaf (.cn .leaf .leaf)) (.sq (.bl .leaf) .leaf)))))) .leaf))))) (.sq .leaf (.sq .leaf (.sq .leaf .leaf)))))
theorem f50.body_eq : Tryd.f50.body = some f50.code := by kernel_rfl
theorem f50.shape (Z : List PanicEntry → World → Prop) (x0 : Value) (w : World) (Q : Value → World → Prop) : vc drawD Tryd.prog 39 Z [76] f50.an f50.code (fnQ Tryd.prog 39 Tryd.f50.results Q) (argEnv [x0]) w = f50.sh Z x0 w Q := by kernel_rfl
theorem f50.enters : ∀ f, f ∈ ([76] : List Nat) → Enters Tryd.prog f := by
  intro f hf
  simp only [List.mem_cons, List.not_mem_nil, or_false] at hf
  rcases hf with rfl
  · exact en76
theorem f50.calls {Z : List PanicEntry → World → Prop} {x0 : Value} {w : World} {Q : Value → World → Prop} (h : f50.sh Z x0 w Q) : CallV Tryd.prog Z 50 #[x0] w Q :=
  calls_of_vcn drawD_sound (Q := Q) (n := 39) (rs := Tryd.f50.results) (an := f50.an) (c := f50.code) (cal := [76]) (args := [x0]) Tryd.func50 (by kernel_rfl) rfl f50.body_eq follows (Nat.le_of_ble_eq_true (by kernel_rfl)) (enters_of_all f50.enters) ((f50.shape Z x0 w Q).mpr h)

/-! ### 51: lagoon/lagoonref00.apartSends -/
def f51.sh (Z : List PanicEntry → World → Prop) (x0 : Value) (w : World) (Q : Value → World → Prop) : Prop :=
  ∃ J_1 : Nat → Value → World → Prop, (∃ m, J_1 m (Value.int IntKind.i64 0) w) ∧
    ∀ m_1, ∀ t3_2 : Value, ∀ w : World, J_1 m_1 t3_2 w → Env →
      run1 Tryd.prog Z (Builtin.len_ #[59] 3 #[x0]) w fun t9_3 w =>
      run1 Tryd.prog Z (binOp BinOp.lss 3 t3_2 t9_3) w fun t10_4 w =>
      CondV t10_4 (
        ∃ J_5 : Nat → Value → World → Prop, (∃ m, J_5 m (Value.int IntKind.i64 0) w) ∧
          ∀ m_5, ∀ t4_6 : Value, ∀ w : World, J_5 m_5 t4_6 w → Env →
            run1 Tryd.prog Z (Instr.indexAt 59 x0 t3_2) w fun t16_7 w =>
            run1 Tryd.prog Z (Instr.loadAt 177 t16_7) w fun t17_8 w =>
            run1 Tryd.prog Z (Builtin.len_ #[177] 3 #[t17_8]) w fun t18_9 w =>
            run1 Tryd.prog Z (binOp BinOp.lss 3 t4_6 t18_9) w fun t19_10 w =>
            CondV t19_10 (
              Drawn w fun w =>
              Pure1 Tryd.prog (Instr.indexAt 59 x0 t3_2) fun t24_11 =>
              Read1 Tryd.prog (Instr.loadAt 177 t24_11) w fun t25_12 =>
              Pure1 Tryd.prog (binOp BinOp.sub 3 (Value.int IntKind.i64 (-1000000)) t3_2) fun t28_13 =>
              CallV Tryd.prog Z 60 #[t28_13] w fun t29_14 w =>
                Still Tryd.prog (nx (Instr.loadAt 177 t24_11)) t25_12 w <|
              run1 Tryd.prog Z (convert 9 22 t29_14) w fun t30_15 w =>
                Still Tryd.prog (nx (Instr.loadAt 177 t24_11)) t25_12 w <|
              Pure1 Tryd.prog (Instr.build 179 #[(1, t30_15)]) fun t31_16 =>
              Pure1 Tryd.prog (Instr.indexAt 177 t25_12 t4_6) fun t32_17 =>
              run0 Tryd.prog Z (Instr.storeAt 179 t32_17 t31_16) w fun w =>
              run1 Tryd.prog Z (binOp BinOp.add 3 t4_6 (Value.int IntKind.i64 1)) w fun t21_18 w =>
              ∃ n_5, n_5 < m_5 ∧ J_5 n_5 t21_18 w) (
              run1 Tryd.prog Z (binOp BinOp.add 3 t3_2 (Value.int IntKind.i64 1)) w fun t12_19 w =>
              ∃ n_1, n_1 < m_1 ∧ J_1 n_1 t12_19 w)) (
        CallV Tryd.prog Z 77 #[x0, (Value.int IntKind.i64 1)] w fun t34_20 w =>
        CallV Tryd.prog Z 77 #[x0, (Value.int IntKind.i64 24)] w fun t36_21 w =>
        guardW (t34_20) true (fun k => k (t36_21) w) (fun t39_22 w =>
        run1 Tryd.prog Z (pickV t34_20 t39_22 (Value.bool false)) w fun t40_23 w =>
        Q t40_23 w) w)
noncomputable def f51.code : Code := match Tryd.f51.body with | some c => c | none => .skip
def f51.an : An := (.sq .leaf (.sq (.sq .leaf (.bl (.lp [3] [3, 4, 7, 8, 9, 10, 11, 12, 13, 14, 15, 16, 17, 18, 19, 20, 21, 22, 23, 24, 25, 26, 27, 28, 29, 30, 31, 32] (.sq (.sq .leaf (.cn .leaf .leaf)) (.sq (.bl (.sq .leaf (.bl (.lp [4] [4, 13, 14, 15, 16, 17, 18, 19, 20, 21, 22, 23, 24, 25, 26, 27, 28, 29, 30, 31, 32] (.sq (.sq .leaf (.cn .leaf .leaf)) (.sq (.bl (.dr (.take 0 false (.take 1 false (.take 2 false (.take 3 true (.take 4 false (.take 5 false (.take 6 false (.one 7 (.one 8 (.take 9 false (.take 10 false (.one 11 .fin)))))))))))))) .leaf)))))) .leaf))))) (.sq .leaf (.sq .leaf (.sq .leaf .leaf)))))
theorem f51.body_eq : Tryd.f51.body = some f51.code := by kernel_rfl
theorem f51.shape (Z : List PanicEntry → World → Prop) (x0 : Value) (w : World) (Q : Value → World → Prop) : vc drawD Tryd.prog 41 Z [60, 77] f51.an f51.code (fnQ Tryd.prog 41 Tryd.f51.results Q) (argEnv [x0]) w = f51.sh Z x0 w Q := by kernel_rfl
theorem f51.enters : ∀ f, f ∈ ([60, 77] : List Nat) → Enters Tryd.prog f := by
  intro f hf
  simp only [List.mem_cons, List.not_mem_nil, or_false] at hf
  rcases hf with rfl | rfl
  · exact en60
  · exact en77
theorem f51.calls {Z : List PanicEntry → World → Prop} {x0 : Value} {w : World} {Q : Value → World → Prop} (h : f51.sh Z x0 w Q) : CallV Tryd.prog Z 51 #[x0] w Q :=
  calls_of_vcn drawD_sound (Q := Q) (n := 41) (rs := Tryd.f51.results) (an := f51.an) (c := f51.code) (cal := [60, 77]) (args := [x0]) Tryd.func51 (by kernel_rfl) rfl f51.body_eq follows (Nat.le_of_ble_eq_true (by kernel_rfl)) (enters_of_all f51.enters) ((f51.shape Z x0 w Q).mpr h)

/-! ### 52: lagoon/lagoonref00.apartEvents -/
def f52.sh (Z : List PanicEntry → World → Prop) (x0 : Value) (w : World) (Q : Value → World → Prop) : Prop :=
  ∃ J_1 : Nat → Value → World → Prop, (∃ m, J_1 m (Value.int IntKind.i64 0) w) ∧
    ∀ m_1, ∀ t3_2 : Value, ∀ w : World, J_1 m_1 t3_2 w → Env →
      run1 Tryd.prog Z (Builtin.len_ #[60] 3 #[x0]) w fun t9_3 w =>
      run1 Tryd.prog Z (binOp BinOp.lss 3 t3_2 t9_3) w fun t10_4 w =>
      CondV t10_4 (
        ∃ J_5 : Nat → Value → World → Prop, (∃ m, J_5 m (Value.int IntKind.i64 0) w) ∧
          ∀ m_5, ∀ t4_6 : Value, ∀ w : World, J_5 m_5 t4_6 w → Env →
            run1 Tryd.prog Z (Instr.indexAt 60 x0 t3_2) w fun t16_7 w =>
            run1 Tryd.prog Z (Instr.loadAt 181 t16_7) w fun t17_8 w =>
            run1 Tryd.prog Z (Builtin.len_ #[181] 3 #[t17_8]) w fun t18_9 w =>
            run1 Tryd.prog Z (binOp BinOp.lss 3 t4_6 t18_9) w fun t19_10 w =>
            CondV t19_10 (
              run1 Tryd.prog Z (Instr.indexAt 60 x0 t3_2) w fun t24_11 w =>
              run1 Tryd.prog Z (Instr.loadAt 181 t24_11) w fun t25_12 w =>
              run1 Tryd.prog Z (binOp BinOp.sub 3 (Value.int IntKind.i64 (-1000000)) t3_2) w fun t28_13 w =>
              run1 Tryd.prog Z (Instr.build 183 #[(4, t28_13)]) w fun t29_14 w =>
              run1 Tryd.prog Z (Instr.indexAt 181 t25_12 t4_6) w fun t30_15 w =>
              run0 Tryd.prog Z (Instr.storeAt 183 t30_15 t29_14) w fun w =>
              run1 Tryd.prog Z (binOp BinOp.add 3 t4_6 (Value.int IntKind.i64 1)) w fun t21_16 w =>
              ∃ n_5, n_5 < m_5 ∧ J_5 n_5 t21_16 w) (
              run1 Tryd.prog Z (binOp BinOp.add 3 t3_2 (Value.int IntKind.i64 1)) w fun t12_17 w =>
              ∃ n_1, n_1 < m_1 ∧ J_1 n_1 t12_17 w)) (
        CallV Tryd.prog Z 78 #[x0, (Value.int IntKind.i64 1)] w fun t32_18 w =>
        CallV Tryd.prog Z 78 #[x0, (Value.int IntKind.i64 24)] w fun t34_19 w =>
        guardW (t32_18) true (fun k => k (t34_19) w) (fun t37_20 w =>
        run1 Tryd.prog Z (pickV t32_18 t37_20 (Value.bool false)) w fun t38_21 w =>
        Q t38_21 w) w)
noncomputable def f52.code : Code := match Tryd.f52.body with | some c => c | none => .skip
def f52.an : An := (.sq .leaf (.sq (.sq .leaf (.bl (.lp [3] [3, 4, 7, 8, 9, 10, 11, 12, 13, 14, 15, 16, 17, 18, 19, 20, 21, 22, 23, 24, 25, 26, 27, 28, 29, 30] (.sq (.sq .leaf (.cn .leaf .leaf)) (.sq (.bl (.sq .leaf (.bl (.lp [4] [4, 13, 14, 15, 16, 17, 18, 19, 20, 21, 22, 23, 24, 25, 26, 27, 28, 29, 30] (.sq (.sq .leaf (.cn .leaf .leaf)) (.sq (.bl .leaf) .leaf)))))) .leaf))))) (.sq .leaf (.sq .leaf (.sq .leaf .leaf)))))
theorem f52.body_eq : Tryd.f52.body = some f52.code := by kernel_rfl
theorem f52.shape (Z : List PanicEntry → World → Prop) (x0 : Value) (w : World) (Q : Value → World → Prop) : vc drawD Tryd.prog 39 Z [78] f52.an f52.code (fnQ Tryd.prog 39 Tryd.f52.results Q) (argEnv [x0]) w = f52.sh Z x0 w Q := by kernel_rfl
theorem f52.enters : ∀ f, f ∈ ([78] : List Nat) → Enters Tryd.prog f := by
  intro f hf
  simp only [List.mem_cons, List.not_mem_nil, or_false] at hf
  rcases hf with rfl
  · exact en78
theorem f52.calls {Z : List PanicEntry → World → Prop} {x0 : Value} {w : World} {Q : Value → World → Prop} (h : f52.sh Z x0 w Q) : CallV Tryd.prog Z 52 #[x0] w Q :=
  calls_of_vcn drawD_sound (Q := Q) (n := 39) (rs := Tryd.f52.results) (an := f52.an) (c := f52.code) (cal := [78]) (args := [x0]) Tryd.func52 (by kernel_rfl) rfl f52.body_eq follows (Nat.le_of_ble_eq_true (by kernel_rfl)) (enters_of_all f52.enters) ((f52.shape Z x0 w Q).mpr h)

/-! ### 53: lagoon/lagoonref00.apartFactss -/
def f53.sh (Z : List PanicEntry → World → Prop) (x0 : Value) (w : World) (Q : Value → World → Prop) : Prop :=
  ∃ J_1 : Nat → Value → World → Prop, (∃ m, J_1 m (Value.int IntKind.i64 0) w) ∧
    ∀ m_1, ∀ t3_2 : Value, ∀ w : World, J_1 m_1 t3_2 w → Env →
      run1 Tryd.prog Z (Builtin.len_ #[61] 3 #[x0]) w fun t9_3 w =>
      run1 Tryd.prog Z (binOp BinOp.lss 3 t3_2 t9_3) w fun t10_4 w =>
      CondV t10_4 (
        ∃ J_5 : Nat → Value → World → Prop, (∃ m, J_5 m (Value.int IntKind.i64 0) w) ∧
          ∀ m_5, ∀ t4_6 : Value, ∀ w : World, J_5 m_5 t4_6 w → Env →
            run1 Tryd.prog Z (Instr.indexAt 61 x0 t3_2) w fun t16_7 w =>
            run1 Tryd.prog Z (Instr.loadAt 58 t16_7) w fun t17_8 w =>
            run1 Tryd.prog Z (Builtin.len_ #[58] 3 #[t17_8]) w fun t18_9 w =>
            run1 Tryd.prog Z (binOp BinOp.lss 3 t4_6 t18_9) w fun t19_10 w =>
            CondV t19_10 (
              run1 Tryd.prog Z (Instr.indexAt 61 x0 t3_2) w fun t24_11 w =>
              run1 Tryd.prog Z (Instr.loadAt 58 t24_11) w fun t25_12 w =>
              run1 Tryd.prog Z (binOp BinOp.sub 3 (Value.int IntKind.i64 (-1000000)) t3_2) w fun t28_13 w =>
              run1 Tryd.prog Z (Instr.build 175 #[(6, t28_13)]) w fun t29_14 w =>
              run1 Tryd.prog Z (Instr.buildSlice 173 1 #[(0, t29_14)]) w fun t30_15 w =>
              run1 Tryd.prog Z (Instr.indexAt 58 t25_12 t4_6) w fun t31_16 w =>
              run0 Tryd.prog Z (Instr.storeAt 173 t31_16 t30_15) w fun w =>
              run1 Tryd.prog Z (binOp BinOp.add 3 t4_6 (Value.int IntKind.i64 1)) w fun t21_17 w =>
              ∃ n_5, n_5 < m_5 ∧ J_5 n_5 t21_17 w) (
              run1 Tryd.prog Z (binOp BinOp.add 3 t3_2 (Value.int IntKind.i64 1)) w fun t12_18 w =>
              ∃ n_1, n_1 < m_1 ∧ J_1 n_1 t12_18 w)) (
        CallV Tryd.prog Z 79 #[x0, (Value.int IntKind.i64 1)] w fun t33_19 w =>
        CallV Tryd.prog Z 79 #[x0, (Value.int IntKind.i64 24)] w fun t35_20 w =>
        guardW (t33_19) true (fun k => k (t35_20) w) (fun t38_21 w =>
        run1 Tryd.prog Z (pickV t33_19 t38_21 (Value.bool false)) w fun t39_22 w =>
        Q t39_22 w) w)
noncomputable def f53.code : Code := match Tryd.f53.body with | some c => c | none => .skip
def f53.an : An := (.sq .leaf (.sq (.sq .leaf (.bl (.lp [3] [3, 4, 7, 8, 9, 10, 11, 12, 13, 14, 15, 16, 17, 18, 19, 20, 21, 22, 23, 24, 25, 26, 27, 28, 29, 30, 31] (.sq (.sq .leaf (.cn .leaf .leaf)) (.sq (.bl (.sq .leaf (.bl (.lp [4] [4, 13, 14, 15, 16, 17, 18, 19, 20, 21, 22, 23, 24, 25, 26, 27, 28, 29, 30, 31] (.sq (.sq .leaf (.cn .leaf .leaf)) (.sq (.bl .leaf) .leaf)))))) .leaf))))) (.sq .leaf (.sq .leaf (.sq .leaf .leaf)))))
theorem f53.body_eq : Tryd.f53.body = some f53.code := by kernel_rfl
theorem f53.shape (Z : List PanicEntry → World → Prop) (x0 : Value) (w : World) (Q : Value → World → Prop) : vc drawD Tryd.prog 40 Z [79] f53.an f53.code (fnQ Tryd.prog 40 Tryd.f53.results Q) (argEnv [x0]) w = f53.sh Z x0 w Q := by kernel_rfl
theorem f53.enters : ∀ f, f ∈ ([79] : List Nat) → Enters Tryd.prog f := by
  intro f hf
  simp only [List.mem_cons, List.not_mem_nil, or_false] at hf
  rcases hf with rfl
  · exact en79
theorem f53.calls {Z : List PanicEntry → World → Prop} {x0 : Value} {w : World} {Q : Value → World → Prop} (h : f53.sh Z x0 w Q) : CallV Tryd.prog Z 53 #[x0] w Q :=
  calls_of_vcn drawD_sound (Q := Q) (n := 40) (rs := Tryd.f53.results) (an := f53.an) (c := f53.code) (cal := [79]) (args := [x0]) Tryd.func53 (by kernel_rfl) rfl f53.body_eq follows (Nat.le_of_ble_eq_true (by kernel_rfl)) (enters_of_all f53.enters) ((f53.shape Z x0 w Q).mpr h)

/-! ### 54: (*lagoon/pack.Writer).whole -/
def f54.sh (Z : List PanicEntry → World → Prop) (x0 x1 x2 : Value) (w : World) (Q : Value → World → Prop) : Prop :=
  run1 Tryd.prog Z (eqOp BinOp.eql 66 false true x0 (Value.pointer none)) w fun t8_1 w =>
  CondV t8_1 (
    Q (Value.tuple #[]) w) (
    run1 Tryd.prog Z (binOp BinOp.sub 3 x2 (Value.int IntKind.i64 1)) w fun t10_2 w =>
    ∃ J_3 : Nat → Value → World → Prop, (∃ m, J_3 m t10_2 w) ∧
      ∀ m_3, ∀ t6_4 : Value, ∀ w : World, J_3 m_3 t6_4 w → Env →
        run1 Tryd.prog Z (binOp BinOp.geq 3 t6_4 (Value.int IntKind.i64 0)) w fun t12_5 w =>
        CondV t12_5 (
          Drawn w fun w =>
          PureV Tryd.prog (nilChk x0) fun t17_6 =>
          Pure1 Tryd.prog (Instr.fieldAt 68 t17_6 0) fun t18_7 =>
          Read1 Tryd.prog (Instr.loadAt 22 t18_7) w fun t19_8 =>
          Pure1 Tryd.prog (binOp BinOp.mul 3 (Value.int IntKind.i64 8) t6_4) fun t22_9 =>
          Pure1 Tryd.prog (binOp BinOp.shr 102 x1 t22_9) fun t23_10 =>
          Pure1 Tryd.prog (convert 102 5 t23_10) fun t24_11 =>
          run1 Tryd.prog Z (Instr.buildSlice 22 1 #[(0, t24_11)]) w fun t25_12 w =>
            Still Tryd.prog (nx (Instr.loadAt 22 t18_7)) t19_8 w <|
          run1 Tryd.prog Z (Builtin.append_ #[22, 22] 22 #[t19_8, t25_12]) w fun t26_13 w =>
          PureV Tryd.prog (nilChk x0) fun t27_14 =>
          Pure1 Tryd.prog (Instr.fieldAt 68 t27_14 0) fun t28_15 =>
          run0 Tryd.prog Z (Instr.storeAt 22 t28_15 t26_13) w fun w =>
          run1 Tryd.prog Z (binOp BinOp.sub 3 t6_4 (Value.int IntKind.i64 1)) w fun t14_16 w =>
          ∃ n_3, n_3 < m_3 ∧ J_3 n_3 t14_16 w) (
          Q (Value.tuple #[]) w))
noncomputable def f54.code : Code := match Tryd.f54.body with | some c => c | none => .skip
def f54.an : An := (.sq (.sq .leaf (.cn .leaf .leaf)) (.sq .leaf (.bl (.lp [6] [6, 11, 12, 13, 14, 15, 16, 17, 18, 19, 20, 21, 22, 23, 24, 25, 26, 27, 28] (.sq (.sq .leaf (.cn .leaf .leaf)) (.sq (.bl (.dr (.take 0 false (.take 1 false (.take 2 false (.take 3 false (.take 4 true (.take 5 false (.take 6 false (.take 7 false (.take 8 false (.take 9 false (.one 10 (.one 11 (.take 12 false (.take 13 false (.one 14 .fin))))))))))))))))) .leaf))))))
theorem f54.body_eq : Tryd.f54.body = some f54.code := by kernel_rfl
theorem f54.shape (Z : List PanicEntry → World → Prop) (x0 x1 x2 : Value) (w : World) (Q : Value → World → Prop) : vc drawD Tryd.prog 29 Z [] f54.an f54.code (fnQ Tryd.prog 29 Tryd.f54.results Q) (argEnv [x0, x1, x2]) w = f54.sh Z x0 x1 x2 w Q := by kernel_rfl
theorem f54.enters : ∀ f, f ∈ ([] : List Nat) → Enters Tryd.prog f := by
  intro f hf
  cases hf
theorem f54.calls {Z : List PanicEntry → World → Prop} {x0 x1 x2 : Value} {w : World} {Q : Value → World → Prop} (h : f54.sh Z x0 x1 x2 w Q) : CallV Tryd.prog Z 54 #[x0, x1, x2] w Q :=
  calls_of_vcn drawD_sound (Q := Q) (n := 29) (rs := Tryd.f54.results) (an := f54.an) (c := f54.code) (cal := []) (args := [x0, x1, x2]) Tryd.func54 (by kernel_rfl) rfl f54.body_eq follows (Nat.le_of_ble_eq_true (by kernel_rfl)) (enters_of_all f54.enters) ((f54.shape Z x0 x1 x2 w Q).mpr h)

/-! ### 55: (*lagoon/pack.Reader).whole -/
def f55.sh (Z : List PanicEntry → World → Prop) (x0 x1 : Value) (w : World) (Q : Value → World → Prop) : Prop :=
  CallV Tryd.prog Z 80 #[x0, x1] w fun t13_1 w =>
  run1 Tryd.prog Z (Instr.extract t13_1 0) w fun t14_2 w =>
  run1 Tryd.prog Z (Instr.extract t13_1 1) w fun t15_3 w =>
  run1 Tryd.prog Z (Op.unary UnOp.not t15_3) w fun t17_4 w =>
  CondV t17_4 (
    Q (Value.int IntKind.u64 0) w) (
    run1 Tryd.prog Z (Builtin.len_ #[22] 3 #[t14_2]) w fun t19_5 w =>
    ∃ J_6 : Nat → Value → Value → World → Prop, (∃ m, J_6 m (Value.int IntKind.u64 0) (Value.int IntKind.i64 0) w) ∧
      ∀ m_6, ∀ t7_7 : Value, ∀ t20_8 : Value, ∀ w : World, J_6 m_6 t7_7 t20_8 w → Env →
        run1 Tryd.prog Z (binOp BinOp.lss 3 t20_8 t19_5) w fun t21_9 w =>
        CondV t21_9 (
          run1 Tryd.prog Z (Instr.indexAt 22 t14_2 t20_8) w fun t22_10 w =>
          run1 Tryd.prog Z (Instr.loadAt 5 t22_10) w fun t23_11 w =>
          run1 Tryd.prog Z (binOp BinOp.shl 102 t7_7 (Value.int IntKind.u64 8)) w fun t25_12 w =>
          run1 Tryd.prog Z (convert 5 102 t23_11) w fun t27_13 w =>
          run1 Tryd.prog Z (binOp BinOp.or 102 t25_12 t27_13) w fun t28_14 w =>
          run1 Tryd.prog Z (binOp BinOp.add 3 t20_8 (Value.int IntKind.i64 1)) w fun t29_15 w =>
          ∃ n_6, n_6 < m_6 ∧ J_6 n_6 t28_14 t29_15 w) (
          runX Tryd.prog Z (nilChk x0) w fun t32_16 w =>
          run1 Tryd.prog Z (Instr.fieldAt 76 t32_16 1) w fun t33_17 w =>
          run1 Tryd.prog Z (Instr.loadAt 22 t33_17) w fun t34_18 w =>
          run1 Tryd.prog Z (Instr.sliceAt 22 t34_18 (some x1) none none) w fun t36_19 w =>
          runX Tryd.prog Z (nilChk x0) w fun t37_20 w =>
          run1 Tryd.prog Z (Instr.fieldAt 76 t37_20 1) w fun t38_21 w =>
          run0 Tryd.prog Z (Instr.storeAt 22 t38_21 t36_19) w fun w =>
          Q t7_7 w))
noncomputable def f55.code : Code := match Tryd.f55.body with | some c => c | none => .skip
def f55.an : An := (.sq .leaf (.sq .leaf (.sq (.sq .leaf (.cn (.sq .leaf .leaf) .leaf)) (.sq .leaf (.sq (.sq .leaf (.bl (.lp [7, 20] [7, 9, 20, 21, 22, 23, 24, 25, 26, 27, 28, 29] (.sq .leaf (.sq (.cn .leaf .leaf) (.sq (.bl (.sq .leaf .leaf)) .leaf)))))) (.sq .leaf (.sq .leaf .leaf)))))))
theorem f55.body_eq : Tryd.f55.body = some f55.code := by kernel_rfl
theorem f55.shape (Z : List PanicEntry → World → Prop) (x0 x1 : Value) (w : World) (Q : Value → World → Prop) : vc drawD Tryd.prog 40 Z [80] f55.an f55.code (fnQ Tryd.prog 40 Tryd.f55.results Q) (argEnv [x0, x1]) w = f55.sh Z x0 x1 w Q := by kernel_rfl
theorem f55.enters : ∀ f, f ∈ ([80] : List Nat) → Enters Tryd.prog f := by
  intro f hf
  simp only [List.mem_cons, List.not_mem_nil, or_false] at hf
  rcases hf with rfl
  · exact en80
theorem f55.calls {Z : List PanicEntry → World → Prop} {x0 x1 : Value} {w : World} {Q : Value → World → Prop} (h : f55.sh Z x0 x1 w Q) : CallV Tryd.prog Z 55 #[x0, x1] w Q :=
  calls_of_vcn drawD_sound (Q := Q) (n := 40) (rs := Tryd.f55.results) (an := f55.an) (c := f55.code) (cal := [80]) (args := [x0, x1]) Tryd.func55 (by kernel_rfl) rfl f55.body_eq follows (Nat.le_of_ble_eq_true (by kernel_rfl)) (enters_of_all f55.enters) ((f55.shape Z x0 x1 w Q).mpr h)

/-! ### 56: (*lagoon/pack.Reader).sized -/
def f56.sh (Z : List PanicEntry → World → Prop) (x0 x1 : Value) (w : World) (Q : Value → World → Prop) : Prop :=
  CallV Tryd.prog Z 25 #[x0] w fun t10_1 w =>
  CallV Tryd.prog Z 21 #[x0] w fun t12_2 w =>
  run1 Tryd.prog Z (convert 21 3 t12_2) w fun t13_3 w =>
  CallV Tryd.prog Z 26 #[x0] w fun t15_4 w =>
  run1 Tryd.prog Z (Op.unary UnOp.not t15_4) w fun t16_5 w =>
  CondV t16_5 (
    Q (Value.slice none 0 0) w) (
    run1 Tryd.prog Z (binOp BinOp.lss 3 t13_3 (Value.int IntKind.i64 0)) w fun t18_6 w =>
    guardW (t18_6) false (fun k => k (t13_3) w) (fun t20_7 w =>
    guardW (t18_6) false (fun k => k (x1) w) (fun t21_8 w =>
    guardW (t18_6) false (fun k => run1 Tryd.prog Z (binOp BinOp.gtr 3 t20_7 t21_8) w k) (fun t22_9 w =>
    run1 Tryd.prog Z (pickV t18_6 (Value.bool true) t22_9) w fun t23_10 w =>
    CondV t23_10 (
      CallV Tryd.prog Z 27 #[x0, t10_1, (Value.int IntKind.i64 11)] w fun t26_11 w =>
      Q (Value.slice none 0 0) w) (
      CallV Tryd.prog Z 80 #[x0, t13_3] w fun t30_12 w =>
      run1 Tryd.prog Z (Instr.extract t30_12 0) w fun t31_13 w =>
      run1 Tryd.prog Z (Instr.extract t30_12 1) w fun t32_14 w =>
      run1 Tryd.prog Z (Op.unary UnOp.not t32_14) w fun t34_15 w =>
      CondV t34_15 (
        CallV Tryd.prog Z 27 #[x0, t10_1, (Value.int IntKind.i64 10)] w fun t37_16 w =>
        Q (Value.slice none 0 0) w) (
        runX Tryd.prog Z (nilChk x0) w fun t40_17 w =>
        run1 Tryd.prog Z (Instr.fieldAt 76 t40_17 1) w fun t41_18 w =>
        run1 Tryd.prog Z (Instr.loadAt 22 t41_18) w fun t42_19 w =>
        run1 Tryd.prog Z (Instr.sliceAt 22 t42_19 (some t13_3) none none) w fun t44_20 w =>
        runX Tryd.prog Z (nilChk x0) w fun t45_21 w =>
        run1 Tryd.prog Z (Instr.fieldAt 76 t45_21 1) w fun t46_22 w =>
        run0 Tryd.prog Z (Instr.storeAt 22 t46_22 t44_20) w fun w =>
        Q t31_13 w))) w) w) w)
noncomputable def f56.code : Code := match Tryd.f56.body with | some c => c | none => .skip
def f56.an : An := (.sq .leaf (.sq .leaf (.sq .leaf (.sq (.sq .leaf (.cn (.sq .leaf .leaf) .leaf)) (.sq (.sq .leaf (.cn (.sq .leaf (.sq .leaf .leaf)) .leaf)) (.sq .leaf (.sq (.sq .leaf (.cn (.sq .leaf (.sq .leaf .leaf)) .leaf)) (.sq .leaf (.sq .leaf .leaf)))))))))
theorem f56.body_eq : Tryd.f56.body = some f56.code := by kernel_rfl
theorem f56.shape (Z : List PanicEntry → World → Prop) (x0 x1 : Value) (w : World) (Q : Value → World → Prop) : vc drawD Tryd.prog 48 Z [25, 21, 26, 27, 80] f56.an f56.code (fnQ Tryd.prog 48 Tryd.f56.results Q) (argEnv [x0, x1]) w = f56.sh Z x0 x1 w Q := by kernel_rfl
theorem f56.enters : ∀ f, f ∈ ([25, 21, 26, 27, 80] : List Nat) → Enters Tryd.prog f := by
  intro f hf
  simp only [List.mem_cons, List.not_mem_nil, or_false] at hf
  rcases hf with rfl | rfl | rfl | rfl | rfl
  · exact en25
  · exact en21
  · exact en26
  · exact en27
  · exact en80
theorem f56.calls {Z : List PanicEntry → World → Prop} {x0 x1 : Value} {w : World} {Q : Value → World → Prop} (h : f56.sh Z x0 x1 w Q) : CallV Tryd.prog Z 56 #[x0, x1] w Q :=
  calls_of_vcn drawD_sound (Q := Q) (n := 48) (rs := Tryd.f56.results) (an := f56.an) (c := f56.code) (cal := [25, 21, 26, 27, 80]) (args := [x0, x1]) Tryd.func56 (by kernel_rfl) rfl f56.body_eq follows (Nat.le_of_ble_eq_true (by kernel_rfl)) (enters_of_all f56.enters) ((f56.shape Z x0 x1 w Q).mpr h)

/-! ### 57: (*lagoon/lagoonref01.Reader).number -/
def f57.sh (Z : List PanicEntry → World → Prop) (x0 x1 : Value) (w : World) (Q : Value → World → Prop) : Prop :=
  runX Tryd.prog Z (nilChk x0) w fun t9_1 w =>
  run1 Tryd.prog Z (Instr.fieldAt 35 t9_1 2) w fun t10_2 w =>
  run1 Tryd.prog Z (Instr.loadAt 33 t10_2) w fun t11_3 w =>
  run1 Tryd.prog Z (eqOp BinOp.neq 33 false true t11_3 (Value.int IntKind.i64 0)) w fun t12_4 w =>
  CondV t12_4 (
    Q (Value.tuple #[(Value.int IntKind.u64 0), (Value.bool false)]) w) (
    Drawn w fun w =>
    PureV Tryd.prog (nilChk x0) fun t14_5 =>
    Pure1 Tryd.prog (Instr.fieldAt 35 t14_5 0) fun t15_6 =>
    Read1 Tryd.prog (Instr.loadAt 22 t15_6) w fun t16_7 =>
    Pure1 Tryd.prog (Builtin.len_ #[22] 3 #[t16_7]) fun t17_8 =>
    PureV Tryd.prog (nilChk x0) fun t19_9 =>
    Pure1 Tryd.prog (Instr.fieldAt 35 t19_9 1) fun t20_10 =>
    Read1 Tryd.prog (Instr.loadAt 3 t20_10) w fun t21_11 =>
    Pure1 Tryd.prog (binOp BinOp.sub 3 t17_8 t21_11) fun t22_12 =>
    Pure1 Tryd.prog (binOp BinOp.lss 3 t22_12 x1) fun t24_13 =>
    CondV t24_13 (
      runX Tryd.prog Z (nilChk x0) w fun t26_14 w =>
      run1 Tryd.prog Z (Instr.fieldAt 35 t26_14 2) w fun t27_15 w =>
      run0 Tryd.prog Z (Instr.storeAt 33 t27_15 (Value.int IntKind.i64 10)) w fun w =>
      Q (Value.tuple #[(Value.int IntKind.u64 0), (Value.bool false)]) w) (
      ∃ J_16 : Nat → Value → Value → World → Prop, (∃ m, J_16 m (Value.int IntKind.u64 0) (Value.int IntKind.i64 0) w) ∧
        ∀ m_16, ∀ t6_17 : Value, ∀ t7_18 : Value, ∀ w : World, J_16 m_16 t6_17 t7_18 w → Env →
          run1 Tryd.prog Z (binOp BinOp.lss 3 t7_18 x1) w fun t30_19 w =>
          CondV t30_19 (
            Drawn w fun w =>
            Pure1 Tryd.prog (binOp BinOp.mul 102 t6_17 (Value.int IntKind.u64 256)) fun t34_20 =>
            PureV Tryd.prog (nilChk x0) fun t36_21 =>
            Pure1 Tryd.prog (Instr.fieldAt 35 t36_21 0) fun t37_22 =>
            Read1 Tryd.prog (Instr.loadAt 22 t37_22) w fun t38_23 =>
            PureV Tryd.prog (nilChk x0) fun t40_24 =>
            Pure1 Tryd.prog (Instr.fieldAt 35 t40_24 1) fun t41_25 =>
            Read1 Tryd.prog (Instr.loadAt 3 t41_25) w fun t42_26 =>
            Pure1 Tryd.prog (Instr.indexAt 22 t38_23 t42_26) fun t43_27 =>
            Read1 Tryd.prog (Instr.loadAt 5 t43_27) w fun t44_28 =>
            Pure1 Tryd.prog (convert 5 102 t44_28) fun t45_29 =>
            Pure1 Tryd.prog (binOp BinOp.add 102 t34_20 t45_29) fun t46_30 =>
            runX Tryd.prog Z (nilChk x0) w fun t48_31 w =>
            run1 Tryd.prog Z (Instr.fieldAt 35 t48_31 1) w fun t49_32 w =>
            run1 Tryd.prog Z (Instr.loadAt 3 t49_32) w fun t50_33 w =>
            run1 Tryd.prog Z (binOp BinOp.add 3 t50_33 (Value.int IntKind.i64 1)) w fun t51_34 w =>
            runX Tryd.prog Z (nilChk x0) w fun t52_35 w =>
            run1 Tryd.prog Z (Instr.fieldAt 35 t52_35 1) w fun t53_36 w =>
            run0 Tryd.prog Z (Instr.storeAt 3 t53_36 t51_34) w fun w =>
            run1 Tryd.prog Z (binOp BinOp.add 3 t7_18 (Value.int IntKind.i64 1)) w fun t32_37 w =>
            ∃ n_16, n_16 < m_16 ∧ J_16 n_16 t46_30 t32_37 w) (
            Q (Value.tuple #[t6_17, (Value.bool true)]) w)))
noncomputable def f57.code : Code := match Tryd.f57.body with | some c => c | none => .skip
def f57.an : An := (.sq .leaf (.sq (.sq .leaf (.cn (.sq .leaf .leaf) .leaf)) (.sq (.sq (.dr (.take 0 false (.take 1 false (.take 2 false (.take 3 true (.take 4 false (.take 5 false (.take 6 false (.take 7 false (.take 8 true (.take 9 false (.take 10 false (.take 11 false .fin))))))))))))) (.cn (.sq .leaf (.sq .leaf .leaf)) .leaf)) (.sq .leaf (.sq (.sq .leaf (.bl (.lp [6, 7] [6, 7, 28, 29, 30, 31, 32, 33, 34, 35, 36, 37, 38, 39, 40, 41, 42, 43, 44, 45, 46, 47, 48, 49, 50, 51, 52, 53] (.sq (.sq .leaf (.cn .leaf .leaf)) (.sq (.bl (.sq (.dr (.take 0 false (.take 1 false (.take 2 false (.take 3 false (.take 4 false (.take 5 true (.take 6 false (.take 7 false (.take 8 false (.take 9 true (.take 10 false (.take 11 true (.take 12 false (.take 13 false (.take 14 false .fin)))))))))))))))) .leaf)) .leaf))))) (.sq .leaf .leaf))))))
theorem f57.body_eq : Tryd.f57.body = some f57.code := by kernel_rfl
theorem f57.shape (Z : List PanicEntry → World → Prop) (x0 x1 : Value) (w : World) (Q : Value → World → Prop) : vc drawD Tryd.prog 55 Z [] f57.an f57.code (fnQ Tryd.prog 55 Tryd.f57.results Q) (argEnv [x0, x1]) w = f57.sh Z x0 x1 w Q := by kernel_rfl
theorem f57.enters : ∀ f, f ∈ ([] : List Nat) → Enters Tryd.prog f := by
  intro f hf
  cases hf
theorem f57.calls {Z : List PanicEntry → World → Prop} {x0 x1 : Value} {w : World} {Q : Value → World → Prop} (h : f57.sh Z x0 x1 w Q) : CallV Tryd.prog Z 57 #[x0, x1] w Q :=
  calls_of_vcn drawD_sound (Q := Q) (n := 55) (rs := Tryd.f57.results) (an := f57.an) (c := f57.code) (cal := []) (args := [x0, x1]) Tryd.func57 (by kernel_rfl) rfl f57.body_eq follows (Nat.le_of_ble_eq_true (by kernel_rfl)) (enters_of_all f57.enters) ((f57.shape Z x0 x1 w Q).mpr h)

/-! ### 58: lagoon/lagoonref00.grownBytes -/
def f58.sh (Z : List PanicEntry → World → Prop) (x0 x1 x2 : Value) (w : World) (Q : Value → World → Prop) : Prop :=
  ∃ J_1 : Nat → Value → Value → World → Prop, (∃ m, J_1 m (Value.slice none 0 0) (Value.int IntKind.i64 0) w) ∧
    ∀ m_1, ∀ t7_2 : Value, ∀ t8_3 : Value, ∀ w : World, J_1 m_1 t7_2 t8_3 w → Env →
      run1 Tryd.prog Z (Builtin.len_ #[41] 3 #[x0]) w fun t16_4 w =>
      run1 Tryd.prog Z (binOp BinOp.lss 3 t8_3 t16_4) w fun t17_5 w =>
      CondV t17_5 (
        run1 Tryd.prog Z (Instr.indexAt 41 x0 t8_3) w fun t22_6 w =>
        run1 Tryd.prog Z (Instr.loadAt 22 t22_6) w fun t23_7 w =>
        ∃ J_8 : Nat → Value → Value → World → Prop, (∃ m, J_8 m t23_7 (Value.int IntKind.i64 0) w) ∧
          ∀ m_8, ∀ t9_9 : Value, ∀ t10_10 : Value, ∀ w : World, J_8 m_8 t9_9 t10_10 w → Env →
            run1 Tryd.prog Z (binOp BinOp.lss 3 t10_10 x2) w fun t26_11 w =>
            CondV t26_11 (
              run1 Tryd.prog Z (binOp BinOp.quo 3 t8_3 x1) w fun t32_12 w =>
              run1 Tryd.prog Z (binOp BinOp.rem 3 t32_12 (Value.int IntKind.i64 100)) w fun t33_13 w =>
              run1 Tryd.prog Z (binOp BinOp.add 3 (Value.int IntKind.i64 100) t33_13) w fun t34_14 w =>
              run1 Tryd.prog Z (convert 3 5 t34_14) w fun t35_15 w =>
              run1 Tryd.prog Z (Instr.buildSlice 22 1 #[(0, t35_15)]) w fun t36_16 w =>
              run1 Tryd.prog Z (Builtin.append_ #[22, 22] 22 #[t9_9, t36_16]) w fun t37_17 w =>
              run1 Tryd.prog Z (binOp BinOp.add 3 t10_10 (Value.int IntKind.i64 1)) w fun t28_18 w =>
              ∃ n_8, n_8 < m_8 ∧ J_8 n_8 t37_17 t28_18 w) (
              run1 Tryd.prog Z (Instr.buildSlice 41 1 #[(0, t9_9)]) w fun t40_19 w =>
              run1 Tryd.prog Z (Builtin.append_ #[41, 41] 41 #[t7_2, t40_19]) w fun t41_20 w =>
              run1 Tryd.prog Z (binOp BinOp.add 3 t8_3 (Value.int IntKind.i64 1)) w fun t19_21 w =>
              ∃ n_1, n_1 < m_1 ∧ J_1 n_1 t41_20 t19_21 w)) (
        ∃ J_22 : Nat → Value → World → Prop, (∃ m, J_22 m (Value.int IntKind.i64 0) w) ∧
          ∀ m_22, ∀ t11_23 : Value, ∀ w : World, J_22 m_22 t11_23 w → Env →
            run1 Tryd.prog Z (Builtin.len_ #[41] 3 #[x0]) w fun t44_24 w =>
            run1 Tryd.prog Z (binOp BinOp.lss 3 t11_23 t44_24) w fun t45_25 w =>
            CondV t45_25 (
              run1 Tryd.prog Z (Instr.indexAt 41 x0 t11_23) w fun t50_26 w =>
              run1 Tryd.prog Z (Instr.loadAt 22 t50_26) w fun t51_27 w =>
              run1 Tryd.prog Z (Builtin.len_ #[22] 3 #[t51_27]) w fun t52_28 w =>
              ∃ J_29 : Nat → Value → World → Prop, (∃ m, J_29 m (Value.int IntKind.i64 0) w) ∧
                ∀ m_29, ∀ t13_30 : Value, ∀ w : World, J_29 m_29 t13_30 w → Env →
                  run1 Tryd.prog Z (binOp BinOp.add 3 t52_28 x2) w fun t56_31 w =>
                  run1 Tryd.prog Z (binOp BinOp.lss 3 t13_30 t56_31) w fun t57_32 w =>
                  CondV t57_32 (
                    Drawn w fun w =>
                    Pure1 Tryd.prog (binOp BinOp.lss 3 t13_30 t52_28) fun t62_33 =>
                    guardV (t62_33) true (fun k => k (x0)) (fun t64_34 =>
                    guardV (t62_33) true (fun k => k (t11_23)) (fun t65_35 =>
                    guardV (t62_33) true (fun k => Pure1 Tryd.prog (Instr.indexAt 41 t64_34 t65_35) k) (fun t66_36 =>
                    guardV (t62_33) true (fun k => Read1 Tryd.prog (Instr.loadAt 22 t66_36) w k) (fun t67_37 =>
                    guardV (t62_33) true (fun k => k (t13_30)) (fun t68_38 =>
                    guardV (t62_33) true (fun k => Pure1 Tryd.prog (Instr.indexAt 22 t67_37 t68_38) k) (fun t69_39 =>
                    guardV (t62_33) true (fun k => Read1 Tryd.prog (Instr.loadAt 5 t69_39) w k) (fun t70_40 =>
                    guardV (t62_33) true (fun k => k (t11_23)) (fun t71_41 =>
                    guardV (t62_33) true (fun k => k (x1)) (fun t72_42 =>
                    guardV (t62_33) true (fun k => Pure1 Tryd.prog (binOp BinOp.quo 3 t71_41 t72_42) k) (fun t73_43 =>
                    guardV (t62_33) true (fun k => Pure1 Tryd.prog (binOp BinOp.rem 3 t73_43 (Value.int IntKind.i64 100)) k) (fun t74_44 =>
                    guardV (t62_33) true (fun k => Pure1 Tryd.prog (convert 3 5 t74_44) k) (fun t75_45 =>
                    guardV (t62_33) true (fun k => Pure1 Tryd.prog (eqOp BinOp.neq 5 false false t70_40 t75_45) k) (fun t76_46 =>
                    guardV (t62_33) true (fun k => k (t76_46)) (fun t77_47 =>
                    guardV (t77_47) false (fun k => k (t7_2)) (fun t78_48 =>
                    guardV (t77_47) false (fun k => k (t11_23)) (fun t79_49 =>
                    guardV (t77_47) false (fun k => Pure1 Tryd.prog (Instr.indexAt 41 t78_48 t79_49) k) (fun t80_50 =>
                    guardV (t77_47) false (fun k => Read1 Tryd.prog (Instr.loadAt 22 t80_50) w k) (fun t81_51 =>
                    guardV (t77_47) false (fun k => k (t13_30)) (fun t82_52 =>
                    guardV (t77_47) false (fun k => Pure1 Tryd.prog (Instr.indexAt 22 t81_51 t82_52) k) (fun t83_53 =>
                    guardV (t77_47) false (fun k => Read1 Tryd.prog (Instr.loadAt 5 t83_53) w k) (fun t84_54 =>
                    guardV (t77_47) false (fun k => k (t11_23)) (fun t85_55 =>
                    guardV (t77_47) false (fun k => k (x1)) (fun t86_56 =>
                    guardV (t77_47) false (fun k => Pure1 Tryd.prog (binOp BinOp.quo 3 t85_55 t86_56) k) (fun t87_57 =>
                    guardV (t77_47) false (fun k => Pure1 Tryd.prog (binOp BinOp.rem 3 t87_57 (Value.int IntKind.i64 100)) k) (fun t88_58 =>
                    guardV (t77_47) false (fun k => Pure1 Tryd.prog (convert 3 5 t88_58) k) (fun t89_59 =>
                    guardV (t77_47) false (fun k => Pure1 Tryd.prog (eqOp BinOp.neq 5 false false t84_54 t89_59) k) (fun t90_60 =>
                    guardV (t62_33) true (fun k => Pure1 Tryd.prog (pickV t77_47 (Value.bool true) t90_60) k) (fun t91_61 =>
                    Pure1 Tryd.prog (pickV t62_33 t91_61 (Value.bool false)) fun t92_62 =>
                    guardV (t92_62) false (fun k => k (t13_30)) (fun t94_63 =>
                    guardV (t92_62) false (fun k => k (t52_28)) (fun t95_64 =>
                    guardV (t92_62) false (fun k => Pure1 Tryd.prog (binOp BinOp.geq 3 t94_63 t95_64) k) (fun t96_65 =>
                    guardV (t92_62) false (fun k => k (t96_65)) (fun t97_66 =>
                    guardV (t97_66) true (fun k => k (t7_2)) (fun t98_67 =>
                    guardV (t97_66) true (fun k => k (t11_23)) (fun t99_68 =>
                    guardV (t97_66) true (fun k => Pure1 Tryd.prog (Instr.indexAt 41 t98_67 t99_68) k) (fun t100_69 =>
                    guardV (t97_66) true (fun k => Read1 Tryd.prog (Instr.loadAt 22 t100_69) w k) (fun t101_70 =>
                    guardV (t97_66) true (fun k => k (t13_30)) (fun t102_71 =>
                    guardV (t97_66) true (fun k => Pure1 Tryd.prog (Instr.indexAt 22 t101_70 t102_71) k) (fun t103_72 =>
                    guardV (t97_66) true (fun k => Read1 Tryd.prog (Instr.loadAt 5 t103_72) w k) (fun t104_73 =>
                    guardV (t97_66) true (fun k => k (t11_23)) (fun t105_74 =>
                    guardV (t97_66) true (fun k => k (x1)) (fun t106_75 =>
                    guardV (t97_66) true (fun k => Pure1 Tryd.prog (binOp BinOp.quo 3 t105_74 t106_75) k) (fun t107_76 =>
                    guardV (t97_66) true (fun k => Pure1 Tryd.prog (binOp BinOp.rem 3 t107_76 (Value.int IntKind.i64 100)) k) (fun t108_77 =>
                    guardV (t97_66) true (fun k => Pure1 Tryd.prog (binOp BinOp.add 3 (Value.int IntKind.i64 100) t108_77) k) (fun t109_78 =>
                    guardV (t97_66) true (fun k => Pure1 Tryd.prog (convert 3 5 t109_78) k) (fun t110_79 =>
                    guardV (t97_66) true (fun k => Pure1 Tryd.prog (eqOp BinOp.neq 5 false false t104_73 t110_79) k) (fun t111_80 =>
                    guardV (t92_62) false (fun k => Pure1 Tryd.prog (pickV t97_66 t111_80 (Value.bool false)) k) (fun t112_81 =>
                    Pure1 Tryd.prog (pickV t92_62 (Value.bool true) t112_81) fun t113_82 =>
                    CondV t113_82 (
                      Q (Value.bool false) w) (
                      run1 Tryd.prog Z (binOp BinOp.add 3 t13_30 (Value.int IntKind.i64 1)) w fun t59_83 w =>
                      ∃ n_29, n_29 < m_29 ∧ J_29 n_29 t59_83 w))))))))))))))))))))))))))))))))))))))))))))))))) (
                    run1 Tryd.prog Z (binOp BinOp.add 3 t11_23 (Value.int IntKind.i64 1)) w fun t47_84 w =>
                    ∃ n_22, n_22 < m_22 ∧ J_22 n_22 t47_84 w)) (
              Q (Value.bool true) w))
noncomputable def f58.code : Code := match Tryd.f58.body with | some c => c | none => .skip
def f58.an : An := (.sq .leaf (.sq .leaf (.sq (.sq .leaf (.bl (.lp [7, 8] [7, 8, 9, 10, 14, 15, 16, 17, 18, 19, 20, 21, 22, 23, 24, 25, 26, 27, 28, 29, 30, 31, 32, 33, 34, 35, 36, 37, 38, 39, 40, 41] (.sq (.sq .leaf (.cn .leaf .leaf)) (.sq (.bl (.sq .leaf (.sq (.sq .leaf (.bl (.lp [9, 10] [9, 10, 24, 25, 26, 27, 28, 29, 30, 31, 32, 33, 34, 35, 36, 37] (.sq (.sq .leaf (.cn .leaf .leaf)) (.sq (.bl .leaf) .leaf))))) .leaf))) .leaf))))) (.sq (.sq .leaf (.bl (.lp [11] [6, 11, 12, 13, 42, 43, 44, 45, 46, 47, 48, 49, 50, 51, 52, 53, 54, 55, 56, 57, 58, 59, 60, 61, 62, 63, 64, 65, 66, 67, 68, 69, 70, 71, 72, 73, 74, 75, 76, 77, 78, 79, 80, 81, 82, 83, 84, 85, 86, 87, 88, 89, 90, 91, 92, 93, 94, 95, 96, 97, 98, 99, 100, 101, 102, 103, 104, 105, 106, 107, 108, 109, 110, 111, 112, 113] (.sq (.sq .leaf (.cn .leaf .leaf)) (.sq (.bl (.sq .leaf (.sq .leaf (.bl (.lp [13] [6, 13, 53, 54, 55, 56, 57, 58, 59, 60, 61, 62, 63, 64, 65, 66, 67, 68, 69, 70, 71, 72, 73, 74, 75, 76, 77, 78, 79, 80, 81, 82, 83, 84, 85, 86, 87, 88, 89, 90, 91, 92, 93, 94, 95, 96, 97, 98, 99, 100, 101, 102, 103, 104, 105, 106, 107, 108, 109, 110, 111, 112, 113] (.sq (.sq .leaf (.cn .leaf .leaf)) (.sq (.bl (.sq (.dr (.take 0 false (.take 1 false (.take 2 false (.take 3 false (.take 4 false (.take 5 false (.take 6 false (.take 7 true (.take 8 false (.take 9 false (.take 10 true (.take 11 false (.take 12 false (.take 13 false (.take 14 false (.take 15 false (.take 16 false (.take 17 false (.take 18 false (.take 19 false (.take 20 false (.take 21 true (.take 22 false (.take 23 false (.take 24 true (.take 25 false (.take 26 false (.take 27 false (.take 28 false (.take 29 false (.take 30 false (.take 31 false (.take 32 false (.take 33 false (.take 34 false (.take 35 false (.take 36 false (.take 37 false (.take 38 false (.take 39 false (.take 40 false (.take 41 true (.take 42 false (.take 43 false (.take 44 true (.take 45 false (.take 46 false (.take 47 false (.take 48 false (.take 49 false (.take 50 false (.take 51 false (.take 52 false (.take 53 false .fin))))))))))))))))))))))))))))))))))))))))))))))))))))))) (.cn (.sq .leaf .leaf) .leaf))) .leaf))))))) .leaf))))) (.sq .leaf .leaf)))))
theorem f58.body_eq : Tryd.f58.body = some f58.code := by kernel_rfl
theorem f58.shape (Z : List PanicEntry → World → Prop) (x0 x1 x2 : Value) (w : World) (Q : Value → World → Prop) : vc drawD Tryd.prog 114 Z [] f58.an f58.code (fnQ Tryd.prog 114 Tryd.f58.results Q) (argEnv [x0, x1, x2]) w = f58.sh Z x0 x1 x2 w Q := by kernel_rfl
theorem f58.enters : ∀ f, f ∈ ([] : List Nat) → Enters Tryd.prog f := by
  intro f hf
  cases hf
theorem f58.calls {Z : List PanicEntry → World → Prop} {x0 x1 x2 : Value} {w : World} {Q : Value → World → Prop} (h : f58.sh Z x0 x1 x2 w Q) : CallV Tryd.prog Z 58 #[x0, x1, x2] w Q :=
  calls_of_vcn drawD_sound (Q := Q) (n := 114) (rs := Tryd.f58.results) (an := f58.an) (c := f58.code) (cal := []) (args := [x0, x1, x2]) Tryd.func58 (by kernel_rfl) rfl f58.body_eq follows (Nat.le_of_ble_eq_true (by kernel_rfl)) (enters_of_all f58.enters) ((f58.shape Z x0 x1 x2 w Q).mpr h)

/-! ### 59: lagoon/lagoonref00.grownInts -/
def f59.sh (Z : List PanicEntry → World → Prop) (x0 x1 : Value) (w : World) (Q : Value → World → Prop) : Prop :=
  ∃ J_1 : Nat → Value → Value → World → Prop, (∃ m, J_1 m (Value.slice none 0 0) (Value.int IntKind.i64 0) w) ∧
    ∀ m_1, ∀ t5_2 : Value, ∀ t6_3 : Value, ∀ w : World, J_1 m_1 t5_2 t6_3 w → Env →
      run1 Tryd.prog Z (Builtin.len_ #[42] 3 #[x0]) w fun t14_4 w =>
      run1 Tryd.prog Z (binOp BinOp.lss 3 t6_3 t14_4) w fun t15_5 w =>
      CondV t15_5 (
        run1 Tryd.prog Z (Instr.indexAt 42 x0 t6_3) w fun t20_6 w =>
        run1 Tryd.prog Z (Instr.loadAt 108 t20_6) w fun t21_7 w =>
        ∃ J_8 : Nat → Value → Value → World → Prop, (∃ m, J_8 m t21_7 (Value.int IntKind.i64 0) w) ∧
          ∀ m_8, ∀ t7_9 : Value, ∀ t8_10 : Value, ∀ w : World, J_8 m_8 t7_9 t8_10 w → Env →
            run1 Tryd.prog Z (binOp BinOp.lss 3 t8_10 x1) w fun t24_11 w =>
            CondV t24_11 (
              run1 Tryd.prog Z (binOp BinOp.sub 3 (Value.int IntKind.i64 (-2000000)) t6_3) w fun t29_12 w =>
              run1 Tryd.prog Z (Instr.buildSlice 108 1 #[(0, t29_12)]) w fun t30_13 w =>
              run1 Tryd.prog Z (Builtin.append_ #[108, 108] 108 #[t7_9, t30_13]) w fun t31_14 w =>
              run1 Tryd.prog Z (binOp BinOp.add 3 t8_10 (Value.int IntKind.i64 1)) w fun t26_15 w =>
              ∃ n_8, n_8 < m_8 ∧ J_8 n_8 t31_14 t26_15 w) (
              run1 Tryd.prog Z (Instr.buildSlice 42 1 #[(0, t7_9)]) w fun t34_16 w =>
              run1 Tryd.prog Z (Builtin.append_ #[42, 42] 42 #[t5_2, t34_16]) w fun t35_17 w =>
              run1 Tryd.prog Z (binOp BinOp.add 3 t6_3 (Value.int IntKind.i64 1)) w fun t17_18 w =>
              ∃ n_1, n_1 < m_1 ∧ J_1 n_1 t35_17 t17_18 w)) (
        ∃ J_19 : Nat → Value → World → Prop, (∃ m, J_19 m (Value.int IntKind.i64 0) w) ∧
          ∀ m_19, ∀ t9_20 : Value, ∀ w : World, J_19 m_19 t9_20 w → Env →
            run1 Tryd.prog Z (Builtin.len_ #[42] 3 #[x0]) w fun t38_21 w =>
            run1 Tryd.prog Z (binOp BinOp.lss 3 t9_20 t38_21) w fun t39_22 w =>
            CondV t39_22 (
              run1 Tryd.prog Z (Instr.indexAt 42 x0 t9_20) w fun t44_23 w =>
              run1 Tryd.prog Z (Instr.loadAt 108 t44_23) w fun t45_24 w =>
              run1 Tryd.prog Z (Builtin.len_ #[108] 3 #[t45_24]) w fun t46_25 w =>
              ∃ J_26 : Nat → Value → World → Prop, (∃ m, J_26 m (Value.int IntKind.i64 0) w) ∧
                ∀ m_26, ∀ t11_27 : Value, ∀ w : World, J_26 m_26 t11_27 w → Env →
                  run1 Tryd.prog Z (binOp BinOp.add 3 t46_25 x1) w fun t50_28 w =>
                  run1 Tryd.prog Z (binOp BinOp.lss 3 t11_27 t50_28) w fun t51_29 w =>
                  CondV t51_29 (
                    run1 Tryd.prog Z (binOp BinOp.lss 3 t11_27 t46_25) w fun t56_30 w =>
                    guardW (t56_30) true (fun k => k (x0) w) (fun t58_31 w =>
                    guardW (t56_30) true (fun k => k (t9_20) w) (fun t59_32 w =>
                    guardW (t56_30) true (fun k => run1 Tryd.prog Z (Instr.indexAt 42 t58_31 t59_32) w k) (fun t60_33 w =>
                    guardW (t56_30) true (fun k => run1 Tryd.prog Z (Instr.loadAt 108 t60_33) w k) (fun t61_34 w =>
                    guardW (t56_30) true (fun k => k (t11_27) w) (fun t62_35 w =>
                    guardW (t56_30) true (fun k => run1 Tryd.prog Z (Instr.indexAt 108 t61_34 t62_35) w k) (fun t63_36 w =>
                    guardW (t56_30) true (fun k => run1 Tryd.prog Z (Instr.loadAt 3 t63_36) w k) (fun t64_37 w =>
                    guardW (t56_30) true (fun k => k (t9_20) w) (fun t65_38 w =>
                    guardW (t56_30) true (fun k => run1 Tryd.prog Z (binOp BinOp.sub 3 (Value.int IntKind.i64 (-1000000)) t65_38) w k) (fun t66_39 w =>
                    guardW (t56_30) true (fun k => run1 Tryd.prog Z (eqOp BinOp.eql 3 false false t64_37 t66_39) w k) (fun t67_40 w =>
                    guardW (t56_30) true (fun k => run1 Tryd.prog Z (Op.unary UnOp.not t67_40) w k) (fun t68_41 w =>
                    run1 Tryd.prog Z (pickV t56_30 t68_41 (Value.bool false)) w fun t69_42 w =>
                    guardW (t69_42) false (fun k => k (t11_27) w) (fun t71_43 w =>
                    guardW (t69_42) false (fun k => k (t46_25) w) (fun t72_44 w =>
                    guardW (t69_42) false (fun k => run1 Tryd.prog Z (binOp BinOp.lss 3 t71_43 t72_44) w k) (fun t73_45 w =>
                    guardW (t69_42) false (fun k => k (t73_45) w) (fun t74_46 w =>
                    guardW (t74_46) true (fun k => k (t5_2) w) (fun t75_47 w =>
                    guardW (t74_46) true (fun k => k (t9_20) w) (fun t76_48 w =>
                    guardW (t74_46) true (fun k => run1 Tryd.prog Z (Instr.indexAt 42 t75_47 t76_48) w k) (fun t77_49 w =>
                    guardW (t74_46) true (fun k => run1 Tryd.prog Z (Instr.loadAt 108 t77_49) w k) (fun t78_50 w =>
                    guardW (t74_46) true (fun k => k (t11_27) w) (fun t79_51 w =>
                    guardW (t74_46) true (fun k => run1 Tryd.prog Z (Instr.indexAt 108 t78_50 t79_51) w k) (fun t80_52 w =>
                    guardW (t74_46) true (fun k => run1 Tryd.prog Z (Instr.loadAt 3 t80_52) w k) (fun t81_53 w =>
                    guardW (t74_46) true (fun k => k (t9_20) w) (fun t82_54 w =>
                    guardW (t74_46) true (fun k => run1 Tryd.prog Z (binOp BinOp.sub 3 (Value.int IntKind.i64 (-1000000)) t82_54) w k) (fun t83_55 w =>
                    guardW (t74_46) true (fun k => run1 Tryd.prog Z (eqOp BinOp.eql 3 false false t81_53 t83_55) w k) (fun t84_56 w =>
                    guardW (t74_46) true (fun k => run1 Tryd.prog Z (Op.unary UnOp.not t84_56) w k) (fun t85_57 w =>
                    guardW (t69_42) false (fun k => run1 Tryd.prog Z (pickV t74_46 t85_57 (Value.bool false)) w k) (fun t86_58 w =>
                    run1 Tryd.prog Z (pickV t69_42 (Value.bool true) t86_58) w fun t87_59 w =>
                    guardW (t87_59) false (fun k => k (t11_27) w) (fun t89_60 w =>
                    guardW (t87_59) false (fun k => k (t46_25) w) (fun t90_61 w =>
                    guardW (t87_59) false (fun k => run1 Tryd.prog Z (binOp BinOp.geq 3 t89_60 t90_61) w k) (fun t91_62 w =>
                    guardW (t87_59) false (fun k => k (t91_62) w) (fun t92_63 w =>
                    guardW (t92_63) true (fun k => k (t5_2) w) (fun t93_64 w =>
                    guardW (t92_63) true (fun k => k (t9_20) w) (fun t94_65 w =>
                    guardW (t92_63) true (fun k => run1 Tryd.prog Z (Instr.indexAt 42 t93_64 t94_65) w k) (fun t95_66 w =>
                    guardW (t92_63) true (fun k => run1 Tryd.prog Z (Instr.loadAt 108 t95_66) w k) (fun t96_67 w =>
                    guardW (t92_63) true (fun k => k (t11_27) w) (fun t97_68 w =>
                    guardW (t92_63) true (fun k => run1 Tryd.prog Z (Instr.indexAt 108 t96_67 t97_68) w k) (fun t98_69 w =>
                    guardW (t92_63) true (fun k => run1 Tryd.prog Z (Instr.loadAt 3 t98_69) w k) (fun t99_70 w =>
                    guardW (t92_63) true (fun k => k (t9_20) w) (fun t100_71 w =>
                    guardW (t92_63) true (fun k => run1 Tryd.prog Z (binOp BinOp.sub 3 (Value.int IntKind.i64 (-2000000)) t100_71) w k) (fun t101_72 w =>
                    guardW (t92_63) true (fun k => run1 Tryd.prog Z (eqOp BinOp.eql 3 false false t99_70 t101_72) w k) (fun t102_73 w =>
                    guardW (t92_63) true (fun k => run1 Tryd.prog Z (Op.unary UnOp.not t102_73) w k) (fun t103_74 w =>
                    guardW (t87_59) false (fun k => run1 Tryd.prog Z (pickV t92_63 t103_74 (Value.bool false)) w k) (fun t104_75 w =>
                    run1 Tryd.prog Z (pickV t87_59 (Value.bool true) t104_75) w fun t105_76 w =>
                    CondV t105_76 (
                      Q (Value.bool false) w) (
                      run1 Tryd.prog Z (binOp BinOp.add 3 t11_27 (Value.int IntKind.i64 1)) w fun t53_77 w =>
                      ∃ n_26, n_26 < m_26 ∧ J_26 n_26 t53_77 w)) w) w) w) w) w) w) w) w) w) w) w) w) w) w) w) w) w) w) w) w) w) w) w) w) w) w) w) w) w) w) w) w) w) w) w) w) w) w) w) w) w) w) w) (
                    run1 Tryd.prog Z (binOp BinOp.add 3 t9_20 (Value.int IntKind.i64 1)) w fun t41_78 w =>
                    ∃ n_19, n_19 < m_19 ∧ J_19 n_19 t41_78 w)) (
              Q (Value.bool true) w))
noncomputable def f59.code : Code := match Tryd.f59.body with | some c => c | none => .skip
def f59.an : An := (.sq .leaf (.sq .leaf (.sq (.sq .leaf (.bl (.lp [5, 6] [5, 6, 7, 8, 12, 13, 14, 15, 16, 17, 18, 19, 20, 21, 22, 23, 24, 25, 26, 27, 28, 29, 30, 31, 32, 33, 34, 35] (.sq (.sq .leaf (.cn .leaf .leaf)) (.sq (.bl (.sq .leaf (.sq (.sq .leaf (.bl (.lp [7, 8] [7, 8, 22, 23, 24, 25, 26, 27, 28, 29, 30, 31] (.sq (.sq .leaf (.cn .leaf .leaf)) (.sq (.bl .leaf) .leaf))))) .leaf))) .leaf))))) (.sq (.sq .leaf (.bl (.lp [9] [4, 9, 10, 11, 36, 37, 38, 39, 40, 41, 42, 43, 44, 45, 46, 47, 48, 49, 50, 51, 52, 53, 54, 55, 56, 57, 58, 59, 60, 61, 62, 63, 64, 65, 66, 67, 68, 69, 70, 71, 72, 73, 74, 75, 76, 77, 78, 79, 80, 81, 82, 83, 84, 85, 86, 87, 88, 89, 90, 91, 92, 93, 94, 95, 96, 97, 98, 99, 100, 101, 102, 103, 104, 105] (.sq (.sq .leaf (.cn .leaf .leaf)) (.sq (.bl (.sq .leaf (.sq .leaf (.bl (.lp [11] [4, 11, 47, 48, 49, 50, 51, 52, 53, 54, 55, 56, 57, 58, 59, 60, 61, 62, 63, 64, 65, 66, 67, 68, 69, 70, 71, 72, 73, 74, 75, 76, 77, 78, 79, 80, 81, 82, 83, 84, 85, 86, 87, 88, 89, 90, 91, 92, 93, 94, 95, 96, 97, 98, 99, 100, 101, 102, 103, 104, 105] (.sq (.sq .leaf (.cn .leaf .leaf)) (.sq (.bl (.sq .leaf (.cn (.sq .leaf .leaf) .leaf))) .leaf))))))) .leaf))))) (.sq .leaf .leaf)))))
theorem f59.body_eq : Tryd.f59.body = some f59.code := by kernel_rfl
theorem f59.shape (Z : List PanicEntry → World → Prop) (x0 x1 : Value) (w : World) (Q : Value → World → Prop) : vc drawD Tryd.prog 106 Z [] f59.an f59.code (fnQ Tryd.prog 106 Tryd.f59.results Q) (argEnv [x0, x1]) w = f59.sh Z x0 x1 w Q := by kernel_rfl
theorem f59.enters : ∀ f, f ∈ ([] : List Nat) → Enters Tryd.prog f := by
  intro f hf
  cases hf
theorem f59.calls {Z : List PanicEntry → World → Prop} {x0 x1 : Value} {w : World} {Q : Value → World → Prop} (h : f59.sh Z x0 x1 w Q) : CallV Tryd.prog Z 59 #[x0, x1] w Q :=
  calls_of_vcn drawD_sound (Q := Q) (n := 106) (rs := Tryd.f59.results) (an := f59.an) (c := f59.code) (cal := []) (args := [x0, x1]) Tryd.func59 (by kernel_rfl) rfl f59.body_eq follows (Nat.le_of_ble_eq_true (by kernel_rfl)) (enters_of_all f59.enters) ((f59.shape Z x0 x1 w Q).mpr h)

/-! ### 60: lagoon/lagoonref00.mark -/
def f60.sh (Z : List PanicEntry → World → Prop) (x0 : Value) (w : World) (Q : Value → World → Prop) : Prop :=
  CallV Tryd.prog Z 81 #[x0] w fun t4_1 w =>
  run1 Tryd.prog Z (binOp BinOp.add 9 (Value.string { data := #[33] }) t4_1) w fun t5_2 w =>
  Q t5_2 w
noncomputable def f60.code : Code := match Tryd.f60.body with | some c => c | none => .skip
def f60.an : An := (.sq .leaf (.sq .leaf .leaf))
theorem f60.body_eq : Tryd.f60.body = some f60.code := by kernel_rfl
theorem f60.shape (Z : List PanicEntry → World → Prop) (x0 : Value) (w : World) (Q : Value → World → Prop) : vc drawD Tryd.prog 6 Z [81] f60.an f60.code (fnQ Tryd.prog 6 Tryd.f60.results Q) (argEnv [x0]) w = f60.sh Z x0 w Q := by kernel_rfl
theorem f60.enters : ∀ f, f ∈ ([81] : List Nat) → Enters Tryd.prog f := by
  intro f hf
  simp only [List.mem_cons, List.not_mem_nil, or_false] at hf
  rcases hf with rfl
  · exact en81
theorem f60.calls {Z : List PanicEntry → World → Prop} {x0 : Value} {w : World} {Q : Value → World → Prop} (h : f60.sh Z x0 w Q) : CallV Tryd.prog Z 60 #[x0] w Q :=
  calls_of_vcn drawD_sound (Q := Q) (n := 6) (rs := Tryd.f60.results) (an := f60.an) (c := f60.code) (cal := [81]) (args := [x0]) Tryd.func60 (by kernel_rfl) rfl f60.body_eq follows (Nat.le_of_ble_eq_true (by kernel_rfl)) (enters_of_all f60.enters) ((f60.shape Z x0 w Q).mpr h)

/-! ### 61: lagoon/lagoonref00.grownTexts -/
def f61.sh (Z : List PanicEntry → World → Prop) (x0 x1 : Value) (w : World) (Q : Value → World → Prop) : Prop :=
  ∃ J_1 : Nat → Value → Value → World → Prop, (∃ m, J_1 m (Value.slice none 0 0) (Value.int IntKind.i64 0) w) ∧
    ∀ m_1, ∀ t5_2 : Value, ∀ t6_3 : Value, ∀ w : World, J_1 m_1 t5_2 t6_3 w → Env →
      run1 Tryd.prog Z (Builtin.len_ #[43] 3 #[x0]) w fun t14_4 w =>
      run1 Tryd.prog Z (binOp BinOp.lss 3 t6_3 t14_4) w fun t15_5 w =>
      CondV t15_5 (
        run1 Tryd.prog Z (Instr.indexAt 43 x0 t6_3) w fun t20_6 w =>
        run1 Tryd.prog Z (Instr.loadAt 27 t20_6) w fun t21_7 w =>
        ∃ J_8 : Nat → Value → Value → World → Prop, (∃ m, J_8 m t21_7 (Value.int IntKind.i64 0) w) ∧
          ∀ m_8, ∀ t7_9 : Value, ∀ t8_10 : Value, ∀ w : World, J_8 m_8 t7_9 t8_10 w → Env →
            run1 Tryd.prog Z (binOp BinOp.lss 3 t8_10 x1) w fun t24_11 w =>
            CondV t24_11 (
              run1 Tryd.prog Z (binOp BinOp.sub 3 (Value.int IntKind.i64 (-2000000)) t6_3) w fun t29_12 w =>
              CallV Tryd.prog Z 60 #[t29_12] w fun t30_13 w =>
              run1 Tryd.prog Z (Instr.buildSlice 27 1 #[(0, t30_13)]) w fun t31_14 w =>
              run1 Tryd.prog Z (Builtin.append_ #[27, 27] 27 #[t7_9, t31_14]) w fun t32_15 w =>
              run1 Tryd.prog Z (binOp BinOp.add 3 t8_10 (Value.int IntKind.i64 1)) w fun t26_16 w =>
              ∃ n_8, n_8 < m_8 ∧ J_8 n_8 t32_15 t26_16 w) (
              run1 Tryd.prog Z (Instr.buildSlice 43 1 #[(0, t7_9)]) w fun t35_17 w =>
              run1 Tryd.prog Z (Builtin.append_ #[43, 43] 43 #[t5_2, t35_17]) w fun t36_18 w =>
              run1 Tryd.prog Z (binOp BinOp.add 3 t6_3 (Value.int IntKind.i64 1)) w fun t17_19 w =>
              ∃ n_1, n_1 < m_1 ∧ J_1 n_1 t36_18 t17_19 w)) (
        ∃ J_20 : Nat → Value → World → Prop, (∃ m, J_20 m (Value.int IntKind.i64 0) w) ∧
          ∀ m_20, ∀ t9_21 : Value, ∀ w : World, J_20 m_20 t9_21 w → Env →
            run1 Tryd.prog Z (Builtin.len_ #[43] 3 #[x0]) w fun t39_22 w =>
            run1 Tryd.prog Z (binOp BinOp.lss 3 t9_21 t39_22) w fun t40_23 w =>
            CondV t40_23 (
              run1 Tryd.prog Z (Instr.indexAt 43 x0 t9_21) w fun t45_24 w =>
              run1 Tryd.prog Z (Instr.loadAt 27 t45_24) w fun t46_25 w =>
              run1 Tryd.prog Z (Builtin.len_ #[27] 3 #[t46_25]) w fun t47_26 w =>
              ∃ J_27 : Nat → Value → World → Prop, (∃ m, J_27 m (Value.int IntKind.i64 0) w) ∧
                ∀ m_27, ∀ t11_28 : Value, ∀ w : World, J_27 m_27 t11_28 w → Env →
                  run1 Tryd.prog Z (binOp BinOp.add 3 t47_26 x1) w fun t51_29 w =>
                  run1 Tryd.prog Z (binOp BinOp.lss 3 t11_28 t51_29) w fun t52_30 w =>
                  CondV t52_30 (
                    Drawn w fun w =>
                    Pure1 Tryd.prog (binOp BinOp.lss 3 t11_28 t47_26) fun t57_31 =>
                    guardV (t57_31) true (fun k => k (x0)) (fun t59_32 =>
                    guardV (t57_31) true (fun k => k (t9_21)) (fun t60_33 =>
                    guardV (t57_31) true (fun k => Pure1 Tryd.prog (Instr.indexAt 43 t59_32 t60_33) k) (fun t61_34 =>
                    guardV (t57_31) true (fun k => Read1 Tryd.prog (Instr.loadAt 27 t61_34) w k) (fun t62_35 =>
                    guardV (t57_31) true (fun k => k (t11_28)) (fun t63_36 =>
                    guardV (t57_31) true (fun k => Pure1 Tryd.prog (Instr.indexAt 27 t62_35 t63_36) k) (fun t64_37 =>
                    guardV (t57_31) true (fun k => Read1 Tryd.prog (Instr.loadAt 9 t64_37) w k) (fun t65_38 =>
                    guardV (t57_31) true (fun k => k (t9_21)) (fun t66_39 =>
                    guardV (t57_31) true (fun k => Pure1 Tryd.prog (binOp BinOp.sub 3 (Value.int IntKind.i64 (-1000000)) t66_39) k) (fun t67_40 =>
                    guardW (t57_31) true (fun k => CallV Tryd.prog Z 60 #[t67_40] w k) (fun t68_41 w =>
                      Still Tryd.prog (gSem (t57_31) true (nx (Instr.loadAt 9 t64_37))) t65_38 w <|
                      Still Tryd.prog (gSem (t57_31) true (nx (Instr.loadAt 27 t61_34))) t62_35 w <|
                      guardV (t57_31) true (fun k => Pure1 Tryd.prog (eqOp BinOp.eql 9 false false t65_38 t68_41) k) (fun t69_42 =>
                      guardV (t57_31) true (fun k => Pure1 Tryd.prog (Op.unary UnOp.not t69_42) k) (fun t70_43 =>
                      Pure1 Tryd.prog (pickV t57_31 t70_43 (Value.bool false)) fun t71_44 =>
                      guardV (t71_44) false (fun k => k (t11_28)) (fun t73_45 =>
                      guardV (t71_44) false (fun k => k (t47_26)) (fun t74_46 =>
                      guardV (t71_44) false (fun k => Pure1 Tryd.prog (binOp BinOp.lss 3 t73_45 t74_46) k) (fun t75_47 =>
                      guardV (t71_44) false (fun k => k (t75_47)) (fun t76_48 =>
                      guardV (t76_48) true (fun k => k (t5_2)) (fun t77_49 =>
                      guardV (t76_48) true (fun k => k (t9_21)) (fun t78_50 =>
                      guardV (t76_48) true (fun k => Pure1 Tryd.prog (Instr.indexAt 43 t77_49 t78_50) k) (fun t79_51 =>
                      guardV (t76_48) true (fun k => Read1 Tryd.prog (Instr.loadAt 27 t79_51) w k) (fun t80_52 =>
                      guardV (t76_48) true (fun k => k (t11_28)) (fun t81_53 =>
                      guardV (t76_48) true (fun k => Pure1 Tryd.prog (Instr.indexAt 27 t80_52 t81_53) k) (fun t82_54 =>
                      guardV (t76_48) true (fun k => Read1 Tryd.prog (Instr.loadAt 9 t82_54) w k) (fun t83_55 =>
                      guardV (t76_48) true (fun k => k (t9_21)) (fun t84_56 =>
                      guardV (t76_48) true (fun k => Pure1 Tryd.prog (binOp BinOp.sub 3 (Value.int IntKind.i64 (-1000000)) t84_56) k) (fun t85_57 =>
                      guardW (t76_48) true (fun k => CallV Tryd.prog Z 60 #[t85_57] w k) (fun t86_58 w =>
                        Still Tryd.prog (gSem (t76_48) true (nx (Instr.loadAt 9 t82_54))) t83_55 w <|
                        Still Tryd.prog (gSem (t76_48) true (nx (Instr.loadAt 27 t79_51))) t80_52 w <|
                        Still Tryd.prog (gSem (t57_31) true (nx (Instr.loadAt 9 t64_37))) t65_38 w <|
                        Still Tryd.prog (gSem (t57_31) true (nx (Instr.loadAt 27 t61_34))) t62_35 w <|
                        guardV (t76_48) true (fun k => Pure1 Tryd.prog (eqOp BinOp.eql 9 false false t83_55 t86_58) k) (fun t87_59 =>
                        guardV (t76_48) true (fun k => Pure1 Tryd.prog (Op.unary UnOp.not t87_59) k) (fun t88_60 =>
                        guardV (t71_44) false (fun k => Pure1 Tryd.prog (pickV t76_48 t88_60 (Value.bool false)) k) (fun t89_61 =>
                        Pure1 Tryd.prog (pickV t71_44 (Value.bool true) t89_61) fun t90_62 =>
                        guardV (t90_62) false (fun k => k (t11_28)) (fun t92_63 =>
                        guardV (t90_62) false (fun k => k (t47_26)) (fun t93_64 =>
                        guardV (t90_62) false (fun k => Pure1 Tryd.prog (binOp BinOp.geq 3 t92_63 t93_64) k) (fun t94_65 =>
                        guardV (t90_62) false (fun k => k (t94_65)) (fun t95_66 =>
                        guardV (t95_66) true (fun k => k (t5_2)) (fun t96_67 =>
                        guardV (t95_66) true (fun k => k (t9_21)) (fun t97_68 =>
                        guardV (t95_66) true (fun k => Pure1 Tryd.prog (Instr.indexAt 43 t96_67 t97_68) k) (fun t98_69 =>
                        guardV (t95_66) true (fun k => Read1 Tryd.prog (Instr.loadAt 27 t98_69) w k) (fun t99_70 =>
                        guardV (t95_66) true (fun k => k (t11_28)) (fun t100_71 =>
                        guardV (t95_66) true (fun k => Pure1 Tryd.prog (Instr.indexAt 27 t99_70 t100_71) k) (fun t101_72 =>
                        guardV (t95_66) true (fun k => Read1 Tryd.prog (Instr.loadAt 9 t101_72) w k) (fun t102_73 =>
                        guardV (t95_66) true (fun k => k (t9_21)) (fun t103_74 =>
                        guardV (t95_66) true (fun k => Pure1 Tryd.prog (binOp BinOp.sub 3 (Value.int IntKind.i64 (-2000000)) t103_74) k) (fun t104_75 =>
                        guardW (t95_66) true (fun k => CallV Tryd.prog Z 60 #[t104_75] w k) (fun t105_76 w =>
                          Still Tryd.prog (gSem (t95_66) true (nx (Instr.loadAt 9 t101_72))) t102_73 w <|
                          Still Tryd.prog (gSem (t95_66) true (nx (Instr.loadAt 27 t98_69))) t99_70 w <|
                          Still Tryd.prog (gSem (t76_48) true (nx (Instr.loadAt 9 t82_54))) t83_55 w <|
                          Still Tryd.prog (gSem (t76_48) true (nx (Instr.loadAt 27 t79_51))) t80_52 w <|
                          Still Tryd.prog (gSem (t57_31) true (nx (Instr.loadAt 9 t64_37))) t65_38 w <|
                          Still Tryd.prog (gSem (t57_31) true (nx (Instr.loadAt 27 t61_34))) t62_35 w <|
                          guardV (t95_66) true (fun k => Pure1 Tryd.prog (eqOp BinOp.eql 9 false false t102_73 t105_76) k) (fun t106_77 =>
                          guardV (t95_66) true (fun k => Pure1 Tryd.prog (Op.unary UnOp.not t106_77) k) (fun t107_78 =>
                          guardV (t90_62) false (fun k => Pure1 Tryd.prog (pickV t95_66 t107_78 (Value.bool false)) k) (fun t108_79 =>
                          Pure1 Tryd.prog (pickV t90_62 (Value.bool true) t108_79) fun t109_80 =>
                          CondV t109_80 (
                            Q (Value.bool false) w) (
                            run1 Tryd.prog Z (binOp BinOp.add 3 t11_28 (Value.int IntKind.i64 1)) w fun t54_81 w =>
                            ∃ n_27, n_27 < m_27 ∧ J_27 n_27 t54_81 w))))) w))))))))))))))))) w)))))))))))))))) w)))))))))) (
                    run1 Tryd.prog Z (binOp BinOp.add 3 t9_21 (Value.int IntKind.i64 1)) w fun t42_82 w =>
                    ∃ n_20, n_20 < m_20 ∧ J_20 n_20 t42_82 w)) (
              Q (Value.bool true) w))
noncomputable def f61.code : Code := match Tryd.f61.body with | some c => c | none => .skip
def f61.an : An := (.sq .leaf (.sq .leaf (.sq (.sq .leaf (.bl (.lp [5, 6] [5, 6, 7, 8, 12, 13, 14, 15, 16, 17, 18, 19, 20, 21, 22, 23, 24, 25, 26, 27, 28, 29, 30, 31, 32, 33, 34, 35, 36] (.sq (.sq .leaf (.cn .leaf .leaf)) (.sq (.bl (.sq .leaf (.sq (.sq .leaf (.bl (.lp [7, 8] [7, 8, 22, 23, 24, 25, 26, 27, 28, 29, 30, 31, 32] (.sq (.sq .leaf (.cn .leaf .leaf)) (.sq (.bl .leaf) .leaf))))) .leaf))) .leaf))))) (.sq (.sq .leaf (.bl (.lp [9] [4, 9, 10, 11, 37, 38, 39, 40, 41, 42, 43, 44, 45, 46, 47, 48, 49, 50, 51, 52, 53, 54, 55, 56, 57, 58, 59, 60, 61, 62, 63, 64, 65, 66, 67, 68, 69, 70, 71, 72, 73, 74, 75, 76, 77, 78, 79, 80, 81, 82, 83, 84, 85, 86, 87, 88, 89, 90, 91, 92, 93, 94, 95, 96, 97, 98, 99, 100, 101, 102, 103, 104, 105, 106, 107, 108, 109] (.sq (.sq .leaf (.cn .leaf .leaf)) (.sq (.bl (.sq .leaf (.sq .leaf (.bl (.lp [11] [4, 11, 48, 49, 50, 51, 52, 53, 54, 55, 56, 57, 58, 59, 60, 61, 62, 63, 64, 65, 66, 67, 68, 69, 70, 71, 72, 73, 74, 75, 76, 77, 78, 79, 80, 81, 82, 83, 84, 85, 86, 87, 88, 89, 90, 91, 92, 93, 94, 95, 96, 97, 98, 99, 100, 101, 102, 103, 104, 105, 106, 107, 108, 109] (.sq (.sq .leaf (.cn .leaf .leaf)) (.sq (.bl (.sq (.dr (.take 0 false (.take 1 false (.take 2 false (.take 3 false (.take 4 false (.take 5 false (.take 6 false (.take 7 true (.take 8 false (.take 9 false (.take 10 true (.take 11 false (.take 12 false (.one 13 (.take 14 false (.take 15 false (.take 16 false (.take 17 false (.take 18 false (.take 19 false (.take 20 false (.take 21 false (.take 22 false (.take 23 false (.take 24 false (.take 25 true (.take 26 false (.take 27 false (.take 28 true (.take 29 false (.take 30 false (.one 31 (.take 32 false (.take 33 false (.take 34 false (.take 35 false (.take 36 false (.take 37 false (.take 38 false (.take 39 false (.take 40 false (.take 41 false (.take 42 false (.take 43 false (.take 44 true (.take 45 false (.take 46 false (.take 47 true (.take 48 false (.take 49 false (.one 50 (.take 51 false (.take 52 false (.take 53 false (.take 54 false .fin)))))))))))))))))))))))))))))))))))))))))))))))))))))))) (.cn (.sq .leaf .leaf) .leaf))) .leaf))))))) .leaf))))) (.sq .leaf .leaf)))))
theorem f61.body_eq : Tryd.f61.body = some f61.code := by kernel_rfl
theorem f61.shape (Z : List PanicEntry → World → Prop) (x0 x1 : Value) (w : World) (Q : Value → World → Prop) : vc drawD Tryd.prog 110 Z [60] f61.an f61.code (fnQ Tryd.prog 110 Tryd.f61.results Q) (argEnv [x0, x1]) w = f61.sh Z x0 x1 w Q := by kernel_rfl
theorem f61.enters : ∀ f, f ∈ ([60] : List Nat) → Enters Tryd.prog f := by
  intro f hf
  simp only [List.mem_cons, List.not_mem_nil, or_false] at hf
  rcases hf with rfl
  · exact en60
theorem f61.calls {Z : List PanicEntry → World → Prop} {x0 x1 : Value} {w : World} {Q : Value → World → Prop} (h : f61.sh Z x0 x1 w Q) : CallV Tryd.prog Z 61 #[x0, x1] w Q :=
  calls_of_vcn drawD_sound (Q := Q) (n := 110) (rs := Tryd.f61.results) (an := f61.an) (c := f61.code) (cal := [60]) (args := [x0, x1]) Tryd.func61 (by kernel_rfl) rfl f61.body_eq follows (Nat.le_of_ble_eq_true (by kernel_rfl)) (enters_of_all f61.enters) ((f61.shape Z x0 x1 w Q).mpr h)

/-! ### 62: lagoon/lagoonref00.grownPieces -/
def f62.sh (Z : List PanicEntry → World → Prop) (x0 x1 : Value) (w : World) (Q : Value → World → Prop) : Prop :=
  ∃ J_1 : Nat → Value → Value → World → Prop, (∃ m, J_1 m (Value.slice none 0 0) (Value.int IntKind.i64 0) w) ∧
    ∀ m_1, ∀ t5_2 : Value, ∀ t6_3 : Value, ∀ w : World, J_1 m_1 t5_2 t6_3 w → Env →
      run1 Tryd.prog Z (Builtin.len_ #[44] 3 #[x0]) w fun t14_4 w =>
      run1 Tryd.prog Z (binOp BinOp.lss 3 t6_3 t14_4) w fun t15_5 w =>
      CondV t15_5 (
        run1 Tryd.prog Z (Instr.indexAt 44 x0 t6_3) w fun t20_6 w =>
        run1 Tryd.prog Z (Instr.loadAt 41 t20_6) w fun t21_7 w =>
        ∃ J_8 : Nat → Value → Value → World → Prop, (∃ m, J_8 m t21_7 (Value.int IntKind.i64 0) w) ∧
          ∀ m_8, ∀ t7_9 : Value, ∀ t8_10 : Value, ∀ w : World, J_8 m_8 t7_9 t8_10 w → Env →
            run1 Tryd.prog Z (binOp BinOp.lss 3 t8_10 x1) w fun t24_11 w =>
            CondV t24_11 (
              run1 Tryd.prog Z (binOp BinOp.sub 3 (Value.int IntKind.i64 (-2000000)) t6_3) w fun t29_12 w =>
              CallV Tryd.prog Z 60 #[t29_12] w fun t30_13 w =>
              run1 Tryd.prog Z (convert 9 22 t30_13) w fun t31_14 w =>
              run1 Tryd.prog Z (Instr.buildSlice 41 1 #[(0, t31_14)]) w fun t32_15 w =>
              run1 Tryd.prog Z (Builtin.append_ #[41, 41] 41 #[t7_9, t32_15]) w fun t33_16 w =>
              run1 Tryd.prog Z (binOp BinOp.add 3 t8_10 (Value.int IntKind.i64 1)) w fun t26_17 w =>
              ∃ n_8, n_8 < m_8 ∧ J_8 n_8 t33_16 t26_17 w) (
              run1 Tryd.prog Z (Instr.buildSlice 44 1 #[(0, t7_9)]) w fun t36_18 w =>
              run1 Tryd.prog Z (Builtin.append_ #[44, 44] 44 #[t5_2, t36_18]) w fun t37_19 w =>
              run1 Tryd.prog Z (binOp BinOp.add 3 t6_3 (Value.int IntKind.i64 1)) w fun t17_20 w =>
              ∃ n_1, n_1 < m_1 ∧ J_1 n_1 t37_19 t17_20 w)) (
        ∃ J_21 : Nat → Value → World → Prop, (∃ m, J_21 m (Value.int IntKind.i64 0) w) ∧
          ∀ m_21, ∀ t9_22 : Value, ∀ w : World, J_21 m_21 t9_22 w → Env →
            run1 Tryd.prog Z (Builtin.len_ #[44] 3 #[x0]) w fun t40_23 w =>
            run1 Tryd.prog Z (binOp BinOp.lss 3 t9_22 t40_23) w fun t41_24 w =>
            CondV t41_24 (
              run1 Tryd.prog Z (Instr.indexAt 44 x0 t9_22) w fun t46_25 w =>
              run1 Tryd.prog Z (Instr.loadAt 41 t46_25) w fun t47_26 w =>
              run1 Tryd.prog Z (Builtin.len_ #[41] 3 #[t47_26]) w fun t48_27 w =>
              ∃ J_28 : Nat → Value → World → Prop, (∃ m, J_28 m (Value.int IntKind.i64 0) w) ∧
                ∀ m_28, ∀ t11_29 : Value, ∀ w : World, J_28 m_28 t11_29 w → Env →
                  run1 Tryd.prog Z (binOp BinOp.add 3 t48_27 x1) w fun t52_30 w =>
                  run1 Tryd.prog Z (binOp BinOp.lss 3 t11_29 t52_30) w fun t53_31 w =>
                  CondV t53_31 (
                    Drawn w fun w =>
                    Pure1 Tryd.prog (binOp BinOp.lss 3 t11_29 t48_27) fun t58_32 =>
                    guardV (t58_32) true (fun k => k (x0)) (fun t60_33 =>
                    guardV (t58_32) true (fun k => k (t9_22)) (fun t61_34 =>
                    guardV (t58_32) true (fun k => Pure1 Tryd.prog (Instr.indexAt 44 t60_33 t61_34) k) (fun t62_35 =>
                    guardV (t58_32) true (fun k => Read1 Tryd.prog (Instr.loadAt 41 t62_35) w k) (fun t63_36 =>
                    guardV (t58_32) true (fun k => k (t11_29)) (fun t64_37 =>
                    guardV (t58_32) true (fun k => Pure1 Tryd.prog (Instr.indexAt 41 t63_36 t64_37) k) (fun t65_38 =>
                    guardV (t58_32) true (fun k => Read1 Tryd.prog (Instr.loadAt 22 t65_38) w k) (fun t66_39 =>
                    guardV (t58_32) true (fun k => Read1 Tryd.prog (convert 22 9 t66_39) w k) (fun t67_40 =>
                    guardV (t58_32) true (fun k => k (t9_22)) (fun t68_41 =>
                    guardV (t58_32) true (fun k => Pure1 Tryd.prog (binOp BinOp.sub 3 (Value.int IntKind.i64 (-1000000)) t68_41) k) (fun t69_42 =>
                    guardW (t58_32) true (fun k => CallV Tryd.prog Z 60 #[t69_42] w k) (fun t70_43 w =>
                      Still Tryd.prog (gSem (t58_32) true (nx (convert 22 9 t66_39))) t67_40 w <|
                      Still Tryd.prog (gSem (t58_32) true (nx (Instr.loadAt 22 t65_38))) t66_39 w <|
                      Still Tryd.prog (gSem (t58_32) true (nx (Instr.loadAt 41 t62_35))) t63_36 w <|
                      guardV (t58_32) true (fun k => Pure1 Tryd.prog (eqOp BinOp.eql 9 false false t67_40 t70_43) k) (fun t71_44 =>
                      guardV (t58_32) true (fun k => Pure1 Tryd.prog (Op.unary UnOp.not t71_44) k) (fun t72_45 =>
                      Pure1 Tryd.prog (pickV t58_32 t72_45 (Value.bool false)) fun t73_46 =>
                      guardV (t73_46) false (fun k => k (t11_29)) (fun t75_47 =>
                      guardV (t73_46) false (fun k => k (t48_27)) (fun t76_48 =>
                      guardV (t73_46) false (fun k => Pure1 Tryd.prog (binOp BinOp.lss 3 t75_47 t76_48) k) (fun t77_49 =>
                      guardV (t73_46) false (fun k => k (t77_49)) (fun t78_50 =>
                      guardV (t78_50) true (fun k => k (t5_2)) (fun t79_51 =>
                      guardV (t78_50) true (fun k => k (t9_22)) (fun t80_52 =>
                      guardV (t78_50) true (fun k => Pure1 Tryd.prog (Instr.indexAt 44 t79_51 t80_52) k) (fun t81_53 =>
                      guardV (t78_50) true (fun k => Read1 Tryd.prog (Instr.loadAt 41 t81_53) w k) (fun t82_54 =>
                      guardV (t78_50) true (fun k => k (t11_29)) (fun t83_55 =>
                      guardV (t78_50) true (fun k => Pure1 Tryd.prog (Instr.indexAt 41 t82_54 t83_55) k) (fun t84_56 =>
                      guardV (t78_50) true (fun k => Read1 Tryd.prog (Instr.loadAt 22 t84_56) w k) (fun t85_57 =>
                      guardV (t78_50) true (fun k => Read1 Tryd.prog (convert 22 9 t85_57) w k) (fun t86_58 =>
                      guardV (t78_50) true (fun k => k (t9_22)) (fun t87_59 =>
                      guardV (t78_50) true (fun k => Pure1 Tryd.prog (binOp BinOp.sub 3 (Value.int IntKind.i64 (-1000000)) t87_59) k) (fun t88_60 =>
                      guardW (t78_50) true (fun k => CallV Tryd.prog Z 60 #[t88_60] w k) (fun t89_61 w =>
                        Still Tryd.prog (gSem (t78_50) true (nx (convert 22 9 t85_57))) t86_58 w <|
                        Still Tryd.prog (gSem (t78_50) true (nx (Instr.loadAt 22 t84_56))) t85_57 w <|
                        Still Tryd.prog (gSem (t78_50) true (nx (Instr.loadAt 41 t81_53))) t82_54 w <|
                        Still Tryd.prog (gSem (t58_32) true (nx (convert 22 9 t66_39))) t67_40 w <|
                        Still Tryd.prog (gSem (t58_32) true (nx (Instr.loadAt 22 t65_38))) t66_39 w <|
                        Still Tryd.prog (gSem (t58_32) true (nx (Instr.loadAt 41 t62_35))) t63_36 w <|
                        guardV (t78_50) true (fun k => Pure1 Tryd.prog (eqOp BinOp.eql 9 false false t86_58 t89_61) k) (fun t90_62 =>
                        guardV (t78_50) true (fun k => Pure1 Tryd.prog (Op.unary UnOp.not t90_62) k) (fun t91_63 =>
                        guardV (t73_46) false (fun k => Pure1 Tryd.prog (pickV t78_50 t91_63 (Value.bool false)) k) (fun t92_64 =>
                        Pure1 Tryd.prog (pickV t73_46 (Value.bool true) t92_64) fun t93_65 =>
                        guardV (t93_65) false (fun k => k (t11_29)) (fun t95_66 =>
                        guardV (t93_65) false (fun k => k (t48_27)) (fun t96_67 =>
                        guardV (t93_65) false (fun k => Pure1 Tryd.prog (binOp BinOp.geq 3 t95_66 t96_67) k) (fun t97_68 =>
                        guardV (t93_65) false (fun k => k (t97_68)) (fun t98_69 =>
                        guardV (t98_69) true (fun k => k (t5_2)) (fun t99_70 =>
                        guardV (t98_69) true (fun k => k (t9_22)) (fun t100_71 =>
                        guardV (t98_69) true (fun k => Pure1 Tryd.prog (Instr.indexAt 44 t99_70 t100_71) k) (fun t101_72 =>
                        guardV (t98_69) true (fun k => Read1 Tryd.prog (Instr.loadAt 41 t101_72) w k) (fun t102_73 =>
                        guardV (t98_69) true (fun k => k (t11_29)) (fun t103_74 =>
                        guardV (t98_69) true (fun k => Pure1 Tryd.prog (Instr.indexAt 41 t102_73 t103_74) k) (fun t104_75 =>
                        guardV (t98_69) true (fun k => Read1 Tryd.prog (Instr.loadAt 22 t104_75) w k) (fun t105_76 =>
                        guardV (t98_69) true (fun k => Read1 Tryd.prog (convert 22 9 t105_76) w k) (fun t106_77 =>
                        guardV (t98_69) true (fun k => k (t9_22)) (fun t107_78 =>
                        guardV (t98_69) true (fun k => Pure1 Tryd.prog (binOp BinOp.sub 3 (Value.int IntKind.i64 (-2000000)) t107_78) k) (fun t108_79 =>
                        guardW (t98_69) true (fun k => CallV Tryd.prog Z 60 #[t108_79] w k) (fun t109_80 w =>
                          Still Tryd.prog (gSem (t98_69) true (nx (convert 22 9 t105_76))) t106_77 w <|
                          Still Tryd.prog (gSem (t98_69) true (nx (Instr.loadAt 22 t104_75))) t105_76 w <|
                          Still Tryd.prog (gSem (t98_69) true (nx (Instr.loadAt 41 t101_72))) t102_73 w <|
                          Still Tryd.prog (gSem (t78_50) true (nx (convert 22 9 t85_57))) t86_58 w <|
                          Still Tryd.prog (gSem (t78_50) true (nx (Instr.loadAt 22 t84_56))) t85_57 w <|
                          Still Tryd.prog (gSem (t78_50) true (nx (Instr.loadAt 41 t81_53))) t82_54 w <|
                          Still Tryd.prog (gSem (t58_32) true (nx (convert 22 9 t66_39))) t67_40 w <|
                          Still Tryd.prog (gSem (t58_32) true (nx (Instr.loadAt 22 t65_38))) t66_39 w <|
                          Still Tryd.prog (gSem (t58_32) true (nx (Instr.loadAt 41 t62_35))) t63_36 w <|
                          guardV (t98_69) true (fun k => Pure1 Tryd.prog (eqOp BinOp.eql 9 false false t106_77 t109_80) k) (fun t110_81 =>
                          guardV (t98_69) true (fun k => Pure1 Tryd.prog (Op.unary UnOp.not t110_81) k) (fun t111_82 =>
                          guardV (t93_65) false (fun k => Pure1 Tryd.prog (pickV t98_69 t111_82 (Value.bool false)) k) (fun t112_83 =>
                          Pure1 Tryd.prog (pickV t93_65 (Value.bool true) t112_83) fun t113_84 =>
                          CondV t113_84 (
                            Q (Value.bool false) w) (
                            run1 Tryd.prog Z (binOp BinOp.add 3 t11_29 (Value.int IntKind.i64 1)) w fun t55_85 w =>
                            ∃ n_28, n_28 < m_28 ∧ J_28 n_28 t55_85 w))))) w)))))))))))))))))) w))))))))))))))))) w))))))))))) (
                    run1 Tryd.prog Z (binOp BinOp.add 3 t9_22 (Value.int IntKind.i64 1)) w fun t43_86 w =>
                    ∃ n_21, n_21 < m_21 ∧ J_21 n_21 t43_86 w)) (
              Q (Value.bool true) w))
noncomputable def f62.code : Code := match Tryd.f62.body with | some c => c | none => .skip
def f62.an : An := (.sq .leaf (.sq .leaf (.sq (.sq .leaf (.bl (.lp [5, 6] [5, 6, 7, 8, 12, 13, 14, 15, 16, 17, 18, 19, 20, 21, 22, 23, 24, 25, 26, 27, 28, 29, 30, 31, 32, 33, 34, 35, 36, 37] (.sq (.sq .leaf (.cn .leaf .leaf)) (.sq (.bl (.sq .leaf (.sq (.sq .leaf (.bl (.lp [7, 8] [7, 8, 22, 23, 24, 25, 26, 27, 28, 29, 30, 31, 32, 33] (.sq (.sq .leaf (.cn .leaf .leaf)) (.sq (.bl .leaf) .leaf))))) .leaf))) .leaf))))) (.sq (.sq .leaf (.bl (.lp [9] [4, 9, 10, 11, 38, 39, 40, 41, 42, 43, 44, 45, 46, 47, 48, 49, 50, 51, 52, 53, 54, 55, 56, 57, 58, 59, 60, 61, 62, 63, 64, 65, 66, 67, 68, 69, 70, 71, 72, 73, 74, 75, 76, 77, 78, 79, 80, 81, 82, 83, 84, 85, 86, 87, 88, 89, 90, 91, 92, 93, 94, 95, 96, 97, 98, 99, 100, 101, 102, 103, 104, 105, 106, 107, 108, 109, 110, 111, 112, 113] (.sq (.sq .leaf (.cn .leaf .leaf)) (.sq (.bl (.sq .leaf (.sq .leaf (.bl (.lp [11] [4, 11, 49, 50, 51, 52, 53, 54, 55, 56, 57, 58, 59, 60, 61, 62, 63, 64, 65, 66, 67, 68, 69, 70, 71, 72, 73, 74, 75, 76, 77, 78, 79, 80, 81, 82, 83, 84, 85, 86, 87, 88, 89, 90, 91, 92, 93, 94, 95, 96, 97, 98, 99, 100, 101, 102, 103, 104, 105, 106, 107, 108, 109, 110, 111, 112, 113] (.sq (.sq .leaf (.cn .leaf .leaf)) (.sq (.bl (.sq (.dr (.take 0 false (.take 1 false (.take 2 false (.take 3 false (.take 4 false (.take 5 false (.take 6 false (.take 7 true (.take 8 false (.take 9 false (.take 10 true (.take 11 true (.take 12 false (.take 13 false (.one 14 (.take 15 false (.take 16 false (.take 17 false (.take 18 false (.take 19 false (.take 20 false (.take 21 false (.take 22 false (.take 23 false (.take 24 false (.take 25 false (.take 26 true (.take 27 false (.take 28 false (.take 29 true (.take 30 true (.take 31 false (.take 32 false (.one 33 (.take 34 false (.take 35 false (.take 36 false (.take 37 false (.take 38 false (.take 39 false (.take 40 false (.take 41 false (.take 42 false (.take 43 false (.take 44 false (.take 45 false (.take 46 true (.take 47 false (.take 48 false (.take 49 true (.take 50 true (.take 51 false (.take 52 false (.one 53 (.take 54 false (.take 55 false (.take 56 false (.take 57 false .fin))))))))))))))))))))))))))))))))))))))))))))))))))))))))))) (.cn (.sq .leaf .leaf) .leaf))) .leaf))))))) .leaf))))) (.sq .leaf .leaf)))))
theorem f62.body_eq : Tryd.f62.body = some f62.code := by kernel_rfl
theorem f62.shape (Z : List PanicEntry → World → Prop) (x0 x1 : Value) (w : World) (Q : Value → World → Prop) : vc drawD Tryd.prog 114 Z [60] f62.an f62.code (fnQ Tryd.prog 114 Tryd.f62.results Q) (argEnv [x0, x1]) w = f62.sh Z x0 x1 w Q := by kernel_rfl
theorem f62.enters : ∀ f, f ∈ ([60] : List Nat) → Enters Tryd.prog f := by
  intro f hf
  simp only [List.mem_cons, List.not_mem_nil, or_false] at hf
  rcases hf with rfl
  · exact en60
theorem f62.calls {Z : List PanicEntry → World → Prop} {x0 x1 : Value} {w : World} {Q : Value → World → Prop} (h : f62.sh Z x0 x1 w Q) : CallV Tryd.prog Z 62 #[x0, x1] w Q :=
  calls_of_vcn drawD_sound (Q := Q) (n := 114) (rs := Tryd.f62.results) (an := f62.an) (c := f62.code) (cal := [60]) (args := [x0, x1]) Tryd.func62 (by kernel_rfl) rfl f62.body_eq follows (Nat.le_of_ble_eq_true (by kernel_rfl)) (enters_of_all f62.enters) ((f62.shape Z x0 x1 w Q).mpr h)

end Go.Proofs.YthobnaagjhooeaaDoor
