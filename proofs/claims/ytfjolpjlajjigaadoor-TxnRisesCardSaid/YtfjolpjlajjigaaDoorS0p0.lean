import Derived.Test.YtfjolpjlajjigaaDoorShBase
set_option linter.unusedVariables false
namespace Go.Proofs.YtfjolpjlajjigaaDoor
open Go.Sh
/-! ### 2: gosem.cut.init -/
def f2.sh (Z : List PanicEntry → World → Prop) (w : World) (Q : Value → World → Prop) : Prop :=
  runX Tryd.prog Z (callFunc 1 #[]) w fun t0_1 w =>
  Q (Value.tuple #[]) w
noncomputable def f2.code : Code := match Tryd.f2.body with | some c => c | none => .skip
def f2.an : An := .leaf
theorem f2.body_eq : Tryd.f2.body = some f2.code := by kernel_rfl
theorem f2.shape (Z : List PanicEntry → World → Prop) (w : World) (Q : Value → World → Prop) : vc drawD Tryd.prog 1 Z [] f2.an f2.code (fnQ Tryd.prog 1 Tryd.f2.results Q) (argEnv []) w = f2.sh Z  w Q := by kernel_rfl
theorem f2.enters : ∀ f, f ∈ ([] : List Nat) → Enters Tryd.prog f := by
  intro f hf
  cases hf
theorem f2.calls {Z : List PanicEntry → World → Prop} {w : World} {Q : Value → World → Prop} (h : f2.sh Z  w Q) : CallV Tryd.prog Z 2 #[] w Q :=
  calls_of_vcn drawD_sound (Q := Q) (n := 1) (rs := Tryd.f2.results) (an := f2.an) (c := f2.code) (cal := []) (args := []) Tryd.func2 (by kernel_rfl) rfl f2.body_eq follows (Nat.le_of_ble_eq_true (by kernel_rfl)) (enters_of_all f2.enters) ((f2.shape Z  w Q).mpr h)

/-! ### 3: lagoon/lagoonlaw04.TxnOne -/
def f3.sh (Z : List PanicEntry → World → Prop) (x0 x1 x2 : Value) (w : World) (Q : Value → World → Prop) : Prop :=
  CallV Tryd.prog Z 10 #[] w fun t17_1 w =>
  run1 Tryd.prog Z (Builtin.len_ #[22] 3 #[x0]) w fun t19_2 w =>
  run1 Tryd.prog Z (binOp BinOp.gtr 3 t19_2 (Value.int IntKind.i64 67108864)) w fun t20_3 w =>
  CondV t20_3 (
    Q t17_1 w) (
    CallV Tryd.prog Z 12 #[x0] w fun t24_4 w =>
    CallV Tryd.prog Z 11 #[t24_4] w fun t25_5 w =>
    run1 Tryd.prog Z (Instr.extract t25_5 0) w fun t26_6 w =>
    run1 Tryd.prog Z (Instr.extract t25_5 1) w fun t27_7 w =>
    run1 Tryd.prog Z (Instr.alloc 36 true (.tuple #[])) w fun t8_8 w =>
    run0 Tryd.prog Z (Instr.storeAt 36 t8_8 t26_6) w fun w =>
    run1 Tryd.prog Z (eqOp BinOp.neq 37 false true t27_7 (Value.int IntKind.i64 0)) w fun t29_9 w =>
    CondV t29_9 (
      guardW (t17_1) true (fun k => k (t27_7) w) (fun t32_10 w =>
      guardW (t17_1) true (fun k => run1 Tryd.prog Z (eqOp BinOp.eql 37 false true t32_10 (Value.int IntKind.i64 40)) w k) (fun t33_11 w =>
      run1 Tryd.prog Z (pickV t17_1 t33_11 (Value.bool false)) w fun t34_12 w =>
      Q t34_12 w) w) w) (
      run1 Tryd.prog Z (Instr.loadAt 36 t8_8) w fun t36_13 w =>
      CallV Tryd.prog Z 13 #[t36_13] w fun t37_14 w =>
      run1 Tryd.prog Z (Instr.extract t37_14 0) w fun t38_15 w =>
      run1 Tryd.prog Z (Instr.extract t37_14 1) w fun t39_16 w =>
      CallV Tryd.prog Z 14 #[x0, t38_15] w fun t42_17 w =>
      CallV Tryd.prog Z 12 #[x0] w fun t45_18 w =>
      run1 Tryd.prog Z (Instr.buildSlice 22 1 #[(0, x2)]) w fun t47_19 w =>
      run1 Tryd.prog Z (Builtin.append_ #[22, 22] 22 #[t45_18, t47_19]) w fun t48_20 w =>
      CallV Tryd.prog Z 11 #[t48_20] w fun t49_21 w =>
      run1 Tryd.prog Z (Instr.extract t49_21 0) w fun t50_22 w =>
      run1 Tryd.prog Z (Instr.extract t49_21 1) w fun t51_23 w =>
      run1 Tryd.prog Z (Instr.alloc 36 true (.tuple #[])) w fun t13_24 w =>
      run0 Tryd.prog Z (Instr.storeAt 36 t13_24 t50_22) w fun w =>
      ∀ j_25 : Value → World → Prop, (∀ t1_26 : Value, ∀ w : World, (Env →
          run1 Tryd.prog Z (Instr.sliceAt 22 x0 none (some t1_26) none) w fun t63_27 w =>
          CallV Tryd.prog Z 12 #[t63_27] w fun t64_28 w =>
          CallV Tryd.prog Z 11 #[t64_28] w fun t65_29 w =>
          run1 Tryd.prog Z (Instr.extract t65_29 0) w fun t66_30 w =>
          run1 Tryd.prog Z (Instr.extract t65_29 1) w fun t67_31 w =>
          run1 Tryd.prog Z (Instr.alloc 36 true (.tuple #[])) w fun t15_32 w =>
          run0 Tryd.prog Z (Instr.storeAt 36 t15_32 t66_30) w fun w =>
          guardW (t17_1) true (fun k => k (t39_16) w) (fun t70_33 w =>
          guardW (t17_1) true (fun k => run1 Tryd.prog Z (eqOp BinOp.eql 37 false true t70_33 (Value.int IntKind.i64 0)) w k) (fun t71_34 w =>
          run1 Tryd.prog Z (pickV t17_1 t71_34 (Value.bool false)) w fun t72_35 w =>
          guardW (t72_35) true (fun k => k (t42_17) w) (fun t74_36 w =>
          run1 Tryd.prog Z (pickV t72_35 t74_36 (Value.bool false)) w fun t75_37 w =>
          guardW (t75_37) true (fun k => k (t51_23) w) (fun t77_38 w =>
          guardW (t75_37) true (fun k => run1 Tryd.prog Z (eqOp BinOp.eql 37 false true t77_38 (Value.int IntKind.i64 40)) w k) (fun t78_39 w =>
          run1 Tryd.prog Z (pickV t75_37 t78_39 (Value.bool false)) w fun t79_40 w =>
          guardW (t79_40) true (fun k => k (t67_31) w) (fun t81_41 w =>
          guardW (t79_40) true (fun k => run1 Tryd.prog Z (eqOp BinOp.eql 37 false true t81_41 (Value.int IntKind.i64 40)) w k) (fun t82_42 w =>
          run1 Tryd.prog Z (pickV t79_40 t82_42 (Value.bool false)) w fun t83_43 w =>
          Q t83_43 w) w) w) w) w) w) w) w) →
          j_25 t1_26 w) →
      run1 Tryd.prog Z (binOp BinOp.lss 3 x1 (Value.int IntKind.i64 0)) w fun t53_44 w =>
      guardW (t53_44) false (fun k => k (x1) w) (fun t55_45 w =>
      guardW (t53_44) false (fun k => k (x0) w) (fun t56_46 w =>
      guardW (t53_44) false (fun k => run1 Tryd.prog Z (Builtin.len_ #[22] 3 #[t56_46]) w k) (fun t57_47 w =>
      guardW (t53_44) false (fun k => run1 Tryd.prog Z (binOp BinOp.geq 3 t55_45 t57_47) w k) (fun t58_48 w =>
      run1 Tryd.prog Z (pickV t53_44 (Value.bool true) t58_48) w fun t59_49 w =>
      CondV t59_49 (
        j_25 (Value.int IntKind.i64 0) w) (
        j_25 x1 w)) w) w) w) w))
noncomputable def f3.code : Code := match Tryd.f3.body with | some c => c | none => .skip
def f3.an : An := (.sq .leaf (.sq .leaf (.sq (.sq .leaf (.cn (.sq .leaf .leaf) .leaf)) (.sq .leaf (.sq (.sq .leaf (.cn (.sq .leaf .leaf) .leaf)) (.sq .leaf (.sq .leaf (.sq .leaf (.sj [1] [1, 52, 53, 54, 55, 56, 57, 58, 59] (.sq .leaf (.cn .leaf .leaf)) (.sq .leaf (.sq .leaf .leaf)))))))))))
theorem f3.body_eq : Tryd.f3.body = some f3.code := by kernel_rfl
theorem f3.shape (Z : List PanicEntry → World → Prop) (x0 x1 x2 : Value) (w : World) (Q : Value → World → Prop) : vc drawD Tryd.prog 84 Z [10, 12, 11, 13, 14] f3.an f3.code (fnQ Tryd.prog 84 Tryd.f3.results Q) (argEnv [x0, x1, x2]) w = f3.sh Z x0 x1 x2 w Q := by kernel_rfl
theorem f3.enters : ∀ f, f ∈ ([10, 12, 11, 13, 14] : List Nat) → Enters Tryd.prog f := by
  intro f hf
  simp only [List.mem_cons, List.not_mem_nil, or_false] at hf
  rcases hf with rfl | rfl | rfl | rfl | rfl
  · exact en10
  · exact en12
  · exact en11
  · exact en13
  · exact en14
theorem f3.calls {Z : List PanicEntry → World → Prop} {x0 x1 x2 : Value} {w : World} {Q : Value → World → Prop} (h : f3.sh Z x0 x1 x2 w Q) : CallV Tryd.prog Z 3 #[x0, x1, x2] w Q :=
  calls_of_vcn drawD_sound (Q := Q) (n := 84) (rs := Tryd.f3.results) (an := f3.an) (c := f3.code) (cal := [10, 12, 11, 13, 14]) (args := [x0, x1, x2]) Tryd.func3 (by kernel_rfl) rfl f3.body_eq follows (Nat.le_of_ble_eq_true (by kernel_rfl)) (enters_of_all f3.enters) ((f3.shape Z x0 x1 x2 w Q).mpr h)

/-! ### 4: lagoon/lagoonlaw04.TxnBack -/
def f4.sh (Z : List PanicEntry → World → Prop) (x0 : Value) (w : World) (Q : Value → World → Prop) : Prop :=
  run1 Tryd.prog Z (Instr.box 36 x0) w fun t1_1 w =>
  CallV Tryd.prog Z 10 #[] w fun t10_2 w =>
  run1 Tryd.prog Z (Instr.fieldAt 36 t1_1 2) w fun t11_3 w =>
  run1 Tryd.prog Z (Instr.loadAt 34 t11_3) w fun t12_4 w =>
  CallV Tryd.prog Z 15 #[t12_4] w fun t13_5 w =>
  CondV t13_5 (
    Q t10_2 w) (
    run1 Tryd.prog Z (Instr.loadAt 36 t1_1) w fun t16_6 w =>
    CallV Tryd.prog Z 16 #[t16_6] w fun t17_7 w =>
    CallV Tryd.prog Z 13 #[t17_7] w fun t18_8 w =>
    run1 Tryd.prog Z (Instr.extract t18_8 0) w fun t19_9 w =>
    run1 Tryd.prog Z (Instr.extract t18_8 1) w fun t20_10 w =>
    run1 Tryd.prog Z (Instr.loadAt 36 t1_1) w fun t21_11 w =>
    CallV Tryd.prog Z 16 #[t21_11] w fun t22_12 w =>
    CallV Tryd.prog Z 17 #[t22_12] w fun t23_13 w =>
    run1 Tryd.prog Z (eqOp BinOp.neq 37 false true t20_10 (Value.int IntKind.i64 0)) w fun t25_14 w =>
    CondV t25_14 (
      guardW (t10_2) true (fun k => k (t23_13) w) (fun t28_15 w =>
      guardW (t10_2) true (fun k => k (t20_10) w) (fun t29_16 w =>
      guardW (t10_2) true (fun k => run1 Tryd.prog Z (eqOp BinOp.eql 37 false false t28_15 t29_16) w k) (fun t30_17 w =>
      run1 Tryd.prog Z (pickV t10_2 t30_17 (Value.bool false)) w fun t31_18 w =>
      guardW (t31_18) true (fun k => k (t19_9) w) (fun t33_19 w =>
      guardW (t31_18) true (fun k => run1 Tryd.prog Z (Builtin.len_ #[22] 3 #[t33_19]) w k) (fun t34_20 w =>
      guardW (t31_18) true (fun k => run1 Tryd.prog Z (eqOp BinOp.eql 3 false true t34_20 (Value.int IntKind.i64 0)) w k) (fun t35_21 w =>
      run1 Tryd.prog Z (pickV t31_18 t35_21 (Value.bool false)) w fun t36_22 w =>
      Q t36_22 w) w) w) w) w) w) w) (
      CallV Tryd.prog Z 11 #[t19_9] w fun t39_23 w =>
      run1 Tryd.prog Z (Instr.extract t39_23 0) w fun t40_24 w =>
      run1 Tryd.prog Z (Instr.extract t39_23 1) w fun t41_25 w =>
      run1 Tryd.prog Z (Instr.alloc 36 true (.tuple #[])) w fun t7_26 w =>
      run0 Tryd.prog Z (Instr.storeAt 36 t7_26 t40_24) w fun w =>
      Drawn w fun w =>
      Read1 Tryd.prog (Instr.loadAt 36 t1_1) w fun t42_27 =>
      Read1 Tryd.prog (Instr.loadAt 36 t7_26) w fun t44_28 =>
      CallV Tryd.prog Z 16 #[t42_27] w fun t43_29 w =>
        Still Tryd.prog (nx (Instr.loadAt 36 t7_26)) t44_28 w <|
      CallV Tryd.prog Z 18 #[t43_29, t44_28] w fun t45_30 w =>
      guardW (t10_2) true (fun k => k (t23_13) w) (fun t48_31 w =>
      guardW (t10_2) true (fun k => k (t20_10) w) (fun t49_32 w =>
      guardW (t10_2) true (fun k => run1 Tryd.prog Z (eqOp BinOp.eql 37 false false t48_31 t49_32) w k) (fun t50_33 w =>
      run1 Tryd.prog Z (pickV t10_2 t50_33 (Value.bool false)) w fun t51_34 w =>
      guardW (t51_34) true (fun k => k (t41_25) w) (fun t53_35 w =>
      guardW (t51_34) true (fun k => k (t20_10) w) (fun t54_36 w =>
      guardW (t51_34) true (fun k => run1 Tryd.prog Z (eqOp BinOp.eql 37 false false t53_35 t54_36) w k) (fun t55_37 w =>
      run1 Tryd.prog Z (pickV t51_34 t55_37 (Value.bool false)) w fun t56_38 w =>
      guardW (t56_38) true (fun k => k (t45_30) w) (fun t58_39 w =>
      run1 Tryd.prog Z (pickV t56_38 t58_39 (Value.bool false)) w fun t59_40 w =>
      guardW (t59_40) true (fun k => run1 Tryd.prog Z (Instr.loadAt 36 t1_1) w k) (fun t61_41 w =>
      guardW (t59_40) true (fun k => run1 Tryd.prog Z (Instr.loadAt 36 t7_26) w k) (fun t62_42 w =>
      guardW (t59_40) true (fun k => CallV Tryd.prog Z 19 #[t61_41, t62_42] w k) (fun t63_43 w =>
      run1 Tryd.prog Z (pickV t59_40 t63_43 (Value.bool false)) w fun t64_44 w =>
      guardW (t64_44) true (fun k => k (t19_9) w) (fun t66_45 w =>
      guardW (t64_44) true (fun k => run1 Tryd.prog Z (Builtin.len_ #[22] 3 #[t66_45]) w k) (fun t67_46 w =>
      guardW (t64_44) true (fun k => run1 Tryd.prog Z (binOp BinOp.leq 3 t67_46 (Value.int IntKind.i64 4096)) w k) (fun t68_47 w =>
      run1 Tryd.prog Z (pickV t64_44 t68_47 (Value.bool false)) w fun t69_48 w =>
      Q t69_48 w) w) w) w) w) w) w) w) w) w) w) w) w) w))
noncomputable def f4.code : Code := match Tryd.f4.body with | some c => c | none => .skip
def f4.an : An := (.sq .leaf (.sq .leaf (.sq (.sq .leaf (.cn (.sq .leaf .leaf) .leaf)) (.sq .leaf (.sq .leaf (.sq (.sq .leaf (.cn (.sq .leaf .leaf) .leaf)) (.sq .leaf (.sq (.dr (.take 0 true (.take 2 true (.one 1 (.one 3 (.take 4 false .fin)))))) (.sq .leaf .leaf)))))))))
theorem f4.body_eq : Tryd.f4.body = some f4.code := by kernel_rfl
theorem f4.shape (Z : List PanicEntry → World → Prop) (x0 : Value) (w : World) (Q : Value → World → Prop) : vc drawD Tryd.prog 70 Z [10, 15, 16, 13, 17, 11, 18, 19] f4.an f4.code (fnQ Tryd.prog 70 Tryd.f4.results Q) (argEnv [x0]) w = f4.sh Z x0 w Q := by kernel_rfl
theorem f4.enters : ∀ f, f ∈ ([10, 15, 16, 13, 17, 11, 18, 19] : List Nat) → Enters Tryd.prog f := by
  intro f hf
  simp only [List.mem_cons, List.not_mem_nil, or_false] at hf
  rcases hf with rfl | rfl | rfl | rfl | rfl | rfl | rfl | rfl
  · exact en10
  · exact en15
  · exact en16
  · exact en13
  · exact en17
  · exact en11
  · exact en18
  · exact en19
theorem f4.calls {Z : List PanicEntry → World → Prop} {x0 : Value} {w : World} {Q : Value → World → Prop} (h : f4.sh Z x0 w Q) : CallV Tryd.prog Z 4 #[x0] w Q :=
  calls_of_vcn drawD_sound (Q := Q) (n := 70) (rs := Tryd.f4.results) (an := f4.an) (c := f4.code) (cal := [10, 15, 16, 13, 17, 11, 18, 19]) (args := [x0]) Tryd.func4 (by kernel_rfl) rfl f4.body_eq follows (Nat.le_of_ble_eq_true (by kernel_rfl)) (enters_of_all f4.enters) ((f4.shape Z x0 w Q).mpr h)

/-! ### 5: lagoon/lagoonlaw04.TxnPacked -/
def f5.sh (Z : List PanicEntry → World → Prop) (x0 x1 : Value) (w : World) (Q : Value → World → Prop) : Prop :=
  run1 Tryd.prog Z (Instr.box 26 x0) w fun t2_1 w =>
  run1 Tryd.prog Z (Instr.box 26 x1) w fun t3_2 w =>
  CallV Tryd.prog Z 10 #[] w fun t14_3 w =>
  run1 Tryd.prog Z (Instr.loadAt 26 t2_1) w fun t16_4 w =>
  CallV Tryd.prog Z 20 #[t16_4] w fun t17_5 w =>
  run1 Tryd.prog Z (Instr.extract t17_5 0) w fun t18_6 w =>
  run1 Tryd.prog Z (Instr.extract t17_5 1) w fun t19_7 w =>
  run1 Tryd.prog Z (Instr.loadAt 26 t3_2) w fun t21_8 w =>
  CallV Tryd.prog Z 20 #[t21_8] w fun t22_9 w =>
  run1 Tryd.prog Z (Instr.extract t22_9 0) w fun t23_10 w =>
  run1 Tryd.prog Z (Instr.extract t22_9 1) w fun t24_11 w =>
  run1 Tryd.prog Z (eqOp BinOp.neq 37 false true t19_7 (Value.int IntKind.i64 0)) w fun t26_12 w =>
  guardW (t26_12) false (fun k => k (t24_11) w) (fun t28_13 w =>
  guardW (t26_12) false (fun k => run1 Tryd.prog Z (eqOp BinOp.neq 37 false true t28_13 (Value.int IntKind.i64 0)) w k) (fun t29_14 w =>
  run1 Tryd.prog Z (pickV t26_12 (Value.bool true) t29_14) w fun t30_15 w =>
  CondV t30_15 (
    guardW (t14_3) true (fun k => run1 Tryd.prog Z (Instr.fieldAt 26 t2_1 0) w k) (fun t33_16 w =>
    guardW (t14_3) true (fun k => run1 Tryd.prog Z (Instr.loadAt 24 t33_16) w k) (fun t34_17 w =>
    guardW (t14_3) true (fun k => run1 Tryd.prog Z (binOp BinOp.gtr 24 t34_17 (Value.int IntKind.u32 2147483647)) w k) (fun t35_18 w =>
    guardW (t14_3) true (fun k => k (t35_18) w) (fun t36_19 w =>
    guardW (t36_19) false (fun k => run1 Tryd.prog Z (Instr.fieldAt 26 t3_2 0) w k) (fun t37_20 w =>
    guardW (t36_19) false (fun k => run1 Tryd.prog Z (Instr.loadAt 24 t37_20) w k) (fun t38_21 w =>
    guardW (t36_19) false (fun k => run1 Tryd.prog Z (binOp BinOp.gtr 24 t38_21 (Value.int IntKind.u32 2147483647)) w k) (fun t39_22 w =>
    guardW (t14_3) true (fun k => run1 Tryd.prog Z (pickV t36_19 (Value.bool true) t39_22) w k) (fun t40_23 w =>
    run1 Tryd.prog Z (pickV t14_3 t40_23 (Value.bool false)) w fun t41_24 w =>
    Q t41_24 w) w) w) w) w) w) w) w) w) (
    CallV Tryd.prog Z 21 #[t18_6] w fun t44_25 w =>
    run1 Tryd.prog Z (Instr.extract t44_25 0) w fun t45_26 w =>
    run1 Tryd.prog Z (Instr.extract t44_25 1) w fun t46_27 w =>
    run1 Tryd.prog Z (Instr.alloc 26 true (.tuple #[])) w fun t10_28 w =>
    run0 Tryd.prog Z (Instr.storeAt 26 t10_28 t45_26) w fun w =>
    run1 Tryd.prog Z (Instr.loadAt 26 t2_1) w fun t47_29 w =>
    run1 Tryd.prog Z (Instr.loadAt 26 t3_2) w fun t48_30 w =>
    CallV Tryd.prog Z 22 #[t47_29, t48_30] w fun t49_31 w =>
    run1 Tryd.prog Z (Instr.loadAt 26 t3_2) w fun t50_32 w =>
    run1 Tryd.prog Z (Instr.loadAt 26 t2_1) w fun t51_33 w =>
    CallV Tryd.prog Z 22 #[t50_32, t51_33] w fun t52_34 w =>
    guardW (t14_3) true (fun k => k (t46_27) w) (fun t55_35 w =>
    guardW (t14_3) true (fun k => run1 Tryd.prog Z (eqOp BinOp.eql 37 false true t55_35 (Value.int IntKind.i64 0)) w k) (fun t56_36 w =>
    run1 Tryd.prog Z (pickV t14_3 t56_36 (Value.bool false)) w fun t57_37 w =>
    guardW (t57_37) true (fun k => run1 Tryd.prog Z (Instr.loadAt 26 t10_28) w k) (fun t59_38 w =>
    guardW (t57_37) true (fun k => run1 Tryd.prog Z (Instr.loadAt 26 t2_1) w k) (fun t60_39 w =>
    guardW (t57_37) true (fun k => run1 Tryd.prog Z (eqOp BinOp.eql 26 false false t59_38 t60_39) w k) (fun t61_40 w =>
    run1 Tryd.prog Z (pickV t57_37 t61_40 (Value.bool false)) w fun t62_41 w =>
    guardW (t62_41) true (fun k => k (t18_6) w) (fun t64_42 w =>
    guardW (t62_41) true (fun k => k (t23_10) w) (fun t65_43 w =>
    guardW (t62_41) true (fun k => run1 Tryd.prog Z (binOp BinOp.lss 2 t64_42 t65_43) w k) (fun t66_44 w =>
    guardW (t62_41) true (fun k => k (t49_31) w) (fun t67_45 w =>
    guardW (t62_41) true (fun k => run1 Tryd.prog Z (binOp BinOp.lss 3 t67_45 (Value.int IntKind.i64 0)) w k) (fun t68_46 w =>
    guardW (t62_41) true (fun k => run1 Tryd.prog Z (eqOp BinOp.eql 4 false false t66_44 t68_46) w k) (fun t69_47 w =>
    run1 Tryd.prog Z (pickV t62_41 t69_47 (Value.bool false)) w fun t70_48 w =>
    guardW (t70_48) true (fun k => k (t18_6) w) (fun t72_49 w =>
    guardW (t70_48) true (fun k => k (t23_10) w) (fun t73_50 w =>
    guardW (t70_48) true (fun k => run1 Tryd.prog Z (eqOp BinOp.eql 2 false false t72_49 t73_50) w k) (fun t74_51 w =>
    guardW (t70_48) true (fun k => k (t49_31) w) (fun t75_52 w =>
    guardW (t70_48) true (fun k => run1 Tryd.prog Z (eqOp BinOp.eql 3 false true t75_52 (Value.int IntKind.i64 0)) w k) (fun t76_53 w =>
    guardW (t70_48) true (fun k => run1 Tryd.prog Z (eqOp BinOp.eql 4 false false t74_51 t76_53) w k) (fun t77_54 w =>
    run1 Tryd.prog Z (pickV t70_48 t77_54 (Value.bool false)) w fun t78_55 w =>
    guardW (t78_55) true (fun k => k (t49_31) w) (fun t80_56 w =>
    guardW (t78_55) true (fun k => k (t52_34) w) (fun t81_57 w =>
    guardW (t78_55) true (fun k => run1 Tryd.prog Z (Op.unary UnOp.neg t81_57) w k) (fun t82_58 w =>
    guardW (t78_55) true (fun k => run1 Tryd.prog Z (eqOp BinOp.eql 3 false false t80_56 t82_58) w k) (fun t83_59 w =>
    run1 Tryd.prog Z (pickV t78_55 t83_59 (Value.bool false)) w fun t84_60 w =>
    Q t84_60 w) w) w) w) w) w) w) w) w) w) w) w) w) w) w) w) w) w) w) w) w) w)) w) w
noncomputable def f5.code : Code := match Tryd.f5.body with | some c => c | none => .skip
def f5.an : An := (.sq .leaf (.sq .leaf (.sq .leaf (.sq .leaf (.sq (.sq .leaf (.cn (.sq .leaf .leaf) .leaf)) (.sq .leaf (.sq .leaf (.sq .leaf (.sq .leaf .leaf)))))))))
theorem f5.body_eq : Tryd.f5.body = some f5.code := by kernel_rfl
theorem f5.shape (Z : List PanicEntry → World → Prop) (x0 x1 : Value) (w : World) (Q : Value → World → Prop) : vc drawD Tryd.prog 85 Z [10, 20, 21, 22] f5.an f5.code (fnQ Tryd.prog 85 Tryd.f5.results Q) (argEnv [x0, x1]) w = f5.sh Z x0 x1 w Q := by kernel_rfl
theorem f5.enters : ∀ f, f ∈ ([10, 20, 21, 22] : List Nat) → Enters Tryd.prog f := by
  intro f hf
  simp only [List.mem_cons, List.not_mem_nil, or_false] at hf
  rcases hf with rfl | rfl | rfl | rfl
  · exact en10
  · exact en20
  · exact en21
  · exact en22
theorem f5.calls {Z : List PanicEntry → World → Prop} {x0 x1 : Value} {w : World} {Q : Value → World → Prop} (h : f5.sh Z x0 x1 w Q) : CallV Tryd.prog Z 5 #[x0, x1] w Q :=
  calls_of_vcn drawD_sound (Q := Q) (n := 85) (rs := Tryd.f5.results) (an := f5.an) (c := f5.code) (cal := [10, 20, 21, 22]) (args := [x0, x1]) Tryd.func5 (by kernel_rfl) rfl f5.body_eq follows (Nat.le_of_ble_eq_true (by kernel_rfl)) (enters_of_all f5.enters) ((f5.shape Z x0 x1 w Q).mpr h)

/-! ### 6: lagoon/lagoonlaw04.TxnStairs -/
def f6.sh (Z : List PanicEntry → World → Prop) (x0 x1 x2 : Value) (w : World) (Q : Value → World → Prop) : Prop :=
  run1 Tryd.prog Z (Instr.box 26 x0) w fun t3_1 w =>
  CallV Tryd.prog Z 10 #[] w fun t15_2 w =>
  CallV Tryd.prog Z 23 #[x1] w fun t17_3 w =>
  CondV t17_3 (
    Q t15_2 w) (
    Drawn w fun w =>
    Read1 Tryd.prog (Instr.loadAt 26 t3_1) w fun t19_4 =>
    CallV Tryd.prog Z 25 #[x1] w fun t21_5 w =>
      Still Tryd.prog (nx (Instr.loadAt 26 t3_1)) t19_4 w <|
    CallV Tryd.prog Z 24 #[t19_4, t21_5] w fun t22_6 w =>
    run1 Tryd.prog Z (Op.unary UnOp.not t22_6) w fun t24_7 w =>
    guardW (t24_7) false (fun k => k (x2) w) (fun t26_8 w =>
    guardW (t24_7) false (fun k => run1 Tryd.prog Z (binOp BinOp.lss 3 t26_8 (Value.int IntKind.i64 0)) w k) (fun t27_9 w =>
    run1 Tryd.prog Z (pickV t24_7 (Value.bool true) t27_9) w fun t28_10 w =>
    guardW (t28_10) false (fun k => k (x2) w) (fun t30_11 w =>
    guardW (t28_10) false (fun k => k (x1) w) (fun t31_12 w =>
    guardW (t28_10) false (fun k => run1 Tryd.prog Z (Builtin.len_ #[56] 3 #[t31_12]) w k) (fun t32_13 w =>
    guardW (t28_10) false (fun k => run1 Tryd.prog Z (binOp BinOp.geq 3 t30_11 t32_13) w k) (fun t33_14 w =>
    run1 Tryd.prog Z (pickV t28_10 (Value.bool true) t33_14) w fun t34_15 w =>
    CondV t34_15 (
      Q t15_2 w) (
      Drawn w fun w =>
      Pure1 Tryd.prog (Instr.indexAt 56 x1 x2) fun t38_16 =>
      Pure1 Tryd.prog (Instr.fieldAt 36 t38_16 0) fun t39_17 =>
      Read1 Tryd.prog (Instr.loadAt 26 t39_17) w fun t40_18 =>
      Pure1 Tryd.prog (binOp BinOp.add 3 x2 (Value.int IntKind.i64 1)) fun t43_19 =>
      Pure1 Tryd.prog (Instr.sliceAt 56 x1 (some t43_19) none none) fun t44_20 =>
      CallV Tryd.prog Z 25 #[t44_20] w fun t45_21 w =>
        Still Tryd.prog (nx (Instr.loadAt 26 t39_17)) t40_18 w <|
      CallV Tryd.prog Z 24 #[t40_18, t45_21] w fun t46_22 w =>
      Drawn w fun w =>
      Read1 Tryd.prog (Instr.loadAt 26 t3_1) w fun t47_23 =>
      Pure1 Tryd.prog (Instr.sliceAt 56 x1 none (some x2) none) fun t50_24 =>
      CallV Tryd.prog Z 25 #[t50_24] w fun t51_25 w =>
        Still Tryd.prog (nx (Instr.loadAt 26 t3_1)) t47_23 w <|
      CallV Tryd.prog Z 24 #[t47_23, t51_25] w fun t52_26 w =>
      run1 Tryd.prog Z (Instr.loadAt 26 t3_1) w fun t54_27 w =>
      CallV Tryd.prog Z 20 #[t54_27] w fun t55_28 w =>
      run1 Tryd.prog Z (Instr.extract t55_28 0) w fun t56_29 w =>
      run1 Tryd.prog Z (Instr.extract t55_28 1) w fun t57_30 w =>
      run1 Tryd.prog Z (Instr.indexAt 56 x1 x2) w fun t61_31 w =>
      run1 Tryd.prog Z (Instr.fieldAt 36 t61_31 0) w fun t62_32 w =>
      run1 Tryd.prog Z (Instr.loadAt 26 t62_32) w fun t63_33 w =>
      CallV Tryd.prog Z 20 #[t63_33] w fun t64_34 w =>
      run1 Tryd.prog Z (Instr.extract t64_34 0) w fun t65_35 w =>
      run1 Tryd.prog Z (Instr.extract t64_34 1) w fun t66_36 w =>
      guardW (t15_2) true (fun k => k (t46_22) w) (fun t69_37 w =>
      run1 Tryd.prog Z (pickV t15_2 t69_37 (Value.bool false)) w fun t70_38 w =>
      guardW (t70_38) true (fun k => k (t52_26) w) (fun t72_39 w =>
      run1 Tryd.prog Z (pickV t70_38 t72_39 (Value.bool false)) w fun t73_40 w =>
      guardW (t73_40) true (fun k => k (t57_30) w) (fun t75_41 w =>
      guardW (t73_40) true (fun k => run1 Tryd.prog Z (eqOp BinOp.neq 37 false true t75_41 (Value.int IntKind.i64 0)) w k) (fun t76_42 w =>
      guardW (t73_40) true (fun k => k (t76_42) w) (fun t77_43 w =>
      guardW (t77_43) false (fun k => k (t66_36) w) (fun t78_44 w =>
      guardW (t77_43) false (fun k => run1 Tryd.prog Z (eqOp BinOp.neq 37 false true t78_44 (Value.int IntKind.i64 0)) w k) (fun t79_45 w =>
      guardW (t73_40) true (fun k => run1 Tryd.prog Z (pickV t77_43 (Value.bool true) t79_45) w k) (fun t80_46 w =>
      guardW (t73_40) true (fun k => k (t80_46) w) (fun t81_47 w =>
      guardW (t81_47) false (fun k => k (t56_29) w) (fun t82_48 w =>
      guardW (t81_47) false (fun k => k (t65_35) w) (fun t83_49 w =>
      guardW (t81_47) false (fun k => run1 Tryd.prog Z (binOp BinOp.lss 2 t82_48 t83_49) w k) (fun t84_50 w =>
      guardW (t73_40) true (fun k => run1 Tryd.prog Z (pickV t81_47 (Value.bool true) t84_50) w k) (fun t85_51 w =>
      run1 Tryd.prog Z (pickV t73_40 t85_51 (Value.bool false)) w fun t86_52 w =>
      Q t86_52 w) w) w) w) w) w) w) w) w) w) w) w) w) w)) w) w) w) w) w) w)
noncomputable def f6.code : Code := match Tryd.f6.body with | some c => c | none => .skip
def f6.an : An := (.sq .leaf (.sq .leaf (.sq (.sq .leaf (.cn (.sq .leaf .leaf) .leaf)) (.sq (.dr (.take 0 true (.take 1 false (.one 2 (.one 3 (.take 4 false .fin)))))) (.sq (.sq .leaf (.cn (.sq .leaf .leaf) .leaf)) (.sq (.dr (.take 0 false (.take 1 false (.take 2 false (.take 3 false (.take 4 true (.take 5 false (.take 6 false (.take 7 false (.take 8 false (.one 9 (.one 10 (.take 11 false .fin))))))))))))) (.sq (.dr (.take 0 true (.take 1 false (.take 2 false (.take 3 false (.one 4 (.one 5 (.take 6 false .fin)))))))) (.sq .leaf (.sq .leaf (.sq .leaf .leaf))))))))))
theorem f6.body_eq : Tryd.f6.body = some f6.code := by kernel_rfl
theorem f6.shape (Z : List PanicEntry → World → Prop) (x0 x1 x2 : Value) (w : World) (Q : Value → World → Prop) : vc drawD Tryd.prog 87 Z [10, 23, 25, 24, 20] f6.an f6.code (fnQ Tryd.prog 87 Tryd.f6.results Q) (argEnv [x0, x1, x2]) w = f6.sh Z x0 x1 x2 w Q := by kernel_rfl
theorem f6.enters : ∀ f, f ∈ ([10, 23, 25, 24, 20] : List Nat) → Enters Tryd.prog f := by
  intro f hf
  simp only [List.mem_cons, List.not_mem_nil, or_false] at hf
  rcases hf with rfl | rfl | rfl | rfl | rfl
  · exact en10
  · exact en23
  · exact en25
  · exact en24
  · exact en20
theorem f6.calls {Z : List PanicEntry → World → Prop} {x0 x1 x2 : Value} {w : World} {Q : Value → World → Prop} (h : f6.sh Z x0 x1 x2 w Q) : CallV Tryd.prog Z 6 #[x0, x1, x2] w Q :=
  calls_of_vcn drawD_sound (Q := Q) (n := 87) (rs := Tryd.f6.results) (an := f6.an) (c := f6.code) (cal := [10, 23, 25, 24, 20]) (args := [x0, x1, x2]) Tryd.func6 (by kernel_rfl) rfl f6.body_eq follows (Nat.le_of_ble_eq_true (by kernel_rfl)) (enters_of_all f6.enters) ((f6.shape Z x0 x1 x2 w Q).mpr h)

/-! ### 7: lagoon/lagoonlaw04.TxnNumbers -/
def f7.sh (Z : List PanicEntry → World → Prop) (x0 x1 x2 : Value) (w : World) (Q : Value → World → Prop) : Prop :=
  run1 Tryd.prog Z (Instr.box 26 x0) w fun t3_1 w =>
  run1 Tryd.prog Z (Instr.box 26 x1) w fun t4_2 w =>
  CallV Tryd.prog Z 10 #[] w fun t21_3 w =>
  run1 Tryd.prog Z (Instr.loadAt 26 t3_1) w fun t22_4 w =>
  run1 Tryd.prog Z (Instr.loadAt 26 t4_2) w fun t23_5 w =>
  CallV Tryd.prog Z 22 #[t22_4, t23_5] w fun t24_6 w =>
  run1 Tryd.prog Z (Instr.loadAt 26 t3_1) w fun t26_7 w =>
  CallV Tryd.prog Z 20 #[t26_7] w fun t27_8 w =>
  run1 Tryd.prog Z (Instr.extract t27_8 0) w fun t28_9 w =>
  run1 Tryd.prog Z (Instr.extract t27_8 1) w fun t29_10 w =>
  CallV Tryd.prog Z 21 #[x2] w fun t32_11 w =>
  run1 Tryd.prog Z (Instr.extract t32_11 0) w fun t33_12 w =>
  run1 Tryd.prog Z (Instr.extract t32_11 1) w fun t34_13 w =>
  run1 Tryd.prog Z (Instr.alloc 26 true (.tuple #[])) w fun t11_14 w =>
  run0 Tryd.prog Z (Instr.storeAt 26 t11_14 t33_12) w fun w =>
  run1 Tryd.prog Z (Instr.loadAt 26 t3_1) w fun t36_15 w =>
  run1 Tryd.prog Z (Instr.fieldAt 26 t4_2 1) w fun t37_16 w =>
  run1 Tryd.prog Z (Instr.loadAt 24 t37_16) w fun t38_17 w =>
  CallV Tryd.prog Z 26 #[t36_15, t38_17] w fun t39_18 w =>
  run1 Tryd.prog Z (Instr.extract t39_18 0) w fun t40_19 w =>
  run1 Tryd.prog Z (Instr.extract t39_18 1) w fun t41_20 w =>
  run1 Tryd.prog Z (Instr.alloc 26 true (.tuple #[])) w fun t13_21 w =>
  run0 Tryd.prog Z (Instr.storeAt 26 t13_21 t40_19) w fun w =>
  run1 Tryd.prog Z (Instr.loadAt 26 t3_1) w fun t43_22 w =>
  CallV Tryd.prog Z 27 #[t43_22] w fun t44_23 w =>
  run1 Tryd.prog Z (Instr.extract t44_23 0) w fun t45_24 w =>
  run1 Tryd.prog Z (Instr.extract t44_23 1) w fun t46_25 w =>
  CallV Tryd.prog Z 28 #[x2] w fun t49_26 w =>
  run1 Tryd.prog Z (Instr.extract t49_26 0) w fun t50_27 w =>
  run1 Tryd.prog Z (Instr.extract t49_26 1) w fun t51_28 w =>
  run1 Tryd.prog Z (Instr.alloc 26 true (.tuple #[])) w fun t17_29 w =>
  run0 Tryd.prog Z (Instr.storeAt 26 t17_29 t50_27) w fun w =>
  run1 Tryd.prog Z (Instr.loadAt 26 t3_1) w fun t53_30 w =>
  run1 Tryd.prog Z (Instr.fieldAt 26 t4_2 1) w fun t54_31 w =>
  run1 Tryd.prog Z (Instr.loadAt 24 t54_31) w fun t55_32 w =>
  CallV Tryd.prog Z 29 #[t53_30, t55_32] w fun t56_33 w =>
  run1 Tryd.prog Z (Instr.extract t56_33 0) w fun t57_34 w =>
  run1 Tryd.prog Z (Instr.extract t56_33 1) w fun t58_35 w =>
  run1 Tryd.prog Z (Instr.alloc 26 true (.tuple #[])) w fun t19_36 w =>
  run0 Tryd.prog Z (Instr.storeAt 26 t19_36 t57_34) w fun w =>
  guardW (t21_3) true (fun k => k (t24_6) w) (fun t61_37 w =>
  guardW (t21_3) true (fun k => run1 Tryd.prog Z (Instr.loadAt 26 t3_1) w k) (fun t62_38 w =>
  guardW (t21_3) true (fun k => run1 Tryd.prog Z (Instr.loadAt 26 t4_2) w k) (fun t63_39 w =>
  guardW (t21_3) true (fun k => CallV Tryd.prog Z 30 #[t62_38, t63_39] w k) (fun t64_40 w =>
  guardW (t21_3) true (fun k => run1 Tryd.prog Z (eqOp BinOp.eql 3 false false t61_37 t64_40) w k) (fun t65_41 w =>
  run1 Tryd.prog Z (pickV t21_3 t65_41 (Value.bool false)) w fun t66_42 w =>
  guardW (t66_42) true (fun k => k (t28_9) w) (fun t68_43 w =>
  guardW (t66_42) true (fun k => k (t45_24) w) (fun t69_44 w =>
  guardW (t66_42) true (fun k => run1 Tryd.prog Z (eqOp BinOp.eql 2 false false t68_43 t69_44) w k) (fun t70_45 w =>
  run1 Tryd.prog Z (pickV t66_42 t70_45 (Value.bool false)) w fun t71_46 w =>
  guardW (t71_46) true (fun k => k (t29_10) w) (fun t73_47 w =>
  guardW (t71_46) true (fun k => k (t46_25) w) (fun t74_48 w =>
  guardW (t71_46) true (fun k => run1 Tryd.prog Z (eqOp BinOp.eql 37 false false t73_47 t74_48) w k) (fun t75_49 w =>
  run1 Tryd.prog Z (pickV t71_46 t75_49 (Value.bool false)) w fun t76_50 w =>
  guardW (t76_50) true (fun k => run1 Tryd.prog Z (Instr.loadAt 26 t11_14) w k) (fun t78_51 w =>
  guardW (t76_50) true (fun k => run1 Tryd.prog Z (Instr.loadAt 26 t17_29) w k) (fun t79_52 w =>
  guardW (t76_50) true (fun k => run1 Tryd.prog Z (eqOp BinOp.eql 26 false false t78_51 t79_52) w k) (fun t80_53 w =>
  run1 Tryd.prog Z (pickV t76_50 t80_53 (Value.bool false)) w fun t81_54 w =>
  guardW (t81_54) true (fun k => k (t34_13) w) (fun t83_55 w =>
  guardW (t81_54) true (fun k => k (t51_28) w) (fun t84_56 w =>
  guardW (t81_54) true (fun k => run1 Tryd.prog Z (eqOp BinOp.eql 37 false false t83_55 t84_56) w k) (fun t85_57 w =>
  run1 Tryd.prog Z (pickV t81_54 t85_57 (Value.bool false)) w fun t86_58 w =>
  guardW (t86_58) true (fun k => run1 Tryd.prog Z (Instr.loadAt 26 t13_21) w k) (fun t88_59 w =>
  guardW (t86_58) true (fun k => run1 Tryd.prog Z (Instr.loadAt 26 t19_36) w k) (fun t89_60 w =>
  guardW (t86_58) true (fun k => run1 Tryd.prog Z (eqOp BinOp.eql 26 false false t88_59 t89_60) w k) (fun t90_61 w =>
  run1 Tryd.prog Z (pickV t86_58 t90_61 (Value.bool false)) w fun t91_62 w =>
  guardW (t91_62) true (fun k => k (t41_20) w) (fun t93_63 w =>
  guardW (t91_62) true (fun k => k (t58_35) w) (fun t94_64 w =>
  guardW (t91_62) true (fun k => run1 Tryd.prog Z (eqOp BinOp.eql 37 false false t93_63 t94_64) w k) (fun t95_65 w =>
  run1 Tryd.prog Z (pickV t91_62 t95_65 (Value.bool false)) w fun t96_66 w =>
  Q t96_66 w) w) w) w) w) w) w) w) w) w) w) w) w) w) w) w) w) w) w) w) w) w) w) w
noncomputable def f7.code : Code := match Tryd.f7.body with | some c => c | none => .skip
def f7.an : An := (.sq .leaf (.sq .leaf (.sq .leaf (.sq .leaf (.sq .leaf (.sq .leaf (.sq .leaf (.sq .leaf (.sq .leaf (.sq .leaf .leaf))))))))))
theorem f7.body_eq : Tryd.f7.body = some f7.code := by kernel_rfl
theorem f7.shape (Z : List PanicEntry → World → Prop) (x0 x1 x2 : Value) (w : World) (Q : Value → World → Prop) : vc drawD Tryd.prog 97 Z [10, 22, 20, 21, 26, 27, 28, 29, 30] f7.an f7.code (fnQ Tryd.prog 97 Tryd.f7.results Q) (argEnv [x0, x1, x2]) w = f7.sh Z x0 x1 x2 w Q := by kernel_rfl
theorem f7.enters : ∀ f, f ∈ ([10, 22, 20, 21, 26, 27, 28, 29, 30] : List Nat) → Enters Tryd.prog f := by
  intro f hf
  simp only [List.mem_cons, List.not_mem_nil, or_false] at hf
  rcases hf with rfl | rfl | rfl | rfl | rfl | rfl | rfl | rfl | rfl
  · exact en10
  · exact en22
  · exact en20
  · exact en21
  · exact en26
  · exact en27
  · exact en28
  · exact en29
  · exact en30
theorem f7.calls {Z : List PanicEntry → World → Prop} {x0 x1 x2 : Value} {w : World} {Q : Value → World → Prop} (h : f7.sh Z x0 x1 x2 w Q) : CallV Tryd.prog Z 7 #[x0, x1, x2] w Q :=
  calls_of_vcn drawD_sound (Q := Q) (n := 97) (rs := Tryd.f7.results) (an := f7.an) (c := f7.code) (cal := [10, 22, 20, 21, 26, 27, 28, 29, 30]) (args := [x0, x1, x2]) Tryd.func7 (by kernel_rfl) rfl f7.body_eq follows (Nat.le_of_ble_eq_true (by kernel_rfl)) (enters_of_all f7.enters) ((f7.shape Z x0 x1 x2 w Q).mpr h)

/-! ### 8: lagoon/lagoonlaw04.TxnChecks -/
def f8.sh (Z : List PanicEntry → World → Prop) (x0 : Value) (w : World) (Q : Value → World → Prop) : Prop :=
  run1 Tryd.prog Z (Instr.box 36 x0) w fun t1_1 w =>
  CallV Tryd.prog Z 10 #[] w fun t8_2 w =>
  run1 Tryd.prog Z (Instr.fieldAt 36 t1_1 2) w fun t9_3 w =>
  run1 Tryd.prog Z (Instr.loadAt 34 t9_3) w fun t10_4 w =>
  CallV Tryd.prog Z 15 #[t10_4] w fun t11_5 w =>
  CondV t11_5 (
    Q t8_2 w) (
    run1 Tryd.prog Z (Instr.loadAt 36 t1_1) w fun t13_6 w =>
    CallV Tryd.prog Z 31 #[t13_6] w fun t14_7 w =>
    run1 Tryd.prog Z (Instr.alloc 36 true (.tuple #[])) w fun t4_8 w =>
    run0 Tryd.prog Z (Instr.storeAt 36 t4_8 t14_7) w fun w =>
    run1 Tryd.prog Z (Instr.loadAt 36 t4_8) w fun t15_9 w =>
    CallV Tryd.prog Z 17 #[t15_9] w fun t16_10 w =>
    run1 Tryd.prog Z (Instr.fieldAt 36 t4_8 2) w fun t17_11 w =>
    run1 Tryd.prog Z (Instr.loadAt 34 t17_11) w fun t18_12 w =>
    CallV Tryd.prog Z 32 #[t18_12] w fun t19_13 w =>
    run1 Tryd.prog Z (Instr.loadAt 36 t4_8) w fun t20_14 w =>
    run1 Tryd.prog Z (Instr.loadAt 36 t1_1) w fun t21_15 w =>
    CallV Tryd.prog Z 19 #[t20_14, t21_15] w fun t22_16 w =>
    guardW (t22_16) true (fun k => run1 Tryd.prog Z (Instr.fieldAt 36 t4_8 2) w k) (fun t24_17 w =>
    guardW (t22_16) true (fun k => run1 Tryd.prog Z (Instr.loadAt 34 t24_17) w k) (fun t25_18 w =>
    guardW (t22_16) true (fun k => CallV Tryd.prog Z 33 #[t25_18] w k) (fun t26_19 w =>
    run1 Tryd.prog Z (pickV t22_16 t26_19 (Value.bool false)) w fun t27_20 w =>
    guardW (t8_2) true (fun k => k (t27_20) w) (fun t30_21 w =>
    run1 Tryd.prog Z (pickV t8_2 t30_21 (Value.bool false)) w fun t31_22 w =>
    guardW (t31_22) true (fun k => k (t16_10) w) (fun t33_23 w =>
    guardW (t31_22) true (fun k => run1 Tryd.prog Z (Instr.loadAt 36 t1_1) w k) (fun t34_24 w =>
    guardW (t31_22) true (fun k => CallV Tryd.prog Z 34 #[t34_24] w k) (fun t35_25 w =>
    guardW (t31_22) true (fun k => run1 Tryd.prog Z (eqOp BinOp.eql 37 false false t33_23 t35_25) w k) (fun t36_26 w =>
    run1 Tryd.prog Z (pickV t31_22 t36_26 (Value.bool false)) w fun t37_27 w =>
    guardW (t37_27) true (fun k => k (t19_13) w) (fun t39_28 w =>
    guardW (t37_27) true (fun k => run1 Tryd.prog Z (Instr.fieldAt 36 t1_1 2) w k) (fun t40_29 w =>
    guardW (t37_27) true (fun k => run1 Tryd.prog Z (Instr.loadAt 34 t40_29) w k) (fun t41_30 w =>
    guardW (t37_27) true (fun k => CallV Tryd.prog Z 35 #[t41_30] w k) (fun t42_31 w =>
    guardW (t37_27) true (fun k => run1 Tryd.prog Z (eqOp BinOp.eql 37 false false t39_28 t42_31) w k) (fun t43_32 w =>
    run1 Tryd.prog Z (pickV t37_27 t43_32 (Value.bool false)) w fun t44_33 w =>
    Q t44_33 w) w) w) w) w) w) w) w) w) w) w) w) w) w)
noncomputable def f8.code : Code := match Tryd.f8.body with | some c => c | none => .skip
def f8.an : An := (.sq .leaf (.sq .leaf (.sq (.sq .leaf (.cn (.sq .leaf .leaf) .leaf)) (.sq .leaf (.sq .leaf (.sq .leaf (.sq .leaf (.sq .leaf .leaf))))))))
theorem f8.body_eq : Tryd.f8.body = some f8.code := by kernel_rfl
theorem f8.shape (Z : List PanicEntry → World → Prop) (x0 : Value) (w : World) (Q : Value → World → Prop) : vc drawD Tryd.prog 45 Z [10, 15, 31, 17, 32, 19, 33, 34, 35] f8.an f8.code (fnQ Tryd.prog 45 Tryd.f8.results Q) (argEnv [x0]) w = f8.sh Z x0 w Q := by kernel_rfl
theorem f8.enters : ∀ f, f ∈ ([10, 15, 31, 17, 32, 19, 33, 34, 35] : List Nat) → Enters Tryd.prog f := by
  intro f hf
  simp only [List.mem_cons, List.not_mem_nil, or_false] at hf
  rcases hf with rfl | rfl | rfl | rfl | rfl | rfl | rfl | rfl | rfl
  · exact en10
  · exact en15
  · exact en31
  · exact en17
  · exact en32
  · exact en19
  · exact en33
  · exact en34
  · exact en35
theorem f8.calls {Z : List PanicEntry → World → Prop} {x0 : Value} {w : World} {Q : Value → World → Prop} (h : f8.sh Z x0 w Q) : CallV Tryd.prog Z 8 #[x0] w Q :=
  calls_of_vcn drawD_sound (Q := Q) (n := 45) (rs := Tryd.f8.results) (an := f8.an) (c := f8.code) (cal := [10, 15, 31, 17, 32, 19, 33, 34, 35]) (args := [x0]) Tryd.func8 (by kernel_rfl) rfl f8.body_eq follows (Nat.le_of_ble_eq_true (by kernel_rfl)) (enters_of_all f8.enters) ((f8.shape Z x0 w Q).mpr h)

/-! ### 9: lagoon/lagoonlaw04.TxnRises -/
def f9.sh (Z : List PanicEntry → World → Prop) (x0 x1 : Value) (w : World) (Q : Value → World → Prop) : Prop :=
  run1 Tryd.prog Z (Instr.box 26 x0) w fun t2_1 w =>
  CallV Tryd.prog Z 10 #[] w fun t9_2 w =>
  CallV Tryd.prog Z 23 #[x1] w fun t11_3 w =>
  CondV t11_3 (
    Q t9_2 w) (
    CallV Tryd.prog Z 36 #[x1] w fun t14_4 w =>
    run1 Tryd.prog Z (Instr.loadAt 26 t2_1) w fun t15_5 w =>
    CallV Tryd.prog Z 24 #[t15_5, t14_4] w fun t17_6 w =>
    CallV Tryd.prog Z 37 #[t14_4, x1] w fun t20_7 w =>
    guardW (t20_7) true (fun k => k (t14_4) w) (fun t22_8 w =>
    guardW (t20_7) true (fun k => CallV Tryd.prog Z 38 #[t22_8] w k) (fun t23_9 w =>
    run1 Tryd.prog Z (pickV t20_7 t23_9 (Value.bool false)) w fun t24_10 w =>
    guardW (t9_2) true (fun k => k (t24_10) w) (fun t27_11 w =>
    run1 Tryd.prog Z (pickV t9_2 t27_11 (Value.bool false)) w fun t28_12 w =>
    guardW (t28_12) true (fun k => k (t17_6) w) (fun t30_13 w =>
    guardW (t28_12) true (fun k => run1 Tryd.prog Z (Instr.loadAt 26 t2_1) w k) (fun t31_14 w =>
    guardW (t28_12) true (fun k => k (x1) w) (fun t32_15 w =>
    guardW (t28_12) true (fun k => CallV Tryd.prog Z 39 #[t31_14, t32_15] w k) (fun t33_16 w =>
    guardW (t28_12) true (fun k => run1 Tryd.prog Z (eqOp BinOp.eql 4 false false t30_13 t33_16) w k) (fun t34_17 w =>
    run1 Tryd.prog Z (pickV t28_12 t34_17 (Value.bool false)) w fun t35_18 w =>
    Q t35_18 w) w) w) w) w) w) w) w) w)
noncomputable def f9.code : Code := match Tryd.f9.body with | some c => c | none => .skip
def f9.an : An := (.sq .leaf (.sq .leaf (.sq (.sq .leaf (.cn (.sq .leaf .leaf) .leaf)) (.sq .leaf (.sq .leaf (.sq .leaf (.sq .leaf .leaf)))))))
theorem f9.body_eq : Tryd.f9.body = some f9.code := by kernel_rfl
theorem f9.shape (Z : List PanicEntry → World → Prop) (x0 x1 : Value) (w : World) (Q : Value → World → Prop) : vc drawD Tryd.prog 36 Z [10, 23, 36, 24, 37, 38, 39] f9.an f9.code (fnQ Tryd.prog 36 Tryd.f9.results Q) (argEnv [x0, x1]) w = f9.sh Z x0 x1 w Q := by kernel_rfl
theorem f9.enters : ∀ f, f ∈ ([10, 23, 36, 24, 37, 38, 39] : List Nat) → Enters Tryd.prog f := by
  intro f hf
  simp only [List.mem_cons, List.not_mem_nil, or_false] at hf
  rcases hf with rfl | rfl | rfl | rfl | rfl | rfl | rfl
  · exact en10
  · exact en23
  · exact en36
  · exact en24
  · exact en37
  · exact en38
  · exact en39
theorem f9.calls {Z : List PanicEntry → World → Prop} {x0 x1 : Value} {w : World} {Q : Value → World → Prop} (h : f9.sh Z x0 x1 w Q) : CallV Tryd.prog Z 9 #[x0, x1] w Q :=
  calls_of_vcn drawD_sound (Q := Q) (n := 36) (rs := Tryd.f9.results) (an := f9.an) (c := f9.code) (cal := [10, 23, 36, 24, 37, 38, 39]) (args := [x0, x1]) Tryd.func9 (by kernel_rfl) rfl f9.body_eq follows (Nat.le_of_ble_eq_true (by kernel_rfl)) (enters_of_all f9.enters) ((f9.shape Z x0 x1 w Q).mpr h)

/-! ### 10: lagoon/lagoonlaw04.works -/
def f10.sh (Z : List PanicEntry → World → Prop) (w : World) (Q : Value → World → Prop) : Prop :=
  run1 Tryd.prog Z (Instr.build 26 #[(0, (Value.int IntKind.u32 1)), (1, (Value.int IntKind.u32 2))]) w fun t6_1 w =>
  run1 Tryd.prog Z (Instr.build 29 #[(0, (Value.int IntKind.i8 3)), (1, (Value.int IntKind.u32 4)), (2, (Value.int IntKind.i64 5))]) w fun t7_2 w =>
  run1 Tryd.prog Z (Instr.build 34 #[(0, (Value.int IntKind.i8 2)), (1, (Value.string { data := #[47, 97] })), (4, (Value.int IntKind.i32 (-1)))]) w fun t8_3 w =>
  run1 Tryd.prog Z (Instr.build 36 #[(0, t6_1), (1, t7_2), (2, t8_3)]) w fun t9_4 w =>
  run1 Tryd.prog Z (Instr.alloc 36 true (.tuple #[])) w fun t1_5 w =>
  run0 Tryd.prog Z (Instr.storeAt 36 t1_5 t9_4) w fun w =>
  run1 Tryd.prog Z (Instr.loadAt 36 t1_5) w fun t11_6 w =>
  CallV Tryd.prog Z 13 #[t11_6] w fun t12_7 w =>
  run1 Tryd.prog Z (Instr.extract t12_7 0) w fun t13_8 w =>
  run1 Tryd.prog Z (Instr.extract t12_7 1) w fun t14_9 w =>
  CallV Tryd.prog Z 11 #[t13_8] w fun t17_10 w =>
  run1 Tryd.prog Z (Instr.extract t17_10 0) w fun t18_11 w =>
  run1 Tryd.prog Z (Instr.extract t17_10 1) w fun t19_12 w =>
  run1 Tryd.prog Z (Instr.alloc 36 true (.tuple #[])) w fun t4_13 w =>
  run0 Tryd.prog Z (Instr.storeAt 36 t4_13 t18_11) w fun w =>
  run1 Tryd.prog Z (eqOp BinOp.eql 37 false true t14_9 (Value.int IntKind.i64 0)) w fun t21_14 w =>
  guardW (t21_14) true (fun k => k (t19_12) w) (fun t23_15 w =>
  guardW (t21_14) true (fun k => k (t14_9) w) (fun t24_16 w =>
  guardW (t21_14) true (fun k => run1 Tryd.prog Z (eqOp BinOp.eql 37 false false t23_15 t24_16) w k) (fun t25_17 w =>
  run1 Tryd.prog Z (pickV t21_14 t25_17 (Value.bool false)) w fun t26_18 w =>
  guardW (t26_18) true (fun k => k (t13_8) w) (fun t28_19 w =>
  guardW (t26_18) true (fun k => run1 Tryd.prog Z (Builtin.len_ #[22] 3 #[t28_19]) w k) (fun t29_20 w =>
  guardW (t26_18) true (fun k => run1 Tryd.prog Z (eqOp BinOp.eql 3 false true t29_20 (Value.int IntKind.i64 44)) w k) (fun t30_21 w =>
  run1 Tryd.prog Z (pickV t26_18 t30_21 (Value.bool false)) w fun t31_22 w =>
  guardW (t31_22) true (fun k => run1 Tryd.prog Z (Instr.loadAt 36 t1_5) w k) (fun t33_23 w =>
  guardW (t31_22) true (fun k => run1 Tryd.prog Z (Instr.loadAt 36 t4_13) w k) (fun t34_24 w =>
  guardW (t31_22) true (fun k => CallV Tryd.prog Z 19 #[t33_23, t34_24] w k) (fun t35_25 w =>
  run1 Tryd.prog Z (pickV t31_22 t35_25 (Value.bool false)) w fun t36_26 w =>
  Q t36_26 w) w) w) w) w) w) w) w) w) w
noncomputable def f10.code : Code := match Tryd.f10.body with | some c => c | none => .skip
def f10.an : An := (.sq .leaf (.sq .leaf (.sq .leaf (.sq .leaf (.sq .leaf .leaf)))))
theorem f10.body_eq : Tryd.f10.body = some f10.code := by kernel_rfl
theorem f10.shape (Z : List PanicEntry → World → Prop) (w : World) (Q : Value → World → Prop) : vc drawD Tryd.prog 37 Z [13, 11, 19] f10.an f10.code (fnQ Tryd.prog 37 Tryd.f10.results Q) (argEnv []) w = f10.sh Z  w Q := by kernel_rfl
theorem f10.enters : ∀ f, f ∈ ([13, 11, 19] : List Nat) → Enters Tryd.prog f := by
  intro f hf
  simp only [List.mem_cons, List.not_mem_nil, or_false] at hf
  rcases hf with rfl | rfl | rfl
  · exact en13
  · exact en11
  · exact en19
theorem f10.calls {Z : List PanicEntry → World → Prop} {w : World} {Q : Value → World → Prop} (h : f10.sh Z  w Q) : CallV Tryd.prog Z 10 #[] w Q :=
  calls_of_vcn drawD_sound (Q := Q) (n := 37) (rs := Tryd.f10.results) (an := f10.an) (c := f10.code) (cal := [13, 11, 19]) (args := []) Tryd.func10 (by kernel_rfl) rfl f10.body_eq follows (Nat.le_of_ble_eq_true (by kernel_rfl)) (enters_of_all f10.enters) ((f10.shape Z  w Q).mpr h)

/-! ### 11: lagoon/txn.Read -/
def f11.sh (Z : List PanicEntry → World → Prop) (x0 : Value) (w : World) (Q : Value → World → Prop) : Prop :=
  run1 Tryd.prog Z (Instr.alloc 36 true (.tuple #[])) w fun t2_1 w =>
  CallV Tryd.prog Z 40 #[x0] w fun t7_2 w =>
  run1 Tryd.prog Z (Instr.alloc 36 true (.tuple #[])) w fun t5_3 w =>
  CallV Tryd.prog Z 41 #[t7_2] w fun t9_4 w =>
  run1 Tryd.prog Z (Instr.fieldAt 36 t5_3 0) w fun t10_5 w =>
  run1 Tryd.prog Z (Instr.fieldAt 26 t10_5 0) w fun t11_6 w =>
  run0 Tryd.prog Z (Instr.storeAt 24 t11_6 t9_4) w fun w =>
  CallV Tryd.prog Z 41 #[t7_2] w fun t13_7 w =>
  run1 Tryd.prog Z (Instr.fieldAt 36 t5_3 0) w fun t14_8 w =>
  run1 Tryd.prog Z (Instr.fieldAt 26 t14_8 1) w fun t15_9 w =>
  run0 Tryd.prog Z (Instr.storeAt 24 t15_9 t13_7) w fun w =>
  CallV Tryd.prog Z 42 #[t7_2] w fun t17_10 w =>
  run1 Tryd.prog Z (Instr.fieldAt 36 t5_3 1) w fun t18_11 w =>
  run1 Tryd.prog Z (Instr.fieldAt 29 t18_11 0) w fun t19_12 w =>
  run0 Tryd.prog Z (Instr.storeAt 27 t19_12 t17_10) w fun w =>
  CallV Tryd.prog Z 41 #[t7_2] w fun t21_13 w =>
  run1 Tryd.prog Z (Instr.fieldAt 36 t5_3 1) w fun t22_14 w =>
  run1 Tryd.prog Z (Instr.fieldAt 29 t22_14 1) w fun t23_15 w =>
  run0 Tryd.prog Z (Instr.storeAt 24 t23_15 t21_13) w fun w =>
  CallV Tryd.prog Z 43 #[t7_2] w fun t25_16 w =>
  run1 Tryd.prog Z (Instr.fieldAt 36 t5_3 1) w fun t26_17 w =>
  run1 Tryd.prog Z (Instr.fieldAt 29 t26_17 2) w fun t27_18 w =>
  run0 Tryd.prog Z (Instr.storeAt 2 t27_18 t25_16) w fun w =>
  run1 Tryd.prog Z (Instr.build 71 #[]) w fun t28_19 w =>
  CallV Tryd.prog Z 44 #[t28_19, t7_2] w fun t30_20 w =>
  run1 Tryd.prog Z (Instr.fieldAt 36 t5_3 2) w fun t31_21 w =>
  run0 Tryd.prog Z (Instr.storeAt 34 t31_21 t30_20) w fun w =>
  CallV Tryd.prog Z 45 #[t7_2] w fun t33_22 w =>
  run1 Tryd.prog Z (eqOp BinOp.neq 37 false true t33_22 (Value.int IntKind.i64 0)) w fun t34_23 w =>
  guardW (t34_23) false (fun k => run1 Tryd.prog Z (Instr.loadAt 36 t5_3) w k) (fun t36_24 w =>
  guardW (t34_23) false (fun k => CallV Tryd.prog Z 17 #[t36_24] w k) (fun t37_25 w =>
  guardW (t34_23) false (fun k => run1 Tryd.prog Z (eqOp BinOp.neq 37 false true t37_25 (Value.int IntKind.i64 0)) w k) (fun t38_26 w =>
  run1 Tryd.prog Z (pickV t34_23 (Value.bool true) t38_26) w fun t39_27 w =>
  CondV t39_27 (
    run1 Tryd.prog Z (Instr.build 36 #[]) w fun t40_28 w =>
    run0 Tryd.prog Z (Instr.storeAt 36 t2_1 t40_28) w fun w =>
    ∃ r_29, (do loadVar 36 (← asAddr t2_1) : Sem Value).run Tryd.prog w = .ok r_29 w ∧
    Q (Value.tuple #[r_29, (Value.int IntKind.i64 40)]) w) (
    run1 Tryd.prog Z (Instr.loadAt 36 t5_3) w fun t41_30 w =>
    run0 Tryd.prog Z (Instr.storeAt 36 t2_1 t41_30) w fun w =>
    ∃ r_31, (do loadVar 36 (← asAddr t2_1) : Sem Value).run Tryd.prog w = .ok r_31 w ∧
    Q (Value.tuple #[r_31, (Value.int IntKind.i64 0)]) w)) w) w) w
noncomputable def f11.code : Code := match Tryd.f11.body with | some c => c | none => .skip
def f11.an : An := (.sq .leaf (.sq .leaf (.sq .leaf (.sq .leaf (.sq .leaf (.sq .leaf (.sq .leaf (.sq .leaf (.sq .leaf (.sq (.sq .leaf (.cn (.sq .leaf .leaf) .leaf)) (.sq .leaf .leaf)))))))))))
theorem f11.body_eq : Tryd.f11.body = some f11.code := by kernel_rfl
theorem f11.shape (Z : List PanicEntry → World → Prop) (x0 : Value) (w : World) (Q : Value → World → Prop) : vc drawD Tryd.prog 42 Z [40, 41, 42, 43, 44, 45, 17] f11.an f11.code (fnQ Tryd.prog 42 Tryd.f11.results Q) (argEnv [x0]) w = f11.sh Z x0 w Q := by kernel_rfl
theorem f11.enters : ∀ f, f ∈ ([40, 41, 42, 43, 44, 45, 17] : List Nat) → Enters Tryd.prog f := by
  intro f hf
  simp only [List.mem_cons, List.not_mem_nil, or_false] at hf
  rcases hf with rfl | rfl | rfl | rfl | rfl | rfl | rfl
  · exact en40
  · exact en41
  · exact en42
  · exact en43
  · exact en44
  · exact en45
  · exact en17
theorem f11.calls {Z : List PanicEntry → World → Prop} {x0 : Value} {w : World} {Q : Value → World → Prop} (h : f11.sh Z x0 w Q) : CallV Tryd.prog Z 11 #[x0] w Q :=
  calls_of_vcn drawD_sound (Q := Q) (n := 42) (rs := Tryd.f11.results) (an := f11.an) (c := f11.code) (cal := [40, 41, 42, 43, 44, 45, 17]) (args := [x0]) Tryd.func11 (by kernel_rfl) rfl f11.body_eq follows (Nat.le_of_ble_eq_true (by kernel_rfl)) (enters_of_all f11.enters) ((f11.shape Z x0 w Q).mpr h)

/-! ### 12: lagoon/lagoonref00.CopyBytes -/
def f12.sh (Z : List PanicEntry → World → Prop) (x0 : Value) (w : World) (Q : Value → World → Prop) : Prop :=
  ∃ J_1 : Nat → Value → Value → World → Prop, (∃ m, J_1 m (Value.slice none 0 0) (Value.int IntKind.i64 0) w) ∧
    ∀ m_1, ∀ t3_2 : Value, ∀ t4_3 : Value, ∀ w : World, J_1 m_1 t3_2 t4_3 w → Env →
      run1 Tryd.prog Z (Builtin.len_ #[22] 3 #[x0]) w fun t7_4 w =>
      run1 Tryd.prog Z (binOp BinOp.lss 3 t4_3 t7_4) w fun t8_5 w =>
      CondV t8_5 (
        run1 Tryd.prog Z (Instr.indexAt 22 x0 t4_3) w fun t14_6 w =>
        run1 Tryd.prog Z (Instr.loadAt 5 t14_6) w fun t15_7 w =>
        run1 Tryd.prog Z (Instr.buildSlice 22 1 #[(0, t15_7)]) w fun t16_8 w =>
        run1 Tryd.prog Z (Builtin.append_ #[22, 22] 22 #[t3_2, t16_8]) w fun t17_9 w =>
        run1 Tryd.prog Z (binOp BinOp.add 3 t4_3 (Value.int IntKind.i64 1)) w fun t10_10 w =>
        ∃ n_1, n_1 < m_1 ∧ J_1 n_1 t17_9 t10_10 w) (
        Q t3_2 w)
noncomputable def f12.code : Code := match Tryd.f12.body with | some c => c | none => .skip
def f12.an : An := (.sq .leaf (.sq .leaf (.sq (.sq .leaf (.bl (.lp [3, 4] [3, 4, 5, 6, 7, 8, 9, 10, 11, 12, 13, 14, 15, 16, 17] (.sq (.sq .leaf (.cn .leaf .leaf)) (.sq (.bl .leaf) .leaf))))) (.sq .leaf .leaf))))
theorem f12.body_eq : Tryd.f12.body = some f12.code := by kernel_rfl
theorem f12.shape (Z : List PanicEntry → World → Prop) (x0 : Value) (w : World) (Q : Value → World → Prop) : vc drawD Tryd.prog 19 Z [] f12.an f12.code (fnQ Tryd.prog 19 Tryd.f12.results Q) (argEnv [x0]) w = f12.sh Z x0 w Q := by kernel_rfl
theorem f12.enters : ∀ f, f ∈ ([] : List Nat) → Enters Tryd.prog f := by
  intro f hf
  cases hf
theorem f12.calls {Z : List PanicEntry → World → Prop} {x0 : Value} {w : World} {Q : Value → World → Prop} (h : f12.sh Z x0 w Q) : CallV Tryd.prog Z 12 #[x0] w Q :=
  calls_of_vcn drawD_sound (Q := Q) (n := 19) (rs := Tryd.f12.results) (an := f12.an) (c := f12.code) (cal := []) (args := [x0]) Tryd.func12 (by kernel_rfl) rfl f12.body_eq follows (Nat.le_of_ble_eq_true (by kernel_rfl)) (enters_of_all f12.enters) ((f12.shape Z x0 w Q).mpr h)

/-! ### 13: lagoon/txn.Write -/
def f13.sh (Z : List PanicEntry → World → Prop) (x0 : Value) (w : World) (Q : Value → World → Prop) : Prop :=
  run1 Tryd.prog Z (Instr.box 36 x0) w fun t1_1 w =>
  run1 Tryd.prog Z (Instr.loadAt 36 t1_1) w fun t5_2 w =>
  CallV Tryd.prog Z 17 #[t5_2] w fun t6_3 w =>
  run1 Tryd.prog Z (eqOp BinOp.neq 37 false true t6_3 (Value.int IntKind.i64 0)) w fun t7_4 w =>
  CondV t7_4 (
    Q (Value.tuple #[(Value.slice none 0 0), (Value.int IntKind.i64 40)]) w) (
    run1 Tryd.prog Z (Instr.build 76 #[]) w fun t8_5 w =>
    run1 Tryd.prog Z (Instr.box 76 t8_5) w fun t9_6 w =>
    run1 Tryd.prog Z (Instr.fieldAt 36 t1_1 0) w fun t11_7 w =>
    run1 Tryd.prog Z (Instr.fieldAt 26 t11_7 0) w fun t12_8 w =>
    run1 Tryd.prog Z (Instr.loadAt 24 t12_8) w fun t13_9 w =>
    CallV Tryd.prog Z 46 #[t9_6, t13_9] w fun t14_10 w =>
    run1 Tryd.prog Z (Instr.fieldAt 36 t1_1 0) w fun t16_11 w =>
    run1 Tryd.prog Z (Instr.fieldAt 26 t16_11 1) w fun t17_12 w =>
    run1 Tryd.prog Z (Instr.loadAt 24 t17_12) w fun t18_13 w =>
    CallV Tryd.prog Z 46 #[t9_6, t18_13] w fun t19_14 w =>
    run1 Tryd.prog Z (Instr.fieldAt 36 t1_1 1) w fun t21_15 w =>
    run1 Tryd.prog Z (Instr.fieldAt 29 t21_15 0) w fun t22_16 w =>
    run1 Tryd.prog Z (Instr.loadAt 27 t22_16) w fun t23_17 w =>
    CallV Tryd.prog Z 47 #[t9_6, t23_17] w fun t24_18 w =>
    run1 Tryd.prog Z (Instr.fieldAt 36 t1_1 1) w fun t26_19 w =>
    run1 Tryd.prog Z (Instr.fieldAt 29 t26_19 1) w fun t27_20 w =>
    run1 Tryd.prog Z (Instr.loadAt 24 t27_20) w fun t28_21 w =>
    CallV Tryd.prog Z 46 #[t9_6, t28_21] w fun t29_22 w =>
    run1 Tryd.prog Z (Instr.fieldAt 36 t1_1 1) w fun t31_23 w =>
    run1 Tryd.prog Z (Instr.fieldAt 29 t31_23 2) w fun t32_24 w =>
    run1 Tryd.prog Z (Instr.loadAt 2 t32_24) w fun t33_25 w =>
    CallV Tryd.prog Z 48 #[t9_6, t33_25] w fun t34_26 w =>
    run1 Tryd.prog Z (Instr.build 71 #[]) w fun t35_27 w =>
    run1 Tryd.prog Z (Instr.fieldAt 36 t1_1 2) w fun t37_28 w =>
    run1 Tryd.prog Z (Instr.loadAt 34 t37_28) w fun t38_29 w =>
    CallV Tryd.prog Z 49 #[t35_27, t9_6, t38_29] w fun t39_30 w =>
    CallV Tryd.prog Z 50 #[t9_6] w fun t41_31 w =>
    Q (Value.tuple #[t41_31, (Value.int IntKind.i64 0)]) w)
noncomputable def f13.code : Code := match Tryd.f13.body with | some c => c | none => .skip
def f13.an : An := (.sq .leaf (.sq (.sq .leaf (.cn (.sq .leaf .leaf) .leaf)) (.sq .leaf (.sq .leaf (.sq .leaf (.sq .leaf (.sq .leaf (.sq .leaf (.sq .leaf (.sq .leaf .leaf))))))))))
theorem f13.body_eq : Tryd.f13.body = some f13.code := by kernel_rfl
theorem f13.shape (Z : List PanicEntry → World → Prop) (x0 : Value) (w : World) (Q : Value → World → Prop) : vc drawD Tryd.prog 42 Z [17, 46, 47, 48, 49, 50] f13.an f13.code (fnQ Tryd.prog 42 Tryd.f13.results Q) (argEnv [x0]) w = f13.sh Z x0 w Q := by kernel_rfl
theorem f13.enters : ∀ f, f ∈ ([17, 46, 47, 48, 49, 50] : List Nat) → Enters Tryd.prog f := by
  intro f hf
  simp only [List.mem_cons, List.not_mem_nil, or_false] at hf
  rcases hf with rfl | rfl | rfl | rfl | rfl | rfl
  · exact en17
  · exact en46
  · exact en47
  · exact en48
  · exact en49
  · exact en50
theorem f13.calls {Z : List PanicEntry → World → Prop} {x0 : Value} {w : World} {Q : Value → World → Prop} (h : f13.sh Z x0 w Q) : CallV Tryd.prog Z 13 #[x0] w Q :=
  calls_of_vcn drawD_sound (Q := Q) (n := 42) (rs := Tryd.f13.results) (an := f13.an) (c := f13.code) (cal := [17, 46, 47, 48, 49, 50]) (args := [x0]) Tryd.func13 (by kernel_rfl) rfl f13.body_eq follows (Nat.le_of_ble_eq_true (by kernel_rfl)) (enters_of_all f13.enters) ((f13.shape Z x0 w Q).mpr h)

/-! ### 14: lagoon/lagoonref00.EqBytes -/
def f14.sh (Z : List PanicEntry → World → Prop) (x0 x1 : Value) (w : World) (Q : Value → World → Prop) : Prop :=
  run1 Tryd.prog Z (Builtin.len_ #[22] 3 #[x0]) w fun t7_1 w =>
  run1 Tryd.prog Z (Builtin.len_ #[22] 3 #[x1]) w fun t9_2 w =>
  run1 Tryd.prog Z (eqOp BinOp.neq 3 false false t7_1 t9_2) w fun t10_3 w =>
  CondV t10_3 (
    Q (Value.bool false) w) (
    ∃ J_4 : Nat → Value → World → Prop, (∃ m, J_4 m (Value.int IntKind.i64 0) w) ∧
      ∀ m_4, ∀ t5_5 : Value, ∀ w : World, J_4 m_4 t5_5 w → Env →
        run1 Tryd.prog Z (Builtin.len_ #[22] 3 #[x0]) w fun t13_6 w =>
        run1 Tryd.prog Z (binOp BinOp.lss 3 t5_5 t13_6) w fun t14_7 w =>
        CondV t14_7 (
          Drawn w fun w =>
          Pure1 Tryd.prog (Instr.indexAt 22 x0 t5_5) fun t19_8 =>
          Read1 Tryd.prog (Instr.loadAt 5 t19_8) w fun t20_9 =>
          Pure1 Tryd.prog (Instr.indexAt 22 x1 t5_5) fun t23_10 =>
          Read1 Tryd.prog (Instr.loadAt 5 t23_10) w fun t24_11 =>
          Pure1 Tryd.prog (eqOp BinOp.neq 5 false false t20_9 t24_11) fun t25_12 =>
          CondV t25_12 (
            Q (Value.bool false) w) (
            run1 Tryd.prog Z (binOp BinOp.add 3 t5_5 (Value.int IntKind.i64 1)) w fun t16_13 w =>
            ∃ n_4, n_4 < m_4 ∧ J_4 n_4 t16_13 w)) (
          Q (Value.bool true) w))
noncomputable def f14.code : Code := match Tryd.f14.body with | some c => c | none => .skip
def f14.an : An := (.sq .leaf (.sq (.sq .leaf (.cn (.sq .leaf .leaf) .leaf)) (.sq (.sq .leaf (.bl (.lp [5] [4, 5, 11, 12, 13, 14, 15, 16, 17, 18, 19, 20, 21, 22, 23, 24, 25] (.sq (.sq .leaf (.cn .leaf .leaf)) (.sq (.bl (.sq (.dr (.take 0 false (.take 1 false (.take 2 false (.take 3 true (.take 4 false (.take 5 false (.take 6 false (.take 7 true (.take 8 false .fin)))))))))) (.cn (.sq .leaf .leaf) .leaf))) .leaf))))) (.sq .leaf .leaf))))
theorem f14.body_eq : Tryd.f14.body = some f14.code := by kernel_rfl
theorem f14.shape (Z : List PanicEntry → World → Prop) (x0 x1 : Value) (w : World) (Q : Value → World → Prop) : vc drawD Tryd.prog 26 Z [] f14.an f14.code (fnQ Tryd.prog 26 Tryd.f14.results Q) (argEnv [x0, x1]) w = f14.sh Z x0 x1 w Q := by kernel_rfl
theorem f14.enters : ∀ f, f ∈ ([] : List Nat) → Enters Tryd.prog f := by
  intro f hf
  cases hf
theorem f14.calls {Z : List PanicEntry → World → Prop} {x0 x1 : Value} {w : World} {Q : Value → World → Prop} (h : f14.sh Z x0 x1 w Q) : CallV Tryd.prog Z 14 #[x0, x1] w Q :=
  calls_of_vcn drawD_sound (Q := Q) (n := 26) (rs := Tryd.f14.results) (an := f14.an) (c := f14.code) (cal := []) (args := [x0, x1]) Tryd.func14 (by kernel_rfl) rfl f14.body_eq follows (Nat.le_of_ble_eq_true (by kernel_rfl)) (enters_of_all f14.enters) ((f14.shape Z x0 x1 w Q).mpr h)

/-! ### 15: lagoon/lagoonref00.Large -/
def f15.sh (Z : List PanicEntry → World → Prop) (x0 : Value) (w : World) (Q : Value → World → Prop) : Prop :=
  run1 Tryd.prog Z (Instr.box 34 x0) w fun t1_1 w =>
  run1 Tryd.prog Z (Instr.loadAt 34 t1_1) w fun t3_2 w =>
  CallV Tryd.prog Z 51 #[t3_2] w fun t4_3 w =>
  run1 Tryd.prog Z (binOp BinOp.gtr 3 t4_3 (Value.int IntKind.i64 20000)) w fun t5_4 w =>
  Q t5_4 w
noncomputable def f15.code : Code := match Tryd.f15.body with | some c => c | none => .skip
def f15.an : An := (.sq .leaf (.sq .leaf .leaf))
theorem f15.body_eq : Tryd.f15.body = some f15.code := by kernel_rfl
theorem f15.shape (Z : List PanicEntry → World → Prop) (x0 : Value) (w : World) (Q : Value → World → Prop) : vc drawD Tryd.prog 6 Z [51] f15.an f15.code (fnQ Tryd.prog 6 Tryd.f15.results Q) (argEnv [x0]) w = f15.sh Z x0 w Q := by kernel_rfl
theorem f15.enters : ∀ f, f ∈ ([51] : List Nat) → Enters Tryd.prog f := by
  intro f hf
  simp only [List.mem_cons, List.not_mem_nil, or_false] at hf
  rcases hf with rfl
  · exact en51
theorem f15.calls {Z : List PanicEntry → World → Prop} {x0 : Value} {w : World} {Q : Value → World → Prop} (h : f15.sh Z x0 w Q) : CallV Tryd.prog Z 15 #[x0] w Q :=
  calls_of_vcn drawD_sound (Q := Q) (n := 6) (rs := Tryd.f15.results) (an := f15.an) (c := f15.code) (cal := [51]) (args := [x0]) Tryd.func15 (by kernel_rfl) rfl f15.body_eq follows (Nat.le_of_ble_eq_true (by kernel_rfl)) (enters_of_all f15.enters) ((f15.shape Z x0 w Q).mpr h)

/-! ### 16: lagoon/lagoonref00.CopyTxn -/
def f16.sh (Z : List PanicEntry → World → Prop) (x0 : Value) (w : World) (Q : Value → World → Prop) : Prop :=
  run1 Tryd.prog Z (Instr.box 36 x0) w fun t1_1 w =>
  run1 Tryd.prog Z (Instr.alloc 36 true (.tuple #[])) w fun t2_2 w =>
  run1 Tryd.prog Z (Instr.fieldAt 36 t1_1 2) w fun t3_3 w =>
  run1 Tryd.prog Z (Instr.loadAt 34 t3_3) w fun t4_4 w =>
  CallV Tryd.prog Z 52 #[t4_4] w fun t5_5 w =>
  run1 Tryd.prog Z (Instr.fieldAt 36 t1_1 2) w fun t6_6 w =>
  run0 Tryd.prog Z (Instr.storeAt 34 t6_6 t5_5) w fun w =>
  run1 Tryd.prog Z (Instr.loadAt 36 t1_1) w fun t7_7 w =>
  run0 Tryd.prog Z (Instr.storeAt 36 t2_2 t7_7) w fun w =>
  ∃ r_8, (do loadVar 36 (← asAddr t2_2) : Sem Value).run Tryd.prog w = .ok r_8 w ∧
  Q r_8 w
noncomputable def f16.code : Code := match Tryd.f16.body with | some c => c | none => .skip
def f16.an : An := (.sq .leaf (.sq .leaf (.sq .leaf .leaf)))
theorem f16.body_eq : Tryd.f16.body = some f16.code := by kernel_rfl
theorem f16.shape (Z : List PanicEntry → World → Prop) (x0 : Value) (w : World) (Q : Value → World → Prop) : vc drawD Tryd.prog 8 Z [52] f16.an f16.code (fnQ Tryd.prog 8 Tryd.f16.results Q) (argEnv [x0]) w = f16.sh Z x0 w Q := by kernel_rfl
theorem f16.enters : ∀ f, f ∈ ([52] : List Nat) → Enters Tryd.prog f := by
  intro f hf
  simp only [List.mem_cons, List.not_mem_nil, or_false] at hf
  rcases hf with rfl
  · exact en52
theorem f16.calls {Z : List PanicEntry → World → Prop} {x0 : Value} {w : World} {Q : Value → World → Prop} (h : f16.sh Z x0 w Q) : CallV Tryd.prog Z 16 #[x0] w Q :=
  calls_of_vcn drawD_sound (Q := Q) (n := 8) (rs := Tryd.f16.results) (an := f16.an) (c := f16.code) (cal := [52]) (args := [x0]) Tryd.func16 (by kernel_rfl) rfl f16.body_eq follows (Nat.le_of_ble_eq_true (by kernel_rfl)) (enters_of_all f16.enters) ((f16.shape Z x0 w Q).mpr h)

/-! ### 17: lagoon/txn.Check -/
def f17.sh (Z : List PanicEntry → World → Prop) (x0 : Value) (w : World) (Q : Value → World → Prop) : Prop :=
  run1 Tryd.prog Z (Instr.box 36 x0) w fun t1_1 w =>
  run1 Tryd.prog Z (Instr.fieldAt 36 t1_1 0) w fun t5_2 w =>
  run1 Tryd.prog Z (Instr.loadAt 26 t5_2) w fun t6_3 w =>
  run1 Tryd.prog Z (Instr.alloc 26 true (.tuple #[])) w fun t3_4 w =>
  run0 Tryd.prog Z (Instr.storeAt 26 t3_4 t6_3) w fun w =>
  run1 Tryd.prog Z (Instr.fieldAt 26 t3_4 0) w fun t7_5 w =>
  run1 Tryd.prog Z (Instr.loadAt 24 t7_5) w fun t8_6 w =>
  run1 Tryd.prog Z (binOp BinOp.geq 24 t8_6 (Value.int IntKind.u32 1)) w fun t9_7 w =>
  guardW (t9_7) true (fun k => run1 Tryd.prog Z (Instr.fieldAt 26 t3_4 0) w k) (fun t11_8 w =>
  guardW (t9_7) true (fun k => run1 Tryd.prog Z (Instr.loadAt 24 t11_8) w k) (fun t12_9 w =>
  guardW (t9_7) true (fun k => run1 Tryd.prog Z (binOp BinOp.leq 24 t12_9 (Value.int IntKind.u32 2147483647)) w k) (fun t13_10 w =>
  run1 Tryd.prog Z (pickV t9_7 t13_10 (Value.bool false)) w fun t14_11 w =>
  guardW (t14_11) true (fun k => run1 Tryd.prog Z (Instr.fieldAt 26 t3_4 1) w k) (fun t16_12 w =>
  guardW (t14_11) true (fun k => run1 Tryd.prog Z (Instr.loadAt 24 t16_12) w k) (fun t17_13 w =>
  guardW (t14_11) true (fun k => run1 Tryd.prog Z (binOp BinOp.geq 24 t17_13 (Value.int IntKind.u32 1)) w k) (fun t18_14 w =>
  run1 Tryd.prog Z (pickV t14_11 t18_14 (Value.bool false)) w fun t19_15 w =>
  run1 Tryd.prog Z (Instr.loadAt 26 t3_4) w fun t21_16 w =>
  run1 Tryd.prog Z (Instr.build 26 #[]) w fun t22_17 w =>
  run1 Tryd.prog Z (eqOp BinOp.neq 26 false false t21_16 t22_17) w fun t23_18 w =>
  guardW (t23_18) true (fun k => k (t19_15) w) (fun t25_19 w =>
  guardW (t23_18) true (fun k => run1 Tryd.prog Z (Op.unary UnOp.not t25_19) w k) (fun t26_20 w =>
  run1 Tryd.prog Z (pickV t23_18 t26_20 (Value.bool false)) w fun t27_21 w =>
  CondV t27_21 (
    Q (Value.int IntKind.i64 40) w) (
    run1 Tryd.prog Z (Instr.fieldAt 36 t1_1 1) w fun t29_22 w =>
    run1 Tryd.prog Z (Instr.fieldAt 29 t29_22 0) w fun t30_23 w =>
    run1 Tryd.prog Z (Instr.loadAt 27 t30_23) w fun t31_24 w =>
    run1 Tryd.prog Z (binOp BinOp.lss 27 t31_24 (Value.int IntKind.i8 0)) w fun t32_25 w =>
    guardW (t32_25) false (fun k => run1 Tryd.prog Z (Instr.fieldAt 36 t1_1 1) w k) (fun t34_26 w =>
    guardW (t32_25) false (fun k => run1 Tryd.prog Z (Instr.fieldAt 29 t34_26 0) w k) (fun t35_27 w =>
    guardW (t32_25) false (fun k => run1 Tryd.prog Z (Instr.loadAt 27 t35_27) w k) (fun t36_28 w =>
    guardW (t32_25) false (fun k => run1 Tryd.prog Z (binOp BinOp.geq 27 t36_28 (Value.int IntKind.i8 7)) w k) (fun t37_29 w =>
    run1 Tryd.prog Z (pickV t32_25 (Value.bool true) t37_29) w fun t38_30 w =>
    guardW (t38_30) false (fun k => run1 Tryd.prog Z (Instr.fieldAt 36 t1_1 1) w k) (fun t40_31 w =>
    guardW (t38_30) false (fun k => run1 Tryd.prog Z (Instr.fieldAt 29 t40_31 2) w k) (fun t41_32 w =>
    guardW (t38_30) false (fun k => run1 Tryd.prog Z (Instr.loadAt 2 t41_32) w k) (fun t42_33 w =>
    guardW (t38_30) false (fun k => run1 Tryd.prog Z (binOp BinOp.lss 2 t42_33 (Value.int IntKind.i64 0)) w k) (fun t43_34 w =>
    run1 Tryd.prog Z (pickV t38_30 (Value.bool true) t43_34) w fun t44_35 w =>
    CondV t44_35 (
      Q (Value.int IntKind.i64 40) w) (
      run1 Tryd.prog Z (Instr.fieldAt 36 t1_1 2) w fun t46_36 w =>
      run1 Tryd.prog Z (Instr.fieldAt 34 t46_36 0) w fun t47_37 w =>
      run1 Tryd.prog Z (Instr.loadAt 27 t47_37) w fun t48_38 w =>
      run1 Tryd.prog Z (binOp BinOp.gtr 27 t48_38 (Value.int IntKind.i8 8)) w fun t49_39 w =>
      CondV t49_39 (
        Q (Value.int IntKind.i64 40) w) (
        run1 Tryd.prog Z (Instr.fieldAt 36 t1_1 2) w fun t50_40 w =>
        run1 Tryd.prog Z (Instr.loadAt 34 t50_40) w fun t51_41 w =>
        CallV Tryd.prog Z 32 #[t51_41] w fun t52_42 w =>
        Q t52_42 w))) w) w) w) w) w) w) w) w)) w) w) w) w) w) w) w) w
noncomputable def f17.code : Code := match Tryd.f17.body with | some c => c | none => .skip
def f17.an : An := (.sq .leaf (.sq .leaf (.sq .leaf (.sq (.bl (.sq .leaf (.cn (.sq .leaf .leaf) (.sq .leaf (.cn (.sq .leaf .leaf) (.sq .leaf (.cn (.sq .leaf .leaf) .leaf))))))) (.sq .leaf .leaf)))))
theorem f17.body_eq : Tryd.f17.body = some f17.code := by kernel_rfl
theorem f17.shape (Z : List PanicEntry → World → Prop) (x0 : Value) (w : World) (Q : Value → World → Prop) : vc drawD Tryd.prog 53 Z [32] f17.an f17.code (fnQ Tryd.prog 53 Tryd.f17.results Q) (argEnv [x0]) w = f17.sh Z x0 w Q := by kernel_rfl
theorem f17.enters : ∀ f, f ∈ ([32] : List Nat) → Enters Tryd.prog f := by
  intro f hf
  simp only [List.mem_cons, List.not_mem_nil, or_false] at hf
  rcases hf with rfl
  · exact en32
theorem f17.calls {Z : List PanicEntry → World → Prop} {x0 : Value} {w : World} {Q : Value → World → Prop} (h : f17.sh Z x0 w Q) : CallV Tryd.prog Z 17 #[x0] w Q :=
  calls_of_vcn drawD_sound (Q := Q) (n := 53) (rs := Tryd.f17.results) (an := f17.an) (c := f17.code) (cal := [32]) (args := [x0]) Tryd.func17 (by kernel_rfl) rfl f17.body_eq follows (Nat.le_of_ble_eq_true (by kernel_rfl)) (enters_of_all f17.enters) ((f17.shape Z x0 w Q).mpr h)

/-! ### 18: lagoon/txn.Same -/
def f18.sh (Z : List PanicEntry → World → Prop) (x0 x1 : Value) (w : World) (Q : Value → World → Prop) : Prop :=
  run1 Tryd.prog Z (Instr.box 36 x0) w fun t2_1 w =>
  run1 Tryd.prog Z (Instr.box 36 x1) w fun t3_2 w =>
  run1 Tryd.prog Z (Instr.fieldAt 36 t2_1 0) w fun t5_3 w =>
  run1 Tryd.prog Z (Instr.loadAt 26 t5_3) w fun t6_4 w =>
  run1 Tryd.prog Z (Instr.fieldAt 36 t3_2 0) w fun t7_5 w =>
  run1 Tryd.prog Z (Instr.loadAt 26 t7_5) w fun t8_6 w =>
  run1 Tryd.prog Z (eqOp BinOp.eql 26 false false t6_4 t8_6) w fun t9_7 w =>
  guardW (t9_7) true (fun k => run1 Tryd.prog Z (Instr.fieldAt 36 t2_1 1) w k) (fun t11_8 w =>
  guardW (t9_7) true (fun k => run1 Tryd.prog Z (Instr.loadAt 29 t11_8) w k) (fun t12_9 w =>
  guardW (t9_7) true (fun k => run1 Tryd.prog Z (Instr.fieldAt 36 t3_2 1) w k) (fun t13_10 w =>
  guardW (t9_7) true (fun k => run1 Tryd.prog Z (Instr.loadAt 29 t13_10) w k) (fun t14_11 w =>
  guardW (t9_7) true (fun k => run1 Tryd.prog Z (eqOp BinOp.eql 29 false false t12_9 t14_11) w k) (fun t15_12 w =>
  run1 Tryd.prog Z (pickV t9_7 t15_12 (Value.bool false)) w fun t16_13 w =>
  guardW (t16_13) true (fun k => run1 Tryd.prog Z (Instr.fieldAt 36 t2_1 2) w k) (fun t18_14 w =>
  guardW (t16_13) true (fun k => run1 Tryd.prog Z (Instr.loadAt 34 t18_14) w k) (fun t19_15 w =>
  guardW (t16_13) true (fun k => run1 Tryd.prog Z (Instr.fieldAt 36 t3_2 2) w k) (fun t20_16 w =>
  guardW (t16_13) true (fun k => run1 Tryd.prog Z (Instr.loadAt 34 t20_16) w k) (fun t21_17 w =>
  guardW (t16_13) true (fun k => CallV Tryd.prog Z 53 #[t19_15, t21_17] w k) (fun t22_18 w =>
  run1 Tryd.prog Z (pickV t16_13 t22_18 (Value.bool false)) w fun t23_19 w =>
  Q t23_19 w) w) w) w) w) w) w) w) w) w) w
noncomputable def f18.code : Code := match Tryd.f18.body with | some c => c | none => .skip
def f18.an : An := (.sq .leaf (.sq .leaf .leaf))
theorem f18.body_eq : Tryd.f18.body = some f18.code := by kernel_rfl
theorem f18.shape (Z : List PanicEntry → World → Prop) (x0 x1 : Value) (w : World) (Q : Value → World → Prop) : vc drawD Tryd.prog 24 Z [53] f18.an f18.code (fnQ Tryd.prog 24 Tryd.f18.results Q) (argEnv [x0, x1]) w = f18.sh Z x0 x1 w Q := by kernel_rfl
theorem f18.enters : ∀ f, f ∈ ([53] : List Nat) → Enters Tryd.prog f := by
  intro f hf
  simp only [List.mem_cons, List.not_mem_nil, or_false] at hf
  rcases hf with rfl
  · exact en53
theorem f18.calls {Z : List PanicEntry → World → Prop} {x0 x1 : Value} {w : World} {Q : Value → World → Prop} (h : f18.sh Z x0 x1 w Q) : CallV Tryd.prog Z 18 #[x0, x1] w Q :=
  calls_of_vcn drawD_sound (Q := Q) (n := 24) (rs := Tryd.f18.results) (an := f18.an) (c := f18.code) (cal := [53]) (args := [x0, x1]) Tryd.func18 (by kernel_rfl) rfl f18.body_eq follows (Nat.le_of_ble_eq_true (by kernel_rfl)) (enters_of_all f18.enters) ((f18.shape Z x0 x1 w Q).mpr h)

/-! ### 19: lagoon/lagoonref00.EqTxn -/
def f19.sh (Z : List PanicEntry → World → Prop) (x0 x1 : Value) (w : World) (Q : Value → World → Prop) : Prop :=
  run1 Tryd.prog Z (Instr.box 36 x0) w fun t2_1 w =>
  run1 Tryd.prog Z (Instr.box 36 x1) w fun t3_2 w =>
  run1 Tryd.prog Z (Instr.fieldAt 36 t2_1 0) w fun t5_3 w =>
  run1 Tryd.prog Z (Instr.loadAt 26 t5_3) w fun t6_4 w =>
  run1 Tryd.prog Z (Instr.fieldAt 36 t3_2 0) w fun t7_5 w =>
  run1 Tryd.prog Z (Instr.loadAt 26 t7_5) w fun t8_6 w =>
  run1 Tryd.prog Z (eqOp BinOp.eql 26 false false t6_4 t8_6) w fun t9_7 w =>
  guardW (t9_7) true (fun k => run1 Tryd.prog Z (Instr.fieldAt 36 t2_1 1) w k) (fun t11_8 w =>
  guardW (t9_7) true (fun k => run1 Tryd.prog Z (Instr.loadAt 29 t11_8) w k) (fun t12_9 w =>
  guardW (t9_7) true (fun k => run1 Tryd.prog Z (Instr.fieldAt 36 t3_2 1) w k) (fun t13_10 w =>
  guardW (t9_7) true (fun k => run1 Tryd.prog Z (Instr.loadAt 29 t13_10) w k) (fun t14_11 w =>
  guardW (t9_7) true (fun k => run1 Tryd.prog Z (eqOp BinOp.eql 29 false false t12_9 t14_11) w k) (fun t15_12 w =>
  run1 Tryd.prog Z (pickV t9_7 t15_12 (Value.bool false)) w fun t16_13 w =>
  guardW (t16_13) true (fun k => run1 Tryd.prog Z (Instr.fieldAt 36 t2_1 2) w k) (fun t18_14 w =>
  guardW (t16_13) true (fun k => run1 Tryd.prog Z (Instr.loadAt 34 t18_14) w k) (fun t19_15 w =>
  guardW (t16_13) true (fun k => run1 Tryd.prog Z (Instr.fieldAt 36 t3_2 2) w k) (fun t20_16 w =>
  guardW (t16_13) true (fun k => run1 Tryd.prog Z (Instr.loadAt 34 t20_16) w k) (fun t21_17 w =>
  guardW (t16_13) true (fun k => CallV Tryd.prog Z 54 #[t19_15, t21_17] w k) (fun t22_18 w =>
  run1 Tryd.prog Z (pickV t16_13 t22_18 (Value.bool false)) w fun t23_19 w =>
  Q t23_19 w) w) w) w) w) w) w) w) w) w) w
noncomputable def f19.code : Code := match Tryd.f19.body with | some c => c | none => .skip
def f19.an : An := (.sq .leaf (.sq .leaf .leaf))
theorem f19.body_eq : Tryd.f19.body = some f19.code := by kernel_rfl
theorem f19.shape (Z : List PanicEntry → World → Prop) (x0 x1 : Value) (w : World) (Q : Value → World → Prop) : vc drawD Tryd.prog 24 Z [54] f19.an f19.code (fnQ Tryd.prog 24 Tryd.f19.results Q) (argEnv [x0, x1]) w = f19.sh Z x0 x1 w Q := by kernel_rfl
theorem f19.enters : ∀ f, f ∈ ([54] : List Nat) → Enters Tryd.prog f := by
  intro f hf
  simp only [List.mem_cons, List.not_mem_nil, or_false] at hf
  rcases hf with rfl
  · exact en54
theorem f19.calls {Z : List PanicEntry → World → Prop} {x0 x1 : Value} {w : World} {Q : Value → World → Prop} (h : f19.sh Z x0 x1 w Q) : CallV Tryd.prog Z 19 #[x0, x1] w Q :=
  calls_of_vcn drawD_sound (Q := Q) (n := 24) (rs := Tryd.f19.results) (an := f19.an) (c := f19.code) (cal := [54]) (args := [x0, x1]) Tryd.func19 (by kernel_rfl) rfl f19.body_eq follows (Nat.le_of_ble_eq_true (by kernel_rfl)) (enters_of_all f19.enters) ((f19.shape Z x0 x1 w Q).mpr h)

/-! ### 20: lagoon/txn.Pack -/
def f20.sh (Z : List PanicEntry → World → Prop) (x0 : Value) (w : World) (Q : Value → World → Prop) : Prop :=
  run1 Tryd.prog Z (Instr.box 26 x0) w fun t1_1 w =>
  run1 Tryd.prog Z (Instr.fieldAt 26 t1_1 0) w fun t4_2 w =>
  run1 Tryd.prog Z (Instr.loadAt 24 t4_2) w fun t5_3 w =>
  run1 Tryd.prog Z (binOp BinOp.gtr 24 t5_3 (Value.int IntKind.u32 2147483647)) w fun t6_4 w =>
  CondV t6_4 (
    Q (Value.tuple #[(Value.int IntKind.i64 0), (Value.int IntKind.i64 1)]) w) (
    run1 Tryd.prog Z (Instr.fieldAt 26 t1_1 0) w fun t7_5 w =>
    run1 Tryd.prog Z (Instr.loadAt 24 t7_5) w fun t8_6 w =>
    run1 Tryd.prog Z (convert 24 2 t8_6) w fun t9_7 w =>
    run1 Tryd.prog Z (binOp BinOp.shl 2 t9_7 (Value.int IntKind.u64 32)) w fun t10_8 w =>
    run1 Tryd.prog Z (Instr.fieldAt 26 t1_1 1) w fun t11_9 w =>
    run1 Tryd.prog Z (Instr.loadAt 24 t11_9) w fun t12_10 w =>
    run1 Tryd.prog Z (convert 24 2 t12_10) w fun t13_11 w =>
    run1 Tryd.prog Z (binOp BinOp.or 2 t10_8 t13_11) w fun t14_12 w =>
    Q (Value.tuple #[t14_12, (Value.int IntKind.i64 0)]) w)
noncomputable def f20.code : Code := match Tryd.f20.body with | some c => c | none => .skip
def f20.an : An := (.sq .leaf (.sq (.sq .leaf (.cn (.sq .leaf .leaf) .leaf)) (.sq .leaf .leaf)))
theorem f20.body_eq : Tryd.f20.body = some f20.code := by kernel_rfl
theorem f20.shape (Z : List PanicEntry → World → Prop) (x0 : Value) (w : World) (Q : Value → World → Prop) : vc drawD Tryd.prog 15 Z [] f20.an f20.code (fnQ Tryd.prog 15 Tryd.f20.results Q) (argEnv [x0]) w = f20.sh Z x0 w Q := by kernel_rfl
theorem f20.enters : ∀ f, f ∈ ([] : List Nat) → Enters Tryd.prog f := by
  intro f hf
  cases hf
theorem f20.calls {Z : List PanicEntry → World → Prop} {x0 : Value} {w : World} {Q : Value → World → Prop} (h : f20.sh Z x0 w Q) : CallV Tryd.prog Z 20 #[x0] w Q :=
  calls_of_vcn drawD_sound (Q := Q) (n := 15) (rs := Tryd.f20.results) (an := f20.an) (c := f20.code) (cal := []) (args := [x0]) Tryd.func20 (by kernel_rfl) rfl f20.body_eq follows (Nat.le_of_ble_eq_true (by kernel_rfl)) (enters_of_all f20.enters) ((f20.shape Z x0 w Q).mpr h)

/-! ### 21: lagoon/txn.Unpack -/
def f21.sh (Z : List PanicEntry → World → Prop) (x0 : Value) (w : World) (Q : Value → World → Prop) : Prop :=
  run1 Tryd.prog Z (Instr.alloc 26 true (.tuple #[])) w fun t2_1 w =>
  run1 Tryd.prog Z (binOp BinOp.lss 2 x0 (Value.int IntKind.i64 0)) w fun t5_2 w =>
  CondV t5_2 (
    run1 Tryd.prog Z (Instr.build 26 #[]) w fun t6_3 w =>
    run0 Tryd.prog Z (Instr.storeAt 26 t2_1 t6_3) w fun w =>
    ∃ r_4, (do loadVar 26 (← asAddr t2_1) : Sem Value).run Tryd.prog w = .ok r_4 w ∧
    Q (Value.tuple #[r_4, (Value.int IntKind.i64 1)]) w) (
    run1 Tryd.prog Z (binOp BinOp.shr 2 x0 (Value.int IntKind.u64 32)) w fun t8_5 w =>
    run1 Tryd.prog Z (convert 2 24 t8_5) w fun t9_6 w =>
    run1 Tryd.prog Z (convert 2 24 x0) w fun t11_7 w =>
    run1 Tryd.prog Z (Instr.build 26 #[(0, t9_6), (1, t11_7)]) w fun t12_8 w =>
    run0 Tryd.prog Z (Instr.storeAt 26 t2_1 t12_8) w fun w =>
    ∃ r_9, (do loadVar 26 (← asAddr t2_1) : Sem Value).run Tryd.prog w = .ok r_9 w ∧
    Q (Value.tuple #[r_9, (Value.int IntKind.i64 0)]) w)
noncomputable def f21.code : Code := match Tryd.f21.body with | some c => c | none => .skip
def f21.an : An := (.sq .leaf (.sq (.sq .leaf (.cn (.sq .leaf .leaf) .leaf)) (.sq .leaf .leaf)))
theorem f21.body_eq : Tryd.f21.body = some f21.code := by kernel_rfl
theorem f21.shape (Z : List PanicEntry → World → Prop) (x0 : Value) (w : World) (Q : Value → World → Prop) : vc drawD Tryd.prog 13 Z [] f21.an f21.code (fnQ Tryd.prog 13 Tryd.f21.results Q) (argEnv [x0]) w = f21.sh Z x0 w Q := by kernel_rfl
theorem f21.enters : ∀ f, f ∈ ([] : List Nat) → Enters Tryd.prog f := by
  intro f hf
  cases hf
theorem f21.calls {Z : List PanicEntry → World → Prop} {x0 : Value} {w : World} {Q : Value → World → Prop} (h : f21.sh Z x0 w Q) : CallV Tryd.prog Z 21 #[x0] w Q :=
  calls_of_vcn drawD_sound (Q := Q) (n := 13) (rs := Tryd.f21.results) (an := f21.an) (c := f21.code) (cal := []) (args := [x0]) Tryd.func21 (by kernel_rfl) rfl f21.body_eq follows (Nat.le_of_ble_eq_true (by kernel_rfl)) (enters_of_all f21.enters) ((f21.shape Z x0 w Q).mpr h)

/-! ### 22: lagoon/txn.Compare -/
def f22.sh (Z : List PanicEntry → World → Prop) (x0 x1 : Value) (w : World) (Q : Value → World → Prop) : Prop :=
  run1 Tryd.prog Z (Instr.box 26 x0) w fun t2_1 w =>
  run1 Tryd.prog Z (Instr.box 26 x1) w fun t3_2 w =>
  Drawn w fun w =>
  Pure1 Tryd.prog (Instr.fieldAt 26 t2_1 0) fun t5_3 =>
  Read1 Tryd.prog (Instr.loadAt 24 t5_3) w fun t6_4 =>
  Pure1 Tryd.prog (Instr.fieldAt 26 t3_2 0) fun t7_5 =>
  Read1 Tryd.prog (Instr.loadAt 24 t7_5) w fun t8_6 =>
  Pure1 Tryd.prog (Instr.fieldAt 26 t2_1 1) fun t10_7 =>
  Read1 Tryd.prog (Instr.loadAt 24 t10_7) w fun t11_8 =>
  Pure1 Tryd.prog (Instr.fieldAt 26 t3_2 1) fun t12_9 =>
  Read1 Tryd.prog (Instr.loadAt 24 t12_9) w fun t13_10 =>
  CallV Tryd.prog Z 56 #[t6_4, t8_6] w fun t9_11 w =>
    Still Tryd.prog (nx (Instr.loadAt 24 t12_9)) t13_10 w <|
    Still Tryd.prog (nx (Instr.loadAt 24 t10_7)) t11_8 w <|
  CallV Tryd.prog Z 56 #[t11_8, t13_10] w fun t14_12 w =>
  run1 Tryd.prog Z (Instr.buildSlice 127 2 #[(0, t9_11), (1, t14_12)]) w fun t15_13 w =>
  CallV Tryd.prog Z 55 #[t15_13] w fun t16_14 w =>
  Q t16_14 w
noncomputable def f22.code : Code := match Tryd.f22.body with | some c => c | none => .skip
def f22.an : An := (.sq .leaf (.sq (.dr (.take 0 false (.take 1 true (.take 2 false (.take 3 true (.take 5 false (.take 6 true (.take 7 false (.take 8 true (.one 4 (.one 9 (.one 10 (.one 11 (.take 12 false .fin)))))))))))))) .leaf))
theorem f22.body_eq : Tryd.f22.body = some f22.code := by kernel_rfl
theorem f22.shape (Z : List PanicEntry → World → Prop) (x0 x1 : Value) (w : World) (Q : Value → World → Prop) : vc drawD Tryd.prog 17 Z [56, 55] f22.an f22.code (fnQ Tryd.prog 17 Tryd.f22.results Q) (argEnv [x0, x1]) w = f22.sh Z x0 x1 w Q := by kernel_rfl
theorem f22.enters : ∀ f, f ∈ ([56, 55] : List Nat) → Enters Tryd.prog f := by
  intro f hf
  simp only [List.mem_cons, List.not_mem_nil, or_false] at hf
  rcases hf with rfl | rfl
  · exact en56
  · exact en55
theorem f22.calls {Z : List PanicEntry → World → Prop} {x0 x1 : Value} {w : World} {Q : Value → World → Prop} (h : f22.sh Z x0 x1 w Q) : CallV Tryd.prog Z 22 #[x0, x1] w Q :=
  calls_of_vcn drawD_sound (Q := Q) (n := 17) (rs := Tryd.f22.results) (an := f22.an) (c := f22.code) (cal := [56, 55]) (args := [x0, x1]) Tryd.func22 (by kernel_rfl) rfl f22.body_eq follows (Nat.le_of_ble_eq_true (by kernel_rfl)) (enters_of_all f22.enters) ((f22.shape Z x0 x1 w Q).mpr h)

/-! ### 23: lagoon/lagoonref00.LargeTxns -/
def f23.sh (Z : List PanicEntry → World → Prop) (x0 : Value) (w : World) (Q : Value → World → Prop) : Prop :=
  ∃ J_1 : Nat → Value → Value → World → Prop, (∃ m, J_1 m (Value.int IntKind.i64 0) (Value.int IntKind.i64 0) w) ∧
    ∀ m_1, ∀ t3_2 : Value, ∀ t4_3 : Value, ∀ w : World, J_1 m_1 t3_2 t4_3 w → Env →
      run1 Tryd.prog Z (Builtin.len_ #[56] 3 #[x0]) w fun t7_4 w =>
      run1 Tryd.prog Z (binOp BinOp.lss 3 t4_3 t7_4) w fun t8_5 w =>
      guardW (t8_5) true (fun k => k (t3_2) w) (fun t10_6 w =>
      guardW (t8_5) true (fun k => run1 Tryd.prog Z (binOp BinOp.leq 3 t10_6 (Value.int IntKind.i64 1000000)) w k) (fun t11_7 w =>
      run1 Tryd.prog Z (pickV t8_5 t11_7 (Value.bool false)) w fun t12_8 w =>
      CondV t12_8 (
        run1 Tryd.prog Z (Instr.indexAt 56 x0 t4_3) w fun t17_9 w =>
        run1 Tryd.prog Z (Instr.fieldAt 36 t17_9 2) w fun t18_10 w =>
        run1 Tryd.prog Z (Instr.loadAt 34 t18_10) w fun t19_11 w =>
        CallV Tryd.prog Z 15 #[t19_11] w fun t20_12 w =>
        CondV t20_12 (
          Q (Value.bool true) w) (
          run1 Tryd.prog Z (binOp BinOp.add 3 t3_2 (Value.int IntKind.i64 1)) w fun t22_13 w =>
          run1 Tryd.prog Z (Instr.indexAt 56 x0 t4_3) w fun t25_14 w =>
          run1 Tryd.prog Z (Instr.fieldAt 36 t25_14 2) w fun t26_15 w =>
          run1 Tryd.prog Z (Instr.loadAt 34 t26_15) w fun t27_16 w =>
          CallV Tryd.prog Z 51 #[t27_16] w fun t28_17 w =>
          run1 Tryd.prog Z (binOp BinOp.add 3 t22_13 t28_17) w fun t29_18 w =>
          run1 Tryd.prog Z (binOp BinOp.add 3 t4_3 (Value.int IntKind.i64 1)) w fun t14_19 w =>
          ∃ n_1, n_1 < m_1 ∧ J_1 n_1 t29_18 t14_19 w)) (
        run1 Tryd.prog Z (binOp BinOp.gtr 3 t3_2 (Value.int IntKind.i64 1000000)) w fun t31_20 w =>
        Q t31_20 w)) w) w
noncomputable def f23.code : Code := match Tryd.f23.body with | some c => c | none => .skip
def f23.an : An := (.sq .leaf (.sq .leaf (.sq (.sq .leaf (.bl (.lp [3, 4] [2, 3, 4, 5, 6, 7, 8, 9, 10, 11, 12, 13, 14, 15, 16, 17, 18, 19, 20, 21, 22, 23, 24, 25, 26, 27, 28, 29] (.sq (.sq .leaf (.cn .leaf .leaf)) (.sq (.bl (.sq (.sq .leaf (.cn (.sq .leaf .leaf) .leaf)) .leaf)) .leaf))))) (.sq .leaf .leaf))))
theorem f23.body_eq : Tryd.f23.body = some f23.code := by kernel_rfl
theorem f23.shape (Z : List PanicEntry → World → Prop) (x0 : Value) (w : World) (Q : Value → World → Prop) : vc drawD Tryd.prog 32 Z [15, 51] f23.an f23.code (fnQ Tryd.prog 32 Tryd.f23.results Q) (argEnv [x0]) w = f23.sh Z x0 w Q := by kernel_rfl
theorem f23.enters : ∀ f, f ∈ ([15, 51] : List Nat) → Enters Tryd.prog f := by
  intro f hf
  simp only [List.mem_cons, List.not_mem_nil, or_false] at hf
  rcases hf with rfl | rfl
  · exact en15
  · exact en51
theorem f23.calls {Z : List PanicEntry → World → Prop} {x0 : Value} {w : World} {Q : Value → World → Prop} (h : f23.sh Z x0 w Q) : CallV Tryd.prog Z 23 #[x0] w Q :=
  calls_of_vcn drawD_sound (Q := Q) (n := 32) (rs := Tryd.f23.results) (an := f23.an) (c := f23.code) (cal := [15, 51]) (args := [x0]) Tryd.func23 (by kernel_rfl) rfl f23.body_eq follows (Nat.le_of_ble_eq_true (by kernel_rfl)) (enters_of_all f23.enters) ((f23.shape Z x0 w Q).mpr h)

/-! ### 24: lagoon/txn.Rises -/
def f24.sh (Z : List PanicEntry → World → Prop) (x0 x1 : Value) (w : World) (Q : Value → World → Prop) : Prop :=
  run1 Tryd.prog Z (Instr.box 26 x0) w fun t2_1 w =>
  run1 Tryd.prog Z (Builtin.len_ #[56] 3 #[x1]) w fun t8_2 w =>
  ∃ J_3 : Nat → Value → World → Prop, (∃ m, J_3 m (Value.int IntKind.i64 0) w) ∧
    ∀ m_3, ∀ t9_4 : Value, ∀ w : World, J_3 m_3 t9_4 w → Env →
      run1 Tryd.prog Z (binOp BinOp.lss 3 t9_4 t8_2) w fun t10_5 w =>
      CondV t10_5 (
        run1 Tryd.prog Z (Instr.indexAt 56 x1 t9_4) w fun t11_6 w =>
        run1 Tryd.prog Z (Instr.loadAt 36 t11_6) w fun t12_7 w =>
        run1 Tryd.prog Z (Instr.alloc 36 true (.tuple #[])) w fun t6_8 w =>
        run0 Tryd.prog Z (Instr.storeAt 36 t6_8 t12_7) w fun w =>
        run1 Tryd.prog Z (Instr.loadAt 26 t2_1) w fun t13_9 w =>
        run1 Tryd.prog Z (Instr.fieldAt 36 t6_8 0) w fun t14_10 w =>
        run1 Tryd.prog Z (Instr.loadAt 26 t14_10) w fun t15_11 w =>
        CallV Tryd.prog Z 22 #[t13_9, t15_11] w fun t16_12 w =>
        run1 Tryd.prog Z (binOp BinOp.geq 3 t16_12 (Value.int IntKind.i64 0)) w fun t17_13 w =>
        CondV t17_13 (
          Q (Value.bool false) w) (
          run1 Tryd.prog Z (Instr.fieldAt 36 t6_8 0) w fun t18_14 w =>
          run1 Tryd.prog Z (Instr.loadAt 26 t18_14) w fun t19_15 w =>
          run0 Tryd.prog Z (Instr.storeAt 26 t2_1 t19_15) w fun w =>
          run1 Tryd.prog Z (binOp BinOp.add 3 t9_4 (Value.int IntKind.i64 1)) w fun t20_16 w =>
          ∃ n_3, n_3 < m_3 ∧ J_3 n_3 t20_16 w)) (
        Q (Value.bool true) w)
noncomputable def f24.code : Code := match Tryd.f24.body with | some c => c | none => .skip
def f24.an : An := (.sq .leaf (.sq (.sq .leaf (.bl (.lp [9] [4, 6, 9, 10, 11, 12, 13, 14, 15, 16, 17, 18, 19, 20] (.sq .leaf (.sq (.cn .leaf .leaf) (.sq (.bl (.sq .leaf (.sq (.sq .leaf (.cn (.sq .leaf .leaf) .leaf)) .leaf))) .leaf)))))) (.sq .leaf .leaf)))
theorem f24.body_eq : Tryd.f24.body = some f24.code := by kernel_rfl
theorem f24.shape (Z : List PanicEntry → World → Prop) (x0 x1 : Value) (w : World) (Q : Value → World → Prop) : vc drawD Tryd.prog 21 Z [22] f24.an f24.code (fnQ Tryd.prog 21 Tryd.f24.results Q) (argEnv [x0, x1]) w = f24.sh Z x0 x1 w Q := by kernel_rfl
theorem f24.enters : ∀ f, f ∈ ([22] : List Nat) → Enters Tryd.prog f := by
  intro f hf
  simp only [List.mem_cons, List.not_mem_nil, or_false] at hf
  rcases hf with rfl
  · exact en22
theorem f24.calls {Z : List PanicEntry → World → Prop} {x0 x1 : Value} {w : World} {Q : Value → World → Prop} (h : f24.sh Z x0 x1 w Q) : CallV Tryd.prog Z 24 #[x0, x1] w Q :=
  calls_of_vcn drawD_sound (Q := Q) (n := 21) (rs := Tryd.f24.results) (an := f24.an) (c := f24.code) (cal := [22]) (args := [x0, x1]) Tryd.func24 (by kernel_rfl) rfl f24.body_eq follows (Nat.le_of_ble_eq_true (by kernel_rfl)) (enters_of_all f24.enters) ((f24.shape Z x0 x1 w Q).mpr h)

/-! ### 25: lagoon/lagoonref00.CopyTxns -/
def f25.sh (Z : List PanicEntry → World → Prop) (x0 : Value) (w : World) (Q : Value → World → Prop) : Prop :=
  ∃ J_1 : Nat → Value → Value → World → Prop, (∃ m, J_1 m (Value.slice none 0 0) (Value.int IntKind.i64 0) w) ∧
    ∀ m_1, ∀ t3_2 : Value, ∀ t4_3 : Value, ∀ w : World, J_1 m_1 t3_2 t4_3 w → Env →
      run1 Tryd.prog Z (Builtin.len_ #[56] 3 #[x0]) w fun t7_4 w =>
      run1 Tryd.prog Z (binOp BinOp.lss 3 t4_3 t7_4) w fun t8_5 w =>
      CondV t8_5 (
        run1 Tryd.prog Z (Instr.indexAt 56 x0 t4_3) w fun t14_6 w =>
        run1 Tryd.prog Z (Instr.loadAt 36 t14_6) w fun t15_7 w =>
        CallV Tryd.prog Z 16 #[t15_7] w fun t16_8 w =>
        run1 Tryd.prog Z (Instr.buildSlice 56 1 #[(0, t16_8)]) w fun t17_9 w =>
        run1 Tryd.prog Z (Builtin.append_ #[56, 56] 56 #[t3_2, t17_9]) w fun t18_10 w =>
        run1 Tryd.prog Z (binOp BinOp.add 3 t4_3 (Value.int IntKind.i64 1)) w fun t10_11 w =>
        ∃ n_1, n_1 < m_1 ∧ J_1 n_1 t18_10 t10_11 w) (
        Q t3_2 w)
noncomputable def f25.code : Code := match Tryd.f25.body with | some c => c | none => .skip
def f25.an : An := (.sq .leaf (.sq .leaf (.sq (.sq .leaf (.bl (.lp [3, 4] [3, 4, 5, 6, 7, 8, 9, 10, 11, 12, 13, 14, 15, 16, 17, 18] (.sq (.sq .leaf (.cn .leaf .leaf)) (.sq (.bl .leaf) .leaf))))) (.sq .leaf .leaf))))
theorem f25.body_eq : Tryd.f25.body = some f25.code := by kernel_rfl
theorem f25.shape (Z : List PanicEntry → World → Prop) (x0 : Value) (w : World) (Q : Value → World → Prop) : vc drawD Tryd.prog 20 Z [16] f25.an f25.code (fnQ Tryd.prog 20 Tryd.f25.results Q) (argEnv [x0]) w = f25.sh Z x0 w Q := by kernel_rfl
theorem f25.enters : ∀ f, f ∈ ([16] : List Nat) → Enters Tryd.prog f := by
  intro f hf
  simp only [List.mem_cons, List.not_mem_nil, or_false] at hf
  rcases hf with rfl
  · exact en16
theorem f25.calls {Z : List PanicEntry → World → Prop} {x0 : Value} {w : World} {Q : Value → World → Prop} (h : f25.sh Z x0 w Q) : CallV Tryd.prog Z 25 #[x0] w Q :=
  calls_of_vcn drawD_sound (Q := Q) (n := 20) (rs := Tryd.f25.results) (an := f25.an) (c := f25.code) (cal := [16]) (args := [x0]) Tryd.func25 (by kernel_rfl) rfl f25.body_eq follows (Nat.le_of_ble_eq_true (by kernel_rfl)) (enters_of_all f25.enters) ((f25.shape Z x0 w Q).mpr h)

/-! ### 26: lagoon/txn.Next -/
def f26.sh (Z : List PanicEntry → World → Prop) (x0 x1 : Value) (w : World) (Q : Value → World → Prop) : Prop :=
  run1 Tryd.prog Z (Instr.box 26 x0) w fun t2_1 w =>
  run1 Tryd.prog Z (Instr.alloc 26 true (.tuple #[])) w fun t4_2 w =>
  run1 Tryd.prog Z (Instr.fieldAt 26 t2_1 0) w fun t7_3 w =>
  run1 Tryd.prog Z (Instr.loadAt 24 t7_3) w fun t8_4 w =>
  run1 Tryd.prog Z (eqOp BinOp.eql 24 false true t8_4 (Value.int IntKind.u32 0)) w fun t9_5 w =>
  guardW (t9_5) false (fun k => run1 Tryd.prog Z (Instr.fieldAt 26 t2_1 0) w k) (fun t11_6 w =>
  guardW (t9_5) false (fun k => run1 Tryd.prog Z (Instr.loadAt 24 t11_6) w k) (fun t12_7 w =>
  guardW (t9_5) false (fun k => run1 Tryd.prog Z (binOp BinOp.gtr 24 t12_7 (Value.int IntKind.u32 2147483647)) w k) (fun t13_8 w =>
  run1 Tryd.prog Z (pickV t9_5 (Value.bool true) t13_8) w fun t14_9 w =>
  CondV t14_9 (
    run1 Tryd.prog Z (Instr.build 26 #[]) w fun t15_10 w =>
    run0 Tryd.prog Z (Instr.storeAt 26 t4_2 t15_10) w fun w =>
    ∃ r_11, (do loadVar 26 (← asAddr t4_2) : Sem Value).run Tryd.prog w = .ok r_11 w ∧
    Q (Value.tuple #[r_11, (Value.int IntKind.i64 1)]) w) (
    run1 Tryd.prog Z (Instr.fieldAt 26 t2_1 1) w fun t17_12 w =>
    run1 Tryd.prog Z (Instr.loadAt 24 t17_12) w fun t18_13 w =>
    run1 Tryd.prog Z (binOp BinOp.geq 24 t18_13 x1) w fun t20_14 w =>
    CondV t20_14 (
      run1 Tryd.prog Z (Instr.build 26 #[]) w fun t21_15 w =>
      run0 Tryd.prog Z (Instr.storeAt 26 t4_2 t21_15) w fun w =>
      ∃ r_16, (do loadVar 26 (← asAddr t4_2) : Sem Value).run Tryd.prog w = .ok r_16 w ∧
      Q (Value.tuple #[r_16, (Value.int IntKind.i64 2)]) w) (
      run1 Tryd.prog Z (Instr.fieldAt 26 t2_1 0) w fun t22_17 w =>
      run1 Tryd.prog Z (Instr.loadAt 24 t22_17) w fun t23_18 w =>
      run1 Tryd.prog Z (Instr.fieldAt 26 t2_1 1) w fun t24_19 w =>
      run1 Tryd.prog Z (Instr.loadAt 24 t24_19) w fun t25_20 w =>
      run1 Tryd.prog Z (binOp BinOp.add 24 t25_20 (Value.int IntKind.u32 1)) w fun t26_21 w =>
      run1 Tryd.prog Z (Instr.build 26 #[(0, t23_18), (1, t26_21)]) w fun t27_22 w =>
      run0 Tryd.prog Z (Instr.storeAt 26 t4_2 t27_22) w fun w =>
      ∃ r_23, (do loadVar 26 (← asAddr t4_2) : Sem Value).run Tryd.prog w = .ok r_23 w ∧
      Q (Value.tuple #[r_23, (Value.int IntKind.i64 0)]) w))) w) w) w
noncomputable def f26.code : Code := match Tryd.f26.body with | some c => c | none => .skip
def f26.an : An := (.sq .leaf (.sq (.bl (.sq .leaf (.cn (.sq .leaf .leaf) (.sq .leaf (.cn (.sq .leaf .leaf) .leaf))))) (.sq .leaf .leaf)))
theorem f26.body_eq : Tryd.f26.body = some f26.code := by kernel_rfl
theorem f26.shape (Z : List PanicEntry → World → Prop) (x0 x1 : Value) (w : World) (Q : Value → World → Prop) : vc drawD Tryd.prog 28 Z [] f26.an f26.code (fnQ Tryd.prog 28 Tryd.f26.results Q) (argEnv [x0, x1]) w = f26.sh Z x0 x1 w Q := by kernel_rfl
theorem f26.enters : ∀ f, f ∈ ([] : List Nat) → Enters Tryd.prog f := by
  intro f hf
  cases hf
theorem f26.calls {Z : List PanicEntry → World → Prop} {x0 x1 : Value} {w : World} {Q : Value → World → Prop} (h : f26.sh Z x0 x1 w Q) : CallV Tryd.prog Z 26 #[x0, x1] w Q :=
  calls_of_vcn drawD_sound (Q := Q) (n := 28) (rs := Tryd.f26.results) (an := f26.an) (c := f26.code) (cal := []) (args := [x0, x1]) Tryd.func26 (by kernel_rfl) rfl f26.body_eq follows (Nat.le_of_ble_eq_true (by kernel_rfl)) (enters_of_all f26.enters) ((f26.shape Z x0 x1 w Q).mpr h)

/-! ### 27: lagoon/lagoonref04.Pack -/
def f27.sh (Z : List PanicEntry → World → Prop) (x0 : Value) (w : World) (Q : Value → World → Prop) : Prop :=
  run1 Tryd.prog Z (Instr.box 26 x0) w fun t1_1 w =>
  run1 Tryd.prog Z (Instr.fieldAt 26 t1_1 0) w fun t4_2 w =>
  run1 Tryd.prog Z (Instr.loadAt 24 t4_2) w fun t5_3 w =>
  run1 Tryd.prog Z (convert 24 2 t5_3) w fun t6_4 w =>
  run1 Tryd.prog Z (binOp BinOp.gtr 2 t6_4 (Value.int IntKind.i64 2147483647)) w fun t7_5 w =>
  CondV t7_5 (
    Q (Value.tuple #[(Value.int IntKind.i64 0), (Value.int IntKind.i64 1)]) w) (
    run1 Tryd.prog Z (Instr.fieldAt 26 t1_1 0) w fun t8_6 w =>
    run1 Tryd.prog Z (Instr.loadAt 24 t8_6) w fun t9_7 w =>
    run1 Tryd.prog Z (convert 24 2 t9_7) w fun t10_8 w =>
    run1 Tryd.prog Z (binOp BinOp.mul 2 t10_8 (Value.int IntKind.i64 4294967296)) w fun t11_9 w =>
    run1 Tryd.prog Z (Instr.fieldAt 26 t1_1 1) w fun t12_10 w =>
    run1 Tryd.prog Z (Instr.loadAt 24 t12_10) w fun t13_11 w =>
    run1 Tryd.prog Z (convert 24 2 t13_11) w fun t14_12 w =>
    run1 Tryd.prog Z (binOp BinOp.add 2 t11_9 t14_12) w fun t15_13 w =>
    Q (Value.tuple #[t15_13, (Value.int IntKind.i64 0)]) w)
noncomputable def f27.code : Code := match Tryd.f27.body with | some c => c | none => .skip
def f27.an : An := (.sq .leaf (.sq (.sq .leaf (.cn (.sq .leaf .leaf) .leaf)) (.sq .leaf .leaf)))
theorem f27.body_eq : Tryd.f27.body = some f27.code := by kernel_rfl
theorem f27.shape (Z : List PanicEntry → World → Prop) (x0 : Value) (w : World) (Q : Value → World → Prop) : vc drawD Tryd.prog 16 Z [] f27.an f27.code (fnQ Tryd.prog 16 Tryd.f27.results Q) (argEnv [x0]) w = f27.sh Z x0 w Q := by kernel_rfl
theorem f27.enters : ∀ f, f ∈ ([] : List Nat) → Enters Tryd.prog f := by
  intro f hf
  cases hf
theorem f27.calls {Z : List PanicEntry → World → Prop} {x0 : Value} {w : World} {Q : Value → World → Prop} (h : f27.sh Z x0 w Q) : CallV Tryd.prog Z 27 #[x0] w Q :=
  calls_of_vcn drawD_sound (Q := Q) (n := 16) (rs := Tryd.f27.results) (an := f27.an) (c := f27.code) (cal := []) (args := [x0]) Tryd.func27 (by kernel_rfl) rfl f27.body_eq follows (Nat.le_of_ble_eq_true (by kernel_rfl)) (enters_of_all f27.enters) ((f27.shape Z x0 w Q).mpr h)

/-! ### 28: lagoon/lagoonref04.Unpack -/
def f28.sh (Z : List PanicEntry → World → Prop) (x0 : Value) (w : World) (Q : Value → World → Prop) : Prop :=
  run1 Tryd.prog Z (Instr.alloc 26 true (.tuple #[])) w fun t2_1 w =>
  run1 Tryd.prog Z (binOp BinOp.lss 2 x0 (Value.int IntKind.i64 0)) w fun t5_2 w =>
  CondV t5_2 (
    run1 Tryd.prog Z (Instr.build 26 #[]) w fun t6_3 w =>
    run0 Tryd.prog Z (Instr.storeAt 26 t2_1 t6_3) w fun w =>
    ∃ r_4, (do loadVar 26 (← asAddr t2_1) : Sem Value).run Tryd.prog w = .ok r_4 w ∧
    Q (Value.tuple #[r_4, (Value.int IntKind.i64 1)]) w) (
    run1 Tryd.prog Z (binOp BinOp.quo 2 x0 (Value.int IntKind.i64 4294967296)) w fun t8_5 w =>
    run1 Tryd.prog Z (convert 2 24 t8_5) w fun t9_6 w =>
    run1 Tryd.prog Z (binOp BinOp.rem 2 x0 (Value.int IntKind.i64 4294967296)) w fun t11_7 w =>
    run1 Tryd.prog Z (convert 2 24 t11_7) w fun t12_8 w =>
    run1 Tryd.prog Z (Instr.build 26 #[(0, t9_6), (1, t12_8)]) w fun t13_9 w =>
    run0 Tryd.prog Z (Instr.storeAt 26 t2_1 t13_9) w fun w =>
    ∃ r_10, (do loadVar 26 (← asAddr t2_1) : Sem Value).run Tryd.prog w = .ok r_10 w ∧
    Q (Value.tuple #[r_10, (Value.int IntKind.i64 0)]) w)
noncomputable def f28.code : Code := match Tryd.f28.body with | some c => c | none => .skip
def f28.an : An := (.sq .leaf (.sq (.sq .leaf (.cn (.sq .leaf .leaf) .leaf)) (.sq .leaf .leaf)))
theorem f28.body_eq : Tryd.f28.body = some f28.code := by kernel_rfl
theorem f28.shape (Z : List PanicEntry → World → Prop) (x0 : Value) (w : World) (Q : Value → World → Prop) : vc drawD Tryd.prog 14 Z [] f28.an f28.code (fnQ Tryd.prog 14 Tryd.f28.results Q) (argEnv [x0]) w = f28.sh Z x0 w Q := by kernel_rfl
theorem f28.enters : ∀ f, f ∈ ([] : List Nat) → Enters Tryd.prog f := by
  intro f hf
  cases hf
theorem f28.calls {Z : List PanicEntry → World → Prop} {x0 : Value} {w : World} {Q : Value → World → Prop} (h : f28.sh Z x0 w Q) : CallV Tryd.prog Z 28 #[x0] w Q :=
  calls_of_vcn drawD_sound (Q := Q) (n := 14) (rs := Tryd.f28.results) (an := f28.an) (c := f28.code) (cal := []) (args := [x0]) Tryd.func28 (by kernel_rfl) rfl f28.body_eq follows (Nat.le_of_ble_eq_true (by kernel_rfl)) (enters_of_all f28.enters) ((f28.shape Z x0 w Q).mpr h)

/-! ### 29: lagoon/lagoonref04.Next -/
def f29.sh (Z : List PanicEntry → World → Prop) (x0 x1 : Value) (w : World) (Q : Value → World → Prop) : Prop :=
  run1 Tryd.prog Z (Instr.box 26 x0) w fun t2_1 w =>
  run1 Tryd.prog Z (Instr.alloc 26 true (.tuple #[])) w fun t4_2 w =>
  run1 Tryd.prog Z (Instr.fieldAt 26 t2_1 0) w fun t6_3 w =>
  run1 Tryd.prog Z (Instr.loadAt 24 t6_3) w fun t7_4 w =>
  run1 Tryd.prog Z (eqOp BinOp.eql 24 false true t7_4 (Value.int IntKind.u32 0)) w fun t8_5 w =>
  guardW (t8_5) false (fun k => run1 Tryd.prog Z (Instr.fieldAt 26 t2_1 0) w k) (fun t10_6 w =>
  guardW (t8_5) false (fun k => run1 Tryd.prog Z (Instr.loadAt 24 t10_6) w k) (fun t11_7 w =>
  guardW (t8_5) false (fun k => run1 Tryd.prog Z (convert 24 2 t11_7) w k) (fun t12_8 w =>
  guardW (t8_5) false (fun k => run1 Tryd.prog Z (binOp BinOp.gtr 2 t12_8 (Value.int IntKind.i64 2147483647)) w k) (fun t13_9 w =>
  run1 Tryd.prog Z (pickV t8_5 (Value.bool true) t13_9) w fun t14_10 w =>
  CondV t14_10 (
    run1 Tryd.prog Z (Instr.build 26 #[]) w fun t15_11 w =>
    run0 Tryd.prog Z (Instr.storeAt 26 t4_2 t15_11) w fun w =>
    ∃ r_12, (do loadVar 26 (← asAddr t4_2) : Sem Value).run Tryd.prog w = .ok r_12 w ∧
    Q (Value.tuple #[r_12, (Value.int IntKind.i64 1)]) w) (
    run1 Tryd.prog Z (Instr.fieldAt 26 t2_1 1) w fun t16_13 w =>
    run1 Tryd.prog Z (Instr.loadAt 24 t16_13) w fun t17_14 w =>
    run1 Tryd.prog Z (binOp BinOp.geq 24 t17_14 x1) w fun t19_15 w =>
    CondV t19_15 (
      run1 Tryd.prog Z (Instr.build 26 #[]) w fun t20_16 w =>
      run0 Tryd.prog Z (Instr.storeAt 26 t4_2 t20_16) w fun w =>
      ∃ r_17, (do loadVar 26 (← asAddr t4_2) : Sem Value).run Tryd.prog w = .ok r_17 w ∧
      Q (Value.tuple #[r_17, (Value.int IntKind.i64 2)]) w) (
      run1 Tryd.prog Z (Instr.fieldAt 26 t2_1 0) w fun t21_18 w =>
      run1 Tryd.prog Z (Instr.loadAt 24 t21_18) w fun t22_19 w =>
      run1 Tryd.prog Z (Instr.fieldAt 26 t2_1 1) w fun t23_20 w =>
      run1 Tryd.prog Z (Instr.loadAt 24 t23_20) w fun t24_21 w =>
      run1 Tryd.prog Z (binOp BinOp.add 24 t24_21 (Value.int IntKind.u32 1)) w fun t25_22 w =>
      run1 Tryd.prog Z (Instr.build 26 #[(0, t22_19), (1, t25_22)]) w fun t26_23 w =>
      run0 Tryd.prog Z (Instr.storeAt 26 t4_2 t26_23) w fun w =>
      ∃ r_24, (do loadVar 26 (← asAddr t4_2) : Sem Value).run Tryd.prog w = .ok r_24 w ∧
      Q (Value.tuple #[r_24, (Value.int IntKind.i64 0)]) w))) w) w) w) w
noncomputable def f29.code : Code := match Tryd.f29.body with | some c => c | none => .skip
def f29.an : An := (.sq .leaf (.sq (.sq .leaf (.cn (.sq .leaf .leaf) .leaf)) (.sq (.sq .leaf (.cn (.sq .leaf .leaf) .leaf)) (.sq .leaf .leaf))))
theorem f29.body_eq : Tryd.f29.body = some f29.code := by kernel_rfl
theorem f29.shape (Z : List PanicEntry → World → Prop) (x0 x1 : Value) (w : World) (Q : Value → World → Prop) : vc drawD Tryd.prog 27 Z [] f29.an f29.code (fnQ Tryd.prog 27 Tryd.f29.results Q) (argEnv [x0, x1]) w = f29.sh Z x0 x1 w Q := by kernel_rfl
theorem f29.enters : ∀ f, f ∈ ([] : List Nat) → Enters Tryd.prog f := by
  intro f hf
  cases hf
theorem f29.calls {Z : List PanicEntry → World → Prop} {x0 x1 : Value} {w : World} {Q : Value → World → Prop} (h : f29.sh Z x0 x1 w Q) : CallV Tryd.prog Z 29 #[x0, x1] w Q :=
  calls_of_vcn drawD_sound (Q := Q) (n := 27) (rs := Tryd.f29.results) (an := f29.an) (c := f29.code) (cal := []) (args := [x0, x1]) Tryd.func29 (by kernel_rfl) rfl f29.body_eq follows (Nat.le_of_ble_eq_true (by kernel_rfl)) (enters_of_all f29.enters) ((f29.shape Z x0 x1 w Q).mpr h)

/-! ### 30: lagoon/lagoonref00.Compare -/
def f30.sh (Z : List PanicEntry → World → Prop) (x0 x1 : Value) (w : World) (Q : Value → World → Prop) : Prop :=
  run1 Tryd.prog Z (Instr.box 26 x0) w fun t2_1 w =>
  run1 Tryd.prog Z (Instr.box 26 x1) w fun t3_2 w =>
  run1 Tryd.prog Z (Instr.fieldAt 26 t2_1 0) w fun t6_3 w =>
  run1 Tryd.prog Z (Instr.loadAt 24 t6_3) w fun t7_4 w =>
  run1 Tryd.prog Z (Instr.fieldAt 26 t3_2 0) w fun t8_5 w =>
  run1 Tryd.prog Z (Instr.loadAt 24 t8_5) w fun t9_6 w =>
  run1 Tryd.prog Z (binOp BinOp.lss 24 t7_4 t9_6) w fun t10_7 w =>
  guardW (t10_7) false (fun k => run1 Tryd.prog Z (Instr.fieldAt 26 t2_1 0) w k) (fun t12_8 w =>
  guardW (t10_7) false (fun k => run1 Tryd.prog Z (Instr.loadAt 24 t12_8) w k) (fun t13_9 w =>
  guardW (t10_7) false (fun k => run1 Tryd.prog Z (Instr.fieldAt 26 t3_2 0) w k) (fun t14_10 w =>
  guardW (t10_7) false (fun k => run1 Tryd.prog Z (Instr.loadAt 24 t14_10) w k) (fun t15_11 w =>
  guardW (t10_7) false (fun k => run1 Tryd.prog Z (eqOp BinOp.eql 24 false false t13_9 t15_11) w k) (fun t16_12 w =>
  guardW (t10_7) false (fun k => k (t16_12) w) (fun t17_13 w =>
  guardW (t17_13) true (fun k => run1 Tryd.prog Z (Instr.fieldAt 26 t2_1 1) w k) (fun t18_14 w =>
  guardW (t17_13) true (fun k => run1 Tryd.prog Z (Instr.loadAt 24 t18_14) w k) (fun t19_15 w =>
  guardW (t17_13) true (fun k => run1 Tryd.prog Z (Instr.fieldAt 26 t3_2 1) w k) (fun t20_16 w =>
  guardW (t17_13) true (fun k => run1 Tryd.prog Z (Instr.loadAt 24 t20_16) w k) (fun t21_17 w =>
  guardW (t17_13) true (fun k => run1 Tryd.prog Z (binOp BinOp.lss 24 t19_15 t21_17) w k) (fun t22_18 w =>
  guardW (t10_7) false (fun k => run1 Tryd.prog Z (pickV t17_13 t22_18 (Value.bool false)) w k) (fun t23_19 w =>
  run1 Tryd.prog Z (pickV t10_7 (Value.bool true) t23_19) w fun t24_20 w =>
  CondV t24_20 (
    Q (Value.int IntKind.i64 (-1)) w) (
    run1 Tryd.prog Z (Instr.loadAt 26 t2_1) w fun t26_21 w =>
    run1 Tryd.prog Z (Instr.loadAt 26 t3_2) w fun t27_22 w =>
    run1 Tryd.prog Z (eqOp BinOp.eql 26 false false t26_21 t27_22) w fun t28_23 w =>
    CondV t28_23 (
      Q (Value.int IntKind.i64 0) w) (
      Q (Value.int IntKind.i64 1) w))) w) w) w) w) w) w) w) w) w) w) w) w
noncomputable def f30.code : Code := match Tryd.f30.body with | some c => c | none => .skip
def f30.an : An := (.sq .leaf (.sq (.bl (.sq .leaf (.cn (.sq .leaf .leaf) (.sq .leaf (.cn (.sq .leaf .leaf) .leaf))))) (.sq .leaf .leaf)))
theorem f30.body_eq : Tryd.f30.body = some f30.code := by kernel_rfl
theorem f30.shape (Z : List PanicEntry → World → Prop) (x0 x1 : Value) (w : World) (Q : Value → World → Prop) : vc drawD Tryd.prog 29 Z [] f30.an f30.code (fnQ Tryd.prog 29 Tryd.f30.results Q) (argEnv [x0, x1]) w = f30.sh Z x0 x1 w Q := by kernel_rfl
theorem f30.enters : ∀ f, f ∈ ([] : List Nat) → Enters Tryd.prog f := by
  intro f hf
  cases hf
theorem f30.calls {Z : List PanicEntry → World → Prop} {x0 x1 : Value} {w : World} {Q : Value → World → Prop} (h : f30.sh Z x0 x1 w Q) : CallV Tryd.prog Z 30 #[x0, x1] w Q :=
  calls_of_vcn drawD_sound (Q := Q) (n := 29) (rs := Tryd.f30.results) (an := f30.an) (c := f30.code) (cal := []) (args := [x0, x1]) Tryd.func30 (by kernel_rfl) rfl f30.body_eq follows (Nat.le_of_ble_eq_true (by kernel_rfl)) (enters_of_all f30.enters) ((f30.shape Z x0 x1 w Q).mpr h)

/-! ### 31: lagoon/lagoonref00.WideTxn -/
def f31.sh (Z : List PanicEntry → World → Prop) (x0 : Value) (w : World) (Q : Value → World → Prop) : Prop :=
  run1 Tryd.prog Z (Instr.box 36 x0) w fun t1_1 w =>
  run1 Tryd.prog Z (Instr.alloc 36 true (.tuple #[])) w fun t2_2 w =>
  run1 Tryd.prog Z (Instr.fieldAt 36 t1_1 2) w fun t3_3 w =>
  run1 Tryd.prog Z (Instr.loadAt 34 t3_3) w fun t4_4 w =>
  CallV Tryd.prog Z 57 #[t4_4] w fun t5_5 w =>
  run1 Tryd.prog Z (Instr.fieldAt 36 t1_1 2) w fun t6_6 w =>
  run0 Tryd.prog Z (Instr.storeAt 34 t6_6 t5_5) w fun w =>
  run1 Tryd.prog Z (Instr.loadAt 36 t1_1) w fun t7_7 w =>
  run0 Tryd.prog Z (Instr.storeAt 36 t2_2 t7_7) w fun w =>
  ∃ r_8, (do loadVar 36 (← asAddr t2_2) : Sem Value).run Tryd.prog w = .ok r_8 w ∧
  Q r_8 w
noncomputable def f31.code : Code := match Tryd.f31.body with | some c => c | none => .skip
def f31.an : An := (.sq .leaf (.sq .leaf (.sq .leaf .leaf)))
theorem f31.body_eq : Tryd.f31.body = some f31.code := by kernel_rfl
theorem f31.shape (Z : List PanicEntry → World → Prop) (x0 : Value) (w : World) (Q : Value → World → Prop) : vc drawD Tryd.prog 8 Z [57] f31.an f31.code (fnQ Tryd.prog 8 Tryd.f31.results Q) (argEnv [x0]) w = f31.sh Z x0 w Q := by kernel_rfl
theorem f31.enters : ∀ f, f ∈ ([57] : List Nat) → Enters Tryd.prog f := by
  intro f hf
  simp only [List.mem_cons, List.not_mem_nil, or_false] at hf
  rcases hf with rfl
  · exact en57
theorem f31.calls {Z : List PanicEntry → World → Prop} {x0 : Value} {w : World} {Q : Value → World → Prop} (h : f31.sh Z x0 w Q) : CallV Tryd.prog Z 31 #[x0] w Q :=
  calls_of_vcn drawD_sound (Q := Q) (n := 8) (rs := Tryd.f31.results) (an := f31.an) (c := f31.code) (cal := [57]) (args := [x0]) Tryd.func31 (by kernel_rfl) rfl f31.body_eq follows (Nat.le_of_ble_eq_true (by kernel_rfl)) (enters_of_all f31.enters) ((f31.shape Z x0 w Q).mpr h)

/-! ### 32: lagoon/txn.CheckRequest -/
def f32.sh (Z : List PanicEntry → World → Prop) (x0 : Value) (w : World) (Q : Value → World → Prop) : Prop :=
  run1 Tryd.prog Z (Instr.box 34 x0) w fun t1_1 w =>
  run1 Tryd.prog Z (Instr.fieldAt 34 t1_1 0) w fun t5_2 w =>
  run1 Tryd.prog Z (Instr.loadAt 27 t5_2) w fun t6_3 w =>
  CallV Tryd.prog Z 58 #[t6_3] w fun t7_4 w =>
  run1 Tryd.prog Z (Op.unary UnOp.not t7_4) w fun t8_5 w =>
  guardW (t8_5) false (fun k => run1 Tryd.prog Z (Instr.loadAt 34 t1_1) w k) (fun t10_6 w =>
  guardW (t8_5) false (fun k => CallV Tryd.prog Z 59 #[t10_6] w k) (fun t11_7 w =>
  guardW (t8_5) false (fun k => run1 Tryd.prog Z (Op.unary UnOp.not t11_7) w k) (fun t12_8 w =>
  run1 Tryd.prog Z (pickV t8_5 (Value.bool true) t12_8) w fun t13_9 w =>
  CondV t13_9 (
    Q (Value.int IntKind.i64 40) w) (
    run1 Tryd.prog Z (Instr.fieldAt 34 t1_1 10) w fun t14_10 w =>
    run1 Tryd.prog Z (Instr.loadAt 32 t14_10) w fun t15_11 w =>
    run1 Tryd.prog Z (Builtin.len_ #[32] 3 #[t15_11]) w fun t16_12 w =>
    ∃ J_13 : Nat → Value → World → Prop, (∃ m, J_13 m (Value.int IntKind.i64 0) w) ∧
      ∀ m_13, ∀ t17_14 : Value, ∀ w : World, J_13 m_13 t17_14 w → Env →
        run1 Tryd.prog Z (binOp BinOp.lss 3 t17_14 t16_12) w fun t18_15 w =>
        CondV t18_15 (
          run1 Tryd.prog Z (Instr.indexAt 32 t15_11 t17_14) w fun t19_16 w =>
          run1 Tryd.prog Z (Instr.loadAt 34 t19_16) w fun t20_17 w =>
          run1 Tryd.prog Z (Instr.alloc 34 true (.tuple #[])) w fun t4_18 w =>
          run0 Tryd.prog Z (Instr.storeAt 34 t4_18 t20_17) w fun w =>
          run1 Tryd.prog Z (Instr.loadAt 34 t4_18) w fun t21_19 w =>
          CallV Tryd.prog Z 60 #[t21_19] w fun t22_20 w =>
          run1 Tryd.prog Z (Op.unary UnOp.not t22_20) w fun t23_21 w =>
          CondV t23_21 (
            Q (Value.int IntKind.i64 40) w) (
            run1 Tryd.prog Z (binOp BinOp.add 3 t17_14 (Value.int IntKind.i64 1)) w fun t24_22 w =>
            ∃ n_13, n_13 < m_13 ∧ J_13 n_13 t24_22 w)) (
          Q (Value.int IntKind.i64 0) w))) w) w) w
noncomputable def f32.code : Code := match Tryd.f32.body with | some c => c | none => .skip
def f32.an : An := (.sq .leaf (.sq (.sq .leaf (.cn (.sq .leaf .leaf) .leaf)) (.sq (.sq .leaf (.bl (.lp [17] [2, 4, 17, 18, 19, 20, 21, 22, 23, 24] (.sq .leaf (.sq (.cn .leaf .leaf) (.sq (.bl (.sq .leaf (.sq .leaf (.cn (.sq .leaf .leaf) .leaf)))) .leaf)))))) (.sq .leaf .leaf))))
theorem f32.body_eq : Tryd.f32.body = some f32.code := by kernel_rfl
theorem f32.shape (Z : List PanicEntry → World → Prop) (x0 : Value) (w : World) (Q : Value → World → Prop) : vc drawD Tryd.prog 25 Z [58, 59, 60] f32.an f32.code (fnQ Tryd.prog 25 Tryd.f32.results Q) (argEnv [x0]) w = f32.sh Z x0 w Q := by kernel_rfl
theorem f32.enters : ∀ f, f ∈ ([58, 59, 60] : List Nat) → Enters Tryd.prog f := by
  intro f hf
  simp only [List.mem_cons, List.not_mem_nil, or_false] at hf
  rcases hf with rfl | rfl | rfl
  · exact en58
  · exact en59
  · exact en60
theorem f32.calls {Z : List PanicEntry → World → Prop} {x0 : Value} {w : World} {Q : Value → World → Prop} (h : f32.sh Z x0 w Q) : CallV Tryd.prog Z 32 #[x0] w Q :=
  calls_of_vcn drawD_sound (Q := Q) (n := 25) (rs := Tryd.f32.results) (an := f32.an) (c := f32.code) (cal := [58, 59, 60]) (args := [x0]) Tryd.func32 (by kernel_rfl) rfl f32.body_eq follows (Nat.le_of_ble_eq_true (by kernel_rfl)) (enters_of_all f32.enters) ((f32.shape Z x0 w Q).mpr h)

/-! ### 33: lagoon/lagoonref00.SpareRequest -/
def f33.sh (Z : List PanicEntry → World → Prop) (x0 : Value) (w : World) (Q : Value → World → Prop) : Prop :=
  run1 Tryd.prog Z (Instr.box 34 x0) w fun t1_1 w =>
  run1 Tryd.prog Z (Instr.fieldAt 34 t1_1 2) w fun t3_2 w =>
  run1 Tryd.prog Z (Instr.loadAt 22 t3_2) w fun t4_3 w =>
  CallV Tryd.prog Z 61 #[t4_3] w fun t5_4 w =>
  guardW (t5_4) true (fun k => run1 Tryd.prog Z (Instr.fieldAt 34 t1_1 3) w k) (fun t7_5 w =>
  guardW (t5_4) true (fun k => run1 Tryd.prog Z (Instr.loadAt 30 t7_5) w k) (fun t8_6 w =>
  guardW (t5_4) true (fun k => CallV Tryd.prog Z 62 #[t8_6] w k) (fun t9_7 w =>
  run1 Tryd.prog Z (pickV t5_4 t9_7 (Value.bool false)) w fun t10_8 w =>
  guardW (t10_8) true (fun k => run1 Tryd.prog Z (Instr.fieldAt 34 t1_1 9) w k) (fun t12_9 w =>
  guardW (t10_8) true (fun k => run1 Tryd.prog Z (Instr.loadAt 31 t12_9) w k) (fun t13_10 w =>
  guardW (t10_8) true (fun k => CallV Tryd.prog Z 63 #[t13_10] w k) (fun t14_11 w =>
  run1 Tryd.prog Z (pickV t10_8 t14_11 (Value.bool false)) w fun t15_12 w =>
  guardW (t15_12) true (fun k => run1 Tryd.prog Z (Instr.fieldAt 34 t1_1 10) w k) (fun t17_13 w =>
  guardW (t15_12) true (fun k => run1 Tryd.prog Z (Instr.loadAt 32 t17_13) w k) (fun t18_14 w =>
  guardW (t15_12) true (fun k => CallV Tryd.prog Z 64 #[t18_14] w k) (fun t19_15 w =>
  run1 Tryd.prog Z (pickV t15_12 t19_15 (Value.bool false)) w fun t20_16 w =>
  Q t20_16 w) w) w) w) w) w) w) w) w) w
noncomputable def f33.code : Code := match Tryd.f33.body with | some c => c | none => .skip
def f33.an : An := (.sq .leaf (.sq .leaf .leaf))
theorem f33.body_eq : Tryd.f33.body = some f33.code := by kernel_rfl
theorem f33.shape (Z : List PanicEntry → World → Prop) (x0 : Value) (w : World) (Q : Value → World → Prop) : vc drawD Tryd.prog 21 Z [61, 62, 63, 64] f33.an f33.code (fnQ Tryd.prog 21 Tryd.f33.results Q) (argEnv [x0]) w = f33.sh Z x0 w Q := by kernel_rfl
theorem f33.enters : ∀ f, f ∈ ([61, 62, 63, 64] : List Nat) → Enters Tryd.prog f := by
  intro f hf
  simp only [List.mem_cons, List.not_mem_nil, or_false] at hf
  rcases hf with rfl | rfl | rfl | rfl
  · exact en61
  · exact en62
  · exact en63
  · exact en64
theorem f33.calls {Z : List PanicEntry → World → Prop} {x0 : Value} {w : World} {Q : Value → World → Prop} (h : f33.sh Z x0 w Q) : CallV Tryd.prog Z 33 #[x0] w Q :=
  calls_of_vcn drawD_sound (Q := Q) (n := 21) (rs := Tryd.f33.results) (an := f33.an) (c := f33.code) (cal := [61, 62, 63, 64]) (args := [x0]) Tryd.func33 (by kernel_rfl) rfl f33.body_eq follows (Nat.le_of_ble_eq_true (by kernel_rfl)) (enters_of_all f33.enters) ((f33.shape Z x0 w Q).mpr h)

/-! ### 34: lagoon/lagoonref04.Check -/
def f34.sh (Z : List PanicEntry → World → Prop) (x0 : Value) (w : World) (Q : Value → World → Prop) : Prop :=
  run1 Tryd.prog Z (Instr.box 36 x0) w fun t1_1 w =>
  run1 Tryd.prog Z (Instr.fieldAt 36 t1_1 0) w fun t5_2 w =>
  run1 Tryd.prog Z (Instr.fieldAt 26 t5_2 0) w fun t6_3 w =>
  run1 Tryd.prog Z (Instr.loadAt 24 t6_3) w fun t7_4 w =>
  run1 Tryd.prog Z (eqOp BinOp.eql 24 false true t7_4 (Value.int IntKind.u32 0)) w fun t8_5 w =>
  guardW (t8_5) true (fun k => run1 Tryd.prog Z (Instr.fieldAt 36 t1_1 0) w k) (fun t10_6 w =>
  guardW (t8_5) true (fun k => run1 Tryd.prog Z (Instr.fieldAt 26 t10_6 1) w k) (fun t11_7 w =>
  guardW (t8_5) true (fun k => run1 Tryd.prog Z (Instr.loadAt 24 t11_7) w k) (fun t12_8 w =>
  guardW (t8_5) true (fun k => run1 Tryd.prog Z (eqOp BinOp.eql 24 false true t12_8 (Value.int IntKind.u32 0)) w k) (fun t13_9 w =>
  run1 Tryd.prog Z (pickV t8_5 t13_9 (Value.bool false)) w fun t14_10 w =>
  run1 Tryd.prog Z (Instr.fieldAt 36 t1_1 0) w fun t15_11 w =>
  run1 Tryd.prog Z (Instr.fieldAt 26 t15_11 0) w fun t16_12 w =>
  run1 Tryd.prog Z (Instr.loadAt 24 t16_12) w fun t17_13 w =>
  run1 Tryd.prog Z (eqOp BinOp.neq 24 false true t17_13 (Value.int IntKind.u32 0)) w fun t18_14 w =>
  guardW (t18_14) true (fun k => run1 Tryd.prog Z (Instr.fieldAt 36 t1_1 0) w k) (fun t20_15 w =>
  guardW (t18_14) true (fun k => run1 Tryd.prog Z (Instr.fieldAt 26 t20_15 0) w k) (fun t21_16 w =>
  guardW (t18_14) true (fun k => run1 Tryd.prog Z (Instr.loadAt 24 t21_16) w k) (fun t22_17 w =>
  guardW (t18_14) true (fun k => run1 Tryd.prog Z (convert 24 2 t22_17) w k) (fun t23_18 w =>
  guardW (t18_14) true (fun k => run1 Tryd.prog Z (binOp BinOp.leq 2 t23_18 (Value.int IntKind.i64 2147483647)) w k) (fun t24_19 w =>
  run1 Tryd.prog Z (pickV t18_14 t24_19 (Value.bool false)) w fun t25_20 w =>
  guardW (t25_20) true (fun k => run1 Tryd.prog Z (Instr.fieldAt 36 t1_1 0) w k) (fun t27_21 w =>
  guardW (t25_20) true (fun k => run1 Tryd.prog Z (Instr.fieldAt 26 t27_21 1) w k) (fun t28_22 w =>
  guardW (t25_20) true (fun k => run1 Tryd.prog Z (Instr.loadAt 24 t28_22) w k) (fun t29_23 w =>
  guardW (t25_20) true (fun k => run1 Tryd.prog Z (eqOp BinOp.neq 24 false true t29_23 (Value.int IntKind.u32 0)) w k) (fun t30_24 w =>
  run1 Tryd.prog Z (pickV t25_20 t30_24 (Value.bool false)) w fun t31_25 w =>
  run1 Tryd.prog Z (Op.unary UnOp.not t14_10) w fun t33_26 w =>
  guardW (t33_26) true (fun k => k (t31_25) w) (fun t35_27 w =>
  guardW (t33_26) true (fun k => run1 Tryd.prog Z (Op.unary UnOp.not t35_27) w k) (fun t36_28 w =>
  run1 Tryd.prog Z (pickV t33_26 t36_28 (Value.bool false)) w fun t37_29 w =>
  CondV t37_29 (
    Q (Value.int IntKind.i64 40) w) (
    run1 Tryd.prog Z (Instr.fieldAt 36 t1_1 1) w fun t38_30 w =>
    run1 Tryd.prog Z (Instr.fieldAt 29 t38_30 0) w fun t39_31 w =>
    run1 Tryd.prog Z (Instr.loadAt 27 t39_31) w fun t40_32 w =>
    run1 Tryd.prog Z (binOp BinOp.lss 27 t40_32 (Value.int IntKind.i8 0)) w fun t41_33 w =>
    guardW (t41_33) false (fun k => run1 Tryd.prog Z (Instr.fieldAt 36 t1_1 1) w k) (fun t43_34 w =>
    guardW (t41_33) false (fun k => run1 Tryd.prog Z (Instr.fieldAt 29 t43_34 0) w k) (fun t44_35 w =>
    guardW (t41_33) false (fun k => run1 Tryd.prog Z (Instr.loadAt 27 t44_35) w k) (fun t45_36 w =>
    guardW (t41_33) false (fun k => run1 Tryd.prog Z (binOp BinOp.gtr 27 t45_36 (Value.int IntKind.i8 6)) w k) (fun t46_37 w =>
    run1 Tryd.prog Z (pickV t41_33 (Value.bool true) t46_37) w fun t47_38 w =>
    guardW (t47_38) false (fun k => run1 Tryd.prog Z (Instr.fieldAt 36 t1_1 1) w k) (fun t49_39 w =>
    guardW (t47_38) false (fun k => run1 Tryd.prog Z (Instr.fieldAt 29 t49_39 2) w k) (fun t50_40 w =>
    guardW (t47_38) false (fun k => run1 Tryd.prog Z (Instr.loadAt 2 t50_40) w k) (fun t51_41 w =>
    guardW (t47_38) false (fun k => run1 Tryd.prog Z (binOp BinOp.lss 2 t51_41 (Value.int IntKind.i64 0)) w k) (fun t52_42 w =>
    run1 Tryd.prog Z (pickV t47_38 (Value.bool true) t52_42) w fun t53_43 w =>
    guardW (t53_43) false (fun k => run1 Tryd.prog Z (Instr.fieldAt 36 t1_1 2) w k) (fun t55_44 w =>
    guardW (t53_43) false (fun k => run1 Tryd.prog Z (Instr.fieldAt 34 t55_44 0) w k) (fun t56_45 w =>
    guardW (t53_43) false (fun k => run1 Tryd.prog Z (Instr.loadAt 27 t56_45) w k) (fun t57_46 w =>
    guardW (t53_43) false (fun k => run1 Tryd.prog Z (binOp BinOp.gtr 27 t57_46 (Value.int IntKind.i8 8)) w k) (fun t58_47 w =>
    run1 Tryd.prog Z (pickV t53_43 (Value.bool true) t58_47) w fun t59_48 w =>
    CondV t59_48 (
      Q (Value.int IntKind.i64 40) w) (
      run1 Tryd.prog Z (Instr.fieldAt 36 t1_1 2) w fun t60_49 w =>
      run1 Tryd.prog Z (Instr.loadAt 34 t60_49) w fun t61_50 w =>
      CallV Tryd.prog Z 35 #[t61_50] w fun t62_51 w =>
      Q t62_51 w)) w) w) w) w) w) w) w) w) w) w) w) w)) w) w) w) w) w) w) w) w) w) w) w) w) w) w) w
noncomputable def f34.code : Code := match Tryd.f34.body with | some c => c | none => .skip
def f34.an : An := (.sq .leaf (.sq .leaf (.sq .leaf (.sq (.sq .leaf (.cn (.sq .leaf .leaf) .leaf)) (.sq (.sq .leaf (.cn (.sq .leaf .leaf) .leaf)) (.sq .leaf .leaf))))))
theorem f34.body_eq : Tryd.f34.body = some f34.code := by kernel_rfl
theorem f34.shape (Z : List PanicEntry → World → Prop) (x0 : Value) (w : World) (Q : Value → World → Prop) : vc drawD Tryd.prog 63 Z [35] f34.an f34.code (fnQ Tryd.prog 63 Tryd.f34.results Q) (argEnv [x0]) w = f34.sh Z x0 w Q := by kernel_rfl
theorem f34.enters : ∀ f, f ∈ ([35] : List Nat) → Enters Tryd.prog f := by
  intro f hf
  simp only [List.mem_cons, List.not_mem_nil, or_false] at hf
  rcases hf with rfl
  · exact en35
theorem f34.calls {Z : List PanicEntry → World → Prop} {x0 : Value} {w : World} {Q : Value → World → Prop} (h : f34.sh Z x0 w Q) : CallV Tryd.prog Z 34 #[x0] w Q :=
  calls_of_vcn drawD_sound (Q := Q) (n := 63) (rs := Tryd.f34.results) (an := f34.an) (c := f34.code) (cal := [35]) (args := [x0]) Tryd.func34 (by kernel_rfl) rfl f34.body_eq follows (Nat.le_of_ble_eq_true (by kernel_rfl)) (enters_of_all f34.enters) ((f34.shape Z x0 w Q).mpr h)

/-! ### 35: lagoon/lagoonref04.CheckRequest -/
def f35.sh (Z : List PanicEntry → World → Prop) (x0 : Value) (w : World) (Q : Value → World → Prop) : Prop :=
  run1 Tryd.prog Z (Instr.box 34 x0) w fun t1_1 w =>
  run1 Tryd.prog Z (Instr.loadAt 34 t1_1) w fun t5_2 w =>
  CallV Tryd.prog Z 65 #[t5_2] w fun t6_3 w =>
  run1 Tryd.prog Z (Op.unary UnOp.not t6_3) w fun t7_4 w =>
  CondV t7_4 (
    Q (Value.int IntKind.i64 40) w) (
    ∃ J_5 : Nat → Value → World → Prop, (∃ m, J_5 m (Value.int IntKind.i64 0) w) ∧
      ∀ m_5, ∀ t3_6 : Value, ∀ w : World, J_5 m_5 t3_6 w → Env →
        run1 Tryd.prog Z (Instr.fieldAt 34 t1_1 10) w fun t9_7 w =>
        run1 Tryd.prog Z (Instr.loadAt 32 t9_7) w fun t10_8 w =>
        run1 Tryd.prog Z (Builtin.len_ #[32] 3 #[t10_8]) w fun t11_9 w =>
        run1 Tryd.prog Z (binOp BinOp.lss 3 t3_6 t11_9) w fun t12_10 w =>
        CondV t12_10 (
          run1 Tryd.prog Z (Instr.fieldAt 34 t1_1 10) w fun t15_11 w =>
          run1 Tryd.prog Z (Instr.loadAt 32 t15_11) w fun t16_12 w =>
          run1 Tryd.prog Z (Instr.indexAt 32 t16_12 t3_6) w fun t18_13 w =>
          run1 Tryd.prog Z (Instr.loadAt 34 t18_13) w fun t19_14 w =>
          run1 Tryd.prog Z (Instr.alloc 34 true (.tuple #[])) w fun t4_15 w =>
          run0 Tryd.prog Z (Instr.storeAt 34 t4_15 t19_14) w fun w =>
          run1 Tryd.prog Z (Instr.fieldAt 34 t4_15 0) w fun t20_16 w =>
          run1 Tryd.prog Z (Instr.loadAt 27 t20_16) w fun t21_17 w =>
          run1 Tryd.prog Z (binOp BinOp.lss 27 t21_17 (Value.int IntKind.i8 1)) w fun t22_18 w =>
          guardW (t22_18) false (fun k => run1 Tryd.prog Z (Instr.fieldAt 34 t4_15 0) w k) (fun t24_19 w =>
          guardW (t22_18) false (fun k => run1 Tryd.prog Z (Instr.loadAt 27 t24_19) w k) (fun t25_20 w =>
          guardW (t22_18) false (fun k => run1 Tryd.prog Z (binOp BinOp.gtr 27 t25_20 (Value.int IntKind.i8 5)) w k) (fun t26_21 w =>
          run1 Tryd.prog Z (pickV t22_18 (Value.bool true) t26_21) w fun t27_22 w =>
          guardW (t27_22) false (fun k => run1 Tryd.prog Z (Instr.fieldAt 34 t4_15 7) w k) (fun t29_23 w =>
          guardW (t27_22) false (fun k => run1 Tryd.prog Z (Instr.loadAt 2 t29_23) w k) (fun t30_24 w =>
          guardW (t27_22) false (fun k => run1 Tryd.prog Z (eqOp BinOp.neq 2 false true t30_24 (Value.int IntKind.i64 0)) w k) (fun t31_25 w =>
          run1 Tryd.prog Z (pickV t27_22 (Value.bool true) t31_25) w fun t32_26 w =>
          guardW (t32_26) false (fun k => run1 Tryd.prog Z (Instr.fieldAt 34 t4_15 9) w k) (fun t34_27 w =>
          guardW (t32_26) false (fun k => run1 Tryd.prog Z (Instr.loadAt 31 t34_27) w k) (fun t35_28 w =>
          guardW (t32_26) false (fun k => run1 Tryd.prog Z (Builtin.len_ #[31] 3 #[t35_28]) w k) (fun t36_29 w =>
          guardW (t32_26) false (fun k => run1 Tryd.prog Z (eqOp BinOp.neq 3 false true t36_29 (Value.int IntKind.i64 0)) w k) (fun t37_30 w =>
          run1 Tryd.prog Z (pickV t32_26 (Value.bool true) t37_30) w fun t38_31 w =>
          guardW (t38_31) false (fun k => run1 Tryd.prog Z (Instr.loadAt 34 t4_15) w k) (fun t40_32 w =>
          guardW (t38_31) false (fun k => CallV Tryd.prog Z 65 #[t40_32] w k) (fun t41_33 w =>
          guardW (t38_31) false (fun k => run1 Tryd.prog Z (Op.unary UnOp.not t41_33) w k) (fun t42_34 w =>
          run1 Tryd.prog Z (pickV t38_31 (Value.bool true) t42_34) w fun t43_35 w =>
          CondV t43_35 (
            Q (Value.int IntKind.i64 40) w) (
            run1 Tryd.prog Z (binOp BinOp.add 3 t3_6 (Value.int IntKind.i64 1)) w fun t14_36 w =>
            ∃ n_5, n_5 < m_5 ∧ J_5 n_5 t14_36 w)) w) w) w) w) w) w) w) w) w) w) w) w) w) (
          Q (Value.int IntKind.i64 0) w))
noncomputable def f35.code : Code := match Tryd.f35.body with | some c => c | none => .skip
def f35.an : An := (.sq .leaf (.sq (.sq .leaf (.cn (.sq .leaf .leaf) .leaf)) (.sq (.sq .leaf (.bl (.lp [3] [2, 3, 4, 8, 9, 10, 11, 12, 13, 14, 15, 16, 17, 18, 19, 20, 21, 22, 23, 24, 25, 26, 27, 28, 29, 30, 31, 32, 33, 34, 35, 36, 37, 38, 39, 40, 41, 42, 43] (.sq (.sq .leaf (.cn .leaf .leaf)) (.sq (.bl (.sq .leaf (.sq .leaf (.cn (.sq .leaf .leaf) .leaf)))) .leaf))))) (.sq .leaf .leaf))))
theorem f35.body_eq : Tryd.f35.body = some f35.code := by kernel_rfl
theorem f35.shape (Z : List PanicEntry → World → Prop) (x0 : Value) (w : World) (Q : Value → World → Prop) : vc drawD Tryd.prog 44 Z [65] f35.an f35.code (fnQ Tryd.prog 44 Tryd.f35.results Q) (argEnv [x0]) w = f35.sh Z x0 w Q := by kernel_rfl
theorem f35.enters : ∀ f, f ∈ ([65] : List Nat) → Enters Tryd.prog f := by
  intro f hf
  simp only [List.mem_cons, List.not_mem_nil, or_false] at hf
  rcases hf with rfl
  · exact en65
theorem f35.calls {Z : List PanicEntry → World → Prop} {x0 : Value} {w : World} {Q : Value → World → Prop} (h : f35.sh Z x0 w Q) : CallV Tryd.prog Z 35 #[x0] w Q :=
  calls_of_vcn drawD_sound (Q := Q) (n := 44) (rs := Tryd.f35.results) (an := f35.an) (c := f35.code) (cal := [65]) (args := [x0]) Tryd.func35 (by kernel_rfl) rfl f35.body_eq follows (Nat.le_of_ble_eq_true (by kernel_rfl)) (enters_of_all f35.enters) ((f35.shape Z x0 w Q).mpr h)

/-! ### 36: lagoon/lagoonref00.WideTxns -/
def f36.sh (Z : List PanicEntry → World → Prop) (x0 : Value) (w : World) (Q : Value → World → Prop) : Prop :=
  run1 Tryd.prog Z (Builtin.len_ #[56] 3 #[x0]) w fun t6_1 w =>
  run1 Tryd.prog Z (binOp BinOp.add 3 t6_1 (Value.int IntKind.i64 64)) w fun t7_2 w =>
  run1 Tryd.prog Z (Instr.makeSlice 56 t7_2 t7_2) w fun t8_3 w =>
  ∃ J_4 : Nat → Value → World → Prop, (∃ m, J_4 m (Value.int IntKind.i64 0) w) ∧
    ∀ m_4, ∀ t4_5 : Value, ∀ w : World, J_4 m_4 t4_5 w → Env →
      run1 Tryd.prog Z (Builtin.len_ #[56] 3 #[t8_3]) w fun t11_6 w =>
      run1 Tryd.prog Z (binOp BinOp.lss 3 t4_5 t11_6) w fun t12_7 w =>
      CondV t12_7 (
        ∀ j_8 : World → Prop, (∀ w : World, (Env →
            run1 Tryd.prog Z (binOp BinOp.add 3 t4_5 (Value.int IntKind.i64 1)) w fun t14_9 w =>
            ∃ n_4, n_4 < m_4 ∧ J_4 n_4 t14_9 w) →
            j_8 w) →
        run1 Tryd.prog Z (Builtin.len_ #[56] 3 #[x0]) w fun t17_10 w =>
        run1 Tryd.prog Z (binOp BinOp.lss 3 t4_5 t17_10) w fun t18_11 w =>
        CondV t18_11 (
          run1 Tryd.prog Z (Instr.indexAt 56 x0 t4_5) w fun t23_12 w =>
          run1 Tryd.prog Z (Instr.loadAt 36 t23_12) w fun t24_13 w =>
          CallV Tryd.prog Z 31 #[t24_13] w fun t25_14 w =>
          run1 Tryd.prog Z (Instr.indexAt 56 t8_3 t4_5) w fun t26_15 w =>
          run0 Tryd.prog Z (Instr.storeAt 36 t26_15 t25_14) w fun w =>
          j_8 w) (
          run1 Tryd.prog Z (binOp BinOp.sub 3 (Value.int IntKind.i64 (-3000000)) t4_5) w fun t30_16 w =>
          run1 Tryd.prog Z (Instr.build 29 #[(2, t30_16)]) w fun t31_17 w =>
          run1 Tryd.prog Z (Instr.build 36 #[(1, t31_17)]) w fun t32_18 w =>
          run1 Tryd.prog Z (Instr.indexAt 56 t8_3 t4_5) w fun t33_19 w =>
          run0 Tryd.prog Z (Instr.storeAt 36 t33_19 t32_18) w fun w =>
          j_8 w)) (
        run1 Tryd.prog Z (Builtin.len_ #[56] 3 #[x0]) w fun t36_20 w =>
        run1 Tryd.prog Z (Instr.sliceAt 56 t8_3 none (some t36_20) none) w fun t37_21 w =>
        Q t37_21 w)
noncomputable def f36.code : Code := match Tryd.f36.body with | some c => c | none => .skip
def f36.an : An := (.sq .leaf (.sq .leaf (.sq (.sq .leaf (.bl (.lp [4] [4, 9, 10, 11, 12, 13, 14, 15, 16, 17, 18, 19, 20, 21, 22, 23, 24, 25, 26, 27, 28, 29, 30, 31, 32, 33] (.sq (.sq .leaf (.cn .leaf .leaf)) (.sj [] [15, 16, 17, 18, 19, 20, 21, 22, 23, 24, 25, 26, 27, 28, 29, 30, 31, 32, 33] (.bl (.sq .leaf (.cn .leaf .leaf))) .leaf))))) (.sq .leaf .leaf))))
theorem f36.body_eq : Tryd.f36.body = some f36.code := by kernel_rfl
theorem f36.shape (Z : List PanicEntry → World → Prop) (x0 : Value) (w : World) (Q : Value → World → Prop) : vc drawD Tryd.prog 38 Z [31] f36.an f36.code (fnQ Tryd.prog 38 Tryd.f36.results Q) (argEnv [x0]) w = f36.sh Z x0 w Q := by kernel_rfl
theorem f36.enters : ∀ f, f ∈ ([31] : List Nat) → Enters Tryd.prog f := by
  intro f hf
  simp only [List.mem_cons, List.not_mem_nil, or_false] at hf
  rcases hf with rfl
  · exact en31
theorem f36.calls {Z : List PanicEntry → World → Prop} {x0 : Value} {w : World} {Q : Value → World → Prop} (h : f36.sh Z x0 w Q) : CallV Tryd.prog Z 36 #[x0] w Q :=
  calls_of_vcn drawD_sound (Q := Q) (n := 38) (rs := Tryd.f36.results) (an := f36.an) (c := f36.code) (cal := [31]) (args := [x0]) Tryd.func36 (by kernel_rfl) rfl f36.body_eq follows (Nat.le_of_ble_eq_true (by kernel_rfl)) (enters_of_all f36.enters) ((f36.shape Z x0 w Q).mpr h)

/-! ### 37: lagoon/lagoonref00.EqTxns -/
def f37.sh (Z : List PanicEntry → World → Prop) (x0 x1 : Value) (w : World) (Q : Value → World → Prop) : Prop :=
  run1 Tryd.prog Z (Builtin.len_ #[56] 3 #[x0]) w fun t7_1 w =>
  run1 Tryd.prog Z (Builtin.len_ #[56] 3 #[x1]) w fun t9_2 w =>
  run1 Tryd.prog Z (eqOp BinOp.neq 3 false false t7_1 t9_2) w fun t10_3 w =>
  CondV t10_3 (
    Q (Value.bool false) w) (
    ∃ J_4 : Nat → Value → World → Prop, (∃ m, J_4 m (Value.int IntKind.i64 0) w) ∧
      ∀ m_4, ∀ t5_5 : Value, ∀ w : World, J_4 m_4 t5_5 w → Env →
        run1 Tryd.prog Z (Builtin.len_ #[56] 3 #[x0]) w fun t13_6 w =>
        run1 Tryd.prog Z (binOp BinOp.lss 3 t5_5 t13_6) w fun t14_7 w =>
        CondV t14_7 (
          Drawn w fun w =>
          Pure1 Tryd.prog (Instr.indexAt 56 x0 t5_5) fun t19_8 =>
          Read1 Tryd.prog (Instr.loadAt 36 t19_8) w fun t20_9 =>
          Pure1 Tryd.prog (Instr.indexAt 56 x1 t5_5) fun t23_10 =>
          Read1 Tryd.prog (Instr.loadAt 36 t23_10) w fun t24_11 =>
          CallV Tryd.prog Z 19 #[t20_9, t24_11] w fun t25_12 w =>
          Pure1 Tryd.prog (Op.unary UnOp.not t25_12) fun t26_13 =>
          CondV t26_13 (
            Q (Value.bool false) w) (
            run1 Tryd.prog Z (binOp BinOp.add 3 t5_5 (Value.int IntKind.i64 1)) w fun t16_14 w =>
            ∃ n_4, n_4 < m_4 ∧ J_4 n_4 t16_14 w)) (
          Q (Value.bool true) w))
noncomputable def f37.code : Code := match Tryd.f37.body with | some c => c | none => .skip
def f37.an : An := (.sq .leaf (.sq (.sq .leaf (.cn (.sq .leaf .leaf) .leaf)) (.sq (.sq .leaf (.bl (.lp [5] [4, 5, 11, 12, 13, 14, 15, 16, 17, 18, 19, 20, 21, 22, 23, 24, 25, 26] (.sq (.sq .leaf (.cn .leaf .leaf)) (.sq (.bl (.sq (.dr (.take 0 false (.take 1 false (.take 2 false (.take 3 true (.take 4 false (.take 5 false (.take 6 false (.take 7 true (.one 8 (.take 9 false .fin))))))))))) (.cn (.sq .leaf .leaf) .leaf))) .leaf))))) (.sq .leaf .leaf))))
theorem f37.body_eq : Tryd.f37.body = some f37.code := by kernel_rfl
theorem f37.shape (Z : List PanicEntry → World → Prop) (x0 x1 : Value) (w : World) (Q : Value → World → Prop) : vc drawD Tryd.prog 27 Z [19] f37.an f37.code (fnQ Tryd.prog 27 Tryd.f37.results Q) (argEnv [x0, x1]) w = f37.sh Z x0 x1 w Q := by kernel_rfl
theorem f37.enters : ∀ f, f ∈ ([19] : List Nat) → Enters Tryd.prog f := by
  intro f hf
  simp only [List.mem_cons, List.not_mem_nil, or_false] at hf
  rcases hf with rfl
  · exact en19
theorem f37.calls {Z : List PanicEntry → World → Prop} {x0 x1 : Value} {w : World} {Q : Value → World → Prop} (h : f37.sh Z x0 x1 w Q) : CallV Tryd.prog Z 37 #[x0, x1] w Q :=
  calls_of_vcn drawD_sound (Q := Q) (n := 27) (rs := Tryd.f37.results) (an := f37.an) (c := f37.code) (cal := [19]) (args := [x0, x1]) Tryd.func37 (by kernel_rfl) rfl f37.body_eq follows (Nat.le_of_ble_eq_true (by kernel_rfl)) (enters_of_all f37.enters) ((f37.shape Z x0 x1 w Q).mpr h)

/-! ### 38: lagoon/lagoonref00.SpareTxns -/
def f38.sh (Z : List PanicEntry → World → Prop) (x0 : Value) (w : World) (Q : Value → World → Prop) : Prop :=
  run1 Tryd.prog Z (Builtin.len_ #[56] 3 #[x0]) w fun t9_1 w =>
  run1 Tryd.prog Z (binOp BinOp.add 3 t9_1 (Value.int IntKind.i64 64)) w fun t10_2 w =>
  run1 Tryd.prog Z (Instr.sliceAt 56 x0 none (some t10_2) none) w fun t11_3 w =>
  run1 Tryd.prog Z (Builtin.len_ #[56] 3 #[x0]) w fun t13_4 w =>
  ∃ J_5 : Nat → Value → World → Prop, (∃ m, J_5 m t13_4 w) ∧
    ∀ m_5, ∀ t4_6 : Value, ∀ w : World, J_5 m_5 t4_6 w → Env →
      run1 Tryd.prog Z (Builtin.len_ #[56] 3 #[t11_3]) w fun t16_7 w =>
      run1 Tryd.prog Z (binOp BinOp.lss 3 t4_6 t16_7) w fun t17_8 w =>
      CondV t17_8 (
        run1 Tryd.prog Z (Instr.indexAt 56 t11_3 t4_6) w fun t22_9 w =>
        run1 Tryd.prog Z (Instr.fieldAt 36 t22_9 1) w fun t23_10 w =>
        run1 Tryd.prog Z (Instr.fieldAt 29 t23_10 2) w fun t24_11 w =>
        run1 Tryd.prog Z (Instr.loadAt 2 t24_11) w fun t25_12 w =>
        run1 Tryd.prog Z (binOp BinOp.sub 3 (Value.int IntKind.i64 (-3000000)) t4_6) w fun t27_13 w =>
        run1 Tryd.prog Z (eqOp BinOp.eql 2 false false t25_12 t27_13) w fun t28_14 w =>
        run1 Tryd.prog Z (Op.unary UnOp.not t28_14) w fun t29_15 w =>
        CondV t29_15 (
          Q (Value.bool false) w) (
          run1 Tryd.prog Z (binOp BinOp.add 3 t4_6 (Value.int IntKind.i64 1)) w fun t19_16 w =>
          ∃ n_5, n_5 < m_5 ∧ J_5 n_5 t19_16 w)) (
        ∃ J_17 : Nat → Value → World → Prop, (∃ m, J_17 m (Value.int IntKind.i64 0) w) ∧
          ∀ m_17, ∀ t5_18 : Value, ∀ w : World, J_17 m_17 t5_18 w → Env →
            run1 Tryd.prog Z (Builtin.len_ #[56] 3 #[x0]) w fun t32_19 w =>
            run1 Tryd.prog Z (binOp BinOp.lss 3 t5_18 t32_19) w fun t33_20 w =>
            CondV t33_20 (
              run1 Tryd.prog Z (Instr.indexAt 56 x0 t5_18) w fun t38_21 w =>
              run1 Tryd.prog Z (Instr.fieldAt 36 t38_21 2) w fun t39_22 w =>
              run1 Tryd.prog Z (Instr.loadAt 34 t39_22) w fun t40_23 w =>
              CallV Tryd.prog Z 33 #[t40_23] w fun t41_24 w =>
              run1 Tryd.prog Z (Op.unary UnOp.not t41_24) w fun t43_25 w =>
              CondV t43_25 (
                Q (Value.bool false) w) (
                run1 Tryd.prog Z (binOp BinOp.add 3 t5_18 (Value.int IntKind.i64 1)) w fun t35_26 w =>
                ∃ n_17, n_17 < m_17 ∧ J_17 n_17 t35_26 w)) (
              Q (Value.bool true) w))
noncomputable def f38.code : Code := match Tryd.f38.body with | some c => c | none => .skip
def f38.an : An := (.sq .leaf (.sq .leaf (.sq (.sq .leaf (.bl (.lp [4] [2, 4, 14, 15, 16, 17, 18, 19, 20, 21, 22, 23, 24, 25, 26, 27, 28, 29] (.sq (.sq .leaf (.cn .leaf .leaf)) (.sq (.bl (.sq .leaf (.cn (.sq .leaf .leaf) .leaf))) .leaf))))) (.sq (.sq .leaf (.bl (.lp [5] [2, 5, 6, 30, 31, 32, 33, 34, 35, 36, 37, 38, 39, 40, 41, 42, 43] (.sq (.sq .leaf (.cn .leaf .leaf)) (.sq (.bl (.sq .leaf (.sq .leaf (.cn (.sq .leaf .leaf) .leaf)))) .leaf))))) (.sq .leaf .leaf)))))
theorem f38.body_eq : Tryd.f38.body = some f38.code := by kernel_rfl
theorem f38.shape (Z : List PanicEntry → World → Prop) (x0 : Value) (w : World) (Q : Value → World → Prop) : vc drawD Tryd.prog 44 Z [33] f38.an f38.code (fnQ Tryd.prog 44 Tryd.f38.results Q) (argEnv [x0]) w = f38.sh Z x0 w Q := by kernel_rfl
theorem f38.enters : ∀ f, f ∈ ([33] : List Nat) → Enters Tryd.prog f := by
  intro f hf
  simp only [List.mem_cons, List.not_mem_nil, or_false] at hf
  rcases hf with rfl
  · exact en33
theorem f38.calls {Z : List PanicEntry → World → Prop} {x0 : Value} {w : World} {Q : Value → World → Prop} (h : f38.sh Z x0 w Q) : CallV Tryd.prog Z 38 #[x0] w Q :=
  calls_of_vcn drawD_sound (Q := Q) (n := 44) (rs := Tryd.f38.results) (an := f38.an) (c := f38.code) (cal := [33]) (args := [x0]) Tryd.func38 (by kernel_rfl) rfl f38.body_eq follows (Nat.le_of_ble_eq_true (by kernel_rfl)) (enters_of_all f38.enters) ((f38.shape Z x0 w Q).mpr h)

/-! ### 39: lagoon/lagoonref04.Rises -/
def f39.sh (Z : List PanicEntry → World → Prop) (x0 x1 : Value) (w : World) (Q : Value → World → Prop) : Prop :=
  run1 Tryd.prog Z (Instr.box 26 x0) w fun t2_1 w =>
  ∃ J_2 : Nat → Value → World → Prop, (∃ m, J_2 m (Value.int IntKind.i64 0) w) ∧
    ∀ m_2, ∀ t5_3 : Value, ∀ w : World, J_2 m_2 t5_3 w → Env →
      run1 Tryd.prog Z (Builtin.len_ #[56] 3 #[x1]) w fun t9_4 w =>
      run1 Tryd.prog Z (binOp BinOp.lss 3 t5_3 t9_4) w fun t10_5 w =>
      CondV t10_5 (
        ∀ j_6 : World → Prop, (∀ w : World, (Env →
            run1 Tryd.prog Z (binOp BinOp.add 3 t5_3 (Value.int IntKind.i64 1)) w fun t12_7 w =>
            ∃ n_2, n_2 < m_2 ∧ J_2 n_2 t12_7 w) →
            j_6 w) →
        run1 Tryd.prog Z (Instr.loadAt 26 t2_1) w fun t13_8 w =>
        run1 Tryd.prog Z (Instr.alloc 26 true (.tuple #[])) w fun t6_9 w =>
        run0 Tryd.prog Z (Instr.storeAt 26 t6_9 t13_8) w fun w =>
        ∀ j_10 : World → Prop, (∀ w : World, (Env →
            Drawn w fun w =>
            Read1 Tryd.prog (Instr.loadAt 26 t6_9) w fun t22_11 =>
            Pure1 Tryd.prog (Instr.indexAt 56 x1 t5_3) fun t25_12 =>
            Pure1 Tryd.prog (Instr.fieldAt 36 t25_12 0) fun t26_13 =>
            Read1 Tryd.prog (Instr.loadAt 26 t26_13) w fun t27_14 =>
            CallV Tryd.prog Z 30 #[t22_11, t27_14] w fun t28_15 w =>
            Pure1 Tryd.prog (eqOp BinOp.neq 3 false true t28_15 (Value.int IntKind.i64 (-1))) fun t29_16 =>
            CondV t29_16 (
              Q (Value.bool false) w) (
              j_6 w)) →
            j_10 w) →
        run1 Tryd.prog Z (binOp BinOp.gtr 3 t5_3 (Value.int IntKind.i64 0)) w fun t15_17 w =>
        CondV t15_17 (
          run1 Tryd.prog Z (binOp BinOp.sub 3 t5_3 (Value.int IntKind.i64 1)) w fun t18_18 w =>
          run1 Tryd.prog Z (Instr.indexAt 56 x1 t18_18) w fun t19_19 w =>
          run1 Tryd.prog Z (Instr.fieldAt 36 t19_19 0) w fun t20_20 w =>
          run1 Tryd.prog Z (Instr.loadAt 26 t20_20) w fun t21_21 w =>
          run0 Tryd.prog Z (Instr.storeAt 26 t6_9 t21_21) w fun w =>
          j_10 w) (
          j_10 w)) (
        Q (Value.bool true) w)
noncomputable def f39.code : Code := match Tryd.f39.body with | some c => c | none => .skip
def f39.an : An := (.sq .leaf (.sq (.sq .leaf (.bl (.lp [5] [4, 5, 6, 7, 8, 9, 10, 11, 12, 13, 14, 15, 16, 17, 18, 19, 20, 21, 22, 23, 24, 25, 26, 27, 28, 29] (.sq (.sq .leaf (.cn .leaf .leaf)) (.sj [] [4, 6, 13, 14, 15, 16, 17, 18, 19, 20, 21, 22, 23, 24, 25, 26, 27, 28, 29] (.bl (.sq .leaf (.sj [] [14, 15, 16, 17, 18, 19, 20, 21] (.sq .leaf (.cn .leaf .leaf)) (.sq (.dr (.take 0 true (.take 1 false (.take 2 false (.take 3 false (.take 4 false (.take 5 true (.one 6 (.take 7 false .fin))))))))) (.cn (.sq .leaf .leaf) .leaf))))) .leaf))))) (.sq .leaf .leaf)))
theorem f39.body_eq : Tryd.f39.body = some f39.code := by kernel_rfl
theorem f39.shape (Z : List PanicEntry → World → Prop) (x0 x1 : Value) (w : World) (Q : Value → World → Prop) : vc drawD Tryd.prog 30 Z [30] f39.an f39.code (fnQ Tryd.prog 30 Tryd.f39.results Q) (argEnv [x0, x1]) w = f39.sh Z x0 x1 w Q := by kernel_rfl
theorem f39.enters : ∀ f, f ∈ ([30] : List Nat) → Enters Tryd.prog f := by
  intro f hf
  simp only [List.mem_cons, List.not_mem_nil, or_false] at hf
  rcases hf with rfl
  · exact en30
theorem f39.calls {Z : List PanicEntry → World → Prop} {x0 x1 : Value} {w : World} {Q : Value → World → Prop} (h : f39.sh Z x0 x1 w Q) : CallV Tryd.prog Z 39 #[x0, x1] w Q :=
  calls_of_vcn drawD_sound (Q := Q) (n := 30) (rs := Tryd.f39.results) (an := f39.an) (c := f39.code) (cal := [30]) (args := [x0, x1]) Tryd.func39 (by kernel_rfl) rfl f39.body_eq follows (Nat.le_of_ble_eq_true (by kernel_rfl)) (enters_of_all f39.enters) ((f39.shape Z x0 x1 w Q).mpr h)

/-! ### 40: lagoon/pack.New -/
def f40.sh (Z : List PanicEntry → World → Prop) (x0 : Value) (w : World) (Q : Value → World → Prop) : Prop :=
  run1 Tryd.prog Z (Builtin.append_ #[22, 22] 22 #[(Value.slice none 0 0), x0]) w fun t4_1 w =>
  run1 Tryd.prog Z (Instr.build 94 #[(0, (Value.bool true)), (1, t4_1)]) w fun t5_2 w =>
  run1 Tryd.prog Z (Instr.box 94 t5_2) w fun t6_3 w =>
  Q t6_3 w
noncomputable def f40.code : Code := match Tryd.f40.body with | some c => c | none => .skip
def f40.an : An := (.sq .leaf (.sq .leaf .leaf))
theorem f40.body_eq : Tryd.f40.body = some f40.code := by kernel_rfl
theorem f40.shape (Z : List PanicEntry → World → Prop) (x0 : Value) (w : World) (Q : Value → World → Prop) : vc drawD Tryd.prog 7 Z [] f40.an f40.code (fnQ Tryd.prog 7 Tryd.f40.results Q) (argEnv [x0]) w = f40.sh Z x0 w Q := by kernel_rfl
theorem f40.enters : ∀ f, f ∈ ([] : List Nat) → Enters Tryd.prog f := by
  intro f hf
  cases hf
theorem f40.calls {Z : List PanicEntry → World → Prop} {x0 : Value} {w : World} {Q : Value → World → Prop} (h : f40.sh Z x0 w Q) : CallV Tryd.prog Z 40 #[x0] w Q :=
  calls_of_vcn drawD_sound (Q := Q) (n := 7) (rs := Tryd.f40.results) (an := f40.an) (c := f40.code) (cal := []) (args := [x0]) Tryd.func40 (by kernel_rfl) rfl f40.body_eq follows (Nat.le_of_ble_eq_true (by kernel_rfl)) (enters_of_all f40.enters) ((f40.shape Z x0 w Q).mpr h)

/-! ### 41: (*lagoon/pack.Reader).Uint32 -/
def f41.sh (Z : List PanicEntry → World → Prop) (x0 : Value) (w : World) (Q : Value → World → Prop) : Prop :=
  CallV Tryd.prog Z 66 #[x0, (Value.int IntKind.i64 4)] w fun t4_1 w =>
  run1 Tryd.prog Z (convert 95 24 t4_1) w fun t5_2 w =>
  Q t5_2 w
noncomputable def f41.code : Code := match Tryd.f41.body with | some c => c | none => .skip
def f41.an : An := (.sq .leaf (.sq .leaf .leaf))
theorem f41.body_eq : Tryd.f41.body = some f41.code := by kernel_rfl
theorem f41.shape (Z : List PanicEntry → World → Prop) (x0 : Value) (w : World) (Q : Value → World → Prop) : vc drawD Tryd.prog 6 Z [66] f41.an f41.code (fnQ Tryd.prog 6 Tryd.f41.results Q) (argEnv [x0]) w = f41.sh Z x0 w Q := by kernel_rfl
theorem f41.enters : ∀ f, f ∈ ([66] : List Nat) → Enters Tryd.prog f := by
  intro f hf
  simp only [List.mem_cons, List.not_mem_nil, or_false] at hf
  rcases hf with rfl
  · exact en66
theorem f41.calls {Z : List PanicEntry → World → Prop} {x0 : Value} {w : World} {Q : Value → World → Prop} (h : f41.sh Z x0 w Q) : CallV Tryd.prog Z 41 #[x0] w Q :=
  calls_of_vcn drawD_sound (Q := Q) (n := 6) (rs := Tryd.f41.results) (an := f41.an) (c := f41.code) (cal := [66]) (args := [x0]) Tryd.func41 (by kernel_rfl) rfl f41.body_eq follows (Nat.le_of_ble_eq_true (by kernel_rfl)) (enters_of_all f41.enters) ((f41.shape Z x0 w Q).mpr h)

/-! ### 42: (*lagoon/pack.Reader).Int8 -/
def f42.sh (Z : List PanicEntry → World → Prop) (x0 : Value) (w : World) (Q : Value → World → Prop) : Prop :=
  CallV Tryd.prog Z 66 #[x0, (Value.int IntKind.i64 1)] w fun t4_1 w =>
  run1 Tryd.prog Z (convert 95 27 t4_1) w fun t5_2 w =>
  Q t5_2 w
noncomputable def f42.code : Code := match Tryd.f42.body with | some c => c | none => .skip
def f42.an : An := (.sq .leaf (.sq .leaf .leaf))
theorem f42.body_eq : Tryd.f42.body = some f42.code := by kernel_rfl
theorem f42.shape (Z : List PanicEntry → World → Prop) (x0 : Value) (w : World) (Q : Value → World → Prop) : vc drawD Tryd.prog 6 Z [66] f42.an f42.code (fnQ Tryd.prog 6 Tryd.f42.results Q) (argEnv [x0]) w = f42.sh Z x0 w Q := by kernel_rfl
theorem f42.enters : ∀ f, f ∈ ([66] : List Nat) → Enters Tryd.prog f := by
  intro f hf
  simp only [List.mem_cons, List.not_mem_nil, or_false] at hf
  rcases hf with rfl
  · exact en66
theorem f42.calls {Z : List PanicEntry → World → Prop} {x0 : Value} {w : World} {Q : Value → World → Prop} (h : f42.sh Z x0 w Q) : CallV Tryd.prog Z 42 #[x0] w Q :=
  calls_of_vcn drawD_sound (Q := Q) (n := 6) (rs := Tryd.f42.results) (an := f42.an) (c := f42.code) (cal := [66]) (args := [x0]) Tryd.func42 (by kernel_rfl) rfl f42.body_eq follows (Nat.le_of_ble_eq_true (by kernel_rfl)) (enters_of_all f42.enters) ((f42.shape Z x0 w Q).mpr h)

/-! ### 43: (*lagoon/pack.Reader).Int64 -/
def f43.sh (Z : List PanicEntry → World → Prop) (x0 : Value) (w : World) (Q : Value → World → Prop) : Prop :=
  CallV Tryd.prog Z 66 #[x0, (Value.int IntKind.i64 8)] w fun t4_1 w =>
  run1 Tryd.prog Z (convert 95 2 t4_1) w fun t5_2 w =>
  Q t5_2 w
noncomputable def f43.code : Code := match Tryd.f43.body with | some c => c | none => .skip
def f43.an : An := (.sq .leaf (.sq .leaf .leaf))
theorem f43.body_eq : Tryd.f43.body = some f43.code := by kernel_rfl
theorem f43.shape (Z : List PanicEntry → World → Prop) (x0 : Value) (w : World) (Q : Value → World → Prop) : vc drawD Tryd.prog 6 Z [66] f43.an f43.code (fnQ Tryd.prog 6 Tryd.f43.results Q) (argEnv [x0]) w = f43.sh Z x0 w Q := by kernel_rfl
theorem f43.enters : ∀ f, f ∈ ([66] : List Nat) → Enters Tryd.prog f := by
  intro f hf
  simp only [List.mem_cons, List.not_mem_nil, or_false] at hf
  rcases hf with rfl
  · exact en66
theorem f43.calls {Z : List PanicEntry → World → Prop} {x0 : Value} {w : World} {Q : Value → World → Prop} (h : f43.sh Z x0 w Q) : CallV Tryd.prog Z 43 #[x0] w Q :=
  calls_of_vcn drawD_sound (Q := Q) (n := 6) (rs := Tryd.f43.results) (an := f43.an) (c := f43.code) (cal := [66]) (args := [x0]) Tryd.func43 (by kernel_rfl) rfl f43.body_eq follows (Nat.le_of_ble_eq_true (by kernel_rfl)) (enters_of_all f43.enters) ((f43.shape Z x0 w Q).mpr h)

/-! ### 44: (lagoon/txn.layer).get -/
def f44.sh (Z : List PanicEntry → World → Prop) (x0 x1 : Value) (w : World) (Q : Value → World → Prop) : Prop :=
  run1 Tryd.prog Z (Instr.box 71 x0) w fun t2_1 w =>
  run1 Tryd.prog Z (Instr.alloc 34 true (.tuple #[])) w fun t4_2 w =>
  CallV Tryd.prog Z 42 #[x1] w fun t8_3 w =>
  run1 Tryd.prog Z (Instr.build 34 #[(0, t8_3)]) w fun t9_4 w =>
  run1 Tryd.prog Z (Instr.alloc 34 true (.tuple #[])) w fun t5_5 w =>
  run0 Tryd.prog Z (Instr.storeAt 34 t5_5 t9_4) w fun w =>
  run1 Tryd.prog Z (Instr.fieldAt 34 t5_5 0) w fun t10_6 w =>
  run1 Tryd.prog Z (Instr.loadAt 27 t10_6) w fun t11_7 w =>
  CallV Tryd.prog Z 58 #[t11_7] w fun t12_8 w =>
  run1 Tryd.prog Z (Op.unary UnOp.not t12_8) w fun t13_9 w =>
  guardW (t13_9) false (fun k => run1 Tryd.prog Z (Instr.fieldAt 71 t2_1 0) w k) (fun t15_10 w =>
  guardW (t13_9) false (fun k => run1 Tryd.prog Z (Instr.loadAt 4 t15_10) w k) (fun t16_11 w =>
  guardW (t13_9) false (fun k => k (t16_11) w) (fun t17_12 w =>
  guardW (t17_12) true (fun k => run1 Tryd.prog Z (Instr.fieldAt 34 t5_5 0) w k) (fun t18_13 w =>
  guardW (t17_12) true (fun k => run1 Tryd.prog Z (Instr.loadAt 27 t18_13) w k) (fun t19_14 w =>
  guardW (t17_12) true (fun k => run1 Tryd.prog Z (binOp BinOp.gtr 27 t19_14 (Value.int IntKind.i8 5)) w k) (fun t20_15 w =>
  guardW (t13_9) false (fun k => run1 Tryd.prog Z (pickV t17_12 t20_15 (Value.bool false)) w k) (fun t21_16 w =>
  run1 Tryd.prog Z (pickV t13_9 (Value.bool true) t21_16) w fun t22_17 w =>
  CondV t22_17 (
    CallV Tryd.prog Z 67 #[x1, (Value.int IntKind.i64 40)] w fun t24_18 w =>
    run1 Tryd.prog Z (Instr.build 34 #[]) w fun t25_19 w =>
    run0 Tryd.prog Z (Instr.storeAt 34 t4_2 t25_19) w fun w =>
    ∃ r_20, (do loadVar 34 (← asAddr t4_2) : Sem Value).run Tryd.prog w = .ok r_20 w ∧
    Q r_20 w) (
    run1 Tryd.prog Z (Instr.loadAt 71 t2_1) w fun t26_21 w =>
    run1 Tryd.prog Z (Instr.fieldAt 34 t5_5 0) w fun t27_22 w =>
    run1 Tryd.prog Z (Instr.loadAt 27 t27_22) w fun t28_23 w =>
    CallV Tryd.prog Z 68 #[t26_21, t28_23] w fun t29_24 w =>
    ∀ j_25 : World → Prop, (∀ w : World, (Env →
        ∀ j_26 : World → Prop, (∀ w : World, (Env →
            ∀ j_27 : World → Prop, (∀ w : World, (Env →
                ∀ j_28 : World → Prop, (∀ w : World, (Env →
                    ∀ j_29 : World → Prop, (∀ w : World, (Env →
                        ∀ j_30 : World → Prop, (∀ w : World, (Env →
                            ∀ j_31 : World → Prop, (∀ w : World, (Env →
                                ∀ j_32 : World → Prop, (∀ w : World, (Env →
                                    ∀ j_33 : World → Prop, (∀ w : World, (Env →
                                        run1 Tryd.prog Z (Instr.loadAt 34 t5_5) w fun t89_34 w =>
                                        run0 Tryd.prog Z (Instr.storeAt 34 t4_2 t89_34) w fun w =>
                                        ∃ r_35, (do loadVar 34 (← asAddr t4_2) : Sem Value).run Tryd.prog w = .ok r_35 w ∧
                                        Q r_35 w) →
                                        j_33 w) →
                                    run1 Tryd.prog Z (binOp BinOp.and 85 t29_24 (Value.int IntKind.u64 256)) w fun t82_36 w =>
                                    run1 Tryd.prog Z (eqOp BinOp.neq 85 false true t82_36 (Value.int IntKind.u64 0)) w fun t83_37 w =>
                                    CondV t83_37 (
                                      run1 Tryd.prog Z (Instr.build 71 #[(0, (Value.bool true))]) w fun t85_38 w =>
                                      run1 Tryd.prog Z (Instr.makeFunc (Fn.func 44) #[t85_38] #[]) w fun t86_39 w =>
                                      CallV Tryd.prog Z 77 #[x1, (Value.int IntKind.i64 8), t86_39] w fun t87_40 w =>
                                      run1 Tryd.prog Z (Instr.fieldAt 34 t5_5 10) w fun t88_41 w =>
                                      run0 Tryd.prog Z (Instr.storeAt 32 t88_41 t87_40) w fun w =>
                                      j_33 w) (
                                      j_33 w)) →
                                    j_32 w) →
                                run1 Tryd.prog Z (binOp BinOp.and 85 t29_24 (Value.int IntKind.u64 128)) w fun t76_42 w =>
                                run1 Tryd.prog Z (eqOp BinOp.neq 85 false true t76_42 (Value.int IntKind.u64 0)) w fun t77_43 w =>
                                CondV t77_43 (
                                  CallV Tryd.prog Z 75 #[x1, (Value.int IntKind.i64 4), (Value.func (Fn.func 76) #[] #[])] w fun t79_44 w =>
                                  run1 Tryd.prog Z (Instr.fieldAt 34 t5_5 9) w fun t80_45 w =>
                                  run0 Tryd.prog Z (Instr.storeAt 31 t80_45 t79_44) w fun w =>
                                  j_32 w) (
                                  j_32 w)) →
                                j_31 w) →
                            run1 Tryd.prog Z (binOp BinOp.and 85 t29_24 (Value.int IntKind.u64 64)) w fun t70_46 w =>
                            run1 Tryd.prog Z (eqOp BinOp.neq 85 false true t70_46 (Value.int IntKind.u64 0)) w fun t71_47 w =>
                            CondV t71_47 (
                              CallV Tryd.prog Z 73 #[x1] w fun t73_48 w =>
                              run1 Tryd.prog Z (Instr.fieldAt 34 t5_5 8) w fun t74_49 w =>
                              run0 Tryd.prog Z (Instr.storeAt 21 t74_49 t73_48) w fun w =>
                              j_31 w) (
                              j_31 w)) →
                            j_30 w) →
                        run1 Tryd.prog Z (binOp BinOp.and 85 t29_24 (Value.int IntKind.u64 32)) w fun t64_50 w =>
                        run1 Tryd.prog Z (eqOp BinOp.neq 85 false true t64_50 (Value.int IntKind.u64 0)) w fun t65_51 w =>
                        CondV t65_51 (
                          CallV Tryd.prog Z 43 #[x1] w fun t67_52 w =>
                          run1 Tryd.prog Z (Instr.fieldAt 34 t5_5 7) w fun t68_53 w =>
                          run0 Tryd.prog Z (Instr.storeAt 2 t68_53 t67_52) w fun w =>
                          j_30 w) (
                          j_30 w)) →
                        j_29 w) →
                    run1 Tryd.prog Z (binOp BinOp.and 85 t29_24 (Value.int IntKind.u64 16)) w fun t55_54 w =>
                    run1 Tryd.prog Z (eqOp BinOp.neq 85 false true t55_54 (Value.int IntKind.u64 0)) w fun t56_55 w =>
                    CondV t56_55 (
                      CallV Tryd.prog Z 74 #[x1] w fun t58_56 w =>
                      run1 Tryd.prog Z (Instr.fieldAt 34 t5_5 5) w fun t59_57 w =>
                      run0 Tryd.prog Z (Instr.storeAt 4 t59_57 t58_56) w fun w =>
                      CallV Tryd.prog Z 74 #[x1] w fun t61_58 w =>
                      run1 Tryd.prog Z (Instr.fieldAt 34 t5_5 6) w fun t62_59 w =>
                      run0 Tryd.prog Z (Instr.storeAt 4 t62_59 t61_58) w fun w =>
                      j_29 w) (
                      j_29 w)) →
                    j_28 w) →
                run1 Tryd.prog Z (binOp BinOp.and 85 t29_24 (Value.int IntKind.u64 8)) w fun t49_60 w =>
                run1 Tryd.prog Z (eqOp BinOp.neq 85 false true t49_60 (Value.int IntKind.u64 0)) w fun t50_61 w =>
                CondV t50_61 (
                  CallV Tryd.prog Z 73 #[x1] w fun t52_62 w =>
                  run1 Tryd.prog Z (Instr.fieldAt 34 t5_5 4) w fun t53_63 w =>
                  run0 Tryd.prog Z (Instr.storeAt 21 t53_63 t52_62) w fun w =>
                  j_28 w) (
                  j_28 w)) →
                j_27 w) →
            run1 Tryd.prog Z (binOp BinOp.and 85 t29_24 (Value.int IntKind.u64 4)) w fun t43_64 w =>
            run1 Tryd.prog Z (eqOp BinOp.neq 85 false true t43_64 (Value.int IntKind.u64 0)) w fun t44_65 w =>
            CondV t44_65 (
              CallV Tryd.prog Z 71 #[x1, (Value.int IntKind.i64 4), (Value.func (Fn.func 72) #[] #[])] w fun t46_66 w =>
              run1 Tryd.prog Z (Instr.fieldAt 34 t5_5 3) w fun t47_67 w =>
              run0 Tryd.prog Z (Instr.storeAt 30 t47_67 t46_66) w fun w =>
              j_27 w) (
              j_27 w)) →
            j_26 w) →
        run1 Tryd.prog Z (binOp BinOp.and 85 t29_24 (Value.int IntKind.u64 2)) w fun t37_68 w =>
        run1 Tryd.prog Z (eqOp BinOp.neq 85 false true t37_68 (Value.int IntKind.u64 0)) w fun t38_69 w =>
        CondV t38_69 (
          CallV Tryd.prog Z 70 #[x1, (Value.int IntKind.i64 96)] w fun t40_70 w =>
          run1 Tryd.prog Z (Instr.fieldAt 34 t5_5 2) w fun t41_71 w =>
          run0 Tryd.prog Z (Instr.storeAt 22 t41_71 t40_70) w fun w =>
          j_26 w) (
          j_26 w)) →
        j_25 w) →
    run1 Tryd.prog Z (binOp BinOp.and 85 t29_24 (Value.int IntKind.u64 1)) w fun t31_72 w =>
    run1 Tryd.prog Z (eqOp BinOp.neq 85 false true t31_72 (Value.int IntKind.u64 0)) w fun t32_73 w =>
    CondV t32_73 (
      CallV Tryd.prog Z 69 #[x1, (Value.int IntKind.i64 64)] w fun t34_74 w =>
      run1 Tryd.prog Z (Instr.fieldAt 34 t5_5 1) w fun t35_75 w =>
      run0 Tryd.prog Z (Instr.storeAt 9 t35_75 t34_74) w fun w =>
      j_25 w) (
      j_25 w))) w) w) w) w) w) w) w
noncomputable def f44.code : Code := match Tryd.f44.body with | some c => c | none => .skip
def f44.an : An := (.sq .leaf (.sq .leaf (.sq (.sq .leaf (.cn (.sq .leaf (.sq .leaf .leaf)) .leaf)) (.sq .leaf (.sj [] [30, 31, 32, 33, 34, 35] (.sq .leaf (.cn .leaf .leaf)) (.sj [] [36, 37, 38, 39, 40, 41] (.sq .leaf (.cn .leaf .leaf)) (.sj [] [42, 43, 44, 45, 46, 47] (.sq .leaf (.cn .leaf .leaf)) (.sj [] [48, 49, 50, 51, 52, 53] (.sq .leaf (.cn .leaf .leaf)) (.sj [] [54, 55, 56, 57, 58, 59, 60, 61, 62] (.sq .leaf (.cn (.sq .leaf .leaf) .leaf)) (.sj [] [63, 64, 65, 66, 67, 68] (.sq .leaf (.cn .leaf .leaf)) (.sj [] [69, 70, 71, 72, 73, 74] (.sq .leaf (.cn .leaf .leaf)) (.sj [] [75, 76, 77, 78, 79, 80] (.sq .leaf (.cn .leaf .leaf)) (.sj [] [81, 82, 83, 84, 85, 86, 87, 88] (.sq .leaf (.cn .leaf .leaf)) (.sq .leaf .leaf))))))))))))))
theorem f44.body_eq : Tryd.f44.body = some f44.code := by kernel_rfl
theorem f44.shape (Z : List PanicEntry → World → Prop) (x0 x1 : Value) (w : World) (Q : Value → World → Prop) : vc drawD Tryd.prog 90 Z [42, 58, 67, 68, 77, 75, 73, 43, 74, 71, 70, 69] f44.an f44.code (fnQ Tryd.prog 90 Tryd.f44.results Q) (argEnv [x0, x1]) w = f44.sh Z x0 x1 w Q := by kernel_rfl
theorem f44.enters : ∀ f, f ∈ ([42, 58, 67, 68, 77, 75, 73, 43, 74, 71, 70, 69] : List Nat) → Enters Tryd.prog f := by
  intro f hf
  simp only [List.mem_cons, List.not_mem_nil, or_false] at hf
  rcases hf with rfl | rfl | rfl | rfl | rfl | rfl | rfl | rfl | rfl | rfl | rfl | rfl
  · exact en42
  · exact en58
  · exact en67
  · exact en68
  · exact en77
  · exact en75
  · exact en73
  · exact en43
  · exact en74
  · exact en71
  · exact en70
  · exact en69
theorem f44.calls {Z : List PanicEntry → World → Prop} {x0 x1 : Value} {w : World} {Q : Value → World → Prop} (h : f44.sh Z x0 x1 w Q) : CallV Tryd.prog Z 44 #[x0, x1] w Q :=
  calls_of_vcn drawD_sound (Q := Q) (n := 90) (rs := Tryd.f44.results) (an := f44.an) (c := f44.code) (cal := [42, 58, 67, 68, 77, 75, 73, 43, 74, 71, 70, 69]) (args := [x0, x1]) Tryd.func44 (by kernel_rfl) rfl f44.body_eq follows (Nat.le_of_ble_eq_true (by kernel_rfl)) (enters_of_all f44.enters) ((f44.shape Z x0 x1 w Q).mpr h)

/-! ### 45: (*lagoon/pack.Reader).End -/
def f45.sh (Z : List PanicEntry → World → Prop) (x0 : Value) (w : World) (Q : Value → World → Prop) : Prop :=
  CallV Tryd.prog Z 78 #[x0] w fun t4_1 w =>
  guardW (t4_1) true (fun k => k (x0) w) (fun t6_2 w =>
  guardW (t4_1) true (fun k => runX Tryd.prog Z (nilChk t6_2) w k) (fun t7_3 w =>
  guardW (t4_1) true (fun k => run1 Tryd.prog Z (Instr.fieldAt 94 t7_3 1) w k) (fun t8_4 w =>
  guardW (t4_1) true (fun k => run1 Tryd.prog Z (Instr.loadAt 22 t8_4) w k) (fun t9_5 w =>
  guardW (t4_1) true (fun k => run1 Tryd.prog Z (Builtin.len_ #[22] 3 #[t9_5]) w k) (fun t10_6 w =>
  guardW (t4_1) true (fun k => run1 Tryd.prog Z (binOp BinOp.gtr 3 t10_6 (Value.int IntKind.i64 0)) w k) (fun t11_7 w =>
  run1 Tryd.prog Z (pickV t4_1 t11_7 (Value.bool false)) w fun t12_8 w =>
  CondV t12_8 (
    Q (Value.int IntKind.i64 13) w) (
    CallV Tryd.prog Z 79 #[x0] w fun t14_9 w =>
    Q t14_9 w)) w) w) w) w) w) w
noncomputable def f45.code : Code := match Tryd.f45.body with | some c => c | none => .skip
def f45.an : An := (.sq .leaf (.sq (.sq .leaf (.cn (.sq .leaf .leaf) .leaf)) (.sq .leaf .leaf)))
theorem f45.body_eq : Tryd.f45.body = some f45.code := by kernel_rfl
theorem f45.shape (Z : List PanicEntry → World → Prop) (x0 : Value) (w : World) (Q : Value → World → Prop) : vc drawD Tryd.prog 15 Z [78, 79] f45.an f45.code (fnQ Tryd.prog 15 Tryd.f45.results Q) (argEnv [x0]) w = f45.sh Z x0 w Q := by kernel_rfl
theorem f45.enters : ∀ f, f ∈ ([78, 79] : List Nat) → Enters Tryd.prog f := by
  intro f hf
  simp only [List.mem_cons, List.not_mem_nil, or_false] at hf
  rcases hf with rfl | rfl
  · exact en78
  · exact en79
theorem f45.calls {Z : List PanicEntry → World → Prop} {x0 : Value} {w : World} {Q : Value → World → Prop} (h : f45.sh Z x0 w Q) : CallV Tryd.prog Z 45 #[x0] w Q :=
  calls_of_vcn drawD_sound (Q := Q) (n := 15) (rs := Tryd.f45.results) (an := f45.an) (c := f45.code) (cal := [78, 79]) (args := [x0]) Tryd.func45 (by kernel_rfl) rfl f45.body_eq follows (Nat.le_of_ble_eq_true (by kernel_rfl)) (enters_of_all f45.enters) ((f45.shape Z x0 w Q).mpr h)

/-! ### 46: (*lagoon/pack.Writer).Uint32 -/
def f46.sh (Z : List PanicEntry → World → Prop) (x0 x1 : Value) (w : World) (Q : Value → World → Prop) : Prop :=
  run1 Tryd.prog Z (convert 24 95 x1) w fun t6_1 w =>
  CallV Tryd.prog Z 80 #[x0, t6_1, (Value.int IntKind.i64 4)] w fun t7_2 w =>
  Q (Value.tuple #[]) w
noncomputable def f46.code : Code := match Tryd.f46.body with | some c => c | none => .skip
def f46.an : An := .leaf
theorem f46.body_eq : Tryd.f46.body = some f46.code := by kernel_rfl
theorem f46.shape (Z : List PanicEntry → World → Prop) (x0 x1 : Value) (w : World) (Q : Value → World → Prop) : vc drawD Tryd.prog 8 Z [80] f46.an f46.code (fnQ Tryd.prog 8 Tryd.f46.results Q) (argEnv [x0, x1]) w = f46.sh Z x0 x1 w Q := by kernel_rfl
theorem f46.enters : ∀ f, f ∈ ([80] : List Nat) → Enters Tryd.prog f := by
  intro f hf
  simp only [List.mem_cons, List.not_mem_nil, or_false] at hf
  rcases hf with rfl
  · exact en80
theorem f46.calls {Z : List PanicEntry → World → Prop} {x0 x1 : Value} {w : World} {Q : Value → World → Prop} (h : f46.sh Z x0 x1 w Q) : CallV Tryd.prog Z 46 #[x0, x1] w Q :=
  calls_of_vcn drawD_sound (Q := Q) (n := 8) (rs := Tryd.f46.results) (an := f46.an) (c := f46.code) (cal := [80]) (args := [x0, x1]) Tryd.func46 (by kernel_rfl) rfl f46.body_eq follows (Nat.le_of_ble_eq_true (by kernel_rfl)) (enters_of_all f46.enters) ((f46.shape Z x0 x1 w Q).mpr h)

/-! ### 47: (*lagoon/pack.Writer).Int8 -/
def f47.sh (Z : List PanicEntry → World → Prop) (x0 x1 : Value) (w : World) (Q : Value → World → Prop) : Prop :=
  run1 Tryd.prog Z (convert 27 95 x1) w fun t6_1 w =>
  CallV Tryd.prog Z 80 #[x0, t6_1, (Value.int IntKind.i64 1)] w fun t7_2 w =>
  Q (Value.tuple #[]) w
noncomputable def f47.code : Code := match Tryd.f47.body with | some c => c | none => .skip
def f47.an : An := .leaf
theorem f47.body_eq : Tryd.f47.body = some f47.code := by kernel_rfl
theorem f47.shape (Z : List PanicEntry → World → Prop) (x0 x1 : Value) (w : World) (Q : Value → World → Prop) : vc drawD Tryd.prog 8 Z [80] f47.an f47.code (fnQ Tryd.prog 8 Tryd.f47.results Q) (argEnv [x0, x1]) w = f47.sh Z x0 x1 w Q := by kernel_rfl
theorem f47.enters : ∀ f, f ∈ ([80] : List Nat) → Enters Tryd.prog f := by
  intro f hf
  simp only [List.mem_cons, List.not_mem_nil, or_false] at hf
  rcases hf with rfl
  · exact en80
theorem f47.calls {Z : List PanicEntry → World → Prop} {x0 x1 : Value} {w : World} {Q : Value → World → Prop} (h : f47.sh Z x0 x1 w Q) : CallV Tryd.prog Z 47 #[x0, x1] w Q :=
  calls_of_vcn drawD_sound (Q := Q) (n := 8) (rs := Tryd.f47.results) (an := f47.an) (c := f47.code) (cal := [80]) (args := [x0, x1]) Tryd.func47 (by kernel_rfl) rfl f47.body_eq follows (Nat.le_of_ble_eq_true (by kernel_rfl)) (enters_of_all f47.enters) ((f47.shape Z x0 x1 w Q).mpr h)

/-! ### 48: (*lagoon/pack.Writer).Int64 -/
def f48.sh (Z : List PanicEntry → World → Prop) (x0 x1 : Value) (w : World) (Q : Value → World → Prop) : Prop :=
  run1 Tryd.prog Z (convert 2 95 x1) w fun t6_1 w =>
  CallV Tryd.prog Z 80 #[x0, t6_1, (Value.int IntKind.i64 8)] w fun t7_2 w =>
  Q (Value.tuple #[]) w
noncomputable def f48.code : Code := match Tryd.f48.body with | some c => c | none => .skip
def f48.an : An := .leaf
theorem f48.body_eq : Tryd.f48.body = some f48.code := by kernel_rfl
theorem f48.shape (Z : List PanicEntry → World → Prop) (x0 x1 : Value) (w : World) (Q : Value → World → Prop) : vc drawD Tryd.prog 8 Z [80] f48.an f48.code (fnQ Tryd.prog 8 Tryd.f48.results Q) (argEnv [x0, x1]) w = f48.sh Z x0 x1 w Q := by kernel_rfl
theorem f48.enters : ∀ f, f ∈ ([80] : List Nat) → Enters Tryd.prog f := by
  intro f hf
  simp only [List.mem_cons, List.not_mem_nil, or_false] at hf
  rcases hf with rfl
  · exact en80
theorem f48.calls {Z : List PanicEntry → World → Prop} {x0 x1 : Value} {w : World} {Q : Value → World → Prop} (h : f48.sh Z x0 x1 w Q) : CallV Tryd.prog Z 48 #[x0, x1] w Q :=
  calls_of_vcn drawD_sound (Q := Q) (n := 8) (rs := Tryd.f48.results) (an := f48.an) (c := f48.code) (cal := [80]) (args := [x0, x1]) Tryd.func48 (by kernel_rfl) rfl f48.body_eq follows (Nat.le_of_ble_eq_true (by kernel_rfl)) (enters_of_all f48.enters) ((f48.shape Z x0 x1 w Q).mpr h)

/-! ### 49: (lagoon/txn.layer).put -/
def f49.sh (Z : List PanicEntry → World → Prop) (x0 x1 x2 : Value) (w : World) (Q : Value → World → Prop) : Prop :=
  run1 Tryd.prog Z (Instr.box 71 x0) w fun t3_1 w =>
  run1 Tryd.prog Z (Instr.box 34 x2) w fun t5_2 w =>
  run1 Tryd.prog Z (Instr.fieldAt 34 t5_2 0) w fun t8_3 w =>
  run1 Tryd.prog Z (Instr.loadAt 27 t8_3) w fun t9_4 w =>
  CallV Tryd.prog Z 47 #[x1, t9_4] w fun t10_5 w =>
  run1 Tryd.prog Z (Instr.loadAt 71 t3_1) w fun t11_6 w =>
  run1 Tryd.prog Z (Instr.fieldAt 34 t5_2 0) w fun t12_7 w =>
  run1 Tryd.prog Z (Instr.loadAt 27 t12_7) w fun t13_8 w =>
  CallV Tryd.prog Z 68 #[t11_6, t13_8] w fun t14_9 w =>
  ∀ j_10 : World → Prop, (∀ w : World, (Env →
      ∀ j_11 : World → Prop, (∀ w : World, (Env →
          ∀ j_12 : World → Prop, (∀ w : World, (Env →
              ∀ j_13 : World → Prop, (∀ w : World, (Env →
                  ∀ j_14 : World → Prop, (∀ w : World, (Env →
                      ∀ j_15 : World → Prop, (∀ w : World, (Env →
                          ∀ j_16 : World → Prop, (∀ w : World, (Env →
                              ∀ j_17 : World → Prop, (∀ w : World, (Env →
                                  run1 Tryd.prog Z (binOp BinOp.and 85 t14_9 (Value.int IntKind.u64 256)) w fun t76_18 w =>
                                  run1 Tryd.prog Z (eqOp BinOp.neq 85 false true t76_18 (Value.int IntKind.u64 0)) w fun t77_19 w =>
                                  CondV t77_19 (
                                    run1 Tryd.prog Z (Instr.fieldAt 34 t5_2 10) w fun t79_20 w =>
                                    run1 Tryd.prog Z (Instr.loadAt 32 t79_20) w fun t80_21 w =>
                                    run1 Tryd.prog Z (Instr.build 71 #[(0, (Value.bool true))]) w fun t81_22 w =>
                                    run1 Tryd.prog Z (Instr.makeFunc (Fn.func 49) #[t81_22] #[]) w fun t82_23 w =>
                                    CallV Tryd.prog Z 89 #[x1, t80_21, t82_23] w fun t83_24 w =>
                                    Q (Value.tuple #[]) w) (
                                    Q (Value.tuple #[]) w)) →
                                  j_17 w) →
                              run1 Tryd.prog Z (binOp BinOp.and 85 t14_9 (Value.int IntKind.u64 128)) w fun t69_25 w =>
                              run1 Tryd.prog Z (eqOp BinOp.neq 85 false true t69_25 (Value.int IntKind.u64 0)) w fun t70_26 w =>
                              CondV t70_26 (
                                run1 Tryd.prog Z (Instr.fieldAt 34 t5_2 9) w fun t72_27 w =>
                                run1 Tryd.prog Z (Instr.loadAt 31 t72_27) w fun t73_28 w =>
                                CallV Tryd.prog Z 87 #[x1, t73_28, (Value.func (Fn.func 88) #[] #[])] w fun t74_29 w =>
                                j_17 w) (
                                j_17 w)) →
                              j_16 w) →
                          run1 Tryd.prog Z (binOp BinOp.and 85 t14_9 (Value.int IntKind.u64 64)) w fun t62_30 w =>
                          run1 Tryd.prog Z (eqOp BinOp.neq 85 false true t62_30 (Value.int IntKind.u64 0)) w fun t63_31 w =>
                          CondV t63_31 (
                            run1 Tryd.prog Z (Instr.fieldAt 34 t5_2 8) w fun t65_32 w =>
                            run1 Tryd.prog Z (Instr.loadAt 21 t65_32) w fun t66_33 w =>
                            CallV Tryd.prog Z 85 #[x1, t66_33] w fun t67_34 w =>
                            j_16 w) (
                            j_16 w)) →
                          j_15 w) →
                      run1 Tryd.prog Z (binOp BinOp.and 85 t14_9 (Value.int IntKind.u64 32)) w fun t55_35 w =>
                      run1 Tryd.prog Z (eqOp BinOp.neq 85 false true t55_35 (Value.int IntKind.u64 0)) w fun t56_36 w =>
                      CondV t56_36 (
                        run1 Tryd.prog Z (Instr.fieldAt 34 t5_2 7) w fun t58_37 w =>
                        run1 Tryd.prog Z (Instr.loadAt 2 t58_37) w fun t59_38 w =>
                        CallV Tryd.prog Z 48 #[x1, t59_38] w fun t60_39 w =>
                        j_15 w) (
                        j_15 w)) →
                      j_14 w) →
                  run1 Tryd.prog Z (binOp BinOp.and 85 t14_9 (Value.int IntKind.u64 16)) w fun t44_40 w =>
                  run1 Tryd.prog Z (eqOp BinOp.neq 85 false true t44_40 (Value.int IntKind.u64 0)) w fun t45_41 w =>
                  CondV t45_41 (
                    run1 Tryd.prog Z (Instr.fieldAt 34 t5_2 5) w fun t47_42 w =>
                    run1 Tryd.prog Z (Instr.loadAt 4 t47_42) w fun t48_43 w =>
                    CallV Tryd.prog Z 86 #[x1, t48_43] w fun t49_44 w =>
                    run1 Tryd.prog Z (Instr.fieldAt 34 t5_2 6) w fun t51_45 w =>
                    run1 Tryd.prog Z (Instr.loadAt 4 t51_45) w fun t52_46 w =>
                    CallV Tryd.prog Z 86 #[x1, t52_46] w fun t53_47 w =>
                    j_14 w) (
                    j_14 w)) →
                  j_13 w) →
              run1 Tryd.prog Z (binOp BinOp.and 85 t14_9 (Value.int IntKind.u64 8)) w fun t37_48 w =>
              run1 Tryd.prog Z (eqOp BinOp.neq 85 false true t37_48 (Value.int IntKind.u64 0)) w fun t38_49 w =>
              CondV t38_49 (
                run1 Tryd.prog Z (Instr.fieldAt 34 t5_2 4) w fun t40_50 w =>
                run1 Tryd.prog Z (Instr.loadAt 21 t40_50) w fun t41_51 w =>
                CallV Tryd.prog Z 85 #[x1, t41_51] w fun t42_52 w =>
                j_13 w) (
                j_13 w)) →
              j_12 w) →
          run1 Tryd.prog Z (binOp BinOp.and 85 t14_9 (Value.int IntKind.u64 4)) w fun t30_53 w =>
          run1 Tryd.prog Z (eqOp BinOp.neq 85 false true t30_53 (Value.int IntKind.u64 0)) w fun t31_54 w =>
          CondV t31_54 (
            run1 Tryd.prog Z (Instr.fieldAt 34 t5_2 3) w fun t33_55 w =>
            run1 Tryd.prog Z (Instr.loadAt 30 t33_55) w fun t34_56 w =>
            CallV Tryd.prog Z 83 #[x1, t34_56, (Value.func (Fn.func 84) #[] #[])] w fun t35_57 w =>
            j_12 w) (
            j_12 w)) →
          j_11 w) →
      run1 Tryd.prog Z (binOp BinOp.and 85 t14_9 (Value.int IntKind.u64 2)) w fun t23_58 w =>
      run1 Tryd.prog Z (eqOp BinOp.neq 85 false true t23_58 (Value.int IntKind.u64 0)) w fun t24_59 w =>
      CondV t24_59 (
        run1 Tryd.prog Z (Instr.fieldAt 34 t5_2 2) w fun t26_60 w =>
        run1 Tryd.prog Z (Instr.loadAt 22 t26_60) w fun t27_61 w =>
        CallV Tryd.prog Z 82 #[x1, t27_61] w fun t28_62 w =>
        j_11 w) (
        j_11 w)) →
      j_10 w) →
  run1 Tryd.prog Z (binOp BinOp.and 85 t14_9 (Value.int IntKind.u64 1)) w fun t16_63 w =>
  run1 Tryd.prog Z (eqOp BinOp.neq 85 false true t16_63 (Value.int IntKind.u64 0)) w fun t17_64 w =>
  CondV t17_64 (
    run1 Tryd.prog Z (Instr.fieldAt 34 t5_2 1) w fun t19_65 w =>
    run1 Tryd.prog Z (Instr.loadAt 9 t19_65) w fun t20_66 w =>
    CallV Tryd.prog Z 81 #[x1, t20_66] w fun t21_67 w =>
    j_10 w) (
    j_10 w)
noncomputable def f49.code : Code := match Tryd.f49.body with | some c => c | none => .skip
def f49.an : An := (.sq .leaf (.sq .leaf (.sq .leaf (.sj [] [15, 16, 17, 18, 19, 20, 21] (.sq .leaf (.cn .leaf .leaf)) (.sj [] [22, 23, 24, 25, 26, 27, 28] (.sq .leaf (.cn .leaf .leaf)) (.sj [] [29, 30, 31, 32, 33, 34, 35] (.sq .leaf (.cn .leaf .leaf)) (.sj [] [36, 37, 38, 39, 40, 41, 42] (.sq .leaf (.cn .leaf .leaf)) (.sj [] [43, 44, 45, 46, 47, 48, 49, 50, 51, 52, 53] (.sq .leaf (.cn (.sq .leaf .leaf) .leaf)) (.sj [] [54, 55, 56, 57, 58, 59, 60] (.sq .leaf (.cn .leaf .leaf)) (.sj [] [61, 62, 63, 64, 65, 66, 67] (.sq .leaf (.cn .leaf .leaf)) (.sj [] [68, 69, 70, 71, 72, 73, 74] (.sq .leaf (.cn .leaf .leaf)) (.sq .leaf (.cn .leaf .leaf)))))))))))))
theorem f49.body_eq : Tryd.f49.body = some f49.code := by kernel_rfl
theorem f49.shape (Z : List PanicEntry → World → Prop) (x0 x1 x2 : Value) (w : World) (Q : Value → World → Prop) : vc drawD Tryd.prog 84 Z [47, 68, 89, 87, 85, 48, 86, 83, 82, 81] f49.an f49.code (fnQ Tryd.prog 84 Tryd.f49.results Q) (argEnv [x0, x1, x2]) w = f49.sh Z x0 x1 x2 w Q := by kernel_rfl
theorem f49.enters : ∀ f, f ∈ ([47, 68, 89, 87, 85, 48, 86, 83, 82, 81] : List Nat) → Enters Tryd.prog f := by
  intro f hf
  simp only [List.mem_cons, List.not_mem_nil, or_false] at hf
  rcases hf with rfl | rfl | rfl | rfl | rfl | rfl | rfl | rfl | rfl | rfl
  · exact en47
  · exact en68
  · exact en89
  · exact en87
  · exact en85
  · exact en48
  · exact en86
  · exact en83
  · exact en82
  · exact en81
theorem f49.calls {Z : List PanicEntry → World → Prop} {x0 x1 x2 : Value} {w : World} {Q : Value → World → Prop} (h : f49.sh Z x0 x1 x2 w Q) : CallV Tryd.prog Z 49 #[x0, x1, x2] w Q :=
  calls_of_vcn drawD_sound (Q := Q) (n := 84) (rs := Tryd.f49.results) (an := f49.an) (c := f49.code) (cal := [47, 68, 89, 87, 85, 48, 86, 83, 82, 81]) (args := [x0, x1, x2]) Tryd.func49 (by kernel_rfl) rfl f49.body_eq follows (Nat.le_of_ble_eq_true (by kernel_rfl)) (enters_of_all f49.enters) ((f49.shape Z x0 x1 x2 w Q).mpr h)

/-! ### 50: (*lagoon/pack.Writer).Bytes -/
def f50.sh (Z : List PanicEntry → World → Prop) (x0 : Value) (w : World) (Q : Value → World → Prop) : Prop :=
  run1 Tryd.prog Z (eqOp BinOp.eql 74 false true x0 (Value.pointer none)) w fun t4_1 w =>
  CondV t4_1 (
    Q (Value.slice none 0 0) w) (
    runX Tryd.prog Z (nilChk x0) w fun t6_2 w =>
    run1 Tryd.prog Z (Instr.fieldAt 76 t6_2 0) w fun t7_3 w =>
    run1 Tryd.prog Z (Instr.loadAt 22 t7_3) w fun t8_4 w =>
    run1 Tryd.prog Z (Builtin.append_ #[22, 22] 22 #[(Value.slice none 0 0), t8_4]) w fun t9_5 w =>
    Q t9_5 w)
noncomputable def f50.code : Code := match Tryd.f50.body with | some c => c | none => .skip
def f50.an : An := (.sq .leaf (.sq (.sq .leaf (.cn (.sq .leaf .leaf) .leaf)) (.sq .leaf .leaf)))
theorem f50.body_eq : Tryd.f50.body = some f50.code := by kernel_rfl
theorem f50.shape (Z : List PanicEntry → World → Prop) (x0 : Value) (w : World) (Q : Value → World → Prop) : vc drawD Tryd.prog 10 Z [] f50.an f50.code (fnQ Tryd.prog 10 Tryd.f50.results Q) (argEnv [x0]) w = f50.sh Z x0 w Q := by kernel_rfl
theorem f50.enters : ∀ f, f ∈ ([] : List Nat) → Enters Tryd.prog f := by
  intro f hf
  cases hf
theorem f50.calls {Z : List PanicEntry → World → Prop} {x0 : Value} {w : World} {Q : Value → World → Prop} (h : f50.sh Z x0 w Q) : CallV Tryd.prog Z 50 #[x0] w Q :=
  calls_of_vcn drawD_sound (Q := Q) (n := 10) (rs := Tryd.f50.results) (an := f50.an) (c := f50.code) (cal := []) (args := [x0]) Tryd.func50 (by kernel_rfl) rfl f50.body_eq follows (Nat.le_of_ble_eq_true (by kernel_rfl)) (enters_of_all f50.enters) ((f50.shape Z x0 w Q).mpr h)

/-! ### 51: lagoon/lagoonref00.Parts -/
def f51.sh (Z : List PanicEntry → World → Prop) (x0 : Value) (w : World) (Q : Value → World → Prop) : Prop :=
  run1 Tryd.prog Z (Instr.box 34 x0) w fun t1_1 w =>
  run1 Tryd.prog Z (Instr.loadAt 34 t1_1) w fun t3_2 w =>
  CallV Tryd.prog Z 90 #[t3_2, (Value.int IntKind.i64 0)] w fun t4_3 w =>
  Q t4_3 w
noncomputable def f51.code : Code := match Tryd.f51.body with | some c => c | none => .skip
def f51.an : An := (.sq .leaf (.sq .leaf .leaf))
theorem f51.body_eq : Tryd.f51.body = some f51.code := by kernel_rfl
theorem f51.shape (Z : List PanicEntry → World → Prop) (x0 : Value) (w : World) (Q : Value → World → Prop) : vc drawD Tryd.prog 5 Z [90] f51.an f51.code (fnQ Tryd.prog 5 Tryd.f51.results Q) (argEnv [x0]) w = f51.sh Z x0 w Q := by kernel_rfl
theorem f51.enters : ∀ f, f ∈ ([90] : List Nat) → Enters Tryd.prog f := by
  intro f hf
  simp only [List.mem_cons, List.not_mem_nil, or_false] at hf
  rcases hf with rfl
  · exact en90
theorem f51.calls {Z : List PanicEntry → World → Prop} {x0 : Value} {w : World} {Q : Value → World → Prop} (h : f51.sh Z x0 w Q) : CallV Tryd.prog Z 51 #[x0] w Q :=
  calls_of_vcn drawD_sound (Q := Q) (n := 5) (rs := Tryd.f51.results) (an := f51.an) (c := f51.code) (cal := [90]) (args := [x0]) Tryd.func51 (by kernel_rfl) rfl f51.body_eq follows (Nat.le_of_ble_eq_true (by kernel_rfl)) (enters_of_all f51.enters) ((f51.shape Z x0 w Q).mpr h)

/-! ### 52: lagoon/lagoonref00.CopyRequest -/
def f52.sh (Z : List PanicEntry → World → Prop) (x0 : Value) (w : World) (Q : Value → World → Prop) : Prop :=
  run1 Tryd.prog Z (Instr.box 34 x0) w fun t1_1 w =>
  run1 Tryd.prog Z (Instr.alloc 34 true (.tuple #[])) w fun t2_2 w =>
  run1 Tryd.prog Z (Instr.loadAt 34 t1_1) w fun t5_3 w =>
  run1 Tryd.prog Z (Instr.alloc 34 true (.tuple #[])) w fun t3_4 w =>
  run0 Tryd.prog Z (Instr.storeAt 34 t3_4 t5_3) w fun w =>
  run1 Tryd.prog Z (Instr.fieldAt 34 t1_1 2) w fun t6_5 w =>
  run1 Tryd.prog Z (Instr.loadAt 22 t6_5) w fun t7_6 w =>
  CallV Tryd.prog Z 12 #[t7_6] w fun t8_7 w =>
  run1 Tryd.prog Z (Instr.fieldAt 34 t3_4 2) w fun t9_8 w =>
  run0 Tryd.prog Z (Instr.storeAt 22 t9_8 t8_7) w fun w =>
  run1 Tryd.prog Z (Instr.fieldAt 34 t1_1 3) w fun t10_9 w =>
  run1 Tryd.prog Z (Instr.loadAt 30 t10_9) w fun t11_10 w =>
  CallV Tryd.prog Z 91 #[t11_10] w fun t12_11 w =>
  run1 Tryd.prog Z (Instr.fieldAt 34 t3_4 3) w fun t13_12 w =>
  run0 Tryd.prog Z (Instr.storeAt 30 t13_12 t12_11) w fun w =>
  run1 Tryd.prog Z (Instr.fieldAt 34 t1_1 9) w fun t14_13 w =>
  run1 Tryd.prog Z (Instr.loadAt 31 t14_13) w fun t15_14 w =>
  CallV Tryd.prog Z 92 #[t15_14] w fun t16_15 w =>
  run1 Tryd.prog Z (Instr.fieldAt 34 t3_4 9) w fun t17_16 w =>
  run0 Tryd.prog Z (Instr.storeAt 31 t17_16 t16_15) w fun w =>
  run1 Tryd.prog Z (Instr.fieldAt 34 t3_4 10) w fun t18_17 w =>
  run0 Tryd.prog Z (Instr.storeAt 32 t18_17 (Value.slice none 0 0)) w fun w =>
  ∃ J_18 : Nat → Value → World → Prop, (∃ m, J_18 m (Value.int IntKind.i64 0) w) ∧
    ∀ m_18, ∀ t4_19 : Value, ∀ w : World, J_18 m_18 t4_19 w → Env →
      run1 Tryd.prog Z (Instr.fieldAt 34 t1_1 10) w fun t20_20 w =>
      run1 Tryd.prog Z (Instr.loadAt 32 t20_20) w fun t21_21 w =>
      run1 Tryd.prog Z (Builtin.len_ #[32] 3 #[t21_21]) w fun t22_22 w =>
      run1 Tryd.prog Z (binOp BinOp.lss 3 t4_19 t22_22) w fun t23_23 w =>
      CondV t23_23 (
        Drawn w fun w =>
        Pure1 Tryd.prog (Instr.fieldAt 34 t3_4 10) fun t26_24 =>
        Read1 Tryd.prog (Instr.loadAt 32 t26_24) w fun t27_25 =>
        Pure1 Tryd.prog (Instr.fieldAt 34 t1_1 10) fun t28_26 =>
        Read1 Tryd.prog (Instr.loadAt 32 t28_26) w fun t29_27 =>
        Pure1 Tryd.prog (Instr.indexAt 32 t29_27 t4_19) fun t31_28 =>
        Read1 Tryd.prog (Instr.loadAt 34 t31_28) w fun t32_29 =>
        CallV Tryd.prog Z 52 #[t32_29] w fun t33_30 w =>
          Still Tryd.prog (nx (Instr.loadAt 32 t28_26)) t29_27 w <|
          Still Tryd.prog (nx (Instr.loadAt 32 t26_24)) t27_25 w <|
        run1 Tryd.prog Z (Instr.buildSlice 32 1 #[(0, t33_30)]) w fun t34_31 w =>
          Still Tryd.prog (nx (Instr.loadAt 32 t28_26)) t29_27 w <|
          Still Tryd.prog (nx (Instr.loadAt 32 t26_24)) t27_25 w <|
        run1 Tryd.prog Z (Builtin.append_ #[32, 32] 32 #[t27_25, t34_31]) w fun t35_32 w =>
          Still Tryd.prog (nx (Instr.loadAt 32 t28_26)) t29_27 w <|
        Pure1 Tryd.prog (Instr.fieldAt 34 t3_4 10) fun t36_33 =>
        run0 Tryd.prog Z (Instr.storeAt 32 t36_33 t35_32) w fun w =>
        run1 Tryd.prog Z (binOp BinOp.add 3 t4_19 (Value.int IntKind.i64 1)) w fun t25_34 w =>
        ∃ n_18, n_18 < m_18 ∧ J_18 n_18 t25_34 w) (
        run1 Tryd.prog Z (Instr.loadAt 34 t3_4) w fun t37_35 w =>
        run0 Tryd.prog Z (Instr.storeAt 34 t2_2 t37_35) w fun w =>
        ∃ r_36, (do loadVar 34 (← asAddr t2_2) : Sem Value).run Tryd.prog w = .ok r_36 w ∧
        Q r_36 w)
noncomputable def f52.code : Code := match Tryd.f52.body with | some c => c | none => .skip
def f52.an : An := (.sq .leaf (.sq .leaf (.sq .leaf (.sq .leaf (.sq .leaf (.sq .leaf (.sq (.sq .leaf (.bl (.lp [4] [4, 19, 20, 21, 22, 23, 24, 25, 26, 27, 28, 29, 30, 31, 32, 33, 34, 35, 36] (.sq (.sq .leaf (.cn .leaf .leaf)) (.sq (.bl (.dr (.take 0 false (.take 1 true (.take 2 false (.take 3 true (.take 4 false (.take 5 false (.take 6 true (.one 7 (.one 8 (.one 9 (.take 10 false (.one 11 .fin)))))))))))))) .leaf))))) (.sq .leaf .leaf))))))))
theorem f52.body_eq : Tryd.f52.body = some f52.code := by kernel_rfl
theorem f52.shape (Z : List PanicEntry → World → Prop) (x0 : Value) (w : World) (Q : Value → World → Prop) : vc drawD Tryd.prog 38 Z [12, 91, 92, 52] f52.an f52.code (fnQ Tryd.prog 38 Tryd.f52.results Q) (argEnv [x0]) w = f52.sh Z x0 w Q := by kernel_rfl
theorem f52.enters : ∀ f, f ∈ ([12, 91, 92, 52] : List Nat) → Enters Tryd.prog f := by
  intro f hf
  simp only [List.mem_cons, List.not_mem_nil, or_false] at hf
  rcases hf with rfl | rfl | rfl | rfl
  · exact en12
  · exact en91
  · exact en92
  · exact en52
theorem f52.calls {Z : List PanicEntry → World → Prop} {x0 : Value} {w : World} {Q : Value → World → Prop} (h : f52.sh Z x0 w Q) : CallV Tryd.prog Z 52 #[x0] w Q :=
  calls_of_vcn drawD_sound (Q := Q) (n := 38) (rs := Tryd.f52.results) (an := f52.an) (c := f52.code) (cal := [12, 91, 92, 52]) (args := [x0]) Tryd.func52 (by kernel_rfl) rfl f52.body_eq follows (Nat.le_of_ble_eq_true (by kernel_rfl)) (enters_of_all f52.enters) ((f52.shape Z x0 w Q).mpr h)

/-! ### 53: lagoon/txn.sameRequest -/
def f53.sh (Z : List PanicEntry → World → Prop) (x0 x1 : Value) (w : World) (Q : Value → World → Prop) : Prop :=
  run1 Tryd.prog Z (Instr.box 34 x0) w fun t2_1 w =>
  run1 Tryd.prog Z (Instr.box 34 x1) w fun t3_2 w =>
  run1 Tryd.prog Z (Instr.fieldAt 34 t2_1 0) w fun t5_3 w =>
  run1 Tryd.prog Z (Instr.loadAt 27 t5_3) w fun t6_4 w =>
  run1 Tryd.prog Z (Instr.fieldAt 34 t3_2 0) w fun t7_5 w =>
  run1 Tryd.prog Z (Instr.loadAt 27 t7_5) w fun t8_6 w =>
  run1 Tryd.prog Z (eqOp BinOp.eql 27 false false t6_4 t8_6) w fun t9_7 w =>
  guardW (t9_7) true (fun k => run1 Tryd.prog Z (Instr.fieldAt 34 t2_1 1) w k) (fun t11_8 w =>
  guardW (t9_7) true (fun k => run1 Tryd.prog Z (Instr.loadAt 9 t11_8) w k) (fun t12_9 w =>
  guardW (t9_7) true (fun k => run1 Tryd.prog Z (Instr.fieldAt 34 t3_2 1) w k) (fun t13_10 w =>
  guardW (t9_7) true (fun k => run1 Tryd.prog Z (Instr.loadAt 9 t13_10) w k) (fun t14_11 w =>
  guardW (t9_7) true (fun k => run1 Tryd.prog Z (eqOp BinOp.eql 9 false false t12_9 t14_11) w k) (fun t15_12 w =>
  run1 Tryd.prog Z (pickV t9_7 t15_12 (Value.bool false)) w fun t16_13 w =>
  guardW (t16_13) true (fun k => run1 Tryd.prog Z (Instr.fieldAt 34 t2_1 2) w k) (fun t18_14 w =>
  guardW (t16_13) true (fun k => run1 Tryd.prog Z (Instr.loadAt 22 t18_14) w k) (fun t19_15 w =>
  guardW (t16_13) true (fun k => run1 Tryd.prog Z (Instr.fieldAt 34 t3_2 2) w k) (fun t20_16 w =>
  guardW (t16_13) true (fun k => run1 Tryd.prog Z (Instr.loadAt 22 t20_16) w k) (fun t21_17 w =>
  guardW (t16_13) true (fun k => CallV Tryd.prog Z 93 #[t19_15, t21_17] w k) (fun t22_18 w =>
  run1 Tryd.prog Z (pickV t16_13 t22_18 (Value.bool false)) w fun t23_19 w =>
  guardW (t23_19) true (fun k => run1 Tryd.prog Z (Instr.fieldAt 34 t2_1 3) w k) (fun t25_20 w =>
  guardW (t23_19) true (fun k => run1 Tryd.prog Z (Instr.loadAt 30 t25_20) w k) (fun t26_21 w =>
  guardW (t23_19) true (fun k => run1 Tryd.prog Z (Instr.fieldAt 34 t3_2 3) w k) (fun t27_22 w =>
  guardW (t23_19) true (fun k => run1 Tryd.prog Z (Instr.loadAt 30 t27_22) w k) (fun t28_23 w =>
  guardW (t23_19) true (fun k => CallV Tryd.prog Z 94 #[t26_21, t28_23] w k) (fun t29_24 w =>
  run1 Tryd.prog Z (pickV t23_19 t29_24 (Value.bool false)) w fun t30_25 w =>
  guardW (t30_25) true (fun k => run1 Tryd.prog Z (Instr.fieldAt 34 t2_1 4) w k) (fun t32_26 w =>
  guardW (t30_25) true (fun k => run1 Tryd.prog Z (Instr.loadAt 21 t32_26) w k) (fun t33_27 w =>
  guardW (t30_25) true (fun k => run1 Tryd.prog Z (Instr.fieldAt 34 t3_2 4) w k) (fun t34_28 w =>
  guardW (t30_25) true (fun k => run1 Tryd.prog Z (Instr.loadAt 21 t34_28) w k) (fun t35_29 w =>
  guardW (t30_25) true (fun k => run1 Tryd.prog Z (eqOp BinOp.eql 21 false false t33_27 t35_29) w k) (fun t36_30 w =>
  run1 Tryd.prog Z (pickV t30_25 t36_30 (Value.bool false)) w fun t37_31 w =>
  guardW (t37_31) true (fun k => run1 Tryd.prog Z (Instr.fieldAt 34 t2_1 5) w k) (fun t39_32 w =>
  guardW (t37_31) true (fun k => run1 Tryd.prog Z (Instr.loadAt 4 t39_32) w k) (fun t40_33 w =>
  guardW (t37_31) true (fun k => run1 Tryd.prog Z (Instr.fieldAt 34 t3_2 5) w k) (fun t41_34 w =>
  guardW (t37_31) true (fun k => run1 Tryd.prog Z (Instr.loadAt 4 t41_34) w k) (fun t42_35 w =>
  guardW (t37_31) true (fun k => run1 Tryd.prog Z (eqOp BinOp.eql 4 false false t40_33 t42_35) w k) (fun t43_36 w =>
  run1 Tryd.prog Z (pickV t37_31 t43_36 (Value.bool false)) w fun t44_37 w =>
  guardW (t44_37) true (fun k => run1 Tryd.prog Z (Instr.fieldAt 34 t2_1 6) w k) (fun t46_38 w =>
  guardW (t44_37) true (fun k => run1 Tryd.prog Z (Instr.loadAt 4 t46_38) w k) (fun t47_39 w =>
  guardW (t44_37) true (fun k => run1 Tryd.prog Z (Instr.fieldAt 34 t3_2 6) w k) (fun t48_40 w =>
  guardW (t44_37) true (fun k => run1 Tryd.prog Z (Instr.loadAt 4 t48_40) w k) (fun t49_41 w =>
  guardW (t44_37) true (fun k => run1 Tryd.prog Z (eqOp BinOp.eql 4 false false t47_39 t49_41) w k) (fun t50_42 w =>
  run1 Tryd.prog Z (pickV t44_37 t50_42 (Value.bool false)) w fun t51_43 w =>
  guardW (t51_43) true (fun k => run1 Tryd.prog Z (Instr.fieldAt 34 t2_1 7) w k) (fun t53_44 w =>
  guardW (t51_43) true (fun k => run1 Tryd.prog Z (Instr.loadAt 2 t53_44) w k) (fun t54_45 w =>
  guardW (t51_43) true (fun k => run1 Tryd.prog Z (Instr.fieldAt 34 t3_2 7) w k) (fun t55_46 w =>
  guardW (t51_43) true (fun k => run1 Tryd.prog Z (Instr.loadAt 2 t55_46) w k) (fun t56_47 w =>
  guardW (t51_43) true (fun k => run1 Tryd.prog Z (eqOp BinOp.eql 2 false false t54_45 t56_47) w k) (fun t57_48 w =>
  run1 Tryd.prog Z (pickV t51_43 t57_48 (Value.bool false)) w fun t58_49 w =>
  guardW (t58_49) true (fun k => run1 Tryd.prog Z (Instr.fieldAt 34 t2_1 8) w k) (fun t60_50 w =>
  guardW (t58_49) true (fun k => run1 Tryd.prog Z (Instr.loadAt 21 t60_50) w k) (fun t61_51 w =>
  guardW (t58_49) true (fun k => run1 Tryd.prog Z (Instr.fieldAt 34 t3_2 8) w k) (fun t62_52 w =>
  guardW (t58_49) true (fun k => run1 Tryd.prog Z (Instr.loadAt 21 t62_52) w k) (fun t63_53 w =>
  guardW (t58_49) true (fun k => run1 Tryd.prog Z (eqOp BinOp.eql 21 false false t61_51 t63_53) w k) (fun t64_54 w =>
  run1 Tryd.prog Z (pickV t58_49 t64_54 (Value.bool false)) w fun t65_55 w =>
  guardW (t65_55) true (fun k => run1 Tryd.prog Z (Instr.fieldAt 34 t2_1 9) w k) (fun t67_56 w =>
  guardW (t65_55) true (fun k => run1 Tryd.prog Z (Instr.loadAt 31 t67_56) w k) (fun t68_57 w =>
  guardW (t65_55) true (fun k => run1 Tryd.prog Z (Instr.fieldAt 34 t3_2 9) w k) (fun t69_58 w =>
  guardW (t65_55) true (fun k => run1 Tryd.prog Z (Instr.loadAt 31 t69_58) w k) (fun t70_59 w =>
  guardW (t65_55) true (fun k => CallV Tryd.prog Z 95 #[t68_57, t70_59] w k) (fun t71_60 w =>
  run1 Tryd.prog Z (pickV t65_55 t71_60 (Value.bool false)) w fun t72_61 w =>
  guardW (t72_61) true (fun k => run1 Tryd.prog Z (Instr.fieldAt 34 t2_1 10) w k) (fun t74_62 w =>
  guardW (t72_61) true (fun k => run1 Tryd.prog Z (Instr.loadAt 32 t74_62) w k) (fun t75_63 w =>
  guardW (t72_61) true (fun k => run1 Tryd.prog Z (Instr.fieldAt 34 t3_2 10) w k) (fun t76_64 w =>
  guardW (t72_61) true (fun k => run1 Tryd.prog Z (Instr.loadAt 32 t76_64) w k) (fun t77_65 w =>
  guardW (t72_61) true (fun k => CallV Tryd.prog Z 96 #[t75_63, t77_65, (Value.func (Fn.func 53) #[] #[])] w k) (fun t78_66 w =>
  run1 Tryd.prog Z (pickV t72_61 t78_66 (Value.bool false)) w fun t79_67 w =>
  Q t79_67 w) w) w) w) w) w) w) w) w) w) w) w) w) w) w) w) w) w) w) w) w) w) w) w) w) w) w) w) w) w) w) w) w) w) w) w) w) w) w) w) w) w) w) w) w) w) w) w) w) w) w
noncomputable def f53.code : Code := match Tryd.f53.body with | some c => c | none => .skip
def f53.an : An := (.sq .leaf (.sq .leaf .leaf))
theorem f53.body_eq : Tryd.f53.body = some f53.code := by kernel_rfl
theorem f53.shape (Z : List PanicEntry → World → Prop) (x0 x1 : Value) (w : World) (Q : Value → World → Prop) : vc drawD Tryd.prog 80 Z [93, 94, 95, 96] f53.an f53.code (fnQ Tryd.prog 80 Tryd.f53.results Q) (argEnv [x0, x1]) w = f53.sh Z x0 x1 w Q := by kernel_rfl
theorem f53.enters : ∀ f, f ∈ ([93, 94, 95, 96] : List Nat) → Enters Tryd.prog f := by
  intro f hf
  simp only [List.mem_cons, List.not_mem_nil, or_false] at hf
  rcases hf with rfl | rfl | rfl | rfl
  · exact en93
  · exact en94
  · exact en95
  · exact en96
theorem f53.calls {Z : List PanicEntry → World → Prop} {x0 x1 : Value} {w : World} {Q : Value → World → Prop} (h : f53.sh Z x0 x1 w Q) : CallV Tryd.prog Z 53 #[x0, x1] w Q :=
  calls_of_vcn drawD_sound (Q := Q) (n := 80) (rs := Tryd.f53.results) (an := f53.an) (c := f53.code) (cal := [93, 94, 95, 96]) (args := [x0, x1]) Tryd.func53 (by kernel_rfl) rfl f53.body_eq follows (Nat.le_of_ble_eq_true (by kernel_rfl)) (enters_of_all f53.enters) ((f53.shape Z x0 x1 w Q).mpr h)

/-! ### 54: lagoon/lagoonref00.EqRequest -/
def f54.sh (Z : List PanicEntry → World → Prop) (x0 x1 : Value) (w : World) (Q : Value → World → Prop) : Prop :=
  run1 Tryd.prog Z (Instr.box 34 x0) w fun t2_1 w =>
  run1 Tryd.prog Z (Instr.box 34 x1) w fun t3_2 w =>
  run1 Tryd.prog Z (Instr.fieldAt 34 t2_1 0) w fun t6_3 w =>
  run1 Tryd.prog Z (Instr.loadAt 27 t6_3) w fun t7_4 w =>
  run1 Tryd.prog Z (Instr.fieldAt 34 t3_2 0) w fun t8_5 w =>
  run1 Tryd.prog Z (Instr.loadAt 27 t8_5) w fun t9_6 w =>
  run1 Tryd.prog Z (eqOp BinOp.neq 27 false false t7_4 t9_6) w fun t10_7 w =>
  guardW (t10_7) false (fun k => run1 Tryd.prog Z (Instr.fieldAt 34 t2_1 1) w k) (fun t12_8 w =>
  guardW (t10_7) false (fun k => run1 Tryd.prog Z (Instr.loadAt 9 t12_8) w k) (fun t13_9 w =>
  guardW (t10_7) false (fun k => run1 Tryd.prog Z (Instr.fieldAt 34 t3_2 1) w k) (fun t14_10 w =>
  guardW (t10_7) false (fun k => run1 Tryd.prog Z (Instr.loadAt 9 t14_10) w k) (fun t15_11 w =>
  guardW (t10_7) false (fun k => run1 Tryd.prog Z (eqOp BinOp.neq 9 false false t13_9 t15_11) w k) (fun t16_12 w =>
  run1 Tryd.prog Z (pickV t10_7 (Value.bool true) t16_12) w fun t17_13 w =>
  guardW (t17_13) false (fun k => run1 Tryd.prog Z (Instr.fieldAt 34 t2_1 4) w k) (fun t19_14 w =>
  guardW (t17_13) false (fun k => run1 Tryd.prog Z (Instr.loadAt 21 t19_14) w k) (fun t20_15 w =>
  guardW (t17_13) false (fun k => run1 Tryd.prog Z (Instr.fieldAt 34 t3_2 4) w k) (fun t21_16 w =>
  guardW (t17_13) false (fun k => run1 Tryd.prog Z (Instr.loadAt 21 t21_16) w k) (fun t22_17 w =>
  guardW (t17_13) false (fun k => run1 Tryd.prog Z (eqOp BinOp.neq 21 false false t20_15 t22_17) w k) (fun t23_18 w =>
  run1 Tryd.prog Z (pickV t17_13 (Value.bool true) t23_18) w fun t24_19 w =>
  guardW (t24_19) false (fun k => run1 Tryd.prog Z (Instr.fieldAt 34 t2_1 5) w k) (fun t26_20 w =>
  guardW (t24_19) false (fun k => run1 Tryd.prog Z (Instr.loadAt 4 t26_20) w k) (fun t27_21 w =>
  guardW (t24_19) false (fun k => run1 Tryd.prog Z (Instr.fieldAt 34 t3_2 5) w k) (fun t28_22 w =>
  guardW (t24_19) false (fun k => run1 Tryd.prog Z (Instr.loadAt 4 t28_22) w k) (fun t29_23 w =>
  guardW (t24_19) false (fun k => run1 Tryd.prog Z (eqOp BinOp.neq 4 false false t27_21 t29_23) w k) (fun t30_24 w =>
  run1 Tryd.prog Z (pickV t24_19 (Value.bool true) t30_24) w fun t31_25 w =>
  guardW (t31_25) false (fun k => run1 Tryd.prog Z (Instr.fieldAt 34 t2_1 6) w k) (fun t33_26 w =>
  guardW (t31_25) false (fun k => run1 Tryd.prog Z (Instr.loadAt 4 t33_26) w k) (fun t34_27 w =>
  guardW (t31_25) false (fun k => run1 Tryd.prog Z (Instr.fieldAt 34 t3_2 6) w k) (fun t35_28 w =>
  guardW (t31_25) false (fun k => run1 Tryd.prog Z (Instr.loadAt 4 t35_28) w k) (fun t36_29 w =>
  guardW (t31_25) false (fun k => run1 Tryd.prog Z (eqOp BinOp.neq 4 false false t34_27 t36_29) w k) (fun t37_30 w =>
  run1 Tryd.prog Z (pickV t31_25 (Value.bool true) t37_30) w fun t38_31 w =>
  guardW (t38_31) false (fun k => run1 Tryd.prog Z (Instr.fieldAt 34 t2_1 7) w k) (fun t40_32 w =>
  guardW (t38_31) false (fun k => run1 Tryd.prog Z (Instr.loadAt 2 t40_32) w k) (fun t41_33 w =>
  guardW (t38_31) false (fun k => run1 Tryd.prog Z (Instr.fieldAt 34 t3_2 7) w k) (fun t42_34 w =>
  guardW (t38_31) false (fun k => run1 Tryd.prog Z (Instr.loadAt 2 t42_34) w k) (fun t43_35 w =>
  guardW (t38_31) false (fun k => run1 Tryd.prog Z (eqOp BinOp.neq 2 false false t41_33 t43_35) w k) (fun t44_36 w =>
  run1 Tryd.prog Z (pickV t38_31 (Value.bool true) t44_36) w fun t45_37 w =>
  guardW (t45_37) false (fun k => run1 Tryd.prog Z (Instr.fieldAt 34 t2_1 8) w k) (fun t47_38 w =>
  guardW (t45_37) false (fun k => run1 Tryd.prog Z (Instr.loadAt 21 t47_38) w k) (fun t48_39 w =>
  guardW (t45_37) false (fun k => run1 Tryd.prog Z (Instr.fieldAt 34 t3_2 8) w k) (fun t49_40 w =>
  guardW (t45_37) false (fun k => run1 Tryd.prog Z (Instr.loadAt 21 t49_40) w k) (fun t50_41 w =>
  guardW (t45_37) false (fun k => run1 Tryd.prog Z (eqOp BinOp.neq 21 false false t48_39 t50_41) w k) (fun t51_42 w =>
  run1 Tryd.prog Z (pickV t45_37 (Value.bool true) t51_42) w fun t52_43 w =>
  CondV t52_43 (
    Q (Value.bool false) w) (
    run1 Tryd.prog Z (Instr.fieldAt 34 t2_1 2) w fun t53_44 w =>
    run1 Tryd.prog Z (Instr.loadAt 22 t53_44) w fun t54_45 w =>
    run1 Tryd.prog Z (Instr.fieldAt 34 t3_2 2) w fun t55_46 w =>
    run1 Tryd.prog Z (Instr.loadAt 22 t55_46) w fun t56_47 w =>
    CallV Tryd.prog Z 14 #[t54_45, t56_47] w fun t57_48 w =>
    run1 Tryd.prog Z (Op.unary UnOp.not t57_48) w fun t58_49 w =>
    guardW (t58_49) false (fun k => run1 Tryd.prog Z (Instr.fieldAt 34 t2_1 3) w k) (fun t60_50 w =>
    guardW (t58_49) false (fun k => run1 Tryd.prog Z (Instr.loadAt 30 t60_50) w k) (fun t61_51 w =>
    guardW (t58_49) false (fun k => run1 Tryd.prog Z (Instr.fieldAt 34 t3_2 3) w k) (fun t62_52 w =>
    guardW (t58_49) false (fun k => run1 Tryd.prog Z (Instr.loadAt 30 t62_52) w k) (fun t63_53 w =>
    guardW (t58_49) false (fun k => CallV Tryd.prog Z 97 #[t61_51, t63_53] w k) (fun t64_54 w =>
    guardW (t58_49) false (fun k => run1 Tryd.prog Z (Op.unary UnOp.not t64_54) w k) (fun t65_55 w =>
    run1 Tryd.prog Z (pickV t58_49 (Value.bool true) t65_55) w fun t66_56 w =>
    guardW (t66_56) false (fun k => run1 Tryd.prog Z (Instr.fieldAt 34 t2_1 9) w k) (fun t68_57 w =>
    guardW (t66_56) false (fun k => run1 Tryd.prog Z (Instr.loadAt 31 t68_57) w k) (fun t69_58 w =>
    guardW (t66_56) false (fun k => run1 Tryd.prog Z (Instr.fieldAt 34 t3_2 9) w k) (fun t70_59 w =>
    guardW (t66_56) false (fun k => run1 Tryd.prog Z (Instr.loadAt 31 t70_59) w k) (fun t71_60 w =>
    guardW (t66_56) false (fun k => CallV Tryd.prog Z 98 #[t69_58, t71_60] w k) (fun t72_61 w =>
    guardW (t66_56) false (fun k => run1 Tryd.prog Z (Op.unary UnOp.not t72_61) w k) (fun t73_62 w =>
    run1 Tryd.prog Z (pickV t66_56 (Value.bool true) t73_62) w fun t74_63 w =>
    guardW (t74_63) false (fun k => run1 Tryd.prog Z (Instr.fieldAt 34 t2_1 10) w k) (fun t76_64 w =>
    guardW (t74_63) false (fun k => run1 Tryd.prog Z (Instr.loadAt 32 t76_64) w k) (fun t77_65 w =>
    guardW (t74_63) false (fun k => run1 Tryd.prog Z (Builtin.len_ #[32] 3 #[t77_65]) w k) (fun t78_66 w =>
    guardW (t74_63) false (fun k => run1 Tryd.prog Z (Instr.fieldAt 34 t3_2 10) w k) (fun t79_67 w =>
    guardW (t74_63) false (fun k => run1 Tryd.prog Z (Instr.loadAt 32 t79_67) w k) (fun t80_68 w =>
    guardW (t74_63) false (fun k => run1 Tryd.prog Z (Builtin.len_ #[32] 3 #[t80_68]) w k) (fun t81_69 w =>
    guardW (t74_63) false (fun k => run1 Tryd.prog Z (eqOp BinOp.neq 3 false false t78_66 t81_69) w k) (fun t82_70 w =>
    run1 Tryd.prog Z (pickV t74_63 (Value.bool true) t82_70) w fun t83_71 w =>
    CondV t83_71 (
      Q (Value.bool false) w) (
      ∃ J_72 : Nat → Value → World → Prop, (∃ m, J_72 m (Value.int IntKind.i64 0) w) ∧
        ∀ m_72, ∀ t5_73 : Value, ∀ w : World, J_72 m_72 t5_73 w → Env →
          run1 Tryd.prog Z (Instr.fieldAt 34 t2_1 10) w fun t85_74 w =>
          run1 Tryd.prog Z (Instr.loadAt 32 t85_74) w fun t86_75 w =>
          run1 Tryd.prog Z (Builtin.len_ #[32] 3 #[t86_75]) w fun t87_76 w =>
          run1 Tryd.prog Z (binOp BinOp.lss 3 t5_73 t87_76) w fun t88_77 w =>
          CondV t88_77 (
            Drawn w fun w =>
            Pure1 Tryd.prog (Instr.fieldAt 34 t2_1 10) fun t91_78 =>
            Read1 Tryd.prog (Instr.loadAt 32 t91_78) w fun t92_79 =>
            Pure1 Tryd.prog (Instr.indexAt 32 t92_79 t5_73) fun t94_80 =>
            Read1 Tryd.prog (Instr.loadAt 34 t94_80) w fun t95_81 =>
            Pure1 Tryd.prog (Instr.fieldAt 34 t3_2 10) fun t96_82 =>
            Read1 Tryd.prog (Instr.loadAt 32 t96_82) w fun t97_83 =>
            Pure1 Tryd.prog (Instr.indexAt 32 t97_83 t5_73) fun t99_84 =>
            Read1 Tryd.prog (Instr.loadAt 34 t99_84) w fun t100_85 =>
            CallV Tryd.prog Z 54 #[t95_81, t100_85] w fun t101_86 w =>
              Still Tryd.prog (nx (Instr.loadAt 32 t96_82)) t97_83 w <|
              Still Tryd.prog (nx (Instr.loadAt 32 t91_78)) t92_79 w <|
            Pure1 Tryd.prog (Op.unary UnOp.not t101_86) fun t102_87 =>
            CondV t102_87 (
              Q (Value.bool false) w) (
              run1 Tryd.prog Z (binOp BinOp.add 3 t5_73 (Value.int IntKind.i64 1)) w fun t90_88 w =>
              ∃ n_72, n_72 < m_72 ∧ J_72 n_72 t90_88 w)) (
            Q (Value.bool true) w))) w) w) w) w) w) w) w) w) w) w) w) w) w) w) w) w) w) w) w)) w) w) w) w) w) w) w) w) w) w) w) w) w) w) w) w) w) w) w) w) w) w) w) w) w) w) w) w) w) w
noncomputable def f54.code : Code := match Tryd.f54.body with | some c => c | none => .skip
def f54.an : An := (.sq .leaf (.sq (.sq .leaf (.cn (.sq .leaf .leaf) .leaf)) (.sq (.sq .leaf (.cn (.sq .leaf .leaf) .leaf)) (.sq (.sq .leaf (.bl (.lp [5] [4, 5, 84, 85, 86, 87, 88, 89, 90, 91, 92, 93, 94, 95, 96, 97, 98, 99, 100, 101, 102] (.sq (.sq .leaf (.cn .leaf .leaf)) (.sq (.bl (.sq (.dr (.take 0 false (.take 1 true (.take 2 false (.take 3 false (.take 4 true (.take 5 false (.take 6 true (.take 7 false (.take 8 false (.take 9 true (.one 10 (.take 11 false .fin))))))))))))) (.cn (.sq .leaf .leaf) .leaf))) .leaf))))) (.sq .leaf .leaf)))))
theorem f54.body_eq : Tryd.f54.body = some f54.code := by kernel_rfl
theorem f54.shape (Z : List PanicEntry → World → Prop) (x0 x1 : Value) (w : World) (Q : Value → World → Prop) : vc drawD Tryd.prog 103 Z [14, 97, 98, 54] f54.an f54.code (fnQ Tryd.prog 103 Tryd.f54.results Q) (argEnv [x0, x1]) w = f54.sh Z x0 x1 w Q := by kernel_rfl
theorem f54.enters : ∀ f, f ∈ ([14, 97, 98, 54] : List Nat) → Enters Tryd.prog f := by
  intro f hf
  simp only [List.mem_cons, List.not_mem_nil, or_false] at hf
  rcases hf with rfl | rfl | rfl | rfl
  · exact en14
  · exact en97
  · exact en98
  · exact en54
theorem f54.calls {Z : List PanicEntry → World → Prop} {x0 x1 : Value} {w : World} {Q : Value → World → Prop} (h : f54.sh Z x0 x1 w Q) : CallV Tryd.prog Z 54 #[x0, x1] w Q :=
  calls_of_vcn drawD_sound (Q := Q) (n := 103) (rs := Tryd.f54.results) (an := f54.an) (c := f54.code) (cal := [14, 97, 98, 54]) (args := [x0, x1]) Tryd.func54 (by kernel_rfl) rfl f54.body_eq follows (Nat.le_of_ble_eq_true (by kernel_rfl)) (enters_of_all f54.enters) ((f54.shape Z x0 x1 w Q).mpr h)

/-! ### 55: cmp.Or[int] -/
def f55.sh (Z : List PanicEntry → World → Prop) (x0 : Value) (w : World) (Q : Value → World → Prop) : Prop :=
  run1 Tryd.prog Z (Builtin.len_ #[127] 3 #[x0]) w fun t7_1 w =>
  ∃ J_2 : Nat → Value → World → Prop, (∃ m, J_2 m (Value.int IntKind.i64 0) w) ∧
    ∀ m_2, ∀ t8_3 : Value, ∀ w : World, J_2 m_2 t8_3 w → Env →
      run1 Tryd.prog Z (binOp BinOp.lss 3 t8_3 t7_1) w fun t9_4 w =>
      CondV t9_4 (
        run1 Tryd.prog Z (Instr.indexAt 127 x0 t8_3) w fun t10_5 w =>
        run1 Tryd.prog Z (Instr.loadAt 3 t10_5) w fun t11_6 w =>
        run1 Tryd.prog Z (eqOp BinOp.neq 3 false false t11_6 (Value.int IntKind.i64 0)) w fun t14_7 w =>
        CondV t14_7 (
          Q t11_6 w) (
          run1 Tryd.prog Z (binOp BinOp.add 3 t8_3 (Value.int IntKind.i64 1)) w fun t16_8 w =>
          ∃ n_2, n_2 < m_2 ∧ J_2 n_2 t16_8 w)) (
        Q (Value.int IntKind.i64 0) w)
noncomputable def f55.code : Code := match Tryd.f55.body with | some c => c | none => .skip
def f55.an : An := (.sq .leaf (.sq .leaf (.sq (.sq .leaf (.bl (.lp [8] [2, 5, 8, 9, 10, 11, 12, 13, 14, 15, 16] (.sq .leaf (.sq (.cn .leaf .leaf) (.sq (.bl (.sq .leaf (.sq .leaf (.cn (.sq .leaf .leaf) .leaf)))) .leaf)))))) (.sq .leaf .leaf))))
theorem f55.body_eq : Tryd.f55.body = some f55.code := by kernel_rfl
theorem f55.shape (Z : List PanicEntry → World → Prop) (x0 : Value) (w : World) (Q : Value → World → Prop) : vc drawD Tryd.prog 18 Z [] f55.an f55.code (fnQ Tryd.prog 18 Tryd.f55.results Q) (argEnv [x0]) w = f55.sh Z x0 w Q := by kernel_rfl
theorem f55.enters : ∀ f, f ∈ ([] : List Nat) → Enters Tryd.prog f := by
  intro f hf
  cases hf
theorem f55.calls {Z : List PanicEntry → World → Prop} {x0 : Value} {w : World} {Q : Value → World → Prop} (h : f55.sh Z x0 w Q) : CallV Tryd.prog Z 55 #[x0] w Q :=
  calls_of_vcn drawD_sound (Q := Q) (n := 18) (rs := Tryd.f55.results) (an := f55.an) (c := f55.code) (cal := []) (args := [x0]) Tryd.func55 (by kernel_rfl) rfl f55.body_eq follows (Nat.le_of_ble_eq_true (by kernel_rfl)) (enters_of_all f55.enters) ((f55.shape Z x0 w Q).mpr h)

/-! ### 56: cmp.Compare[uint32] -/
def f56.sh (Z : List PanicEntry → World → Prop) (x0 x1 : Value) (w : World) (Q : Value → World → Prop) : Prop :=
  CallV Tryd.prog Z 99 #[x0] w fun t8_1 w =>
  CallV Tryd.prog Z 99 #[x1] w fun t10_2 w =>
  CondV t8_1 (
    CondV t10_2 (
      Q (Value.int IntKind.i64 0) w) (
      Q (Value.int IntKind.i64 (-1)) w)) (
    CondV t10_2 (
      Q (Value.int IntKind.i64 1) w) (
      run1 Tryd.prog Z (binOp BinOp.lss 24 x0 x1) w fun t16_3 w =>
      CondV t16_3 (
        Q (Value.int IntKind.i64 (-1)) w) (
        run1 Tryd.prog Z (binOp BinOp.gtr 24 x0 x1) w fun t19_4 w =>
        CondV t19_4 (
          Q (Value.int IntKind.i64 1) w) (
          Q (Value.int IntKind.i64 0) w))))
noncomputable def f56.code : Code := match Tryd.f56.body with | some c => c | none => .skip
def f56.an : An := (.sq .leaf (.sq .leaf (.sq .leaf (.sq (.sq .leaf (.cn (.sq (.sq .leaf (.cn (.sq .leaf .leaf) .leaf)) (.sq .leaf .leaf)) .leaf)) (.sq (.sq .leaf (.cn (.sq .leaf .leaf) .leaf)) (.sq (.sq .leaf (.cn (.sq .leaf .leaf) .leaf)) (.sq (.sq .leaf (.cn (.sq .leaf .leaf) .leaf)) (.sq .leaf .leaf))))))))
theorem f56.body_eq : Tryd.f56.body = some f56.code := by kernel_rfl
theorem f56.shape (Z : List PanicEntry → World → Prop) (x0 x1 : Value) (w : World) (Q : Value → World → Prop) : vc drawD Tryd.prog 20 Z [99] f56.an f56.code (fnQ Tryd.prog 20 Tryd.f56.results Q) (argEnv [x0, x1]) w = f56.sh Z x0 x1 w Q := by kernel_rfl
theorem f56.enters : ∀ f, f ∈ ([99] : List Nat) → Enters Tryd.prog f := by
  intro f hf
  simp only [List.mem_cons, List.not_mem_nil, or_false] at hf
  rcases hf with rfl
  · exact en99
theorem f56.calls {Z : List PanicEntry → World → Prop} {x0 x1 : Value} {w : World} {Q : Value → World → Prop} (h : f56.sh Z x0 x1 w Q) : CallV Tryd.prog Z 56 #[x0, x1] w Q :=
  calls_of_vcn drawD_sound (Q := Q) (n := 20) (rs := Tryd.f56.results) (an := f56.an) (c := f56.code) (cal := [99]) (args := [x0, x1]) Tryd.func56 (by kernel_rfl) rfl f56.body_eq follows (Nat.le_of_ble_eq_true (by kernel_rfl)) (enters_of_all f56.enters) ((f56.shape Z x0 x1 w Q).mpr h)

/-! ### 57: lagoon/lagoonref00.WideRequest -/
def f57.sh (Z : List PanicEntry → World → Prop) (x0 : Value) (w : World) (Q : Value → World → Prop) : Prop :=
  run1 Tryd.prog Z (Instr.box 34 x0) w fun t1_1 w =>
  run1 Tryd.prog Z (Instr.alloc 34 true (.tuple #[])) w fun t2_2 w =>
  run1 Tryd.prog Z (Instr.fieldAt 34 t1_1 2) w fun t3_3 w =>
  run1 Tryd.prog Z (Instr.loadAt 22 t3_3) w fun t4_4 w =>
  CallV Tryd.prog Z 100 #[t4_4] w fun t5_5 w =>
  run1 Tryd.prog Z (Instr.fieldAt 34 t1_1 2) w fun t6_6 w =>
  run0 Tryd.prog Z (Instr.storeAt 22 t6_6 t5_5) w fun w =>
  run1 Tryd.prog Z (Instr.fieldAt 34 t1_1 3) w fun t7_7 w =>
  run1 Tryd.prog Z (Instr.loadAt 30 t7_7) w fun t8_8 w =>
  CallV Tryd.prog Z 101 #[t8_8] w fun t9_9 w =>
  run1 Tryd.prog Z (Instr.fieldAt 34 t1_1 3) w fun t10_10 w =>
  run0 Tryd.prog Z (Instr.storeAt 30 t10_10 t9_9) w fun w =>
  run1 Tryd.prog Z (Instr.fieldAt 34 t1_1 9) w fun t11_11 w =>
  run1 Tryd.prog Z (Instr.loadAt 31 t11_11) w fun t12_12 w =>
  CallV Tryd.prog Z 102 #[t12_12] w fun t13_13 w =>
  run1 Tryd.prog Z (Instr.fieldAt 34 t1_1 9) w fun t14_14 w =>
  run0 Tryd.prog Z (Instr.storeAt 31 t14_14 t13_13) w fun w =>
  run1 Tryd.prog Z (Instr.fieldAt 34 t1_1 10) w fun t15_15 w =>
  run1 Tryd.prog Z (Instr.loadAt 32 t15_15) w fun t16_16 w =>
  CallV Tryd.prog Z 103 #[t16_16] w fun t17_17 w =>
  run1 Tryd.prog Z (Instr.fieldAt 34 t1_1 10) w fun t18_18 w =>
  run0 Tryd.prog Z (Instr.storeAt 32 t18_18 t17_17) w fun w =>
  run1 Tryd.prog Z (Instr.loadAt 34 t1_1) w fun t19_19 w =>
  run0 Tryd.prog Z (Instr.storeAt 34 t2_2 t19_19) w fun w =>
  ∃ r_20, (do loadVar 34 (← asAddr t2_2) : Sem Value).run Tryd.prog w = .ok r_20 w ∧
  Q r_20 w
noncomputable def f57.code : Code := match Tryd.f57.body with | some c => c | none => .skip
def f57.an : An := (.sq .leaf (.sq .leaf (.sq .leaf (.sq .leaf (.sq .leaf (.sq .leaf .leaf))))))
theorem f57.body_eq : Tryd.f57.body = some f57.code := by kernel_rfl
theorem f57.shape (Z : List PanicEntry → World → Prop) (x0 : Value) (w : World) (Q : Value → World → Prop) : vc drawD Tryd.prog 20 Z [100, 101, 102, 103] f57.an f57.code (fnQ Tryd.prog 20 Tryd.f57.results Q) (argEnv [x0]) w = f57.sh Z x0 w Q := by kernel_rfl
theorem f57.enters : ∀ f, f ∈ ([100, 101, 102, 103] : List Nat) → Enters Tryd.prog f := by
  intro f hf
  simp only [List.mem_cons, List.not_mem_nil, or_false] at hf
  rcases hf with rfl | rfl | rfl | rfl
  · exact en100
  · exact en101
  · exact en102
  · exact en103
theorem f57.calls {Z : List PanicEntry → World → Prop} {x0 : Value} {w : World} {Q : Value → World → Prop} (h : f57.sh Z x0 w Q) : CallV Tryd.prog Z 57 #[x0] w Q :=
  calls_of_vcn drawD_sound (Q := Q) (n := 20) (rs := Tryd.f57.results) (an := f57.an) (c := f57.code) (cal := [100, 101, 102, 103]) (args := [x0]) Tryd.func57 (by kernel_rfl) rfl f57.body_eq follows (Nat.le_of_ble_eq_true (by kernel_rfl)) (enters_of_all f57.enters) ((f57.shape Z x0 w Q).mpr h)

/-! ### 58: lagoon/txn.known -/
def f58.sh (Z : List PanicEntry → World → Prop) (x0 : Value) (w : World) (Q : Value → World → Prop) : Prop :=
  run1 Tryd.prog Z (binOp BinOp.geq 27 x0 (Value.int IntKind.i8 1)) w fun t4_1 w =>
  guardW (t4_1) true (fun k => k (x0) w) (fun t6_2 w =>
  guardW (t4_1) true (fun k => run1 Tryd.prog Z (binOp BinOp.leq 27 t6_2 (Value.int IntKind.i8 12)) w k) (fun t7_3 w =>
  run1 Tryd.prog Z (pickV t4_1 t7_3 (Value.bool false)) w fun t8_4 w =>
  Q t8_4 w) w) w
noncomputable def f58.code : Code := match Tryd.f58.body with | some c => c | none => .skip
def f58.an : An := (.sq .leaf (.sq .leaf .leaf))
theorem f58.body_eq : Tryd.f58.body = some f58.code := by kernel_rfl
theorem f58.shape (Z : List PanicEntry → World → Prop) (x0 : Value) (w : World) (Q : Value → World → Prop) : vc drawD Tryd.prog 9 Z [] f58.an f58.code (fnQ Tryd.prog 9 Tryd.f58.results Q) (argEnv [x0]) w = f58.sh Z x0 w Q := by kernel_rfl
theorem f58.enters : ∀ f, f ∈ ([] : List Nat) → Enters Tryd.prog f := by
  intro f hf
  cases hf
theorem f58.calls {Z : List PanicEntry → World → Prop} {x0 : Value} {w : World} {Q : Value → World → Prop} (h : f58.sh Z x0 w Q) : CallV Tryd.prog Z 58 #[x0] w Q :=
  calls_of_vcn drawD_sound (Q := Q) (n := 9) (rs := Tryd.f58.results) (an := f58.an) (c := f58.code) (cal := []) (args := [x0]) Tryd.func58 (by kernel_rfl) rfl f58.body_eq follows (Nat.le_of_ble_eq_true (by kernel_rfl)) (enters_of_all f58.enters) ((f58.shape Z x0 w Q).mpr h)

/-! ### 59: lagoon/txn.within -/
def f59.sh (Z : List PanicEntry → World → Prop) (x0 : Value) (w : World) (Q : Value → World → Prop) : Prop :=
  run1 Tryd.prog Z (Instr.box 34 x0) w fun t1_1 w =>
  run1 Tryd.prog Z (Instr.fieldAt 34 t1_1 0) w fun t7_2 w =>
  run1 Tryd.prog Z (Instr.loadAt 27 t7_2) w fun t8_3 w =>
  run1 Tryd.prog Z (Instr.indexAt 130 (Value.pointer (some ⟨0, 0, none⟩)) t8_3) w fun t9_4 w =>
  run1 Tryd.prog Z (Instr.loadAt 85 t9_4) w fun t10_5 w =>
  run1 Tryd.prog Z (Instr.alloc 85 true (.tuple #[])) w fun t3_6 w =>
  run0 Tryd.prog Z (Instr.storeAt 85 t3_6 t10_5) w fun w =>
  run1 Tryd.prog Z (Instr.makeFunc (Fn.func 104) #[] #[t3_6]) w fun t11_7 w =>
  ∀ j_8 : World → Prop, (∀ w : World, (Env →
      run1 Tryd.prog Z (Instr.fieldAt 34 t1_1 3) w fun t146_9 w =>
      run1 Tryd.prog Z (Instr.loadAt 30 t146_9) w fun t147_10 w =>
      run1 Tryd.prog Z (Builtin.len_ #[30] 3 #[t147_10]) w fun t148_11 w =>
      ∃ J_12 : Nat → Value → World → Prop, (∃ m, J_12 m (Value.int IntKind.i64 0) w) ∧
        ∀ m_12, ∀ t149_13 : Value, ∀ w : World, J_12 m_12 t149_13 w → Env →
          run1 Tryd.prog Z (binOp BinOp.lss 3 t149_13 t148_11) w fun t150_14 w =>
          CondV t150_14 (
            run1 Tryd.prog Z (Instr.indexAt 30 t147_10 t149_13) w fun t151_15 w =>
            run1 Tryd.prog Z (Instr.loadAt 105 t151_15) w fun t152_16 w =>
            run1 Tryd.prog Z (Instr.alloc 105 true (.tuple #[])) w fun t6_17 w =>
            run0 Tryd.prog Z (Instr.storeAt 105 t6_17 t152_16) w fun w =>
            run1 Tryd.prog Z (Instr.fieldAt 105 t6_17 1) w fun t153_18 w =>
            run1 Tryd.prog Z (Instr.loadAt 103 t153_18) w fun t154_19 w =>
            CallV Tryd.prog Z 105 #[t154_19] w fun t155_20 w =>
            run1 Tryd.prog Z (Op.unary UnOp.not t155_20) w fun t156_21 w =>
            CondV t156_21 (
              Q (Value.bool false) w) (
              run1 Tryd.prog Z (binOp BinOp.add 3 t149_13 (Value.int IntKind.i64 1)) w fun t157_22 w =>
              ∃ n_12, n_12 < m_12 ∧ J_12 n_12 t157_22 w)) (
            run1 Tryd.prog Z (Instr.fieldAt 34 t1_1 9) w fun t158_23 w =>
            run1 Tryd.prog Z (Instr.loadAt 31 t158_23) w fun t159_24 w =>
            CallV Tryd.prog Z 106 #[t159_24, (Value.func (Fn.func 107) #[] #[])] w fun t160_25 w =>
            run1 Tryd.prog Z (Op.unary UnOp.not t160_25) w fun t161_26 w =>
            Q t161_26 w)) →
      j_8 w) →
  ∀ j_27 : Value → World → Prop, (∀ t12_28 : Value, ∀ w : World, (Env →
      CondV t12_28 (
        Q (Value.bool false) w) (
        ∀ j_29 : Value → World → Prop, (∀ t47_30 : Value, ∀ w : World, (Env →
            CondV t47_30 (
              Q (Value.bool false) w) (
              ∀ j_31 : Value → World → Prop, (∀ t93_32 : Value, ∀ w : World, (Env →
                  CondV t93_32 (
                    Q (Value.bool false) w) (
                    ∀ j_33 : Value → World → Prop, (∀ t114_34 : Value, ∀ w : World, (Env →
                        CondV t114_34 (
                          Q (Value.bool false) w) (
                          j_8 w)) →
                        j_33 t114_34 w) →
                    run1 Tryd.prog Z (Instr.fieldAt 34 t1_1 7) w fun t115_35 w =>
                    run1 Tryd.prog Z (Instr.loadAt 2 t115_35) w fun t116_36 w =>
                    run1 Tryd.prog Z (binOp BinOp.lss 2 t116_36 (Value.int IntKind.i64 0)) w fun t117_37 w =>
                    CondV t117_37 (
                      j_33 t117_37 w) (
                      run1 Tryd.prog Z (Instr.fieldAt 34 t1_1 0) w fun t118_38 w =>
                      run1 Tryd.prog Z (Instr.loadAt 27 t118_38) w fun t119_39 w =>
                      run1 Tryd.prog Z (eqOp BinOp.eql 27 false true t119_39 (Value.int IntKind.i8 8)) w fun t120_40 w =>
                      guardW (t120_40) true (fun k => run1 Tryd.prog Z (Instr.fieldAt 34 t1_1 7) w k) (fun t122_41 w =>
                      guardW (t120_40) true (fun k => run1 Tryd.prog Z (Instr.loadAt 2 t122_41) w k) (fun t123_42 w =>
                      guardW (t120_40) true (fun k => run1 Tryd.prog Z (eqOp BinOp.eql 2 false true t123_42 (Value.int IntKind.i64 0)) w k) (fun t124_43 w =>
                      run1 Tryd.prog Z (pickV t120_40 t124_43 (Value.bool false)) w fun t125_44 w =>
                      CondV t125_44 (
                        j_33 t125_44 w) (
                        runX Tryd.prog Z (callVal t11_7 #[(Value.int IntKind.u64 64)]) w fun t127_45 w =>
                        guardW (t127_45) true (fun k => run1 Tryd.prog Z (Instr.fieldAt 34 t1_1 8) w k) (fun t129_46 w =>
                        guardW (t127_45) true (fun k => run1 Tryd.prog Z (Instr.loadAt 21 t129_46) w k) (fun t130_47 w =>
                        guardW (t127_45) true (fun k => run1 Tryd.prog Z (binOp BinOp.lss 21 t130_47 (Value.int IntKind.i32 1)) w k) (fun t131_48 w =>
                        guardW (t127_45) true (fun k => k (t131_48) w) (fun t132_49 w =>
                        guardW (t132_49) false (fun k => run1 Tryd.prog Z (Instr.fieldAt 34 t1_1 8) w k) (fun t133_50 w =>
                        guardW (t132_49) false (fun k => run1 Tryd.prog Z (Instr.loadAt 21 t133_50) w k) (fun t134_51 w =>
                        guardW (t132_49) false (fun k => run1 Tryd.prog Z (binOp BinOp.gtr 21 t134_51 (Value.int IntKind.i32 1000)) w k) (fun t135_52 w =>
                        guardW (t127_45) true (fun k => run1 Tryd.prog Z (pickV t132_49 (Value.bool true) t135_52) w k) (fun t136_53 w =>
                        run1 Tryd.prog Z (pickV t127_45 t136_53 (Value.bool false)) w fun t137_54 w =>
                        CondV t137_54 (
                          j_33 t137_54 w) (
                          runX Tryd.prog Z (callVal t11_7 #[(Value.int IntKind.u64 256)]) w fun t139_55 w =>
                          guardW (t139_55) true (fun k => run1 Tryd.prog Z (Instr.fieldAt 34 t1_1 10) w k) (fun t141_56 w =>
                          guardW (t139_55) true (fun k => run1 Tryd.prog Z (Instr.loadAt 32 t141_56) w k) (fun t142_57 w =>
                          guardW (t139_55) true (fun k => run1 Tryd.prog Z (Builtin.len_ #[32] 3 #[t142_57]) w k) (fun t143_58 w =>
                          guardW (t139_55) true (fun k => run1 Tryd.prog Z (eqOp BinOp.eql 3 false true t143_58 (Value.int IntKind.i64 0)) w k) (fun t144_59 w =>
                          run1 Tryd.prog Z (pickV t139_55 t144_59 (Value.bool false)) w fun t145_60 w =>
                          j_33 t145_60 w) w) w) w) w)) w) w) w) w) w) w) w) w)) w) w) w))) →
                  j_31 t93_32 w) →
              run1 Tryd.prog Z (Instr.fieldAt 34 t1_1 1) w fun t94_61 w =>
              run1 Tryd.prog Z (Instr.loadAt 9 t94_61) w fun t95_62 w =>
              run1 Tryd.prog Z (Builtin.len_ #[9] 3 #[t95_62]) w fun t96_63 w =>
              run1 Tryd.prog Z (binOp BinOp.gtr 3 t96_63 (Value.int IntKind.i64 64)) w fun t97_64 w =>
              CondV t97_64 (
                j_31 t97_64 w) (
                run1 Tryd.prog Z (Instr.fieldAt 34 t1_1 2) w fun t98_65 w =>
                run1 Tryd.prog Z (Instr.loadAt 22 t98_65) w fun t99_66 w =>
                run1 Tryd.prog Z (Builtin.len_ #[22] 3 #[t99_66]) w fun t100_67 w =>
                run1 Tryd.prog Z (binOp BinOp.gtr 3 t100_67 (Value.int IntKind.i64 96)) w fun t101_68 w =>
                CondV t101_68 (
                  j_31 t101_68 w) (
                  run1 Tryd.prog Z (Instr.fieldAt 34 t1_1 3) w fun t102_69 w =>
                  run1 Tryd.prog Z (Instr.loadAt 30 t102_69) w fun t103_70 w =>
                  run1 Tryd.prog Z (Builtin.len_ #[30] 3 #[t103_70]) w fun t104_71 w =>
                  run1 Tryd.prog Z (binOp BinOp.gtr 3 t104_71 (Value.int IntKind.i64 4)) w fun t105_72 w =>
                  CondV t105_72 (
                    j_31 t105_72 w) (
                    run1 Tryd.prog Z (Instr.fieldAt 34 t1_1 9) w fun t106_73 w =>
                    run1 Tryd.prog Z (Instr.loadAt 31 t106_73) w fun t107_74 w =>
                    run1 Tryd.prog Z (Builtin.len_ #[31] 3 #[t107_74]) w fun t108_75 w =>
                    run1 Tryd.prog Z (binOp BinOp.gtr 3 t108_75 (Value.int IntKind.i64 4)) w fun t109_76 w =>
                    CondV t109_76 (
                      j_31 t109_76 w) (
                      run1 Tryd.prog Z (Instr.fieldAt 34 t1_1 10) w fun t110_77 w =>
                      run1 Tryd.prog Z (Instr.loadAt 32 t110_77) w fun t111_78 w =>
                      run1 Tryd.prog Z (Builtin.len_ #[32] 3 #[t111_78]) w fun t112_79 w =>
                      run1 Tryd.prog Z (binOp BinOp.gtr 3 t112_79 (Value.int IntKind.i64 8)) w fun t113_80 w =>
                      j_31 t113_80 w)))))) →
            j_29 t47_30 w) →
        runX Tryd.prog Z (callVal t11_7 #[(Value.int IntKind.u64 16)]) w fun t49_81 w =>
        run1 Tryd.prog Z (Op.unary UnOp.not t49_81) w fun t50_82 w =>
        guardW (t50_82) true (fun k => run1 Tryd.prog Z (Instr.fieldAt 34 t1_1 5) w k) (fun t52_83 w =>
        guardW (t50_82) true (fun k => run1 Tryd.prog Z (Instr.loadAt 4 t52_83) w k) (fun t53_84 w =>
        guardW (t50_82) true (fun k => k (t53_84) w) (fun t54_85 w =>
        guardW (t54_85) false (fun k => run1 Tryd.prog Z (Instr.fieldAt 34 t1_1 6) w k) (fun t55_86 w =>
        guardW (t54_85) false (fun k => run1 Tryd.prog Z (Instr.loadAt 4 t55_86) w k) (fun t56_87 w =>
        guardW (t50_82) true (fun k => run1 Tryd.prog Z (pickV t54_85 (Value.bool true) t56_87) w k) (fun t57_88 w =>
        run1 Tryd.prog Z (pickV t50_82 t57_88 (Value.bool false)) w fun t58_89 w =>
        CondV t58_89 (
          j_29 t58_89 w) (
          runX Tryd.prog Z (callVal t11_7 #[(Value.int IntKind.u64 32)]) w fun t60_90 w =>
          run1 Tryd.prog Z (Op.unary UnOp.not t60_90) w fun t61_91 w =>
          guardW (t61_91) true (fun k => run1 Tryd.prog Z (Instr.fieldAt 34 t1_1 7) w k) (fun t63_92 w =>
          guardW (t61_91) true (fun k => run1 Tryd.prog Z (Instr.loadAt 2 t63_92) w k) (fun t64_93 w =>
          guardW (t61_91) true (fun k => run1 Tryd.prog Z (eqOp BinOp.neq 2 false true t64_93 (Value.int IntKind.i64 0)) w k) (fun t65_94 w =>
          run1 Tryd.prog Z (pickV t61_91 t65_94 (Value.bool false)) w fun t66_95 w =>
          CondV t66_95 (
            j_29 t66_95 w) (
            runX Tryd.prog Z (callVal t11_7 #[(Value.int IntKind.u64 64)]) w fun t68_96 w =>
            run1 Tryd.prog Z (Op.unary UnOp.not t68_96) w fun t69_97 w =>
            guardW (t69_97) true (fun k => run1 Tryd.prog Z (Instr.fieldAt 34 t1_1 8) w k) (fun t71_98 w =>
            guardW (t69_97) true (fun k => run1 Tryd.prog Z (Instr.loadAt 21 t71_98) w k) (fun t72_99 w =>
            guardW (t69_97) true (fun k => run1 Tryd.prog Z (eqOp BinOp.neq 21 false true t72_99 (Value.int IntKind.i32 0)) w k) (fun t73_100 w =>
            run1 Tryd.prog Z (pickV t69_97 t73_100 (Value.bool false)) w fun t74_101 w =>
            CondV t74_101 (
              j_29 t74_101 w) (
              runX Tryd.prog Z (callVal t11_7 #[(Value.int IntKind.u64 128)]) w fun t76_102 w =>
              run1 Tryd.prog Z (Op.unary UnOp.not t76_102) w fun t77_103 w =>
              guardW (t77_103) true (fun k => run1 Tryd.prog Z (Instr.fieldAt 34 t1_1 9) w k) (fun t79_104 w =>
              guardW (t77_103) true (fun k => run1 Tryd.prog Z (Instr.loadAt 31 t79_104) w k) (fun t80_105 w =>
              guardW (t77_103) true (fun k => run1 Tryd.prog Z (Builtin.len_ #[31] 3 #[t80_105]) w k) (fun t81_106 w =>
              guardW (t77_103) true (fun k => run1 Tryd.prog Z (binOp BinOp.gtr 3 t81_106 (Value.int IntKind.i64 0)) w k) (fun t82_107 w =>
              run1 Tryd.prog Z (pickV t77_103 t82_107 (Value.bool false)) w fun t83_108 w =>
              CondV t83_108 (
                j_29 t83_108 w) (
                runX Tryd.prog Z (callVal t11_7 #[(Value.int IntKind.u64 256)]) w fun t85_109 w =>
                run1 Tryd.prog Z (Op.unary UnOp.not t85_109) w fun t86_110 w =>
                guardW (t86_110) true (fun k => run1 Tryd.prog Z (Instr.fieldAt 34 t1_1 10) w k) (fun t88_111 w =>
                guardW (t86_110) true (fun k => run1 Tryd.prog Z (Instr.loadAt 32 t88_111) w k) (fun t89_112 w =>
                guardW (t86_110) true (fun k => run1 Tryd.prog Z (Builtin.len_ #[32] 3 #[t89_112]) w k) (fun t90_113 w =>
                guardW (t86_110) true (fun k => run1 Tryd.prog Z (binOp BinOp.gtr 3 t90_113 (Value.int IntKind.i64 0)) w k) (fun t91_114 w =>
                run1 Tryd.prog Z (pickV t86_110 t91_114 (Value.bool false)) w fun t92_115 w =>
                j_29 t92_115 w) w) w) w) w)) w) w) w) w)) w) w) w)) w) w) w)) w) w) w) w) w) w)) →
      j_27 t12_28 w) →
  runX Tryd.prog Z (callVal t11_7 #[(Value.int IntKind.u64 1)]) w fun t14_116 w =>
  run1 Tryd.prog Z (Op.unary UnOp.not t14_116) w fun t15_117 w =>
  guardW (t15_117) true (fun k => run1 Tryd.prog Z (Instr.fieldAt 34 t1_1 1) w k) (fun t17_118 w =>
  guardW (t15_117) true (fun k => run1 Tryd.prog Z (Instr.loadAt 9 t17_118) w k) (fun t18_119 w =>
  guardW (t15_117) true (fun k => run1 Tryd.prog Z (eqOp BinOp.neq 9 false true t18_119 (Value.string { data := #[] })) w k) (fun t19_120 w =>
  run1 Tryd.prog Z (pickV t15_117 t19_120 (Value.bool false)) w fun t20_121 w =>
  CondV t20_121 (
    j_27 t20_121 w) (
    runX Tryd.prog Z (callVal t11_7 #[(Value.int IntKind.u64 2)]) w fun t22_122 w =>
    run1 Tryd.prog Z (Op.unary UnOp.not t22_122) w fun t23_123 w =>
    guardW (t23_123) true (fun k => run1 Tryd.prog Z (Instr.fieldAt 34 t1_1 2) w k) (fun t25_124 w =>
    guardW (t23_123) true (fun k => run1 Tryd.prog Z (Instr.loadAt 22 t25_124) w k) (fun t26_125 w =>
    guardW (t23_123) true (fun k => run1 Tryd.prog Z (Builtin.len_ #[22] 3 #[t26_125]) w k) (fun t27_126 w =>
    guardW (t23_123) true (fun k => run1 Tryd.prog Z (binOp BinOp.gtr 3 t27_126 (Value.int IntKind.i64 0)) w k) (fun t28_127 w =>
    run1 Tryd.prog Z (pickV t23_123 t28_127 (Value.bool false)) w fun t29_128 w =>
    CondV t29_128 (
      j_27 t29_128 w) (
      runX Tryd.prog Z (callVal t11_7 #[(Value.int IntKind.u64 4)]) w fun t31_129 w =>
      run1 Tryd.prog Z (Op.unary UnOp.not t31_129) w fun t32_130 w =>
      guardW (t32_130) true (fun k => run1 Tryd.prog Z (Instr.fieldAt 34 t1_1 3) w k) (fun t34_131 w =>
      guardW (t32_130) true (fun k => run1 Tryd.prog Z (Instr.loadAt 30 t34_131) w k) (fun t35_132 w =>
      guardW (t32_130) true (fun k => run1 Tryd.prog Z (Builtin.len_ #[30] 3 #[t35_132]) w k) (fun t36_133 w =>
      guardW (t32_130) true (fun k => run1 Tryd.prog Z (binOp BinOp.gtr 3 t36_133 (Value.int IntKind.i64 0)) w k) (fun t37_134 w =>
      run1 Tryd.prog Z (pickV t32_130 t37_134 (Value.bool false)) w fun t38_135 w =>
      CondV t38_135 (
        j_27 t38_135 w) (
        runX Tryd.prog Z (callVal t11_7 #[(Value.int IntKind.u64 8)]) w fun t40_136 w =>
        run1 Tryd.prog Z (Op.unary UnOp.not t40_136) w fun t41_137 w =>
        guardW (t41_137) true (fun k => run1 Tryd.prog Z (Instr.fieldAt 34 t1_1 4) w k) (fun t43_138 w =>
        guardW (t41_137) true (fun k => run1 Tryd.prog Z (Instr.loadAt 21 t43_138) w k) (fun t44_139 w =>
        guardW (t41_137) true (fun k => run1 Tryd.prog Z (eqOp BinOp.neq 21 false true t44_139 (Value.int IntKind.i32 0)) w k) (fun t45_140 w =>
        run1 Tryd.prog Z (pickV t41_137 t45_140 (Value.bool false)) w fun t46_141 w =>
        j_27 t46_141 w) w) w) w)) w) w) w) w)) w) w) w) w)) w) w) w
noncomputable def f59.code : Code := match Tryd.f59.body with | some c => c | none => .skip
def f59.an : An := (.sq .leaf (.sq .leaf (.sq .leaf (.sj [] [2, 12, 13, 14, 15, 16, 17, 18, 19, 20, 21, 22, 23, 24, 25, 26, 27, 28, 29, 30, 31, 32, 33, 34, 35, 36, 37, 38, 39, 40, 41, 42, 43, 44, 45, 46, 47, 48, 49, 50, 51, 52, 53, 54, 55, 56, 57, 58, 59, 60, 61, 62, 63, 64, 65, 66, 67, 68, 69, 70, 71, 72, 73, 74, 75, 76, 77, 78, 79, 80, 81, 82, 83, 84, 85, 86, 87, 88, 89, 90, 91, 92, 93, 94, 95, 96, 97, 98, 99, 100, 101, 102, 103, 104, 105, 106, 107, 108, 109, 110, 111, 112, 113, 114, 115, 116, 117, 118, 119, 120, 121, 122, 123, 124, 125, 126, 127, 128, 129, 130, 131, 132, 133, 134, 135, 136, 137, 138, 139, 140, 141, 142, 143, 144, 145] (.bl (.sj [12] [12, 13, 14, 15, 16, 17, 18, 19, 20, 21, 22, 23, 24, 25, 26, 27, 28, 29, 30, 31, 32, 33, 34, 35, 36, 37, 38, 39, 40, 41, 42, 43, 44, 45, 46] (.sq .leaf (.cn .leaf (.sq .leaf (.cn .leaf (.sq .leaf (.cn .leaf .leaf)))))) (.cn (.sq .leaf .leaf) (.sj [47] [47, 48, 49, 50, 51, 52, 53, 54, 55, 56, 57, 58, 59, 60, 61, 62, 63, 64, 65, 66, 67, 68, 69, 70, 71, 72, 73, 74, 75, 76, 77, 78, 79, 80, 81, 82, 83, 84, 85, 86, 87, 88, 89, 90, 91, 92] (.sq .leaf (.cn .leaf (.sq .leaf (.cn .leaf (.sq .leaf (.cn .leaf (.sq .leaf (.cn .leaf .leaf)))))))) (.cn (.sq .leaf .leaf) (.sj [93] [93, 94, 95, 96, 97, 98, 99, 100, 101, 102, 103, 104, 105, 106, 107, 108, 109, 110, 111, 112, 113] (.sq .leaf (.cn .leaf (.sq .leaf (.cn .leaf (.sq .leaf (.cn .leaf (.sq .leaf (.cn .leaf .leaf)))))))) (.cn (.sq .leaf .leaf) (.sj [114] [114, 115, 116, 117, 118, 119, 120, 121, 122, 123, 124, 125, 126, 127, 128, 129, 130, 131, 132, 133, 134, 135, 136, 137, 138, 139, 140, 141, 142, 143, 144, 145] (.sq .leaf (.cn .leaf (.sq .leaf (.cn .leaf (.sq .leaf (.cn .leaf .leaf)))))) (.cn (.sq .leaf .leaf) .leaf))))))))) (.sq (.sq .leaf (.bl (.lp [149] [2, 6, 149, 150, 151, 152, 153, 154, 155, 156, 157] (.sq .leaf (.sq (.cn .leaf .leaf) (.sq (.bl (.sq .leaf (.sq .leaf (.cn (.sq .leaf .leaf) .leaf)))) .leaf)))))) (.sq .leaf .leaf))))))
theorem f59.body_eq : Tryd.f59.body = some f59.code := by kernel_rfl
theorem f59.shape (Z : List PanicEntry → World → Prop) (x0 : Value) (w : World) (Q : Value → World → Prop) : vc drawD Tryd.prog 162 Z [105, 106] f59.an f59.code (fnQ Tryd.prog 162 Tryd.f59.results Q) (argEnv [x0]) w = f59.sh Z x0 w Q := by kernel_rfl
theorem f59.enters : ∀ f, f ∈ ([105, 106] : List Nat) → Enters Tryd.prog f := by
  intro f hf
  simp only [List.mem_cons, List.not_mem_nil, or_false] at hf
  rcases hf with rfl | rfl
  · exact en105
  · exact en106
theorem f59.calls {Z : List PanicEntry → World → Prop} {x0 : Value} {w : World} {Q : Value → World → Prop} (h : f59.sh Z x0 w Q) : CallV Tryd.prog Z 59 #[x0] w Q :=
  calls_of_vcn drawD_sound (Q := Q) (n := 162) (rs := Tryd.f59.results) (an := f59.an) (c := f59.code) (cal := [105, 106]) (args := [x0]) Tryd.func59 (by kernel_rfl) rfl f59.body_eq follows (Nat.le_of_ble_eq_true (by kernel_rfl)) (enters_of_all f59.enters) ((f59.shape Z x0 w Q).mpr h)

/-! ### 60: lagoon/txn.isOp -/
def f60.sh (Z : List PanicEntry → World → Prop) (x0 : Value) (w : World) (Q : Value → World → Prop) : Prop :=
  run1 Tryd.prog Z (Instr.box 34 x0) w fun t1_1 w =>
  run1 Tryd.prog Z (Instr.fieldAt 34 t1_1 0) w fun t3_2 w =>
  run1 Tryd.prog Z (Instr.loadAt 27 t3_2) w fun t4_3 w =>
  run1 Tryd.prog Z (binOp BinOp.geq 27 t4_3 (Value.int IntKind.i8 1)) w fun t5_4 w =>
  guardW (t5_4) true (fun k => run1 Tryd.prog Z (Instr.fieldAt 34 t1_1 0) w k) (fun t7_5 w =>
  guardW (t5_4) true (fun k => run1 Tryd.prog Z (Instr.loadAt 27 t7_5) w k) (fun t8_6 w =>
  guardW (t5_4) true (fun k => run1 Tryd.prog Z (binOp BinOp.leq 27 t8_6 (Value.int IntKind.i8 5)) w k) (fun t9_7 w =>
  run1 Tryd.prog Z (pickV t5_4 t9_7 (Value.bool false)) w fun t10_8 w =>
  guardW (t10_8) true (fun k => run1 Tryd.prog Z (Instr.fieldAt 34 t1_1 7) w k) (fun t12_9 w =>
  guardW (t10_8) true (fun k => run1 Tryd.prog Z (Instr.loadAt 2 t12_9) w k) (fun t13_10 w =>
  guardW (t10_8) true (fun k => run1 Tryd.prog Z (eqOp BinOp.eql 2 false true t13_10 (Value.int IntKind.i64 0)) w k) (fun t14_11 w =>
  run1 Tryd.prog Z (pickV t10_8 t14_11 (Value.bool false)) w fun t15_12 w =>
  guardW (t15_12) true (fun k => run1 Tryd.prog Z (Instr.fieldAt 34 t1_1 9) w k) (fun t17_13 w =>
  guardW (t15_12) true (fun k => run1 Tryd.prog Z (Instr.loadAt 31 t17_13) w k) (fun t18_14 w =>
  guardW (t15_12) true (fun k => run1 Tryd.prog Z (Builtin.len_ #[31] 3 #[t18_14]) w k) (fun t19_15 w =>
  guardW (t15_12) true (fun k => run1 Tryd.prog Z (eqOp BinOp.eql 3 false true t19_15 (Value.int IntKind.i64 0)) w k) (fun t20_16 w =>
  run1 Tryd.prog Z (pickV t15_12 t20_16 (Value.bool false)) w fun t21_17 w =>
  guardW (t21_17) true (fun k => run1 Tryd.prog Z (Instr.loadAt 34 t1_1) w k) (fun t23_18 w =>
  guardW (t21_17) true (fun k => CallV Tryd.prog Z 59 #[t23_18] w k) (fun t24_19 w =>
  run1 Tryd.prog Z (pickV t21_17 t24_19 (Value.bool false)) w fun t25_20 w =>
  Q t25_20 w) w) w) w) w) w) w) w) w) w) w) w) w
noncomputable def f60.code : Code := match Tryd.f60.body with | some c => c | none => .skip
def f60.an : An := (.sq .leaf (.sq .leaf .leaf))
theorem f60.body_eq : Tryd.f60.body = some f60.code := by kernel_rfl
theorem f60.shape (Z : List PanicEntry → World → Prop) (x0 : Value) (w : World) (Q : Value → World → Prop) : vc drawD Tryd.prog 26 Z [59] f60.an f60.code (fnQ Tryd.prog 26 Tryd.f60.results Q) (argEnv [x0]) w = f60.sh Z x0 w Q := by kernel_rfl
theorem f60.enters : ∀ f, f ∈ ([59] : List Nat) → Enters Tryd.prog f := by
  intro f hf
  simp only [List.mem_cons, List.not_mem_nil, or_false] at hf
  rcases hf with rfl
  · exact en59
theorem f60.calls {Z : List PanicEntry → World → Prop} {x0 : Value} {w : World} {Q : Value → World → Prop} (h : f60.sh Z x0 w Q) : CallV Tryd.prog Z 60 #[x0] w Q :=
  calls_of_vcn drawD_sound (Q := Q) (n := 26) (rs := Tryd.f60.results) (an := f60.an) (c := f60.code) (cal := [59]) (args := [x0]) Tryd.func60 (by kernel_rfl) rfl f60.body_eq follows (Nat.le_of_ble_eq_true (by kernel_rfl)) (enters_of_all f60.enters) ((f60.shape Z x0 w Q).mpr h)

/-! ### 61: lagoon/lagoonref00.SpareBytes -/
def f61.sh (Z : List PanicEntry → World → Prop) (x0 : Value) (w : World) (Q : Value → World → Prop) : Prop :=
  run1 Tryd.prog Z (Builtin.len_ #[22] 3 #[x0]) w fun t7_1 w =>
  run1 Tryd.prog Z (binOp BinOp.add 3 t7_1 (Value.int IntKind.i64 64)) w fun t8_2 w =>
  run1 Tryd.prog Z (Instr.sliceAt 22 x0 none (some t8_2) none) w fun t9_3 w =>
  run1 Tryd.prog Z (Builtin.len_ #[22] 3 #[x0]) w fun t11_4 w =>
  ∃ J_5 : Nat → Value → World → Prop, (∃ m, J_5 m t11_4 w) ∧
    ∀ m_5, ∀ t4_6 : Value, ∀ w : World, J_5 m_5 t4_6 w → Env →
      run1 Tryd.prog Z (Builtin.len_ #[22] 3 #[t9_3]) w fun t14_7 w =>
      run1 Tryd.prog Z (binOp BinOp.lss 3 t4_6 t14_7) w fun t15_8 w =>
      CondV t15_8 (
        run1 Tryd.prog Z (Instr.indexAt 22 t9_3 t4_6) w fun t20_9 w =>
        run1 Tryd.prog Z (Instr.loadAt 5 t20_9) w fun t21_10 w =>
        run1 Tryd.prog Z (binOp BinOp.rem 3 t4_6 (Value.int IntKind.i64 5)) w fun t23_11 w =>
        run1 Tryd.prog Z (binOp BinOp.add 3 (Value.int IntKind.i64 170) t23_11) w fun t24_12 w =>
        run1 Tryd.prog Z (convert 3 5 t24_12) w fun t25_13 w =>
        run1 Tryd.prog Z (eqOp BinOp.neq 5 false false t21_10 t25_13) w fun t26_14 w =>
        CondV t26_14 (
          Q (Value.bool false) w) (
          run1 Tryd.prog Z (binOp BinOp.add 3 t4_6 (Value.int IntKind.i64 1)) w fun t17_15 w =>
          ∃ n_5, n_5 < m_5 ∧ J_5 n_5 t17_15 w)) (
        Q (Value.bool true) w)
noncomputable def f61.code : Code := match Tryd.f61.body with | some c => c | none => .skip
def f61.an : An := (.sq .leaf (.sq .leaf (.sq (.sq .leaf (.bl (.lp [4] [2, 4, 12, 13, 14, 15, 16, 17, 18, 19, 20, 21, 22, 23, 24, 25, 26] (.sq (.sq .leaf (.cn .leaf .leaf)) (.sq (.bl (.sq .leaf (.cn (.sq .leaf .leaf) .leaf))) .leaf))))) (.sq .leaf .leaf))))
theorem f61.body_eq : Tryd.f61.body = some f61.code := by kernel_rfl
theorem f61.shape (Z : List PanicEntry → World → Prop) (x0 : Value) (w : World) (Q : Value → World → Prop) : vc drawD Tryd.prog 27 Z [] f61.an f61.code (fnQ Tryd.prog 27 Tryd.f61.results Q) (argEnv [x0]) w = f61.sh Z x0 w Q := by kernel_rfl
theorem f61.enters : ∀ f, f ∈ ([] : List Nat) → Enters Tryd.prog f := by
  intro f hf
  cases hf
theorem f61.calls {Z : List PanicEntry → World → Prop} {x0 : Value} {w : World} {Q : Value → World → Prop} (h : f61.sh Z x0 w Q) : CallV Tryd.prog Z 61 #[x0] w Q :=
  calls_of_vcn drawD_sound (Q := Q) (n := 27) (rs := Tryd.f61.results) (an := f61.an) (c := f61.code) (cal := []) (args := [x0]) Tryd.func61 (by kernel_rfl) rfl f61.body_eq follows (Nat.le_of_ble_eq_true (by kernel_rfl)) (enters_of_all f61.enters) ((f61.shape Z x0 w Q).mpr h)

/-! ### 62: lagoon/lagoonref00.SpareAcl -/
def f62.sh (Z : List PanicEntry → World → Prop) (x0 : Value) (w : World) (Q : Value → World → Prop) : Prop :=
  run1 Tryd.prog Z (Builtin.len_ #[30] 3 #[x0]) w fun t7_1 w =>
  run1 Tryd.prog Z (binOp BinOp.add 3 t7_1 (Value.int IntKind.i64 64)) w fun t8_2 w =>
  run1 Tryd.prog Z (Instr.sliceAt 30 x0 none (some t8_2) none) w fun t9_3 w =>
  run1 Tryd.prog Z (Builtin.len_ #[30] 3 #[x0]) w fun t11_4 w =>
  ∃ J_5 : Nat → Value → World → Prop, (∃ m, J_5 m t11_4 w) ∧
    ∀ m_5, ∀ t4_6 : Value, ∀ w : World, J_5 m_5 t4_6 w → Env →
      run1 Tryd.prog Z (Builtin.len_ #[30] 3 #[t9_3]) w fun t14_7 w =>
      run1 Tryd.prog Z (binOp BinOp.lss 3 t4_6 t14_7) w fun t15_8 w =>
      CondV t15_8 (
        Drawn w fun w =>
        Pure1 Tryd.prog (Instr.indexAt 30 t9_3 t4_6) fun t20_9 =>
        Pure1 Tryd.prog (Instr.fieldAt 105 t20_9 1) fun t21_10 =>
        Pure1 Tryd.prog (Instr.fieldAt 103 t21_10 1) fun t22_11 =>
        Read1 Tryd.prog (Instr.loadAt 9 t22_11) w fun t23_12 =>
        Pure1 Tryd.prog (binOp BinOp.sub 3 (Value.int IntKind.i64 (-3000000)) t4_6) fun t25_13 =>
        CallV Tryd.prog Z 108 #[t25_13] w fun t26_14 w =>
          Still Tryd.prog (nx (Instr.loadAt 9 t22_11)) t23_12 w <|
        Pure1 Tryd.prog (eqOp BinOp.eql 9 false false t23_12 t26_14) fun t27_15 =>
        Pure1 Tryd.prog (Op.unary UnOp.not t27_15) fun t28_16 =>
        CondV t28_16 (
          Q (Value.bool false) w) (
          run1 Tryd.prog Z (binOp BinOp.add 3 t4_6 (Value.int IntKind.i64 1)) w fun t17_17 w =>
          ∃ n_5, n_5 < m_5 ∧ J_5 n_5 t17_17 w)) (
        Q (Value.bool true) w)
noncomputable def f62.code : Code := match Tryd.f62.body with | some c => c | none => .skip
def f62.an : An := (.sq .leaf (.sq .leaf (.sq (.sq .leaf (.bl (.lp [4] [2, 4, 12, 13, 14, 15, 16, 17, 18, 19, 20, 21, 22, 23, 24, 25, 26, 27, 28] (.sq (.sq .leaf (.cn .leaf .leaf)) (.sq (.bl (.sq (.dr (.take 0 false (.take 1 false (.take 2 false (.take 3 false (.take 4 false (.take 5 true (.take 6 false (.take 7 false (.one 8 (.take 9 false (.take 10 false .fin)))))))))))) (.cn (.sq .leaf .leaf) .leaf))) .leaf))))) (.sq .leaf .leaf))))
theorem f62.body_eq : Tryd.f62.body = some f62.code := by kernel_rfl
theorem f62.shape (Z : List PanicEntry → World → Prop) (x0 : Value) (w : World) (Q : Value → World → Prop) : vc drawD Tryd.prog 29 Z [108] f62.an f62.code (fnQ Tryd.prog 29 Tryd.f62.results Q) (argEnv [x0]) w = f62.sh Z x0 w Q := by kernel_rfl
theorem f62.enters : ∀ f, f ∈ ([108] : List Nat) → Enters Tryd.prog f := by
  intro f hf
  simp only [List.mem_cons, List.not_mem_nil, or_false] at hf
  rcases hf with rfl
  · exact en108
theorem f62.calls {Z : List PanicEntry → World → Prop} {x0 : Value} {w : World} {Q : Value → World → Prop} (h : f62.sh Z x0 w Q) : CallV Tryd.prog Z 62 #[x0] w Q :=
  calls_of_vcn drawD_sound (Q := Q) (n := 29) (rs := Tryd.f62.results) (an := f62.an) (c := f62.code) (cal := [108]) (args := [x0]) Tryd.func62 (by kernel_rfl) rfl f62.body_eq follows (Nat.le_of_ble_eq_true (by kernel_rfl)) (enters_of_all f62.enters) ((f62.shape Z x0 w Q).mpr h)

/-! ### 63: lagoon/lagoonref00.SpareIds -/
def f63.sh (Z : List PanicEntry → World → Prop) (x0 : Value) (w : World) (Q : Value → World → Prop) : Prop :=
  run1 Tryd.prog Z (Builtin.len_ #[31] 3 #[x0]) w fun t7_1 w =>
  run1 Tryd.prog Z (binOp BinOp.add 3 t7_1 (Value.int IntKind.i64 64)) w fun t8_2 w =>
  run1 Tryd.prog Z (Instr.sliceAt 31 x0 none (some t8_2) none) w fun t9_3 w =>
  run1 Tryd.prog Z (Builtin.len_ #[31] 3 #[x0]) w fun t11_4 w =>
  ∃ J_5 : Nat → Value → World → Prop, (∃ m, J_5 m t11_4 w) ∧
    ∀ m_5, ∀ t4_6 : Value, ∀ w : World, J_5 m_5 t4_6 w → Env →
      run1 Tryd.prog Z (Builtin.len_ #[31] 3 #[t9_3]) w fun t14_7 w =>
      run1 Tryd.prog Z (binOp BinOp.lss 3 t4_6 t14_7) w fun t15_8 w =>
      CondV t15_8 (
        Drawn w fun w =>
        Pure1 Tryd.prog (Instr.indexAt 31 t9_3 t4_6) fun t20_9 =>
        Pure1 Tryd.prog (Instr.fieldAt 103 t20_9 1) fun t21_10 =>
        Read1 Tryd.prog (Instr.loadAt 9 t21_10) w fun t22_11 =>
        Pure1 Tryd.prog (binOp BinOp.sub 3 (Value.int IntKind.i64 (-3000000)) t4_6) fun t24_12 =>
        CallV Tryd.prog Z 108 #[t24_12] w fun t25_13 w =>
          Still Tryd.prog (nx (Instr.loadAt 9 t21_10)) t22_11 w <|
        Pure1 Tryd.prog (eqOp BinOp.eql 9 false false t22_11 t25_13) fun t26_14 =>
        Pure1 Tryd.prog (Op.unary UnOp.not t26_14) fun t27_15 =>
        CondV t27_15 (
          Q (Value.bool false) w) (
          run1 Tryd.prog Z (binOp BinOp.add 3 t4_6 (Value.int IntKind.i64 1)) w fun t17_16 w =>
          ∃ n_5, n_5 < m_5 ∧ J_5 n_5 t17_16 w)) (
        Q (Value.bool true) w)
noncomputable def f63.code : Code := match Tryd.f63.body with | some c => c | none => .skip
def f63.an : An := (.sq .leaf (.sq .leaf (.sq (.sq .leaf (.bl (.lp [4] [2, 4, 12, 13, 14, 15, 16, 17, 18, 19, 20, 21, 22, 23, 24, 25, 26, 27] (.sq (.sq .leaf (.cn .leaf .leaf)) (.sq (.bl (.sq (.dr (.take 0 false (.take 1 false (.take 2 false (.take 3 false (.take 4 true (.take 5 false (.take 6 false (.one 7 (.take 8 false (.take 9 false .fin))))))))))) (.cn (.sq .leaf .leaf) .leaf))) .leaf))))) (.sq .leaf .leaf))))
theorem f63.body_eq : Tryd.f63.body = some f63.code := by kernel_rfl
theorem f63.shape (Z : List PanicEntry → World → Prop) (x0 : Value) (w : World) (Q : Value → World → Prop) : vc drawD Tryd.prog 28 Z [108] f63.an f63.code (fnQ Tryd.prog 28 Tryd.f63.results Q) (argEnv [x0]) w = f63.sh Z x0 w Q := by kernel_rfl
theorem f63.enters : ∀ f, f ∈ ([108] : List Nat) → Enters Tryd.prog f := by
  intro f hf
  simp only [List.mem_cons, List.not_mem_nil, or_false] at hf
  rcases hf with rfl
  · exact en108
theorem f63.calls {Z : List PanicEntry → World → Prop} {x0 : Value} {w : World} {Q : Value → World → Prop} (h : f63.sh Z x0 w Q) : CallV Tryd.prog Z 63 #[x0] w Q :=
  calls_of_vcn drawD_sound (Q := Q) (n := 28) (rs := Tryd.f63.results) (an := f63.an) (c := f63.code) (cal := [108]) (args := [x0]) Tryd.func63 (by kernel_rfl) rfl f63.body_eq follows (Nat.le_of_ble_eq_true (by kernel_rfl)) (enters_of_all f63.enters) ((f63.shape Z x0 w Q).mpr h)

/-! ### 64: lagoon/lagoonref00.SpareRequests -/
def f64.sh (Z : List PanicEntry → World → Prop) (x0 : Value) (w : World) (Q : Value → World → Prop) : Prop :=
  run1 Tryd.prog Z (Builtin.len_ #[32] 3 #[x0]) w fun t9_1 w =>
  run1 Tryd.prog Z (binOp BinOp.add 3 t9_1 (Value.int IntKind.i64 64)) w fun t10_2 w =>
  run1 Tryd.prog Z (Instr.sliceAt 32 x0 none (some t10_2) none) w fun t11_3 w =>
  run1 Tryd.prog Z (Builtin.len_ #[32] 3 #[x0]) w fun t13_4 w =>
  ∃ J_5 : Nat → Value → World → Prop, (∃ m, J_5 m t13_4 w) ∧
    ∀ m_5, ∀ t4_6 : Value, ∀ w : World, J_5 m_5 t4_6 w → Env →
      run1 Tryd.prog Z (Builtin.len_ #[32] 3 #[t11_3]) w fun t16_7 w =>
      run1 Tryd.prog Z (binOp BinOp.lss 3 t4_6 t16_7) w fun t17_8 w =>
      CondV t17_8 (
        run1 Tryd.prog Z (Instr.indexAt 32 t11_3 t4_6) w fun t22_9 w =>
        run1 Tryd.prog Z (Instr.fieldAt 34 t22_9 7) w fun t23_10 w =>
        run1 Tryd.prog Z (Instr.loadAt 2 t23_10) w fun t24_11 w =>
        run1 Tryd.prog Z (binOp BinOp.sub 3 (Value.int IntKind.i64 (-3000000)) t4_6) w fun t26_12 w =>
        run1 Tryd.prog Z (eqOp BinOp.eql 2 false false t24_11 t26_12) w fun t27_13 w =>
        run1 Tryd.prog Z (Op.unary UnOp.not t27_13) w fun t28_14 w =>
        CondV t28_14 (
          Q (Value.bool false) w) (
          run1 Tryd.prog Z (binOp BinOp.add 3 t4_6 (Value.int IntKind.i64 1)) w fun t19_15 w =>
          ∃ n_5, n_5 < m_5 ∧ J_5 n_5 t19_15 w)) (
        ∃ J_16 : Nat → Value → World → Prop, (∃ m, J_16 m (Value.int IntKind.i64 0) w) ∧
          ∀ m_16, ∀ t5_17 : Value, ∀ w : World, J_16 m_16 t5_17 w → Env →
            run1 Tryd.prog Z (Builtin.len_ #[32] 3 #[x0]) w fun t31_18 w =>
            run1 Tryd.prog Z (binOp BinOp.lss 3 t5_17 t31_18) w fun t32_19 w =>
            CondV t32_19 (
              run1 Tryd.prog Z (Instr.indexAt 32 x0 t5_17) w fun t37_20 w =>
              run1 Tryd.prog Z (Instr.loadAt 34 t37_20) w fun t38_21 w =>
              CallV Tryd.prog Z 33 #[t38_21] w fun t39_22 w =>
              run1 Tryd.prog Z (Op.unary UnOp.not t39_22) w fun t41_23 w =>
              CondV t41_23 (
                Q (Value.bool false) w) (
                run1 Tryd.prog Z (binOp BinOp.add 3 t5_17 (Value.int IntKind.i64 1)) w fun t34_24 w =>
                ∃ n_16, n_16 < m_16 ∧ J_16 n_16 t34_24 w)) (
              Q (Value.bool true) w))
noncomputable def f64.code : Code := match Tryd.f64.body with | some c => c | none => .skip
def f64.an : An := (.sq .leaf (.sq .leaf (.sq (.sq .leaf (.bl (.lp [4] [2, 4, 14, 15, 16, 17, 18, 19, 20, 21, 22, 23, 24, 25, 26, 27, 28] (.sq (.sq .leaf (.cn .leaf .leaf)) (.sq (.bl (.sq .leaf (.cn (.sq .leaf .leaf) .leaf))) .leaf))))) (.sq (.sq .leaf (.bl (.lp [5] [2, 5, 6, 29, 30, 31, 32, 33, 34, 35, 36, 37, 38, 39, 40, 41] (.sq (.sq .leaf (.cn .leaf .leaf)) (.sq (.bl (.sq .leaf (.sq .leaf (.cn (.sq .leaf .leaf) .leaf)))) .leaf))))) (.sq .leaf .leaf)))))
theorem f64.body_eq : Tryd.f64.body = some f64.code := by kernel_rfl
theorem f64.shape (Z : List PanicEntry → World → Prop) (x0 : Value) (w : World) (Q : Value → World → Prop) : vc drawD Tryd.prog 42 Z [33] f64.an f64.code (fnQ Tryd.prog 42 Tryd.f64.results Q) (argEnv [x0]) w = f64.sh Z x0 w Q := by kernel_rfl
theorem f64.enters : ∀ f, f ∈ ([33] : List Nat) → Enters Tryd.prog f := by
  intro f hf
  simp only [List.mem_cons, List.not_mem_nil, or_false] at hf
  rcases hf with rfl
  · exact en33
theorem f64.calls {Z : List PanicEntry → World → Prop} {x0 : Value} {w : World} {Q : Value → World → Prop} (h : f64.sh Z x0 w Q) : CallV Tryd.prog Z 64 #[x0] w Q :=
  calls_of_vcn drawD_sound (Q := Q) (n := 42) (rs := Tryd.f64.results) (an := f64.an) (c := f64.code) (cal := [33]) (args := [x0]) Tryd.func64 (by kernel_rfl) rfl f64.body_eq follows (Nat.le_of_ble_eq_true (by kernel_rfl)) (enters_of_all f64.enters) ((f64.shape Z x0 w Q).mpr h)

end Go.Proofs.YtfjolpjlajjigaaDoor
