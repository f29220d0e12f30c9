import Derived.Test.YtfjolpjlajjigaaDoorShBase
set_option linter.unusedVariables false
namespace Go.Proofs.YtfjolpjlajjigaaDoor
open Go.Sh
/-! ### 5: lagoon/lagoonlaw04.TxnPacked -/
def f5.sh (Z : List PanicEntry → World → Prop) (x0 x1 : Value) (w : World) (Q : Value → World → Prop) : Prop :=
  run1 Tryd.prog Z (Instr.box 26 x0) w fun t2_1 w =>
  run1 Tryd.prog Z (Instr.box 26 x1) w fun t3_2 w =>
  CallV Tryd.prog Z 10 #[] w fun t14_3 w =>
  run1 Tryd.prog Z (Instr.loadAt 26 t2_1) w fun t16_4 w =>
  CallV Tryd.prog Z 20 #[t16_4] w fun t17_5 w =>
  run1 Tryd.prog Z (Instr.extract t17_5 0) w fun t18_6 w =>
  run1 Tryd.prog Z (Instr.extract t17_5 1) w fun t19_7 w =>
  run1 Tryd.prog Z (Instr.loadAt 26 t3_2) w fun t21_8 w =>
  CallV Tryd.prog Z 20 #[t21_8] w fun t22_9 w =>
  run1 Tryd.prog Z (Instr.extract t22_9 0) w fun t23_10 w =>
  run1 Tryd.prog Z (Instr.extract t22_9 1) w fun t24_11 w =>
  run1 Tryd.prog Z (eqOp BinOp.neq 37 false true t19_7 (Value.int IntKind.i64 0)) w fun t26_12 w =>
  guardW (t26_12) false (fun k => k (t24_11) w) (fun t28_13 w =>
  guardW (t26_12) false (fun k => run1 Tryd.prog Z (eqOp BinOp.neq 37 false true t28_13 (Value.int IntKind.i64 0)) w k) (fun t29_14 w =>
  run1 Tryd.prog Z (pickV t26_12 (Value.bool true) t29_14) w fun t30_15 w =>
  CondV t30_15 (
    guardW (t14_3) true (fun k => run1 Tryd.prog Z (Instr.fieldAt 26 t2_1 0) w k) (fun t33_16 w =>
    guardW (t14_3) true (fun k => run1 Tryd.prog Z (Instr.loadAt 24 t33_16) w k) (fun t34_17 w =>
    guardW (t14_3) true (fun k => run1 Tryd.prog Z (binOp BinOp.gtr 24 t34_17 (Value.int IntKind.u32 2147483647)) w k) (fun t35_18 w =>
    guardW (t14_3) true (fun k => k (t35_18) w) (fun t36_19 w =>
    guardW (t36_19) false (fun k => run1 Tryd.prog Z (Instr.fieldAt 26 t3_2 0) w k) (fun t37_20 w =>
    guardW (t36_19) false (fun k => run1 Tryd.prog Z (Instr.loadAt 24 t37_20) w k) (fun t38_21 w =>
    guardW (t36_19) false (fun k => run1 Tryd.prog Z (binOp BinOp.gtr 24 t38_21 (Value.int IntKind.u32 2147483647)) w k) (fun t39_22 w =>
    guardW (t14_3) true (fun k => run1 Tryd.prog Z (pickV t36_19 (Value.bool true) t39_22) w k) (fun t40_23 w =>
    run1 Tryd.prog Z (pickV t14_3 t40_23 (Value.bool false)) w fun t41_24 w =>
    Q t41_24 w) w) w) w) w) w) w) w) w) (
    CallV Tryd.prog Z 21 #[t18_6] w fun t44_25 w =>
    run1 Tryd.prog Z (Instr.extract t44_25 0) w fun t45_26 w =>
    run1 Tryd.prog Z (Instr.extract t44_25 1) w fun t46_27 w =>
    run1 Tryd.prog Z (Instr.alloc 26 true (.tuple #[])) w fun t10_28 w =>
    run0 Tryd.prog Z (Instr.storeAt 26 t10_28 t45_26) w fun w =>
    run1 Tryd.prog Z (Instr.loadAt 26 t2_1) w fun t47_29 w =>
    run1 Tryd.prog Z (Instr.loadAt 26 t3_2) w fun t48_30 w =>
    CallV Tryd.prog Z 22 #[t47_29, t48_30] w fun t49_31 w =>
    run1 Tryd.prog Z (Instr.loadAt 26 t3_2) w fun t50_32 w =>
    run1 Tryd.prog Z (Instr.loadAt 26 t2_1) w fun t51_33 w =>
    CallV Tryd.prog Z 22 #[t50_32, t51_33] w fun t52_34 w =>
    guardW (t14_3) true (fun k => k (t46_27) w) (fun t55_35 w =>
    guardW (t14_3) true (fun k => run1 Tryd.prog Z (eqOp BinOp.eql 37 false true t55_35 (Value.int IntKind.i64 0)) w k) (fun t56_36 w =>
    run1 Tryd.prog Z (pickV t14_3 t56_36 (Value.bool false)) w fun t57_37 w =>
    guardW (t57_37) true (fun k => run1 Tryd.prog Z (Instr.loadAt 26 t10_28) w k) (fun t59_38 w =>
    guardW (t57_37) true (fun k => run1 Tryd.prog Z (Instr.loadAt 26 t2_1) w k) (fun t60_39 w =>
    guardW (t57_37) true (fun k => run1 Tryd.prog Z (eqOp BinOp.eql 26 false false t59_38 t60_39) w k) (fun t61_40 w =>
    run1 Tryd.prog Z (pickV t57_37 t61_40 (Value.bool false)) w fun t62_41 w =>
    guardW (t62_41) true (fun k => k (t18_6) w) (fun t64_42 w =>
    guardW (t62_41) true (fun k => k (t23_10) w) (fun t65_43 w =>
    guardW (t62_41) true (fun k => run1 Tryd.prog Z (binOp BinOp.lss 2 t64_42 t65_43) w k) (fun t66_44 w =>
    guardW (t62_41) true (fun k => k (t49_31) w) (fun t67_45 w =>
    guardW (t62_41) true (fun k => run1 Tryd.prog Z (binOp BinOp.lss 3 t67_45 (Value.int IntKind.i64 0)) w k) (fun t68_46 w =>
    guardW (t62_41) true (fun k => run1 Tryd.prog Z (eqOp BinOp.eql 4 false false t66_44 t68_46) w k) (fun t69_47 w =>
    run1 Tryd.prog Z (pickV t62_41 t69_47 (Value.bool false)) w fun t70_48 w =>
    guardW (t70_48) true (fun k => k (t18_6) w) (fun t72_49 w =>
    guardW (t70_48) true (fun k => k (t23_10) w) (fun t73_50 w =>
    guardW (t70_48) true (fun k => run1 Tryd.prog Z (eqOp BinOp.eql 2 false false t72_49 t73_50) w k) (fun t74_51 w =>
    guardW (t70_48) true (fun k => k (t49_31) w) (fun t75_52 w =>
    guardW (t70_48) true (fun k => run1 Tryd.prog Z (eqOp BinOp.eql 3 false true t75_52 (Value.int IntKind.i64 0)) w k) (fun t76_53 w =>
    guardW (t70_48) true (fun k => run1 Tryd.prog Z (eqOp BinOp.eql 4 false false t74_51 t76_53) w k) (fun t77_54 w =>
    run1 Tryd.prog Z (pickV t70_48 t77_54 (Value.bool false)) w fun t78_55 w =>
    guardW (t78_55) true (fun k => k (t49_31) w) (fun t80_56 w =>
    guardW (t78_55) true (fun k => k (t52_34) w) (fun t81_57 w =>
    guardW (t78_55) true (fun k => run1 Tryd.prog Z (Op.unary UnOp.neg t81_57) w k) (fun t82_58 w =>
    guardW (t78_55) true (fun k => run1 Tryd.prog Z (eqOp BinOp.eql 3 false false t80_56 t82_58) w k) (fun t83_59 w =>
    run1 Tryd.prog Z (pickV t78_55 t83_59 (Value.bool false)) w fun t84_60 w =>
    Q t84_60 w) w) w) w) w) w) w) w) w) w) w) w) w) w) w) w) w) w) w) w) w) w)) w) w
noncomputable def f5.code : Code := match Tryd.f5.body with | some c => c | none => .skip
def f5.an : An := (.sq .leaf (.sq .leaf (.sq .leaf (.sq .leaf (.sq (.sq .leaf (.cn (.sq .leaf .leaf) .leaf)) (.sq .leaf (.sq .leaf (.sq .leaf (.sq .leaf .leaf)))))))))
theorem f5.body_eq : Tryd.f5.body = some f5.code := by kernel_rfl
theorem f5.shape (Z : List PanicEntry → World → Prop) (x0 x1 : Value) (w : World) (Q : Value → World → Prop) : vc drawD Tryd.prog 85 Z [10, 20, 21, 22] f5.an f5.code (fnQ Tryd.prog 85 Tryd.f5.results Q) (argEnv [x0, x1]) w = f5.sh Z x0 x1 w Q := by kernel_rfl
theorem f5.enters : ∀ f, f ∈ ([10, 20, 21, 22] : List Nat) → Enters Tryd.prog f := by
  intro f hf
  simp only [List.mem_cons, List.not_mem_nil, or_false] at hf
  rcases hf with rfl | rfl | rfl | rfl
  · exact en10
  · exact en20
  · exact en21
  · exact en22
theorem f5.calls {Z : List PanicEntry → World → Prop} {x0 x1 : Value} {w : World} {Q : Value → World → Prop} (h : f5.sh Z x0 x1 w Q) : CallV Tryd.prog Z 5 #[x0, x1] w Q :=
  calls_of_vcn drawD_sound (Q := Q) (n := 85) (rs := Tryd.f5.results) (an := f5.an) (c := f5.code) (cal := [10, 20, 21, 22]) (args := [x0, x1]) Tryd.func5 (by kernel_rfl) rfl f5.body_eq follows (Nat.le_of_ble_eq_true (by kernel_rfl)) (enters_of_all f5.enters) ((f5.shape Z x0 x1 w Q).mpr h)

/-! ### 7: lagoon/lagoonlaw04.TxnNumbers -/
def f7.sh (Z : List PanicEntry → World → Prop) (x0 x1 x2 : Value) (w : World) (Q : Value → World → Prop) : Prop :=
  run1 Tryd.prog Z (Instr.box 26 x0) w fun t3_1 w =>
  run1 Tryd.prog Z (Instr.box 26 x1) w fun t4_2 w =>
  CallV Tryd.prog Z 10 #[] w fun t21_3 w =>
  run1 Tryd.prog Z (Instr.loadAt 26 t3_1) w fun t22_4 w =>
  run1 Tryd.prog Z (Instr.loadAt 26 t4_2) w fun t23_5 w =>
  CallV Tryd.prog Z 22 #[t22_4, t23_5] w fun t24_6 w =>
  run1 Tryd.prog Z (Instr.loadAt 26 t3_1) w fun t26_7 w =>
  CallV Tryd.prog Z 20 #[t26_7] w fun t27_8 w =>
  run1 Tryd.prog Z (Instr.extract t27_8 0) w fun t28_9 w =>
  run1 Tryd.prog Z (Instr.extract t27_8 1) w fun t29_10 w =>
  CallV Tryd.prog Z 21 #[x2] w fun t32_11 w =>
  run1 Tryd.prog Z (Instr.extract t32_11 0) w fun t33_12 w =>
  run1 Tryd.prog Z (Instr.extract t32_11 1) w fun t34_13 w =>
  run1 Tryd.prog Z (Instr.alloc 26 true (.tuple #[])) w fun t11_14 w =>
  run0 Tryd.prog Z (Instr.storeAt 26 t11_14 t33_12) w fun w =>
  run1 Tryd.prog Z (Instr.loadAt 26 t3_1) w fun t36_15 w =>
  run1 Tryd.prog Z (Instr.fieldAt 26 t4_2 1) w fun t37_16 w =>
  run1 Tryd.prog Z (Instr.loadAt 24 t37_16) w fun t38_17 w =>
  CallV Tryd.prog Z 26 #[t36_15, t38_17] w fun t39_18 w =>
  run1 Tryd.prog Z (Instr.extract t39_18 0) w fun t40_19 w =>
  run1 Tryd.prog Z (Instr.extract t39_18 1) w fun t41_20 w =>
  run1 Tryd.prog Z (Instr.alloc 26 true (.tuple #[])) w fun t13_21 w =>
  run0 Tryd.prog Z (Instr.storeAt 26 t13_21 t40_19) w fun w =>
  run1 Tryd.prog Z (Instr.loadAt 26 t3_1) w fun t43_22 w =>
  CallV Tryd.prog Z 27 #[t43_22] w fun t44_23 w =>
  run1 Tryd.prog Z (Instr.extract t44_23 0) w fun t45_24 w =>
  run1 Tryd.prog Z (Instr.extract t44_23 1) w fun t46_25 w =>
  CallV Tryd.prog Z 28 #[x2] w fun t49_26 w =>
  run1 Tryd.prog Z (Instr.extract t49_26 0) w fun t50_27 w =>
  run1 Tryd.prog Z (Instr.extract t49_26 1) w fun t51_28 w =>
  run1 Tryd.prog Z (Instr.alloc 26 true (.tuple #[])) w fun t17_29 w =>
  run0 Tryd.prog Z (Instr.storeAt 26 t17_29 t50_27) w fun w =>
  run1 Tryd.prog Z (Instr.loadAt 26 t3_1) w fun t53_30 w =>
  run1 Tryd.prog Z (Instr.fieldAt 26 t4_2 1) w fun t54_31 w =>
  run1 Tryd.prog Z (Instr.loadAt 24 t54_31) w fun t55_32 w =>
  CallV Tryd.prog Z 29 #[t53_30, t55_32] w fun t56_33 w =>
  run1 Tryd.prog Z (Instr.extract t56_33 0) w fun t57_34 w =>
  run1 Tryd.prog Z (Instr.extract t56_33 1) w fun t58_35 w =>
  run1 Tryd.prog Z (Instr.alloc 26 true (.tuple #[])) w fun t19_36 w =>
  run0 Tryd.prog Z (Instr.storeAt 26 t19_36 t57_34) w fun w =>
  guardW (t21_3) true (fun k => k (t24_6) w) (fun t61_37 w =>
  guardW (t21_3) true (fun k => run1 Tryd.prog Z (Instr.loadAt 26 t3_1) w k) (fun t62_38 w =>
  guardW (t21_3) true (fun k => run1 Tryd.prog Z (Instr.loadAt 26 t4_2) w k) (fun t63_39 w =>
  guardW (t21_3) true (fun k => CallV Tryd.prog Z 30 #[t62_38, t63_39] w k) (fun t64_40 w =>
  guardW (t21_3) true (fun k => run1 Tryd.prog Z (eqOp BinOp.eql 3 false false t61_37 t64_40) w k) (fun t65_41 w =>
  run1 Tryd.prog Z (pickV t21_3 t65_41 (Value.bool false)) w fun t66_42 w =>
  guardW (t66_42) true (fun k => k (t28_9) w) (fun t68_43 w =>
  guardW (t66_42) true (fun k => k (t45_24) w) (fun t69_44 w =>
  guardW (t66_42) true (fun k => run1 Tryd.prog Z (eqOp BinOp.eql 2 false false t68_43 t69_44) w k) (fun t70_45 w =>
  run1 Tryd.prog Z (pickV t66_42 t70_45 (Value.bool false)) w fun t71_46 w =>
  guardW (t71_46) true (fun k => k (t29_10) w) (fun t73_47 w =>
  guardW (t71_46) true (fun k => k (t46_25) w) (fun t74_48 w =>
  guardW (t71_46) true (fun k => run1 Tryd.prog Z (eqOp BinOp.eql 37 false false t73_47 t74_48) w k) (fun t75_49 w =>
  run1 Tryd.prog Z (pickV t71_46 t75_49 (Value.bool false)) w fun t76_50 w =>
  guardW (t76_50) true (fun k => run1 Tryd.prog Z (Instr.loadAt 26 t11_14) w k) (fun t78_51 w =>
  guardW (t76_50) true (fun k => run1 Tryd.prog Z (Instr.loadAt 26 t17_29) w k) (fun t79_52 w =>
  guardW (t76_50) true (fun k => run1 Tryd.prog Z (eqOp BinOp.eql 26 false false t78_51 t79_52) w k) (fun t80_53 w =>
  run1 Tryd.prog Z (pickV t76_50 t80_53 (Value.bool false)) w fun t81_54 w =>
  guardW (t81_54) true (fun k => k (t34_13) w) (fun t83_55 w =>
  guardW (t81_54) true (fun k => k (t51_28) w) (fun t84_56 w =>
  guardW (t81_54) true (fun k => run1 Tryd.prog Z (eqOp BinOp.eql 37 false false t83_55 t84_56) w k) (fun t85_57 w =>
  run1 Tryd.prog Z (pickV t81_54 t85_57 (Value.bool false)) w fun t86_58 w =>
  guardW (t86_58) true (fun k => run1 Tryd.prog Z (Instr.loadAt 26 t13_21) w k) (fun t88_59 w =>
  guardW (t86_58) true (fun k => run1 Tryd.prog Z (Instr.loadAt 26 t19_36) w k) (fun t89_60 w =>
  guardW (t86_58) true (fun k => run1 Tryd.prog Z (eqOp BinOp.eql 26 false false t88_59 t89_60) w k) (fun t90_61 w =>
  run1 Tryd.prog Z (pickV t86_58 t90_61 (Value.bool false)) w fun t91_62 w =>
  guardW (t91_62) true (fun k => k (t41_20) w) (fun t93_63 w =>
  guardW (t91_62) true (fun k => k (t58_35) w) (fun t94_64 w =>
  guardW (t91_62) true (fun k => run1 Tryd.prog Z (eqOp BinOp.eql 37 false false t93_63 t94_64) w k) (fun t95_65 w =>
  run1 Tryd.prog Z (pickV t91_62 t95_65 (Value.bool false)) w fun t96_66 w =>
  Q t96_66 w) w) w) w) w) w) w) w) w) w) w) w) w) w) w) w) w) w) w) w) w) w) w) w
noncomputable def f7.code : Code := match Tryd.f7.body with | some c => c | none => .skip
def f7.an : An := (.sq .leaf (.sq .leaf (.sq .leaf (.sq .leaf (.sq .leaf (.sq .leaf (.sq .leaf (.sq .leaf (.sq .leaf (.sq .leaf .leaf))))))))))
theorem f7.body_eq : Tryd.f7.body = some f7.code := by kernel_rfl
theorem f7.shape (Z : List PanicEntry → World → Prop) (x0 x1 x2 : Value) (w : World) (Q : Value → World → Prop) : vc drawD Tryd.prog 97 Z [10, 22, 20, 21, 26, 27, 28, 29, 30] f7.an f7.code (fnQ Tryd.prog 97 Tryd.f7.results Q) (argEnv [x0, x1, x2]) w = f7.sh Z x0 x1 x2 w Q := by kernel_rfl
theorem f7.enters : ∀ f, f ∈ ([10, 22, 20, 21, 26, 27, 28, 29, 30] : List Nat) → Enters Tryd.prog f := by
  intro f hf
  simp only [List.mem_cons, List.not_mem_nil, or_false] at hf
  rcases hf with rfl | rfl | rfl | rfl | rfl | rfl | rfl | rfl | rfl
  · exact en10
  · exact en22
  · exact en20
  · exact en21
  · exact en26
  · exact en27
  · exact en28
  · exact en29
  · exact en30
theorem f7.calls {Z : List PanicEntry → World → Prop} {x0 x1 x2 : Value} {w : World} {Q : Value → World → Prop} (h : f7.sh Z x0 x1 x2 w Q) : CallV Tryd.prog Z 7 #[x0, x1, x2] w Q :=
  calls_of_vcn drawD_sound (Q := Q) (n := 97) (rs := Tryd.f7.results) (an := f7.an) (c := f7.code) (cal := [10, 22, 20, 21, 26, 27, 28, 29, 30]) (args := [x0, x1, x2]) Tryd.func7 (by kernel_rfl) rfl f7.body_eq follows (Nat.le_of_ble_eq_true (by kernel_rfl)) (enters_of_all f7.enters) ((f7.shape Z x0 x1 x2 w Q).mpr h)

/-! ### 10: lagoon/lagoonlaw04.works -/
def f10.sh (Z : List PanicEntry → World → Prop) (w : World) (Q : Value → World → Prop) : Prop :=
  run1 Tryd.prog Z (Instr.build 26 #[(0, (Value.int IntKind.u32 1)), (1, (Value.int IntKind.u32 2))]) w fun t6_1 w =>
  run1 Tryd.prog Z (Instr.build 29 #[(0, (Value.int IntKind.i8 3)), (1, (Value.int IntKind.u32 4)), (2, (Value.int IntKind.i64 5))]) w fun t7_2 w =>
  run1 Tryd.prog Z (Instr.build 34 #[(0, (Value.int IntKind.i8 2)), (1, (Value.string { data := #[47, 97] })), (4, (Value.int IntKind.i32 (-1)))]) w fun t8_3 w =>
  run1 Tryd.prog Z (Instr.build 36 #[(0, t6_1), (1, t7_2), (2, t8_3)]) w fun t9_4 w =>
  run1 Tryd.prog Z (Instr.alloc 36 true (.tuple #[])) w fun t1_5 w =>
  run0 Tryd.prog Z (Instr.storeAt 36 t1_5 t9_4) w fun w =>
  run1 Tryd.prog Z (Instr.loadAt 36 t1_5) w fun t11_6 w =>
  CallV Tryd.prog Z 13 #[t11_6] w fun t12_7 w =>
  run1 Tryd.prog Z (Instr.extract t12_7 0) w fun t13_8 w =>
  run1 Tryd.prog Z (Instr.extract t12_7 1) w fun t14_9 w =>
  CallV Tryd.prog Z 11 #[t13_8] w fun t17_10 w =>
  run1 Tryd.prog Z (Instr.extract t17_10 0) w fun t18_11 w =>
  run1 Tryd.prog Z (Instr.extract t17_10 1) w fun t19_12 w =>
  run1 Tryd.prog Z (Instr.alloc 36 true (.tuple #[])) w fun t4_13 w =>
  run0 Tryd.prog Z (Instr.storeAt 36 t4_13 t18_11) w fun w =>
  run1 Tryd.prog Z (eqOp BinOp.eql 37 false true t14_9 (Value.int IntKind.i64 0)) w fun t21_14 w =>
  guardW (t21_14) true (fun k => k (t19_12) w) (fun t23_15 w =>
  guardW (t21_14) true (fun k => k (t14_9) w) (fun t24_16 w =>
  guardW (t21_14) true (fun k => run1 Tryd.prog Z (eqOp BinOp.eql 37 false false t23_15 t24_16) w k) (fun t25_17 w =>
  run1 Tryd.prog Z (pickV t21_14 t25_17 (Value.bool false)) w fun t26_18 w =>
  guardW (t26_18) true (fun k => k (t13_8) w) (fun t28_19 w =>
  guardW (t26_18) true (fun k => run1 Tryd.prog Z (Builtin.len_ #[22] 3 #[t28_19]) w k) (fun t29_20 w =>
  guardW (t26_18) true (fun k => run1 Tryd.prog Z (eqOp BinOp.eql 3 false true t29_20 (Value.int IntKind.i64 44)) w k) (fun t30_21 w =>
  run1 Tryd.prog Z (pickV t26_18 t30_21 (Value.bool false)) w fun t31_22 w =>
  guardW (t31_22) true (fun k => run1 Tryd.prog Z (Instr.loadAt 36 t1_5) w k) (fun t33_23 w =>
  guardW (t31_22) true (fun k => run1 Tryd.prog Z (Instr.loadAt 36 t4_13) w k) (fun t34_24 w =>
  guardW (t31_22) true (fun k => CallV Tryd.prog Z 19 #[t33_23, t34_24] w k) (fun t35_25 w =>
  run1 Tryd.prog Z (pickV t31_22 t35_25 (Value.bool false)) w fun t36_26 w =>
  Q t36_26 w) w) w) w) w) w) w) w) w) w
noncomputable def f10.code : Code := match Tryd.f10.body with | some c => c | none => .skip
def f10.an : An := (.sq .leaf (.sq .leaf (.sq .leaf (.sq .leaf (.sq .leaf .leaf)))))
theorem f10.body_eq : Tryd.f10.body = some f10.code := by kernel_rfl
theorem f10.shape (Z : List PanicEntry → World → Prop) (w : World) (Q : Value → World → Prop) : vc drawD Tryd.prog 37 Z [13, 11, 19] f10.an f10.code (fnQ Tryd.prog 37 Tryd.f10.results Q) (argEnv []) w = f10.sh Z  w Q := by kernel_rfl
theorem f10.enters : ∀ f, f ∈ ([13, 11, 19] : List Nat) → Enters Tryd.prog f := by
  intro f hf
  simp only [List.mem_cons, List.not_mem_nil, or_false] at hf
  rcases hf with rfl | rfl | rfl
  · exact en13
  · exact en11
  · exact en19
theorem f10.calls {Z : List PanicEntry → World → Prop} {w : World} {Q : Value → World → Prop} (h : f10.sh Z  w Q) : CallV Tryd.prog Z 10 #[] w Q :=
  calls_of_vcn drawD_sound (Q := Q) (n := 37) (rs := Tryd.f10.results) (an := f10.an) (c := f10.code) (cal := [13, 11, 19]) (args := []) Tryd.func10 (by kernel_rfl) rfl f10.body_eq follows (Nat.le_of_ble_eq_true (by kernel_rfl)) (enters_of_all f10.enters) ((f10.shape Z  w Q).mpr h)

/-! ### 11: lagoon/txn.Read -/
def f11.sh (Z : List PanicEntry → World → Prop) (x0 : Value) (w : World) (Q : Value → World → Prop) : Prop :=
  run1 Tryd.prog Z (Instr.alloc 36 true (.tuple #[])) w fun t2_1 w =>
  CallV Tryd.prog Z 40 #[x0] w fun t7_2 w =>
  run1 Tryd.prog Z (Instr.alloc 36 true (.tuple #[])) w fun t5_3 w =>
  CallV Tryd.prog Z 41 #[t7_2] w fun t9_4 w =>
  run1 Tryd.prog Z (Instr.fieldAt 36 t5_3 0) w fun t10_5 w =>
  run1 Tryd.prog Z (Instr.fieldAt 26 t10_5 0) w fun t11_6 w =>
  run0 Tryd.prog Z (Instr.storeAt 24 t11_6 t9_4) w fun w =>
  CallV Tryd.prog Z 41 #[t7_2] w fun t13_7 w =>
  run1 Tryd.prog Z (Instr.fieldAt 36 t5_3 0) w fun t14_8 w =>
  run1 Tryd.prog Z (Instr.fieldAt 26 t14_8 1) w fun t15_9 w =>
  run0 Tryd.prog Z (Instr.storeAt 24 t15_9 t13_7) w fun w =>
  CallV Tryd.prog Z 42 #[t7_2] w fun t17_10 w =>
  run1 Tryd.prog Z (Instr.fieldAt 36 t5_3 1) w fun t18_11 w =>
  run1 Tryd.prog Z (Instr.fieldAt 29 t18_11 0) w fun t19_12 w =>
  run0 Tryd.prog Z (Instr.storeAt 27 t19_12 t17_10) w fun w =>
  CallV Tryd.prog Z 41 #[t7_2] w fun t21_13 w =>
  run1 Tryd.prog Z (Instr.fieldAt 36 t5_3 1) w fun t22_14 w =>
  run1 Tryd.prog Z (Instr.fieldAt 29 t22_14 1) w fun t23_15 w =>
  run0 Tryd.prog Z (Instr.storeAt 24 t23_15 t21_13) w fun w =>
  CallV Tryd.prog Z 43 #[t7_2] w fun t25_16 w =>
  run1 Tryd.prog Z (Instr.fieldAt 36 t5_3 1) w fun t26_17 w =>
  run1 Tryd.prog Z (Instr.fieldAt 29 t26_17 2) w fun t27_18 w =>
  run0 Tryd.prog Z (Instr.storeAt 2 t27_18 t25_16) w fun w =>
  run1 Tryd.prog Z (Instr.build 71 #[]) w fun t28_19 w =>
  CallV Tryd.prog Z 44 #[t28_19, t7_2] w fun t30_20 w =>
  run1 Tryd.prog Z (Instr.fieldAt 36 t5_3 2) w fun t31_21 w =>
  run0 Tryd.prog Z (Instr.storeAt 34 t31_21 t30_20) w fun w =>
  CallV Tryd.prog Z 45 #[t7_2] w fun t33_22 w =>
  run1 Tryd.prog Z (eqOp BinOp.neq 37 false true t33_22 (Value.int IntKind.i64 0)) w fun t34_23 w =>
  guardW (t34_23) false (fun k => run1 Tryd.prog Z (Instr.loadAt 36 t5_3) w k) (fun t36_24 w =>
  guardW (t34_23) false (fun k => CallV Tryd.prog Z 17 #[t36_24] w k) (fun t37_25 w =>
  guardW (t34_23) false (fun k => run1 Tryd.prog Z (eqOp BinOp.neq 37 false true t37_25 (Value.int IntKind.i64 0)) w k) (fun t38_26 w =>
  run1 Tryd.prog Z (pickV t34_23 (Value.bool true) t38_26) w fun t39_27 w =>
  CondV t39_27 (
    run1 Tryd.prog Z (Instr.build 36 #[]) w fun t40_28 w =>
    run0 Tryd.prog Z (Instr.storeAt 36 t2_1 t40_28) w fun w =>
    ∃ r_29, (do loadVar 36 (← asAddr t2_1) : Sem Value).run Tryd.prog w = .ok r_29 w ∧
    Q (Value.tuple #[r_29, (Value.int IntKind.i64 40)]) w) (
    run1 Tryd.prog Z (Instr.loadAt 36 t5_3) w fun t41_30 w =>
    run0 Tryd.prog Z (Instr.storeAt 36 t2_1 t41_30) w fun w =>
    ∃ r_31, (do loadVar 36 (← asAddr t2_1) : Sem Value).run Tryd.prog w = .ok r_31 w ∧
    Q (Value.tuple #[r_31, (Value.int IntKind.i64 0)]) w)) w) w) w
noncomputable def f11.code : Code := match Tryd.f11.body with | some c => c | none => .skip
def f11.an : An := (.sq .leaf (.sq .leaf (.sq .leaf (.sq .leaf (.sq .leaf (.sq .leaf (.sq .leaf (.sq .leaf (.sq .leaf (.sq (.sq .leaf (.cn (.sq .leaf .leaf) .leaf)) (.sq .leaf .leaf)))))))))))
theorem f11.body_eq : Tryd.f11.body = some f11.code := by kernel_rfl
theorem f11.shape (Z : List PanicEntry → World → Prop) (x0 : Value) (w : World) (Q : Value → World → Prop) : vc drawD Tryd.prog 42 Z [40, 41, 42, 43, 44, 45, 17] f11.an f11.code (fnQ Tryd.prog 42 Tryd.f11.results Q) (argEnv [x0]) w = f11.sh Z x0 w Q := by kernel_rfl
theorem f11.enters : ∀ f, f ∈ ([40, 41, 42, 43, 44, 45, 17] : List Nat) → Enters Tryd.prog f := by
  intro f hf
  simp only [List.mem_cons, List.not_mem_nil, or_false] at hf
  rcases hf with rfl | rfl | rfl | rfl | rfl | rfl | rfl
  · exact en40
  · exact en41
  · exact en42
  · exact en43
  · exact en44
  · exact en45
  · exact en17
theorem f11.calls {Z : List PanicEntry → World → Prop} {x0 : Value} {w : World} {Q : Value → World → Prop} (h : f11.sh Z x0 w Q) : CallV Tryd.prog Z 11 #[x0] w Q :=
  calls_of_vcn drawD_sound (Q := Q) (n := 42) (rs := Tryd.f11.results) (an := f11.an) (c := f11.code) (cal := [40, 41, 42, 43, 44, 45, 17]) (args := [x0]) Tryd.func11 (by kernel_rfl) rfl f11.body_eq follows (Nat.le_of_ble_eq_true (by kernel_rfl)) (enters_of_all f11.enters) ((f11.shape Z x0 w Q).mpr h)

/-! ### 13: lagoon/txn.Write -/
def f13.sh (Z : List PanicEntry → World → Prop) (x0 : Value) (w : World) (Q : Value → World → Prop) : Prop :=
  run1 Tryd.prog Z (Instr.box 36 x0) w fun t1_1 w =>
  run1 Tryd.prog Z (Instr.loadAt 36 t1_1) w fun t5_2 w =>
  CallV Tryd.prog Z 17 #[t5_2] w fun t6_3 w =>
  run1 Tryd.prog Z (eqOp BinOp.neq 37 false true t6_3 (Value.int IntKind.i64 0)) w fun t7_4 w =>
  CondV t7_4 (
    Q (Value.tuple #[(Value.slice none 0 0), (Value.int IntKind.i64 40)]) w) (
    run1 Tryd.prog Z (Instr.build 76 #[]) w fun t8_5 w =>
    run1 Tryd.prog Z (Instr.box 76 t8_5) w fun t9_6 w =>
    run1 Tryd.prog Z (Instr.fieldAt 36 t1_1 0) w fun t11_7 w =>
    run1 Tryd.prog Z (Instr.fieldAt 26 t11_7 0) w fun t12_8 w =>
    run1 Tryd.prog Z (Instr.loadAt 24 t12_8) w fun t13_9 w =>
    CallV Tryd.prog Z 46 #[t9_6, t13_9] w fun t14_10 w =>
    run1 Tryd.prog Z (Instr.fieldAt 36 t1_1 0) w fun t16_11 w =>
    run1 Tryd.prog Z (Instr.fieldAt 26 t16_11 1) w fun t17_12 w =>
    run1 Tryd.prog Z (Instr.loadAt 24 t17_12) w fun t18_13 w =>
    CallV Tryd.prog Z 46 #[t9_6, t18_13] w fun t19_14 w =>
    run1 Tryd.prog Z (Instr.fieldAt 36 t1_1 1) w fun t21_15 w =>
    run1 Tryd.prog Z (Instr.fieldAt 29 t21_15 0) w fun t22_16 w =>
    run1 Tryd.prog Z (Instr.loadAt 27 t22_16) w fun t23_17 w =>
    CallV Tryd.prog Z 47 #[t9_6, t23_17] w fun t24_18 w =>
    run1 Tryd.prog Z (Instr.fieldAt 36 t1_1 1) w fun t26_19 w =>
    run1 Tryd.prog Z (Instr.fieldAt 29 t26_19 1) w fun t27_20 w =>
    run1 Tryd.prog Z (Instr.loadAt 24 t27_20) w fun t28_21 w =>
    CallV Tryd.prog Z 46 #[t9_6, t28_21] w fun t29_22 w =>
    run1 Tryd.prog Z (Instr.fieldAt 36 t1_1 1) w fun t31_23 w =>
    run1 Tryd.prog Z (Instr.fieldAt 29 t31_23 2) w fun t32_24 w =>
    run1 Tryd.prog Z (Instr.loadAt 2 t32_24) w fun t33_25 w =>
    CallV Tryd.prog Z 48 #[t9_6, t33_25] w fun t34_26 w =>
    run1 Tryd.prog Z (Instr.build 71 #[]) w fun t35_27 w =>
    run1 Tryd.prog Z (Instr.fieldAt 36 t1_1 2) w fun t37_28 w =>
    run1 Tryd.prog Z (Instr.loadAt 34 t37_28) w fun t38_29 w =>
    CallV Tryd.prog Z 49 #[t35_27, t9_6, t38_29] w fun t39_30 w =>
    CallV Tryd.prog Z 50 #[t9_6] w fun t41_31 w =>
    Q (Value.tuple #[t41_31, (Value.int IntKind.i64 0)]) w)
noncomputable def f13.code : Code := match Tryd.f13.body with | some c => c | none => .skip
def f13.an : An := (.sq .leaf (.sq (.sq .leaf (.cn (.sq .leaf .leaf) .leaf)) (.sq .leaf (.sq .leaf (.sq .leaf (.sq .leaf (.sq .leaf (.sq .leaf (.sq .leaf (.sq .leaf .leaf))))))))))
theorem f13.body_eq : Tryd.f13.body = some f13.code := by kernel_rfl
theorem f13.shape (Z : List PanicEntry → World → Prop) (x0 : Value) (w : World) (Q : Value → World → Prop) : vc drawD Tryd.prog 42 Z [17, 46, 47, 48, 49, 50] f13.an f13.code (fnQ Tryd.prog 42 Tryd.f13.results Q) (argEnv [x0]) w = f13.sh Z x0 w Q := by kernel_rfl
theorem f13.enters : ∀ f, f ∈ ([17, 46, 47, 48, 49, 50] : List Nat) → Enters Tryd.prog f := by
  intro f hf
  simp only [List.mem_cons, List.not_mem_nil, or_false] at hf
  rcases hf with rfl | rfl | rfl | rfl | rfl | rfl
  · exact en17
  · exact en46
  · exact en47
  · exact en48
  · exact en49
  · exact en50
theorem f13.calls {Z : List PanicEntry → World → Prop} {x0 : Value} {w : World} {Q : Value → World → Prop} (h : f13.sh Z x0 w Q) : CallV Tryd.prog Z 13 #[x0] w Q :=
  calls_of_vcn drawD_sound (Q := Q) (n := 42) (rs := Tryd.f13.results) (an := f13.an) (c := f13.code) (cal := [17, 46, 47, 48, 49, 50]) (args := [x0]) Tryd.func13 (by kernel_rfl) rfl f13.body_eq follows (Nat.le_of_ble_eq_true (by kernel_rfl)) (enters_of_all f13.enters) ((f13.shape Z x0 w Q).mpr h)

/-! ### 14: lagoon/lagoonref00.EqBytes -/
def f14.sh (Z : List PanicEntry → World → Prop) (x0 x1 : Value) (w : World) (Q : Value → World → Prop) : Prop :=
  run1 Tryd.prog Z (Builtin.len_ #[22] 3 #[x0]) w fun t7_1 w =>
  run1 Tryd.prog Z (Builtin.len_ #[22] 3 #[x1]) w fun t9_2 w =>
  run1 Tryd.prog Z (eqOp BinOp.neq 3 false false t7_1 t9_2) w fun t10_3 w =>
  CondV t10_3 (
    Q (Value.bool false) w) (
    ∃ J_4 : Nat → Value → World → Prop, (∃ m, J_4 m (Value.int IntKind.i64 0) w) ∧
      ∀ m_4, ∀ t5_5 : Value, ∀ w : World, J_4 m_4 t5_5 w → Env →
        run1 Tryd.prog Z (Builtin.len_ #[22] 3 #[x0]) w fun t13_6 w =>
        run1 Tryd.prog Z (binOp BinOp.lss 3 t5_5 t13_6) w fun t14_7 w =>
        CondV t14_7 (
          Drawn w fun w =>
          Pure1 Tryd.prog (Instr.indexAt 22 x0 t5_5) fun t19_8 =>
          Read1 Tryd.prog (Instr.loadAt 5 t19_8) w fun t20_9 =>
          Pure1 Tryd.prog (Instr.indexAt 22 x1 t5_5) fun t23_10 =>
          Read1 Tryd.prog (Instr.loadAt 5 t23_10) w fun t24_11 =>
          Pure1 Tryd.prog (eqOp BinOp.neq 5 false false t20_9 t24_11) fun t25_12 =>
          CondV t25_12 (
            Q (Value.bool false) w) (
            run1 Tryd.prog Z (binOp BinOp.add 3 t5_5 (Value.int IntKind.i64 1)) w fun t16_13 w =>
            ∃ n_4, n_4 < m_4 ∧ J_4 n_4 t16_13 w)) (
          Q (Value.bool true) w))
noncomputable def f14.code : Code := match Tryd.f14.body with | some c => c | none => .skip
def f14.an : An := (.sq .leaf (.sq (.sq .leaf (.cn (.sq .leaf .leaf) .leaf)) (.sq (.sq .leaf (.bl (.lp [5] [4, 5, 11, 12, 13, 14, 15, 16, 17, 18, 19, 20, 21, 22, 23, 24, 25] (.sq (.sq .leaf (.cn .leaf .leaf)) (.sq (.bl (.sq (.dr (.take 0 false (.take 1 false (.take 2 false (.take 3 true (.take 4 false (.take 5 false (.take 6 false (.take 7 true (.take 8 false .fin)))))))))) (.cn (.sq .leaf .leaf) .leaf))) .leaf))))) (.sq .leaf .leaf))))
theorem f14.body_eq : Tryd.f14.body = some f14.code := by kernel_rfl
theorem f14.shape (Z : List PanicEntry → World → Prop) (x0 x1 : Value) (w : World) (Q : Value → World → Prop) : vc drawD Tryd.prog 26 Z [] f14.an f14.code (fnQ Tryd.prog 26 Tryd.f14.results Q) (argEnv [x0, x1]) w = f14.sh Z x0 x1 w Q := by kernel_rfl
theorem f14.enters : ∀ f, f ∈ ([] : List Nat) → Enters Tryd.prog f := by
  intro f hf
  cases hf
theorem f14.calls {Z : List PanicEntry → World → Prop} {x0 x1 : Value} {w : World} {Q : Value → World → Prop} (h : f14.sh Z x0 x1 w Q) : CallV Tryd.prog Z 14 #[x0, x1] w Q :=
  calls_of_vcn drawD_sound (Q := Q) (n := 26) (rs := Tryd.f14.results) (an := f14.an) (c := f14.code) (cal := []) (args := [x0, x1]) Tryd.func14 (by kernel_rfl) rfl f14.body_eq follows (Nat.le_of_ble_eq_true (by kernel_rfl)) (enters_of_all f14.enters) ((f14.shape Z x0 x1 w Q).mpr h)

/-! ### 17: lagoon/txn.Check -/
def f17.sh (Z : List PanicEntry → World → Prop) (x0 : Value) (w : World) (Q : Value → World → Prop) : Prop :=
  run1 Tryd.prog Z (Instr.box 36 x0) w fun t1_1 w =>
  run1 Tryd.prog Z (Instr.fieldAt 36 t1_1 0) w fun t5_2 w =>
  run1 Tryd.prog Z (Instr.loadAt 26 t5_2) w fun t6_3 w =>
  run1 Tryd.prog Z (Instr.alloc 26 true (.tuple #[])) w fun t3_4 w =>
  run0 Tryd.prog Z (Instr.storeAt 26 t3_4 t6_3) w fun w =>
  run1 Tryd.prog Z (Instr.fieldAt 26 t3_4 0) w fun t7_5 w =>
  run1 Tryd.prog Z (Instr.loadAt 24 t7_5) w fun t8_6 w =>
  run1 Tryd.prog Z (binOp BinOp.geq 24 t8_6 (Value.int IntKind.u32 1)) w fun t9_7 w =>
  guardW (t9_7) true (fun k => run1 Tryd.prog Z (Instr.fieldAt 26 t3_4 0) w k) (fun t11_8 w =>
  guardW (t9_7) true (fun k => run1 Tryd.prog Z (Instr.loadAt 24 t11_8) w k) (fun t12_9 w =>
  guardW (t9_7) true (fun k => run1 Tryd.prog Z (binOp BinOp.leq 24 t12_9 (Value.int IntKind.u32 2147483647)) w k) (fun t13_10 w =>
  run1 Tryd.prog Z (pickV t9_7 t13_10 (Value.bool false)) w fun t14_11 w =>
  guardW (t14_11) true (fun k => run1 Tryd.prog Z (Instr.fieldAt 26 t3_4 1) w k) (fun t16_12 w =>
  guardW (t14_11) true (fun k => run1 Tryd.prog Z (Instr.loadAt 24 t16_12) w k) (fun t17_13 w =>
  guardW (t14_11) true (fun k => run1 Tryd.prog Z (binOp BinOp.geq 24 t17_13 (Value.int IntKind.u32 1)) w k) (fun t18_14 w =>
  run1 Tryd.prog Z (pickV t14_11 t18_14 (Value.bool false)) w fun t19_15 w =>
  run1 Tryd.prog Z (Instr.loadAt 26 t3_4) w fun t21_16 w =>
  run1 Tryd.prog Z (Instr.build 26 #[]) w fun t22_17 w =>
  run1 Tryd.prog Z (eqOp BinOp.neq 26 false false t21_16 t22_17) w fun t23_18 w =>
  guardW (t23_18) true (fun k => k (t19_15) w) (fun t25_19 w =>
  guardW (t23_18) true (fun k => run1 Tryd.prog Z (Op.unary UnOp.not t25_19) w k) (fun t26_20 w =>
  run1 Tryd.prog Z (pickV t23_18 t26_20 (Value.bool false)) w fun t27_21 w =>
  CondV t27_21 (
    Q (Value.int IntKind.i64 40) w) (
    run1 Tryd.prog Z (Instr.fieldAt 36 t1_1 1) w fun t29_22 w =>
    run1 Tryd.prog Z (Instr.fieldAt 29 t29_22 0) w fun t30_23 w =>
    run1 Tryd.prog Z (Instr.loadAt 27 t30_23) w fun t31_24 w =>
    run1 Tryd.prog Z (binOp BinOp.lss 27 t31_24 (Value.int IntKind.i8 0)) w fun t32_25 w =>
    guardW (t32_25) false (fun k => run1 Tryd.prog Z (Instr.fieldAt 36 t1_1 1) w k) (fun t34_26 w =>
    guardW (t32_25) false (fun k => run1 Tryd.prog Z (Instr.fieldAt 29 t34_26 0) w k) (fun t35_27 w =>
    guardW (t32_25) false (fun k => run1 Tryd.prog Z (Instr.loadAt 27 t35_27) w k) (fun t36_28 w =>
    guardW (t32_25) false (fun k => run1 Tryd.prog Z (binOp BinOp.geq 27 t36_28 (Value.int IntKind.i8 7)) w k) (fun t37_29 w =>
    run1 Tryd.prog Z (pickV t32_25 (Value.bool true) t37_29) w fun t38_30 w =>
    guardW (t38_30) false (fun k => run1 Tryd.prog Z (Instr.fieldAt 36 t1_1 1) w k) (fun t40_31 w =>
    guardW (t38_30) false (fun k => run1 Tryd.prog Z (Instr.fieldAt 29 t40_31 2) w k) (fun t41_32 w =>
    guardW (t38_30) false (fun k => run1 Tryd.prog Z (Instr.loadAt 2 t41_32) w k) (fun t42_33 w =>
    guardW (t38_30) false (fun k => run1 Tryd.prog Z (binOp BinOp.lss 2 t42_33 (Value.int IntKind.i64 0)) w k) (fun t43_34 w =>
    run1 Tryd.prog Z (pickV t38_30 (Value.bool true) t43_34) w fun t44_35 w =>
    CondV t44_35 (
      Q (Value.int IntKind.i64 40) w) (
      run1 Tryd.prog Z (Instr.fieldAt 36 t1_1 2) w fun t46_36 w =>
      run1 Tryd.prog Z (Instr.fieldAt 34 t46_36 0) w fun t47_37 w =>
      run1 Tryd.prog Z (Instr.loadAt 27 t47_37) w fun t48_38 w =>
      run1 Tryd.prog Z (binOp BinOp.gtr 27 t48_38 (Value.int IntKind.i8 8)) w fun t49_39 w =>
      CondV t49_39 (
        Q (Value.int IntKind.i64 40) w) (
        run1 Tryd.prog Z (Instr.fieldAt 36 t1_1 2) w fun t50_40 w =>
        run1 Tryd.prog Z (Instr.loadAt 34 t50_40) w fun t51_41 w =>
        CallV Tryd.prog Z 32 #[t51_41] w fun t52_42 w =>
        Q t52_42 w))) w) w) w) w) w) w) w) w)) w) w) w) w) w) w) w) w
noncomputable def f17.code : Code := match Tryd.f17.body with | some c => c | none => .skip
def f17.an : An := (.sq .leaf (.sq .leaf (.sq .leaf (.sq (.bl (.sq .leaf (.cn (.sq .leaf .leaf) (.sq .leaf (.cn (.sq .leaf .leaf) (.sq .leaf (.cn (.sq .leaf .leaf) .leaf))))))) (.sq .leaf .leaf)))))
theorem f17.body_eq : Tryd.f17.body = some f17.code := by kernel_rfl
theorem f17.shape (Z : List PanicEntry → World → Prop) (x0 : Value) (w : World) (Q : Value → World → Prop) : vc drawD Tryd.prog 53 Z [32] f17.an f17.code (fnQ Tryd.prog 53 Tryd.f17.results Q) (argEnv [x0]) w = f17.sh Z x0 w Q := by kernel_rfl
theorem f17.enters : ∀ f, f ∈ ([32] : List Nat) → Enters Tryd.prog f := by
  intro f hf
  simp only [List.mem_cons, List.not_mem_nil, or_false] at hf
  rcases hf with rfl
  · exact en32
theorem f17.calls {Z : List PanicEntry → World → Prop} {x0 : Value} {w : World} {Q : Value → World → Prop} (h : f17.sh Z x0 w Q) : CallV Tryd.prog Z 17 #[x0] w Q :=
  calls_of_vcn drawD_sound (Q := Q) (n := 53) (rs := Tryd.f17.results) (an := f17.an) (c := f17.code) (cal := [32]) (args := [x0]) Tryd.func17 (by kernel_rfl) rfl f17.body_eq follows (Nat.le_of_ble_eq_true (by kernel_rfl)) (enters_of_all f17.enters) ((f17.shape Z x0 w Q).mpr h)

/-! ### 19: lagoon/lagoonref00.EqTxn -/
def f19.sh (Z : List PanicEntry → World → Prop) (x0 x1 : Value) (w : World) (Q : Value → World → Prop) : Prop :=
  run1 Tryd.prog Z (Instr.box 36 x0) w fun t2_1 w =>
  run1 Tryd.prog Z (Instr.box 36 x1) w fun t3_2 w =>
  run1 Tryd.prog Z (Instr.fieldAt 36 t2_1 0) w fun t5_3 w =>
  run1 Tryd.prog Z (Instr.loadAt 26 t5_3) w fun t6_4 w =>
  run1 Tryd.prog Z (Instr.fieldAt 36 t3_2 0) w fun t7_5 w =>
  run1 Tryd.prog Z (Instr.loadAt 26 t7_5) w fun t8_6 w =>
  run1 Tryd.prog Z (eqOp BinOp.eql 26 false false t6_4 t8_6) w fun t9_7 w =>
  guardW (t9_7) true (fun k => run1 Tryd.prog Z (Instr.fieldAt 36 t2_1 1) w k) (fun t11_8 w =>
  guardW (t9_7) true (fun k => run1 Tryd.prog Z (Instr.loadAt 29 t11_8) w k) (fun t12_9 w =>
  guardW (t9_7) true (fun k => run1 Tryd.prog Z (Instr.fieldAt 36 t3_2 1) w k) (fun t13_10 w =>
  guardW (t9_7) true (fun k => run1 Tryd.prog Z (Instr.loadAt 29 t13_10) w k) (fun t14_11 w =>
  guardW (t9_7) true (fun k => run1 Tryd.prog Z (eqOp BinOp.eql 29 false false t12_9 t14_11) w k) (fun t15_12 w =>
  run1 Tryd.prog Z (pickV t9_7 t15_12 (Value.bool false)) w fun t16_13 w =>
  guardW (t16_13) true (fun k => run1 Tryd.prog Z (Instr.fieldAt 36 t2_1 2) w k) (fun t18_14 w =>
  guardW (t16_13) true (fun k => run1 Tryd.prog Z (Instr.loadAt 34 t18_14) w k) (fun t19_15 w =>
  guardW (t16_13) true (fun k => run1 Tryd.prog Z (Instr.fieldAt 36 t3_2 2) w k) (fun t20_16 w =>
  guardW (t16_13) true (fun k => run1 Tryd.prog Z (Instr.loadAt 34 t20_16) w k) (fun t21_17 w =>
  guardW (t16_13) true (fun k => CallV Tryd.prog Z 54 #[t19_15, t21_17] w k) (fun t22_18 w =>
  run1 Tryd.prog Z (pickV t16_13 t22_18 (Value.bool false)) w fun t23_19 w =>
  Q t23_19 w) w) w) w) w) w) w) w) w) w) w
noncomputable def f19.code : Code := match Tryd.f19.body with | some c => c | none => .skip
def f19.an : An := (.sq .leaf (.sq .leaf .leaf))
theorem f19.body_eq : Tryd.f19.body = some f19.code := by kernel_rfl
theorem f19.shape (Z : List PanicEntry → World → Prop) (x0 x1 : Value) (w : World) (Q : Value → World → Prop) : vc drawD Tryd.prog 24 Z [54] f19.an f19.code (fnQ Tryd.prog 24 Tryd.f19.results Q) (argEnv [x0, x1]) w = f19.sh Z x0 x1 w Q := by kernel_rfl
theorem f19.enters : ∀ f, f ∈ ([54] : List Nat) → Enters Tryd.prog f := by
  intro f hf
  simp only [List.mem_cons, List.not_mem_nil, or_false] at hf
  rcases hf with rfl
  · exact en54
theorem f19.calls {Z : List PanicEntry → World → Prop} {x0 x1 : Value} {w : World} {Q : Value → World → Prop} (h : f19.sh Z x0 x1 w Q) : CallV Tryd.prog Z 19 #[x0, x1] w Q :=
  calls_of_vcn drawD_sound (Q := Q) (n := 24) (rs := Tryd.f19.results) (an := f19.an) (c := f19.code) (cal := [54]) (args := [x0, x1]) Tryd.func19 (by kernel_rfl) rfl f19.body_eq follows (Nat.le_of_ble_eq_true (by kernel_rfl)) (enters_of_all f19.enters) ((f19.shape Z x0 x1 w Q).mpr h)

/-! ### 20: lagoon/txn.Pack -/
def f20.sh (Z : List PanicEntry → World → Prop) (x0 : Value) (w : World) (Q : Value → World → Prop) : Prop :=
  run1 Tryd.prog Z (Instr.box 26 x0) w fun t1_1 w =>
  run1 Tryd.prog Z (Instr.fieldAt 26 t1_1 0) w fun t4_2 w =>
  run1 Tryd.prog Z (Instr.loadAt 24 t4_2) w fun t5_3 w =>
  run1 Tryd.prog Z (binOp BinOp.gtr 24 t5_3 (Value.int IntKind.u32 2147483647)) w fun t6_4 w =>
  CondV t6_4 (
    Q (Value.tuple #[(Value.int IntKind.i64 0), (Value.int IntKind.i64 1)]) w) (
    run1 Tryd.prog Z (Instr.fieldAt 26 t1_1 0) w fun t7_5 w =>
    run1 Tryd.prog Z (Instr.loadAt 24 t7_5) w fun t8_6 w =>
    run1 Tryd.prog Z (convert 24 2 t8_6) w fun t9_7 w =>
    run1 Tryd.prog Z (binOp BinOp.shl 2 t9_7 (Value.int IntKind.u64 32)) w fun t10_8 w =>
    run1 Tryd.prog Z (Instr.fieldAt 26 t1_1 1) w fun t11_9 w =>
    run1 Tryd.prog Z (Instr.loadAt 24 t11_9) w fun t12_10 w =>
    run1 Tryd.prog Z (convert 24 2 t12_10) w fun t13_11 w =>
    run1 Tryd.prog Z (binOp BinOp.or 2 t10_8 t13_11) w fun t14_12 w =>
    Q (Value.tuple #[t14_12, (Value.int IntKind.i64 0)]) w)
noncomputable def f20.code : Code := match Tryd.f20.body with | some c => c | none => .skip
def f20.an : An := (.sq .leaf (.sq (.sq .leaf (.cn (.sq .leaf .leaf) .leaf)) (.sq .leaf .leaf)))
theorem f20.body_eq : Tryd.f20.body = some f20.code := by kernel_rfl
theorem f20.shape (Z : List PanicEntry → World → Prop) (x0 : Value) (w : World) (Q : Value → World → Prop) : vc drawD Tryd.prog 15 Z [] f20.an f20.code (fnQ Tryd.prog 15 Tryd.f20.results Q) (argEnv [x0]) w = f20.sh Z x0 w Q := by kernel_rfl
theorem f20.enters : ∀ f, f ∈ ([] : List Nat) → Enters Tryd.prog f := by
  intro f hf
  cases hf
theorem f20.calls {Z : List PanicEntry → World → Prop} {x0 : Value} {w : World} {Q : Value → World → Prop} (h : f20.sh Z x0 w Q) : CallV Tryd.prog Z 20 #[x0] w Q :=
  calls_of_vcn drawD_sound (Q := Q) (n := 15) (rs := Tryd.f20.results) (an := f20.an) (c := f20.code) (cal := []) (args := [x0]) Tryd.func20 (by kernel_rfl) rfl f20.body_eq follows (Nat.le_of_ble_eq_true (by kernel_rfl)) (enters_of_all f20.enters) ((f20.shape Z x0 w Q).mpr h)

/-! ### 21: lagoon/txn.Unpack -/
def f21.sh (Z : List PanicEntry → World → Prop) (x0 : Value) (w : World) (Q : Value → World → Prop) : Prop :=
  run1 Tryd.prog Z (Instr.alloc 26 true (.tuple #[])) w fun t2_1 w =>
  run1 Tryd.prog Z (binOp BinOp.lss 2 x0 (Value.int IntKind.i64 0)) w fun t5_2 w =>
  CondV t5_2 (
    run1 Tryd.prog Z (Instr.build 26 #[]) w fun t6_3 w =>
    run0 Tryd.prog Z (Instr.storeAt 26 t2_1 t6_3) w fun w =>
    ∃ r_4, (do loadVar 26 (← asAddr t2_1) : Sem Value).run Tryd.prog w = .ok r_4 w ∧
    Q (Value.tuple #[r_4, (Value.int IntKind.i64 1)]) w) (
    run1 Tryd.prog Z (binOp BinOp.shr 2 x0 (Value.int IntKind.u64 32)) w fun t8_5 w =>
    run1 Tryd.prog Z (convert 2 24 t8_5) w fun t9_6 w =>
    run1 Tryd.prog Z (convert 2 24 x0) w fun t11_7 w =>
    run1 Tryd.prog Z (Instr.build 26 #[(0, t9_6), (1, t11_7)]) w fun t12_8 w =>
    run0 Tryd.prog Z (Instr.storeAt 26 t2_1 t12_8) w fun w =>
    ∃ r_9, (do loadVar 26 (← asAddr t2_1) : Sem Value).run Tryd.prog w = .ok r_9 w ∧
    Q (Value.tuple #[r_9, (Value.int IntKind.i64 0)]) w)
noncomputable def f21.code : Code := match Tryd.f21.body with | some c => c | none => .skip
def f21.an : An := (.sq .leaf (.sq (.sq .leaf (.cn (.sq .leaf .leaf) .leaf)) (.sq .leaf .leaf)))
theorem f21.body_eq : Tryd.f21.body = some f21.code := by kernel_rfl
theorem f21.shape (Z : List PanicEntry → World → Prop) (x0 : Value) (w : World) (Q : Value → World → Prop) : vc drawD Tryd.prog 13 Z [] f21.an f21.code (fnQ Tryd.prog 13 Tryd.f21.results Q) (argEnv [x0]) w = f21.sh Z x0 w Q := by kernel_rfl
theorem f21.enters : ∀ f, f ∈ ([] : List Nat) → Enters Tryd.prog f := by
  intro f hf
  cases hf
theorem f21.calls {Z : List PanicEntry → World → Prop} {x0 : Value} {w : World} {Q : Value → World → Prop} (h : f21.sh Z x0 w Q) : CallV Tryd.prog Z 21 #[x0] w Q :=
  calls_of_vcn drawD_sound (Q := Q) (n := 13) (rs := Tryd.f21.results) (an := f21.an) (c := f21.code) (cal := []) (args := [x0]) Tryd.func21 (by kernel_rfl) rfl f21.body_eq follows (Nat.le_of_ble_eq_true (by kernel_rfl)) (enters_of_all f21.enters) ((f21.shape Z x0 w Q).mpr h)

/-! ### 22: lagoon/txn.Compare -/
def f22.sh (Z : List PanicEntry → World → Prop) (x0 x1 : Value) (w : World) (Q : Value → World → Prop) : Prop :=
  run1 Tryd.prog Z (Instr.box 26 x0) w fun t2_1 w =>
  run1 Tryd.prog Z (Instr.box 26 x1) w fun t3_2 w =>
  Drawn w fun w =>
  Pure1 Tryd.prog (Instr.fieldAt 26 t2_1 0) fun t5_3 =>
  Read1 Tryd.prog (Instr.loadAt 24 t5_3) w fun t6_4 =>
  Pure1 Tryd.prog (Instr.fieldAt 26 t3_2 0) fun t7_5 =>
  Read1 Tryd.prog (Instr.loadAt 24 t7_5) w fun t8_6 =>
  Pure1 Tryd.prog (Instr.fieldAt 26 t2_1 1) fun t10_7 =>
  Read1 Tryd.prog (Instr.loadAt 24 t10_7) w fun t11_8 =>
  Pure1 Tryd.prog (Instr.fieldAt 26 t3_2 1) fun t12_9 =>
  Read1 Tryd.prog (Instr.loadAt 24 t12_9) w fun t13_10 =>
  CallV Tryd.prog Z 56 #[t6_4, t8_6] w fun t9_11 w =>
    Still Tryd.prog (nx (Instr.loadAt 24 t12_9)) t13_10 w <|
    Still Tryd.prog (nx (Instr.loadAt 24 t10_7)) t11_8 w <|
  CallV Tryd.prog Z 56 #[t11_8, t13_10] w fun t14_12 w =>
  run1 Tryd.prog Z (Instr.buildSlice 127 2 #[(0, t9_11), (1, t14_12)]) w fun t15_13 w =>
  CallV Tryd.prog Z 55 #[t15_13] w fun t16_14 w =>
  Q t16_14 w
noncomputable def f22.code : Code := match Tryd.f22.body with | some c => c | none => .skip
def f22.an : An := (.sq .leaf (.sq (.dr (.take 0 false (.take 1 true (.take 2 false (.take 3 true (.take 5 false (.take 6 true (.take 7 false (.take 8 true (.one 4 (.one 9 (.one 10 (.one 11 (.take 12 false .fin)))))))))))))) .leaf))
theorem f22.body_eq : Tryd.f22.body = some f22.code := by kernel_rfl
theorem f22.shape (Z : List PanicEntry → World → Prop) (x0 x1 : Value) (w : World) (Q : Value → World → Prop) : vc drawD Tryd.prog 17 Z [56, 55] f22.an f22.code (fnQ Tryd.prog 17 Tryd.f22.results Q) (argEnv [x0, x1]) w = f22.sh Z x0 x1 w Q := by kernel_rfl
theorem f22.enters : ∀ f, f ∈ ([56, 55] : List Nat) → Enters Tryd.prog f := by
  intro f hf
  simp only [List.mem_cons, List.not_mem_nil, or_false] at hf
  rcases hf with rfl | rfl
  · exact en56
  · exact en55
theorem f22.calls {Z : List PanicEntry → World → Prop} {x0 x1 : Value} {w : World} {Q : Value → World → Prop} (h : f22.sh Z x0 x1 w Q) : CallV Tryd.prog Z 22 #[x0, x1] w Q :=
  calls_of_vcn drawD_sound (Q := Q) (n := 17) (rs := Tryd.f22.results) (an := f22.an) (c := f22.code) (cal := [56, 55]) (args := [x0, x1]) Tryd.func22 (by kernel_rfl) rfl f22.body_eq follows (Nat.le_of_ble_eq_true (by kernel_rfl)) (enters_of_all f22.enters) ((f22.shape Z x0 x1 w Q).mpr h)

/-! ### 26: lagoon/txn.Next -/
def f26.sh (Z : List PanicEntry → World → Prop) (x0 x1 : Value) (w : World) (Q : Value → World → Prop) : Prop :=
  run1 Tryd.prog Z (Instr.box 26 x0) w fun t2_1 w =>
  run1 Tryd.prog Z (Instr.alloc 26 true (.tuple #[])) w fun t4_2 w =>
  run1 Tryd.prog Z (Instr.fieldAt 26 t2_1 0) w fun t7_3 w =>
  run1 Tryd.prog Z (Instr.loadAt 24 t7_3) w fun t8_4 w =>
  run1 Tryd.prog Z (eqOp BinOp.eql 24 false true t8_4 (Value.int IntKind.u32 0)) w fun t9_5 w =>
  guardW (t9_5) false (fun k => run1 Tryd.prog Z (Instr.fieldAt 26 t2_1 0) w k) (fun t11_6 w =>
  guardW (t9_5) false (fun k => run1 Tryd.prog Z (Instr.loadAt 24 t11_6) w k) (fun t12_7 w =>
  guardW (t9_5) false (fun k => run1 Tryd.prog Z (binOp BinOp.gtr 24 t12_7 (Value.int IntKind.u32 2147483647)) w k) (fun t13_8 w =>
  run1 Tryd.prog Z (pickV t9_5 (Value.bool true) t13_8) w fun t14_9 w =>
  CondV t14_9 (
    run1 Tryd.prog Z (Instr.build 26 #[]) w fun t15_10 w =>
    run0 Tryd.prog Z (Instr.storeAt 26 t4_2 t15_10) w fun w =>
    ∃ r_11, (do loadVar 26 (← asAddr t4_2) : Sem Value).run Tryd.prog w = .ok r_11 w ∧
    Q (Value.tuple #[r_11, (Value.int IntKind.i64 1)]) w) (
    run1 Tryd.prog Z (Instr.fieldAt 26 t2_1 1) w fun t17_12 w =>
    run1 Tryd.prog Z (Instr.loadAt 24 t17_12) w fun t18_13 w =>
    run1 Tryd.prog Z (binOp BinOp.geq 24 t18_13 x1) w fun t20_14 w =>
    CondV t20_14 (
      run1 Tryd.prog Z (Instr.build 26 #[]) w fun t21_15 w =>
      run0 Tryd.prog Z (Instr.storeAt 26 t4_2 t21_15) w fun w =>
      ∃ r_16, (do loadVar 26 (← asAddr t4_2) : Sem Value).run Tryd.prog w = .ok r_16 w ∧
      Q (Value.tuple #[r_16, (Value.int IntKind.i64 2)]) w) (
      run1 Tryd.prog Z (Instr.fieldAt 26 t2_1 0) w fun t22_17 w =>
      run1 Tryd.prog Z (Instr.loadAt 24 t22_17) w fun t23_18 w =>
      run1 Tryd.prog Z (Instr.fieldAt 26 t2_1 1) w fun t24_19 w =>
      run1 Tryd.prog Z (Instr.loadAt 24 t24_19) w fun t25_20 w =>
      run1 Tryd.prog Z (binOp BinOp.add 24 t25_20 (Value.int IntKind.u32 1)) w fun t26_21 w =>
      run1 Tryd.prog Z (Instr.build 26 #[(0, t23_18), (1, t26_21)]) w fun t27_22 w =>
      run0 Tryd.prog Z (Instr.storeAt 26 t4_2 t27_22) w fun w =>
      ∃ r_23, (do loadVar 26 (← asAddr t4_2) : Sem Value).run Tryd.prog w = .ok r_23 w ∧
      Q (Value.tuple #[r_23, (Value.int IntKind.i64 0)]) w))) w) w) w
noncomputable def f26.code : Code := match Tryd.f26.body with | some c => c | none => .skip
def f26.an : An := (.sq .leaf (.sq (.bl (.sq .leaf (.cn (.sq .leaf .leaf) (.sq .leaf (.cn (.sq .leaf .leaf) .leaf))))) (.sq .leaf .leaf)))
theorem f26.body_eq : Tryd.f26.body = some f26.code := by kernel_rfl
theorem f26.shape (Z : List PanicEntry → World → Prop) (x0 x1 : Value) (w : World) (Q : Value → World → Prop) : vc drawD Tryd.prog 28 Z [] f26.an f26.code (fnQ Tryd.prog 28 Tryd.f26.results Q) (argEnv [x0, x1]) w = f26.sh Z x0 x1 w Q := by kernel_rfl
theorem f26.enters : ∀ f, f ∈ ([] : List Nat) → Enters Tryd.prog f := by
  intro f hf
  cases hf
theorem f26.calls {Z : List PanicEntry → World → Prop} {x0 x1 : Value} {w : World} {Q : Value → World → Prop} (h : f26.sh Z x0 x1 w Q) : CallV Tryd.prog Z 26 #[x0, x1] w Q :=
  calls_of_vcn drawD_sound (Q := Q) (n := 28) (rs := Tryd.f26.results) (an := f26.an) (c := f26.code) (cal := []) (args := [x0, x1]) Tryd.func26 (by kernel_rfl) rfl f26.body_eq follows (Nat.le_of_ble_eq_true (by kernel_rfl)) (enters_of_all f26.enters) ((f26.shape Z x0 x1 w Q).mpr h)

/-! ### 27: lagoon/lagoonref04.Pack -/
def f27.sh (Z : List PanicEntry → World → Prop) (x0 : Value) (w : World) (Q : Value → World → Prop) : Prop :=
  run1 Tryd.prog Z (Instr.box 26 x0) w fun t1_1 w =>
  run1 Tryd.prog Z (Instr.fieldAt 26 t1_1 0) w fun t4_2 w =>
  run1 Tryd.prog Z (Instr.loadAt 24 t4_2) w fun t5_3 w =>
  run1 Tryd.prog Z (convert 24 2 t5_3) w fun t6_4 w =>
  run1 Tryd.prog Z (binOp BinOp.gtr 2 t6_4 (Value.int IntKind.i64 2147483647)) w fun t7_5 w =>
  CondV t7_5 (
    Q (Value.tuple #[(Value.int IntKind.i64 0), (Value.int IntKind.i64 1)]) w) (
    run1 Tryd.prog Z (Instr.fieldAt 26 t1_1 0) w fun t8_6 w =>
    run1 Tryd.prog Z (Instr.loadAt 24 t8_6) w fun t9_7 w =>
    run1 Tryd.prog Z (convert 24 2 t9_7) w fun t10_8 w =>
    run1 Tryd.prog Z (binOp BinOp.mul 2 t10_8 (Value.int IntKind.i64 4294967296)) w fun t11_9 w =>
    run1 Tryd.prog Z (Instr.fieldAt 26 t1_1 1) w fun t12_10 w =>
    run1 Tryd.prog Z (Instr.loadAt 24 t12_10) w fun t13_11 w =>
    run1 Tryd.prog Z (convert 24 2 t13_11) w fun t14_12 w =>
    run1 Tryd.prog Z (binOp BinOp.add 2 t11_9 t14_12) w fun t15_13 w =>
    Q (Value.tuple #[t15_13, (Value.int IntKind.i64 0)]) w)
noncomputable def f27.code : Code := match Tryd.f27.body with | some c => c | none => .skip
def f27.an : An := (.sq .leaf (.sq (.sq .leaf (.cn (.sq .leaf .leaf) .leaf)) (.sq .leaf .leaf)))
theorem f27.body_eq : Tryd.f27.body = some f27.code := by kernel_rfl
theorem f27.shape (Z : List PanicEntry → World → Prop) (x0 : Value) (w : World) (Q : Value → World → Prop) : vc drawD Tryd.prog 16 Z [] f27.an f27.code (fnQ Tryd.prog 16 Tryd.f27.results Q) (argEnv [x0]) w = f27.sh Z x0 w Q := by kernel_rfl
theorem f27.enters : ∀ f, f ∈ ([] : List Nat) → Enters Tryd.prog f := by
  intro f hf
  cases hf
theorem f27.calls {Z : List PanicEntry → World → Prop} {x0 : Value} {w : World} {Q : Value → World → Prop} (h : f27.sh Z x0 w Q) : CallV Tryd.prog Z 27 #[x0] w Q :=
  calls_of_vcn drawD_sound (Q := Q) (n := 16) (rs := Tryd.f27.results) (an := f27.an) (c := f27.code) (cal := []) (args := [x0]) Tryd.func27 (by kernel_rfl) rfl f27.body_eq follows (Nat.le_of_ble_eq_true (by kernel_rfl)) (enters_of_all f27.enters) ((f27.shape Z x0 w Q).mpr h)

/-! ### 28: lagoon/lagoonref04.Unpack -/
def f28.sh (Z : List PanicEntry → World → Prop) (x0 : Value) (w : World) (Q : Value → World → Prop) : Prop :=
  run1 Tryd.prog Z (Instr.alloc 26 true (.tuple #[])) w fun t2_1 w =>
  run1 Tryd.prog Z (binOp BinOp.lss 2 x0 (Value.int IntKind.i64 0)) w fun t5_2 w =>
  CondV t5_2 (
    run1 Tryd.prog Z (Instr.build 26 #[]) w fun t6_3 w =>
    run0 Tryd.prog Z (Instr.storeAt 26 t2_1 t6_3) w fun w =>
    ∃ r_4, (do loadVar 26 (← asAddr t2_1) : Sem Value).run Tryd.prog w = .ok r_4 w ∧
    Q (Value.tuple #[r_4, (Value.int IntKind.i64 1)]) w) (
    run1 Tryd.prog Z (binOp BinOp.quo 2 x0 (Value.int IntKind.i64 4294967296)) w fun t8_5 w =>
    run1 Tryd.prog Z (convert 2 24 t8_5) w fun t9_6 w =>
    run1 Tryd.prog Z (binOp BinOp.rem 2 x0 (Value.int IntKind.i64 4294967296)) w fun t11_7 w =>
    run1 Tryd.prog Z (convert 2 24 t11_7) w fun t12_8 w =>
    run1 Tryd.prog Z (Instr.build 26 #[(0, t9_6), (1, t12_8)]) w fun t13_9 w =>
    run0 Tryd.prog Z (Instr.storeAt 26 t2_1 t13_9) w fun w =>
    ∃ r_10, (do loadVar 26 (← asAddr t2_1) : Sem Value).run Tryd.prog w = .ok r_10 w ∧
    Q (Value.tuple #[r_10, (Value.int IntKind.i64 0)]) w)
noncomputable def f28.code : Code := match Tryd.f28.body with | some c => c | none => .skip
def f28.an : An := (.sq .leaf (.sq (.sq .leaf (.cn (.sq .leaf .leaf) .leaf)) (.sq .leaf .leaf)))
theorem f28.body_eq : Tryd.f28.body = some f28.code := by kernel_rfl
theorem f28.shape (Z : List PanicEntry → World → Prop) (x0 : Value) (w : World) (Q : Value → World → Prop) : vc drawD Tryd.prog 14 Z [] f28.an f28.code (fnQ Tryd.prog 14 Tryd.f28.results Q) (argEnv [x0]) w = f28.sh Z x0 w Q := by kernel_rfl
theorem f28.enters : ∀ f, f ∈ ([] : List Nat) → Enters Tryd.prog f := by
  intro f hf
  cases hf
theorem f28.calls {Z : List PanicEntry → World → Prop} {x0 : Value} {w : World} {Q : Value → World → Prop} (h : f28.sh Z x0 w Q) : CallV Tryd.prog Z 28 #[x0] w Q :=
  calls_of_vcn drawD_sound (Q := Q) (n := 14) (rs := Tryd.f28.results) (an := f28.an) (c := f28.code) (cal := []) (args := [x0]) Tryd.func28 (by kernel_rfl) rfl f28.body_eq follows (Nat.le_of_ble_eq_true (by kernel_rfl)) (enters_of_all f28.enters) ((f28.shape Z x0 w Q).mpr h)

/-! ### 29: lagoon/lagoonref04.Next -/
def f29.sh (Z : List PanicEntry → World → Prop) (x0 x1 : Value) (w : World) (Q : Value → World → Prop) : Prop :=
  run1 Tryd.prog Z (Instr.box 26 x0) w fun t2_1 w =>
  run1 Tryd.prog Z (Instr.alloc 26 true (.tuple #[])) w fun t4_2 w =>
  run1 Tryd.prog Z (Instr.fieldAt 26 t2_1 0) w fun t6_3 w =>
  run1 Tryd.prog Z (Instr.loadAt 24 t6_3) w fun t7_4 w =>
  run1 Tryd.prog Z (eqOp BinOp.eql 24 false true t7_4 (Value.int IntKind.u32 0)) w fun t8_5 w =>
  guardW (t8_5) false (fun k => run1 Tryd.prog Z (Instr.fieldAt 26 t2_1 0) w k) (fun t10_6 w =>
  guardW (t8_5) false (fun k => run1 Tryd.prog Z (Instr.loadAt 24 t10_6) w k) (fun t11_7 w =>
  guardW (t8_5) false (fun k => run1 Tryd.prog Z (convert 24 2 t11_7) w k) (fun t12_8 w =>
  guardW (t8_5) false (fun k => run1 Tryd.prog Z (binOp BinOp.gtr 2 t12_8 (Value.int IntKind.i64 2147483647)) w k) (fun t13_9 w =>
  run1 Tryd.prog Z (pickV t8_5 (Value.bool true) t13_9) w fun t14_10 w =>
  CondV t14_10 (
    run1 Tryd.prog Z (Instr.build 26 #[]) w fun t15_11 w =>
    run0 Tryd.prog Z (Instr.storeAt 26 t4_2 t15_11) w fun w =>
    ∃ r_12, (do loadVar 26 (← asAddr t4_2) : Sem Value).run Tryd.prog w = .ok r_12 w ∧
    Q (Value.tuple #[r_12, (Value.int IntKind.i64 1)]) w) (
    run1 Tryd.prog Z (Instr.fieldAt 26 t2_1 1) w fun t16_13 w =>
    run1 Tryd.prog Z (Instr.loadAt 24 t16_13) w fun t17_14 w =>
    run1 Tryd.prog Z (binOp BinOp.geq 24 t17_14 x1) w fun t19_15 w =>
    CondV t19_15 (
      run1 Tryd.prog Z (Instr.build 26 #[]) w fun t20_16 w =>
      run0 Tryd.prog Z (Instr.storeAt 26 t4_2 t20_16) w fun w =>
      ∃ r_17, (do loadVar 26 (← asAddr t4_2) : Sem Value).run Tryd.prog w = .ok r_17 w ∧
      Q (Value.tuple #[r_17, (Value.int IntKind.i64 2)]) w) (
      run1 Tryd.prog Z (Instr.fieldAt 26 t2_1 0) w fun t21_18 w =>
      run1 Tryd.prog Z (Instr.loadAt 24 t21_18) w fun t22_19 w =>
      run1 Tryd.prog Z (Instr.fieldAt 26 t2_1 1) w fun t23_20 w =>
      run1 Tryd.prog Z (Instr.loadAt 24 t23_20) w fun t24_21 w =>
      run1 Tryd.prog Z (binOp BinOp.add 24 t24_21 (Value.int IntKind.u32 1)) w fun t25_22 w =>
      run1 Tryd.prog Z (Instr.build 26 #[(0, t22_19), (1, t25_22)]) w fun t26_23 w =>
      run0 Tryd.prog Z (Instr.storeAt 26 t4_2 t26_23) w fun w =>
      ∃ r_24, (do loadVar 26 (← asAddr t4_2) : Sem Value).run Tryd.prog w = .ok r_24 w ∧
      Q (Value.tuple #[r_24, (Value.int IntKind.i64 0)]) w))) w) w) w) w
noncomputable def f29.code : Code := match Tryd.f29.body with | some c => c | none => .skip
def f29.an : An := (.sq .leaf (.sq (.sq .leaf (.cn (.sq .leaf .leaf) .leaf)) (.sq (.sq .leaf (.cn (.sq .leaf .leaf) .leaf)) (.sq .leaf .leaf))))
theorem f29.body_eq : Tryd.f29.body = some f29.code := by kernel_rfl
theorem f29.shape (Z : List PanicEntry → World → Prop) (x0 x1 : Value) (w : World) (Q : Value → World → Prop) : vc drawD Tryd.prog 27 Z [] f29.an f29.code (fnQ Tryd.prog 27 Tryd.f29.results Q) (argEnv [x0, x1]) w = f29.sh Z x0 x1 w Q := by kernel_rfl
theorem f29.enters : ∀ f, f ∈ ([] : List Nat) → Enters Tryd.prog f := by
  intro f hf
  cases hf
theorem f29.calls {Z : List PanicEntry → World → Prop} {x0 x1 : Value} {w : World} {Q : Value → World → Prop} (h : f29.sh Z x0 x1 w Q) : CallV Tryd.prog Z 29 #[x0, x1] w Q :=
  calls_of_vcn drawD_sound (Q := Q) (n := 27) (rs := Tryd.f29.results) (an := f29.an) (c := f29.code) (cal := []) (args := [x0, x1]) Tryd.func29 (by kernel_rfl) rfl f29.body_eq follows (Nat.le_of_ble_eq_true (by kernel_rfl)) (enters_of_all f29.enters) ((f29.shape Z x0 x1 w Q).mpr h)

/-! ### 30: lagoon/lagoonref00.Compare -/
def f30.sh (Z : List PanicEntry → World → Prop) (x0 x1 : Value) (w : World) (Q : Value → World → Prop) : Prop :=
  run1 Tryd.prog Z (Instr.box 26 x0) w fun t2_1 w =>
  run1 Tryd.prog Z (Instr.box 26 x1) w fun t3_2 w =>
  run1 Tryd.prog Z (Instr.fieldAt 26 t2_1 0) w fun t6_3 w =>
  run1 Tryd.prog Z (Instr.loadAt 24 t6_3) w fun t7_4 w =>
  run1 Tryd.prog Z (Instr.fieldAt 26 t3_2 0) w fun t8_5 w =>
  run1 Tryd.prog Z (Instr.loadAt 24 t8_5) w fun t9_6 w =>
  run1 Tryd.prog Z (binOp BinOp.lss 24 t7_4 t9_6) w fun t10_7 w =>
  guardW (t10_7) false (fun k => run1 Tryd.prog Z (Instr.fieldAt 26 t2_1 0) w k) (fun t12_8 w =>
  guardW (t10_7) false (fun k => run1 Tryd.prog Z (Instr.loadAt 24 t12_8) w k) (fun t13_9 w =>
  guardW (t10_7) false (fun k => run1 Tryd.prog Z (Instr.fieldAt 26 t3_2 0) w k) (fun t14_10 w =>
  guardW (t10_7) false (fun k => run1 Tryd.prog Z (Instr.loadAt 24 t14_10) w k) (fun t15_11 w =>
  guardW (t10_7) false (fun k => run1 Tryd.prog Z (eqOp BinOp.eql 24 false false t13_9 t15_11) w k) (fun t16_12 w =>
  guardW (t10_7) false (fun k => k (t16_12) w) (fun t17_13 w =>
  guardW (t17_13) true (fun k => run1 Tryd.prog Z (Instr.fieldAt 26 t2_1 1) w k) (fun t18_14 w =>
  guardW (t17_13) true (fun k => run1 Tryd.prog Z (Instr.loadAt 24 t18_14) w k) (fun t19_15 w =>
  guardW (t17_13) true (fun k => run1 Tryd.prog Z (Instr.fieldAt 26 t3_2 1) w k) (fun t20_16 w =>
  guardW (t17_13) true (fun k => run1 Tryd.prog Z (Instr.loadAt 24 t20_16) w k) (fun t21_17 w =>
  guardW (t17_13) true (fun k => run1 Tryd.prog Z (binOp BinOp.lss 24 t19_15 t21_17) w k) (fun t22_18 w =>
  guardW (t10_7) false (fun k => run1 Tryd.prog Z (pickV t17_13 t22_18 (Value.bool false)) w k) (fun t23_19 w =>
  run1 Tryd.prog Z (pickV t10_7 (Value.bool true) t23_19) w fun t24_20 w =>
  CondV t24_20 (
    Q (Value.int IntKind.i64 (-1)) w) (
    run1 Tryd.prog Z (Instr.loadAt 26 t2_1) w fun t26_21 w =>
    run1 Tryd.prog Z (Instr.loadAt 26 t3_2) w fun t27_22 w =>
    run1 Tryd.prog Z (eqOp BinOp.eql 26 false false t26_21 t27_22) w fun t28_23 w =>
    CondV t28_23 (
      Q (Value.int IntKind.i64 0) w) (
      Q (Value.int IntKind.i64 1) w))) w) w) w) w) w) w) w) w) w) w) w) w
noncomputable def f30.code : Code := match Tryd.f30.body with | some c => c | none => .skip
def f30.an : An := (.sq .leaf (.sq (.bl (.sq .leaf (.cn (.sq .leaf .leaf) (.sq .leaf (.cn (.sq .leaf .leaf) .leaf))))) (.sq .leaf .leaf)))
theorem f30.body_eq : Tryd.f30.body = some f30.code := by kernel_rfl
theorem f30.shape (Z : List PanicEntry → World → Prop) (x0 x1 : Value) (w : World) (Q : Value → World → Prop) : vc drawD Tryd.prog 29 Z [] f30.an f30.code (fnQ Tryd.prog 29 Tryd.f30.results Q) (argEnv [x0, x1]) w = f30.sh Z x0 x1 w Q := by kernel_rfl
theorem f30.enters : ∀ f, f ∈ ([] : List Nat) → Enters Tryd.prog f := by
  intro f hf
  cases hf
theorem f30.calls {Z : List PanicEntry → World → Prop} {x0 x1 : Value} {w : World} {Q : Value → World → Prop} (h : f30.sh Z x0 x1 w Q) : CallV Tryd.prog Z 30 #[x0, x1] w Q :=
  calls_of_vcn drawD_sound (Q := Q) (n := 29) (rs := Tryd.f30.results) (an := f30.an) (c := f30.code) (cal := []) (args := [x0, x1]) Tryd.func30 (by kernel_rfl) rfl f30.body_eq follows (Nat.le_of_ble_eq_true (by kernel_rfl)) (enters_of_all f30.enters) ((f30.shape Z x0 x1 w Q).mpr h)

/-! ### 32: lagoon/txn.CheckRequest -/
def f32.sh (Z : List PanicEntry → World → Prop) (x0 : Value) (w : World) (Q : Value → World → Prop) : Prop :=
  run1 Tryd.prog Z (Instr.box 34 x0) w fun t1_1 w =>
  run1 Tryd.prog Z (Instr.fieldAt 34 t1_1 0) w fun t5_2 w =>
  run1 Tryd.prog Z (Instr.loadAt 27 t5_2) w fun t6_3 w =>
  CallV Tryd.prog Z 58 #[t6_3] w fun t7_4 w =>
  run1 Tryd.prog Z (Op.unary UnOp.not t7_4) w fun t8_5 w =>
  guardW (t8_5) false (fun k => run1 Tryd.prog Z (Instr.loadAt 34 t1_1) w k) (fun t10_6 w =>
  guardW (t8_5) false (fun k => CallV Tryd.prog Z 59 #[t10_6] w k) (fun t11_7 w =>
  guardW (t8_5) false (fun k => run1 Tryd.prog Z (Op.unary UnOp.not t11_7) w k) (fun t12_8 w =>
  run1 Tryd.prog Z (pickV t8_5 (Value.bool true) t12_8) w fun t13_9 w =>
  CondV t13_9 (
    Q (Value.int IntKind.i64 40) w) (
    run1 Tryd.prog Z (Instr.fieldAt 34 t1_1 10) w fun t14_10 w =>
    run1 Tryd.prog Z (Instr.loadAt 32 t14_10) w fun t15_11 w =>
    run1 Tryd.prog Z (Builtin.len_ #[32] 3 #[t15_11]) w fun t16_12 w =>
    ∃ J_13 : Nat → Value → World → Prop, (∃ m, J_13 m (Value.int IntKind.i64 0) w) ∧
      ∀ m_13, ∀ t17_14 : Value, ∀ w : World, J_13 m_13 t17_14 w → Env →
        run1 Tryd.prog Z (binOp BinOp.lss 3 t17_14 t16_12) w fun t18_15 w =>
        CondV t18_15 (
          run1 Tryd.prog Z (Instr.indexAt 32 t15_11 t17_14) w fun t19_16 w =>
          run1 Tryd.prog Z (Instr.loadAt 34 t19_16) w fun t20_17 w =>
          run1 Tryd.prog Z (Instr.alloc 34 true (.tuple #[])) w fun t4_18 w =>
          run0 Tryd.prog Z (Instr.storeAt 34 t4_18 t20_17) w fun w =>
          run1 Tryd.prog Z (Instr.loadAt 34 t4_18) w fun t21_19 w =>
          CallV Tryd.prog Z 60 #[t21_19] w fun t22_20 w =>
          run1 Tryd.prog Z (Op.unary UnOp.not t22_20) w fun t23_21 w =>
          CondV t23_21 (
            Q (Value.int IntKind.i64 40) w) (
            run1 Tryd.prog Z (binOp BinOp.add 3 t17_14 (Value.int IntKind.i64 1)) w fun t24_22 w =>
            ∃ n_13, n_13 < m_13 ∧ J_13 n_13 t24_22 w)) (
          Q (Value.int IntKind.i64 0) w))) w) w) w
noncomputable def f32.code : Code := match Tryd.f32.body with | some c => c | none => .skip
def f32.an : An := (.sq .leaf (.sq (.sq .leaf (.cn (.sq .leaf .leaf) .leaf)) (.sq (.sq .leaf (.bl (.lp [17] [2, 4, 17, 18, 19, 20, 21, 22, 23, 24] (.sq .leaf (.sq (.cn .leaf .leaf) (.sq (.bl (.sq .leaf (.sq .leaf (.cn (.sq .leaf .leaf) .leaf)))) .leaf)))))) (.sq .leaf .leaf))))
theorem f32.body_eq : Tryd.f32.body = some f32.code := by kernel_rfl
theorem f32.shape (Z : List PanicEntry → World → Prop) (x0 : Value) (w : World) (Q : Value → World → Prop) : vc drawD Tryd.prog 25 Z [58, 59, 60] f32.an f32.code (fnQ Tryd.prog 25 Tryd.f32.results Q) (argEnv [x0]) w = f32.sh Z x0 w Q := by kernel_rfl
theorem f32.enters : ∀ f, f ∈ ([58, 59, 60] : List Nat) → Enters Tryd.prog f := by
  intro f hf
  simp only [List.mem_cons, List.not_mem_nil, or_false] at hf
  rcases hf with rfl | rfl | rfl
  · exact en58
  · exact en59
  · exact en60
theorem f32.calls {Z : List PanicEntry → World → Prop} {x0 : Value} {w : World} {Q : Value → World → Prop} (h : f32.sh Z x0 w Q) : CallV Tryd.prog Z 32 #[x0] w Q :=
  calls_of_vcn drawD_sound (Q := Q) (n := 25) (rs := Tryd.f32.results) (an := f32.an) (c := f32.code) (cal := [58, 59, 60]) (args := [x0]) Tryd.func32 (by kernel_rfl) rfl f32.body_eq follows (Nat.le_of_ble_eq_true (by kernel_rfl)) (enters_of_all f32.enters) ((f32.shape Z x0 w Q).mpr h)

/-! ### 40: lagoon/pack.New -/
def f40.sh (Z : List PanicEntry → World → Prop) (x0 : Value) (w : World) (Q : Value → World → Prop) : Prop :=
  run1 Tryd.prog Z (Builtin.append_ #[22, 22] 22 #[(Value.slice none 0 0), x0]) w fun t4_1 w =>
  run1 Tryd.prog Z (Instr.build 94 #[(0, (Value.bool true)), (1, t4_1)]) w fun t5_2 w =>
  run1 Tryd.prog Z (Instr.box 94 t5_2) w fun t6_3 w =>
  Q t6_3 w
noncomputable def f40.code : Code := match Tryd.f40.body with | some c => c | none => .skip
def f40.an : An := (.sq .leaf (.sq .leaf .leaf))
theorem f40.body_eq : Tryd.f40.body = some f40.code := by kernel_rfl
theorem f40.shape (Z : List PanicEntry → World → Prop) (x0 : Value) (w : World) (Q : Value → World → Prop) : vc drawD Tryd.prog 7 Z [] f40.an f40.code (fnQ Tryd.prog 7 Tryd.f40.results Q) (argEnv [x0]) w = f40.sh Z x0 w Q := by kernel_rfl
theorem f40.enters : ∀ f, f ∈ ([] : List Nat) → Enters Tryd.prog f := by
  intro f hf
  cases hf
theorem f40.calls {Z : List PanicEntry → World → Prop} {x0 : Value} {w : World} {Q : Value → World → Prop} (h : f40.sh Z x0 w Q) : CallV Tryd.prog Z 40 #[x0] w Q :=
  calls_of_vcn drawD_sound (Q := Q) (n := 7) (rs := Tryd.f40.results) (an := f40.an) (c := f40.code) (cal := []) (args := [x0]) Tryd.func40 (by kernel_rfl) rfl f40.body_eq follows (Nat.le_of_ble_eq_true (by kernel_rfl)) (enters_of_all f40.enters) ((f40.shape Z x0 w Q).mpr h)

/-! ### 41: (*lagoon/pack.Reader).Uint32 -/
def f41.sh (Z : List PanicEntry → World → Prop) (x0 : Value) (w : World) (Q : Value → World → Prop) : Prop :=
  CallV Tryd.prog Z 66 #[x0, (Value.int IntKind.i64 4)] w fun t4_1 w =>
  run1 Tryd.prog Z (convert 95 24 t4_1) w fun t5_2 w =>
  Q t5_2 w
noncomputable def f41.code : Code := match Tryd.f41.body with | some c => c | none => .skip
def f41.an : An := (.sq .leaf (.sq .leaf .leaf))
theorem f41.body_eq : Tryd.f41.body = some f41.code := by kernel_rfl
theorem f41.shape (Z : List PanicEntry → World → Prop) (x0 : Value) (w : World) (Q : Value → World → Prop) : vc drawD Tryd.prog 6 Z [66] f41.an f41.code (fnQ Tryd.prog 6 Tryd.f41.results Q) (argEnv [x0]) w = f41.sh Z x0 w Q := by kernel_rfl
theorem f41.enters : ∀ f, f ∈ ([66] : List Nat) → Enters Tryd.prog f := by
  intro f hf
  simp only [List.mem_cons, List.not_mem_nil, or_false] at hf
  rcases hf with rfl
  · exact en66
theorem f41.calls {Z : List PanicEntry → World → Prop} {x0 : Value} {w : World} {Q : Value → World → Prop} (h : f41.sh Z x0 w Q) : CallV Tryd.prog Z 41 #[x0] w Q :=
  calls_of_vcn drawD_sound (Q := Q) (n := 6) (rs := Tryd.f41.results) (an := f41.an) (c := f41.code) (cal := [66]) (args := [x0]) Tryd.func41 (by kernel_rfl) rfl f41.body_eq follows (Nat.le_of_ble_eq_true (by kernel_rfl)) (enters_of_all f41.enters) ((f41.shape Z x0 w Q).mpr h)

/-! ### 42: (*lagoon/pack.Reader).Int8 -/
def f42.sh (Z : List PanicEntry → World → Prop) (x0 : Value) (w : World) (Q : Value → World → Prop) : Prop :=
  CallV Tryd.prog Z 66 #[x0, (Value.int IntKind.i64 1)] w fun t4_1 w =>
  run1 Tryd.prog Z (convert 95 27 t4_1) w fun t5_2 w =>
  Q t5_2 w
noncomputable def f42.code : Code := match Tryd.f42.body with | some c => c | none => .skip
def f42.an : An := (.sq .leaf (.sq .leaf .leaf))
theorem f42.body_eq : Tryd.f42.body = some f42.code := by kernel_rfl
theorem f42.shape (Z : List PanicEntry → World → Prop) (x0 : Value) (w : World) (Q : Value → World → Prop) : vc drawD Tryd.prog 6 Z [66] f42.an f42.code (fnQ Tryd.prog 6 Tryd.f42.results Q) (argEnv [x0]) w = f42.sh Z x0 w Q := by kernel_rfl
theorem f42.enters : ∀ f, f ∈ ([66] : List Nat) → Enters Tryd.prog f := by
  intro f hf
  simp only [List.mem_cons, List.not_mem_nil, or_false] at hf
  rcases hf with rfl
  · exact en66
theorem f42.calls {Z : List PanicEntry → World → Prop} {x0 : Value} {w : World} {Q : Value → World → Prop} (h : f42.sh Z x0 w Q) : CallV Tryd.prog Z 42 #[x0] w Q :=
  calls_of_vcn drawD_sound (Q := Q) (n := 6) (rs := Tryd.f42.results) (an := f42.an) (c := f42.code) (cal := [66]) (args := [x0]) Tryd.func42 (by kernel_rfl) rfl f42.body_eq follows (Nat.le_of_ble_eq_true (by kernel_rfl)) (enters_of_all f42.enters) ((f42.shape Z x0 w Q).mpr h)

/-! ### 43: (*lagoon/pack.Reader).Int64 -/
def f43.sh (Z : List PanicEntry → World → Prop) (x0 : Value) (w : World) (Q : Value → World → Prop) : Prop :=
  CallV Tryd.prog Z 66 #[x0, (Value.int IntKind.i64 8)] w fun t4_1 w =>
  run1 Tryd.prog Z (convert 95 2 t4_1) w fun t5_2 w =>
  Q t5_2 w
noncomputable def f43.code : Code := match Tryd.f43.body with | some c => c | none => .skip
def f43.an : An := (.sq .leaf (.sq .leaf .leaf))
theorem f43.body_eq : Tryd.f43.body = some f43.code := by kernel_rfl
theorem f43.shape (Z : List PanicEntry → World → Prop) (x0 : Value) (w : World) (Q : Value → World → Prop) : vc drawD Tryd.prog 6 Z [66] f43.an f43.code (fnQ Tryd.prog 6 Tryd.f43.results Q) (argEnv [x0]) w = f43.sh Z x0 w Q := by kernel_rfl
theorem f43.enters : ∀ f, f ∈ ([66] : List Nat) → Enters Tryd.prog f := by
  intro f hf
  simp only [List.mem_cons, List.not_mem_nil, or_false] at hf
  rcases hf with rfl
  · exact en66
theorem f43.calls {Z : List PanicEntry → World → Prop} {x0 : Value} {w : World} {Q : Value → World → Prop} (h : f43.sh Z x0 w Q) : CallV Tryd.prog Z 43 #[x0] w Q :=
  calls_of_vcn drawD_sound (Q := Q) (n := 6) (rs := Tryd.f43.results) (an := f43.an) (c := f43.code) (cal := [66]) (args := [x0]) Tryd.func43 (by kernel_rfl) rfl f43.body_eq follows (Nat.le_of_ble_eq_true (by kernel_rfl)) (enters_of_all f43.enters) ((f43.shape Z x0 w Q).mpr h)

/-! ### 44: (lagoon/txn.layer).get -/
def f44.sh (Z : List PanicEntry → World → Prop) (x0 x1 : Value) (w : World) (Q : Value → World → Prop) : Prop :=
  run1 Tryd.prog Z (Instr.box 71 x0) w fun t2_1 w =>
  run1 Tryd.prog Z (Instr.alloc 34 true (.tuple #[])) w fun t4_2 w =>
  CallV Tryd.prog Z 42 #[x1] w fun t8_3 w =>
  run1 Tryd.prog Z (Instr.build 34 #[(0, t8_3)]) w fun t9_4 w =>
  run1 Tryd.prog Z (Instr.alloc 34 true (.tuple #[])) w fun t5_5 w =>
  run0 Tryd.prog Z (Instr.storeAt 34 t5_5 t9_4) w fun w =>
  run1 Tryd.prog Z (Instr.fieldAt 34 t5_5 0) w fun t10_6 w =>
  run1 Tryd.prog Z (Instr.loadAt 27 t10_6) w fun t11_7 w =>
  CallV Tryd.prog Z 58 #[t11_7] w fun t12_8 w =>
  run1 Tryd.prog Z (Op.unary UnOp.not t12_8) w fun t13_9 w =>
  guardW (t13_9) false (fun k => run1 Tryd.prog Z (Instr.fieldAt 71 t2_1 0) w k) (fun t15_10 w =>
  guardW (t13_9) false (fun k => run1 Tryd.prog Z (Instr.loadAt 4 t15_10) w k) (fun t16_11 w =>
  guardW (t13_9) false (fun k => k (t16_11) w) (fun t17_12 w =>
  guardW (t17_12) true (fun k => run1 Tryd.prog Z (Instr.fieldAt 34 t5_5 0) w k) (fun t18_13 w =>
  guardW (t17_12) true (fun k => run1 Tryd.prog Z (Instr.loadAt 27 t18_13) w k) (fun t19_14 w =>
  guardW (t17_12) true (fun k => run1 Tryd.prog Z (binOp BinOp.gtr 27 t19_14 (Value.int IntKind.i8 5)) w k) (fun t20_15 w =>
  guardW (t13_9) false (fun k => run1 Tryd.prog Z (pickV t17_12 t20_15 (Value.bool false)) w k) (fun t21_16 w =>
  run1 Tryd.prog Z (pickV t13_9 (Value.bool true) t21_16) w fun t22_17 w =>
  CondV t22_17 (
    CallV Tryd.prog Z 67 #[x1, (Value.int IntKind.i64 40)] w fun t24_18 w =>
    run1 Tryd.prog Z (Instr.build 34 #[]) w fun t25_19 w =>
    run0 Tryd.prog Z (Instr.storeAt 34 t4_2 t25_19) w fun w =>
    ∃ r_20, (do loadVar 34 (← asAddr t4_2) : Sem Value).run Tryd.prog w = .ok r_20 w ∧
    Q r_20 w) (
    run1 Tryd.prog Z (Instr.loadAt 71 t2_1) w fun t26_21 w =>
    run1 Tryd.prog Z (Instr.fieldAt 34 t5_5 0) w fun t27_22 w =>
    run1 Tryd.prog Z (Instr.loadAt 27 t27_22) w fun t28_23 w =>
    CallV Tryd.prog Z 68 #[t26_21, t28_23] w fun t29_24 w =>
    ∀ j_25 : World → Prop, (∀ w : World, (Env →
        ∀ j_26 : World → Prop, (∀ w : World, (Env →
            ∀ j_27 : World → Prop, (∀ w : World, (Env →
                ∀ j_28 : World → Prop, (∀ w : World, (Env →
                    ∀ j_29 : World → Prop, (∀ w : World, (Env →
                        ∀ j_30 : World → Prop, (∀ w : World, (Env →
                            ∀ j_31 : World → Prop, (∀ w : World, (Env →
                                ∀ j_32 : World → Prop, (∀ w : World, (Env →
                                    ∀ j_33 : World → Prop, (∀ w : World, (Env →
                                        run1 Tryd.prog Z (Instr.loadAt 34 t5_5) w fun t89_34 w =>
                                        run0 Tryd.prog Z (Instr.storeAt 34 t4_2 t89_34) w fun w =>
                                        ∃ r_35, (do loadVar 34 (← asAddr t4_2) : Sem Value).run Tryd.prog w = .ok r_35 w ∧
                                        Q r_35 w) →
                                        j_33 w) →
                                    run1 Tryd.prog Z (binOp BinOp.and 85 t29_24 (Value.int IntKind.u64 256)) w fun t82_36 w =>
                                    run1 Tryd.prog Z (eqOp BinOp.neq 85 false true t82_36 (Value.int IntKind.u64 0)) w fun t83_37 w =>
                                    CondV t83_37 (
                                      run1 Tryd.prog Z (Instr.build 71 #[(0, (Value.bool true))]) w fun t85_38 w =>
                                      run1 Tryd.prog Z (Instr.makeFunc (Fn.func 44) #[t85_38] #[]) w fun t86_39 w =>
                                      CallV Tryd.prog Z 77 #[x1, (Value.int IntKind.i64 8), t86_39] w fun t87_40 w =>
                                      run1 Tryd.prog Z (Instr.fieldAt 34 t5_5 10) w fun t88_41 w =>
                                      run0 Tryd.prog Z (Instr.storeAt 32 t88_41 t87_40) w fun w =>
                                      j_33 w) (
                                      j_33 w)) →
                                    j_32 w) →
                                run1 Tryd.prog Z (binOp BinOp.and 85 t29_24 (Value.int IntKind.u64 128)) w fun t76_42 w =>
                                run1 Tryd.prog Z (eqOp BinOp.neq 85 false true t76_42 (Value.int IntKind.u64 0)) w fun t77_43 w =>
                                CondV t77_43 (
                                  CallV Tryd.prog Z 75 #[x1, (Value.int IntKind.i64 4), (Value.func (Fn.func 76) #[] #[])] w fun t79_44 w =>
                                  run1 Tryd.prog Z (Instr.fieldAt 34 t5_5 9) w fun t80_45 w =>
                                  run0 Tryd.prog Z (Instr.storeAt 31 t80_45 t79_44) w fun w =>
                                  j_32 w) (
                                  j_32 w)) →
                                j_31 w) →
                            run1 Tryd.prog Z (binOp BinOp.and 85 t29_24 (Value.int IntKind.u64 64)) w fun t70_46 w =>
                            run1 Tryd.prog Z (eqOp BinOp.neq 85 false true t70_46 (Value.int IntKind.u64 0)) w fun t71_47 w =>
                            CondV t71_47 (
                              CallV Tryd.prog Z 73 #[x1] w fun t73_48 w =>
                              run1 Tryd.prog Z (Instr.fieldAt 34 t5_5 8) w fun t74_49 w =>
                              run0 Tryd.prog Z (Instr.storeAt 21 t74_49 t73_48) w fun w =>
                              j_31 w) (
                              j_31 w)) →
                            j_30 w) →
                        run1 Tryd.prog Z (binOp BinOp.and 85 t29_24 (Value.int IntKind.u64 32)) w fun t64_50 w =>
                        run1 Tryd.prog Z (eqOp BinOp.neq 85 false true t64_50 (Value.int IntKind.u64 0)) w fun t65_51 w =>
                        CondV t65_51 (
                          CallV Tryd.prog Z 43 #[x1] w fun t67_52 w =>
                          run1 Tryd.prog Z (Instr.fieldAt 34 t5_5 7) w fun t68_53 w =>
                          run0 Tryd.prog Z (Instr.storeAt 2 t68_53 t67_52) w fun w =>
                          j_30 w) (
                          j_30 w)) →
                        j_29 w) →
                    run1 Tryd.prog Z (binOp BinOp.and 85 t29_24 (Value.int IntKind.u64 16)) w fun t55_54 w =>
                    run1 Tryd.prog Z (eqOp BinOp.neq 85 false true t55_54 (Value.int IntKind.u64 0)) w fun t56_55 w =>
                    CondV t56_55 (
                      CallV Tryd.prog Z 74 #[x1] w fun t58_56 w =>
                      run1 Tryd.prog Z (Instr.fieldAt 34 t5_5 5) w fun t59_57 w =>
                      run0 Tryd.prog Z (Instr.storeAt 4 t59_57 t58_56) w fun w =>
                      CallV Tryd.prog Z 74 #[x1] w fun t61_58 w =>
                      run1 Tryd.prog Z (Instr.fieldAt 34 t5_5 6) w fun t62_59 w =>
                      run0 Tryd.prog Z (Instr.storeAt 4 t62_59 t61_58) w fun w =>
                      j_29 w) (
                      j_29 w)) →
                    j_28 w) →
                run1 Tryd.prog Z (binOp BinOp.and 85 t29_24 (Value.int IntKind.u64 8)) w fun t49_60 w =>
                run1 Tryd.prog Z (eqOp BinOp.neq 85 false true t49_60 (Value.int IntKind.u64 0)) w fun t50_61 w =>
                CondV t50_61 (
                  CallV Tryd.prog Z 73 #[x1] w fun t52_62 w =>
                  run1 Tryd.prog Z (Instr.fieldAt 34 t5_5 4) w fun t53_63 w =>
                  run0 Tryd.prog Z (Instr.storeAt 21 t53_63 t52_62) w fun w =>
                  j_28 w) (
                  j_28 w)) →
                j_27 w) →
            run1 Tryd.prog Z (binOp BinOp.and 85 t29_24 (Value.int IntKind.u64 4)) w fun t43_64 w =>
            run1 Tryd.prog Z (eqOp BinOp.neq 85 false true t43_64 (Value.int IntKind.u64 0)) w fun t44_65 w =>
            CondV t44_65 (
              CallV Tryd.prog Z 71 #[x1, (Value.int IntKind.i64 4), (Value.func (Fn.func 72) #[] #[])] w fun t46_66 w =>
              run1 Tryd.prog Z (Instr.fieldAt 34 t5_5 3) w fun t47_67 w =>
              run0 Tryd.prog Z (Instr.storeAt 30 t47_67 t46_66) w fun w =>
              j_27 w) (
              j_27 w)) →
            j_26 w) →
        run1 Tryd.prog Z (binOp BinOp.and 85 t29_24 (Value.int IntKind.u64 2)) w fun t37_68 w =>
        run1 Tryd.prog Z (eqOp BinOp.neq 85 false true t37_68 (Value.int IntKind.u64 0)) w fun t38_69 w =>
        CondV t38_69 (
          CallV Tryd.prog Z 70 #[x1, (Value.int IntKind.i64 96)] w fun t40_70 w =>
          run1 Tryd.prog Z (Instr.fieldAt 34 t5_5 2) w fun t41_71 w =>
          run0 Tryd.prog Z (Instr.storeAt 22 t41_71 t40_70) w fun w =>
          j_26 w) (
          j_26 w)) →
        j_25 w) →
    run1 Tryd.prog Z (binOp BinOp.and 85 t29_24 (Value.int IntKind.u64 1)) w fun t31_72 w =>
    run1 Tryd.prog Z (eqOp BinOp.neq 85 false true t31_72 (Value.int IntKind.u64 0)) w fun t32_73 w =>
    CondV t32_73 (
      CallV Tryd.prog Z 69 #[x1, (Value.int IntKind.i64 64)] w fun t34_74 w =>
      run1 Tryd.prog Z (Instr.fieldAt 34 t5_5 1) w fun t35_75 w =>
      run0 Tryd.prog Z (Instr.storeAt 9 t35_75 t34_74) w fun w =>
      j_25 w) (
      j_25 w))) w) w) w) w) w) w) w
noncomputable def f44.code : Code := match Tryd.f44.body with | some c => c | none => .skip
def f44.an : An := (.sq .leaf (.sq .leaf (.sq (.sq .leaf (.cn (.sq .leaf (.sq .leaf .leaf)) .leaf)) (.sq .leaf (.sj [] [30, 31, 32, 33, 34, 35] (.sq .leaf (.cn .leaf .leaf)) (.sj [] [36, 37, 38, 39, 40, 41] (.sq .leaf (.cn .leaf .leaf)) (.sj [] [42, 43, 44, 45, 46, 47] (.sq .leaf (.cn .leaf .leaf)) (.sj [] [48, 49, 50, 51, 52, 53] (.sq .leaf (.cn .leaf .leaf)) (.sj [] [54, 55, 56, 57, 58, 59, 60, 61, 62] (.sq .leaf (.cn (.sq .leaf .leaf) .leaf)) (.sj [] [63, 64, 65, 66, 67, 68] (.sq .leaf (.cn .leaf .leaf)) (.sj [] [69, 70, 71, 72, 73, 74] (.sq .leaf (.cn .leaf .leaf)) (.sj [] [75, 76, 77, 78, 79, 80] (.sq .leaf (.cn .leaf .leaf)) (.sj [] [81, 82, 83, 84, 85, 86, 87, 88] (.sq .leaf (.cn .leaf .leaf)) (.sq .leaf .leaf))))))))))))))
theorem f44.body_eq : Tryd.f44.body = some f44.code := by kernel_rfl
theorem f44.shape (Z : List PanicEntry → World → Prop) (x0 x1 : Value) (w : World) (Q : Value → World → Prop) : vc drawD Tryd.prog 90 Z [42, 58, 67, 68, 77, 75, 73, 43, 74, 71, 70, 69] f44.an f44.code (fnQ Tryd.prog 90 Tryd.f44.results Q) (argEnv [x0, x1]) w = f44.sh Z x0 x1 w Q := by kernel_rfl
theorem f44.enters : ∀ f, f ∈ ([42, 58, 67, 68, 77, 75, 73, 43, 74, 71, 70, 69] : List Nat) → Enters Tryd.prog f := by
  intro f hf
  simp only [List.mem_cons, List.not_mem_nil, or_false] at hf
  rcases hf with rfl | rfl | rfl | rfl | rfl | rfl | rfl | rfl | rfl | rfl | rfl | rfl
  · exact en42
  · exact en58
  · exact en67
  · exact en68
  · exact en77
  · exact en75
  · exact en73
  · exact en43
  · exact en74
  · exact en71
  · exact en70
  · exact en69
theorem f44.calls {Z : List PanicEntry → World → Prop} {x0 x1 : Value} {w : World} {Q : Value → World → Prop} (h : f44.sh Z x0 x1 w Q) : CallV Tryd.prog Z 44 #[x0, x1] w Q :=
  calls_of_vcn drawD_sound (Q := Q) (n := 90) (rs := Tryd.f44.results) (an := f44.an) (c := f44.code) (cal := [42, 58, 67, 68, 77, 75, 73, 43, 74, 71, 70, 69]) (args := [x0, x1]) Tryd.func44 (by kernel_rfl) rfl f44.body_eq follows (Nat.le_of_ble_eq_true (by kernel_rfl)) (enters_of_all f44.enters) ((f44.shape Z x0 x1 w Q).mpr h)

/-! ### 45: (*lagoon/pack.Reader).End -/
def f45.sh (Z : List PanicEntry → World → Prop) (x0 : Value) (w : World) (Q : Value → World → Prop) : Prop :=
  CallV Tryd.prog Z 78 #[x0] w fun t4_1 w =>
  guardW (t4_1) true (fun k => k (x0) w) (fun t6_2 w =>
  guardW (t4_1) true (fun k => runX Tryd.prog Z (nilChk t6_2) w k) (fun t7_3 w =>
  guardW (t4_1) true (fun k => run1 Tryd.prog Z (Instr.fieldAt 94 t7_3 1) w k) (fun t8_4 w =>
  guardW (t4_1) true (fun k => run1 Tryd.prog Z (Instr.loadAt 22 t8_4) w k) (fun t9_5 w =>
  guardW (t4_1) true (fun k => run1 Tryd.prog Z (Builtin.len_ #[22] 3 #[t9_5]) w k) (fun t10_6 w =>
  guardW (t4_1) true (fun k => run1 Tryd.prog Z (binOp BinOp.gtr 3 t10_6 (Value.int IntKind.i64 0)) w k) (fun t11_7 w =>
  run1 Tryd.prog Z (pickV t4_1 t11_7 (Value.bool false)) w fun t12_8 w =>
  CondV t12_8 (
    Q (Value.int IntKind.i64 13) w) (
    CallV Tryd.prog Z 79 #[x0] w fun t14_9 w =>
    Q t14_9 w)) w) w) w) w) w) w
noncomputable def f45.code : Code := match Tryd.f45.body with | some c => c | none => .skip
def f45.an : An := (.sq .leaf (.sq (.sq .leaf (.cn (.sq .leaf .leaf) .leaf)) (.sq .leaf .leaf)))
theorem f45.body_eq : Tryd.f45.body = some f45.code := by kernel_rfl
theorem f45.shape (Z : List PanicEntry → World → Prop) (x0 : Value) (w : World) (Q : Value → World → Prop) : vc drawD Tryd.prog 15 Z [78, 79] f45.an f45.code (fnQ Tryd.prog 15 Tryd.f45.results Q) (argEnv [x0]) w = f45.sh Z x0 w Q := by kernel_rfl
theorem f45.enters : ∀ f, f ∈ ([78, 79] : List Nat) → Enters Tryd.prog f := by
  intro f hf
  simp only [List.mem_cons, List.not_mem_nil, or_false] at hf
  rcases hf with rfl | rfl
  · exact en78
  · exact en79
theorem f45.calls {Z : List PanicEntry → World → Prop} {x0 : Value} {w : World} {Q : Value → World → Prop} (h : f45.sh Z x0 w Q) : CallV Tryd.prog Z 45 #[x0] w Q :=
  calls_of_vcn drawD_sound (Q := Q) (n := 15) (rs := Tryd.f45.results) (an := f45.an) (c := f45.code) (cal := [78, 79]) (args := [x0]) Tryd.func45 (by kernel_rfl) rfl f45.body_eq follows (Nat.le_of_ble_eq_true (by kernel_rfl)) (enters_of_all f45.enters) ((f45.shape Z x0 w Q).mpr h)

/-! ### 46: (*lagoon/pack.Writer).Uint32 -/
def f46.sh (Z : List PanicEntry → World → Prop) (x0 x1 : Value) (w : World) (Q : Value → World → Prop) : Prop :=
  run1 Tryd.prog Z (convert 24 95 x1) w fun t6_1 w =>
  CallV Tryd.prog Z 80 #[x0, t6_1, (Value.int IntKind.i64 4)] w fun t7_2 w =>
  Q (Value.tuple #[]) w
noncomputable def f46.code : Code := match Tryd.f46.body with | some c => c | none => .skip
def f46.an : An := .leaf
theorem f46.body_eq : Tryd.f46.body = some f46.code := by kernel_rfl
theorem f46.shape (Z : List PanicEntry → World → Prop) (x0 x1 : Value) (w : World) (Q : Value → World → Prop) : vc drawD Tryd.prog 8 Z [80] f46.an f46.code (fnQ Tryd.prog 8 Tryd.f46.results Q) (argEnv [x0, x1]) w = f46.sh Z x0 x1 w Q := by kernel_rfl
theorem f46.enters : ∀ f, f ∈ ([80] : List Nat) → Enters Tryd.prog f := by
  intro f hf
  simp only [List.mem_cons, List.not_mem_nil, or_false] at hf
  rcases hf with rfl
  · exact en80
theorem f46.calls {Z : List PanicEntry → World → Prop} {x0 x1 : Value} {w : World} {Q : Value → World → Prop} (h : f46.sh Z x0 x1 w Q) : CallV Tryd.prog Z 46 #[x0, x1] w Q :=
  calls_of_vcn drawD_sound (Q := Q) (n := 8) (rs := Tryd.f46.results) (an := f46.an) (c := f46.code) (cal := [80]) (args := [x0, x1]) Tryd.func46 (by kernel_rfl) rfl f46.body_eq follows (Nat.le_of_ble_eq_true (by kernel_rfl)) (enters_of_all f46.enters) ((f46.shape Z x0 x1 w Q).mpr h)

/-! ### 47: (*lagoon/pack.Writer).Int8 -/
def f47.sh (Z : List PanicEntry → World → Prop) (x0 x1 : Value) (w : World) (Q : Value → World → Prop) : Prop :=
  run1 Tryd.prog Z (convert 27 95 x1) w fun t6_1 w =>
  CallV Tryd.prog Z 80 #[x0, t6_1, (Value.int IntKind.i64 1)] w fun t7_2 w =>
  Q (Value.tuple #[]) w
noncomputable def f47.code : Code := match Tryd.f47.body with | some c => c | none => .skip
def f47.an : An := .leaf
theorem f47.body_eq : Tryd.f47.body = some f47.code := by kernel_rfl
theorem f47.shape (Z : List PanicEntry → World → Prop) (x0 x1 : Value) (w : World) (Q : Value → World → Prop) : vc drawD Tryd.prog 8 Z [80] f47.an f47.code (fnQ Tryd.prog 8 Tryd.f47.results Q) (argEnv [x0, x1]) w = f47.sh Z x0 x1 w Q := by kernel_rfl
theorem f47.enters : ∀ f, f ∈ ([80] : List Nat) → Enters Tryd.prog f := by
  intro f hf
  simp only [List.mem_cons, List.not_mem_nil, or_false] at hf
  rcases hf with rfl
  · exact en80
theorem f47.calls {Z : List PanicEntry → World → Prop} {x0 x1 : Value} {w : World} {Q : Value → World → Prop} (h : f47.sh Z x0 x1 w Q) : CallV Tryd.prog Z 47 #[x0, x1] w Q :=
  calls_of_vcn drawD_sound (Q := Q) (n := 8) (rs := Tryd.f47.results) (an := f47.an) (c := f47.code) (cal := [80]) (args := [x0, x1]) Tryd.func47 (by kernel_rfl) rfl f47.body_eq follows (Nat.le_of_ble_eq_true (by kernel_rfl)) (enters_of_all f47.enters) ((f47.shape Z x0 x1 w Q).mpr h)

/-! ### 48: (*lagoon/pack.Writer).Int64 -/
def f48.sh (Z : List PanicEntry → World → Prop) (x0 x1 : Value) (w : World) (Q : Value → World → Prop) : Prop :=
  run1 Tryd.prog Z (convert 2 95 x1) w fun t6_1 w =>
  CallV Tryd.prog Z 80 #[x0, t6_1, (Value.int IntKind.i64 8)] w fun t7_2 w =>
  Q (Value.tuple #[]) w
noncomputable def f48.code : Code := match Tryd.f48.body with | some c => c | none => .skip
def f48.an : An := .leaf
theorem f48.body_eq : Tryd.f48.body = some f48.code := by kernel_rfl
theorem f48.shape (Z : List PanicEntry → World → Prop) (x0 x1 : Value) (w : World) (Q : Value → World → Prop) : vc drawD Tryd.prog 8 Z [80] f48.an f48.code (fnQ Tryd.prog 8 Tryd.f48.results Q) (argEnv [x0, x1]) w = f48.sh Z x0 x1 w Q := by kernel_rfl
theorem f48.enters : ∀ f, f ∈ ([80] : List Nat) → Enters Tryd.prog f := by
  intro f hf
  simp only [List.mem_cons, List.not_mem_nil, or_false] at hf
  rcases hf with rfl
  · exact en80
theorem f48.calls {Z : List PanicEntry → World → Prop} {x0 x1 : Value} {w : World} {Q : Value → World → Prop} (h : f48.sh Z x0 x1 w Q) : CallV Tryd.prog Z 48 #[x0, x1] w Q :=
  calls_of_vcn drawD_sound (Q := Q) (n := 8) (rs := Tryd.f48.results) (an := f48.an) (c := f48.code) (cal := [80]) (args := [x0, x1]) Tryd.func48 (by kernel_rfl) rfl f48.body_eq follows (Nat.le_of_ble_eq_true (by kernel_rfl)) (enters_of_all f48.enters) ((f48.shape Z x0 x1 w Q).mpr h)

/-! ### 49: (lagoon/txn.layer).put -/
def f49.sh (Z : List PanicEntry → World → Prop) (x0 x1 x2 : Value) (w : World) (Q : Value → World → Prop) : Prop :=
  run1 Tryd.prog Z (Instr.box 71 x0) w fun t3_1 w =>
  run1 Tryd.prog Z (Instr.box 34 x2) w fun t5_2 w =>
  run1 Tryd.prog Z (Instr.fieldAt 34 t5_2 0) w fun t8_3 w =>
  run1 Tryd.prog Z (Instr.loadAt 27 t8_3) w fun t9_4 w =>
  CallV Tryd.prog Z 47 #[x1, t9_4] w fun t10_5 w =>
  run1 Tryd.prog Z (Instr.loadAt 71 t3_1) w fun t11_6 w =>
  run1 Tryd.prog Z (Instr.fieldAt 34 t5_2 0) w fun t12_7 w =>
  run1 Tryd.prog Z (Instr.loadAt 27 t12_7) w fun t13_8 w =>
  CallV Tryd.prog Z 68 #[t11_6, t13_8] w fun t14_9 w =>
  ∀ j_10 : World → Prop, (∀ w : World, (Env →
      ∀ j_11 : World → Prop, (∀ w : World, (Env →
          ∀ j_12 : World → Prop, (∀ w : World, (Env →
              ∀ j_13 : World → Prop, (∀ w : World, (Env →
                  ∀ j_14 : World → Prop, (∀ w : World, (Env →
                      ∀ j_15 : World → Prop, (∀ w : World, (Env →
                          ∀ j_16 : World → Prop, (∀ w : World, (Env →
                              ∀ j_17 : World → Prop, (∀ w : World, (Env →
                                  run1 Tryd.prog Z (binOp BinOp.and 85 t14_9 (Value.int IntKind.u64 256)) w fun t76_18 w =>
                                  run1 Tryd.prog Z (eqOp BinOp.neq 85 false true t76_18 (Value.int IntKind.u64 0)) w fun t77_19 w =>
                                  CondV t77_19 (
                                    run1 Tryd.prog Z (Instr.fieldAt 34 t5_2 10) w fun t79_20 w =>
                                    run1 Tryd.prog Z (Instr.loadAt 32 t79_20) w fun t80_21 w =>
                                    run1 Tryd.prog Z (Instr.build 71 #[(0, (Value.bool true))]) w fun t81_22 w =>
                                    run1 Tryd.prog Z (Instr.makeFunc (Fn.func 49) #[t81_22] #[]) w fun t82_23 w =>
                                    CallV Tryd.prog Z 89 #[x1, t80_21, t82_23] w fun t83_24 w =>
                                    Q (Value.tuple #[]) w) (
                                    Q (Value.tuple #[]) w)) →
                                  j_17 w) →
                              run1 Tryd.prog Z (binOp BinOp.and 85 t14_9 (Value.int IntKind.u64 128)) w fun t69_25 w =>
                              run1 Tryd.prog Z (eqOp BinOp.neq 85 false true t69_25 (Value.int IntKind.u64 0)) w fun t70_26 w =>
                              CondV t70_26 (
                                run1 Tryd.prog Z (Instr.fieldAt 34 t5_2 9) w fun t72_27 w =>
                                run1 Tryd.prog Z (Instr.loadAt 31 t72_27) w fun t73_28 w =>
                                CallV Tryd.prog Z 87 #[x1, t73_28, (Value.func (Fn.func 88) #[] #[])] w fun t74_29 w =>
                                j_17 w) (
                                j_17 w)) →
                              j_16 w) →
                          run1 Tryd.prog Z (binOp BinOp.and 85 t14_9 (Value.int IntKind.u64 64)) w fun t62_30 w =>
                          run1 Tryd.prog Z (eqOp BinOp.neq 85 false true t62_30 (Value.int IntKind.u64 0)) w fun t63_31 w =>
                          CondV t63_31 (
                            run1 Tryd.prog Z (Instr.fieldAt 34 t5_2 8) w fun t65_32 w =>
                            run1 Tryd.prog Z (Instr.loadAt 21 t65_32) w fun t66_33 w =>
                            CallV Tryd.prog Z 85 #[x1, t66_33] w fun t67_34 w =>
                            j_16 w) (
                            j_16 w)) →
                          j_15 w) →
                      run1 Tryd.prog Z (binOp BinOp.and 85 t14_9 (Value.int IntKind.u64 32)) w fun t55_35 w =>
                      run1 Tryd.prog Z (eqOp BinOp.neq 85 false true t55_35 (Value.int IntKind.u64 0)) w fun t56_36 w =>
                      CondV t56_36 (
                        run1 Tryd.prog Z (Instr.fieldAt 34 t5_2 7) w fun t58_37 w =>
                        run1 Tryd.prog Z (Instr.loadAt 2 t58_37) w fun t59_38 w =>
                        CallV Tryd.prog Z 48 #[x1, t59_38] w fun t60_39 w =>
                        j_15 w) (
                        j_15 w)) →
                      j_14 w) →
                  run1 Tryd.prog Z (binOp BinOp.and 85 t14_9 (Value.int IntKind.u64 16)) w fun t44_40 w =>
                  run1 Tryd.prog Z (eqOp BinOp.neq 85 false true t44_40 (Value.int IntKind.u64 0)) w fun t45_41 w =>
                  CondV t45_41 (
                    run1 Tryd.prog Z (Instr.fieldAt 34 t5_2 5) w fun t47_42 w =>
                    run1 Tryd.prog Z (Instr.loadAt 4 t47_42) w fun t48_43 w =>
                    CallV Tryd.prog Z 86 #[x1, t48_43] w fun t49_44 w =>
                    run1 Tryd.prog Z (Instr.fieldAt 34 t5_2 6) w fun t51_45 w =>
                    run1 Tryd.prog Z (Instr.loadAt 4 t51_45) w fun t52_46 w =>
                    CallV Tryd.prog Z 86 #[x1, t52_46] w fun t53_47 w =>
                    j_14 w) (
                    j_14 w)) →
                  j_13 w) →
              run1 Tryd.prog Z (binOp BinOp.and 85 t14_9 (Value.int IntKind.u64 8)) w fun t37_48 w =>
              run1 Tryd.prog Z (eqOp BinOp.neq 85 false true t37_48 (Value.int IntKind.u64 0)) w fun t38_49 w =>
              CondV t38_49 (
                run1 Tryd.prog Z (Instr.fieldAt 34 t5_2 4) w fun t40_50 w =>
                run1 Tryd.prog Z (Instr.loadAt 21 t40_50) w fun t41_51 w =>
                CallV Tryd.prog Z 85 #[x1, t41_51] w fun t42_52 w =>
                j_13 w) (
                j_13 w)) →
              j_12 w) →
          run1 Tryd.prog Z (binOp BinOp.and 85 t14_9 (Value.int IntKind.u64 4)) w fun t30_53 w =>
          run1 Tryd.prog Z (eqOp BinOp.neq 85 false true t30_53 (Value.int IntKind.u64 0)) w fun t31_54 w =>
          CondV t31_54 (
            run1 Tryd.prog Z (Instr.fieldAt 34 t5_2 3) w fun t33_55 w =>
            run1 Tryd.prog Z (Instr.loadAt 30 t33_55) w fun t34_56 w =>
            CallV Tryd.prog Z 83 #[x1, t34_56, (Value.func (Fn.func 84) #[] #[])] w fun t35_57 w =>
            j_12 w) (
            j_12 w)) →
          j_11 w) →
      run1 Tryd.prog Z (binOp BinOp.and 85 t14_9 (Value.int IntKind.u64 2)) w fun t23_58 w =>
      run1 Tryd.prog Z (eqOp BinOp.neq 85 false true t23_58 (Value.int IntKind.u64 0)) w fun t24_59 w =>
      CondV t24_59 (
        run1 Tryd.prog Z (Instr.fieldAt 34 t5_2 2) w fun t26_60 w =>
        run1 Tryd.prog Z (Instr.loadAt 22 t26_60) w fun t27_61 w =>
        CallV Tryd.prog Z 82 #[x1, t27_61] w fun t28_62 w =>
        j_11 w) (
        j_11 w)) →
      j_10 w) →
  run1 Tryd.prog Z (binOp BinOp.and 85 t14_9 (Value.int IntKind.u64 1)) w fun t16_63 w =>
  run1 Tryd.prog Z (eqOp BinOp.neq 85 false true t16_63 (Value.int IntKind.u64 0)) w fun t17_64 w =>
  CondV t17_64 (
    run1 Tryd.prog Z (Instr.fieldAt 34 t5_2 1) w fun t19_65 w =>
    run1 Tryd.prog Z (Instr.loadAt 9 t19_65) w fun t20_66 w =>
    CallV Tryd.prog Z 81 #[x1, t20_66] w fun t21_67 w =>
    j_10 w) (
    j_10 w)
noncomputable def f49.code : Code := match Tryd.f49.body with | some c => c | none => .skip
def f49.an : An := (.sq .leaf (.sq .leaf (.sq .leaf (.sj [] [15, 16, 17, 18, 19, 20, 21] (.sq .leaf (.cn .leaf .leaf)) (.sj [] [22, 23, 24, 25, 26, 27, 28] (.sq .leaf (.cn .leaf .leaf)) (.sj [] [29, 30, 31, 32, 33, 34, 35] (.sq .leaf (.cn .leaf .leaf)) (.sj [] [36, 37, 38, 39, 40, 41, 42] (.sq .leaf (.cn .leaf .leaf)) (.sj [] [43, 44, 45, 46, 47, 48, 49, 50, 51, 52, 53] (.sq .leaf (.cn (.sq .leaf .leaf) .leaf)) (.sj [] [54, 55, 56, 57, 58, 59, 60] (.sq .leaf (.cn .leaf .leaf)) (.sj [] [61, 62, 63, 64, 65, 66, 67] (.sq .leaf (.cn .leaf .leaf)) (.sj [] [68, 69, 70, 71, 72, 73, 74] (.sq .leaf (.cn .leaf .leaf)) (.sq .leaf (.cn .leaf .leaf)))))))))))))
theorem f49.body_eq : Tryd.f49.body = some f49.code := by kernel_rfl
theorem f49.shape (Z : List PanicEntry → World → Prop) (x0 x1 x2 : Value) (w : World) (Q : Value → World → Prop) : vc drawD Tryd.prog 84 Z [47, 68, 89, 87, 85, 48, 86, 83, 82, 81] f49.an f49.code (fnQ Tryd.prog 84 Tryd.f49.results Q) (argEnv [x0, x1, x2]) w = f49.sh Z x0 x1 x2 w Q := by kernel_rfl
theorem f49.enters : ∀ f, f ∈ ([47, 68, 89, 87, 85, 48, 86, 83, 82, 81] : List Nat) → Enters Tryd.prog f := by
  intro f hf
  simp only [List.mem_cons, List.not_mem_nil, or_false] at hf
  rcases hf with rfl | rfl | rfl | rfl | rfl | rfl | rfl | rfl | rfl | rfl
  · exact en47
  · exact en68
  · exact en89
  · exact en87
  · exact en85
  · exact en48
  · exact en86
  · exact en83
  · exact en82
  · exact en81
theorem f49.calls {Z : List PanicEntry → World → Prop} {x0 x1 x2 : Value} {w : World} {Q : Value → World → Prop} (h : f49.sh Z x0 x1 x2 w Q) : CallV Tryd.prog Z 49 #[x0, x1, x2] w Q :=
  calls_of_vcn drawD_sound (Q := Q) (n := 84) (rs := Tryd.f49.results) (an := f49.an) (c := f49.code) (cal := [47, 68, 89, 87, 85, 48, 86, 83, 82, 81]) (args := [x0, x1, x2]) Tryd.func49 (by kernel_rfl) rfl f49.body_eq follows (Nat.le_of_ble_eq_true (by kernel_rfl)) (enters_of_all f49.enters) ((f49.shape Z x0 x1 x2 w Q).mpr h)

/-! ### 50: (*lagoon/pack.Writer).Bytes -/
def f50.sh (Z : List PanicEntry → World → Prop) (x0 : Value) (w : World) (Q : Value → World → Prop) : Prop :=
  run1 Tryd.prog Z (eqOp BinOp.eql 74 false true x0 (Value.pointer none)) w fun t4_1 w =>
  CondV t4_1 (
    Q (Value.slice none 0 0) w) (
    runX Tryd.prog Z (nilChk x0) w fun t6_2 w =>
    run1 Tryd.prog Z (Instr.fieldAt 76 t6_2 0) w fun t7_3 w =>
    run1 Tryd.prog Z (Instr.loadAt 22 t7_3) w fun t8_4 w =>
    run1 Tryd.prog Z (Builtin.append_ #[22, 22] 22 #[(Value.slice none 0 0), t8_4]) w fun t9_5 w =>
    Q t9_5 w)
noncomputable def f50.code : Code := match Tryd.f50.body with | some c => c | none => .skip
def f50.an : An := (.sq .leaf (.sq (.sq .leaf (.cn (.sq .leaf .leaf) .leaf)) (.sq .leaf .leaf)))
theorem f50.body_eq : Tryd.f50.body = some f50.code := by kernel_rfl
theorem f50.shape (Z : List PanicEntry → World → Prop) (x0 : Value) (w : World) (Q : Value → World → Prop) : vc drawD Tryd.prog 10 Z [] f50.an f50.code (fnQ Tryd.prog 10 Tryd.f50.results Q) (argEnv [x0]) w = f50.sh Z x0 w Q := by kernel_rfl
theorem f50.enters : ∀ f, f ∈ ([] : List Nat) → Enters Tryd.prog f := by
  intro f hf
  cases hf
theorem f50.calls {Z : List PanicEntry → World → Prop} {x0 : Value} {w : World} {Q : Value → World → Prop} (h : f50.sh Z x0 w Q) : CallV Tryd.prog Z 50 #[x0] w Q :=
  calls_of_vcn drawD_sound (Q := Q) (n := 10) (rs := Tryd.f50.results) (an := f50.an) (c := f50.code) (cal := []) (args := [x0]) Tryd.func50 (by kernel_rfl) rfl f50.body_eq follows (Nat.le_of_ble_eq_true (by kernel_rfl)) (enters_of_all f50.enters) ((f50.shape Z x0 w Q).mpr h)

/-! ### 54: lagoon/lagoonref00.EqRequest -/
def f54.sh (Z : List PanicEntry → World → Prop) (x0 x1 : Value) (w : World) (Q : Value → World → Prop) : Prop :=
  run1 Tryd.prog Z (Instr.box 34 x0) w fun t2_1 w =>
  run1 Tryd.prog Z (Instr.box 34 x1) w fun t3_2 w =>
  run1 Tryd.prog Z (Instr.fieldAt 34 t2_1 0) w fun t6_3 w =>
  run1 Tryd.prog Z (Instr.loadAt 27 t6_3) w fun t7_4 w =>
  run1 Tryd.prog Z (Instr.fieldAt 34 t3_2 0) w fun t8_5 w =>
  run1 Tryd.prog Z (Instr.loadAt 27 t8_5) w fun t9_6 w =>
  run1 Tryd.prog Z (eqOp BinOp.neq 27 false false t7_4 t9_6) w fun t10_7 w =>
  guardW (t10_7) false (fun k => run1 Tryd.prog Z (Instr.fieldAt 34 t2_1 1) w k) (fun t12_8 w =>
  guardW (t10_7) false (fun k => run1 Tryd.prog Z (Instr.loadAt 9 t12_8) w k) (fun t13_9 w =>
  guardW (t10_7) false (fun k => run1 Tryd.prog Z (Instr.fieldAt 34 t3_2 1) w k) (fun t14_10 w =>
  guardW (t10_7) false (fun k => run1 Tryd.prog Z (Instr.loadAt 9 t14_10) w k) (fun t15_11 w =>
  guardW (t10_7) false (fun k => run1 Tryd.prog Z (eqOp BinOp.neq 9 false false t13_9 t15_11) w k) (fun t16_12 w =>
  run1 Tryd.prog Z (pickV t10_7 (Value.bool true) t16_12) w fun t17_13 w =>
  guardW (t17_13) false (fun k => run1 Tryd.prog Z (Instr.fieldAt 34 t2_1 4) w k) (fun t19_14 w =>
  guardW (t17_13) false (fun k => run1 Tryd.prog Z (Instr.loadAt 21 t19_14) w k) (fun t20_15 w =>
  guardW (t17_13) false (fun k => run1 Tryd.prog Z (Instr.fieldAt 34 t3_2 4) w k) (fun t21_16 w =>
  guardW (t17_13) false (fun k => run1 Tryd.prog Z (Instr.loadAt 21 t21_16) w k) (fun t22_17 w =>
  guardW (t17_13) false (fun k => run1 Tryd.prog Z (eqOp BinOp.neq 21 false false t20_15 t22_17) w k) (fun t23_18 w =>
  run1 Tryd.prog Z (pickV t17_13 (Value.bool true) t23_18) w fun t24_19 w =>
  guardW (t24_19) false (fun k => run1 Tryd.prog Z (Instr.fieldAt 34 t2_1 5) w k) (fun t26_20 w =>
  guardW (t24_19) false (fun k => run1 Tryd.prog Z (Instr.loadAt 4 t26_20) w k) (fun t27_21 w =>
  guardW (t24_19) false (fun k => run1 Tryd.prog Z (Instr.fieldAt 34 t3_2 5) w k) (fun t28_22 w =>
  guardW (t24_19) false (fun k => run1 Tryd.prog Z (Instr.loadAt 4 t28_22) w k) (fun t29_23 w =>
  guardW (t24_19) false (fun k => run1 Tryd.prog Z (eqOp BinOp.neq 4 false false t27_21 t29_23) w k) (fun t30_24 w =>
  run1 Tryd.prog Z (pickV t24_19 (Value.bool true) t30_24) w fun t31_25 w =>
  guardW (t31_25) false (fun k => run1 Tryd.prog Z (Instr.fieldAt 34 t2_1 6) w k) (fun t33_26 w =>
  guardW (t31_25) false (fun k => run1 Tryd.prog Z (Instr.loadAt 4 t33_26) w k) (fun t34_27 w =>
  guardW (t31_25) false (fun k => run1 Tryd.prog Z (Instr.fieldAt 34 t3_2 6) w k) (fun t35_28 w =>
  guardW (t31_25) false (fun k => run1 Tryd.prog Z (Instr.loadAt 4 t35_28) w k) (fun t36_29 w =>
  guardW (t31_25) false (fun k => run1 Tryd.prog Z (eqOp BinOp.neq 4 false false t34_27 t36_29) w k) (fun t37_30 w =>
  run1 Tryd.prog Z (pickV t31_25 (Value.bool true) t37_30) w fun t38_31 w =>
  guardW (t38_31) false (fun k => run1 Tryd.prog Z (Instr.fieldAt 34 t2_1 7) w k) (fun t40_32 w =>
  guardW (t38_31) false (fun k => run1 Tryd.prog Z (Instr.loadAt 2 t40_32) w k) (fun t41_33 w =>
  guardW (t38_31) false (fun k => run1 Tryd.prog Z (Instr.fieldAt 34 t3_2 7) w k) (fun t42_34 w =>
  guardW (t38_31) false (fun k => run1 Tryd.prog Z (Instr.loadAt 2 t42_34) w k) (fun t43_35 w =>
  guardW (t38_31) false (fun k => run1 Tryd.prog Z (eqOp BinOp.neq 2 false false t41_33 t43_35) w k) (fun t44_36 w =>
  run1 Tryd.prog Z (pickV t38_31 (Value.bool true) t44_36) w fun t45_37 w =>
  guardW (t45_37) false (fun k => run1 Tryd.prog Z (Instr.fieldAt 34 t2_1 8) w k) (fun t47_38 w =>
  guardW (t45_37) false (fun k => run1 Tryd.prog Z (Instr.loadAt 21 t47_38) w k) (fun t48_39 w =>
  guardW (t45_37) false (fun k => run1 Tryd.prog Z (Instr.fieldAt 34 t3_2 8) w k) (fun t49_40 w =>
  guardW (t45_37) false (fun k => run1 Tryd.prog Z (Instr.loadAt 21 t49_40) w k) (fun t50_41 w =>
  guardW (t45_37) false (fun k => run1 Tryd.prog Z (eqOp BinOp.neq 21 false false t48_39 t50_41) w k) (fun t51_42 w =>
  run1 Tryd.prog Z (pickV t45_37 (Value.bool true) t51_42) w fun t52_43 w =>
  CondV t52_43 (
    Q (Value.bool false) w) (
    run1 Tryd.prog Z (Instr.fieldAt 34 t2_1 2) w fun t53_44 w =>
    run1 Tryd.prog Z (Instr.loadAt 22 t53_44) w fun t54_45 w =>
    run1 Tryd.prog Z (Instr.fieldAt 34 t3_2 2) w fun t55_46 w =>
    run1 Tryd.prog Z (Instr.loadAt 22 t55_46) w fun t56_47 w =>
    CallV Tryd.prog Z 14 #[t54_45, t56_47] w fun t57_48 w =>
    run1 Tryd.prog Z (Op.unary UnOp.not t57_48) w fun t58_49 w =>
    guardW (t58_49) false (fun k => run1 Tryd.prog Z (Instr.fieldAt 34 t2_1 3) w k) (fun t60_50 w =>
    guardW (t58_49) false (fun k => run1 Tryd.prog Z (Instr.loadAt 30 t60_50) w k) (fun t61_51 w =>
    guardW (t58_49) false (fun k => run1 Tryd.prog Z (Instr.fieldAt 34 t3_2 3) w k) (fun t62_52 w =>
    guardW (t58_49) false (fun k => run1 Tryd.prog Z (Instr.loadAt 30 t62_52) w k) (fun t63_53 w =>
    guardW (t58_49) false (fun k => CallV Tryd.prog Z 97 #[t61_51, t63_53] w k) (fun t64_54 w =>
    guardW (t58_49) false (fun k => run1 Tryd.prog Z (Op.unary UnOp.not t64_54) w k) (fun t65_55 w =>
    run1 Tryd.prog Z (pickV t58_49 (Value.bool true) t65_55) w fun t66_56 w =>
    guardW (t66_56) false (fun k => run1 Tryd.prog Z (Instr.fieldAt 34 t2_1 9) w k) (fun t68_57 w =>
    guardW (t66_56) false (fun k => run1 Tryd.prog Z (Instr.loadAt 31 t68_57) w k) (fun t69_58 w =>
    guardW (t66_56) false (fun k => run1 Tryd.prog Z (Instr.fieldAt 34 t3_2 9) w k) (fun t70_59 w =>
    guardW (t66_56) false (fun k => run1 Tryd.prog Z (Instr.loadAt 31 t70_59) w k) (fun t71_60 w =>
    guardW (t66_56) false (fun k => CallV Tryd.prog Z 98 #[t69_58, t71_60] w k) (fun t72_61 w =>
    guardW (t66_56) false (fun k => run1 Tryd.prog Z (Op.unary UnOp.not t72_61) w k) (fun t73_62 w =>
    run1 Tryd.prog Z (pickV t66_56 (Value.bool true) t73_62) w fun t74_63 w =>
    guardW (t74_63) false (fun k => run1 Tryd.prog Z (Instr.fieldAt 34 t2_1 10) w k) (fun t76_64 w =>
    guardW (t74_63) false (fun k => run1 Tryd.prog Z (Instr.loadAt 32 t76_64) w k) (fun t77_65 w =>
    guardW (t74_63) false (fun k => run1 Tryd.prog Z (Builtin.len_ #[32] 3 #[t77_65]) w k) (fun t78_66 w =>
    guardW (t74_63) false (fun k => run1 Tryd.prog Z (Instr.fieldAt 34 t3_2 10) w k) (fun t79_67 w =>
    guardW (t74_63) false (fun k => run1 Tryd.prog Z (Instr.loadAt 32 t79_67) w k) (fun t80_68 w =>
    guardW (t74_63) false (fun k => run1 Tryd.prog Z (Builtin.len_ #[32] 3 #[t80_68]) w k) (fun t81_69 w =>
    guardW (t74_63) false (fun k => run1 Tryd.prog Z (eqOp BinOp.neq 3 false false t78_66 t81_69) w k) (fun t82_70 w =>
    run1 Tryd.prog Z (pickV t74_63 (Value.bool true) t82_70) w fun t83_71 w =>
    CondV t83_71 (
      Q (Value.bool false) w) (
      ∃ J_72 : Nat → Value → World → Prop, (∃ m, J_72 m (Value.int IntKind.i64 0) w) ∧
        ∀ m_72, ∀ t5_73 : Value, ∀ w : World, J_72 m_72 t5_73 w → Env →
          run1 Tryd.prog Z (Instr.fieldAt 34 t2_1 10) w fun t85_74 w =>
          run1 Tryd.prog Z (Instr.loadAt 32 t85_74) w fun t86_75 w =>
          run1 Tryd.prog Z (Builtin.len_ #[32] 3 #[t86_75]) w fun t87_76 w =>
          run1 Tryd.prog Z (binOp BinOp.lss 3 t5_73 t87_76) w fun t88_77 w =>
          CondV t88_77 (
            Drawn w fun w =>
            Pure1 Tryd.prog (Instr.fieldAt 34 t2_1 10) fun t91_78 =>
            Read1 Tryd.prog (Instr.loadAt 32 t91_78) w fun t92_79 =>
            Pure1 Tryd.prog (Instr.indexAt 32 t92_79 t5_73) fun t94_80 =>
            Read1 Tryd.prog (Instr.loadAt 34 t94_80) w fun t95_81 =>
            Pure1 Tryd.prog (Instr.fieldAt 34 t3_2 10) fun t96_82 =>
            Read1 Tryd.prog (Instr.loadAt 32 t96_82) w fun t97_83 =>
            Pure1 Tryd.prog (Instr.indexAt 32 t97_83 t5_73) fun t99_84 =>
            Read1 Tryd.prog (Instr.loadAt 34 t99_84) w fun t100_85 =>
            CallV Tryd.prog Z 54 #[t95_81, t100_85] w fun t101_86 w =>
              Still Tryd.prog (nx (Instr.loadAt 32 t96_82)) t97_83 w <|
              Still Tryd.prog (nx (Instr.loadAt 32 t91_78)) t92_79 w <|
            Pure1 Tryd.prog (Op.unary UnOp.not t101_86) fun t102_87 =>
            CondV t102_87 (
              Q (Value.bool false) w) (
              run1 Tryd.prog Z (binOp BinOp.add 3 t5_73 (Value.int IntKind.i64 1)) w fun t90_88 w =>
              ∃ n_72, n_72 < m_72 ∧ J_72 n_72 t90_88 w)) (
            Q (Value.bool true) w))) w) w) w) w) w) w) w) w) w) w) w) w) w) w) w) w) w) w) w)) w) w) w) w) w) w) w) w) w) w) w) w) w) w) w) w) w) w) w) w) w) w) w) w) w) w) w) w) w) w
noncomputable def f54.code : Code := match Tryd.f54.body with | some c => c | none => .skip
def f54.an : An := (.sq .leaf (.sq (.sq .leaf (.cn (.sq .leaf .leaf) .leaf)) (.sq (.sq .leaf (.cn (.sq .leaf .leaf) .leaf)) (.sq (.sq .leaf (.bl (.lp [5] [4, 5, 84, 85, 86, 87, 88, 89, 90, 91, 92, 93, 94, 95, 96, 97, 98, 99, 100, 101, 102] (.sq (.sq .leaf (.cn .leaf .leaf)) (.sq (.bl (.sq (.dr (.take 0 false (.take 1 true (.take 2 false (.take 3 false (.take 4 true (.take 5 false (.take 6 true (.take 7 false (.take 8 false (.take 9 true (.one 10 (.take 11 false .fin))))))))))))) (.cn (.sq .leaf .leaf) .leaf))) .leaf))))) (.sq .leaf .leaf)))))
theorem f54.body_eq : Tryd.f54.body = some f54.code := by kernel_rfl
theorem f54.shape (Z : List PanicEntry → World → Prop) (x0 x1 : Value) (w : World) (Q : Value → World → Prop) : vc drawD Tryd.prog 103 Z [14, 97, 98, 54] f54.an f54.code (fnQ Tryd.prog 103 Tryd.f54.results Q) (argEnv [x0, x1]) w = f54.sh Z x0 x1 w Q := by kernel_rfl
theorem f54.enters : ∀ f, f ∈ ([14, 97, 98, 54] : List Nat) → Enters Tryd.prog f := by
  intro f hf
  simp only [List.mem_cons, List.not_mem_nil, or_false] at hf
  rcases hf with rfl | rfl | rfl | rfl
  · exact en14
  · exact en97
  · exact en98
  · exact en54
theorem f54.calls {Z : List PanicEntry → World → Prop} {x0 x1 : Value} {w : World} {Q : Value → World → Prop} (h : f54.sh Z x0 x1 w Q) : CallV Tryd.prog Z 54 #[x0, x1] w Q :=
  calls_of_vcn drawD_sound (Q := Q) (n := 103) (rs := Tryd.f54.results) (an := f54.an) (c := f54.code) (cal := [14, 97, 98, 54]) (args := [x0, x1]) Tryd.func54 (by kernel_rfl) rfl f54.body_eq follows (Nat.le_of_ble_eq_true (by kernel_rfl)) (enters_of_all f54.enters) ((f54.shape Z x0 x1 w Q).mpr h)

/-! ### 55: cmp.Or[int] -/
def f55.sh (Z : List PanicEntry → World → Prop) (x0 : Value) (w : World) (Q : Value → World → Prop) : Prop :=
  run1 Tryd.prog Z (Builtin.len_ #[127] 3 #[x0]) w fun t7_1 w =>
  ∃ J_2 : Nat → Value → World → Prop, (∃ m, J_2 m (Value.int IntKind.i64 0) w) ∧
    ∀ m_2, ∀ t8_3 : Value, ∀ w : World, J_2 m_2 t8_3 w → Env →
      run1 Tryd.prog Z (binOp BinOp.lss 3 t8_3 t7_1) w fun t9_4 w =>
      CondV t9_4 (
        run1 Tryd.prog Z (Instr.indexAt 127 x0 t8_3) w fun t10_5 w =>
        run1 Tryd.prog Z (Instr.loadAt 3 t10_5) w fun t11_6 w =>
        run1 Tryd.prog Z (eqOp BinOp.neq 3 false false t11_6 (Value.int IntKind.i64 0)) w fun t14_7 w =>
        CondV t14_7 (
          Q t11_6 w) (
          run1 Tryd.prog Z (binOp BinOp.add 3 t8_3 (Value.int IntKind.i64 1)) w fun t16_8 w =>
          ∃ n_2, n_2 < m_2 ∧ J_2 n_2 t16_8 w)) (
        Q (Value.int IntKind.i64 0) w)
noncomputable def f55.code : Code := match Tryd.f55.body with | some c => c | none => .skip
def f55.an : An := (.sq .leaf (.sq .leaf (.sq (.sq .leaf (.bl (.lp [8] [2, 5, 8, 9, 10, 11, 12, 13, 14, 15, 16] (.sq .leaf (.sq (.cn .leaf .leaf) (.sq (.bl (.sq .leaf (.sq .leaf (.cn (.sq .leaf .leaf) .leaf)))) .leaf)))))) (.sq .leaf .leaf))))
theorem f55.body_eq : Tryd.f55.body = some f55.code := by kernel_rfl
theorem f55.shape (Z : List PanicEntry → World → Prop) (x0 : Value) (w : World) (Q : Value → World → Prop) : vc drawD Tryd.prog 18 Z [] f55.an f55.code (fnQ Tryd.prog 18 Tryd.f55.results Q) (argEnv [x0]) w = f55.sh Z x0 w Q := by kernel_rfl
theorem f55.enters : ∀ f, f ∈ ([] : List Nat) → Enters Tryd.prog f := by
  intro f hf
  cases hf
theorem f55.calls {Z : List PanicEntry → World → Prop} {x0 : Value} {w : World} {Q : Value → World → Prop} (h : f55.sh Z x0 w Q) : CallV Tryd.prog Z 55 #[x0] w Q :=
  calls_of_vcn drawD_sound (Q := Q) (n := 18) (rs := Tryd.f55.results) (an := f55.an) (c := f55.code) (cal := []) (args := [x0]) Tryd.func55 (by kernel_rfl) rfl f55.body_eq follows (Nat.le_of_ble_eq_true (by kernel_rfl)) (enters_of_all f55.enters) ((f55.shape Z x0 w Q).mpr h)

/-! ### 56: cmp.Compare[uint32] -/
def f56.sh (Z : List PanicEntry → World → Prop) (x0 x1 : Value) (w : World) (Q : Value → World → Prop) : Prop :=
  CallV Tryd.prog Z 99 #[x0] w fun t8_1 w =>
  CallV Tryd.prog Z 99 #[x1] w fun t10_2 w =>
  CondV t8_1 (
    CondV t10_2 (
      Q (Value.int IntKind.i64 0) w) (
      Q (Value.int IntKind.i64 (-1)) w)) (
    CondV t10_2 (
      Q (Value.int IntKind.i64 1) w) (
      run1 Tryd.prog Z (binOp BinOp.lss 24 x0 x1) w fun t16_3 w =>
      CondV t16_3 (
        Q (Value.int IntKind.i64 (-1)) w) (
        run1 Tryd.prog Z (binOp BinOp.gtr 24 x0 x1) w fun t19_4 w =>
        CondV t19_4 (
          Q (Value.int IntKind.i64 1) w) (
          Q (Value.int IntKind.i64 0) w))))
noncomputable def f56.code : Code := match Tryd.f56.body with | some c => c | none => .skip
def f56.an : An := (.sq .leaf (.sq .leaf (.sq .leaf (.sq (.sq .leaf (.cn (.sq (.sq .leaf (.cn (.sq .leaf .leaf) .leaf)) (.sq .leaf .leaf)) .leaf)) (.sq (.sq .leaf (.cn (.sq .leaf .leaf) .leaf)) (.sq (.sq .leaf (.cn (.sq .leaf .leaf) .leaf)) (.sq (.sq .leaf (.cn (.sq .leaf .leaf) .leaf)) (.sq .leaf .leaf))))))))
theorem f56.body_eq : Tryd.f56.body = some f56.code := by kernel_rfl
theorem f56.shape (Z : List PanicEntry → World → Prop) (x0 x1 : Value) (w : World) (Q : Value → World → Prop) : vc drawD Tryd.prog 20 Z [99] f56.an f56.code (fnQ Tryd.prog 20 Tryd.f56.results Q) (argEnv [x0, x1]) w = f56.sh Z x0 x1 w Q := by kernel_rfl
theorem f56.enters : ∀ f, f ∈ ([99] : List Nat) → Enters Tryd.prog f := by
  intro f hf
  simp only [List.mem_cons, List.not_mem_nil, or_false] at hf
  rcases hf with rfl
  · exact en99
theorem f56.calls {Z : List PanicEntry → World → Prop} {x0 x1 : Value} {w : World} {Q : Value → World → Prop} (h : f56.sh Z x0 x1 w Q) : CallV Tryd.prog Z 56 #[x0, x1] w Q :=
  calls_of_vcn drawD_sound (Q := Q) (n := 20) (rs := Tryd.f56.results) (an := f56.an) (c := f56.code) (cal := [99]) (args := [x0, x1]) Tryd.func56 (by kernel_rfl) rfl f56.body_eq follows (Nat.le_of_ble_eq_true (by kernel_rfl)) (enters_of_all f56.enters) ((f56.shape Z x0 x1 w Q).mpr h)

/-! ### 58: lagoon/txn.known -/
def f58.sh (Z : List PanicEntry → World → Prop) (x0 : Value) (w : World) (Q : Value → World → Prop) : Prop :=
  run1 Tryd.prog Z (binOp BinOp.geq 27 x0 (Value.int IntKind.i8 1)) w fun t4_1 w =>
  guardW (t4_1) true (fun k => k (x0) w) (fun t6_2 w =>
  guardW (t4_1) true (fun k => run1 Tryd.prog Z (binOp BinOp.leq 27 t6_2 (Value.int IntKind.i8 12)) w k) (fun t7_3 w =>
  run1 Tryd.prog Z (pickV t4_1 t7_3 (Value.bool false)) w fun t8_4 w =>
  Q t8_4 w) w) w
noncomputable def f58.code : Code := match Tryd.f58.body with | some c => c | none => .skip
def f58.an : An := (.sq .leaf (.sq .leaf .leaf))
theorem f58.body_eq : Tryd.f58.body = some f58.code := by kernel_rfl
theorem f58.shape (Z : List PanicEntry → World → Prop) (x0 : Value) (w : World) (Q : Value → World → Prop) : vc drawD Tryd.prog 9 Z [] f58.an f58.code (fnQ Tryd.prog 9 Tryd.f58.results Q) (argEnv [x0]) w = f58.sh Z x0 w Q := by kernel_rfl
theorem f58.enters : ∀ f, f ∈ ([] : List Nat) → Enters Tryd.prog f := by
  intro f hf
  cases hf
theorem f58.calls {Z : List PanicEntry → World → Prop} {x0 : Value} {w : World} {Q : Value → World → Prop} (h : f58.sh Z x0 w Q) : CallV Tryd.prog Z 58 #[x0] w Q :=
  calls_of_vcn drawD_sound (Q := Q) (n := 9) (rs := Tryd.f58.results) (an := f58.an) (c := f58.code) (cal := []) (args := [x0]) Tryd.func58 (by kernel_rfl) rfl f58.body_eq follows (Nat.le_of_ble_eq_true (by kernel_rfl)) (enters_of_all f58.enters) ((f58.shape Z x0 w Q).mpr h)

/-! ### 59: lagoon/txn.within -/
def f59.sh (Z : List PanicEntry → World → Prop) (x0 : Value) (w : World) (Q : Value → World → Prop) : Prop :=
  run1 Tryd.prog Z (Instr.box 34 x0) w fun t1_1 w =>
  run1 Tryd.prog Z (Instr.fieldAt 34 t1_1 0) w fun t7_2 w =>
  run1 Tryd.prog Z (Instr.loadAt 27 t7_2) w fun t8_3 w =>
  run1 Tryd.prog Z (Instr.indexAt 130 (Value.pointer (some ⟨0, 0, none⟩)) t8_3) w fun t9_4 w =>
  run1 Tryd.prog Z (Instr.loadAt 85 t9_4) w fun t10_5 w =>
  run1 Tryd.prog Z (Instr.alloc 85 true (.tuple #[])) w fun t3_6 w =>
  run0 Tryd.prog Z (Instr.storeAt 85 t3_6 t10_5) w fun w =>
  run1 Tryd.prog Z (Instr.makeFunc (Fn.func 104) #[] #[t3_6]) w fun t11_7 w =>
  ∀ j_8 : World → Prop, (∀ w : World, (Env →
      run1 Tryd.prog Z (Instr.fieldAt 34 t1_1 3) w fun t146_9 w =>
      run1 Tryd.prog Z (Instr.loadAt 30 t146_9) w fun t147_10 w =>
      run1 Tryd.prog Z (Builtin.len_ #[30] 3 #[t147_10]) w fun t148_11 w =>
      ∃ J_12 : Nat → Value → World → Prop, (∃ m, J_12 m (Value.int IntKind.i64 0) w) ∧
        ∀ m_12, ∀ t149_13 : Value, ∀ w : World, J_12 m_12 t149_13 w → Env →
          run1 Tryd.prog Z (binOp BinOp.lss 3 t149_13 t148_11) w fun t150_14 w =>
          CondV t150_14 (
            run1 Tryd.prog Z (Instr.indexAt 30 t147_10 t149_13) w fun t151_15 w =>
            run1 Tryd.prog Z (Instr.loadAt 105 t151_15) w fun t152_16 w =>
            run1 Tryd.prog Z (Instr.alloc 105 true (.tuple #[])) w fun t6_17 w =>
            run0 Tryd.prog Z (Instr.storeAt 105 t6_17 t152_16) w fun w =>
            run1 Tryd.prog Z (Instr.fieldAt 105 t6_17 1) w fun t153_18 w =>
            run1 Tryd.prog Z (Instr.loadAt 103 t153_18) w fun t154_19 w =>
            CallV Tryd.prog Z 105 #[t154_19] w fun t155_20 w =>
            run1 Tryd.prog Z (Op.unary UnOp.not t155_20) w fun t156_21 w =>
            CondV t156_21 (
              Q (Value.bool false) w) (
              run1 Tryd.prog Z (binOp BinOp.add 3 t149_13 (Value.int IntKind.i64 1)) w fun t157_22 w =>
              ∃ n_12, n_12 < m_12 ∧ J_12 n_12 t157_22 w)) (
            run1 Tryd.prog Z (Instr.fieldAt 34 t1_1 9) w fun t158_23 w =>
            run1 Tryd.prog Z (Instr.loadAt 31 t158_23) w fun t159_24 w =>
            CallV Tryd.prog Z 106 #[t159_24, (Value.func (Fn.func 107) #[] #[])] w fun t160_25 w =>
            run1 Tryd.prog Z (Op.unary UnOp.not t160_25) w fun t161_26 w =>
            Q t161_26 w)) →
      j_8 w) →
  ∀ j_27 : Value → World → Prop, (∀ t12_28 : Value, ∀ w : World, (Env →
      CondV t12_28 (
        Q (Value.bool false) w) (
        ∀ j_29 : Value → World → Prop, (∀ t47_30 : Value, ∀ w : World, (Env →
            CondV t47_30 (
              Q (Value.bool false) w) (
              ∀ j_31 : Value → World → Prop, (∀ t93_32 : Value, ∀ w : World, (Env →
                  CondV t93_32 (
                    Q (Value.bool false) w) (
                    ∀ j_33 : Value → World → Prop, (∀ t114_34 : Value, ∀ w : World, (Env →
                        CondV t114_34 (
                          Q (Value.bool false) w) (
                          j_8 w)) →
                        j_33 t114_34 w) →
                    run1 Tryd.prog Z (Instr.fieldAt 34 t1_1 7) w fun t115_35 w =>
                    run1 Tryd.prog Z (Instr.loadAt 2 t115_35) w fun t116_36 w =>
                    run1 Tryd.prog Z (binOp BinOp.lss 2 t116_36 (Value.int IntKind.i64 0)) w fun t117_37 w =>
                    CondV t117_37 (
                      j_33 t117_37 w) (
                      run1 Tryd.prog Z (Instr.fieldAt 34 t1_1 0) w fun t118_38 w =>
                      run1 Tryd.prog Z (Instr.loadAt 27 t118_38) w fun t119_39 w =>
                      run1 Tryd.prog Z (eqOp BinOp.eql 27 false true t119_39 (Value.int IntKind.i8 8)) w fun t120_40 w =>
                      guardW (t120_40) true (fun k => run1 Tryd.prog Z (Instr.fieldAt 34 t1_1 7) w k) (fun t122_41 w =>
                      guardW (t120_40) true (fun k => run1 Tryd.prog Z (Instr.loadAt 2 t122_41) w k) (fun t123_42 w =>
                      guardW (t120_40) true (fun k => run1 Tryd.prog Z (eqOp BinOp.eql 2 false true t123_42 (Value.int IntKind.i64 0)) w k) (fun t124_43 w =>
                      run1 Tryd.prog Z (pickV t120_40 t124_43 (Value.bool false)) w fun t125_44 w =>
                      CondV t125_44 (
                        j_33 t125_44 w) (
                        runX Tryd.prog Z (callVal t11_7 #[(Value.int IntKind.u64 64)]) w fun t127_45 w =>
                        guardW (t127_45) true (fun k => run1 Tryd.prog Z (Instr.fieldAt 34 t1_1 8) w k) (fun t129_46 w =>
                        guardW (t127_45) true (fun k => run1 Tryd.prog Z (Instr.loadAt 21 t129_46) w k) (fun t130_47 w =>
                        guardW (t127_45) true (fun k => run1 Tryd.prog Z (binOp BinOp.lss 21 t130_47 (Value.int IntKind.i32 1)) w k) (fun t131_48 w =>
                        guardW (t127_45) true (fun k => k (t131_48) w) (fun t132_49 w =>
                        guardW (t132_49) false (fun k => run1 Tryd.prog Z (Instr.fieldAt 34 t1_1 8) w k) (fun t133_50 w =>
                        guardW (t132_49) false (fun k => run1 Tryd.prog Z (Instr.loadAt 21 t133_50) w k) (fun t134_51 w =>
                        guardW (t132_49) false (fun k => run1 Tryd.prog Z (binOp BinOp.gtr 21 t134_51 (Value.int IntKind.i32 1000)) w k) (fun t135_52 w =>
                        guardW (t127_45) true (fun k => run1 Tryd.prog Z (pickV t132_49 (Value.bool true) t135_52) w k) (fun t136_53 w =>
                        run1 Tryd.prog Z (pickV t127_45 t136_53 (Value.bool false)) w fun t137_54 w =>
                        CondV t137_54 (
                          j_33 t137_54 w) (
                          runX Tryd.prog Z (callVal t11_7 #[(Value.int IntKind.u64 256)]) w fun t139_55 w =>
                          guardW (t139_55) true (fun k => run1 Tryd.prog Z (Instr.fieldAt 34 t1_1 10) w k) (fun t141_56 w =>
                          guardW (t139_55) true (fun k => run1 Tryd.prog Z (Instr.loadAt 32 t141_56) w k) (fun t142_57 w =>
                          guardW (t139_55) true (fun k => run1 Tryd.prog Z (Builtin.len_ #[32] 3 #[t142_57]) w k) (fun t143_58 w =>
                          guardW (t139_55) true (fun k => run1 Tryd.prog Z (eqOp BinOp.eql 3 false true t143_58 (Value.int IntKind.i64 0)) w k) (fun t144_59 w =>
                          run1 Tryd.prog Z (pickV t139_55 t144_59 (Value.bool false)) w fun t145_60 w =>
                          j_33 t145_60 w) w) w) w) w)) w) w) w) w) w) w) w) w)) w) w) w))) →
                  j_31 t93_32 w) →
              run1 Tryd.prog Z (Instr.fieldAt 34 t1_1 1) w fun t94_61 w =>
              run1 Tryd.prog Z (Instr.loadAt 9 t94_61) w fun t95_62 w =>
              run1 Tryd.prog Z (Builtin.len_ #[9] 3 #[t95_62]) w fun t96_63 w =>
              run1 Tryd.prog Z (binOp BinOp.gtr 3 t96_63 (Value.int IntKind.i64 64)) w fun t97_64 w =>
              CondV t97_64 (
                j_31 t97_64 w) (
                run1 Tryd.prog Z (Instr.fieldAt 34 t1_1 2) w fun t98_65 w =>
                run1 Tryd.prog Z (Instr.loadAt 22 t98_65) w fun t99_66 w =>
                run1 Tryd.prog Z (Builtin.len_ #[22] 3 #[t99_66]) w fun t100_67 w =>
                run1 Tryd.prog Z (binOp BinOp.gtr 3 t100_67 (Value.int IntKind.i64 96)) w fun t101_68 w =>
                CondV t101_68 (
                  j_31 t101_68 w) (
                  run1 Tryd.prog Z (Instr.fieldAt 34 t1_1 3) w fun t102_69 w =>
                  run1 Tryd.prog Z (Instr.loadAt 30 t102_69) w fun t103_70 w =>
                  run1 Tryd.prog Z (Builtin.len_ #[30] 3 #[t103_70]) w fun t104_71 w =>
                  run1 Tryd.prog Z (binOp BinOp.gtr 3 t104_71 (Value.int IntKind.i64 4)) w fun t105_72 w =>
                  CondV t105_72 (
                    j_31 t105_72 w) (
                    run1 Tryd.prog Z (Instr.fieldAt 34 t1_1 9) w fun t106_73 w =>
                    run1 Tryd.prog Z (Instr.loadAt 31 t106_73) w fun t107_74 w =>
                    run1 Tryd.prog Z (Builtin.len_ #[31] 3 #[t107_74]) w fun t108_75 w =>
                    run1 Tryd.prog Z (binOp BinOp.gtr 3 t108_75 (Value.int IntKind.i64 4)) w fun t109_76 w =>
                    CondV t109_76 (
                      j_31 t109_76 w) (
                      run1 Tryd.prog Z (Instr.fieldAt 34 t1_1 10) w fun t110_77 w =>
                      run1 Tryd.prog Z (Instr.loadAt 32 t110_77) w fun t111_78 w =>
                      run1 Tryd.prog Z (Builtin.len_ #[32] 3 #[t111_78]) w fun t112_79 w =>
                      run1 Tryd.prog Z (binOp BinOp.gtr 3 t112_79 (Value.int IntKind.i64 8)) w fun t113_80 w =>
                      j_31 t113_80 w)))))) →
            j_29 t47_30 w) →
        runX Tryd.prog Z (callVal t11_7 #[(Value.int IntKind.u64 16)]) w fun t49_81 w =>
        run1 Tryd.prog Z (Op.unary UnOp.not t49_81) w fun t50_82 w =>
        guardW (t50_82) true (fun k => run1 Tryd.prog Z (Instr.fieldAt 34 t1_1 5) w k) (fun t52_83 w =>
        guardW (t50_82) true (fun k => run1 Tryd.prog Z (Instr.loadAt 4 t52_83) w k) (fun t53_84 w =>
        guardW (t50_82) true (fun k => k (t53_84) w) (fun t54_85 w =>
        guardW (t54_85) false (fun k => run1 Tryd.prog Z (Instr.fieldAt 34 t1_1 6) w k) (fun t55_86 w =>
        guardW (t54_85) false (fun k => run1 Tryd.prog Z (Instr.loadAt 4 t55_86) w k) (fun t56_87 w =>
        guardW (t50_82) true (fun k => run1 Tryd.prog Z (pickV t54_85 (Value.bool true) t56_87) w k) (fun t57_88 w =>
        run1 Tryd.prog Z (pickV t50_82 t57_88 (Value.bool false)) w fun t58_89 w =>
        CondV t58_89 (
          j_29 t58_89 w) (
          runX Tryd.prog Z (callVal t11_7 #[(Value.int IntKind.u64 32)]) w fun t60_90 w =>
          run1 Tryd.prog Z (Op.unary UnOp.not t60_90) w fun t61_91 w =>
          guardW (t61_91) true (fun k => run1 Tryd.prog Z (Instr.fieldAt 34 t1_1 7) w k) (fun t63_92 w =>
          guardW (t61_91) true (fun k => run1 Tryd.prog Z (Instr.loadAt 2 t63_92) w k) (fun t64_93 w =>
          guardW (t61_91) true (fun k => run1 Tryd.prog Z (eqOp BinOp.neq 2 false true t64_93 (Value.int IntKind.i64 0)) w k) (fun t65_94 w =>
          run1 Tryd.prog Z (pickV t61_91 t65_94 (Value.bool false)) w fun t66_95 w =>
          CondV t66_95 (
            j_29 t66_95 w) (
            runX Tryd.prog Z (callVal t11_7 #[(Value.int IntKind.u64 64)]) w fun t68_96 w =>
            run1 Tryd.prog Z (Op.unary UnOp.not t68_96) w fun t69_97 w =>
            guardW (t69_97) true (fun k => run1 Tryd.prog Z (Instr.fieldAt 34 t1_1 8) w k) (fun t71_98 w =>
            guardW (t69_97) true (fun k => run1 Tryd.prog Z (Instr.loadAt 21 t71_98) w k) (fun t72_99 w =>
            guardW (t69_97) true (fun k => run1 Tryd.prog Z (eqOp BinOp.neq 21 false true t72_99 (Value.int IntKind.i32 0)) w k) (fun t73_100 w =>
            run1 Tryd.prog Z (pickV t69_97 t73_100 (Value.bool false)) w fun t74_101 w =>
            CondV t74_101 (
              j_29 t74_101 w) (
              runX Tryd.prog Z (callVal t11_7 #[(Value.int IntKind.u64 128)]) w fun t76_102 w =>
              run1 Tryd.prog Z (Op.unary UnOp.not t76_102) w fun t77_103 w =>
              guardW (t77_103) true (fun k => run1 Tryd.prog Z (Instr.fieldAt 34 t1_1 9) w k) (fun t79_104 w =>
              guardW (t77_103) true (fun k => run1 Tryd.prog Z (Instr.loadAt 31 t79_104) w k) (fun t80_105 w =>
              guardW (t77_103) true (fun k => run1 Tryd.prog Z (Builtin.len_ #[31] 3 #[t80_105]) w k) (fun t81_106 w =>
              guardW (t77_103) true (fun k => run1 Tryd.prog Z (binOp BinOp.gtr 3 t81_106 (Value.int IntKind.i64 0)) w k) (fun t82_107 w =>
              run1 Tryd.prog Z (pickV t77_103 t82_107 (Value.bool false)) w fun t83_108 w =>
              CondV t83_108 (
                j_29 t83_108 w) (
                runX Tryd.prog Z (callVal t11_7 #[(Value.int IntKind.u64 256)]) w fun t85_109 w =>
                run1 Tryd.prog Z (Op.unary UnOp.not t85_109) w fun t86_110 w =>
                guardW (t86_110) true (fun k => run1 Tryd.prog Z (Instr.fieldAt 34 t1_1 10) w k) (fun t88_111 w =>
                guardW (t86_110) true (fun k => run1 Tryd.prog Z (Instr.loadAt 32 t88_111) w k) (fun t89_112 w =>
                guardW (t86_110) true (fun k => run1 Tryd.prog Z (Builtin.len_ #[32] 3 #[t89_112]) w k) (fun t90_113 w =>
                guardW (t86_110) true (fun k => run1 Tryd.prog Z (binOp BinOp.gtr 3 t90_113 (Value.int IntKind.i64 0)) w k) (fun t91_114 w =>
                run1 Tryd.prog Z (pickV t86_110 t91_114 (Value.bool false)) w fun t92_115 w =>
                j_29 t92_115 w) w) w) w) w)) w) w) w) w)) w) w) w)) w) w) w)) w) w) w) w) w) w)) →
      j_27 t12_28 w) →
  runX Tryd.prog Z (callVal t11_7 #[(Value.int IntKind.u64 1)]) w fun t14_116 w =>
  run1 Tryd.prog Z (Op.unary UnOp.not t14_116) w fun t15_117 w =>
  guardW (t15_117) true (fun k => run1 Tryd.prog Z (Instr.fieldAt 34 t1_1 1) w k) (fun t17_118 w =>
  guardW (t15_117) true (fun k => run1 Tryd.prog Z (Instr.loadAt 9 t17_118) w k) (fun t18_119 w =>
  guardW (t15_117) true (fun k => run1 Tryd.prog Z (eqOp BinOp.neq 9 false true t18_119 (Value.string { data := #[] })) w k) (fun t19_120 w =>
  run1 Tryd.prog Z (pickV t15_117 t19_120 (Value.bool false)) w fun t20_121 w =>
  CondV t20_121 (
    j_27 t20_121 w) (
    runX Tryd.prog Z (callVal t11_7 #[(Value.int IntKind.u64 2)]) w fun t22_122 w =>
    run1 Tryd.prog Z (Op.unary UnOp.not t22_122) w fun t23_123 w =>
    guardW (t23_123) true (fun k => run1 Tryd.prog Z (Instr.fieldAt 34 t1_1 2) w k) (fun t25_124 w =>
    guardW (t23_123) true (fun k => run1 Tryd.prog Z (Instr.loadAt 22 t25_124) w k) (fun t26_125 w =>
    guardW (t23_123) true (fun k => run1 Tryd.prog Z (Builtin.len_ #[22] 3 #[t26_125]) w k) (fun t27_126 w =>
    guardW (t23_123) true (fun k => run1 Tryd.prog Z (binOp BinOp.gtr 3 t27_126 (Value.int IntKind.i64 0)) w k) (fun t28_127 w =>
    run1 Tryd.prog Z (pickV t23_123 t28_127 (Value.bool false)) w fun t29_128 w =>
    CondV t29_128 (
      j_27 t29_128 w) (
      runX Tryd.prog Z (callVal t11_7 #[(Value.int IntKind.u64 4)]) w fun t31_129 w =>
      run1 Tryd.prog Z (Op.unary UnOp.not t31_129) w fun t32_130 w =>
      guardW (t32_130) true (fun k => run1 Tryd.prog Z (Instr.fieldAt 34 t1_1 3) w k) (fun t34_131 w =>
      guardW (t32_130) true (fun k => run1 Tryd.prog Z (Instr.loadAt 30 t34_131) w k) (fun t35_132 w =>
      guardW (t32_130) true (fun k => run1 Tryd.prog Z (Builtin.len_ #[30] 3 #[t35_132]) w k) (fun t36_133 w =>
      guardW (t32_130) true (fun k => run1 Tryd.prog Z (binOp BinOp.gtr 3 t36_133 (Value.int IntKind.i64 0)) w k) (fun t37_134 w =>
      run1 Tryd.prog Z (pickV t32_130 t37_134 (Value.bool false)) w fun t38_135 w =>
      CondV t38_135 (
        j_27 t38_135 w) (
        runX Tryd.prog Z (callVal t11_7 #[(Value.int IntKind.u64 8)]) w fun t40_136 w =>
        run1 Tryd.prog Z (Op.unary UnOp.not t40_136) w fun t41_137 w =>
        guardW (t41_137) true (fun k => run1 Tryd.prog Z (Instr.fieldAt 34 t1_1 4) w k) (fun t43_138 w =>
        guardW (t41_137) true (fun k => run1 Tryd.prog Z (Instr.loadAt 21 t43_138) w k) (fun t44_139 w =>
        guardW (t41_137) true (fun k => run1 Tryd.prog Z (eqOp BinOp.neq 21 false true t44_139 (Value.int IntKind.i32 0)) w k) (fun t45_140 w =>
        run1 Tryd.prog Z (pickV t41_137 t45_140 (Value.bool false)) w fun t46_141 w =>
        j_27 t46_141 w) w) w) w)) w) w) w) w)) w) w) w) w)) w) w) w
noncomputable def f59.code : Code := match Tryd.f59.body with | some c => c | none => .skip
def f59.an : An := (.sq .leaf (.sq .leaf (.sq .leaf (.sj [] [2, 12, 13, 14, 15, 16, 17, 18, 19, 20, 21, 22, 23, 24, 25, 26, 27, 28, 29, 30, 31, 32, 33, 34, 35, 36, 37, 38, 39, 40, 41, 42, 43, 44, 45, 46, 47, 48, 49, 50, 51, 52, 53, 54, 55, 56, 57, 58, 59, 60, 61, 62, 63, 64, 65, 66, 67, 68, 69, 70, 71, 72, 73, 74, 75, 76, 77, 78, 79, 80, 81, 82, 83, 84, 85, 86, 87, 88, 89, 90, 91, 92, 93, 94, 95, 96, 97, 98, 99, 100, 101, 102, 103, 104, 105, 106, 107, 108, 109, 110, 111, 112, 113, 114, 115, 116, 117, 118, 119, 120, 121, 122, 123, 124, 125, 126, 127, 128, 129, 130, 131, 132, 133, 134, 135, 136, 137, 138, 139, 140, 141, 142, 143, 144, 145] (.bl (.sj [12] [12, 13, 14, 15, 16, 17, 18, 19, 20, 21, 22, 23, 24, 25, 26, 27, 28, 29, 30, 31, 32, 33, 34, 35, 36, 37, 38, 39, 40, 41, 42, 43, 44, 45, 46] (.sq .leaf (.cn .leaf (.sq .leaf (.cn .leaf (.sq .leaf (.cn .leaf .leaf)))))) (.cn (.sq .leaf .leaf) (.sj [47] [47, 48, 49, 50, 51, 52, 53, 54, 55, 56, 57, 58, 59, 60, 61, 62, 63, 64, 65, 66, 67, 68, 69, 70, 71, 72, 73, 74, 75, 76, 77, 78, 79, 80, 81, 82, 83, 84, 85, 86, 87, 88, 89, 90, 91, 92] (.sq .leaf (.cn .leaf (.sq .leaf (.cn .leaf (.sq .leaf (.cn .leaf (.sq .leaf (.cn .leaf .leaf)))))))) (.cn (.sq .leaf .leaf) (.sj [93] [93, 94, 95, 96, 97, 98, 99, 100, 101, 102, 103, 104, 105, 106, 107, 108, 109, 110, 111, 112, 113] (.sq .leaf (.cn .leaf (.sq .leaf (.cn .leaf (.sq .leaf (.cn .leaf (.sq .leaf (.cn .leaf .leaf)))))))) (.cn (.sq .leaf .leaf) (.sj [114] [114, 115, 116, 117, 118, 119, 120, 121, 122, 123, 124, 125, 126, 127, 128, 129, 130, 131, 132, 133, 134, 135, 136, 137, 138, 139, 140, 141, 142, 143, 144, 145] (.sq .leaf (.cn .leaf (.sq .leaf (.cn .leaf (.sq .leaf (.cn .leaf .leaf)))))) (.cn (.sq .leaf .leaf) .leaf))))))))) (.sq (.sq .leaf (.bl (.lp [149] [2, 6, 149, 150, 151, 152, 153, 154, 155, 156, 157] (.sq .leaf (.sq (.cn .leaf .leaf) (.sq (.bl (.sq .leaf (.sq .leaf (.cn (.sq .leaf .leaf) .leaf)))) .leaf)))))) (.sq .leaf .leaf))))))
theorem f59.body_eq : Tryd.f59.body = some f59.code := by kernel_rfl
theorem f59.shape (Z : List PanicEntry → World → Prop) (x0 : Value) (w : World) (Q : Value → World → Prop) : vc drawD Tryd.prog 162 Z [105, 106] f59.an f59.code (fnQ Tryd.prog 162 Tryd.f59.results Q) (argEnv [x0]) w = f59.sh Z x0 w Q := by kernel_rfl
theorem f59.enters : ∀ f, f ∈ ([105, 106] : List Nat) → Enters Tryd.prog f := by
  intro f hf
  simp only [List.mem_cons, List.not_mem_nil, or_false] at hf
  rcases hf with rfl | rfl
  · exact en105
  · exact en106
theorem f59.calls {Z : List PanicEntry → World → Prop} {x0 : Value} {w : World} {Q : Value → World → Prop} (h : f59.sh Z x0 w Q) : CallV Tryd.prog Z 59 #[x0] w Q :=
  calls_of_vcn drawD_sound (Q := Q) (n := 162) (rs := Tryd.f59.results) (an := f59.an) (c := f59.code) (cal := [105, 106]) (args := [x0]) Tryd.func59 (by kernel_rfl) rfl f59.body_eq follows (Nat.le_of_ble_eq_true (by kernel_rfl)) (enters_of_all f59.enters) ((f59.shape Z x0 w Q).mpr h)

/-! ### 60: lagoon/txn.isOp -/
def f60.sh (Z : List PanicEntry → World → Prop) (x0 : Value) (w : World) (Q : Value → World → Prop) : Prop :=
  run1 Tryd.prog Z (Instr.box 34 x0) w fun t1_1 w =>
  run1 Tryd.prog Z (Instr.fieldAt 34 t1_1 0) w fun t3_2 w =>
  run1 Tryd.prog Z (Instr.loadAt 27 t3_2) w fun t4_3 w =>
  run1 Tryd.prog Z (binOp BinOp.geq 27 t4_3 (Value.int IntKind.i8 1)) w fun t5_4 w =>
  guardW (t5_4) true (fun k => run1 Tryd.prog Z (Instr.fieldAt 34 t1_1 0) w k) (fun t7_5 w =>
  guardW (t5_4) true (fun k => run1 Tryd.prog Z (Instr.loadAt 27 t7_5) w k) (fun t8_6 w =>
  guardW (t5_4) true (fun k => run1 Tryd.prog Z (binOp BinOp.leq 27 t8_6 (Value.int IntKind.i8 5)) w k) (fun t9_7 w =>
  run1 Tryd.prog Z (pickV t5_4 t9_7 (Value.bool false)) w fun t10_8 w =>
  guardW (t10_8) true (fun k => run1 Tryd.prog Z (Instr.fieldAt 34 t1_1 7) w k) (fun t12_9 w =>
  guardW (t10_8) true (fun k => run1 Tryd.prog Z (Instr.loadAt 2 t12_9) w k) (fun t13_10 w =>
  guardW (t10_8) true (fun k => run1 Tryd.prog Z (eqOp BinOp.eql 2 false true t13_10 (Value.int IntKind.i64 0)) w k) (fun t14_11 w =>
  run1 Tryd.prog Z (pickV t10_8 t14_11 (Value.bool false)) w fun t15_12 w =>
  guardW (t15_12) true (fun k => run1 Tryd.prog Z (Instr.fieldAt 34 t1_1 9) w k) (fun t17_13 w =>
  guardW (t15_12) true (fun k => run1 Tryd.prog Z (Instr.loadAt 31 t17_13) w k) (fun t18_14 w =>
  guardW (t15_12) true (fun k => run1 Tryd.prog Z (Builtin.len_ #[31] 3 #[t18_14]) w k) (fun t19_15 w =>
  guardW (t15_12) true (fun k => run1 Tryd.prog Z (eqOp BinOp.eql 3 false true t19_15 (Value.int IntKind.i64 0)) w k) (fun t20_16 w =>
  run1 Tryd.prog Z (pickV t15_12 t20_16 (Value.bool false)) w fun t21_17 w =>
  guardW (t21_17) true (fun k => run1 Tryd.prog Z (Instr.loadAt 34 t1_1) w k) (fun t23_18 w =>
  guardW (t21_17) true (fun k => CallV Tryd.prog Z 59 #[t23_18] w k) (fun t24_19 w =>
  run1 Tryd.prog Z (pickV t21_17 t24_19 (Value.bool false)) w fun t25_20 w =>
  Q t25_20 w) w) w) w) w) w) w) w) w) w) w) w) w
noncomputable def f60.code : Code := match Tryd.f60.body with | some c => c | none => .skip
def f60.an : An := (.sq .leaf (.sq .leaf .leaf))
theorem f60.body_eq : Tryd.f60.body = some f60.code := by kernel_rfl
theorem f60.shape (Z : List PanicEntry → World → Prop) (x0 : Value) (w : World) (Q : Value → World → Prop) : vc drawD Tryd.prog 26 Z [59] f60.an f60.code (fnQ Tryd.prog 26 Tryd.f60.results Q) (argEnv [x0]) w = f60.sh Z x0 w Q := by kernel_rfl
theorem f60.enters : ∀ f, f ∈ ([59] : List Nat) → Enters Tryd.prog f := by
  intro f hf
  simp only [List.mem_cons, List.not_mem_nil, or_false] at hf
  rcases hf with rfl
  · exact en59
theorem f60.calls {Z : List PanicEntry → World → Prop} {x0 : Value} {w : World} {Q : Value → World → Prop} (h : f60.sh Z x0 w Q) : CallV Tryd.prog Z 60 #[x0] w Q :=
  calls_of_vcn drawD_sound (Q := Q) (n := 26) (rs := Tryd.f60.results) (an := f60.an) (c := f60.code) (cal := [59]) (args := [x0]) Tryd.func60 (by kernel_rfl) rfl f60.body_eq follows (Nat.le_of_ble_eq_true (by kernel_rfl)) (enters_of_all f60.enters) ((f60.shape Z x0 w Q).mpr h)

/-! ### 66: (*lagoon/pack.Reader).whole -/
def f66.sh (Z : List PanicEntry → World → Prop) (x0 x1 : Value) (w : World) (Q : Value → World → Prop) : Prop :=
  CallV Tryd.prog Z 113 #[x0, x1] w fun t13_1 w =>
  run1 Tryd.prog Z (Instr.extract t13_1 0) w fun t14_2 w =>
  run1 Tryd.prog Z (Instr.extract t13_1 1) w fun t15_3 w =>
  run1 Tryd.prog Z (Op.unary UnOp.not t15_3) w fun t17_4 w =>
  CondV t17_4 (
    Q (Value.int IntKind.u64 0) w) (
    run1 Tryd.prog Z (Builtin.len_ #[22] 3 #[t14_2]) w fun t19_5 w =>
    ∃ J_6 : Nat → Value → Value → World → Prop, (∃ m, J_6 m (Value.int IntKind.u64 0) (Value.int IntKind.i64 0) w) ∧
      ∀ m_6, ∀ t7_7 : Value, ∀ t20_8 : Value, ∀ w : World, J_6 m_6 t7_7 t20_8 w → Env →
        run1 Tryd.prog Z (binOp BinOp.lss 3 t20_8 t19_5) w fun t21_9 w =>
        CondV t21_9 (
          run1 Tryd.prog Z (Instr.indexAt 22 t14_2 t20_8) w fun t22_10 w =>
          run1 Tryd.prog Z (Instr.loadAt 5 t22_10) w fun t23_11 w =>
          run1 Tryd.prog Z (binOp BinOp.shl 95 t7_7 (Value.int IntKind.u64 8)) w fun t25_12 w =>
          run1 Tryd.prog Z (convert 5 95 t23_11) w fun t27_13 w =>
          run1 Tryd.prog Z (binOp BinOp.or 95 t25_12 t27_13) w fun t28_14 w =>
          run1 Tryd.prog Z (binOp BinOp.add 3 t20_8 (Value.int IntKind.i64 1)) w fun t29_15 w =>
          ∃ n_6, n_6 < m_6 ∧ J_6 n_6 t28_14 t29_15 w) (
          runX Tryd.prog Z (nilChk x0) w fun t32_16 w =>
          run1 Tryd.prog Z (Instr.fieldAt 94 t32_16 1) w fun t33_17 w =>
          run1 Tryd.prog Z (Instr.loadAt 22 t33_17) w fun t34_18 w =>
          run1 Tryd.prog Z (Instr.sliceAt 22 t34_18 (some x1) none none) w fun t36_19 w =>
          runX Tryd.prog Z (nilChk x0) w fun t37_20 w =>
          run1 Tryd.prog Z (Instr.fieldAt 94 t37_20 1) w fun t38_21 w =>
          run0 Tryd.prog Z (Instr.storeAt 22 t38_21 t36_19) w fun w =>
          Q t7_7 w))
noncomputable def f66.code : Code := match Tryd.f66.body with | some c => c | none => .skip
def f66.an : An := (.sq .leaf (.sq .leaf (.sq (.sq .leaf (.cn (.sq .leaf .leaf) .leaf)) (.sq .leaf (.sq (.sq .leaf (.bl (.lp [7, 20] [7, 9, 20, 21, 22, 23, 24, 25, 26, 27, 28, 29] (.sq .leaf (.sq (.cn .leaf .leaf) (.sq (.bl (.sq .leaf .leaf)) .leaf)))))) (.sq .leaf (.sq .leaf .leaf)))))))
theorem f66.body_eq : Tryd.f66.body = some f66.code := by kernel_rfl
theorem f66.shape (Z : List PanicEntry → World → Prop) (x0 x1 : Value) (w : World) (Q : Value → World → Prop) : vc drawD Tryd.prog 40 Z [113] f66.an f66.code (fnQ Tryd.prog 40 Tryd.f66.results Q) (argEnv [x0, x1]) w = f66.sh Z x0 x1 w Q := by kernel_rfl
theorem f66.enters : ∀ f, f ∈ ([113] : List Nat) → Enters Tryd.prog f := by
  intro f hf
  simp only [List.mem_cons, List.not_mem_nil, or_false] at hf
  rcases hf with rfl
  · exact en113
theorem f66.calls {Z : List PanicEntry → World → Prop} {x0 x1 : Value} {w : World} {Q : Value → World → Prop} (h : f66.sh Z x0 x1 w Q) : CallV Tryd.prog Z 66 #[x0, x1] w Q :=
  calls_of_vcn drawD_sound (Q := Q) (n := 40) (rs := Tryd.f66.results) (an := f66.an) (c := f66.code) (cal := [113]) (args := [x0, x1]) Tryd.func66 (by kernel_rfl) rfl f66.body_eq follows (Nat.le_of_ble_eq_true (by kernel_rfl)) (enters_of_all f66.enters) ((f66.shape Z x0 x1 w Q).mpr h)

/-! ### 67: (*lagoon/pack.Reader).Fail -/
def f67.sh (Z : List PanicEntry → World → Prop) (x0 x1 : Value) (w : World) (Q : Value → World → Prop) : Prop :=
  CallV Tryd.prog Z 78 #[x0] w fun t5_1 w =>
  CondV t5_1 (
    runX Tryd.prog Z (nilChk x0) w fun t8_2 w =>
    run1 Tryd.prog Z (Instr.fieldAt 94 t8_2 2) w fun t9_3 w =>
    run0 Tryd.prog Z (Instr.storeAt 37 t9_3 x1) w fun w =>
    Q (Value.tuple #[]) w) (
    Q (Value.tuple #[]) w)
noncomputable def f67.code : Code := match Tryd.f67.body with | some c => c | none => .skip
def f67.an : An := (.sq .leaf (.cn .leaf .leaf))
theorem f67.body_eq : Tryd.f67.body = some f67.code := by kernel_rfl
theorem f67.shape (Z : List PanicEntry → World → Prop) (x0 x1 : Value) (w : World) (Q : Value → World → Prop) : vc drawD Tryd.prog 10 Z [78] f67.an f67.code (fnQ Tryd.prog 10 Tryd.f67.results Q) (argEnv [x0, x1]) w = f67.sh Z x0 x1 w Q := by kernel_rfl
theorem f67.enters : ∀ f, f ∈ ([78] : List Nat) → Enters Tryd.prog f := by
  intro f hf
  simp only [List.mem_cons, List.not_mem_nil, or_false] at hf
  rcases hf with rfl
  · exact en78
theorem f67.calls {Z : List PanicEntry → World → Prop} {x0 x1 : Value} {w : World} {Q : Value → World → Prop} (h : f67.sh Z x0 x1 w Q) : CallV Tryd.prog Z 67 #[x0, x1] w Q :=
  calls_of_vcn drawD_sound (Q := Q) (n := 10) (rs := Tryd.f67.results) (an := f67.an) (c := f67.code) (cal := [78]) (args := [x0, x1]) Tryd.func67 (by kernel_rfl) rfl f67.body_eq follows (Nat.le_of_ble_eq_true (by kernel_rfl)) (enters_of_all f67.enters) ((f67.shape Z x0 x1 w Q).mpr h)

/-! ### 68: (lagoon/txn.layer).fields -/
def f68.sh (Z : List PanicEntry → World → Prop) (x0 x1 : Value) (w : World) (Q : Value → World → Prop) : Prop :=
  run1 Tryd.prog Z (Instr.box 71 x0) w fun t2_1 w =>
  run1 Tryd.prog Z (Instr.fieldAt 71 t2_1 0) w fun t5_2 w =>
  run1 Tryd.prog Z (Instr.loadAt 4 t5_2) w fun t6_3 w =>
  CondV t6_3 (
    run1 Tryd.prog Z (Instr.indexAt 130 (Value.pointer (some ⟨0, 0, none⟩)) x1) w fun t8_4 w =>
    run1 Tryd.prog Z (Instr.loadAt 85 t8_4) w fun t9_5 w =>
    run1 Tryd.prog Z (binOp BinOp.andNot 85 t9_5 (Value.int IntKind.u64 160)) w fun t10_6 w =>
    Q t10_6 w) (
    run1 Tryd.prog Z (Instr.indexAt 130 (Value.pointer (some ⟨0, 0, none⟩)) x1) w fun t12_7 w =>
    run1 Tryd.prog Z (Instr.loadAt 85 t12_7) w fun t13_8 w =>
    Q t13_8 w)
noncomputable def f68.code : Code := match Tryd.f68.body with | some c => c | none => .skip
def f68.an : An := (.sq .leaf (.sq (.sq .leaf (.cn (.sq .leaf .leaf) .leaf)) (.sq .leaf .leaf)))
theorem f68.body_eq : Tryd.f68.body = some f68.code := by kernel_rfl
theorem f68.shape (Z : List PanicEntry → World → Prop) (x0 x1 : Value) (w : World) (Q : Value → World → Prop) : vc drawD Tryd.prog 14 Z [] f68.an f68.code (fnQ Tryd.prog 14 Tryd.f68.results Q) (argEnv [x0, x1]) w = f68.sh Z x0 x1 w Q := by kernel_rfl
theorem f68.enters : ∀ f, f ∈ ([] : List Nat) → Enters Tryd.prog f := by
  intro f hf
  cases hf
theorem f68.calls {Z : List PanicEntry → World → Prop} {x0 x1 : Value} {w : World} {Q : Value → World → Prop} (h : f68.sh Z x0 x1 w Q) : CallV Tryd.prog Z 68 #[x0, x1] w Q :=
  calls_of_vcn drawD_sound (Q := Q) (n := 14) (rs := Tryd.f68.results) (an := f68.an) (c := f68.code) (cal := []) (args := [x0, x1]) Tryd.func68 (by kernel_rfl) rfl f68.body_eq follows (Nat.le_of_ble_eq_true (by kernel_rfl)) (enters_of_all f68.enters) ((f68.shape Z x0 x1 w Q).mpr h)

/-! ### 69: (*lagoon/pack.Reader).Text -/
def f69.sh (Z : List PanicEntry → World → Prop) (x0 x1 : Value) (w : World) (Q : Value → World → Prop) : Prop :=
  CallV Tryd.prog Z 114 #[x0, x1] w fun t7_1 w =>
  run1 Tryd.prog Z (convert 22 9 t7_1) w fun t8_2 w =>
  Q t8_2 w
noncomputable def f69.code : Code := match Tryd.f69.body with | some c => c | none => .skip
def f69.an : An := (.sq .leaf (.sq .leaf .leaf))
theorem f69.body_eq : Tryd.f69.body = some f69.code := by kernel_rfl
theorem f69.shape (Z : List PanicEntry → World → Prop) (x0 x1 : Value) (w : World) (Q : Value → World → Prop) : vc drawD Tryd.prog 9 Z [114] f69.an f69.code (fnQ Tryd.prog 9 Tryd.f69.results Q) (argEnv [x0, x1]) w = f69.sh Z x0 x1 w Q := by kernel_rfl
theorem f69.enters : ∀ f, f ∈ ([114] : List Nat) → Enters Tryd.prog f := by
  intro f hf
  simp only [List.mem_cons, List.not_mem_nil, or_false] at hf
  rcases hf with rfl
  · exact en114
theorem f69.calls {Z : List PanicEntry → World → Prop} {x0 x1 : Value} {w : World} {Q : Value → World → Prop} (h : f69.sh Z x0 x1 w Q) : CallV Tryd.prog Z 69 #[x0, x1] w Q :=
  calls_of_vcn drawD_sound (Q := Q) (n := 9) (rs := Tryd.f69.results) (an := f69.an) (c := f69.code) (cal := [114]) (args := [x0, x1]) Tryd.func69 (by kernel_rfl) rfl f69.body_eq follows (Nat.le_of_ble_eq_true (by kernel_rfl)) (enters_of_all f69.enters) ((f69.shape Z x0 x1 w Q).mpr h)

/-! ### 70: (*lagoon/pack.Reader).Buffer -/
def f70.sh (Z : List PanicEntry → World → Prop) (x0 x1 : Value) (w : World) (Q : Value → World → Prop) : Prop :=
  CallV Tryd.prog Z 114 #[x0, x1] w fun t7_1 w =>
  run1 Tryd.prog Z (Builtin.append_ #[22, 22] 22 #[(Value.slice none 0 0), t7_1]) w fun t8_2 w =>
  Q t8_2 w
noncomputable def f70.code : Code := match Tryd.f70.body with | some c => c | none => .skip
def f70.an : An := (.sq .leaf (.sq .leaf .leaf))
theorem f70.body_eq : Tryd.f70.body = some f70.code := by kernel_rfl
theorem f70.shape (Z : List PanicEntry → World → Prop) (x0 x1 : Value) (w : World) (Q : Value → World → Prop) : vc drawD Tryd.prog 9 Z [114] f70.an f70.code (fnQ Tryd.prog 9 Tryd.f70.results Q) (argEnv [x0, x1]) w = f70.sh Z x0 x1 w Q := by kernel_rfl
theorem f70.enters : ∀ f, f ∈ ([114] : List Nat) → Enters Tryd.prog f := by
  intro f hf
  simp only [List.mem_cons, List.not_mem_nil, or_false] at hf
  rcases hf with rfl
  · exact en114
theorem f70.calls {Z : List PanicEntry → World → Prop} {x0 x1 : Value} {w : World} {Q : Value → World → Prop} (h : f70.sh Z x0 x1 w Q) : CallV Tryd.prog Z 70 #[x0, x1] w Q :=
  calls_of_vcn drawD_sound (Q := Q) (n := 9) (rs := Tryd.f70.results) (an := f70.an) (c := f70.code) (cal := [114]) (args := [x0, x1]) Tryd.func70 (by kernel_rfl) rfl f70.body_eq follows (Nat.le_of_ble_eq_true (by kernel_rfl)) (enters_of_all f70.enters) ((f70.shape Z x0 x1 w Q).mpr h)

/-! ### 71: lagoon/pack.GetList[lagoon/api.Entry] -/
def f71.sh (Z : List PanicEntry → World → Prop) (x0 x1 x2 : Value) (w : World) (Q : Value → World → Prop) : Prop :=
  CallV Tryd.prog Z 115 #[x0] w fun t12_1 w =>
  CallV Tryd.prog Z 73 #[x0] w fun t14_2 w =>
  run1 Tryd.prog Z (convert 21 3 t14_2) w fun t15_3 w =>
  CallV Tryd.prog Z 78 #[x0] w fun t17_4 w =>
  run1 Tryd.prog Z (Op.unary UnOp.not t17_4) w fun t18_5 w =>
  CondV t18_5 (
    Q (Value.slice none 0 0) w) (
    run1 Tryd.prog Z (binOp BinOp.lss 3 t15_3 (Value.int IntKind.i64 0)) w fun t21_6 w =>
    guardW (t21_6) false (fun k => k (t15_3) w) (fun t23_7 w =>
    guardW (t21_6) false (fun k => k (x1) w) (fun t24_8 w =>
    guardW (t21_6) false (fun k => run1 Tryd.prog Z (binOp BinOp.gtr 3 t23_7 t24_8) w k) (fun t25_9 w =>
    run1 Tryd.prog Z (pickV t21_6 (Value.bool true) t25_9) w fun t26_10 w =>
    CondV t26_10 (
      CallV Tryd.prog Z 116 #[x0, t12_1, (Value.int IntKind.i64 11)] w fun t29_11 w =>
      Q (Value.slice none 0 0) w) (
      runX Tryd.prog Z (nilChk x0) w fun t33_12 w =>
      run1 Tryd.prog Z (Instr.fieldAt 94 t33_12 1) w fun t34_13 w =>
      run1 Tryd.prog Z (Instr.loadAt 22 t34_13) w fun t35_14 w =>
      run1 Tryd.prog Z (Builtin.len_ #[22] 3 #[t35_14]) w fun t36_15 w =>
      run1 Tryd.prog Z (binOp BinOp.gtr 3 t15_3 t36_15) w fun t37_16 w =>
      CondV t37_16 (
        CallV Tryd.prog Z 116 #[x0, t12_1, (Value.int IntKind.i64 10)] w fun t40_17 w =>
        Q (Value.slice none 0 0) w) (
        run1 Tryd.prog Z (eqOp BinOp.eql 106 false true x2 Value.nilFunc) w fun t42_18 w =>
        CondV t42_18 (
          run1 Tryd.prog Z (Instr.makeSlice 30 t15_3 t15_3) w fun t44_19 w =>
          Q t44_19 w) (
          ∃ J_20 : Nat → Value → Value → World → Prop, (∃ m, J_20 m (Value.slice none 0 0) (Value.int IntKind.i64 0) w) ∧
            ∀ m_20, ∀ t9_21 : Value, ∀ t46_22 : Value, ∀ w : World, J_20 m_20 t9_21 t46_22 w → Env →
              run1 Tryd.prog Z (binOp BinOp.lss 3 t46_22 t15_3) w fun t47_23 w =>
              CondV t47_23 (
                runX Tryd.prog Z (callVal x2 #[x0]) w fun t50_24 w =>
                run1 Tryd.prog Z (Instr.alloc 105 true (.tuple #[])) w fun t10_25 w =>
                run0 Tryd.prog Z (Instr.storeAt 105 t10_25 t50_24) w fun w =>
                CallV Tryd.prog Z 78 #[x0] w fun t52_26 w =>
                run1 Tryd.prog Z (Op.unary UnOp.not t52_26) w fun t53_27 w =>
                CondV t53_27 (
                  Q (Value.slice none 0 0) w) (
                  run1 Tryd.prog Z (Instr.loadAt 105 t10_25) w fun t55_28 w =>
                  run1 Tryd.prog Z (Instr.buildSlice 30 1 #[(0, t55_28)]) w fun t56_29 w =>
                  run1 Tryd.prog Z (Builtin.append_ #[30, 30] 30 #[t9_21, t56_29]) w fun t57_30 w =>
                  run1 Tryd.prog Z (binOp BinOp.add 3 t46_22 (Value.int IntKind.i64 1)) w fun t58_31 w =>
                  ∃ n_20, n_20 < m_20 ∧ J_20 n_20 t57_30 t58_31 w)) (
                Q t9_21 w))))) w) w) w)
noncomputable def f71.code : Code := match Tryd.f71.body with | some c => c | none => .skip
def f71.an : An := (.sq .leaf (.sq .leaf (.sq .leaf (.sq (.sq .leaf (.cn (.sq .leaf .leaf) .leaf)) (.sq (.bl (.sq .leaf (.cn (.sq .leaf (.sq .leaf .leaf)) (.sq .leaf (.cn (.sq .leaf (.sq .leaf .leaf)) .leaf))))) (.sq (.sq .leaf (.cn (.sq .leaf .leaf) .leaf)) (.sq .leaf (.sq (.sq .leaf (.bl (.lp [9, 46] [6, 9, 10, 46, 47, 48, 49, 50, 51, 52, 53, 54, 55, 56, 57, 58] (.sq .leaf (.sq (.cn .leaf .leaf) (.sq (.bl (.sq .leaf (.sq (.sq .leaf (.cn (.sq .leaf .leaf) .leaf)) .leaf))) .leaf)))))) (.sq .leaf .leaf)))))))))
theorem f71.body_eq : Tryd.f71.body = some f71.code := by kernel_rfl
theorem f71.shape (Z : List PanicEntry → World → Prop) (x0 x1 x2 : Value) (w : World) (Q : Value → World → Prop) : vc drawD Tryd.prog 60 Z [115, 73, 78, 116] f71.an f71.code (fnQ Tryd.prog 60 Tryd.f71.results Q) (argEnv [x0, x1, x2]) w = f71.sh Z x0 x1 x2 w Q := by kernel_rfl
theorem f71.enters : ∀ f, f ∈ ([115, 73, 78, 116] : List Nat) → Enters Tryd.prog f := by
  intro f hf
  simp only [List.mem_cons, List.not_mem_nil, or_false] at hf
  rcases hf with rfl | rfl | rfl | rfl
  · exact en115
  · exact en73
  · exact en78
  · exact en116
theorem f71.calls {Z : List PanicEntry → World → Prop} {x0 x1 x2 : Value} {w : World} {Q : Value → World → Prop} (h : f71.sh Z x0 x1 x2 w Q) : CallV Tryd.prog Z 71 #[x0, x1, x2] w Q :=
  calls_of_vcn drawD_sound (Q := Q) (n := 60) (rs := Tryd.f71.results) (an := f71.an) (c := f71.code) (cal := [115, 73, 78, 116]) (args := [x0, x1, x2]) Tryd.func71 (by kernel_rfl) rfl f71.body_eq follows (Nat.le_of_ble_eq_true (by kernel_rfl)) (enters_of_all f71.enters) ((f71.shape Z x0 x1 x2 w Q).mpr h)

/-! ### 72: lagoon/txn.getEntry -/
def f72.sh (Z : List PanicEntry → World → Prop) (x0 : Value) (w : World) (Q : Value → World → Prop) : Prop :=
  run1 Tryd.prog Z (Instr.alloc 105 true (.tuple #[])) w fun t2_1 w =>
  CallV Tryd.prog Z 42 #[x0] w fun t5_2 w =>
  CallV Tryd.prog Z 76 #[x0] w fun t8_3 w =>
  run1 Tryd.prog Z (Instr.build 105 #[(0, t5_2), (1, t8_3)]) w fun t9_4 w =>
  run0 Tryd.prog Z (Instr.storeAt 105 t2_1 t9_4) w fun w =>
  ∃ r_5, (do loadVar 105 (← asAddr t2_1) : Sem Value).run Tryd.prog w = .ok r_5 w ∧
  Q r_5 w
noncomputable def f72.code : Code := match Tryd.f72.body with | some c => c | none => .skip
def f72.an : An := (.sq .leaf (.sq .leaf (.sq .leaf .leaf)))
theorem f72.body_eq : Tryd.f72.body = some f72.code := by kernel_rfl
theorem f72.shape (Z : List PanicEntry → World → Prop) (x0 : Value) (w : World) (Q : Value → World → Prop) : vc drawD Tryd.prog 10 Z [42, 76] f72.an f72.code (fnQ Tryd.prog 10 Tryd.f72.results Q) (argEnv [x0]) w = f72.sh Z x0 w Q := by kernel_rfl
theorem f72.enters : ∀ f, f ∈ ([42, 76] : List Nat) → Enters Tryd.prog f := by
  intro f hf
  simp only [List.mem_cons, List.not_mem_nil, or_false] at hf
  rcases hf with rfl | rfl
  · exact en42
  · exact en76
theorem f72.calls {Z : List PanicEntry → World → Prop} {x0 : Value} {w : World} {Q : Value → World → Prop} (h : f72.sh Z x0 w Q) : CallV Tryd.prog Z 72 #[x0] w Q :=
  calls_of_vcn drawD_sound (Q := Q) (n := 10) (rs := Tryd.f72.results) (an := f72.an) (c := f72.code) (cal := [42, 76]) (args := [x0]) Tryd.func72 (by kernel_rfl) rfl f72.body_eq follows (Nat.le_of_ble_eq_true (by kernel_rfl)) (enters_of_all f72.enters) ((f72.shape Z x0 w Q).mpr h)

/-! ### 73: (*lagoon/pack.Reader).Int32 -/
def f73.sh (Z : List PanicEntry → World → Prop) (x0 : Value) (w : World) (Q : Value → World → Prop) : Prop :=
  CallV Tryd.prog Z 66 #[x0, (Value.int IntKind.i64 4)] w fun t4_1 w =>
  run1 Tryd.prog Z (convert 95 21 t4_1) w fun t5_2 w =>
  Q t5_2 w
noncomputable def f73.code : Code := match Tryd.f73.body with | some c => c | none => .skip
def f73.an : An := (.sq .leaf (.sq .leaf .leaf))
theorem f73.body_eq : Tryd.f73.body = some f73.code := by kernel_rfl
theorem f73.shape (Z : List PanicEntry → World → Prop) (x0 : Value) (w : World) (Q : Value → World → Prop) : vc drawD Tryd.prog 6 Z [66] f73.an f73.code (fnQ Tryd.prog 6 Tryd.f73.results Q) (argEnv [x0]) w = f73.sh Z x0 w Q := by kernel_rfl
theorem f73.enters : ∀ f, f ∈ ([66] : List Nat) → Enters Tryd.prog f := by
  intro f hf
  simp only [List.mem_cons, List.not_mem_nil, or_false] at hf
  rcases hf with rfl
  · exact en66
theorem f73.calls {Z : List PanicEntry → World → Prop} {x0 : Value} {w : World} {Q : Value → World → Prop} (h : f73.sh Z x0 w Q) : CallV Tryd.prog Z 73 #[x0] w Q :=
  calls_of_vcn drawD_sound (Q := Q) (n := 6) (rs := Tryd.f73.results) (an := f73.an) (c := f73.code) (cal := [66]) (args := [x0]) Tryd.func73 (by kernel_rfl) rfl f73.body_eq follows (Nat.le_of_ble_eq_true (by kernel_rfl)) (enters_of_all f73.enters) ((f73.shape Z x0 w Q).mpr h)

/-! ### 74: (*lagoon/pack.Reader).Bool -/
def f74.sh (Z : List PanicEntry → World → Prop) (x0 : Value) (w : World) (Q : Value → World → Prop) : Prop :=
  CallV Tryd.prog Z 113 #[x0, (Value.int IntKind.i64 1)] w fun t7_1 w =>
  run1 Tryd.prog Z (Instr.extract t7_1 0) w fun t8_2 w =>
  run1 Tryd.prog Z (Instr.extract t7_1 1) w fun t9_3 w =>
  run1 Tryd.prog Z (Op.unary UnOp.not t9_3) w fun t11_4 w =>
  CondV t11_4 (
    Q (Value.bool false) w) (
    run1 Tryd.prog Z (Instr.indexAt 22 t8_2 (Value.int IntKind.i64 0)) w fun t13_5 w =>
    run1 Tryd.prog Z (Instr.loadAt 5 t13_5) w fun t14_6 w =>
    run1 Tryd.prog Z (binOp BinOp.gtr 5 t14_6 (Value.int IntKind.u8 1)) w fun t15_7 w =>
    CondV t15_7 (
      runX Tryd.prog Z (nilChk x0) w fun t17_8 w =>
      run1 Tryd.prog Z (Instr.fieldAt 94 t17_8 2) w fun t18_9 w =>
      run0 Tryd.prog Z (Instr.storeAt 37 t18_9 (Value.int IntKind.i64 12)) w fun w =>
      Q (Value.bool false) w) (
      runX Tryd.prog Z (nilChk x0) w fun t21_10 w =>
      run1 Tryd.prog Z (Instr.fieldAt 94 t21_10 1) w fun t22_11 w =>
      run1 Tryd.prog Z (Instr.loadAt 22 t22_11) w fun t23_12 w =>
      run1 Tryd.prog Z (Instr.sliceAt 22 t23_12 (some (Value.int IntKind.i64 1)) none none) w fun t24_13 w =>
      runX Tryd.prog Z (nilChk x0) w fun t25_14 w =>
      run1 Tryd.prog Z (Instr.fieldAt 94 t25_14 1) w fun t26_15 w =>
      run0 Tryd.prog Z (Instr.storeAt 22 t26_15 t24_13) w fun w =>
      run1 Tryd.prog Z (Instr.indexAt 22 t8_2 (Value.int IntKind.i64 0)) w fun t28_16 w =>
      run1 Tryd.prog Z (Instr.loadAt 5 t28_16) w fun t29_17 w =>
      run1 Tryd.prog Z (eqOp BinOp.eql 5 false true t29_17 (Value.int IntKind.u8 1)) w fun t30_18 w =>
      Q t30_18 w))
noncomputable def f74.code : Code := match Tryd.f74.body with | some c => c | none => .skip
def f74.an : An := (.sq .leaf (.sq .leaf (.sq (.sq .leaf (.cn (.sq .leaf .leaf) .leaf)) (.sq (.sq .leaf (.cn (.sq .leaf (.sq .leaf .leaf)) .leaf)) (.sq .leaf (.sq .leaf .leaf))))))
theorem f74.body_eq : Tryd.f74.body = some f74.code := by kernel_rfl
theorem f74.shape (Z : List PanicEntry → World → Prop) (x0 : Value) (w : World) (Q : Value → World → Prop) : vc drawD Tryd.prog 31 Z [113] f74.an f74.code (fnQ Tryd.prog 31 Tryd.f74.results Q) (argEnv [x0]) w = f74.sh Z x0 w Q := by kernel_rfl
theorem f74.enters : ∀ f, f ∈ ([113] : List Nat) → Enters Tryd.prog f := by
  intro f hf
  simp only [List.mem_cons, List.not_mem_nil, or_false] at hf
  rcases hf with rfl
  · exact en113
theorem f74.calls {Z : List PanicEntry → World → Prop} {x0 : Value} {w : World} {Q : Value → World → Prop} (h : f74.sh Z x0 w Q) : CallV Tryd.prog Z 74 #[x0] w Q :=
  calls_of_vcn drawD_sound (Q := Q) (n := 31) (rs := Tryd.f74.results) (an := f74.an) (c := f74.code) (cal := [113]) (args := [x0]) Tryd.func74 (by kernel_rfl) rfl f74.body_eq follows (Nat.le_of_ble_eq_true (by kernel_rfl)) (enters_of_all f74.enters) ((f74.shape Z x0 w Q).mpr h)

/-! ### 75: lagoon/pack.GetList[lagoon/api.Id] -/
def f75.sh (Z : List PanicEntry → World → Prop) (x0 x1 x2 : Value) (w : World) (Q : Value → World → Prop) : Prop :=
  CallV Tryd.prog Z 115 #[x0] w fun t12_1 w =>
  CallV Tryd.prog Z 73 #[x0] w fun t14_2 w =>
  run1 Tryd.prog Z (convert 21 3 t14_2) w fun t15_3 w =>
  CallV Tryd.prog Z 78 #[x0] w fun t17_4 w =>
  run1 Tryd.prog Z (Op.unary UnOp.not t17_4) w fun t18_5 w =>
  CondV t18_5 (
    Q (Value.slice none 0 0) w) (
    run1 Tryd.prog Z (binOp BinOp.lss 3 t15_3 (Value.int IntKind.i64 0)) w fun t21_6 w =>
    guardW (t21_6) false (fun k => k (t15_3) w) (fun t23_7 w =>
    guardW (t21_6) false (fun k => k (x1) w) (fun t24_8 w =>
    guardW (t21_6) false (fun k => run1 Tryd.prog Z (binOp BinOp.gtr 3 t23_7 t24_8) w k) (fun t25_9 w =>
    run1 Tryd.prog Z (pickV t21_6 (Value.bool true) t25_9) w fun t26_10 w =>
    CondV t26_10 (
      CallV Tryd.prog Z 116 #[x0, t12_1, (Value.int IntKind.i64 11)] w fun t29_11 w =>
      Q (Value.slice none 0 0) w) (
      runX Tryd.prog Z (nilChk x0) w fun t33_12 w =>
      run1 Tryd.prog Z (Instr.fieldAt 94 t33_12 1) w fun t34_13 w =>
      run1 Tryd.prog Z (Instr.loadAt 22 t34_13) w fun t35_14 w =>
      run1 Tryd.prog Z (Builtin.len_ #[22] 3 #[t35_14]) w fun t36_15 w =>
      run1 Tryd.prog Z (binOp BinOp.gtr 3 t15_3 t36_15) w fun t37_16 w =>
      CondV t37_16 (
        CallV Tryd.prog Z 116 #[x0, t12_1, (Value.int IntKind.i64 10)] w fun t40_17 w =>
        Q (Value.slice none 0 0) w) (
        run1 Tryd.prog Z (eqOp BinOp.eql 109 false true x2 Value.nilFunc) w fun t42_18 w =>
        CondV t42_18 (
          run1 Tryd.prog Z (Instr.makeSlice 31 t15_3 t15_3) w fun t44_19 w =>
          Q t44_19 w) (
          ∃ J_20 : Nat → Value → Value → World → Prop, (∃ m, J_20 m (Value.slice none 0 0) (Value.int IntKind.i64 0) w) ∧
            ∀ m_20, ∀ t9_21 : Value, ∀ t46_22 : Value, ∀ w : World, J_20 m_20 t9_21 t46_22 w → Env →
              run1 Tryd.prog Z (binOp BinOp.lss 3 t46_22 t15_3) w fun t47_23 w =>
              CondV t47_23 (
                runX Tryd.prog Z (callVal x2 #[x0]) w fun t50_24 w =>
                run1 Tryd.prog Z (Instr.alloc 103 true (.tuple #[])) w fun t10_25 w =>
                run0 Tryd.prog Z (Instr.storeAt 103 t10_25 t50_24) w fun w =>
                CallV Tryd.prog Z 78 #[x0] w fun t52_26 w =>
                run1 Tryd.prog Z (Op.unary UnOp.not t52_26) w fun t53_27 w =>
                CondV t53_27 (
                  Q (Value.slice none 0 0) w) (
                  run1 Tryd.prog Z (Instr.loadAt 103 t10_25) w fun t55_28 w =>
                  run1 Tryd.prog Z (Instr.buildSlice 31 1 #[(0, t55_28)]) w fun t56_29 w =>
                  run1 Tryd.prog Z (Builtin.append_ #[31, 31] 31 #[t9_21, t56_29]) w fun t57_30 w =>
                  run1 Tryd.prog Z (binOp BinOp.add 3 t46_22 (Value.int IntKind.i64 1)) w fun t58_31 w =>
                  ∃ n_20, n_20 < m_20 ∧ J_20 n_20 t57_30 t58_31 w)) (
                Q t9_21 w))))) w) w) w)
noncomputable def f75.code : Code := match Tryd.f75.body with | some c => c | none => .skip
def f75.an : An := (.sq .leaf (.sq .leaf (.sq .leaf (.sq (.sq .leaf (.cn (.sq .leaf .leaf) .leaf)) (.sq (.bl (.sq .leaf (.cn (.sq .leaf (.sq .leaf .leaf)) (.sq .leaf (.cn (.sq .leaf (.sq .leaf .leaf)) .leaf))))) (.sq (.sq .leaf (.cn (.sq .leaf .leaf) .leaf)) (.sq .leaf (.sq (.sq .leaf (.bl (.lp [9, 46] [6, 9, 10, 46, 47, 48, 49, 50, 51, 52, 53, 54, 55, 56, 57, 58] (.sq .leaf (.sq (.cn .leaf .leaf) (.sq (.bl (.sq .leaf (.sq (.sq .leaf (.cn (.sq .leaf .leaf) .leaf)) .leaf))) .leaf)))))) (.sq .leaf .leaf)))))))))
theorem f75.body_eq : Tryd.f75.body = some f75.code := by kernel_rfl
theorem f75.shape (Z : List PanicEntry → World → Prop) (x0 x1 x2 : Value) (w : World) (Q : Value → World → Prop) : vc drawD Tryd.prog 60 Z [115, 73, 78, 116] f75.an f75.code (fnQ Tryd.prog 60 Tryd.f75.results Q) (argEnv [x0, x1, x2]) w = f75.sh Z x0 x1 x2 w Q := by kernel_rfl
theorem f75.enters : ∀ f, f ∈ ([115, 73, 78, 116] : List Nat) → Enters Tryd.prog f := by
  intro f hf
  simp only [List.mem_cons, List.not_mem_nil, or_false] at hf
  rcases hf with rfl | rfl | rfl | rfl
  · exact en115
  · exact en73
  · exact en78
  · exact en116
theorem f75.calls {Z : List PanicEntry → World → Prop} {x0 x1 x2 : Value} {w : World} {Q : Value → World → Prop} (h : f75.sh Z x0 x1 x2 w Q) : CallV Tryd.prog Z 75 #[x0, x1, x2] w Q :=
  calls_of_vcn drawD_sound (Q := Q) (n := 60) (rs := Tryd.f75.results) (an := f75.an) (c := f75.code) (cal := [115, 73, 78, 116]) (args := [x0, x1, x2]) Tryd.func75 (by kernel_rfl) rfl f75.body_eq follows (Nat.le_of_ble_eq_true (by kernel_rfl)) (enters_of_all f75.enters) ((f75.shape Z x0 x1 x2 w Q).mpr h)

/-! ### 76: lagoon/txn.getId -/
def f76.sh (Z : List PanicEntry → World → Prop) (x0 : Value) (w : World) (Q : Value → World → Prop) : Prop :=
  run1 Tryd.prog Z (Instr.alloc 103 true (.tuple #[])) w fun t2_1 w =>
  CallV Tryd.prog Z 69 #[x0, (Value.int IntKind.i64 24)] w fun t5_2 w =>
  CallV Tryd.prog Z 69 #[x0, (Value.int IntKind.i64 24)] w fun t8_3 w =>
  run1 Tryd.prog Z (Instr.build 103 #[(0, t5_2), (1, t8_3)]) w fun t9_4 w =>
  run0 Tryd.prog Z (Instr.storeAt 103 t2_1 t9_4) w fun w =>
  ∃ r_5, (do loadVar 103 (← asAddr t2_1) : Sem Value).run Tryd.prog w = .ok r_5 w ∧
  Q r_5 w
noncomputable def f76.code : Code := match Tryd.f76.body with | some c => c | none => .skip
def f76.an : An := (.sq .leaf (.sq .leaf (.sq .leaf .leaf)))
theorem f76.body_eq : Tryd.f76.body = some f76.code := by kernel_rfl
theorem f76.shape (Z : List PanicEntry → World → Prop) (x0 : Value) (w : World) (Q : Value → World → Prop) : vc drawD Tryd.prog 10 Z [69] f76.an f76.code (fnQ Tryd.prog 10 Tryd.f76.results Q) (argEnv [x0]) w = f76.sh Z x0 w Q := by kernel_rfl
theorem f76.enters : ∀ f, f ∈ ([69] : List Nat) → Enters Tryd.prog f := by
  intro f hf
  simp only [List.mem_cons, List.not_mem_nil, or_false] at hf
  rcases hf with rfl
  · exact en69
theorem f76.calls {Z : List PanicEntry → World → Prop} {x0 : Value} {w : World} {Q : Value → World → Prop} (h : f76.sh Z x0 w Q) : CallV Tryd.prog Z 76 #[x0] w Q :=
  calls_of_vcn drawD_sound (Q := Q) (n := 10) (rs := Tryd.f76.results) (an := f76.an) (c := f76.code) (cal := [69]) (args := [x0]) Tryd.func76 (by kernel_rfl) rfl f76.body_eq follows (Nat.le_of_ble_eq_true (by kernel_rfl)) (enters_of_all f76.enters) ((f76.shape Z x0 w Q).mpr h)

/-! ### 77: lagoon/pack.GetList[lagoon/api.Request] -/
def f77.sh (Z : List PanicEntry → World → Prop) (x0 x1 x2 : Value) (w : World) (Q : Value → World → Prop) : Prop :=
  CallV Tryd.prog Z 115 #[x0] w fun t12_1 w =>
  CallV Tryd.prog Z 73 #[x0] w fun t14_2 w =>
  run1 Tryd.prog Z (convert 21 3 t14_2) w fun t15_3 w =>
  CallV Tryd.prog Z 78 #[x0] w fun t17_4 w =>
  run1 Tryd.prog Z (Op.unary UnOp.not t17_4) w fun t18_5 w =>
  CondV t18_5 (
    Q (Value.slice none 0 0) w) (
    run1 Tryd.prog Z (binOp BinOp.lss 3 t15_3 (Value.int IntKind.i64 0)) w fun t21_6 w =>
    guardW (t21_6) false (fun k => k (t15_3) w) (fun t23_7 w =>
    guardW (t21_6) false (fun k => k (x1) w) (fun t24_8 w =>
    guardW (t21_6) false (fun k => run1 Tryd.prog Z (binOp BinOp.gtr 3 t23_7 t24_8) w k) (fun t25_9 w =>
    run1 Tryd.prog Z (pickV t21_6 (Value.bool true) t25_9) w fun t26_10 w =>
    CondV t26_10 (
      CallV Tryd.prog Z 116 #[x0, t12_1, (Value.int IntKind.i64 11)] w fun t29_11 w =>
      Q (Value.slice none 0 0) w) (
      runX Tryd.prog Z (nilChk x0) w fun t33_12 w =>
      run1 Tryd.prog Z (Instr.fieldAt 94 t33_12 1) w fun t34_13 w =>
      run1 Tryd.prog Z (Instr.loadAt 22 t34_13) w fun t35_14 w =>
      run1 Tryd.prog Z (Builtin.len_ #[22] 3 #[t35_14]) w fun t36_15 w =>
      run1 Tryd.prog Z (binOp BinOp.gtr 3 t15_3 t36_15) w fun t37_16 w =>
      CondV t37_16 (
        CallV Tryd.prog Z 116 #[x0, t12_1, (Value.int IntKind.i64 10)] w fun t40_17 w =>
        Q (Value.slice none 0 0) w) (
        run1 Tryd.prog Z (eqOp BinOp.eql 72 false true x2 Value.nilFunc) w fun t42_18 w =>
        CondV t42_18 (
          run1 Tryd.prog Z (Instr.makeSlice 32 t15_3 t15_3) w fun t44_19 w =>
          Q t44_19 w) (
          ∃ J_20 : Nat → Value → Value → World → Prop, (∃ m, J_20 m (Value.slice none 0 0) (Value.int IntKind.i64 0) w) ∧
            ∀ m_20, ∀ t9_21 : Value, ∀ t46_22 : Value, ∀ w : World, J_20 m_20 t9_21 t46_22 w → Env →
              run1 Tryd.prog Z (binOp BinOp.lss 3 t46_22 t15_3) w fun t47_23 w =>
              CondV t47_23 (
                runX Tryd.prog Z (callVal x2 #[x0]) w fun t50_24 w =>
                run1 Tryd.prog Z (Instr.alloc 34 true (.tuple #[])) w fun t10_25 w =>
                run0 Tryd.prog Z (Instr.storeAt 34 t10_25 t50_24) w fun w =>
                CallV Tryd.prog Z 78 #[x0] w fun t52_26 w =>
                run1 Tryd.prog Z (Op.unary UnOp.not t52_26) w fun t53_27 w =>
                CondV t53_27 (
                  Q (Value.slice none 0 0) w) (
                  run1 Tryd.prog Z (Instr.loadAt 34 t10_25) w fun t55_28 w =>
                  run1 Tryd.prog Z (Instr.buildSlice 32 1 #[(0, t55_28)]) w fun t56_29 w =>
                  run1 Tryd.prog Z (Builtin.append_ #[32, 32] 32 #[t9_21, t56_29]) w fun t57_30 w =>
                  run1 Tryd.prog Z (binOp BinOp.add 3 t46_22 (Value.int IntKind.i64 1)) w fun t58_31 w =>
                  ∃ n_20, n_20 < m_20 ∧ J_20 n_20 t57_30 t58_31 w)) (
                Q t9_21 w))))) w) w) w)
noncomputable def f77.code : Code := match Tryd.f77.body with | some c => c | none => .skip
def f77.an : An := (.sq .leaf (.sq .leaf (.sq .leaf (.sq (.sq .leaf (.cn (.sq .leaf .leaf) .leaf)) (.sq (.bl (.sq .leaf (.cn (.sq .leaf (.sq .leaf .leaf)) (.sq .leaf (.cn (.sq .leaf (.sq .leaf .leaf)) .leaf))))) (.sq (.sq .leaf (.cn (.sq .leaf .leaf) .leaf)) (.sq .leaf (.sq (.sq .leaf (.bl (.lp [9, 46] [6, 9, 10, 46, 47, 48, 49, 50, 51, 52, 53, 54, 55, 56, 57, 58] (.sq .leaf (.sq (.cn .leaf .leaf) (.sq (.bl (.sq .leaf (.sq (.sq .leaf (.cn (.sq .leaf .leaf) .leaf)) .leaf))) .leaf)))))) (.sq .leaf .leaf)))))))))
theorem f77.body_eq : Tryd.f77.body = some f77.code := by kernel_rfl
theorem f77.shape (Z : List PanicEntry → World → Prop) (x0 x1 x2 : Value) (w : World) (Q : Value → World → Prop) : vc drawD Tryd.prog 60 Z [115, 73, 78, 116] f77.an f77.code (fnQ Tryd.prog 60 Tryd.f77.results Q) (argEnv [x0, x1, x2]) w = f77.sh Z x0 x1 x2 w Q := by kernel_rfl
theorem f77.enters : ∀ f, f ∈ ([115, 73, 78, 116] : List Nat) → Enters Tryd.prog f := by
  intro f hf
  simp only [List.mem_cons, List.not_mem_nil, or_false] at hf
  rcases hf with rfl | rfl | rfl | rfl
  · exact en115
  · exact en73
  · exact en78
  · exact en116
theorem f77.calls {Z : List PanicEntry → World → Prop} {x0 x1 x2 : Value} {w : World} {Q : Value → World → Prop} (h : f77.sh Z x0 x1 x2 w Q) : CallV Tryd.prog Z 77 #[x0, x1, x2] w Q :=
  calls_of_vcn drawD_sound (Q := Q) (n := 60) (rs := Tryd.f77.results) (an := f77.an) (c := f77.code) (cal := [115, 73, 78, 116]) (args := [x0, x1, x2]) Tryd.func77 (by kernel_rfl) rfl f77.body_eq follows (Nat.le_of_ble_eq_true (by kernel_rfl)) (enters_of_all f77.enters) ((f77.shape Z x0 x1 x2 w Q).mpr h)

/-! ### 78: (*lagoon/pack.Reader).open -/
def f78.sh (Z : List PanicEntry → World → Prop) (x0 : Value) (w : World) (Q : Value → World → Prop) : Prop :=
  CallV Tryd.prog Z 117 #[x0] w fun t4_1 w =>
  run1 Tryd.prog Z (Op.unary UnOp.not t4_1) w fun t5_2 w =>
  guardW (t5_2) true (fun k => k (x0) w) (fun t7_3 w =>
  guardW (t5_2) true (fun k => runX Tryd.prog Z (nilChk t7_3) w k) (fun t8_4 w =>
  guardW (t5_2) true (fun k => run1 Tryd.prog Z (Instr.fieldAt 94 t8_4 2) w k) (fun t9_5 w =>
  guardW (t5_2) true (fun k => run1 Tryd.prog Z (Instr.loadAt 37 t9_5) w k) (fun t10_6 w =>
  guardW (t5_2) true (fun k => run1 Tryd.prog Z (eqOp BinOp.eql 37 false true t10_6 (Value.int IntKind.i64 0)) w k) (fun t11_7 w =>
  run1 Tryd.prog Z (pickV t5_2 t11_7 (Value.bool false)) w fun t12_8 w =>
  Q t12_8 w) w) w) w) w) w
noncomputable def f78.code : Code := match Tryd.f78.body with | some c => c | none => .skip
def f78.an : An := (.sq .leaf (.sq .leaf .leaf))
theorem f78.body_eq : Tryd.f78.body = some f78.code := by kernel_rfl
theorem f78.shape (Z : List PanicEntry → World → Prop) (x0 : Value) (w : World) (Q : Value → World → Prop) : vc drawD Tryd.prog 13 Z [117] f78.an f78.code (fnQ Tryd.prog 13 Tryd.f78.results Q) (argEnv [x0]) w = f78.sh Z x0 w Q := by kernel_rfl
theorem f78.enters : ∀ f, f ∈ ([117] : List Nat) → Enters Tryd.prog f := by
  intro f hf
  simp only [List.mem_cons, List.not_mem_nil, or_false] at hf
  rcases hf with rfl
  · exact en117
theorem f78.calls {Z : List PanicEntry → World → Prop} {x0 : Value} {w : World} {Q : Value → World → Prop} (h : f78.sh Z x0 w Q) : CallV Tryd.prog Z 78 #[x0] w Q :=
  calls_of_vcn drawD_sound (Q := Q) (n := 13) (rs := Tryd.f78.results) (an := f78.an) (c := f78.code) (cal := [117]) (args := [x0]) Tryd.func78 (by kernel_rfl) rfl f78.body_eq follows (Nat.le_of_ble_eq_true (by kernel_rfl)) (enters_of_all f78.enters) ((f78.shape Z x0 w Q).mpr h)

/-! ### 79: (*lagoon/pack.Reader).Err -/
def f79.sh (Z : List PanicEntry → World → Prop) (x0 : Value) (w : World) (Q : Value → World → Prop) : Prop :=
  CallV Tryd.prog Z 117 #[x0] w fun t4_1 w =>
  CondV t4_1 (
    Q (Value.int IntKind.i64 1) w) (
    runX Tryd.prog Z (nilChk x0) w fun t6_2 w =>
    run1 Tryd.prog Z (Instr.fieldAt 94 t6_2 2) w fun t7_3 w =>
    run1 Tryd.prog Z (Instr.loadAt 37 t7_3) w fun t8_4 w =>
    Q t8_4 w)
noncomputable def f79.code : Code := match Tryd.f79.body with | some c => c | none => .skip
def f79.an : An := (.sq .leaf (.sq (.sq .leaf (.cn (.sq .leaf .leaf) .leaf)) (.sq .leaf .leaf)))
theorem f79.body_eq : Tryd.f79.body = some f79.code := by kernel_rfl
theorem f79.shape (Z : List PanicEntry → World → Prop) (x0 : Value) (w : World) (Q : Value → World → Prop) : vc drawD Tryd.prog 9 Z [117] f79.an f79.code (fnQ Tryd.prog 9 Tryd.f79.results Q) (argEnv [x0]) w = f79.sh Z x0 w Q := by kernel_rfl
theorem f79.enters : ∀ f, f ∈ ([117] : List Nat) → Enters Tryd.prog f := by
  intro f hf
  simp only [List.mem_cons, List.not_mem_nil, or_false] at hf
  rcases hf with rfl
  · exact en117
theorem f79.calls {Z : List PanicEntry → World → Prop} {x0 : Value} {w : World} {Q : Value → World → Prop} (h : f79.sh Z x0 w Q) : CallV Tryd.prog Z 79 #[x0] w Q :=
  calls_of_vcn drawD_sound (Q := Q) (n := 9) (rs := Tryd.f79.results) (an := f79.an) (c := f79.code) (cal := [117]) (args := [x0]) Tryd.func79 (by kernel_rfl) rfl f79.body_eq follows (Nat.le_of_ble_eq_true (by kernel_rfl)) (enters_of_all f79.enters) ((f79.shape Z x0 w Q).mpr h)

/-! ### 80: (*lagoon/pack.Writer).whole -/
def f80.sh (Z : List PanicEntry → World → Prop) (x0 x1 x2 : Value) (w : World) (Q : Value → World → Prop) : Prop :=
  run1 Tryd.prog Z (eqOp BinOp.eql 74 false true x0 (Value.pointer none)) w fun t8_1 w =>
  CondV t8_1 (
    Q (Value.tuple #[]) w) (
    run1 Tryd.prog Z (binOp BinOp.sub 3 x2 (Value.int IntKind.i64 1)) w fun t10_2 w =>
    ∃ J_3 : Nat → Value → World → Prop, (∃ m, J_3 m t10_2 w) ∧
      ∀ m_3, ∀ t6_4 : Value, ∀ w : World, J_3 m_3 t6_4 w → Env →
        run1 Tryd.prog Z (binOp BinOp.geq 3 t6_4 (Value.int IntKind.i64 0)) w fun t12_5 w =>
        CondV t12_5 (
          Drawn w fun w =>
          PureV Tryd.prog (nilChk x0) fun t17_6 =>
          Pure1 Tryd.prog (Instr.fieldAt 76 t17_6 0) fun t18_7 =>
          Read1 Tryd.prog (Instr.loadAt 22 t18_7) w fun t19_8 =>
          Pure1 Tryd.prog (binOp BinOp.mul 3 (Value.int IntKind.i64 8) t6_4) fun t22_9 =>
          Pure1 Tryd.prog (binOp BinOp.shr 95 x1 t22_9) fun t23_10 =>
          Pure1 Tryd.prog (convert 95 5 t23_10) fun t24_11 =>
          run1 Tryd.prog Z (Instr.buildSlice 22 1 #[(0, t24_11)]) w fun t25_12 w =>
            Still Tryd.prog (nx (Instr.loadAt 22 t18_7)) t19_8 w <|
          run1 Tryd.prog Z (Builtin.append_ #[22, 22] 22 #[t19_8, t25_12]) w fun t26_13 w =>
          PureV Tryd.prog (nilChk x0) fun t27_14 =>
          Pure1 Tryd.prog (Instr.fieldAt 76 t27_14 0) fun t28_15 =>
          run0 Tryd.prog Z (Instr.storeAt 22 t28_15 t26_13) w fun w =>
          run1 Tryd.prog Z (binOp BinOp.sub 3 t6_4 (Value.int IntKind.i64 1)) w fun t14_16 w =>
          ∃ n_3, n_3 < m_3 ∧ J_3 n_3 t14_16 w) (
          Q (Value.tuple #[]) w))
noncomputable def f80.code : Code := match Tryd.f80.body with | some c => c | none => .skip
def f80.an : An := (.sq (.sq .leaf (.cn .leaf .leaf)) (.sq .leaf (.bl (.lp [6] [6, 11, 12, 13, 14, 15, 16, 17, 18, 19, 20, 21, 22, 23, 24, 25, 26, 27, 28] (.sq (.sq .leaf (.cn .leaf .leaf)) (.sq (.bl (.dr (.take 0 false (.take 1 false (.take 2 false (.take 3 false (.take 4 true (.take 5 false (.take 6 false (.take 7 false (.take 8 false (.take 9 false (.one 10 (.one 11 (.take 12 false (.take 13 false (.one 14 .fin))))))))))))))))) .leaf))))))
theorem f80.body_eq : Tryd.f80.body = some f80.code := by kernel_rfl
theorem f80.shape (Z : List PanicEntry → World → Prop) (x0 x1 x2 : Value) (w : World) (Q : Value → World → Prop) : vc drawD Tryd.prog 29 Z [] f80.an f80.code (fnQ Tryd.prog 29 Tryd.f80.results Q) (argEnv [x0, x1, x2]) w = f80.sh Z x0 x1 x2 w Q := by kernel_rfl
theorem f80.enters : ∀ f, f ∈ ([] : List Nat) → Enters Tryd.prog f := by
  intro f hf
  cases hf
theorem f80.calls {Z : List PanicEntry → World → Prop} {x0 x1 x2 : Value} {w : World} {Q : Value → World → Prop} (h : f80.sh Z x0 x1 x2 w Q) : CallV Tryd.prog Z 80 #[x0, x1, x2] w Q :=
  calls_of_vcn drawD_sound (Q := Q) (n := 29) (rs := Tryd.f80.results) (an := f80.an) (c := f80.code) (cal := []) (args := [x0, x1, x2]) Tryd.func80 (by kernel_rfl) rfl f80.body_eq follows (Nat.le_of_ble_eq_true (by kernel_rfl)) (enters_of_all f80.enters) ((f80.shape Z x0 x1 x2 w Q).mpr h)

/-! ### 81: (*lagoon/pack.Writer).Text -/
def f81.sh (Z : List PanicEntry → World → Prop) (x0 x1 : Value) (w : World) (Q : Value → World → Prop) : Prop :=
  run1 Tryd.prog Z (eqOp BinOp.eql 74 false true x0 (Value.pointer none)) w fun t5_1 w =>
  CondV t5_1 (
    Q (Value.tuple #[]) w) (
    run1 Tryd.prog Z (Builtin.len_ #[9] 3 #[x1]) w fun t8_2 w =>
    run1 Tryd.prog Z (convert 3 21 t8_2) w fun t9_3 w =>
    CallV Tryd.prog Z 85 #[x0, t9_3] w fun t10_4 w =>
    runX Tryd.prog Z (nilChk x0) w fun t13_5 w =>
    run1 Tryd.prog Z (Instr.fieldAt 76 t13_5 0) w fun t14_6 w =>
    run1 Tryd.prog Z (Instr.loadAt 22 t14_6) w fun t15_7 w =>
    run1 Tryd.prog Z (Builtin.append_ #[22, 9] 22 #[t15_7, x1]) w fun t17_8 w =>
    runX Tryd.prog Z (nilChk x0) w fun t18_9 w =>
    run1 Tryd.prog Z (Instr.fieldAt 76 t18_9 0) w fun t19_10 w =>
    run0 Tryd.prog Z (Instr.storeAt 22 t19_10 t17_8) w fun w =>
    Q (Value.tuple #[]) w)
noncomputable def f81.code : Code := match Tryd.f81.body with | some c => c | none => .skip
def f81.an : An := (.sq (.sq .leaf (.cn .leaf .leaf)) (.sq .leaf .leaf))
theorem f81.body_eq : Tryd.f81.body = some f81.code := by kernel_rfl
theorem f81.shape (Z : List PanicEntry → World → Prop) (x0 x1 : Value) (w : World) (Q : Value → World → Prop) : vc drawD Tryd.prog 20 Z [85] f81.an f81.code (fnQ Tryd.prog 20 Tryd.f81.results Q) (argEnv [x0, x1]) w = f81.sh Z x0 x1 w Q := by kernel_rfl
theorem f81.enters : ∀ f, f ∈ ([85] : List Nat) → Enters Tryd.prog f := by
  intro f hf
  simp only [List.mem_cons, List.not_mem_nil, or_false] at hf
  rcases hf with rfl
  · exact en85
theorem f81.calls {Z : List PanicEntry → World → Prop} {x0 x1 : Value} {w : World} {Q : Value → World → Prop} (h : f81.sh Z x0 x1 w Q) : CallV Tryd.prog Z 81 #[x0, x1] w Q :=
  calls_of_vcn drawD_sound (Q := Q) (n := 20) (rs := Tryd.f81.results) (an := f81.an) (c := f81.code) (cal := [85]) (args := [x0, x1]) Tryd.func81 (by kernel_rfl) rfl f81.body_eq follows (Nat.le_of_ble_eq_true (by kernel_rfl)) (enters_of_all f81.enters) ((f81.shape Z x0 x1 w Q).mpr h)

/-! ### 82: (*lagoon/pack.Writer).Buffer -/
def f82.sh (Z : List PanicEntry → World → Prop) (x0 x1 : Value) (w : World) (Q : Value → World → Prop) : Prop :=
  run1 Tryd.prog Z (eqOp BinOp.eql 74 false true x0 (Value.pointer none)) w fun t5_1 w =>
  CondV t5_1 (
    Q (Value.tuple #[]) w) (
    run1 Tryd.prog Z (Builtin.len_ #[22] 3 #[x1]) w fun t8_2 w =>
    run1 Tryd.prog Z (convert 3 21 t8_2) w fun t9_3 w =>
    CallV Tryd.prog Z 85 #[x0, t9_3] w fun t10_4 w =>
    CallV Tryd.prog Z 118 #[x0, x1] w fun t13_5 w =>
    Q (Value.tuple #[]) w)
noncomputable def f82.code : Code := match Tryd.f82.body with | some c => c | none => .skip
def f82.an : An := (.sq (.sq .leaf (.cn .leaf .leaf)) (.sq .leaf .leaf))
theorem f82.body_eq : Tryd.f82.body = some f82.code := by kernel_rfl
theorem f82.shape (Z : List PanicEntry → World → Prop) (x0 x1 : Value) (w : World) (Q : Value → World → Prop) : vc drawD Tryd.prog 14 Z [85, 118] f82.an f82.code (fnQ Tryd.prog 14 Tryd.f82.results Q) (argEnv [x0, x1]) w = f82.sh Z x0 x1 w Q := by kernel_rfl
theorem f82.enters : ∀ f, f ∈ ([85, 118] : List Nat) → Enters Tryd.prog f := by
  intro f hf
  simp only [List.mem_cons, List.not_mem_nil, or_false] at hf
  rcases hf with rfl | rfl
  · exact en85
  · exact en118
theorem f82.calls {Z : List PanicEntry → World → Prop} {x0 x1 : Value} {w : World} {Q : Value → World → Prop} (h : f82.sh Z x0 x1 w Q) : CallV Tryd.prog Z 82 #[x0, x1] w Q :=
  calls_of_vcn drawD_sound (Q := Q) (n := 14) (rs := Tryd.f82.results) (an := f82.an) (c := f82.code) (cal := [85, 118]) (args := [x0, x1]) Tryd.func82 (by kernel_rfl) rfl f82.body_eq follows (Nat.le_of_ble_eq_true (by kernel_rfl)) (enters_of_all f82.enters) ((f82.shape Z x0 x1 w Q).mpr h)

/-! ### 83: lagoon/pack.PutList[lagoon/api.Entry] -/
def f83.sh (Z : List PanicEntry → World → Prop) (x0 x1 x2 : Value) (w : World) (Q : Value → World → Prop) : Prop :=
  run1 Tryd.prog Z (eqOp BinOp.eql 74 false true x0 (Value.pointer none)) w fun t9_1 w =>
  CondV t9_1 (
    Q (Value.tuple #[]) w) (
    run1 Tryd.prog Z (Builtin.len_ #[30] 3 #[x1]) w fun t12_2 w =>
    run1 Tryd.prog Z (convert 3 21 t12_2) w fun t13_3 w =>
    CallV Tryd.prog Z 85 #[x0, t13_3] w fun t14_4 w =>
    run1 Tryd.prog Z (eqOp BinOp.eql 115 false true x2 Value.nilFunc) w fun t16_5 w =>
    CondV t16_5 (
      Q (Value.tuple #[]) w) (
      run1 Tryd.prog Z (Builtin.len_ #[30] 3 #[x1]) w fun t18_6 w =>
      ∃ J_7 : Nat → Value → World → Prop, (∃ m, J_7 m (Value.int IntKind.i64 0) w) ∧
        ∀ m_7, ∀ t19_8 : Value, ∀ w : World, J_7 m_7 t19_8 w → Env →
          run1 Tryd.prog Z (binOp BinOp.lss 3 t19_8 t18_6) w fun t20_9 w =>
          CondV t20_9 (
            run1 Tryd.prog Z (Instr.indexAt 30 x1 t19_8) w fun t21_10 w =>
            run1 Tryd.prog Z (Instr.loadAt 105 t21_10) w fun t22_11 w =>
            run1 Tryd.prog Z (Instr.alloc 105 true (.tuple #[])) w fun t7_12 w =>
            run0 Tryd.prog Z (Instr.storeAt 105 t7_12 t22_11) w fun w =>
            run1 Tryd.prog Z (Instr.loadAt 105 t7_12) w fun t25_13 w =>
            runX Tryd.prog Z (callVal x2 #[x0, t25_13]) w fun t26_14 w =>
            run1 Tryd.prog Z (binOp BinOp.add 3 t19_8 (Value.int IntKind.i64 1)) w fun t27_15 w =>
            ∃ n_7, n_7 < m_7 ∧ J_7 n_7 t27_15 w) (
            Q (Value.tuple #[]) w)))
noncomputable def f83.code : Code := match Tryd.f83.body with | some c => c | none => .skip
def f83.an : An := (.sq (.sq .leaf (.cn .leaf .leaf)) (.sq .leaf (.sq (.sq .leaf (.cn .leaf .leaf)) (.sq .leaf (.bl (.lp [19] [7, 19, 20, 21, 22, 23, 24, 25, 26, 27] (.sq .leaf (.sq (.cn .leaf .leaf) (.sq (.bl (.sq .leaf .leaf)) .leaf)))))))))
theorem f83.body_eq : Tryd.f83.body = some f83.code := by kernel_rfl
theorem f83.shape (Z : List PanicEntry → World → Prop) (x0 x1 x2 : Value) (w : World) (Q : Value → World → Prop) : vc drawD Tryd.prog 28 Z [85] f83.an f83.code (fnQ Tryd.prog 28 Tryd.f83.results Q) (argEnv [x0, x1, x2]) w = f83.sh Z x0 x1 x2 w Q := by kernel_rfl
theorem f83.enters : ∀ f, f ∈ ([85] : List Nat) → Enters Tryd.prog f := by
  intro f hf
  simp only [List.mem_cons, List.not_mem_nil, or_false] at hf
  rcases hf with rfl
  · exact en85
theorem f83.calls {Z : List PanicEntry → World → Prop} {x0 x1 x2 : Value} {w : World} {Q : Value → World → Prop} (h : f83.sh Z x0 x1 x2 w Q) : CallV Tryd.prog Z 83 #[x0, x1, x2] w Q :=
  calls_of_vcn drawD_sound (Q := Q) (n := 28) (rs := Tryd.f83.results) (an := f83.an) (c := f83.code) (cal := [85]) (args := [x0, x1, x2]) Tryd.func83 (by kernel_rfl) rfl f83.body_eq follows (Nat.le_of_ble_eq_true (by kernel_rfl)) (enters_of_all f83.enters) ((f83.shape Z x0 x1 x2 w Q).mpr h)

/-! ### 84: lagoon/txn.putEntry -/
def f84.sh (Z : List PanicEntry → World → Prop) (x0 x1 : Value) (w : World) (Q : Value → World → Prop) : Prop :=
  run1 Tryd.prog Z (Instr.box 105 x1) w fun t3_1 w =>
  run1 Tryd.prog Z (Instr.fieldAt 105 t3_1 0) w fun t5_2 w =>
  run1 Tryd.prog Z (Instr.loadAt 27 t5_2) w fun t6_3 w =>
  CallV Tryd.prog Z 47 #[x0, t6_3] w fun t7_4 w =>
  run1 Tryd.prog Z (Instr.fieldAt 105 t3_1 1) w fun t9_5 w =>
  run1 Tryd.prog Z (Instr.loadAt 103 t9_5) w fun t10_6 w =>
  CallV Tryd.prog Z 88 #[x0, t10_6] w fun t11_7 w =>
  Q (Value.tuple #[]) w
noncomputable def f84.code : Code := match Tryd.f84.body with | some c => c | none => .skip
def f84.an : An := (.sq .leaf (.sq .leaf .leaf))
theorem f84.body_eq : Tryd.f84.body = some f84.code := by kernel_rfl
theorem f84.shape (Z : List PanicEntry → World → Prop) (x0 x1 : Value) (w : World) (Q : Value → World → Prop) : vc drawD Tryd.prog 12 Z [47, 88] f84.an f84.code (fnQ Tryd.prog 12 Tryd.f84.results Q) (argEnv [x0, x1]) w = f84.sh Z x0 x1 w Q := by kernel_rfl
theorem f84.enters : ∀ f, f ∈ ([47, 88] : List Nat) → Enters Tryd.prog f := by
  intro f hf
  simp only [List.mem_cons, List.not_mem_nil, or_false] at hf
  rcases hf with rfl | rfl
  · exact en47
  · exact en88
theorem f84.calls {Z : List PanicEntry → World → Prop} {x0 x1 : Value} {w : World} {Q : Value → World → Prop} (h : f84.sh Z x0 x1 w Q) : CallV Tryd.prog Z 84 #[x0, x1] w Q :=
  calls_of_vcn drawD_sound (Q := Q) (n := 12) (rs := Tryd.f84.results) (an := f84.an) (c := f84.code) (cal := [47, 88]) (args := [x0, x1]) Tryd.func84 (by kernel_rfl) rfl f84.body_eq follows (Nat.le_of_ble_eq_true (by kernel_rfl)) (enters_of_all f84.enters) ((f84.shape Z x0 x1 w Q).mpr h)

/-! ### 85: (*lagoon/pack.Writer).Int32 -/
def f85.sh (Z : List PanicEntry → World → Prop) (x0 x1 : Value) (w : World) (Q : Value → World → Prop) : Prop :=
  run1 Tryd.prog Z (convert 21 95 x1) w fun t6_1 w =>
  CallV Tryd.prog Z 80 #[x0, t6_1, (Value.int IntKind.i64 4)] w fun t7_2 w =>
  Q (Value.tuple #[]) w
noncomputable def f85.code : Code := match Tryd.f85.body with | some c => c | none => .skip
def f85.an : An := .leaf
theorem f85.body_eq : Tryd.f85.body = some f85.code := by kernel_rfl
theorem f85.shape (Z : List PanicEntry → World → Prop) (x0 x1 : Value) (w : World) (Q : Value → World → Prop) : vc drawD Tryd.prog 8 Z [80] f85.an f85.code (fnQ Tryd.prog 8 Tryd.f85.results Q) (argEnv [x0, x1]) w = f85.sh Z x0 x1 w Q := by kernel_rfl
theorem f85.enters : ∀ f, f ∈ ([80] : List Nat) → Enters Tryd.prog f := by
  intro f hf
  simp only [List.mem_cons, List.not_mem_nil, or_false] at hf
  rcases hf with rfl
  · exact en80
theorem f85.calls {Z : List PanicEntry → World → Prop} {x0 x1 : Value} {w : World} {Q : Value → World → Prop} (h : f85.sh Z x0 x1 w Q) : CallV Tryd.prog Z 85 #[x0, x1] w Q :=
  calls_of_vcn drawD_sound (Q := Q) (n := 8) (rs := Tryd.f85.results) (an := f85.an) (c := f85.code) (cal := [80]) (args := [x0, x1]) Tryd.func85 (by kernel_rfl) rfl f85.body_eq follows (Nat.le_of_ble_eq_true (by kernel_rfl)) (enters_of_all f85.enters) ((f85.shape Z x0 x1 w Q).mpr h)

/-! ### 86: (*lagoon/pack.Writer).Bool -/
def f86.sh (Z : List PanicEntry → World → Prop) (x0 x1 : Value) (w : World) (Q : Value → World → Prop) : Prop :=
  ∀ j_1 : Value → World → Prop, (∀ t4_2 : Value, ∀ w : World, (Env →
      CallV Tryd.prog Z 80 #[x0, t4_2, (Value.int IntKind.i64 1)] w fun t8_3 w =>
      Q (Value.tuple #[]) w) →
      j_1 t4_2 w) →
  CondV x1 (
    j_1 (Value.int IntKind.u64 1) w) (
    j_1 (Value.int IntKind.u64 0) w)
noncomputable def f86.code : Code := match Tryd.f86.body with | some c => c | none => .skip
def f86.an : An := (.sq .leaf (.sj [4] [4, 5] (.sq .leaf (.cn .leaf .leaf)) .leaf))
theorem f86.body_eq : Tryd.f86.body = some f86.code := by kernel_rfl
theorem f86.shape (Z : List PanicEntry → World → Prop) (x0 x1 : Value) (w : World) (Q : Value → World → Prop) : vc drawD Tryd.prog 9 Z [80] f86.an f86.code (fnQ Tryd.prog 9 Tryd.f86.results Q) (argEnv [x0, x1]) w = f86.sh Z x0 x1 w Q := by kernel_rfl
theorem f86.enters : ∀ f, f ∈ ([80] : List Nat) → Enters Tryd.prog f := by
  intro f hf
  simp only [List.mem_cons, List.not_mem_nil, or_false] at hf
  rcases hf with rfl
  · exact en80
theorem f86.calls {Z : List PanicEntry → World → Prop} {x0 x1 : Value} {w : World} {Q : Value → World → Prop} (h : f86.sh Z x0 x1 w Q) : CallV Tryd.prog Z 86 #[x0, x1] w Q :=
  calls_of_vcn drawD_sound (Q := Q) (n := 9) (rs := Tryd.f86.results) (an := f86.an) (c := f86.code) (cal := [80]) (args := [x0, x1]) Tryd.func86 (by kernel_rfl) rfl f86.body_eq follows (Nat.le_of_ble_eq_true (by kernel_rfl)) (enters_of_all f86.enters) ((f86.shape Z x0 x1 w Q).mpr h)

/-! ### 87: lagoon/pack.PutList[lagoon/api.Id] -/
def f87.sh (Z : List PanicEntry → World → Prop) (x0 x1 x2 : Value) (w : World) (Q : Value → World → Prop) : Prop :=
  run1 Tryd.prog Z (eqOp BinOp.eql 74 false true x0 (Value.pointer none)) w fun t9_1 w =>
  CondV t9_1 (
    Q (Value.tuple #[]) w) (
    run1 Tryd.prog Z (Builtin.len_ #[31] 3 #[x1]) w fun t12_2 w =>
    run1 Tryd.prog Z (convert 3 21 t12_2) w fun t13_3 w =>
    CallV Tryd.prog Z 85 #[x0, t13_3] w fun t14_4 w =>
    run1 Tryd.prog Z (eqOp BinOp.eql 119 false true x2 Value.nilFunc) w fun t16_5 w =>
    CondV t16_5 (
      Q (Value.tuple #[]) w) (
      run1 Tryd.prog Z (Builtin.len_ #[31] 3 #[x1]) w fun t18_6 w =>
      ∃ J_7 : Nat → Value → World → Prop, (∃ m, J_7 m (Value.int IntKind.i64 0) w) ∧
        ∀ m_7, ∀ t19_8 : Value, ∀ w : World, J_7 m_7 t19_8 w → Env →
          run1 Tryd.prog Z (binOp BinOp.lss 3 t19_8 t18_6) w fun t20_9 w =>
          CondV t20_9 (
            run1 Tryd.prog Z (Instr.indexAt 31 x1 t19_8) w fun t21_10 w =>
            run1 Tryd.prog Z (Instr.loadAt 103 t21_10) w fun t22_11 w =>
            run1 Tryd.prog Z (Instr.alloc 103 true (.tuple #[])) w fun t7_12 w =>
            run0 Tryd.prog Z (Instr.storeAt 103 t7_12 t22_11) w fun w =>
            run1 Tryd.prog Z (Instr.loadAt 103 t7_12) w fun t25_13 w =>
            runX Tryd.prog Z (callVal x2 #[x0, t25_13]) w fun t26_14 w =>
            run1 Tryd.prog Z (binOp BinOp.add 3 t19_8 (Value.int IntKind.i64 1)) w fun t27_15 w =>
            ∃ n_7, n_7 < m_7 ∧ J_7 n_7 t27_15 w) (
            Q (Value.tuple #[]) w)))
noncomputable def f87.code : Code := match Tryd.f87.body with | some c => c | none => .skip
def f87.an : An := (.sq (.sq .leaf (.cn .leaf .leaf)) (.sq .leaf (.sq (.sq .leaf (.cn .leaf .leaf)) (.sq .leaf (.bl (.lp [19] [7, 19, 20, 21, 22, 23, 24, 25, 26, 27] (.sq .leaf (.sq (.cn .leaf .leaf) (.sq (.bl (.sq .leaf .leaf)) .leaf)))))))))
theorem f87.body_eq : Tryd.f87.body = some f87.code := by kernel_rfl
theorem f87.shape (Z : List PanicEntry → World → Prop) (x0 x1 x2 : Value) (w : World) (Q : Value → World → Prop) : vc drawD Tryd.prog 28 Z [85] f87.an f87.code (fnQ Tryd.prog 28 Tryd.f87.results Q) (argEnv [x0, x1, x2]) w = f87.sh Z x0 x1 x2 w Q := by kernel_rfl
theorem f87.enters : ∀ f, f ∈ ([85] : List Nat) → Enters Tryd.prog f := by
  intro f hf
  simp only [List.mem_cons, List.not_mem_nil, or_false] at hf
  rcases hf with rfl
  · exact en85
theorem f87.calls {Z : List PanicEntry → World → Prop} {x0 x1 x2 : Value} {w : World} {Q : Value → World → Prop} (h : f87.sh Z x0 x1 x2 w Q) : CallV Tryd.prog Z 87 #[x0, x1, x2] w Q :=
  calls_of_vcn drawD_sound (Q := Q) (n := 28) (rs := Tryd.f87.results) (an := f87.an) (c := f87.code) (cal := [85]) (args := [x0, x1, x2]) Tryd.func87 (by kernel_rfl) rfl f87.body_eq follows (Nat.le_of_ble_eq_true (by kernel_rfl)) (enters_of_all f87.enters) ((f87.shape Z x0 x1 x2 w Q).mpr h)

/-! ### 88: lagoon/txn.putId -/
def f88.sh (Z : List PanicEntry → World → Prop) (x0 x1 : Value) (w : World) (Q : Value → World → Prop) : Prop :=
  run1 Tryd.prog Z (Instr.box 103 x1) w fun t3_1 w =>
  run1 Tryd.prog Z (Instr.fieldAt 103 t3_1 0) w fun t5_2 w =>
  run1 Tryd.prog Z (Instr.loadAt 9 t5_2) w fun t6_3 w =>
  CallV Tryd.prog Z 81 #[x0, t6_3] w fun t7_4 w =>
  run1 Tryd.prog Z (Instr.fieldAt 103 t3_1 1) w fun t9_5 w =>
  run1 Tryd.prog Z (Instr.loadAt 9 t9_5) w fun t10_6 w =>
  CallV Tryd.prog Z 81 #[x0, t10_6] w fun t11_7 w =>
  Q (Value.tuple #[]) w
noncomputable def f88.code : Code := match Tryd.f88.body with | some c => c | none => .skip
def f88.an : An := (.sq .leaf (.sq .leaf .leaf))
theorem f88.body_eq : Tryd.f88.body = some f88.code := by kernel_rfl
theorem f88.shape (Z : List PanicEntry → World → Prop) (x0 x1 : Value) (w : World) (Q : Value → World → Prop) : vc drawD Tryd.prog 12 Z [81] f88.an f88.code (fnQ Tryd.prog 12 Tryd.f88.results Q) (argEnv [x0, x1]) w = f88.sh Z x0 x1 w Q := by kernel_rfl
theorem f88.enters : ∀ f, f ∈ ([81] : List Nat) → Enters Tryd.prog f := by
  intro f hf
  simp only [List.mem_cons, List.not_mem_nil, or_false] at hf
  rcases hf with rfl
  · exact en81
theorem f88.calls {Z : List PanicEntry → World → Prop} {x0 x1 : Value} {w : World} {Q : Value → World → Prop} (h : f88.sh Z x0 x1 w Q) : CallV Tryd.prog Z 88 #[x0, x1] w Q :=
  calls_of_vcn drawD_sound (Q := Q) (n := 12) (rs := Tryd.f88.results) (an := f88.an) (c := f88.code) (cal := [81]) (args := [x0, x1]) Tryd.func88 (by kernel_rfl) rfl f88.body_eq follows (Nat.le_of_ble_eq_true (by kernel_rfl)) (enters_of_all f88.enters) ((f88.shape Z x0 x1 w Q).mpr h)

/-! ### 89: lagoon/pack.PutList[lagoon/api.Request] -/
def f89.sh (Z : List PanicEntry → World → Prop) (x0 x1 x2 : Value) (w : World) (Q : Value → World → Prop) : Prop :=
  run1 Tryd.prog Z (eqOp BinOp.eql 74 false true x0 (Value.pointer none)) w fun t9_1 w =>
  CondV t9_1 (
    Q (Value.tuple #[]) w) (
    run1 Tryd.prog Z (Builtin.len_ #[32] 3 #[x1]) w fun t12_2 w =>
    run1 Tryd.prog Z (convert 3 21 t12_2) w fun t13_3 w =>
    CallV Tryd.prog Z 85 #[x0, t13_3] w fun t14_4 w =>
    run1 Tryd.prog Z (eqOp BinOp.eql 80 false true x2 Value.nilFunc) w fun t16_5 w =>
    CondV t16_5 (
      Q (Value.tuple #[]) w) (
      run1 Tryd.prog Z (Builtin.len_ #[32] 3 #[x1]) w fun t18_6 w =>
      ∃ J_7 : Nat → Value → World → Prop, (∃ m, J_7 m (Value.int IntKind.i64 0) w) ∧
        ∀ m_7, ∀ t19_8 : Value, ∀ w : World, J_7 m_7 t19_8 w → Env →
          run1 Tryd.prog Z (binOp BinOp.lss 3 t19_8 t18_6) w fun t20_9 w =>
          CondV t20_9 (
            run1 Tryd.prog Z (Instr.indexAt 32 x1 t19_8) w fun t21_10 w =>
            run1 Tryd.prog Z (Instr.loadAt 34 t21_10) w fun t22_11 w =>
            run1 Tryd.prog Z (Instr.alloc 34 true (.tuple #[])) w fun t7_12 w =>
            run0 Tryd.prog Z (Instr.storeAt 34 t7_12 t22_11) w fun w =>
            run1 Tryd.prog Z (Instr.loadAt 34 t7_12) w fun t25_13 w =>
            runX Tryd.prog Z (callVal x2 #[x0, t25_13]) w fun t26_14 w =>
            run1 Tryd.prog Z (binOp BinOp.add 3 t19_8 (Value.int IntKind.i64 1)) w fun t27_15 w =>
            ∃ n_7, n_7 < m_7 ∧ J_7 n_7 t27_15 w) (
            Q (Value.tuple #[]) w)))
noncomputable def f89.code : Code := match Tryd.f89.body with | some c => c | none => .skip
def f89.an : An := (.sq (.sq .leaf (.cn .leaf .leaf)) (.sq .leaf (.sq (.sq .leaf (.cn .leaf .leaf)) (.sq .leaf (.bl (.lp [19] [7, 19, 20, 21, 22, 23, 24, 25, 26, 27] (.sq .leaf (.sq (.cn .leaf .leaf) (.sq (.bl (.sq .leaf .leaf)) .leaf)))))))))
theorem f89.body_eq : Tryd.f89.body = some f89.code := by kernel_rfl
theorem f89.shape (Z : List PanicEntry → World → Prop) (x0 x1 x2 : Value) (w : World) (Q : Value → World → Prop) : vc drawD Tryd.prog 28 Z [85] f89.an f89.code (fnQ Tryd.prog 28 Tryd.f89.results Q) (argEnv [x0, x1, x2]) w = f89.sh Z x0 x1 x2 w Q := by kernel_rfl
theorem f89.enters : ∀ f, f ∈ ([85] : List Nat) → Enters Tryd.prog f := by
  intro f hf
  simp only [List.mem_cons, List.not_mem_nil, or_false] at hf
  rcases hf with rfl
  · exact en85
theorem f89.calls {Z : List PanicEntry → World → Prop} {x0 x1 x2 : Value} {w : World} {Q : Value → World → Prop} (h : f89.sh Z x0 x1 x2 w Q) : CallV Tryd.prog Z 89 #[x0, x1, x2] w Q :=
  calls_of_vcn drawD_sound (Q := Q) (n := 28) (rs := Tryd.f89.results) (an := f89.an) (c := f89.code) (cal := [85]) (args := [x0, x1, x2]) Tryd.func89 (by kernel_rfl) rfl f89.body_eq follows (Nat.le_of_ble_eq_true (by kernel_rfl)) (enters_of_all f89.enters) ((f89.shape Z x0 x1 x2 w Q).mpr h)

/-! ### 97: lagoon/lagoonref00.EqAcl -/
def f97.sh (Z : List PanicEntry → World → Prop) (x0 x1 : Value) (w : World) (Q : Value → World → Prop) : Prop :=
  run1 Tryd.prog Z (Builtin.len_ #[30] 3 #[x0]) w fun t7_1 w =>
  run1 Tryd.prog Z (Builtin.len_ #[30] 3 #[x1]) w fun t9_2 w =>
  run1 Tryd.prog Z (eqOp BinOp.neq 3 false false t7_1 t9_2) w fun t10_3 w =>
  CondV t10_3 (
    Q (Value.bool false) w) (
    ∃ J_4 : Nat → Value → World → Prop, (∃ m, J_4 m (Value.int IntKind.i64 0) w) ∧
      ∀ m_4, ∀ t5_5 : Value, ∀ w : World, J_4 m_4 t5_5 w → Env →
        run1 Tryd.prog Z (Builtin.len_ #[30] 3 #[x0]) w fun t13_6 w =>
        run1 Tryd.prog Z (binOp BinOp.lss 3 t5_5 t13_6) w fun t14_7 w =>
        CondV t14_7 (
          Drawn w fun w =>
          Pure1 Tryd.prog (Instr.indexAt 30 x0 t5_5) fun t19_8 =>
          Read1 Tryd.prog (Instr.loadAt 105 t19_8) w fun t20_9 =>
          Pure1 Tryd.prog (Instr.indexAt 30 x1 t5_5) fun t23_10 =>
          Read1 Tryd.prog (Instr.loadAt 105 t23_10) w fun t24_11 =>
          Pure1 Tryd.prog (eqOp BinOp.neq 105 false false t20_9 t24_11) fun t25_12 =>
          CondV t25_12 (
            Q (Value.bool false) w) (
            run1 Tryd.prog Z (binOp BinOp.add 3 t5_5 (Value.int IntKind.i64 1)) w fun t16_13 w =>
            ∃ n_4, n_4 < m_4 ∧ J_4 n_4 t16_13 w)) (
          Q (Value.bool true) w))
noncomputable def f97.code : Code := match Tryd.f97.body with | some c => c | none => .skip
def f97.an : An := (.sq .leaf (.sq (.sq .leaf (.cn (.sq .leaf .leaf) .leaf)) (.sq (.sq .leaf (.bl (.lp [5] [4, 5, 11, 12, 13, 14, 15, 16, 17, 18, 19, 20, 21, 22, 23, 24, 25] (.sq (.sq .leaf (.cn .leaf .leaf)) (.sq (.bl (.sq (.dr (.take 0 false (.take 1 false (.take 2 false (.take 3 true (.take 4 false (.take 5 false (.take 6 false (.take 7 true (.take 8 false .fin)))))))))) (.cn (.sq .leaf .leaf) .leaf))) .leaf))))) (.sq .leaf .leaf))))
theorem f97.body_eq : Tryd.f97.body = some f97.code := by kernel_rfl
theorem f97.shape (Z : List PanicEntry → World → Prop) (x0 x1 : Value) (w : World) (Q : Value → World → Prop) : vc drawD Tryd.prog 26 Z [] f97.an f97.code (fnQ Tryd.prog 26 Tryd.f97.results Q) (argEnv [x0, x1]) w = f97.sh Z x0 x1 w Q := by kernel_rfl
theorem f97.enters : ∀ f, f ∈ ([] : List Nat) → Enters Tryd.prog f := by
  intro f hf
  cases hf
theorem f97.calls {Z : List PanicEntry → World → Prop} {x0 x1 : Value} {w : World} {Q : Value → World → Prop} (h : f97.sh Z x0 x1 w Q) : CallV Tryd.prog Z 97 #[x0, x1] w Q :=
  calls_of_vcn drawD_sound (Q := Q) (n := 26) (rs := Tryd.f97.results) (an := f97.an) (c := f97.code) (cal := []) (args := [x0, x1]) Tryd.func97 (by kernel_rfl) rfl f97.body_eq follows (Nat.le_of_ble_eq_true (by kernel_rfl)) (enters_of_all f97.enters) ((f97.shape Z x0 x1 w Q).mpr h)

/-! ### 98: lagoon/lagoonref00.EqIds -/
def f98.sh (Z : List PanicEntry → World → Prop) (x0 x1 : Value) (w : World) (Q : Value → World → Prop) : Prop :=
  run1 Tryd.prog Z (Builtin.len_ #[31] 3 #[x0]) w fun t7_1 w =>
  run1 Tryd.prog Z (Builtin.len_ #[31] 3 #[x1]) w fun t9_2 w =>
  run1 Tryd.prog Z (eqOp BinOp.neq 3 false false t7_1 t9_2) w fun t10_3 w =>
  CondV t10_3 (
    Q (Value.bool false) w) (
    ∃ J_4 : Nat → Value → World → Prop, (∃ m, J_4 m (Value.int IntKind.i64 0) w) ∧
      ∀ m_4, ∀ t5_5 : Value, ∀ w : World, J_4 m_4 t5_5 w → Env →
        run1 Tryd.prog Z (Builtin.len_ #[31] 3 #[x0]) w fun t13_6 w =>
        run1 Tryd.prog Z (binOp BinOp.lss 3 t5_5 t13_6) w fun t14_7 w =>
        CondV t14_7 (
          Drawn w fun w =>
          Pure1 Tryd.prog (Instr.indexAt 31 x0 t5_5) fun t19_8 =>
          Read1 Tryd.prog (Instr.loadAt 103 t19_8) w fun t20_9 =>
          Pure1 Tryd.prog (Instr.indexAt 31 x1 t5_5) fun t23_10 =>
          Read1 Tryd.prog (Instr.loadAt 103 t23_10) w fun t24_11 =>
          Pure1 Tryd.prog (eqOp BinOp.neq 103 false false t20_9 t24_11) fun t25_12 =>
          CondV t25_12 (
            Q (Value.bool false) w) (
            run1 Tryd.prog Z (binOp BinOp.add 3 t5_5 (Value.int IntKind.i64 1)) w fun t16_13 w =>
            ∃ n_4, n_4 < m_4 ∧ J_4 n_4 t16_13 w)) (
          Q (Value.bool true) w))
noncomputable def f98.code : Code := match Tryd.f98.body with | some c => c | none => .skip
def f98.an : An := (.sq .leaf (.sq (.sq .leaf (.cn (.sq .leaf .leaf) .leaf)) (.sq (.sq .leaf (.bl (.lp [5] [4, 5, 11, 12, 13, 14, 15, 16, 17, 18, 19, 20, 21, 22, 23, 24, 25] (.sq (.sq .leaf (.cn .leaf .leaf)) (.sq (.bl (.sq (.dr (.take 0 false (.take 1 false (.take 2 false (.take 3 true (.take 4 false (.take 5 false (.take 6 false (.take 7 true (.take 8 false .fin)))))))))) (.cn (.sq .leaf .leaf) .leaf))) .leaf))))) (.sq .leaf .leaf))))
theorem f98.body_eq : Tryd.f98.body = some f98.code := by kernel_rfl
theorem f98.shape (Z : List PanicEntry → World → Prop) (x0 x1 : Value) (w : World) (Q : Value → World → Prop) : vc drawD Tryd.prog 26 Z [] f98.an f98.code (fnQ Tryd.prog 26 Tryd.f98.results Q) (argEnv [x0, x1]) w = f98.sh Z x0 x1 w Q := by kernel_rfl
theorem f98.enters : ∀ f, f ∈ ([] : List Nat) → Enters Tryd.prog f := by
  intro f hf
  cases hf
theorem f98.calls {Z : List PanicEntry → World → Prop} {x0 x1 : Value} {w : World} {Q : Value → World → Prop} (h : f98.sh Z x0 x1 w Q) : CallV Tryd.prog Z 98 #[x0, x1] w Q :=
  calls_of_vcn drawD_sound (Q := Q) (n := 26) (rs := Tryd.f98.results) (an := f98.an) (c := f98.code) (cal := []) (args := [x0, x1]) Tryd.func98 (by kernel_rfl) rfl f98.body_eq follows (Nat.le_of_ble_eq_true (by kernel_rfl)) (enters_of_all f98.enters) ((f98.shape Z x0 x1 w Q).mpr h)

/-! ### 99: cmp.isNaN[uint32] -/
def f99.sh (Z : List PanicEntry → World → Prop) (x0 : Value) (w : World) (Q : Value → World → Prop) : Prop :=
  run1 Tryd.prog Z (eqOp BinOp.neq 24 false false x0 x0) w fun t5_1 w =>
  Q t5_1 w
noncomputable def f99.code : Code := match Tryd.f99.body with | some c => c | none => .skip
def f99.an : An := (.sq .leaf (.sq .leaf .leaf))
theorem f99.body_eq : Tryd.f99.body = some f99.code := by kernel_rfl
theorem f99.shape (Z : List PanicEntry → World → Prop) (x0 : Value) (w : World) (Q : Value → World → Prop) : vc drawD Tryd.prog 6 Z [] f99.an f99.code (fnQ Tryd.prog 6 Tryd.f99.results Q) (argEnv [x0]) w = f99.sh Z x0 w Q := by kernel_rfl
theorem f99.enters : ∀ f, f ∈ ([] : List Nat) → Enters Tryd.prog f := by
  intro f hf
  cases hf
theorem f99.calls {Z : List PanicEntry → World → Prop} {x0 : Value} {w : World} {Q : Value → World → Prop} (h : f99.sh Z x0 w Q) : CallV Tryd.prog Z 99 #[x0] w Q :=
  calls_of_vcn drawD_sound (Q := Q) (n := 6) (rs := Tryd.f99.results) (an := f99.an) (c := f99.code) (cal := []) (args := [x0]) Tryd.func99 (by kernel_rfl) rfl f99.body_eq follows (Nat.le_of_ble_eq_true (by kernel_rfl)) (enters_of_all f99.enters) ((f99.shape Z x0 w Q).mpr h)

/-! ### 104: lagoon/txn.within$1 -/
def f104.sh (Z : List PanicEntry → World → Prop) (x0 x1 : Value) (w : World) (Q : Value → World → Prop) : Prop :=
  run1 Tryd.prog Z (Instr.loadAt 85 x1) w fun t4_1 w =>
  run1 Tryd.prog Z (binOp BinOp.and 85 t4_1 x0) w fun t6_2 w =>
  run1 Tryd.prog Z (eqOp BinOp.neq 85 false true t6_2 (Value.int IntKind.u64 0)) w fun t7_3 w =>
  Q t7_3 w
noncomputable def f104.code : Code := match Tryd.f104.body with | some c => c | none => .skip
def f104.an : An := (.sq .leaf (.sq .leaf .leaf))
theorem f104.body_eq : Tryd.f104.body = some f104.code := by kernel_rfl
theorem f104.shape (Z : List PanicEntry → World → Prop) (x0 x1 : Value) (w : World) (Q : Value → World → Prop) : vc drawD Tryd.prog 8 Z [] f104.an f104.code (fnQ Tryd.prog 8 Tryd.f104.results Q) (argEnv [x0, x1]) w = f104.sh Z x0 x1 w Q := by kernel_rfl
theorem f104.enters : ∀ f, f ∈ ([] : List Nat) → Enters Tryd.prog f := by
  intro f hf
  cases hf
theorem f104.calls {Z : List PanicEntry → World → Prop} {x0 x1 : Value} {w : World} {Q : Value → World → Prop} (h : f104.sh Z x0 x1 w Q) : CallV Tryd.prog Z 104 #[x0, x1] w Q :=
  calls_of_vcn drawD_sound (Q := Q) (n := 8) (rs := Tryd.f104.results) (an := f104.an) (c := f104.code) (cal := []) (args := [x0, x1]) Tryd.func104 (by kernel_rfl) rfl f104.body_eq follows (Nat.le_of_ble_eq_true (by kernel_rfl)) (enters_of_all f104.enters) ((f104.shape Z x0 x1 w Q).mpr h)

/-! ### 105: lagoon/txn.idMay -/
def f105.sh (Z : List PanicEntry → World → Prop) (x0 : Value) (w : World) (Q : Value → World → Prop) : Prop :=
  run1 Tryd.prog Z (Instr.box 103 x0) w fun t1_1 w =>
  run1 Tryd.prog Z (Instr.fieldAt 103 t1_1 0) w fun t3_2 w =>
  run1 Tryd.prog Z (Instr.loadAt 9 t3_2) w fun t4_3 w =>
  run1 Tryd.prog Z (Builtin.len_ #[9] 3 #[t4_3]) w fun t5_4 w =>
  run1 Tryd.prog Z (binOp BinOp.leq 3 t5_4 (Value.int IntKind.i64 24)) w fun t6_5 w =>
  guardW (t6_5) true (fun k => run1 Tryd.prog Z (Instr.fieldAt 103 t1_1 1) w k) (fun t8_6 w =>
  guardW (t6_5) true (fun k => run1 Tryd.prog Z (Instr.loadAt 9 t8_6) w k) (fun t9_7 w =>
  guardW (t6_5) true (fun k => run1 Tryd.prog Z (Builtin.len_ #[9] 3 #[t9_7]) w k) (fun t10_8 w =>
  guardW (t6_5) true (fun k => run1 Tryd.prog Z (binOp BinOp.leq 3 t10_8 (Value.int IntKind.i64 24)) w k) (fun t11_9 w =>
  run1 Tryd.prog Z (pickV t6_5 t11_9 (Value.bool false)) w fun t12_10 w =>
  Q t12_10 w) w) w) w) w
noncomputable def f105.code : Code := match Tryd.f105.body with | some c => c | none => .skip
def f105.an : An := (.sq .leaf (.sq .leaf .leaf))
theorem f105.body_eq : Tryd.f105.body = some f105.code := by kernel_rfl
theorem f105.shape (Z : List PanicEntry → World → Prop) (x0 : Value) (w : World) (Q : Value → World → Prop) : vc drawD Tryd.prog 13 Z [] f105.an f105.code (fnQ Tryd.prog 13 Tryd.f105.results Q) (argEnv [x0]) w = f105.sh Z x0 w Q := by kernel_rfl
theorem f105.enters : ∀ f, f ∈ ([] : List Nat) → Enters Tryd.prog f := by
  intro f hf
  cases hf
theorem f105.calls {Z : List PanicEntry → World → Prop} {x0 : Value} {w : World} {Q : Value → World → Prop} (h : f105.sh Z x0 w Q) : CallV Tryd.prog Z 105 #[x0] w Q :=
  calls_of_vcn drawD_sound (Q := Q) (n := 13) (rs := Tryd.f105.results) (an := f105.an) (c := f105.code) (cal := []) (args := [x0]) Tryd.func105 (by kernel_rfl) rfl f105.body_eq follows (Nat.le_of_ble_eq_true (by kernel_rfl)) (enters_of_all f105.enters) ((f105.shape Z x0 w Q).mpr h)

/-! ### 106: slices.ContainsFunc[[]lagoon/api.Id,lagoon/api.Id] -/
def f106.sh (Z : List PanicEntry → World → Prop) (x0 x1 : Value) (w : World) (Q : Value → World → Prop) : Prop :=
  CallV Tryd.prog Z 119 #[x0, x1] w fun t7_1 w =>
  run1 Tryd.prog Z (binOp BinOp.geq 3 t7_1 (Value.int IntKind.i64 0)) w fun t8_2 w =>
  Q t8_2 w
noncomputable def f106.code : Code := match Tryd.f106.body with | some c => c | none => .skip
def f106.an : An := (.sq .leaf (.sq .leaf .leaf))
theorem f106.body_eq : Tryd.f106.body = some f106.code := by kernel_rfl
theorem f106.shape (Z : List PanicEntry → World → Prop) (x0 x1 : Value) (w : World) (Q : Value → World → Prop) : vc drawD Tryd.prog 9 Z [119] f106.an f106.code (fnQ Tryd.prog 9 Tryd.f106.results Q) (argEnv [x0, x1]) w = f106.sh Z x0 x1 w Q := by kernel_rfl
theorem f106.enters : ∀ f, f ∈ ([119] : List Nat) → Enters Tryd.prog f := by
  intro f hf
  simp only [List.mem_cons, List.not_mem_nil, or_false] at hf
  rcases hf with rfl
  · exact en119
theorem f106.calls {Z : List PanicEntry → World → Prop} {x0 x1 : Value} {w : World} {Q : Value → World → Prop} (h : f106.sh Z x0 x1 w Q) : CallV Tryd.prog Z 106 #[x0, x1] w Q :=
  calls_of_vcn drawD_sound (Q := Q) (n := 9) (rs := Tryd.f106.results) (an := f106.an) (c := f106.code) (cal := [119]) (args := [x0, x1]) Tryd.func106 (by kernel_rfl) rfl f106.body_eq follows (Nat.le_of_ble_eq_true (by kernel_rfl)) (enters_of_all f106.enters) ((f106.shape Z x0 x1 w Q).mpr h)

/-! ### 107: lagoon/txn.within$2 -/
def f107.sh (Z : List PanicEntry → World → Prop) (x0 : Value) (w : World) (Q : Value → World → Prop) : Prop :=
  run1 Tryd.prog Z (Instr.box 103 x0) w fun t1_1 w =>
  run1 Tryd.prog Z (Instr.loadAt 103 t1_1) w fun t3_2 w =>
  CallV Tryd.prog Z 105 #[t3_2] w fun t4_3 w =>
  run1 Tryd.prog Z (Op.unary UnOp.not t4_3) w fun t5_4 w =>
  Q t5_4 w
noncomputable def f107.code : Code := match Tryd.f107.body with | some c => c | none => .skip
def f107.an : An := (.sq .leaf (.sq .leaf .leaf))
theorem f107.body_eq : Tryd.f107.body = some f107.code := by kernel_rfl
theorem f107.shape (Z : List PanicEntry → World → Prop) (x0 : Value) (w : World) (Q : Value → World → Prop) : vc drawD Tryd.prog 6 Z [105] f107.an f107.code (fnQ Tryd.prog 6 Tryd.f107.results Q) (argEnv [x0]) w = f107.sh Z x0 w Q := by kernel_rfl
theorem f107.enters : ∀ f, f ∈ ([105] : List Nat) → Enters Tryd.prog f := by
  intro f hf
  simp only [List.mem_cons, List.not_mem_nil, or_false] at hf
  rcases hf with rfl
  · exact en105
theorem f107.calls {Z : List PanicEntry → World → Prop} {x0 : Value} {w : World} {Q : Value → World → Prop} (h : f107.sh Z x0 w Q) : CallV Tryd.prog Z 107 #[x0] w Q :=
  calls_of_vcn drawD_sound (Q := Q) (n := 6) (rs := Tryd.f107.results) (an := f107.an) (c := f107.code) (cal := [105]) (args := [x0]) Tryd.func107 (by kernel_rfl) rfl f107.body_eq follows (Nat.le_of_ble_eq_true (by kernel_rfl)) (enters_of_all f107.enters) ((f107.shape Z x0 w Q).mpr h)

/-! ### 113: (*lagoon/pack.Reader).ahead -/
def f113.sh (Z : List PanicEntry → World → Prop) (x0 x1 : Value) (w : World) (Q : Value → World → Prop) : Prop :=
  CallV Tryd.prog Z 78 #[x0] w fun t7_1 w =>
  run1 Tryd.prog Z (Op.unary UnOp.not t7_1) w fun t8_2 w =>
  CondV t8_2 (
    Q (Value.tuple #[(Value.slice none 0 0), (Value.bool false)]) w) (
    runX Tryd.prog Z (nilChk x0) w fun t10_3 w =>
    run1 Tryd.prog Z (Instr.fieldAt 94 t10_3 1) w fun t11_4 w =>
    run1 Tryd.prog Z (Instr.loadAt 22 t11_4) w fun t12_5 w =>
    run1 Tryd.prog Z (Builtin.len_ #[22] 3 #[t12_5]) w fun t13_6 w =>
    run1 Tryd.prog Z (binOp BinOp.lss 3 t13_6 x1) w fun t15_7 w =>
    CondV t15_7 (
      runX Tryd.prog Z (nilChk x0) w fun t17_8 w =>
      run1 Tryd.prog Z (Instr.fieldAt 94 t17_8 2) w fun t18_9 w =>
      run0 Tryd.prog Z (Instr.storeAt 37 t18_9 (Value.int IntKind.i64 10)) w fun w =>
      Q (Value.tuple #[(Value.slice none 0 0), (Value.bool false)]) w) (
      runX Tryd.prog Z (nilChk x0) w fun t20_10 w =>
      run1 Tryd.prog Z (Instr.fieldAt 94 t20_10 1) w fun t21_11 w =>
      run1 Tryd.prog Z (Instr.loadAt 22 t21_11) w fun t22_12 w =>
      run1 Tryd.prog Z (Instr.sliceAt 22 t22_12 none (some x1) (some x1)) w fun t25_13 w =>
      Q (Value.tuple #[t25_13, (Value.bool true)]) w))
noncomputable def f113.code : Code := match Tryd.f113.body with | some c => c | none => .skip
def f113.an : An := (.sq .leaf (.sq (.sq .leaf (.cn (.sq .leaf .leaf) .leaf)) (.sq (.sq .leaf (.cn (.sq .leaf (.sq .leaf .leaf)) .leaf)) (.sq .leaf .leaf))))
theorem f113.body_eq : Tryd.f113.body = some f113.code := by kernel_rfl
theorem f113.shape (Z : List PanicEntry → World → Prop) (x0 x1 : Value) (w : World) (Q : Value → World → Prop) : vc drawD Tryd.prog 26 Z [78] f113.an f113.code (fnQ Tryd.prog 26 Tryd.f113.results Q) (argEnv [x0, x1]) w = f113.sh Z x0 x1 w Q := by kernel_rfl
theorem f113.enters : ∀ f, f ∈ ([78] : List Nat) → Enters Tryd.prog f := by
  intro f hf
  simp only [List.mem_cons, List.not_mem_nil, or_false] at hf
  rcases hf with rfl
  · exact en78
theorem f113.calls {Z : List PanicEntry → World → Prop} {x0 x1 : Value} {w : World} {Q : Value → World → Prop} (h : f113.sh Z x0 x1 w Q) : CallV Tryd.prog Z 113 #[x0, x1] w Q :=
  calls_of_vcn drawD_sound (Q := Q) (n := 26) (rs := Tryd.f113.results) (an := f113.an) (c := f113.code) (cal := [78]) (args := [x0, x1]) Tryd.func113 (by kernel_rfl) rfl f113.body_eq follows (Nat.le_of_ble_eq_true (by kernel_rfl)) (enters_of_all f113.enters) ((f113.shape Z x0 x1 w Q).mpr h)

/-! ### 114: (*lagoon/pack.Reader).sized -/
def f114.sh (Z : List PanicEntry → World → Prop) (x0 x1 : Value) (w : World) (Q : Value → World → Prop) : Prop :=
  CallV Tryd.prog Z 115 #[x0] w fun t10_1 w =>
  CallV Tryd.prog Z 73 #[x0] w fun t12_2 w =>
  run1 Tryd.prog Z (convert 21 3 t12_2) w fun t13_3 w =>
  CallV Tryd.prog Z 78 #[x0] w fun t15_4 w =>
  run1 Tryd.prog Z (Op.unary UnOp.not t15_4) w fun t16_5 w =>
  CondV t16_5 (
    Q (Value.slice none 0 0) w) (
    run1 Tryd.prog Z (binOp BinOp.lss 3 t13_3 (Value.int IntKind.i64 0)) w fun t18_6 w =>
    guardW (t18_6) false (fun k => k (t13_3) w) (fun t20_7 w =>
    guardW (t18_6) false (fun k => k (x1) w) (fun t21_8 w =>
    guardW (t18_6) false (fun k => run1 Tryd.prog Z (binOp BinOp.gtr 3 t20_7 t21_8) w k) (fun t22_9 w =>
    run1 Tryd.prog Z (pickV t18_6 (Value.bool true) t22_9) w fun t23_10 w =>
    CondV t23_10 (
      CallV Tryd.prog Z 116 #[x0, t10_1, (Value.int IntKind.i64 11)] w fun t26_11 w =>
      Q (Value.slice none 0 0) w) (
      CallV Tryd.prog Z 113 #[x0, t13_3] w fun t30_12 w =>
      run1 Tryd.prog Z (Instr.extract t30_12 0) w fun t31_13 w =>
      run1 Tryd.prog Z (Instr.extract t30_12 1) w fun t32_14 w =>
      run1 Tryd.prog Z (Op.unary UnOp.not t32_14) w fun t34_15 w =>
      CondV t34_15 (
        CallV Tryd.prog Z 116 #[x0, t10_1, (Value.int IntKind.i64 10)] w fun t37_16 w =>
        Q (Value.slice none 0 0) w) (
        runX Tryd.prog Z (nilChk x0) w fun t40_17 w =>
        run1 Tryd.prog Z (Instr.fieldAt 94 t40_17 1) w fun t41_18 w =>
        run1 Tryd.prog Z (Instr.loadAt 22 t41_18) w fun t42_19 w =>
        run1 Tryd.prog Z (Instr.sliceAt 22 t42_19 (some t13_3) none none) w fun t44_20 w =>
        runX Tryd.prog Z (nilChk x0) w fun t45_21 w =>
        run1 Tryd.prog Z (Instr.fieldAt 94 t45_21 1) w fun t46_22 w =>
        run0 Tryd.prog Z (Instr.storeAt 22 t46_22 t44_20) w fun w =>
        Q t31_13 w))) w) w) w)
noncomputable def f114.code : Code := match Tryd.f114.body with | some c => c | none => .skip
def f114.an : An := (.sq .leaf (.sq .leaf (.sq .leaf (.sq (.sq .leaf (.cn (.sq .leaf .leaf) .leaf)) (.sq (.sq .leaf (.cn (.sq .leaf (.sq .leaf .leaf)) .leaf)) (.sq .leaf (.sq (.sq .leaf (.cn (.sq .leaf (.sq .leaf .leaf)) .leaf)) (.sq .leaf (.sq .leaf .leaf)))))))))
theorem f114.body_eq : Tryd.f114.body = some f114.code := by kernel_rfl
theorem f114.shape (Z : List PanicEntry → World → Prop) (x0 x1 : Value) (w : World) (Q : Value → World → Prop) : vc drawD Tryd.prog 48 Z [115, 73, 78, 116, 113] f114.an f114.code (fnQ Tryd.prog 48 Tryd.f114.results Q) (argEnv [x0, x1]) w = f114.sh Z x0 x1 w Q := by kernel_rfl
theorem f114.enters : ∀ f, f ∈ ([115, 73, 78, 116, 113] : List Nat) → Enters Tryd.prog f := by
  intro f hf
  simp only [List.mem_cons, List.not_mem_nil, or_false] at hf
  rcases hf with rfl | rfl | rfl | rfl | rfl
  · exact en115
  · exact en73
  · exact en78
  · exact en116
  · exact en113
theorem f114.calls {Z : List PanicEntry → World → Prop} {x0 x1 : Value} {w : World} {Q : Value → World → Prop} (h : f114.sh Z x0 x1 w Q) : CallV Tryd.prog Z 114 #[x0, x1] w Q :=
  calls_of_vcn drawD_sound (Q := Q) (n := 48) (rs := Tryd.f114.results) (an := f114.an) (c := f114.code) (cal := [115, 73, 78, 116, 113]) (args := [x0, x1]) Tryd.func114 (by kernel_rfl) rfl f114.body_eq follows (Nat.le_of_ble_eq_true (by kernel_rfl)) (enters_of_all f114.enters) ((f114.shape Z x0 x1 w Q).mpr h)

/-! ### 115: (*lagoon/pack.Reader).mark -/
def f115.sh (Z : List PanicEntry → World → Prop) (x0 : Value) (w : World) (Q : Value → World → Prop) : Prop :=
  CallV Tryd.prog Z 117 #[x0] w fun t4_1 w =>
  CondV t4_1 (
    Q (Value.slice none 0 0) w) (
    runX Tryd.prog Z (nilChk x0) w fun t6_2 w =>
    run1 Tryd.prog Z (Instr.fieldAt 94 t6_2 1) w fun t7_3 w =>
    run1 Tryd.prog Z (Instr.loadAt 22 t7_3) w fun t8_4 w =>
    Q t8_4 w)
noncomputable def f115.code : Code := match Tryd.f115.body with | some c => c | none => .skip
def f115.an : An := (.sq .leaf (.sq (.sq .leaf (.cn (.sq .leaf .leaf) .leaf)) (.sq .leaf .leaf)))
theorem f115.body_eq : Tryd.f115.body = some f115.code := by kernel_rfl
theorem f115.shape (Z : List PanicEntry → World → Prop) (x0 : Value) (w : World) (Q : Value → World → Prop) : vc drawD Tryd.prog 9 Z [117] f115.an f115.code (fnQ Tryd.prog 9 Tryd.f115.results Q) (argEnv [x0]) w = f115.sh Z x0 w Q := by kernel_rfl
theorem f115.enters : ∀ f, f ∈ ([117] : List Nat) → Enters Tryd.prog f := by
  intro f hf
  simp only [List.mem_cons, List.not_mem_nil, or_false] at hf
  rcases hf with rfl
  · exact en117
theorem f115.calls {Z : List PanicEntry → World → Prop} {x0 : Value} {w : World} {Q : Value → World → Prop} (h : f115.sh Z x0 w Q) : CallV Tryd.prog Z 115 #[x0] w Q :=
  calls_of_vcn drawD_sound (Q := Q) (n := 9) (rs := Tryd.f115.results) (an := f115.an) (c := f115.code) (cal := [117]) (args := [x0]) Tryd.func115 (by kernel_rfl) rfl f115.body_eq follows (Nat.le_of_ble_eq_true (by kernel_rfl)) (enters_of_all f115.enters) ((f115.shape Z x0 w Q).mpr h)

/-! ### 116: (*lagoon/pack.Reader).back -/
def f116.sh (Z : List PanicEntry → World → Prop) (x0 x1 x2 : Value) (w : World) (Q : Value → World → Prop) : Prop :=
  runX Tryd.prog Z (nilChk x0) w fun t10_1 w =>
  run1 Tryd.prog Z (Instr.fieldAt 94 t10_1 1) w fun t11_2 w =>
  run0 Tryd.prog Z (Instr.storeAt 22 t11_2 x1) w fun w =>
  runX Tryd.prog Z (nilChk x0) w fun t12_3 w =>
  run1 Tryd.prog Z (Instr.fieldAt 94 t12_3 2) w fun t13_4 w =>
  run0 Tryd.prog Z (Instr.storeAt 37 t13_4 x2) w fun w =>
  Q (Value.tuple #[]) w
noncomputable def f116.code : Code := match Tryd.f116.body with | some c => c | none => .skip
def f116.an : An := .leaf
theorem f116.body_eq : Tryd.f116.body = some f116.code := by kernel_rfl
theorem f116.shape (Z : List PanicEntry → World → Prop) (x0 x1 x2 : Value) (w : World) (Q : Value → World → Prop) : vc drawD Tryd.prog 14 Z [] f116.an f116.code (fnQ Tryd.prog 14 Tryd.f116.results Q) (argEnv [x0, x1, x2]) w = f116.sh Z x0 x1 x2 w Q := by kernel_rfl
theorem f116.enters : ∀ f, f ∈ ([] : List Nat) → Enters Tryd.prog f := by
  intro f hf
  cases hf
theorem f116.calls {Z : List PanicEntry → World → Prop} {x0 x1 x2 : Value} {w : World} {Q : Value → World → Prop} (h : f116.sh Z x0 x1 x2 w Q) : CallV Tryd.prog Z 116 #[x0, x1, x2] w Q :=
  calls_of_vcn drawD_sound (Q := Q) (n := 14) (rs := Tryd.f116.results) (an := f116.an) (c := f116.code) (cal := []) (args := [x0, x1, x2]) Tryd.func116 (by kernel_rfl) rfl f116.body_eq follows (Nat.le_of_ble_eq_true (by kernel_rfl)) (enters_of_all f116.enters) ((f116.shape Z x0 x1 x2 w Q).mpr h)

/-! ### 117: (*lagoon/pack.Reader).none -/
def f117.sh (Z : List PanicEntry → World → Prop) (x0 : Value) (w : World) (Q : Value → World → Prop) : Prop :=
  run1 Tryd.prog Z (eqOp BinOp.eql 65 false true x0 (Value.pointer none)) w fun t4_1 w =>
  guardW (t4_1) false (fun k => k (x0) w) (fun t6_2 w =>
  guardW (t4_1) false (fun k => runX Tryd.prog Z (nilChk t6_2) w k) (fun t7_3 w =>
  guardW (t4_1) false (fun k => run1 Tryd.prog Z (Instr.fieldAt 94 t7_3 0) w k) (fun t8_4 w =>
  guardW (t4_1) false (fun k => run1 Tryd.prog Z (Instr.loadAt 4 t8_4) w k) (fun t9_5 w =>
  guardW (t4_1) false (fun k => run1 Tryd.prog Z (Op.unary UnOp.not t9_5) w k) (fun t10_6 w =>
  run1 Tryd.prog Z (pickV t4_1 (Value.bool true) t10_6) w fun t11_7 w =>
  Q t11_7 w) w) w) w) w) w
noncomputable def f117.code : Code := match Tryd.f117.body with | some c => c | none => .skip
def f117.an : An := (.sq .leaf (.sq .leaf .leaf))
theorem f117.body_eq : Tryd.f117.body = some f117.code := by kernel_rfl
theorem f117.shape (Z : List PanicEntry → World → Prop) (x0 : Value) (w : World) (Q : Value → World → Prop) : vc drawD Tryd.prog 12 Z [] f117.an f117.code (fnQ Tryd.prog 12 Tryd.f117.results Q) (argEnv [x0]) w = f117.sh Z x0 w Q := by kernel_rfl
theorem f117.enters : ∀ f, f ∈ ([] : List Nat) → Enters Tryd.prog f := by
  intro f hf
  cases hf
theorem f117.calls {Z : List PanicEntry → World → Prop} {x0 : Value} {w : World} {Q : Value → World → Prop} (h : f117.sh Z x0 w Q) : CallV Tryd.prog Z 117 #[x0] w Q :=
  calls_of_vcn drawD_sound (Q := Q) (n := 12) (rs := Tryd.f117.results) (an := f117.an) (c := f117.code) (cal := []) (args := [x0]) Tryd.func117 (by kernel_rfl) rfl f117.body_eq follows (Nat.le_of_ble_eq_true (by kernel_rfl)) (enters_of_all f117.enters) ((f117.shape Z x0 w Q).mpr h)

/-! ### 118: (*lagoon/pack.Writer).Raw -/
def f118.sh (Z : List PanicEntry → World → Prop) (x0 x1 : Value) (w : World) (Q : Value → World → Prop) : Prop :=
  run1 Tryd.prog Z (eqOp BinOp.neq 74 false true x0 (Value.pointer none)) w fun t5_1 w =>
  CondV t5_1 (
    runX Tryd.prog Z (nilChk x0) w fun t8_2 w =>
    run1 Tryd.prog Z (Instr.fieldAt 76 t8_2 0) w fun t9_3 w =>
    run1 Tryd.prog Z (Instr.loadAt 22 t9_3) w fun t10_4 w =>
    run1 Tryd.prog Z (Builtin.append_ #[22, 22] 22 #[t10_4, x1]) w fun t12_5 w =>
    runX Tryd.prog Z (nilChk x0) w fun t13_6 w =>
    run1 Tryd.prog Z (Instr.fieldAt 76 t13_6 0) w fun t14_7 w =>
    run0 Tryd.prog Z (Instr.storeAt 22 t14_7 t12_5) w fun w =>
    Q (Value.tuple #[]) w) (
    Q (Value.tuple #[]) w)
noncomputable def f118.code : Code := match Tryd.f118.body with | some c => c | none => .skip
def f118.an : An := (.sq .leaf (.cn .leaf .leaf))
theorem f118.body_eq : Tryd.f118.body = some f118.code := by kernel_rfl
theorem f118.shape (Z : List PanicEntry → World → Prop) (x0 x1 : Value) (w : World) (Q : Value → World → Prop) : vc drawD Tryd.prog 15 Z [] f118.an f118.code (fnQ Tryd.prog 15 Tryd.f118.results Q) (argEnv [x0, x1]) w = f118.sh Z x0 x1 w Q := by kernel_rfl
theorem f118.enters : ∀ f, f ∈ ([] : List Nat) → Enters Tryd.prog f := by
  intro f hf
  cases hf
theorem f118.calls {Z : List PanicEntry → World → Prop} {x0 x1 : Value} {w : World} {Q : Value → World → Prop} (h : f118.sh Z x0 x1 w Q) : CallV Tryd.prog Z 118 #[x0, x1] w Q :=
  calls_of_vcn drawD_sound (Q := Q) (n := 15) (rs := Tryd.f118.results) (an := f118.an) (c := f118.code) (cal := []) (args := [x0, x1]) Tryd.func118 (by kernel_rfl) rfl f118.body_eq follows (Nat.le_of_ble_eq_true (by kernel_rfl)) (enters_of_all f118.enters) ((f118.shape Z x0 x1 w Q).mpr h)

/-! ### 119: slices.IndexFunc[[]lagoon/api.Id,lagoon/api.Id] -/
def f119.sh (Z : List PanicEntry → World → Prop) (x0 x1 : Value) (w : World) (Q : Value → World → Prop) : Prop :=
  run1 Tryd.prog Z (Builtin.len_ #[31] 3 #[x0]) w fun t7_1 w =>
  ∃ J_2 : Nat → Value → World → Prop, (∃ m, J_2 m (Value.int IntKind.i64 0) w) ∧
    ∀ m_2, ∀ t8_3 : Value, ∀ w : World, J_2 m_2 t8_3 w → Env →
      run1 Tryd.prog Z (binOp BinOp.lss 3 t8_3 t7_1) w fun t9_4 w =>
      CondV t9_4 (
        run1 Tryd.prog Z (Instr.indexAt 31 x0 t8_3) w fun t14_5 w =>
        run1 Tryd.prog Z (Instr.loadAt 103 t14_5) w fun t15_6 w =>
        runX Tryd.prog Z (callVal x1 #[t15_6]) w fun t16_7 w =>
        CondV t16_7 (
          Q t8_3 w) (
          run1 Tryd.prog Z (binOp BinOp.add 3 t8_3 (Value.int IntKind.i64 1)) w fun t18_8 w =>
          ∃ n_2, n_2 < m_2 ∧ J_2 n_2 t18_8 w)) (
        Q (Value.int IntKind.i64 (-1)) w)
noncomputable def f119.code : Code := match Tryd.f119.body with | some c => c | none => .skip
def f119.an : An := (.sq .leaf (.sq (.sq .leaf (.bl (.lp [8] [4, 5, 8, 9, 10, 11, 12, 13, 14, 15, 16, 17, 18] (.sq .leaf (.sq (.cn .leaf .leaf) (.sq (.bl (.sq .leaf (.sq .leaf (.cn (.sq .leaf .leaf) .leaf)))) .leaf)))))) (.sq .leaf .leaf)))
theorem f119.body_eq : Tryd.f119.body = some f119.code := by kernel_rfl
theorem f119.shape (Z : List PanicEntry → World → Prop) (x0 x1 : Value) (w : World) (Q : Value → World → Prop) : vc drawD Tryd.prog 19 Z [] f119.an f119.code (fnQ Tryd.prog 19 Tryd.f119.results Q) (argEnv [x0, x1]) w = f119.sh Z x0 x1 w Q := by kernel_rfl
theorem f119.enters : ∀ f, f ∈ ([] : List Nat) → Enters Tryd.prog f := by
  intro f hf
  cases hf
theorem f119.calls {Z : List PanicEntry → World → Prop} {x0 x1 : Value} {w : World} {Q : Value → World → Prop} (h : f119.sh Z x0 x1 w Q) : CallV Tryd.prog Z 119 #[x0, x1] w Q :=
  calls_of_vcn drawD_sound (Q := Q) (n := 19) (rs := Tryd.f119.results) (an := f119.an) (c := f119.code) (cal := []) (args := [x0, x1]) Tryd.func119 (by kernel_rfl) rfl f119.body_eq follows (Nat.le_of_ble_eq_true (by kernel_rfl)) (enters_of_all f119.enters) ((f119.shape Z x0 x1 w Q).mpr h)

end Go.Proofs.YtfjolpjlajjigaaDoor
