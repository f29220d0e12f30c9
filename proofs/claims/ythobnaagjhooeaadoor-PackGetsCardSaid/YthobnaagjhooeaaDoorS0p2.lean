import Derived.Test.YthobnaagjhooeaaDoorShBase
set_option linter.unusedVariables false
namespace Go.Proofs.YthobnaagjhooeaaDoor
open Go.Sh
/-! ### 86: internal/strconv.formatBase10 -/
def f86.sh (Z : List PanicEntry → World → Prop) (x0 x1 : Value) (w : World) (Q : Value → World → Prop) : Prop :=
  run1 Tryd.prog Z (Builtin.len_ #[22] 3 #[x0]) w fun t18_1 w =>
  ∃ J_2 : Nat → Value → Value → World → Prop, (∃ m, J_2 m x1 t18_1 w) ∧
    ∀ m_2, ∀ t1_3 : Value, ∀ t4_4 : Value, ∀ w : World, J_2 m_2 t1_3 t4_4 w → Env →
      run1 Tryd.prog Z (binOp BinOp.geq 3 t4_4 (Value.int IntKind.i64 8)) w fun t20_5 w =>
      CondV t20_5 (
        run1 Tryd.prog Z (binOp BinOp.rem 102 t1_3 (Value.int IntKind.u64 100000000)) w fun t22_6 w =>
        run1 Tryd.prog Z (convert 102 71 t22_6) w fun t23_7 w =>
        run1 Tryd.prog Z (binOp BinOp.quo 102 t1_3 (Value.int IntKind.u64 100000000)) w fun t25_8 w =>
        run1 Tryd.prog Z (binOp BinOp.quo 71 t23_7 (Value.int IntKind.u32 10000)) w fun t27_9 w =>
        run1 Tryd.prog Z (binOp BinOp.rem 71 t23_7 (Value.int IntKind.u32 10000)) w fun t29_10 w =>
        run1 Tryd.prog Z (binOp BinOp.quo 71 t29_10 (Value.int IntKind.u32 100)) w fun t31_11 w =>
        run1 Tryd.prog Z (binOp BinOp.mul 71 t31_11 (Value.int IntKind.u32 2)) w fun t32_12 w =>
        run1 Tryd.prog Z (binOp BinOp.rem 71 t29_10 (Value.int IntKind.u32 100)) w fun t34_13 w =>
        run1 Tryd.prog Z (binOp BinOp.mul 71 t34_13 (Value.int IntKind.u32 2)) w fun t35_14 w =>
        run1 Tryd.prog Z (binOp BinOp.quo 71 t27_9 (Value.int IntKind.u32 100)) w fun t37_15 w =>
        run1 Tryd.prog Z (binOp BinOp.mul 71 t37_15 (Value.int IntKind.u32 2)) w fun t38_16 w =>
        run1 Tryd.prog Z (binOp BinOp.rem 71 t27_9 (Value.int IntKind.u32 100)) w fun t40_17 w =>
        run1 Tryd.prog Z (binOp BinOp.mul 71 t40_17 (Value.int IntKind.u32 2)) w fun t41_18 w =>
        Drawn w fun w =>
        Pure1 Tryd.prog (binOp BinOp.sub 3 t4_4 (Value.int IntKind.i64 1)) fun t44_19 =>
        Pure1 Tryd.prog (binOp BinOp.sub 3 t4_4 (Value.int IntKind.i64 2)) fun t47_20 =>
        Pure1 Tryd.prog (binOp BinOp.add 71 t35_14 (Value.int IntKind.u32 1)) fun t49_21 =>
        Pure1 Tryd.prog (Instr.index 9 (Value.string { data := #[48, 48, 48, 49, 48, 50, 48, 51, 48, 52, 48, 53, 48, 54, 48, 55, 48, 56, 48, 57, 49, 48, 49, 49, 49, 50, 49, 51, 49, 52, 49, 53, 49, 54, 49, 55, 49, 56, 49, 57, 50, 48, 50, 49, 50, 50, 50, 51, 50, 52, 50, 53, 50, 54, 50, 55, 50, 56, 50, 57, 51, 48, 51, 49, 51, 50, 51, 51, 51, 52, 51, 53, 51, 54, 51, 55, 51, 56, 51, 57, 52, 48, 52, 49, 52, 50, 52, 51, 52, 52, 52, 53, 52, 54, 52, 55, 52, 56, 52, 57, 53, 48, 53, 49, 53, 50, 53, 51, 53, 52, 53, 53, 53, 54, 53, 55, 53, 56, 53, 57, 54, 48, 54, 49, 54, 50, 54, 51, 54, 52, 54, 53, 54, 54, 54, 55, 54, 56, 54, 57, 55, 48, 55, 49, 55, 50, 55, 51, 55, 52, 55, 53, 55, 54, 55, 55, 55, 56, 55, 57, 56, 48, 56, 49, 56, 50, 56, 51, 56, 52, 56, 53, 56, 54, 56, 55, 56, 56, 56, 57, 57, 48, 57, 49, 57, 50, 57, 51, 57, 52, 57, 53, 57, 54, 57, 55, 57, 56, 57, 57] }) t49_21) fun t50_22 =>
        Pure1 Tryd.prog (Instr.index 9 (Value.string { data := #[48, 48, 48, 49, 48, 50, 48, 51, 48, 52, 48, 53, 48, 54, 48, 55, 48, 56, 48, 57, 49, 48, 49, 49, 49, 50, 49, 51, 49, 52, 49, 53, 49, 54, 49, 55, 49, 56, 49, 57, 50, 48, 50, 49, 50, 50, 50, 51, 50, 52, 50, 53, 50, 54, 50, 55, 50, 56, 50, 57, 51, 48, 51, 49, 51, 50, 51, 51, 51, 52, 51, 53, 51, 54, 51, 55, 51, 56, 51, 57, 52, 48, 52, 49, 52, 50, 52, 51, 52, 52, 52, 53, 52, 54, 52, 55, 52, 56, 52, 57, 53, 48, 53, 49, 53, 50, 53, 51, 53, 52, 53, 53, 53, 54, 53, 55, 53, 56, 53, 57, 54, 48, 54, 49, 54, 50, 54, 51, 54, 52, 54, 53, 54, 54, 54, 55, 54, 56, 54, 57, 55, 48, 55, 49, 55, 50, 55, 51, 55, 52, 55, 53, 55, 54, 55, 55, 55, 56, 55, 57, 56, 48, 56, 49, 56, 50, 56, 51, 56, 52, 56, 53, 56, 54, 56, 55, 56, 56, 56, 57, 57, 48, 57, 49, 57, 50, 57, 51, 57, 52, 57, 53, 57, 54, 57, 55, 57, 56, 57, 57] }) t35_14) fun t52_23 =>
        Pure1 Tryd.prog (Instr.indexAt 22 x0 t44_19) fun t53_24 =>
        run0 Tryd.prog Z (Instr.storeAt 5 t53_24 t50_22) w fun w =>
        Pure1 Tryd.prog (Instr.indexAt 22 x0 t47_20) fun t54_25 =>
        run0 Tryd.prog Z (Instr.storeAt 5 t54_25 t52_23) w fun w =>
        Drawn w fun w =>
        Pure1 Tryd.prog (binOp BinOp.sub 3 t4_4 (Value.int IntKind.i64 3)) fun t57_26 =>
        Pure1 Tryd.prog (binOp BinOp.sub 3 t4_4 (Value.int IntKind.i64 4)) fun t60_27 =>
        Pure1 Tryd.prog (binOp BinOp.add 71 t32_12 (Value.int IntKind.u32 1)) fun t62_28 =>
        Pure1 Tryd.prog (Instr.index 9 (Value.string { data := #[48, 48, 48, 49, 48, 50, 48, 51, 48, 52, 48, 53, 48, 54, 48, 55, 48, 56, 48, 57, 49, 48, 49, 49, 49, 50, 49, 51, 49, 52, 49, 53, 49, 54, 49, 55, 49, 56, 49, 57, 50, 48, 50, 49, 50, 50, 50, 51, 50, 52, 50, 53, 50, 54, 50, 55, 50, 56, 50, 57, 51, 48, 51, 49, 51, 50, 51, 51, 51, 52, 51, 53, 51, 54, 51, 55, 51, 56, 51, 57, 52, 48, 52, 49, 52, 50, 52, 51, 52, 52, 52, 53, 52, 54, 52, 55, 52, 56, 52, 57, 53, 48, 53, 49, 53, 50, 53, 51, 53, 52, 53, 53, 53, 54, 53, 55, 53, 56, 53, 57, 54, 48, 54, 49, 54, 50, 54, 51, 54, 52, 54, 53, 54, 54, 54, 55, 54, 56, 54, 57, 55, 48, 55, 49, 55, 50, 55, 51, 55, 52, 55, 53, 55, 54, 55, 55, 55, 56, 55, 57, 56, 48, 56, 49, 56, 50, 56, 51, 56, 52, 56, 53, 56, 54, 56, 55, 56, 56, 56, 57, 57, 48, 57, 49, 57, 50, 57, 51, 57, 52, 57, 53, 57, 54, 57, 55, 57, 56, 57, 57] }) t62_28) fun t63_29 =>
        Pure1 Tryd.prog (Instr.index 9 (Value.string { data := #[48, 48, 48, 49, 48, 50, 48, 51, 48, 52, 48, 53, 48, 54, 48, 55, 48, 56, 48, 57, 49, 48, 49, 49, 49, 50, 49, 51, 49, 52, 49, 53, 49, 54, 49, 55, 49, 56, 49, 57, 50, 48, 50, 49, 50, 50, 50, 51, 50, 52, 50, 53, 50, 54, 50, 55, 50, 56, 50, 57, 51, 48, 51, 49, 51, 50, 51, 51, 51, 52, 51, 53, 51, 54, 51, 55, 51, 56, 51, 57, 52, 48, 52, 49, 52, 50, 52, 51, 52, 52, 52, 53, 52, 54, 52, 55, 52, 56, 52, 57, 53, 48, 53, 49, 53, 50, 53, 51, 53, 52, 53, 53, 53, 54, 53, 55, 53, 56, 53, 57, 54, 48, 54, 49, 54, 50, 54, 51, 54, 52, 54, 53, 54, 54, 54, 55, 54, 56, 54, 57, 55, 48, 55, 49, 55, 50, 55, 51, 55, 52, 55, 53, 55, 54, 55, 55, 55, 56, 55, 57, 56, 48, 56, 49, 56, 50, 56, 51, 56, 52, 56, 53, 56, 54, 56, 55, 56, 56, 56, 57, 57, 48, 57, 49, 57, 50, 57, 51, 57, 52, 57, 53, 57, 54, 57, 55, 57, 56, 57, 57] }) t32_12) fun t65_30 =>
        Pure1 Tryd.prog (Instr.indexAt 22 x0 t57_26) fun t66_31 =>
        run0 Tryd.prog Z (Instr.storeAt 5 t66_31 t63_29) w fun w =>
        Pure1 Tryd.prog (Instr.indexAt 22 x0 t60_27) fun t67_32 =>
        run0 Tryd.prog Z (Instr.storeAt 5 t67_32 t65_30) w fun w =>
        Drawn w fun w =>
        Pure1 Tryd.prog (binOp BinOp.sub 3 t4_4 (Value.int IntKind.i64 5)) fun t70_33 =>
        Pure1 Tryd.prog (binOp BinOp.sub 3 t4_4 (Value.int IntKind.i64 6)) fun t73_34 =>
        Pure1 Tryd.prog (binOp BinOp.add 71 t41_18 (Value.int IntKind.u32 1)) fun t75_35 =>
        Pure1 Tryd.prog (Instr.index 9 (Value.string { data := #[48, 48, 48, 49, 48, 50, 48, 51, 48, 52, 48, 53, 48, 54, 48, 55, 48, 56, 48, 57, 49, 48, 49, 49, 49, 50, 49, 51, 49, 52, 49, 53, 49, 54, 49, 55, 49, 56, 49, 57, 50, 48, 50, 49, 50, 50, 50, 51, 50, 52, 50, 53, 50, 54, 50, 55, 50, 56, 50, 57, 51, 48, 51, 49, 51, 50, 51, 51, 51, 52, 51, 53, 51, 54, 51, 55, 51, 56, 51, 57, 52, 48, 52, 49, 52, 50, 52, 51, 52, 52, 52, 53, 52, 54, 52, 55, 52, 56, 52, 57, 53, 48, 53, 49, 53, 50, 53, 51, 53, 52, 53, 53, 53, 54, 53, 55, 53, 56, 53, 57, 54, 48, 54, 49, 54, 50, 54, 51, 54, 52, 54, 53, 54, 54, 54, 55, 54, 56, 54, 57, 55, 48, 55, 49, 55, 50, 55, 51, 55, 52, 55, 53, 55, 54, 55, 55, 55, 56, 55, 57, 56, 48, 56, 49, 56, 50, 56, 51, 56, 52, 56, 53, 56, 54, 56, 55, 56, 56, 56, 57, 57, 48, 57, 49, 57, 50, 57, 51, 57, 52, 57, 53, 57, 54, 57, 55, 57, 56, 57, 57] }) t75_35) fun t76_36 =>
        Pure1 Tryd.prog (Instr.index 9 (Value.string { data := #[48, 48, 48, 49, 48, 50, 48, 51, 48, 52, 48, 53, 48, 54, 48, 55, 48, 56, 48, 57, 49, 48, 49, 49, 49, 50, 49, 51, 49, 52, 49, 53, 49, 54, 49, 55, 49, 56, 49, 57, 50, 48, 50, 49, 50, 50, 50, 51, 50, 52, 50, 53, 50, 54, 50, 55, 50, 56, 50, 57, 51, 48, 51, 49, 51, 50, 51, 51, 51, 52, 51, 53, 51, 54, 51, 55, 51, 56, 51, 57, 52, 48, 52, 49, 52, 50, 52, 51, 52, 52, 52, 53, 52, 54, 52, 55, 52, 56, 52, 57, 53, 48, 53, 49, 53, 50, 53, 51, 53, 52, 53, 53, 53, 54, 53, 55, 53, 56, 53, 57, 54, 48, 54, 49, 54, 50, 54, 51, 54, 52, 54, 53, 54, 54, 54, 55, 54, 56, 54, 57, 55, 48, 55, 49, 55, 50, 55, 51, 55, 52, 55, 53, 55, 54, 55, 55, 55, 56, 55, 57, 56, 48, 56, 49, 56, 50, 56, 51, 56, 52, 56, 53, 56, 54, 56, 55, 56, 56, 56, 57, 57, 48, 57, 49, 57, 50, 57, 51, 57, 52, 57, 53, 57, 54, 57, 55, 57, 56, 57, 57] }) t41_18) fun t78_37 =>
        Pure1 Tryd.prog (Instr.indexAt 22 x0 t70_33) fun t79_38 =>
        run0 Tryd.prog Z (Instr.storeAt 5 t79_38 t76_36) w fun w =>
        Pure1 Tryd.prog (Instr.indexAt 22 x0 t73_34) fun t80_39 =>
        run0 Tryd.prog Z (Instr.storeAt 5 t80_39 t78_37) w fun w =>
        Drawn w fun w =>
        Pure1 Tryd.prog (binOp BinOp.sub 3 t4_4 (Value.int IntKind.i64 7)) fun t83_40 =>
        Pure1 Tryd.prog (binOp BinOp.sub 3 t4_4 (Value.int IntKind.i64 8)) fun t86_41 =>
        Pure1 Tryd.prog (binOp BinOp.add 71 t38_16 (Value.int IntKind.u32 1)) fun t88_42 =>
        Pure1 Tryd.prog (Instr.index 9 (Value.string { data := #[48, 48, 48, 49, 48, 50, 48, 51, 48, 52, 48, 53, 48, 54, 48, 55, 48, 56, 48, 57, 49, 48, 49, 49, 49, 50, 49, 51, 49, 52, 49, 53, 49, 54, 49, 55, 49, 56, 49, 57, 50, 48, 50, 49, 50, 50, 50, 51, 50, 52, 50, 53, 50, 54, 50, 55, 50, 56, 50, 57, 51, 48, 51, 49, 51, 50, 51, 51, 51, 52, 51, 53, 51, 54, 51, 55, 51, 56, 51, 57, 52, 48, 52, 49, 52, 50, 52, 51, 52, 52, 52, 53, 52, 54, 52, 55, 52, 56, 52, 57, 53, 48, 53, 49, 53, 50, 53, 51, 53, 52, 53, 53, 53, 54, 53, 55, 53, 56, 53, 57, 54, 48, 54, 49, 54, 50, 54, 51, 54, 52, 54, 53, 54, 54, 54, 55, 54, 56, 54, 57, 55, 48, 55, 49, 55, 50, 55, 51, 55, 52, 55, 53, 55, 54, 55, 55, 55, 56, 55, 57, 56, 48, 56, 49, 56, 50, 56, 51, 56, 52, 56, 53, 56, 54, 56, 55, 56, 56, 56, 57, 57, 48, 57, 49, 57, 50, 57, 51, 57, 52, 57, 53, 57, 54, 57, 55, 57, 56, 57, 57] }) t88_42) fun t89_43 =>
        Pure1 Tryd.prog (Instr.index 9 (Value.string { data := #[48, 48, 48, 49, 48, 50, 48, 51, 48, 52, 48, 53, 48, 54, 48, 55, 48, 56, 48, 57, 49, 48, 49, 49, 49, 50, 49, 51, 49, 52, 49, 53, 49, 54, 49, 55, 49, 56, 49, 57, 50, 48, 50, 49, 50, 50, 50, 51, 50, 52, 50, 53, 50, 54, 50, 55, 50, 56, 50, 57, 51, 48, 51, 49, 51, 50, 51, 51, 51, 52, 51, 53, 51, 54, 51, 55, 51, 56, 51, 57, 52, 48, 52, 49, 52, 50, 52, 51, 52, 52, 52, 53, 52, 54, 52, 55, 52, 56, 52, 57, 53, 48, 53, 49, 53, 50, 53, 51, 53, 52, 53, 53, 53, 54, 53, 55, 53, 56, 53, 57, 54, 48, 54, 49, 54, 50, 54, 51, 54, 52, 54, 53, 54, 54, 54, 55, 54, 56, 54, 57, 55, 48, 55, 49, 55, 50, 55, 51, 55, 52, 55, 53, 55, 54, 55, 55, 55, 56, 55, 57, 56, 48, 56, 49, 56, 50, 56, 51, 56, 52, 56, 53, 56, 54, 56, 55, 56, 56, 56, 57, 57, 48, 57, 49, 57, 50, 57, 51, 57, 52, 57, 53, 57, 54, 57, 55, 57, 56, 57, 57] }) t38_16) fun t91_44 =>
        Pure1 Tryd.prog (Instr.indexAt 22 x0 t83_40) fun t92_45 =>
        run0 Tryd.prog Z (Instr.storeAt 5 t92_45 t89_43) w fun w =>
        Pure1 Tryd.prog (Instr.indexAt 22 x0 t86_41) fun t93_46 =>
        run0 Tryd.prog Z (Instr.storeAt 5 t93_46 t91_44) w fun w =>
        run1 Tryd.prog Z (binOp BinOp.sub 3 t4_4 (Value.int IntKind.i64 8)) w fun t95_47 w =>
        ∃ n_2, n_2 < m_2 ∧ J_2 n_2 t25_8 t95_47 w) (
        run1 Tryd.prog Z (convert 102 71 t1_3) w fun t97_48 w =>
        ∀ j_49 : Value → Value → World → Prop, (∀ t4_50 : Value, ∀ t12_51 : Value, ∀ w : World, (Env →
            ∀ j_52 : Value → Value → World → Prop, (∀ t4_53 : Value, ∀ t12_54 : Value, ∀ w : World, (Env →
                run1 Tryd.prog Z (binOp BinOp.gtr 3 t4_53 (Value.int IntKind.i64 0)) w fun t161_55 w =>
                CondV t161_55 (
                  run1 Tryd.prog Z (binOp BinOp.add 71 (Value.int IntKind.u32 48) t12_54) w fun t164_56 w =>
                  run1 Tryd.prog Z (convert 71 5 t164_56) w fun t165_57 w =>
                  run1 Tryd.prog Z (Instr.indexAt 22 x0 (Value.int IntKind.i64 0)) w fun t166_58 w =>
                  run0 Tryd.prog Z (Instr.storeAt 5 t166_58 t165_57) w fun w =>
                  Q (Value.tuple #[]) w) (
                  Q (Value.tuple #[]) w)) →
                j_52 t4_53 t12_54 w) →
            run1 Tryd.prog Z (binOp BinOp.geq 3 t4_50 (Value.int IntKind.i64 2)) w fun t139_59 w =>
            CondV t139_59 (
              run1 Tryd.prog Z (binOp BinOp.rem 71 t12_51 (Value.int IntKind.u32 100)) w fun t141_60 w =>
              run1 Tryd.prog Z (binOp BinOp.mul 71 t141_60 (Value.int IntKind.u32 2)) w fun t142_61 w =>
              run1 Tryd.prog Z (binOp BinOp.quo 71 t12_51 (Value.int IntKind.u32 100)) w fun t144_62 w =>
              Drawn w fun w =>
              Pure1 Tryd.prog (binOp BinOp.sub 3 t4_50 (Value.int IntKind.i64 1)) fun t147_63 =>
              Pure1 Tryd.prog (binOp BinOp.sub 3 t4_50 (Value.int IntKind.i64 2)) fun t150_64 =>
              Pure1 Tryd.prog (binOp BinOp.add 71 t142_61 (Value.int IntKind.u32 1)) fun t152_65 =>
              Pure1 Tryd.prog (Instr.index 9 (Value.string { data := #[48, 48, 48, 49, 48, 50, 48, 51, 48, 52, 48, 53, 48, 54, 48, 55, 48, 56, 48, 57, 49, 48, 49, 49, 49, 50, 49, 51, 49, 52, 49, 53, 49, 54, 49, 55, 49, 56, 49, 57, 50, 48, 50, 49, 50, 50, 50, 51, 50, 52, 50, 53, 50, 54, 50, 55, 50, 56, 50, 57, 51, 48, 51, 49, 51, 50, 51, 51, 51, 52, 51, 53, 51, 54, 51, 55, 51, 56, 51, 57, 52, 48, 52, 49, 52, 50, 52, 51, 52, 52, 52, 53, 52, 54, 52, 55, 52, 56, 52, 57, 53, 48, 53, 49, 53, 50, 53, 51, 53, 52, 53, 53, 53, 54, 53, 55, 53, 56, 53, 57, 54, 48, 54, 49, 54, 50, 54, 51, 54, 52, 54, 53, 54, 54, 54, 55, 54, 56, 54, 57, 55, 48, 55, 49, 55, 50, 55, 51, 55, 52, 55, 53, 55, 54, 55, 55, 55, 56, 55, 57, 56, 48, 56, 49, 56, 50, 56, 51, 56, 52, 56, 53, 56, 54, 56, 55, 56, 56, 56, 57, 57, 48, 57, 49, 57, 50, 57, 51, 57, 52, 57, 53, 57, 54, 57, 55, 57, 56, 57, 57] }) t152_65) fun t153_66 =>
              Pure1 Tryd.prog (Instr.index 9 (Value.string { data := #[48, 48, 48, 49, 48, 50, 48, 51, 48, 52, 48, 53, 48, 54, 48, 55, 48, 56, 48, 57, 49, 48, 49, 49, 49, 50, 49, 51, 49, 52, 49, 53, 49, 54, 49, 55, 49, 56, 49, 57, 50, 48, 50, 49, 50, 50, 50, 51, 50, 52, 50, 53, 50, 54, 50, 55, 50, 56, 50, 57, 51, 48, 51, 49, 51, 50, 51, 51, 51, 52, 51, 53, 51, 54, 51, 55, 51, 56, 51, 57, 52, 48, 52, 49, 52, 50, 52, 51, 52, 52, 52, 53, 52, 54, 52, 55, 52, 56, 52, 57, 53, 48, 53, 49, 53, 50, 53, 51, 53, 52, 53, 53, 53, 54, 53, 55, 53, 56, 53, 57, 54, 48, 54, 49, 54, 50, 54, 51, 54, 52, 54, 53, 54, 54, 54, 55, 54, 56, 54, 57, 55, 48, 55, 49, 55, 50, 55, 51, 55, 52, 55, 53, 55, 54, 55, 55, 55, 56, 55, 57, 56, 48, 56, 49, 56, 50, 56, 51, 56, 52, 56, 53, 56, 54, 56, 55, 56, 56, 56, 57, 57, 48, 57, 49, 57, 50, 57, 51, 57, 52, 57, 53, 57, 54, 57, 55, 57, 56, 57, 57] }) t142_61) fun t155_67 =>
              Pure1 Tryd.prog (Instr.indexAt 22 x0 t147_63) fun t156_68 =>
              run0 Tryd.prog Z (Instr.storeAt 5 t156_68 t153_66) w fun w =>
              Pure1 Tryd.prog (Instr.indexAt 22 x0 t150_64) fun t157_69 =>
              run0 Tryd.prog Z (Instr.storeAt 5 t157_69 t155_67) w fun w =>
              run1 Tryd.prog Z (binOp BinOp.sub 3 t4_50 (Value.int IntKind.i64 2)) w fun t159_70 w =>
              j_52 t159_70 t144_62 w) (
              j_52 t4_50 t12_51 w)) →
            j_49 t4_50 t12_51 w) →
        run1 Tryd.prog Z (binOp BinOp.geq 3 t4_4 (Value.int IntKind.i64 4)) w fun t99_71 w =>
        CondV t99_71 (
          run1 Tryd.prog Z (binOp BinOp.rem 71 t97_48 (Value.int IntKind.u32 10000)) w fun t101_72 w =>
          run1 Tryd.prog Z (binOp BinOp.quo 71 t97_48 (Value.int IntKind.u32 10000)) w fun t103_73 w =>
          run1 Tryd.prog Z (binOp BinOp.quo 71 t101_72 (Value.int IntKind.u32 100)) w fun t105_74 w =>
          run1 Tryd.prog Z (binOp BinOp.mul 71 t105_74 (Value.int IntKind.u32 2)) w fun t106_75 w =>
          run1 Tryd.prog Z (binOp BinOp.rem 71 t101_72 (Value.int IntKind.u32 100)) w fun t108_76 w =>
          run1 Tryd.prog Z (binOp BinOp.mul 71 t108_76 (Value.int IntKind.u32 2)) w fun t109_77 w =>
          Drawn w fun w =>
          Pure1 Tryd.prog (binOp BinOp.sub 3 t4_4 (Value.int IntKind.i64 1)) fun t112_78 =>
          Pure1 Tryd.prog (binOp BinOp.sub 3 t4_4 (Value.int IntKind.i64 2)) fun t115_79 =>
          Pure1 Tryd.prog (binOp BinOp.add 71 t109_77 (Value.int IntKind.u32 1)) fun t117_80 =>
          Pure1 Tryd.prog (Instr.index 9 (Value.string { data := #[48, 48, 48, 49, 48, 50, 48, 51, 48, 52, 48, 53, 48, 54, 48, 55, 48, 56, 48, 57, 49, 48, 49, 49, 49, 50, 49, 51, 49, 52, 49, 53, 49, 54, 49, 55, 49, 56, 49, 57, 50, 48, 50, 49, 50, 50, 50, 51, 50, 52, 50, 53, 50, 54, 50, 55, 50, 56, 50, 57, 51, 48, 51, 49, 51, 50, 51, 51, 51, 52, 51, 53, 51, 54, 51, 55, 51, 56, 51, 57, 52, 48, 52, 49, 52, 50, 52, 51, 52, 52, 52, 53, 52, 54, 52, 55, 52, 56, 52, 57, 53, 48, 53, 49, 53, 50, 53, 51, 53, 52, 53, 53, 53, 54, 53, 55, 53, 56, 53, 57, 54, 48, 54, 49, 54, 50, 54, 51, 54, 52, 54, 53, 54, 54, 54, 55, 54, 56, 54, 57, 55, 48, 55, 49, 55, 50, 55, 51, 55, 52, 55, 53, 55, 54, 55, 55, 55, 56, 55, 57, 56, 48, 56, 49, 56, 50, 56, 51, 56, 52, 56, 53, 56, 54, 56, 55, 56, 56, 56, 57, 57, 48, 57, 49, 57, 50, 57, 51, 57, 52, 57, 53, 57, 54, 57, 55, 57, 56, 57, 57] }) t117_80) fun t118_81 =>
          Pure1 Tryd.prog (Instr.index 9 (Value.string { data := #[48, 48, 48, 49, 48, 50, 48, 51, 48, 52, 48, 53, 48, 54, 48, 55, 48, 56, 48, 57, 49, 48, 49, 49, 49, 50, 49, 51, 49, 52, 49, 53, 49, 54, 49, 55, 49, 56, 49, 57, 50, 48, 50, 49, 50, 50, 50, 51, 50, 52, 50, 53, 50, 54, 50, 55, 50, 56, 50, 57, 51, 48, 51, 49, 51, 50, 51, 51, 51, 52, 51, 53, 51, 54, 51, 55, 51, 56, 51, 57, 52, 48, 52, 49, 52, 50, 52, 51, 52, 52, 52, 53, 52, 54, 52, 55, 52, 56, 52, 57, 53, 48, 53, 49, 53, 50, 53, 51, 53, 52, 53, 53, 53, 54, 53, 55, 53, 56, 53, 57, 54, 48, 54, 49, 54, 50, 54, 51, 54, 52, 54, 53, 54, 54, 54, 55, 54, 56, 54, 57, 55, 48, 55, 49, 55, 50, 55, 51, 55, 52, 55, 53, 55, 54, 55, 55, 55, 56, 55, 57, 56, 48, 56, 49, 56, 50, 56, 51, 56, 52, 56, 53, 56, 54, 56, 55, 56, 56, 56, 57, 57, 48, 57, 49, 57, 50, 57, 51, 57, 52, 57, 53, 57, 54, 57, 55, 57, 56, 57, 57] }) t109_77) fun t120_82 =>
          Pure1 Tryd.prog (Instr.indexAt 22 x0 t112_78) fun t121_83 =>
          run0 Tryd.prog Z (Instr.storeAt 5 t121_83 t118_81) w fun w =>
          Pure1 Tryd.prog (Instr.indexAt 22 x0 t115_79) fun t122_84 =>
          run0 Tryd.prog Z (Instr.storeAt 5 t122_84 t120_82) w fun w =>
          Drawn w fun w =>
          Pure1 Tryd.prog (binOp BinOp.sub 3 t4_4 (Value.int IntKind.i64 3)) fun t125_85 =>
          Pure1 Tryd.prog (binOp BinOp.sub 3 t4_4 (Value.int IntKind.i64 4)) fun t128_86 =>
          Pure1 Tryd.prog (binOp BinOp.add 71 t106_75 (Value.int IntKind.u32 1)) fun t130_87 =>
          Pure1 Tryd.prog (Instr.index 9 (Value.string { data := #[48, 48, 48, 49, 48, 50, 48, 51, 48, 52, 48, 53, 48, 54, 48, 55, 48, 56, 48, 57, 49, 48, 49, 49, 49, 50, 49, 51, 49, 52, 49, 53, 49, 54, 49, 55, 49, 56, 49, 57, 50, 48, 50, 49, 50, 50, 50, 51, 50, 52, 50, 53, 50, 54, 50, 55, 50, 56, 50, 57, 51, 48, 51, 49, 51, 50, 51, 51, 51, 52, 51, 53, 51, 54, 51, 55, 51, 56, 51, 57, 52, 48, 52, 49, 52, 50, 52, 51, 52, 52, 52, 53, 52, 54, 52, 55, 52, 56, 52, 57, 53, 48, 53, 49, 53, 50, 53, 51, 53, 52, 53, 53, 53, 54, 53, 55, 53, 56, 53, 57, 54, 48, 54, 49, 54, 50, 54, 51, 54, 52, 54, 53, 54, 54, 54, 55, 54, 56, 54, 57, 55, 48, 55, 49, 55, 50, 55, 51, 55, 52, 55, 53, 55, 54, 55, 55, 55, 56, 55, 57, 56, 48, 56, 49, 56, 50, 56, 51, 56, 52, 56, 53, 56, 54, 56, 55, 56, 56, 56, 57, 57, 48, 57, 49, 57, 50, 57, 51, 57, 52, 57, 53, 57, 54, 57, 55, 57, 56, 57, 57] }) t130_87) fun t131_88 =>
          Pure1 Tryd.prog (Instr.index 9 (Value.string { data := #[48, 48, 48, 49, 48, 50, 48, 51, 48, 52, 48, 53, 48, 54, 48, 55, 48, 56, 48, 57, 49, 48, 49, 49, 49, 50, 49, 51, 49, 52, 49, 53, 49, 54, 49, 55, 49, 56, 49, 57, 50, 48, 50, 49, 50, 50, 50, 51, 50, 52, 50, 53, 50, 54, 50, 55, 50, 56, 50, 57, 51, 48, 51, 49, 51, 50, 51, 51, 51, 52, 51, 53, 51, 54, 51, 55, 51, 56, 51, 57, 52, 48, 52, 49, 52, 50, 52, 51, 52, 52, 52, 53, 52, 54, 52, 55, 52, 56, 52, 57, 53, 48, 53, 49, 53, 50, 53, 51, 53, 52, 53, 53, 53, 54, 53, 55, 53, 56, 53, 57, 54, 48, 54, 49, 54, 50, 54, 51, 54, 52, 54, 53, 54, 54, 54, 55, 54, 56, 54, 57, 55, 48, 55, 49, 55, 50, 55, 51, 55, 52, 55, 53, 55, 54, 55, 55, 55, 56, 55, 57, 56, 48, 56, 49, 56, 50, 56, 51, 56, 52, 56, 53, 56, 54, 56, 55, 56, 56, 56, 57, 57, 48, 57, 49, 57, 50, 57, 51, 57, 52, 57, 53, 57, 54, 57, 55, 57, 56, 57, 57] }) t106_75) fun t133_89 =>
          Pure1 Tryd.prog (Instr.indexAt 22 x0 t125_85) fun t134_90 =>
          run0 Tryd.prog Z (Instr.storeAt 5 t134_90 t131_88) w fun w =>
          Pure1 Tryd.prog (Instr.indexAt 22 x0 t128_86) fun t135_91 =>
          run0 Tryd.prog Z (Instr.storeAt 5 t135_91 t133_89) w fun w =>
          run1 Tryd.prog Z (binOp BinOp.sub 3 t4_4 (Value.int IntKind.i64 4)) w fun t137_92 w =>
          j_49 t137_92 t103_73 w) (
          j_49 t4_4 t97_48 w))
noncomputable def f86.code : Code := match Tryd.f86.body with | some c => c | none => .skip
def f86.an : An := (.sq .leaf (.sq (.bl (.lp [1, 4] [1, 4, 5, 6, 7, 8, 9, 10, 11, 19, 20, 21, 22, 23, 24, 25, 26, 27, 28, 29, 30, 31, 32, 33, 34, 35, 36, 37, 38, 39, 40, 41, 42, 43, 44, 45, 46, 47, 48, 49, 50, 51, 52, 53, 54, 55, 56, 57, 58, 59, 60, 61, 62, 63, 64, 65, 66, 67, 68, 69, 70, 71, 72, 73, 74, 75, 76, 77, 78, 79, 80, 81, 82, 83, 84, 85, 86, 87, 88, 89, 90, 91, 92, 93, 94, 95] (.sq (.sq .leaf (.cn .leaf .leaf)) (.bl (.sq .leaf (.sq .leaf (.sq .leaf (.sq .leaf (.sq .leaf (.sq (.dr (.take 0 false (.take 1 false (.take 2 false (.take 3 false (.take 4 false (.take 5 false (.take 6 false (.take 7 false (.take 8 false (.take 9 false (.take 10 false (.take 11 false (.one 12 (.take 13 false (.one 14 .fin)))))))))))))))) (.sq (.dr (.take 0 false (.take 1 false (.take 2 false (.take 3 false (.take 4 false (.take 5 false (.take 6 false (.take 7 false (.take 8 false (.take 9 false (.take 10 false (.take 11 false (.one 12 (.take 13 false (.one 14 .fin)))))))))))))))) (.sq (.dr (.take 0 false (.take 1 false (.take 2 false (.take 3 false (.take 4 false (.take 5 false (.take 6 false (.take 7 false (.take 8 false (.take 9 false (.take 10 false (.take 11 false (.one 12 (.take 13 false (.one 14 .fin)))))))))))))))) (.sq (.dr (.take 0 false (.take 1 false (.take 2 false (.take 3 false (.take 4 false (.take 5 false (.take 6 false (.take 7 false (.take 8 false (.take 9 false (.take 10 false (.take 11 false (.one 12 (.take 13 false (.one 14 .fin)))))))))))))))) .leaf))))))))))))) (.sq .leaf (.sj [4, 12] [4, 12, 13, 14, 15, 98, 99, 100, 101, 102, 103, 104, 105, 106, 107, 108, 109, 110, 111, 112, 113, 114, 115, 116, 117, 118, 119, 120, 121, 122, 123, 124, 125, 126, 127, 128, 129, 130, 131, 132, 133, 134, 135, 136, 137] (.sq .leaf (.cn (.sq .leaf (.sq .leaf (.sq .leaf (.sq (.dr (.take 0 false (.take 1 false (.take 2 false (.take 3 false (.take 4 false (.take 5 false (.take 6 false (.take 7 false (.take 8 false (.take 9 false (.take 10 false (.take 11 false (.one 12 (.take 13 false (.one 14 .fin)))))))))))))))) (.sq (.dr (.take 0 false (.take 1 false (.take 2 false (.take 3 false (.take 4 false (.take 5 false (.take 6 false (.take 7 false (.take 8 false (.take 9 false (.take 10 false (.take 11 false (.one 12 (.take 13 false (.one 14 .fin)))))))))))))))) .leaf))))) .leaf)) (.sj [4, 12] [4, 12, 16, 138, 139, 140, 141, 142, 143, 144, 145, 146, 147, 148, 149, 150, 151, 152, 153, 154, 155, 156, 157, 158, 159] (.sq .leaf (.cn (.sq .leaf (.sq .leaf (.sq (.dr (.take 0 false (.take 1 false (.take 2 false (.take 3 false (.take 4 false (.take 5 false (.take 6 false (.take 7 false (.take 8 false (.take 9 false (.take 10 false (.take 11 false (.one 12 (.take 13 false (.one 14 .fin)))))))))))))))) .leaf))) .leaf)) (.sq .leaf (.cn .leaf .leaf)))))))
theorem f86.body_eq : Tryd.f86.body = some f86.code := by kernel_rfl
theorem f86.shape (Z : List PanicEntry → World → Prop) (x0 x1 : Value) (w : World) (Q : Value → World → Prop) : vc drawD Tryd.prog 167 Z [] f86.an f86.code (fnQ Tryd.prog 167 Tryd.f86.results Q) (argEnv [x0, x1]) w = f86.sh Z x0 x1 w Q := by kernel_rfl
theorem f86.enters : ∀ f, f ∈ ([] : List Nat) → Enters Tryd.prog f := by
  intro f hf
  cases hf
theorem f86.calls {Z : List PanicEntry → World → Prop} {x0 x1 : Value} {w : World} {Q : Value → World → Prop} (h : f86.sh Z x0 x1 w Q) : CallV Tryd.prog Z 86 #[x0, x1] w Q :=
  calls_of_vcn drawD_sound (Q := Q) (n := 167) (rs := Tryd.f86.results) (an := f86.an) (c := f86.code) (cal := []) (args := [x0, x1]) Tryd.func86 (by kernel_rfl) rfl f86.body_eq follows (Nat.le_of_ble_eq_true (by kernel_rfl)) (enters_of_all f86.enters) ((f86.shape Z x0 x1 w Q).mpr h)

/-! ### 87: internal/strconv.formatBits -/
def f87.sh (Z : List PanicEntry → World → Prop) (x0 x1 x2 x3 x4 : Value) (w : World) (Q : Value → World → Prop) : Prop :=
  ∀ j_1 : World → Prop, (∀ w : World, (Env →
      run1 Tryd.prog Z (Instr.alloc 196 true (.tuple #[])) w fun t12_2 w =>
      ∀ j_3 : Value → World → Prop, (∀ t1_4 : Value, ∀ w : World, (Env →
          ∀ j_5 : Value → World → Prop, (∀ t13_6 : Value, ∀ w : World, (Env →
              ∀ j_7 : Value → World → Prop, (∀ t13_8 : Value, ∀ w : World, (Env →
                  CondV x4 (
                    run1 Tryd.prog Z (Instr.sliceAt 196 t12_2 (some t13_8) none none) w fun t97_9 w =>
                    run1 Tryd.prog Z (Builtin.append_ #[22, 22] 22 #[x0, t97_9]) w fun t98_10 w =>
                    Q (Value.tuple #[t98_10, (Value.string { data := #[] })]) w) (
                    run1 Tryd.prog Z (Instr.sliceAt 196 t12_2 (some t13_8) none none) w fun t100_11 w =>
                    run1 Tryd.prog Z (convert 22 9 t100_11) w fun t101_12 w =>
                    Q (Value.tuple #[(Value.slice none 0 0), t101_12]) w)) →
                  j_7 t13_8 w) →
              CondV x3 (
                run1 Tryd.prog Z (binOp BinOp.sub 3 t13_6 (Value.int IntKind.i64 1)) w fun t91_13 w =>
                run1 Tryd.prog Z (Instr.indexAt 196 t12_2 t91_13) w fun t93_14 w =>
                run0 Tryd.prog Z (Instr.storeAt 5 t93_14 (Value.int IntKind.u8 45)) w fun w =>
                j_7 t91_13 w) (
                j_7 t13_6 w)) →
              j_5 t13_6 w) →
          CallV Tryd.prog Z 91 #[x2] w fun t34_15 w =>
          CondV t34_15 (
            run1 Tryd.prog Z (convert 3 104 x2) w fun t36_16 w =>
            CallV Tryd.prog Z 92 #[t36_16] w fun t37_17 w =>
            run1 Tryd.prog Z (convert 3 104 t37_17) w fun t38_18 w =>
            run1 Tryd.prog Z (convert 3 102 x2) w fun t40_19 w =>
            run1 Tryd.prog Z (convert 3 104 x2) w fun t42_20 w =>
            run1 Tryd.prog Z (binOp BinOp.sub 104 t42_20 (Value.int IntKind.u64 1)) w fun t43_21 w =>
            ∃ J_22 : Nat → Value → Value → World → Prop, (∃ m, J_22 m t1_4 (Value.int IntKind.i64 65) w) ∧
              ∀ m_22, ∀ t1_23 : Value, ∀ t13_24 : Value, ∀ w : World, J_22 m_22 t1_23 t13_24 w → Env →
                run1 Tryd.prog Z (binOp BinOp.geq 102 t1_23 t40_19) w fun t46_25 w =>
                CondV t46_25 (
                  run1 Tryd.prog Z (binOp BinOp.sub 3 t13_24 (Value.int IntKind.i64 1)) w fun t48_26 w =>
                  run1 Tryd.prog Z (binOp BinOp.and 104 t1_23 t43_21) w fun t52_27 w =>
                  run1 Tryd.prog Z (Instr.index 9 (Value.string { data := #[48, 49, 50, 51, 52, 53, 54, 55, 56, 57, 97, 98, 99, 100, 101, 102, 103, 104, 105, 106, 107, 108, 109, 110, 111, 112, 113, 114, 115, 116, 117, 118, 119, 120, 121, 122] }) t52_27) w fun t53_28 w =>
                  run1 Tryd.prog Z (Instr.indexAt 196 t12_2 t48_26) w fun t54_29 w =>
                  run0 Tryd.prog Z (Instr.storeAt 5 t54_29 t53_28) w fun w =>
                  run1 Tryd.prog Z (binOp BinOp.shr 102 t1_23 t38_18) w fun t57_30 w =>
                  ∃ n_22, n_22 < m_22 ∧ J_22 n_22 t57_30 t48_26 w) (
                  run1 Tryd.prog Z (binOp BinOp.sub 3 t13_24 (Value.int IntKind.i64 1)) w fun t59_31 w =>
                  run1 Tryd.prog Z (Instr.index 9 (Value.string { data := #[48, 49, 50, 51, 52, 53, 54, 55, 56, 57, 97, 98, 99, 100, 101, 102, 103, 104, 105, 106, 107, 108, 109, 110, 111, 112, 113, 114, 115, 116, 117, 118, 119, 120, 121, 122] }) t1_23) w fun t62_32 w =>
                  run1 Tryd.prog Z (Instr.indexAt 196 t12_2 t59_31) w fun t63_33 w =>
                  run0 Tryd.prog Z (Instr.storeAt 5 t63_33 t62_32) w fun w =>
                  j_5 t59_31 w)) (
            run1 Tryd.prog Z (convert 3 102 x2) w fun t65_34 w =>
            ∃ J_35 : Nat → Value → Value → World → Prop, (∃ m, J_35 m t1_4 (Value.int IntKind.i64 65) w) ∧
              ∀ m_35, ∀ t1_36 : Value, ∀ t13_37 : Value, ∀ w : World, J_35 m_35 t1_36 t13_37 w → Env →
                run1 Tryd.prog Z (binOp BinOp.geq 102 t1_36 t65_34) w fun t68_38 w =>
                CondV t68_38 (
                  run1 Tryd.prog Z (binOp BinOp.sub 3 t13_37 (Value.int IntKind.i64 1)) w fun t70_39 w =>
                  run1 Tryd.prog Z (binOp BinOp.quo 102 t1_36 t65_34) w fun t73_40 w =>
                  run1 Tryd.prog Z (binOp BinOp.mul 102 t73_40 t65_34) w fun t78_41 w =>
                  run1 Tryd.prog Z (binOp BinOp.sub 102 t1_36 t78_41) w fun t79_42 w =>
                  run1 Tryd.prog Z (Instr.index 9 (Value.string { data := #[48, 49, 50, 51, 52, 53, 54, 55, 56, 57, 97, 98, 99, 100, 101, 102, 103, 104, 105, 106, 107, 108, 109, 110, 111, 112, 113, 114, 115, 116, 117, 118, 119, 120, 121, 122] }) t79_42) w fun t80_43 w =>
                  run1 Tryd.prog Z (Instr.indexAt 196 t12_2 t70_39) w fun t81_44 w =>
                  run0 Tryd.prog Z (Instr.storeAt 5 t81_44 t80_43) w fun w =>
                  ∃ n_35, n_35 < m_35 ∧ J_35 n_35 t73_40 t70_39 w) (
                  run1 Tryd.prog Z (binOp BinOp.sub 3 t13_37 (Value.int IntKind.i64 1)) w fun t84_45 w =>
                  run1 Tryd.prog Z (Instr.index 9 (Value.string { data := #[48, 49, 50, 51, 52, 53, 54, 55, 56, 57, 97, 98, 99, 100, 101, 102, 103, 104, 105, 106, 107, 108, 109, 110, 111, 112, 113, 114, 115, 116, 117, 118, 119, 120, 121, 122] }) t1_36) w fun t87_46 w =>
                  run1 Tryd.prog Z (Instr.indexAt 196 t12_2 t84_45) w fun t88_47 w =>
                  run0 Tryd.prog Z (Instr.storeAt 5 t88_47 t87_46) w fun w =>
                  j_5 t84_45 w))) →
          j_3 t1_4 w) →
      CondV x3 (
        run1 Tryd.prog Z (Op.unary UnOp.neg x1) w fun t32_48 w =>
        j_3 t32_48 w) (
        j_3 x1 w)) →
      j_1 w) →
  run1 Tryd.prog Z (binOp BinOp.lss 3 x2 (Value.int IntKind.i64 2)) w fun t20_49 w =>
  guardW (t20_49) false (fun k => k (x2) w) (fun t22_50 w =>
  guardW (t20_49) false (fun k => run1 Tryd.prog Z (eqOp BinOp.eql 3 false true t22_50 (Value.int IntKind.i64 10)) w k) (fun t23_51 w =>
  run1 Tryd.prog Z (pickV t20_49 (Value.bool true) t23_51) w fun t24_52 w =>
  guardW (t24_52) false (fun k => k (x2) w) (fun t26_53 w =>
  guardW (t24_52) false (fun k => run1 Tryd.prog Z (binOp BinOp.gtr 3 t26_53 (Value.int IntKind.i64 36)) w k) (fun t27_54 w =>
  run1 Tryd.prog Z (pickV t24_52 (Value.bool true) t27_54) w fun t28_55 w =>
  CondV t28_55 (
    run1 Tryd.prog Z (Instr.makeInterface 9 (Value.string { data := #[115, 116, 114, 99, 111, 110, 118, 58, 32, 105, 108, 108, 101, 103, 97, 108, 32, 65, 112, 112, 101, 110, 100, 73, 110, 116, 47, 70, 111, 114, 109, 97, 116, 73, 110, 116, 32, 98, 97, 115, 101] })) w fun t29_56 w =>
    run1 Tryd.prog Z (Instr.panic t29_56) w fun _ w =>
    j_1 w) (
    j_1 w)) w) w) w) w
noncomputable def f87.code : Code := match Tryd.f87.body with | some c => c | none => .skip
def f87.an : An := (.sq .leaf (.sj [] [19, 20, 21, 22, 23, 24, 25, 26, 27, 28, 29] (.sq .leaf (.cn .leaf .leaf)) (.sq .leaf (.sq .leaf (.sj [1] [1, 30, 31, 32] (.sq .leaf (.cn .leaf .leaf)) (.sj [13] [1, 13, 14, 15, 16, 17, 18, 33, 34, 35, 36, 37, 38, 39, 40, 41, 42, 43, 44, 45, 46, 47, 48, 49, 50, 51, 52, 53, 54, 55, 56, 57, 58, 59, 60, 61, 62, 63, 64, 65, 66, 67, 68, 69, 70, 71, 72, 73, 74, 75, 76, 77, 78, 79, 80, 81, 82, 83, 84, 85, 86, 87, 88] (.sq .leaf (.cn (.sq .leaf (.sq .leaf (.sq .leaf (.sq (.bl (.lp [1, 13] [1, 13, 44, 45, 46, 47, 48, 49, 50, 51, 52, 53, 54, 55, 56, 57] (.sq (.sq .leaf (.cn .leaf .leaf)) (.bl (.sq .leaf (.sq .leaf .leaf)))))) (.sq .leaf .leaf))))) (.sq .leaf (.sq (.bl (.lp [1, 13] [1, 13, 18, 66, 67, 68, 69, 70, 71, 72, 73, 74, 75, 76, 77, 78, 79, 80, 81, 82] (.sq (.sq .leaf (.cn .leaf .leaf)) (.bl (.sq .leaf (.sq .leaf (.sq .leaf .leaf))))))) (.sq .leaf .leaf))))) (.sj [13] [13, 89, 90, 91, 92, 93] (.sq .leaf (.cn (.sq .leaf .leaf) .leaf)) (.sq (.sq .leaf (.cn (.sq .leaf .leaf) .leaf)) (.sq .leaf .leaf)))))))))
theorem f87.body_eq : Tryd.f87.body = some f87.code := by kernel_rfl
theorem f87.shape (Z : List PanicEntry → World → Prop) (x0 x1 x2 x3 x4 : Value) (w : World) (Q : Value → World → Prop) : vc drawD Tryd.prog 102 Z [91, 92] f87.an f87.code (fnQ Tryd.prog 102 Tryd.f87.results Q) (argEnv [x0, x1, x2, x3, x4]) w = f87.sh Z x0 x1 x2 x3 x4 w Q := by kernel_rfl
theorem f87.enters : ∀ f, f ∈ ([91, 92] : List Nat) → Enters Tryd.prog f := by
  intro f hf
  simp only [List.mem_cons, List.not_mem_nil, or_false] at hf
  rcases hf with rfl | rfl
  · exact en91
  · exact en92
theorem f87.calls {Z : List PanicEntry → World → Prop} {x0 x1 x2 x3 x4 : Value} {w : World} {Q : Value → World → Prop} (h : f87.sh Z x0 x1 x2 x3 x4 w Q) : CallV Tryd.prog Z 87 #[x0, x1, x2, x3, x4] w Q :=
  calls_of_vcn drawD_sound (Q := Q) (n := 102) (rs := Tryd.f87.results) (an := f87.an) (c := f87.code) (cal := [91, 92]) (args := [x0, x1, x2, x3, x4]) Tryd.func87 (by kernel_rfl) rfl f87.body_eq follows (Nat.le_of_ble_eq_true (by kernel_rfl)) (enters_of_all f87.enters) ((f87.shape Z x0 x1 x2 x3 x4 w Q).mpr h)

/-! ### 88: internal/strconv.log10Pow2 -/
def f88.sh (Z : List PanicEntry → World → Prop) (x0 : Value) (w : World) (Q : Value → World → Prop) : Prop :=
  run1 Tryd.prog Z (binOp BinOp.mul 3 x0 (Value.int IntKind.i64 78913)) w fun t4_1 w =>
  run1 Tryd.prog Z (binOp BinOp.shr 3 t4_1 (Value.int IntKind.u64 18)) w fun t5_2 w =>
  Q t5_2 w
noncomputable def f88.code : Code := match Tryd.f88.body with | some c => c | none => .skip
def f88.an : An := (.sq .leaf (.sq .leaf .leaf))
theorem f88.body_eq : Tryd.f88.body = some f88.code := by kernel_rfl
theorem f88.shape (Z : List PanicEntry → World → Prop) (x0 : Value) (w : World) (Q : Value → World → Prop) : vc drawD Tryd.prog 6 Z [] f88.an f88.code (fnQ Tryd.prog 6 Tryd.f88.results Q) (argEnv [x0]) w = f88.sh Z x0 w Q := by kernel_rfl
theorem f88.enters : ∀ f, f ∈ ([] : List Nat) → Enters Tryd.prog f := by
  intro f hf
  cases hf
theorem f88.calls {Z : List PanicEntry → World → Prop} {x0 : Value} {w : World} {Q : Value → World → Prop} (h : f88.sh Z x0 w Q) : CallV Tryd.prog Z 88 #[x0] w Q :=
  calls_of_vcn drawD_sound (Q := Q) (n := 6) (rs := Tryd.f88.results) (an := f88.an) (c := f88.code) (cal := []) (args := [x0]) Tryd.func88 (by kernel_rfl) rfl f88.body_eq follows (Nat.le_of_ble_eq_true (by kernel_rfl)) (enters_of_all f88.enters) ((f88.shape Z x0 w Q).mpr h)

/-! ### 89: math/bits.Len64 -/
def f89.sh (Z : List PanicEntry → World → Prop) (x0 : Value) (w : World) (Q : Value → World → Prop) : Prop :=
  ∀ j_1 : Value → Value → World → Prop, (∀ t0_2 : Value, ∀ t2_3 : Value, ∀ w : World, (Env →
      ∀ j_4 : Value → Value → World → Prop, (∀ t0_5 : Value, ∀ t2_6 : Value, ∀ w : World, (Env →
          ∀ j_7 : Value → Value → World → Prop, (∀ t0_8 : Value, ∀ t2_9 : Value, ∀ w : World, (Env →
              run1 Tryd.prog Z (convert 102 5 t0_8) w fun t21_10 w =>
              run1 Tryd.prog Z (Instr.index 9 (Value.string { data := #[0, 1, 2, 2, 3, 3, 3, 3, 4, 4, 4, 4, 4, 4, 4, 4, 5, 5, 5, 5, 5, 5, 5, 5, 5, 5, 5, 5, 5, 5, 5, 5, 6, 6, 6, 6, 6, 6, 6, 6, 6, 6, 6, 6, 6, 6, 6, 6, 6, 6, 6, 6, 6, 6, 6, 6, 6, 6, 6, 6, 6, 6, 6, 6, 7, 7, 7, 7, 7, 7, 7, 7, 7, 7, 7, 7, 7, 7, 7, 7, 7, 7, 7, 7, 7, 7, 7, 7, 7, 7, 7, 7, 7, 7, 7, 7, 7, 7, 7, 7, 7, 7, 7, 7, 7, 7, 7, 7, 7, 7, 7, 7, 7, 7, 7, 7, 7, 7, 7, 7, 7, 7, 7, 7, 7, 7, 7, 7, 8, 8, 8, 8, 8, 8, 8, 8, 8, 8, 8, 8, 8, 8, 8, 8, 8, 8, 8, 8, 8, 8, 8, 8, 8, 8, 8, 8, 8, 8, 8, 8, 8, 8, 8, 8, 8, 8, 8, 8, 8, 8, 8, 8, 8, 8, 8, 8, 8, 8, 8, 8, 8, 8, 8, 8, 8, 8, 8, 8, 8, 8, 8, 8, 8, 8, 8, 8, 8, 8, 8, 8, 8, 8, 8, 8, 8, 8, 8, 8, 8, 8, 8, 8, 8, 8, 8, 8, 8, 8, 8, 8, 8, 8, 8, 8, 8, 8, 8, 8, 8, 8, 8, 8, 8, 8, 8, 8, 8, 8, 8, 8, 8, 8, 8, 8, 8, 8, 8, 8, 8, 8, 8, 8, 8, 8, 8, 8] }) t21_10) w fun t22_11 w =>
              run1 Tryd.prog Z (convert 5 3 t22_11) w fun t23_12 w =>
              run1 Tryd.prog Z (binOp BinOp.add 3 t2_9 t23_12) w fun t24_13 w =>
              Q t24_13 w) →
              j_7 t0_8 t2_9 w) →
          run1 Tryd.prog Z (binOp BinOp.geq 102 t0_5 (Value.int IntKind.u64 256)) w fun t14_14 w =>
          CondV t14_14 (
            run1 Tryd.prog Z (binOp BinOp.shr 102 t0_5 (Value.int IntKind.u64 8)) w fun t16_15 w =>
            run1 Tryd.prog Z (binOp BinOp.add 3 t2_6 (Value.int IntKind.i64 8)) w fun t18_16 w =>
            j_7 t16_15 t18_16 w) (
            j_7 t0_5 t2_6 w)) →
          j_4 t0_5 t2_6 w) →
      run1 Tryd.prog Z (binOp BinOp.geq 102 t0_2 (Value.int IntKind.u64 65536)) w fun t8_17 w =>
      CondV t8_17 (
        run1 Tryd.prog Z (binOp BinOp.shr 102 t0_2 (Value.int IntKind.u64 16)) w fun t10_18 w =>
        run1 Tryd.prog Z (binOp BinOp.add 3 t2_3 (Value.int IntKind.i64 16)) w fun t12_19 w =>
        j_4 t10_18 t12_19 w) (
        j_4 t0_2 t2_3 w)) →
      j_1 t0_2 t2_3 w) →
  run1 Tryd.prog Z (binOp BinOp.geq 102 x0 (Value.int IntKind.u64 4294967296)) w fun t4_20 w =>
  CondV t4_20 (
    run1 Tryd.prog Z (binOp BinOp.shr 102 x0 (Value.int IntKind.u64 32)) w fun t6_21 w =>
    j_1 t6_21 (Value.int IntKind.i64 32) w) (
    j_1 x0 (Value.int IntKind.i64 0) w)
noncomputable def f89.code : Code := match Tryd.f89.body with | some c => c | none => .skip
def f89.an : An := (.sq .leaf (.sj [0, 2] [0, 2, 3, 4, 5, 6] (.sq .leaf (.cn (.sq .leaf .leaf) .leaf)) (.sj [0, 2] [0, 2, 7, 8, 9, 10, 11, 12] (.sq .leaf (.cn (.sq .leaf .leaf) .leaf)) (.sj [0, 2] [0, 2, 13, 14, 15, 16, 17, 18] (.sq .leaf (.cn (.sq .leaf .leaf) .leaf)) (.sq .leaf .leaf)))))
theorem f89.body_eq : Tryd.f89.body = some f89.code := by kernel_rfl
theorem f89.shape (Z : List PanicEntry → World → Prop) (x0 : Value) (w : World) (Q : Value → World → Prop) : vc drawD Tryd.prog 25 Z [] f89.an f89.code (fnQ Tryd.prog 25 Tryd.f89.results Q) (argEnv [x0]) w = f89.sh Z x0 w Q := by kernel_rfl
theorem f89.enters : ∀ f, f ∈ ([] : List Nat) → Enters Tryd.prog f := by
  intro f hf
  cases hf
theorem f89.calls {Z : List PanicEntry → World → Prop} {x0 : Value} {w : World} {Q : Value → World → Prop} (h : f89.sh Z x0 w Q) : CallV Tryd.prog Z 89 #[x0] w Q :=
  calls_of_vcn drawD_sound (Q := Q) (n := 25) (rs := Tryd.f89.results) (an := f89.an) (c := f89.code) (cal := []) (args := [x0]) Tryd.func89 (by kernel_rfl) rfl f89.body_eq follows (Nat.le_of_ble_eq_true (by kernel_rfl)) (enters_of_all f89.enters) ((f89.shape Z x0 w Q).mpr h)

/-! ### 90: internal/strconv.bool2[int] -/
def f90.sh (Z : List PanicEntry → World → Prop) (x0 : Value) (w : World) (Q : Value → World → Prop) : Prop :=
  CondV x0 (
    Q (Value.int IntKind.i64 1) w) (
    Q (Value.int IntKind.i64 0) w)
noncomputable def f90.code : Code := match Tryd.f90.body with | some c => c | none => .skip
def f90.an : An := (.sq .leaf (.sq (.sq .leaf (.cn (.sq .leaf .leaf) .leaf)) (.sq .leaf .leaf)))
theorem f90.body_eq : Tryd.f90.body = some f90.code := by kernel_rfl
theorem f90.shape (Z : List PanicEntry → World → Prop) (x0 : Value) (w : World) (Q : Value → World → Prop) : vc drawD Tryd.prog 4 Z [] f90.an f90.code (fnQ Tryd.prog 4 Tryd.f90.results Q) (argEnv [x0]) w = f90.sh Z x0 w Q := by kernel_rfl
theorem f90.enters : ∀ f, f ∈ ([] : List Nat) → Enters Tryd.prog f := by
  intro f hf
  cases hf
theorem f90.calls {Z : List PanicEntry → World → Prop} {x0 : Value} {w : World} {Q : Value → World → Prop} (h : f90.sh Z x0 w Q) : CallV Tryd.prog Z 90 #[x0] w Q :=
  calls_of_vcn drawD_sound (Q := Q) (n := 4) (rs := Tryd.f90.results) (an := f90.an) (c := f90.code) (cal := []) (args := [x0]) Tryd.func90 (by kernel_rfl) rfl f90.body_eq follows (Nat.le_of_ble_eq_true (by kernel_rfl)) (enters_of_all f90.enters) ((f90.shape Z x0 w Q).mpr h)

/-! ### 91: internal/strconv.isPowerOfTwo -/
def f91.sh (Z : List PanicEntry → World → Prop) (x0 : Value) (w : World) (Q : Value → World → Prop) : Prop :=
  run1 Tryd.prog Z (binOp BinOp.sub 3 x0 (Value.int IntKind.i64 1)) w fun t5_1 w =>
  run1 Tryd.prog Z (binOp BinOp.and 3 x0 t5_1) w fun t6_2 w =>
  run1 Tryd.prog Z (eqOp BinOp.eql 3 false true t6_2 (Value.int IntKind.i64 0)) w fun t7_3 w =>
  Q t7_3 w
noncomputable def f91.code : Code := match Tryd.f91.body with | some c => c | none => .skip
def f91.an : An := (.sq .leaf (.sq .leaf .leaf))
theorem f91.body_eq : Tryd.f91.body = some f91.code := by kernel_rfl
theorem f91.shape (Z : List PanicEntry → World → Prop) (x0 : Value) (w : World) (Q : Value → World → Prop) : vc drawD Tryd.prog 8 Z [] f91.an f91.code (fnQ Tryd.prog 8 Tryd.f91.results Q) (argEnv [x0]) w = f91.sh Z x0 w Q := by kernel_rfl
theorem f91.enters : ∀ f, f ∈ ([] : List Nat) → Enters Tryd.prog f := by
  intro f hf
  cases hf
theorem f91.calls {Z : List PanicEntry → World → Prop} {x0 : Value} {w : World} {Q : Value → World → Prop} (h : f91.sh Z x0 w Q) : CallV Tryd.prog Z 91 #[x0] w Q :=
  calls_of_vcn drawD_sound (Q := Q) (n := 8) (rs := Tryd.f91.results) (an := f91.an) (c := f91.code) (cal := []) (args := [x0]) Tryd.func91 (by kernel_rfl) rfl f91.body_eq follows (Nat.le_of_ble_eq_true (by kernel_rfl)) (enters_of_all f91.enters) ((f91.shape Z x0 w Q).mpr h)

/-! ### 92: math/bits.TrailingZeros -/
def f92.sh (Z : List PanicEntry → World → Prop) (x0 : Value) (w : World) (Q : Value → World → Prop) : Prop :=
  CondV (Value.bool false) (
    run1 Tryd.prog Z (convert 104 71 x0) w fun t4_1 w =>
    CallV Tryd.prog Z 93 #[t4_1] w fun t5_2 w =>
    Q t5_2 w) (
    CallV Tryd.prog Z 94 #[x0] w fun t7_3 w =>
    Q t7_3 w)
noncomputable def f92.code : Code := match Tryd.f92.body with | some c => c | none => .skip
def f92.an : An := (.sq .leaf (.sq (.cn (.sq .leaf .leaf) .leaf) (.sq .leaf .leaf)))
theorem f92.body_eq : Tryd.f92.body = some f92.code := by kernel_rfl
theorem f92.shape (Z : List PanicEntry → World → Prop) (x0 : Value) (w : World) (Q : Value → World → Prop) : vc drawD Tryd.prog 8 Z [93, 94] f92.an f92.code (fnQ Tryd.prog 8 Tryd.f92.results Q) (argEnv [x0]) w = f92.sh Z x0 w Q := by kernel_rfl
theorem f92.enters : ∀ f, f ∈ ([93, 94] : List Nat) → Enters Tryd.prog f := by
  intro f hf
  simp only [List.mem_cons, List.not_mem_nil, or_false] at hf
  rcases hf with rfl | rfl
  · exact en93
  · exact en94
theorem f92.calls {Z : List PanicEntry → World → Prop} {x0 : Value} {w : World} {Q : Value → World → Prop} (h : f92.sh Z x0 w Q) : CallV Tryd.prog Z 92 #[x0] w Q :=
  calls_of_vcn drawD_sound (Q := Q) (n := 8) (rs := Tryd.f92.results) (an := f92.an) (c := f92.code) (cal := [93, 94]) (args := [x0]) Tryd.func92 (by kernel_rfl) rfl f92.body_eq follows (Nat.le_of_ble_eq_true (by kernel_rfl)) (enters_of_all f92.enters) ((f92.shape Z x0 w Q).mpr h)

/-! ### 93: math/bits.TrailingZeros32 -/
def f93.sh (Z : List PanicEntry → World → Prop) (x0 : Value) (w : World) (Q : Value → World → Prop) : Prop :=
  run1 Tryd.prog Z (eqOp BinOp.eql 71 false true x0 (Value.int IntKind.u32 0)) w fun t4_1 w =>
  CondV t4_1 (
    Q (Value.int IntKind.i64 32) w) (
    run1 Tryd.prog Z (Op.unary UnOp.neg x0) w fun t7_2 w =>
    run1 Tryd.prog Z (binOp BinOp.and 71 x0 t7_2) w fun t8_3 w =>
    run1 Tryd.prog Z (binOp BinOp.mul 71 t8_3 (Value.int IntKind.u32 125613361)) w fun t9_4 w =>
    run1 Tryd.prog Z (binOp BinOp.shr 71 t9_4 (Value.int IntKind.u64 27)) w fun t10_5 w =>
    run1 Tryd.prog Z (Instr.indexAt 200 (Value.pointer (some ⟨1, 0, none⟩)) t10_5) w fun t11_6 w =>
    run1 Tryd.prog Z (Instr.loadAt 5 t11_6) w fun t12_7 w =>
    run1 Tryd.prog Z (convert 5 3 t12_7) w fun t13_8 w =>
    Q t13_8 w)
noncomputable def f93.code : Code := match Tryd.f93.body with | some c => c | none => .skip
def f93.an : An := (.sq .leaf (.sq (.sq .leaf (.cn (.sq .leaf .leaf) .leaf)) (.sq .leaf .leaf)))
theorem f93.body_eq : Tryd.f93.body = some f93.code := by kernel_rfl
theorem f93.shape (Z : List PanicEntry → World → Prop) (x0 : Value) (w : World) (Q : Value → World → Prop) : vc drawD Tryd.prog 14 Z [] f93.an f93.code (fnQ Tryd.prog 14 Tryd.f93.results Q) (argEnv [x0]) w = f93.sh Z x0 w Q := by kernel_rfl
theorem f93.enters : ∀ f, f ∈ ([] : List Nat) → Enters Tryd.prog f := by
  intro f hf
  cases hf
theorem f93.calls {Z : List PanicEntry → World → Prop} {x0 : Value} {w : World} {Q : Value → World → Prop} (h : f93.sh Z x0 w Q) : CallV Tryd.prog Z 93 #[x0] w Q :=
  calls_of_vcn drawD_sound (Q := Q) (n := 14) (rs := Tryd.f93.results) (an := f93.an) (c := f93.code) (cal := []) (args := [x0]) Tryd.func93 (by kernel_rfl) rfl f93.body_eq follows (Nat.le_of_ble_eq_true (by kernel_rfl)) (enters_of_all f93.enters) ((f93.shape Z x0 w Q).mpr h)

/-! ### 94: math/bits.TrailingZeros64 -/
def f94.sh (Z : List PanicEntry → World → Prop) (x0 : Value) (w : World) (Q : Value → World → Prop) : Prop :=
  run1 Tryd.prog Z (eqOp BinOp.eql 102 false true x0 (Value.int IntKind.u64 0)) w fun t4_1 w =>
  CondV t4_1 (
    Q (Value.int IntKind.i64 64) w) (
    run1 Tryd.prog Z (Op.unary UnOp.neg x0) w fun t7_2 w =>
    run1 Tryd.prog Z (binOp BinOp.and 102 x0 t7_2) w fun t8_3 w =>
    run1 Tryd.prog Z (binOp BinOp.mul 102 t8_3 (Value.int IntKind.u64 285870213051353865)) w fun t9_4 w =>
    run1 Tryd.prog Z (binOp BinOp.shr 102 t9_4 (Value.int IntKind.u64 58)) w fun t10_5 w =>
    run1 Tryd.prog Z (Instr.indexAt 201 (Value.pointer (some ⟨2, 0, none⟩)) t10_5) w fun t11_6 w =>
    run1 Tryd.prog Z (Instr.loadAt 5 t11_6) w fun t12_7 w =>
    run1 Tryd.prog Z (convert 5 3 t12_7) w fun t13_8 w =>
    Q t13_8 w)
noncomputable def f94.code : Code := match Tryd.f94.body with | some c => c | none => .skip
def f94.an : An := (.sq .leaf (.sq (.sq .leaf (.cn (.sq .leaf .leaf) .leaf)) (.sq .leaf .leaf)))
theorem f94.body_eq : Tryd.f94.body = some f94.code := by kernel_rfl
theorem f94.shape (Z : List PanicEntry → World → Prop) (x0 : Value) (w : World) (Q : Value → World → Prop) : vc drawD Tryd.prog 14 Z [] f94.an f94.code (fnQ Tryd.prog 14 Tryd.f94.results Q) (argEnv [x0]) w = f94.sh Z x0 w Q := by kernel_rfl
theorem f94.enters : ∀ f, f ∈ ([] : List Nat) → Enters Tryd.prog f := by
  intro f hf
  cases hf
theorem f94.calls {Z : List PanicEntry → World → Prop} {x0 : Value} {w : World} {Q : Value → World → Prop} (h : f94.sh Z x0 w Q) : CallV Tryd.prog Z 94 #[x0] w Q :=
  calls_of_vcn drawD_sound (Q := Q) (n := 14) (rs := Tryd.f94.results) (an := f94.an) (c := f94.code) (cal := []) (args := [x0]) Tryd.func94 (by kernel_rfl) rfl f94.body_eq follows (Nat.le_of_ble_eq_true (by kernel_rfl)) (enters_of_all f94.enters) ((f94.shape Z x0 w Q).mpr h)

/-! ### 119: gosem.cut.vars -/
def f119.sh (Z : List PanicEntry → World → Prop) (w : World) (Q : Value → World → Prop) : Prop :=
  run1 Tryd.prog Z (Instr.build 200 #[(0, (Value.int IntKind.u8 0)), (1, (Value.int IntKind.u8 1)), (2, (Value.int IntKind.u8 28)), (3, (Value.int IntKind.u8 2)), (4, (Value.int IntKind.u8 29)), (5, (Value.int IntKind.u8 14)), (6, (Value.int IntKind.u8 24)), (7, (Value.int IntKind.u8 3)), (8, (Value.int IntKind.u8 30)), (9, (Value.int IntKind.u8 22)), (10, (Value.int IntKind.u8 20)), (11, (Value.int IntKind.u8 15)), (12, (Value.int IntKind.u8 25)), (13, (Value.int IntKind.u8 17)), (14, (Value.int IntKind.u8 4)), (15, (Value.int IntKind.u8 8)), (16, (Value.int IntKind.u8 31)), (17, (Value.int IntKind.u8 27)), (18, (Value.int IntKind.u8 13)), (19, (Value.int IntKind.u8 23)), (20, (Value.int IntKind.u8 21)), (21, (Value.int IntKind.u8 19)), (22, (Value.int IntKind.u8 16)), (23, (Value.int IntKind.u8 7)), (24, (Value.int IntKind.u8 26)), (25, (Value.int IntKind.u8 12)), (26, (Value.int IntKind.u8 18)), (27, (Value.int IntKind.u8 6)), (28, (Value.int IntKind.u8 11)), (29, (Value.int IntKind.u8 5)), (30, (Value.int IntKind.u8 10)), (31, (Value.int IntKind.u8 9))]) w fun t0_1 w =>
  run0 Tryd.prog Z (Instr.storeAt 200 (Value.pointer (some ⟨1, 0, none⟩)) t0_1) w fun w =>
  run1 Tryd.prog Z (Instr.build 201 #[(0, (Value.int IntKind.u8 0)), (1, (Value.int IntKind.u8 1)), (2, (Value.int IntKind.u8 56)), (3, (Value.int IntKind.u8 2)), (4, (Value.int IntKind.u8 57)), (5, (Value.int IntKind.u8 49)), (6, (Value.int IntKind.u8 28)), (7, (Value.int IntKind.u8 3)), (8, (Value.int IntKind.u8 61)), (9, (Value.int IntKind.u8 58)), (10, (Value.int IntKind.u8 42)), (11, (Value.int IntKind.u8 50)), (12, (Value.int IntKind.u8 38)), (13, (Value.int IntKind.u8 29)), (14, (Value.int IntKind.u8 17)), (15, (Value.int IntKind.u8 4)), (16, (Value.int IntKind.u8 62)), (17, (Value.int IntKind.u8 47)), (18, (Value.int IntKind.u8 59)), (19, (Value.int IntKind.u8 36)), (20, (Value.int IntKind.u8 45)), (21, (Value.int IntKind.u8 43)), (22, (Value.int IntKind.u8 51)), (23, (Value.int IntKind.u8 22)), (24, (Value.int IntKind.u8 53)), (25, (Value.int IntKind.u8 39)), (26, (Value.int IntKind.u8 33)), (27, (Value.int IntKind.u8 30)), (28, (Value.int IntKind.u8 24)), (29, (Value.int IntKind.u8 18)), (30, (Value.int IntKind.u8 12)), (31, (Value.int IntKind.u8 5)), (32, (Value.int IntKind.u8 63)), (33, (Value.int IntKind.u8 55)), (34, (Value.int IntKind.u8 48)), (35, (Value.int IntKind.u8 27)), (36, (Value.int IntKind.u8 60)), (37, (Value.int IntKind.u8 41)), (38, (Value.int IntKind.u8 37)), (39, (Value.int IntKind.u8 16)), (40, (Value.int IntKind.u8 46)), (41, (Value.int IntKind.u8 35)), (42, (Value.int IntKind.u8 44)), (43, (Value.int IntKind.u8 21)), (44, (Value.int IntKind.u8 52)), (45, (Value.int IntKind.u8 32)), (46, (Value.int IntKind.u8 23)), (47, (Value.int IntKind.u8 11)), (48, (Value.int IntKind.u8 54)), (49, (Value.int IntKind.u8 26)), (50, (Value.int IntKind.u8 40)), (51, (Value.int IntKind.u8 15)), (52, (Value.int IntKind.u8 34)), (53, (Value.int IntKind.u8 20)), (54, (Value.int IntKind.u8 31)), (55, (Value.int IntKind.u8 10)), (56, (Value.int IntKind.u8 25)), (57, (Value.int IntKind.u8 14)), (58, (Value.int IntKind.u8 19)), (59, (Value.int IntKind.u8 9)), (60, (Value.int IntKind.u8 13)), (61, (Value.int IntKind.u8 8)), (62, (Value.int IntKind.u8 7)), (63, (Value.int IntKind.u8 6))]) w fun t1_2 w =>
  run0 Tryd.prog Z (Instr.storeAt 201 (Value.pointer (some ⟨2, 0, none⟩)) t1_2) w fun w =>
  run1 Tryd.prog Z (Instr.build 195 #[(0, (Value.int IntKind.u64 1)), (1, (Value.int IntKind.u64 10)), (2, (Value.int IntKind.u64 100)), (3, (Value.int IntKind.u64 1000)), (4, (Value.int IntKind.u64 10000)), (5, (Value.int IntKind.u64 100000)), (6, (Value.int IntKind.u64 1000000)), (7, (Value.int IntKind.u64 10000000)), (8, (Value.int IntKind.u64 100000000)), (9, (Value.int IntKind.u64 1000000000)), (10, (Value.int IntKind.u64 10000000000)), (11, (Value.int IntKind.u64 100000000000)), (12, (Value.int IntKind.u64 1000000000000)), (13, (Value.int IntKind.u64 10000000000000)), (14, (Value.int IntKind.u64 100000000000000)), (15, (Value.int IntKind.u64 1000000000000000)), (16, (Value.int IntKind.u64 10000000000000000)), (17, (Value.int IntKind.u64 100000000000000000)), (18, (Value.int IntKind.u64 1000000000000000000)), (19, (Value.int IntKind.u64 10000000000000000000))]) w fun t2_3 w =>
  run0 Tryd.prog Z (Instr.storeAt 195 (Value.pointer (some ⟨0, 0, none⟩)) t2_3) w fun w =>
  Q (Value.tuple #[]) w
noncomputable def f119.code : Code := match Tryd.f119.body with | some c => c | none => .skip
def f119.an : An := (.sq .leaf (.sq .leaf .leaf))
theorem f119.body_eq : Tryd.f119.body = some f119.code := by kernel_rfl
theorem f119.shape (Z : List PanicEntry → World → Prop) (w : World) (Q : Value → World → Prop) : vc drawD Tryd.prog 3 Z [] f119.an f119.code (fnQ Tryd.prog 3 Tryd.f119.results Q) (argEnv []) w = f119.sh Z  w Q := by kernel_rfl
theorem f119.enters : ∀ f, f ∈ ([] : List Nat) → Enters Tryd.prog f := by
  intro f hf
  cases hf
theorem f119.calls {Z : List PanicEntry → World → Prop} {w : World} {Q : Value → World → Prop} (h : f119.sh Z  w Q) : CallV Tryd.prog Z 119 #[] w Q :=
  calls_of_vcn drawD_sound (Q := Q) (n := 3) (rs := Tryd.f119.results) (an := f119.an) (c := f119.code) (cal := []) (args := []) Tryd.func119 (by kernel_rfl) rfl f119.body_eq follows (Nat.le_of_ble_eq_true (by kernel_rfl)) (enters_of_all f119.enters) ((f119.shape Z  w Q).mpr h)

end Go.Proofs.YthobnaagjhooeaaDoor
