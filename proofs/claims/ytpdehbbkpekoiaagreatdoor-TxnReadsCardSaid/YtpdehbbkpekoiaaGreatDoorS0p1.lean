import Derived.Test.YtpdehbbkpekoiaaGreatDoorShBase
set_option linter.unusedVariables false
namespace Go.Proofs.YtpdehbbkpekoiaaGreatDoor
open Go.Sh
def f70.sh (Z : List PanicEntry → World → Prop) (x0 x1 : Value) (w : World) (Q : Value → World → Prop) : Prop :=
 run1 Tryz.prog Z (Instr.box 86 x0) w fun t2_1 w =>
 run1 Tryz.prog Z (Instr.alloc 33 true (.tuple #[])) w fun t4_2 w =>
 CallV Tryz.prog Z 68 #[x1] w fun t8_3 w =>
 run1 Tryz.prog Z (Instr.build 33 #[(0, t8_3)]) w fun t9_4 w =>
 run1 Tryz.prog Z (Instr.alloc 33 true (.tuple #[])) w fun t5_5 w =>
 run0 Tryz.prog Z (Instr.storeAt 33 t5_5 t9_4) w fun w =>
 run1 Tryz.prog Z (Instr.fieldAt 33 t5_5 0) w fun t10_6 w =>
 run1 Tryz.prog Z (Instr.loadAt 25 t10_6) w fun t11_7 w =>
 CallV Tryz.prog Z 134 #[t11_7] w fun t12_8 w =>
 run1 Tryz.prog Z (Op.unary UnOp.not t12_8) w fun t13_9 w =>
 guardW (t13_9) false (fun k => run1 Tryz.prog Z (Instr.fieldAt 86 t2_1 0) w k) (fun t15_10 w =>
 guardW (t13_9) false (fun k => run1 Tryz.prog Z (Instr.loadAt 4 t15_10) w k) (fun t16_11 w =>
 guardW (t13_9) false (fun k => k (t16_11) w) (fun t17_12 w =>
 guardW (t17_12) true (fun k => run1 Tryz.prog Z (Instr.fieldAt 33 t5_5 0) w k) (fun t18_13 w =>
 guardW (t17_12) true (fun k => run1 Tryz.prog Z (Instr.loadAt 25 t18_13) w k) (fun t19_14 w =>
 guardW (t17_12) true (fun k => run1 Tryz.prog Z (binOp BinOp.gtr 25 t19_14 (Value.int IntKind.i8 5)) w k) (fun t20_15 w =>
 guardW (t13_9) false (fun k => run1 Tryz.prog Z (pickV t17_12 t20_15 (Value.bool false)) w k) (fun t21_16 w =>
 run1 Tryz.prog Z (pickV t13_9 (Value.bool true) t21_16) w fun t22_17 w =>
 CondV t22_17 (
 CallV Tryz.prog Z 135 #[x1, (Value.int IntKind.i64 40)] w fun t24_18 w =>
 run1 Tryz.prog Z (Instr.build 33 #[]) w fun t25_19 w =>
 run0 Tryz.prog Z (Instr.storeAt 33 t4_2 t25_19) w fun w =>
 ∃ r_20, (do loadVar 33 (← asAddr t4_2) : Sem Value).run Tryz.prog w = .ok r_20 w ∧
 Q r_20 w) (
 run1 Tryz.prog Z (Instr.loadAt 86 t2_1) w fun t26_21 w =>
 run1 Tryz.prog Z (Instr.fieldAt 33 t5_5 0) w fun t27_22 w =>
 run1 Tryz.prog Z (Instr.loadAt 25 t27_22) w fun t28_23 w =>
 CallV Tryz.prog Z 89 #[t26_21, t28_23] w fun t29_24 w =>
 ∀ j_25 : World → Prop, (∀ w : World, (Env →
 ∀ j_26 : World → Prop, (∀ w : World, (Env →
 ∀ j_27 : World → Prop, (∀ w : World, (Env →
 ∀ j_28 : World → Prop, (∀ w : World, (Env →
 ∀ j_29 : World → Prop, (∀ w : World, (Env →
 ∀ j_30 : World → Prop, (∀ w : World, (Env →
 ∀ j_31 : World → Prop, (∀ w : World, (Env →
 ∀ j_32 : World → Prop, (∀ w : World, (Env →
 ∀ j_33 : World → Prop, (∀ w : World, (Env →
 run1 Tryz.prog Z (Instr.loadAt 33 t5_5) w fun t89_34 w =>
 run0 Tryz.prog Z (Instr.storeAt 33 t4_2 t89_34) w fun w =>
 ∃ r_35, (do loadVar 33 (← asAddr t4_2) : Sem Value).run Tryz.prog w = .ok r_35 w ∧
 Q r_35 w) →
 j_33 w) →
 run1 Tryz.prog Z (binOp BinOp.and 143 t29_24 (Value.int IntKind.u64 256)) w fun t82_36 w =>
 run1 Tryz.prog Z (eqOp BinOp.neq 143 false true t82_36 (Value.int IntKind.u64 0)) w fun t83_37 w =>
 CondV t83_37 (
 run1 Tryz.prog Z (Instr.build 86 #[(0, (Value.bool true))]) w fun t85_38 w =>
 run1 Tryz.prog Z (Instr.makeFunc (Fn.func 70) #[t85_38] #[]) w fun t86_39 w =>
 CallV Tryz.prog Z 144 #[x1, (Value.int IntKind.i64 8), t86_39] w fun t87_40 w =>
 run1 Tryz.prog Z (Instr.fieldAt 33 t5_5 10) w fun t88_41 w =>
 run0 Tryz.prog Z (Instr.storeAt 31 t88_41 t87_40) w fun w =>
 j_33 w) (
 j_33 w)) →
 j_32 w) →
 run1 Tryz.prog Z (binOp BinOp.and 143 t29_24 (Value.int IntKind.u64 128)) w fun t76_42 w =>
 run1 Tryz.prog Z (eqOp BinOp.neq 143 false true t76_42 (Value.int IntKind.u64 0)) w fun t77_43 w =>
 CondV t77_43 (
 CallV Tryz.prog Z 142 #[x1, (Value.int IntKind.i64 4), (Value.func (Fn.func 143) #[] #[])] w fun t79_44 w =>
 run1 Tryz.prog Z (Instr.fieldAt 33 t5_5 9) w fun t80_45 w =>
 run0 Tryz.prog Z (Instr.storeAt 30 t80_45 t79_44) w fun w =>
 j_32 w) (
 j_32 w)) →
 j_31 w) →
 run1 Tryz.prog Z (binOp BinOp.and 143 t29_24 (Value.int IntKind.u64 64)) w fun t70_46 w =>
 run1 Tryz.prog Z (eqOp BinOp.neq 143 false true t70_46 (Value.int IntKind.u64 0)) w fun t71_47 w =>
 CondV t71_47 (
 CallV Tryz.prog Z 140 #[x1] w fun t73_48 w =>
 run1 Tryz.prog Z (Instr.fieldAt 33 t5_5 8) w fun t74_49 w =>
 run0 Tryz.prog Z (Instr.storeAt 21 t74_49 t73_48) w fun w =>
 j_31 w) (
 j_31 w)) →
 j_30 w) →
 run1 Tryz.prog Z (binOp BinOp.and 143 t29_24 (Value.int IntKind.u64 32)) w fun t64_50 w =>
 run1 Tryz.prog Z (eqOp BinOp.neq 143 false true t64_50 (Value.int IntKind.u64 0)) w fun t65_51 w =>
 CondV t65_51 (
 CallV Tryz.prog Z 69 #[x1] w fun t67_52 w =>
 run1 Tryz.prog Z (Instr.fieldAt 33 t5_5 7) w fun t68_53 w =>
 run0 Tryz.prog Z (Instr.storeAt 2 t68_53 t67_52) w fun w =>
 j_30 w) (
 j_30 w)) →
 j_29 w) →
 run1 Tryz.prog Z (binOp BinOp.and 143 t29_24 (Value.int IntKind.u64 16)) w fun t55_54 w =>
 run1 Tryz.prog Z (eqOp BinOp.neq 143 false true t55_54 (Value.int IntKind.u64 0)) w fun t56_55 w =>
 CondV t56_55 (
 CallV Tryz.prog Z 141 #[x1] w fun t58_56 w =>
 run1 Tryz.prog Z (Instr.fieldAt 33 t5_5 5) w fun t59_57 w =>
 run0 Tryz.prog Z (Instr.storeAt 4 t59_57 t58_56) w fun w =>
 CallV Tryz.prog Z 141 #[x1] w fun t61_58 w =>
 run1 Tryz.prog Z (Instr.fieldAt 33 t5_5 6) w fun t62_59 w =>
 run0 Tryz.prog Z (Instr.storeAt 4 t62_59 t61_58) w fun w =>
 j_29 w) (
 j_29 w)) →
 j_28 w) →
 run1 Tryz.prog Z (binOp BinOp.and 143 t29_24 (Value.int IntKind.u64 8)) w fun t49_60 w =>
 run1 Tryz.prog Z (eqOp BinOp.neq 143 false true t49_60 (Value.int IntKind.u64 0)) w fun t50_61 w =>
 CondV t50_61 (
 CallV Tryz.prog Z 140 #[x1] w fun t52_62 w =>
 run1 Tryz.prog Z (Instr.fieldAt 33 t5_5 4) w fun t53_63 w =>
 run0 Tryz.prog Z (Instr.storeAt 21 t53_63 t52_62) w fun w =>
 j_28 w) (
 j_28 w)) →
 j_27 w) →
 run1 Tryz.prog Z (binOp BinOp.and 143 t29_24 (Value.int IntKind.u64 4)) w fun t43_64 w =>
 run1 Tryz.prog Z (eqOp BinOp.neq 143 false true t43_64 (Value.int IntKind.u64 0)) w fun t44_65 w =>
 CondV t44_65 (
 CallV Tryz.prog Z 138 #[x1, (Value.int IntKind.i64 4), (Value.func (Fn.func 139) #[] #[])] w fun t46_66 w =>
 run1 Tryz.prog Z (Instr.fieldAt 33 t5_5 3) w fun t47_67 w =>
 run0 Tryz.prog Z (Instr.storeAt 29 t47_67 t46_66) w fun w =>
 j_27 w) (
 j_27 w)) →
 j_26 w) →
 run1 Tryz.prog Z (binOp BinOp.and 143 t29_24 (Value.int IntKind.u64 2)) w fun t37_68 w =>
 run1 Tryz.prog Z (eqOp BinOp.neq 143 false true t37_68 (Value.int IntKind.u64 0)) w fun t38_69 w =>
 CondV t38_69 (
 CallV Tryz.prog Z 137 #[x1, (Value.int IntKind.i64 96)] w fun t40_70 w =>
 run1 Tryz.prog Z (Instr.fieldAt 33 t5_5 2) w fun t41_71 w =>
 run0 Tryz.prog Z (Instr.storeAt 28 t41_71 t40_70) w fun w =>
 j_26 w) (
 j_26 w)) →
 j_25 w) →
 run1 Tryz.prog Z (binOp BinOp.and 143 t29_24 (Value.int IntKind.u64 1)) w fun t31_72 w =>
 run1 Tryz.prog Z (eqOp BinOp.neq 143 false true t31_72 (Value.int IntKind.u64 0)) w fun t32_73 w =>
 CondV t32_73 (
 CallV Tryz.prog Z 136 #[x1, (Value.int IntKind.i64 64)] w fun t34_74 w =>
 run1 Tryz.prog Z (Instr.fieldAt 33 t5_5 1) w fun t35_75 w =>
 run0 Tryz.prog Z (Instr.storeAt 9 t35_75 t34_74) w fun w =>
 j_25 w) (
 j_25 w))) w) w) w) w) w) w) w
noncomputable def f70.code : Code := match Tryz.f70.body with | some c => c | none => .skip
def f70.an : An := (.sq .leaf (.sq .leaf (.sq (.sq .leaf (.cn (.sq .leaf (.sq .leaf .leaf)) .leaf)) (.sq .leaf (.sj [] [30, 31, 32, 33, 34, 35] (.sq .leaf (.cn .leaf .leaf)) (.sj [] [36, 37, 38, 39, 40, 41] (.sq .leaf (.cn .leaf .leaf)) (.sj [] [42, 43, 44, 45, 46, 47] (.sq .leaf (.cn .leaf .leaf)) (.sj [] [48, 49, 50, 51, 52, 53] (.sq .leaf (.cn .leaf .leaf)) (.sj [] [54, 55, 56, 57, 58, 59, 60, 61, 62] (.sq .leaf (.cn (.sq .leaf .leaf) .leaf)) (.sj [] [63, 64, 65, 66, 67, 68] (.sq .leaf (.cn .leaf .leaf)) (.sj [] [69, 70, 71, 72, 73, 74] (.sq .leaf (.cn .leaf .leaf)) (.sj [] [75, 76, 77, 78, 79, 80] (.sq .leaf (.cn .leaf .leaf)) (.sj [] [81, 82, 83, 84, 85, 86, 87, 88] (.sq .leaf (.cn .leaf .leaf)) (.sq .leaf .leaf))))))))))))))
theorem f70.body_eq : Tryz.f70.body = some f70.code := by kernel_rfl
theorem f70.shape (Z : List PanicEntry → World → Prop) (x0 x1 : Value) (w : World) (Q : Value → World → Prop) : vc drawD Tryz.prog 90 Z [68, 134, 135, 89, 144, 142, 140, 69, 141, 138, 137, 136] f70.an f70.code (fnQ Tryz.prog 90 Tryz.f70.results Q) (argEnv [x0, x1]) w = f70.sh Z x0 x1 w Q := by kernel_rfl
theorem f70.enters : ∀ f, f ∈ ([68, 134, 135, 89, 144, 142, 140, 69, 141, 138, 137, 136] : List Nat) → Enters Tryz.prog f := by
 intro f hf
 simp only [List.mem_cons, List.not_mem_nil, or_false] at hf
 rcases hf with rfl | rfl | rfl | rfl | rfl | rfl | rfl | rfl | rfl | rfl | rfl | rfl
 · exact en68
 · exact en134
 · exact en135
 · exact en89
 · exact en144
 · exact en142
 · exact en140
 · exact en69
 · exact en141
 · exact en138
 · exact en137
 · exact en136
theorem f70.calls {Z : List PanicEntry → World → Prop} {x0 x1 : Value} {w : World} {Q : Value → World → Prop} (h : f70.sh Z x0 x1 w Q) : CallV Tryz.prog Z 70 #[x0, x1] w Q :=
 calls_of_vcn drawD_sound (Q := Q) (n := 90) (rs := Tryz.f70.results) (an := f70.an) (c := f70.code) (cal := [68, 134, 135, 89, 144, 142, 140, 69, 141, 138, 137, 136]) (args := [x0, x1]) Tryz.func70 (by kernel_rfl) rfl f70.body_eq follows (Nat.le_of_ble_eq_true (by kernel_rfl)) (enters_of_all f70.enters) ((f70.shape Z x0 x1 w Q).mpr h)

def f71.sh (Z : List PanicEntry → World → Prop) (x0 : Value) (w : World) (Q : Value → World → Prop) : Prop :=
 CallV Tryz.prog Z 145 #[x0] w fun t4_1 w =>
 guardW (t4_1) true (fun k => k (x0) w) (fun t6_2 w =>
 guardW (t4_1) true (fun k => runX Tryz.prog Z (nilChk t6_2) w k) (fun t7_3 w =>
 guardW (t4_1) true (fun k => run1 Tryz.prog Z (Instr.fieldAt 227 t7_3 1) w k) (fun t8_4 w =>
 guardW (t4_1) true (fun k => run1 Tryz.prog Z (Instr.loadAt 28 t8_4) w k) (fun t9_5 w =>
 guardW (t4_1) true (fun k => run1 Tryz.prog Z (Builtin.len_ #[28] 3 #[t9_5]) w k) (fun t10_6 w =>
 guardW (t4_1) true (fun k => run1 Tryz.prog Z (binOp BinOp.gtr 3 t10_6 (Value.int IntKind.i64 0)) w k) (fun t11_7 w =>
 run1 Tryz.prog Z (pickV t4_1 t11_7 (Value.bool false)) w fun t12_8 w =>
 CondV t12_8 (
 Q (Value.int IntKind.i64 13) w) (
 CallV Tryz.prog Z 146 #[x0] w fun t14_9 w =>
 Q t14_9 w)) w) w) w) w) w) w
noncomputable def f71.code : Code := match Tryz.f71.body with | some c => c | none => .skip
def f71.an : An := (.sq .leaf (.sq (.sq .leaf (.cn (.sq .leaf .leaf) .leaf)) (.sq .leaf .leaf)))
theorem f71.body_eq : Tryz.f71.body = some f71.code := by kernel_rfl
theorem f71.shape (Z : List PanicEntry → World → Prop) (x0 : Value) (w : World) (Q : Value → World → Prop) : vc drawD Tryz.prog 15 Z [145, 146] f71.an f71.code (fnQ Tryz.prog 15 Tryz.f71.results Q) (argEnv [x0]) w = f71.sh Z x0 w Q := by kernel_rfl
theorem f71.enters : ∀ f, f ∈ ([145, 146] : List Nat) → Enters Tryz.prog f := by
 intro f hf
 simp only [List.mem_cons, List.not_mem_nil, or_false] at hf
 rcases hf with rfl | rfl
 · exact en145
 · exact en146
theorem f71.calls {Z : List PanicEntry → World → Prop} {x0 : Value} {w : World} {Q : Value → World → Prop} (h : f71.sh Z x0 w Q) : CallV Tryz.prog Z 71 #[x0] w Q :=
 calls_of_vcn drawD_sound (Q := Q) (n := 15) (rs := Tryz.f71.results) (an := f71.an) (c := f71.code) (cal := [145, 146]) (args := [x0]) Tryz.func71 (by kernel_rfl) rfl f71.body_eq follows (Nat.le_of_ble_eq_true (by kernel_rfl)) (enters_of_all f71.enters) ((f71.shape Z x0 w Q).mpr h)

def f72.sh (Z : List PanicEntry → World → Prop) (x0 : Value) (w : World) (Q : Value → World → Prop) : Prop :=
 CallV Tryz.prog Z 23 #[x0] w fun t4_1 w =>
 run1 Tryz.prog Z (Instr.build 239 #[(0, t4_1)]) w fun t5_2 w =>
 run1 Tryz.prog Z (Instr.box 239 t5_2) w fun t6_3 w =>
 Q t6_3 w
noncomputable def f72.code : Code := match Tryz.f72.body with | some c => c | none => .skip
def f72.an : An := (.sq .leaf (.sq .leaf .leaf))
theorem f72.body_eq : Tryz.f72.body = some f72.code := by kernel_rfl
theorem f72.shape (Z : List PanicEntry → World → Prop) (x0 : Value) (w : World) (Q : Value → World → Prop) : vc drawD Tryz.prog 7 Z [23] f72.an f72.code (fnQ Tryz.prog 7 Tryz.f72.results Q) (argEnv [x0]) w = f72.sh Z x0 w Q := by kernel_rfl
theorem f72.enters : ∀ f, f ∈ ([23] : List Nat) → Enters Tryz.prog f := by
 intro f hf
 simp only [List.mem_cons, List.not_mem_nil, or_false] at hf
 rcases hf with rfl
 · exact en23
theorem f72.calls {Z : List PanicEntry → World → Prop} {x0 : Value} {w : World} {Q : Value → World → Prop} (h : f72.sh Z x0 w Q) : CallV Tryz.prog Z 72 #[x0] w Q :=
 calls_of_vcn drawD_sound (Q := Q) (n := 7) (rs := Tryz.f72.results) (an := f72.an) (c := f72.code) (cal := [23]) (args := [x0]) Tryz.func72 (by kernel_rfl) rfl f72.body_eq follows (Nat.le_of_ble_eq_true (by kernel_rfl)) (enters_of_all f72.enters) ((f72.shape Z x0 w Q).mpr h)

def f73.sh (Z : List PanicEntry → World → Prop) (x0 : Value) (w : World) (Q : Value → World → Prop) : Prop :=
 CallV Tryz.prog Z 147 #[x0, (Value.int IntKind.i64 4)] w fun t7_1 w =>
 run1 Tryz.prog Z (Instr.extract t7_1 0) w fun t8_2 w =>
 run1 Tryz.prog Z (Instr.extract t7_1 1) w fun t9_3 w =>
 run1 Tryz.prog Z (convert 142 22 t8_2) w fun t11_4 w =>
 Q t11_4 w
noncomputable def f73.code : Code := match Tryz.f73.body with | some c => c | none => .skip
def f73.an : An := (.sq .leaf (.sq .leaf (.sq .leaf .leaf)))
theorem f73.body_eq : Tryz.f73.body = some f73.code := by kernel_rfl
theorem f73.shape (Z : List PanicEntry → World → Prop) (x0 : Value) (w : World) (Q : Value → World → Prop) : vc drawD Tryz.prog 12 Z [147] f73.an f73.code (fnQ Tryz.prog 12 Tryz.f73.results Q) (argEnv [x0]) w = f73.sh Z x0 w Q := by kernel_rfl
theorem f73.enters : ∀ f, f ∈ ([147] : List Nat) → Enters Tryz.prog f := by
 intro f hf
 simp only [List.mem_cons, List.not_mem_nil, or_false] at hf
 rcases hf with rfl
 · exact en147
theorem f73.calls {Z : List PanicEntry → World → Prop} {x0 : Value} {w : World} {Q : Value → World → Prop} (h : f73.sh Z x0 w Q) : CallV Tryz.prog Z 73 #[x0] w Q :=
 calls_of_vcn drawD_sound (Q := Q) (n := 12) (rs := Tryz.f73.results) (an := f73.an) (c := f73.code) (cal := [147]) (args := [x0]) Tryz.func73 (by kernel_rfl) rfl f73.body_eq follows (Nat.le_of_ble_eq_true (by kernel_rfl)) (enters_of_all f73.enters) ((f73.shape Z x0 w Q).mpr h)

def f74.sh (Z : List PanicEntry → World → Prop) (x0 : Value) (w : World) (Q : Value → World → Prop) : Prop :=
 CallV Tryz.prog Z 147 #[x0, (Value.int IntKind.i64 1)] w fun t8_1 w =>
 run1 Tryz.prog Z (Instr.extract t8_1 0) w fun t9_2 w =>
 run1 Tryz.prog Z (Instr.extract t8_1 1) w fun t10_3 w =>
 run1 Tryz.prog Z (convert 142 3 t9_2) w fun t12_4 w =>
 ∀ j_5 : Value → World → Prop, (∀ t5_6 : Value, ∀ w : World, (Env →
 run1 Tryz.prog Z (convert 3 25 t5_6) w fun t18_7 w =>
 Q t18_7 w) →
 j_5 t5_6 w) →
 run1 Tryz.prog Z (binOp BinOp.gtr 3 t12_4 (Value.int IntKind.i64 127)) w fun t14_8 w =>
 CondV t14_8 (
 run1 Tryz.prog Z (binOp BinOp.sub 3 t12_4 (Value.int IntKind.i64 256)) w fun t16_9 w =>
 j_5 t16_9 w) (
 j_5 t12_4 w)
noncomputable def f74.code : Code := match Tryz.f74.body with | some c => c | none => .skip
def f74.an : An := (.sq .leaf (.sq .leaf (.sq .leaf (.sj [5] [5, 13, 14, 15, 16] (.sq .leaf (.cn .leaf .leaf)) (.sq .leaf .leaf)))))
theorem f74.body_eq : Tryz.f74.body = some f74.code := by kernel_rfl
theorem f74.shape (Z : List PanicEntry → World → Prop) (x0 : Value) (w : World) (Q : Value → World → Prop) : vc drawD Tryz.prog 19 Z [147] f74.an f74.code (fnQ Tryz.prog 19 Tryz.f74.results Q) (argEnv [x0]) w = f74.sh Z x0 w Q := by kernel_rfl
theorem f74.enters : ∀ f, f ∈ ([147] : List Nat) → Enters Tryz.prog f := by
 intro f hf
 simp only [List.mem_cons, List.not_mem_nil, or_false] at hf
 rcases hf with rfl
 · exact en147
theorem f74.calls {Z : List PanicEntry → World → Prop} {x0 : Value} {w : World} {Q : Value → World → Prop} (h : f74.sh Z x0 w Q) : CallV Tryz.prog Z 74 #[x0] w Q :=
 calls_of_vcn drawD_sound (Q := Q) (n := 19) (rs := Tryz.f74.results) (an := f74.an) (c := f74.code) (cal := [147]) (args := [x0]) Tryz.func74 (by kernel_rfl) rfl f74.body_eq follows (Nat.le_of_ble_eq_true (by kernel_rfl)) (enters_of_all f74.enters) ((f74.shape Z x0 w Q).mpr h)

def f75.sh (Z : List PanicEntry → World → Prop) (x0 : Value) (w : World) (Q : Value → World → Prop) : Prop :=
 CallV Tryz.prog Z 147 #[x0, (Value.int IntKind.i64 8)] w fun t7_1 w =>
 run1 Tryz.prog Z (Instr.extract t7_1 0) w fun t8_2 w =>
 run1 Tryz.prog Z (Instr.extract t7_1 1) w fun t9_3 w =>
 run1 Tryz.prog Z (binOp BinOp.gtr 142 t8_2 (Value.int IntKind.u64 9223372036854775807)) w fun t11_4 w =>
 CondV t11_4 (
 run1 Tryz.prog Z (binOp BinOp.sub 142 (Value.int IntKind.u64 18446744073709551615) t8_2) w fun t13_5 w =>
 run1 Tryz.prog Z (convert 142 2 t13_5) w fun t14_6 w =>
 run1 Tryz.prog Z (binOp BinOp.sub 2 (Value.int IntKind.i64 (-1)) t14_6) w fun t15_7 w =>
 Q t15_7 w) (
 run1 Tryz.prog Z (convert 142 2 t8_2) w fun t17_8 w =>
 Q t17_8 w)
noncomputable def f75.code : Code := match Tryz.f75.body with | some c => c | none => .skip
def f75.an : An := (.sq .leaf (.sq .leaf (.sq (.sq .leaf (.cn (.sq .leaf .leaf) .leaf)) (.sq .leaf .leaf))))
theorem f75.body_eq : Tryz.f75.body = some f75.code := by kernel_rfl
theorem f75.shape (Z : List PanicEntry → World → Prop) (x0 : Value) (w : World) (Q : Value → World → Prop) : vc drawD Tryz.prog 18 Z [147] f75.an f75.code (fnQ Tryz.prog 18 Tryz.f75.results Q) (argEnv [x0]) w = f75.sh Z x0 w Q := by kernel_rfl
theorem f75.enters : ∀ f, f ∈ ([147] : List Nat) → Enters Tryz.prog f := by
 intro f hf
 simp only [List.mem_cons, List.not_mem_nil, or_false] at hf
 rcases hf with rfl
 · exact en147
theorem f75.calls {Z : List PanicEntry → World → Prop} {x0 : Value} {w : World} {Q : Value → World → Prop} (h : f75.sh Z x0 w Q) : CallV Tryz.prog Z 75 #[x0] w Q :=
 calls_of_vcn drawD_sound (Q := Q) (n := 18) (rs := Tryz.f75.results) (an := f75.an) (c := f75.code) (cal := [147]) (args := [x0]) Tryz.func75 (by kernel_rfl) rfl f75.body_eq follows (Nat.le_of_ble_eq_true (by kernel_rfl)) (enters_of_all f75.enters) ((f75.shape Z x0 w Q).mpr h)

def f76.sh (Z : List PanicEntry → World → Prop) (x0 x1 : Value) (w : World) (Q : Value → World → Prop) : Prop :=
 run1 Tryz.prog Z (Instr.alloc 33 true (.tuple #[])) w fun t4_1 w =>
 run1 Tryz.prog Z (Instr.alloc 33 true (.tuple #[])) w fun t5_2 w =>
 CallV Tryz.prog Z 74 #[x0] w fun t14_3 w =>
 run1 Tryz.prog Z (Instr.fieldAt 33 t5_2 0) w fun t15_4 w =>
 run0 Tryz.prog Z (Instr.storeAt 25 t15_4 t14_3) w fun w =>
 run1 Tryz.prog Z (Instr.fieldAt 33 t5_2 0) w fun t16_5 w =>
 run1 Tryz.prog Z (Instr.loadAt 25 t16_5) w fun t17_6 w =>
 CallV Tryz.prog Z 101 #[t17_6] w fun t18_7 w =>
 ∀ j_8 : World → Prop, (∀ w : World, (Env →
 ∃ J_9 : Nat → Value → World → Prop, (∃ m, J_9 m (Value.int IntKind.i64 0) w) ∧
 ∀ m_9, ∀ t7_10 : Value, ∀ w : World, J_9 m_9 t7_10 w → Env →
 run1 Tryz.prog Z (Builtin.len_ #[9] 3 #[t18_7]) w fun t33_11 w =>
 run1 Tryz.prog Z (binOp BinOp.lss 3 t7_10 t33_11) w fun t34_12 w =>
 guardW (t34_12) true (fun k => k (x0) w) (fun t36_13 w =>
 guardW (t34_12) true (fun k => runX Tryz.prog Z (nilChk t36_13) w k) (fun t37_14 w =>
 guardW (t34_12) true (fun k => run1 Tryz.prog Z (Instr.fieldAt 239 t37_14 2) w k) (fun t38_15 w =>
 guardW (t34_12) true (fun k => run1 Tryz.prog Z (Instr.loadAt 39 t38_15) w k) (fun t39_16 w =>
 guardW (t34_12) true (fun k => run1 Tryz.prog Z (eqOp BinOp.eql 39 false true t39_16 (Value.int IntKind.i64 0)) w k) (fun t40_17 w =>
 run1 Tryz.prog Z (pickV t34_12 t40_17 (Value.bool false)) w fun t41_18 w =>
 CondV t41_18 (
 ∀ j_19 : World → Prop, (∀ w : World, (Env →
 run1 Tryz.prog Z (binOp BinOp.add 3 t7_10 (Value.int IntKind.i64 1)) w fun t43_20 w =>
 ∃ n_9, n_9 < m_9 ∧ J_9 n_9 t43_20 w) →
 j_19 w) →
 run1 Tryz.prog Z (Instr.index 9 t18_7 t7_10) w fun t46_21 w =>
 run1 Tryz.prog Z (eqOp BinOp.eql 5 false true t46_21 (Value.int IntKind.u8 112)) w fun t48_22 w =>
 CondV t48_22 (
 CallV Tryz.prog Z 149 #[x0, (Value.int IntKind.i64 64)] w fun t50_23 w =>
 run1 Tryz.prog Z (Instr.fieldAt 33 t5_2 1) w fun t51_24 w =>
 run0 Tryz.prog Z (Instr.storeAt 9 t51_24 t50_23) w fun w =>
 j_19 w) (
 run1 Tryz.prog Z (eqOp BinOp.eql 5 false true t46_21 (Value.int IntKind.u8 100)) w fun t53_25 w =>
 CondV t53_25 (
 CallV Tryz.prog Z 150 #[x0, (Value.int IntKind.i64 96)] w fun t55_26 w =>
 run1 Tryz.prog Z (Instr.fieldAt 33 t5_2 2) w fun t56_27 w =>
 run0 Tryz.prog Z (Instr.storeAt 28 t56_27 t55_26) w fun w =>
 j_19 w) (
 run1 Tryz.prog Z (eqOp BinOp.eql 5 false true t46_21 (Value.int IntKind.u8 97)) w fun t58_28 w =>
 CondV t58_28 (
 CallV Tryz.prog Z 151 #[x0, (Value.int IntKind.i64 4)] w fun t60_29 w =>
 ∃ J_30 : Nat → Value → World → Prop, (∃ m, J_30 m (Value.int IntKind.i64 0) w) ∧
 ∀ m_30, ∀ t9_31 : Value, ∀ w : World, J_30 m_30 t9_31 w → Env →
 run1 Tryz.prog Z (binOp BinOp.lss 3 t9_31 t60_29) w fun t63_32 w =>
 CondV t63_32 (
 CallV Tryz.prog Z 74 #[x0] w fun t67_33 w =>
 Drawn w fun w =>
 Pure1 Tryz.prog (Instr.fieldAt 33 t5_2 3) fun t68_34 =>
 Read1 Tryz.prog (Instr.loadAt 29 t68_34) w fun t69_35 =>
 CallV Tryz.prog Z 152 #[x0] w fun t72_36 w =>
 Still Tryz.prog (nx (Instr.loadAt 29 t68_34)) t69_35 w <|
 Pure1 Tryz.prog (Instr.build 122 #[(0, t67_33), (1, t72_36)]) fun t73_37 =>
 run1 Tryz.prog Z (Instr.buildSlice 29 1 #[(0, t73_37)]) w fun t74_38 w =>
 Still Tryz.prog (nx (Instr.loadAt 29 t68_34)) t69_35 w <|
 run1 Tryz.prog Z (Builtin.append_ #[29, 29] 29 #[t69_35, t74_38]) w fun t75_39 w =>
 Pure1 Tryz.prog (Instr.fieldAt 33 t5_2 3) fun t76_40 =>
 run0 Tryz.prog Z (Instr.storeAt 29 t76_40 t75_39) w fun w =>
 run1 Tryz.prog Z (binOp BinOp.add 3 t9_31 (Value.int IntKind.i64 1)) w fun t65_41 w =>
 ∃ n_30, n_30 < m_30 ∧ J_30 n_30 t65_41 w) (
 j_19 w)) (
 run1 Tryz.prog Z (eqOp BinOp.eql 5 false true t46_21 (Value.int IntKind.u8 118)) w fun t78_42 w =>
 CondV t78_42 (
 CallV Tryz.prog Z 153 #[x0] w fun t80_43 w =>
 run1 Tryz.prog Z (Instr.fieldAt 33 t5_2 4) w fun t81_44 w =>
 run0 Tryz.prog Z (Instr.storeAt 21 t81_44 t80_43) w fun w =>
 j_19 w) (
 run1 Tryz.prog Z (eqOp BinOp.eql 5 false true t46_21 (Value.int IntKind.u8 102)) w fun t83_45 w =>
 CondV t83_45 (
 CallV Tryz.prog Z 154 #[x0] w fun t85_46 w =>
 run1 Tryz.prog Z (Instr.fieldAt 33 t5_2 5) w fun t86_47 w =>
 run0 Tryz.prog Z (Instr.storeAt 4 t86_47 t85_46) w fun w =>
 CallV Tryz.prog Z 154 #[x0] w fun t88_48 w =>
 run1 Tryz.prog Z (Instr.fieldAt 33 t5_2 6) w fun t89_49 w =>
 run0 Tryz.prog Z (Instr.storeAt 4 t89_49 t88_48) w fun w =>
 j_19 w) (
 run1 Tryz.prog Z (eqOp BinOp.eql 5 false true t46_21 (Value.int IntKind.u8 115)) w fun t91_50 w =>
 CondV t91_50 (
 run1 Tryz.prog Z (Op.unary UnOp.not x1) w fun t93_51 w =>
 CondV t93_51 (
 CallV Tryz.prog Z 75 #[x0] w fun t95_52 w =>
 run1 Tryz.prog Z (Instr.fieldAt 33 t5_2 7) w fun t96_53 w =>
 run0 Tryz.prog Z (Instr.storeAt 2 t96_53 t95_52) w fun w =>
 j_19 w) (
 j_19 w)) (
 run1 Tryz.prog Z (eqOp BinOp.eql 5 false true t46_21 (Value.int IntKind.u8 116)) w fun t98_54 w =>
 CondV t98_54 (
 CallV Tryz.prog Z 153 #[x0] w fun t100_55 w =>
 run1 Tryz.prog Z (Instr.fieldAt 33 t5_2 8) w fun t101_56 w =>
 run0 Tryz.prog Z (Instr.storeAt 21 t101_56 t100_55) w fun w =>
 j_19 w) (
 run1 Tryz.prog Z (eqOp BinOp.eql 5 false true t46_21 (Value.int IntKind.u8 119)) w fun t103_57 w =>
 CondV t103_57 (
 run1 Tryz.prog Z (Op.unary UnOp.not x1) w fun t105_58 w =>
 CondV t105_58 (
 CallV Tryz.prog Z 151 #[x0, (Value.int IntKind.i64 4)] w fun t107_59 w =>
 ∃ J_60 : Nat → Value → World → Prop, (∃ m, J_60 m (Value.int IntKind.i64 0) w) ∧
 ∀ m_60, ∀ t11_61 : Value, ∀ w : World, J_60 m_60 t11_61 w → Env →
 run1 Tryz.prog Z (binOp BinOp.lss 3 t11_61 t107_59) w fun t110_62 w =>
 CondV t110_62 (
 Drawn w fun w =>
 Pure1 Tryz.prog (Instr.fieldAt 33 t5_2 9) fun t113_63 =>
 Read1 Tryz.prog (Instr.loadAt 30 t113_63) w fun t114_64 =>
 CallV Tryz.prog Z 152 #[x0] w fun t116_65 w =>
 Still Tryz.prog (nx (Instr.loadAt 30 t113_63)) t114_64 w <|
 run1 Tryz.prog Z (Instr.buildSlice 30 1 #[(0, t116_65)]) w fun t117_66 w =>
 Still Tryz.prog (nx (Instr.loadAt 30 t113_63)) t114_64 w <|
 run1 Tryz.prog Z (Builtin.append_ #[30, 30] 30 #[t114_64, t117_66]) w fun t118_67 w =>
 Pure1 Tryz.prog (Instr.fieldAt 33 t5_2 9) fun t119_68 =>
 run0 Tryz.prog Z (Instr.storeAt 30 t119_68 t118_67) w fun w =>
 run1 Tryz.prog Z (binOp BinOp.add 3 t11_61 (Value.int IntKind.i64 1)) w fun t112_69 w =>
 ∃ n_60, n_60 < m_60 ∧ J_60 n_60 t112_69 w) (
 j_19 w)) (
 j_19 w)) (
 run1 Tryz.prog Z (eqOp BinOp.eql 5 false true t46_21 (Value.int IntKind.u8 111)) w fun t121_70 w =>
 CondV t121_70 (
 CallV Tryz.prog Z 151 #[x0, (Value.int IntKind.i64 8)] w fun t123_71 w =>
 ∃ J_72 : Nat → Value → World → Prop, (∃ m, J_72 m (Value.int IntKind.i64 0) w) ∧
 ∀ m_72, ∀ t12_73 : Value, ∀ w : World, J_72 m_72 t12_73 w → Env →
 run1 Tryz.prog Z (binOp BinOp.lss 3 t12_73 t123_71) w fun t126_74 w =>
 CondV t126_74 (
 Drawn w fun w =>
 Pure1 Tryz.prog (Instr.fieldAt 33 t5_2 10) fun t129_75 =>
 Read1 Tryz.prog (Instr.loadAt 31 t129_75) w fun t130_76 =>
 CallV Tryz.prog Z 76 #[x0, (Value.bool true)] w fun t132_77 w =>
 Still Tryz.prog (nx (Instr.loadAt 31 t129_75)) t130_76 w <|
 run1 Tryz.prog Z (Instr.buildSlice 31 1 #[(0, t132_77)]) w fun t133_78 w =>
 Still Tryz.prog (nx (Instr.loadAt 31 t129_75)) t130_76 w <|
 run1 Tryz.prog Z (Builtin.append_ #[31, 31] 31 #[t130_76, t133_78]) w fun t134_79 w =>
 Pure1 Tryz.prog (Instr.fieldAt 33 t5_2 10) fun t135_80 =>
 run0 Tryz.prog Z (Instr.storeAt 31 t135_80 t134_79) w fun w =>
 run1 Tryz.prog Z (binOp BinOp.add 3 t12_73 (Value.int IntKind.i64 1)) w fun t128_81 w =>
 ∃ n_72, n_72 < m_72 ∧ J_72 n_72 t128_81 w) (
 j_19 w)) (
 j_19 w)))))))))) (
 run1 Tryz.prog Z (Instr.loadAt 33 t5_2) w fun t136_82 w =>
 run0 Tryz.prog Z (Instr.storeAt 33 t4_1 t136_82) w fun w =>
 ∃ r_83, (do loadVar 33 (← asAddr t4_1) : Sem Value).run Tryz.prog w = .ok r_83 w ∧
 Q r_83 w)) w) w) w) w) w) →
 j_8 w) →
 run1 Tryz.prog Z (eqOp BinOp.eql 9 false true t18_7 (Value.string { data := #[] })) w fun t20_84 w =>
 guardW (t20_84) false (fun k => k (x1) w) (fun t22_85 w =>
 guardW (t20_84) false (fun k => k (t22_85) w) (fun t23_86 w =>
 guardW (t23_86) true (fun k => run1 Tryz.prog Z (Instr.fieldAt 33 t5_2 0) w k) (fun t24_87 w =>
 guardW (t23_86) true (fun k => run1 Tryz.prog Z (Instr.loadAt 25 t24_87) w k) (fun t25_88 w =>
 guardW (t23_86) true (fun k => run1 Tryz.prog Z (binOp BinOp.gtr 25 t25_88 (Value.int IntKind.i8 5)) w k) (fun t26_89 w =>
 guardW (t20_84) false (fun k => run1 Tryz.prog Z (pickV t23_86 t26_89 (Value.bool false)) w k) (fun t27_90 w =>
 run1 Tryz.prog Z (pickV t20_84 (Value.bool true) t27_90) w fun t28_91 w =>
 CondV t28_91 (
 CallV Tryz.prog Z 148 #[x0, (Value.int IntKind.i64 40)] w fun t30_92 w =>
 j_8 w) (
 j_8 w)) w) w) w) w) w) w
noncomputable def f76.code : Code := match Tryz.f76.body with | some c => c | none => .skip
def f76.an : An := (.sq .leaf (.sq .leaf (.sq .leaf (.sq .leaf (.sj [] [19, 20, 21, 22, 23, 24, 25, 26, 27, 28, 29, 30] (.sq .leaf (.cn .leaf .leaf)) (.sq (.sq .leaf (.bl (.lp [7] [7, 8, 9, 10, 11, 12, 31, 32, 33, 34, 35, 36, 37, 38, 39, 40, 41, 42, 43, 44, 45, 46, 47, 48, 49, 50, 51, 52, 53, 54, 55, 56, 57, 58, 59, 60, 61, 62, 63, 64, 65, 66, 67, 68, 69, 70, 71, 72, 73, 74, 75, 76, 77, 78, 79, 80, 81, 82, 83, 84, 85, 86, 87, 88, 89, 90, 91, 92, 93, 94, 95, 96, 97, 98, 99, 100, 101, 102, 103, 104, 105, 106, 107, 108, 109, 110, 111, 112, 113, 114, 115, 116, 117, 118, 119, 120, 121, 122, 123, 124, 125, 126, 127, 128, 129, 130, 131, 132, 133, 134, 135] (.sq (.sq .leaf (.cn .leaf .leaf)) (.sj [] [8, 9, 10, 11, 12, 44, 45, 46, 47, 48, 49, 50, 51, 52, 53, 54, 55, 56, 57, 58, 59, 60, 61, 62, 63, 64, 65, 66, 67, 68, 69, 70, 71, 72, 73, 74, 75, 76, 77, 78, 79, 80, 81, 82, 83, 84, 85, 86, 87, 88, 89, 90, 91, 92, 93, 94, 95, 96, 97, 98, 99, 100, 101, 102, 103, 104, 105, 106, 107, 108, 109, 110, 111, 112, 113, 114, 115, 116, 117, 118, 119, 120, 121, 122, 123, 124, 125, 126, 127, 128, 129, 130, 131, 132, 133, 134, 135] (.bl (.sq .leaf (.sq .leaf (.bl (.sq .leaf (.cn .leaf (.sq .leaf (.cn .leaf (.sq .leaf (.cn (.sq .leaf (.sq .leaf (.bl (.lp [9] [9, 10, 61, 62, 63, 64, 65, 66, 67, 68, 69, 70, 71, 72, 73, 74, 75, 76] (.sq (.sq .leaf (.cn .leaf .leaf)) (.sq (.bl (.sq .leaf (.dr (.take 0 false (.take 1 true (.take 2 false (.take 3 false (.one 4 (.take 5 false (.one 6 (.one 7 (.take 8 false (.one 9 .fin))))))))))))) .leaf)))))) (.sq .leaf (.cn .leaf (.sq .leaf (.cn (.sq .leaf .leaf) (.sq .leaf (.cn (.sq .leaf (.cn .leaf .leaf)) (.sq .leaf (.cn .leaf (.sq .leaf (.cn (.sq .leaf (.cn (.sq .leaf (.sq .leaf (.bl (.lp [11] [11, 108, 109, 110, 111, 112, 113, 114, 115, 116, 117, 118, 119] (.sq (.sq .leaf (.cn .leaf .leaf)) (.sq (.bl (.dr (.take 0 false (.take 1 true (.take 2 false (.one 3 (.one 4 (.one 5 (.take 6 false (.one 7 .fin)))))))))) .leaf)))))) .leaf)) (.sq .leaf (.cn (.sq .leaf (.sq .leaf (.bl (.lp [12] [12, 124, 125, 126, 127, 128, 129, 130, 131, 132, 133, 134, 135] (.sq (.sq .leaf (.cn .leaf .leaf)) (.sq (.bl (.dr (.take 0 false (.take 1 true (.take 2 false (.one 3 (.one 4 (.one 5 (.take 6 false (.one 7 .fin)))))))))) .leaf)))))) .leaf)))))))))))))))))))))) .leaf))))) (.sq .leaf .leaf)))))))
theorem f76.body_eq : Tryz.f76.body = some f76.code := by kernel_rfl
theorem f76.shape (Z : List PanicEntry → World → Prop) (x0 x1 : Value) (w : World) (Q : Value → World → Prop) : vc drawD Tryz.prog 137 Z [74, 101, 149, 150, 151, 152, 153, 154, 75, 76, 148] f76.an f76.code (fnQ Tryz.prog 137 Tryz.f76.results Q) (argEnv [x0, x1]) w = f76.sh Z x0 x1 w Q := by kernel_rfl
theorem f76.enters : ∀ f, f ∈ ([74, 101, 149, 150, 151, 152, 153, 154, 75, 76, 148] : List Nat) → Enters Tryz.prog f := by
 intro f hf
 simp only [List.mem_cons, List.not_mem_nil, or_false] at hf
 rcases hf with rfl | rfl | rfl | rfl | rfl | rfl | rfl | rfl | rfl | rfl | rfl
 · exact en74
 · exact en101
 · exact en149
 · exact en150
 · exact en151
 · exact en152
 · exact en153
 · exact en154
 · exact en75
 · exact en76
 · exact en148
theorem f76.calls {Z : List PanicEntry → World → Prop} {x0 x1 : Value} {w : World} {Q : Value → World → Prop} (h : f76.sh Z x0 x1 w Q) : CallV Tryz.prog Z 76 #[x0, x1] w Q :=
 calls_of_vcn drawD_sound (Q := Q) (n := 137) (rs := Tryz.f76.results) (an := f76.an) (c := f76.code) (cal := [74, 101, 149, 150, 151, 152, 153, 154, 75, 76, 148]) (args := [x0, x1]) Tryz.func76 (by kernel_rfl) rfl f76.body_eq follows (Nat.le_of_ble_eq_true (by kernel_rfl)) (enters_of_all f76.enters) ((f76.shape Z x0 x1 w Q).mpr h)

def f77.sh (Z : List PanicEntry → World → Prop) (x0 : Value) (w : World) (Q : Value → World → Prop) : Prop :=
 Drawn w fun w =>
 PureV Tryz.prog (nilChk x0) fun t4_1 =>
 Pure1 Tryz.prog (Instr.fieldAt 239 t4_1 2) fun t5_2 =>
 Read1 Tryz.prog (Instr.loadAt 39 t5_2) w fun t6_3 =>
 Pure1 Tryz.prog (eqOp BinOp.eql 39 false true t6_3 (Value.int IntKind.i64 0)) fun t7_4 =>
 guardV (t7_4) true (fun k => k (x0)) (fun t9_5 =>
 guardV (t7_4) true (fun k => PureV Tryz.prog (nilChk t9_5) k) (fun t10_6 =>
 guardV (t7_4) true (fun k => Pure1 Tryz.prog (Instr.fieldAt 239 t10_6 1) k) (fun t11_7 =>
 guardV (t7_4) true (fun k => Read1 Tryz.prog (Instr.loadAt 3 t11_7) w k) (fun t12_8 =>
 guardV (t7_4) true (fun k => k (x0)) (fun t13_9 =>
 guardV (t7_4) true (fun k => PureV Tryz.prog (nilChk t13_9) k) (fun t14_10 =>
 guardV (t7_4) true (fun k => Pure1 Tryz.prog (Instr.fieldAt 239 t14_10 0) k) (fun t15_11 =>
 guardV (t7_4) true (fun k => Read1 Tryz.prog (Instr.loadAt 28 t15_11) w k) (fun t16_12 =>
 guardV (t7_4) true (fun k => Pure1 Tryz.prog (Builtin.len_ #[28] 3 #[t16_12]) k) (fun t17_13 =>
 guardV (t7_4) true (fun k => Pure1 Tryz.prog (binOp BinOp.lss 3 t12_8 t17_13) k) (fun t18_14 =>
 Pure1 Tryz.prog (pickV t7_4 t18_14 (Value.bool false)) fun t19_15 =>
 CondV t19_15 (
 Q (Value.int IntKind.i64 13) w) (
 runX Tryz.prog Z (nilChk x0) w fun t21_16 w =>
 run1 Tryz.prog Z (Instr.fieldAt 239 t21_16 2) w fun t22_17 w =>
 run1 Tryz.prog Z (Instr.loadAt 39 t22_17) w fun t23_18 w =>
 Q t23_18 w)))))))))))
noncomputable def f77.code : Code := match Tryz.f77.body with | some c => c | none => .skip
def f77.an : An := (.sq .leaf (.sq (.sq (.dr (.take 0 false (.take 1 false (.take 2 false (.take 3 true (.take 4 false (.take 5 false (.take 6 false (.take 7 false (.take 8 false (.take 9 true (.take 10 false (.take 11 false (.take 12 false (.take 13 true (.take 14 false (.take 15 false (.take 16 false .fin)))))))))))))))))) (.cn (.sq .leaf .leaf) .leaf)) (.sq .leaf .leaf)))
theorem f77.body_eq : Tryz.f77.body = some f77.code := by kernel_rfl
theorem f77.shape (Z : List PanicEntry → World → Prop) (x0 : Value) (w : World) (Q : Value → World → Prop) : vc drawD Tryz.prog 24 Z [] f77.an f77.code (fnQ Tryz.prog 24 Tryz.f77.results Q) (argEnv [x0]) w = f77.sh Z x0 w Q := by kernel_rfl
theorem f77.enters : ∀ f, f ∈ ([] : List Nat) → Enters Tryz.prog f := by
 intro f hf
 cases hf
theorem f77.calls {Z : List PanicEntry → World → Prop} {x0 : Value} {w : World} {Q : Value → World → Prop} (h : f77.sh Z x0 w Q) : CallV Tryz.prog Z 77 #[x0] w Q :=
 calls_of_vcn drawD_sound (Q := Q) (n := 24) (rs := Tryz.f77.results) (an := f77.an) (c := f77.code) (cal := []) (args := [x0]) Tryz.func77 (by kernel_rfl) rfl f77.body_eq follows (Nat.le_of_ble_eq_true (by kernel_rfl)) (enters_of_all f77.enters) ((f77.shape Z x0 w Q).mpr h)

def f78.sh (Z : List PanicEntry → World → Prop) (x0 x1 : Value) (w : World) (Q : Value → World → Prop) : Prop :=
 runX Tryz.prog Z (nilChk x0) w fun t5_1 w =>
 run1 Tryz.prog Z (Instr.fieldAt 67 t5_1 5) w fun t6_2 w =>
 run1 Tryz.prog Z (Instr.loadAt 50 t6_2) w fun t7_3 w =>
 run1 Tryz.prog Z (Builtin.len_ #[50] 3 #[t7_3]) w fun t8_4 w =>
 run1 Tryz.prog Z (binOp BinOp.lss 3 t8_4 (Value.int IntKind.i64 600)) w fun t9_5 w =>
 CondV t9_5 (
 runX Tryz.prog Z (nilChk x0) w fun t12_6 w =>
 run1 Tryz.prog Z (Instr.fieldAt 67 t12_6 5) w fun t13_7 w =>
 run1 Tryz.prog Z (Instr.loadAt 50 t13_7) w fun t14_8 w =>
 run1 Tryz.prog Z (Instr.buildSlice 50 1 #[(0, x1)]) w fun t16_9 w =>
 run1 Tryz.prog Z (Builtin.append_ #[50, 50] 50 #[t14_8, t16_9]) w fun t17_10 w =>
 runX Tryz.prog Z (nilChk x0) w fun t18_11 w =>
 run1 Tryz.prog Z (Instr.fieldAt 67 t18_11 5) w fun t19_12 w =>
 run0 Tryz.prog Z (Instr.storeAt 50 t19_12 t17_10) w fun w =>
 Q (Value.tuple #[]) w) (
 Q (Value.tuple #[]) w)
noncomputable def f78.code : Code := match Tryz.f78.body with | some c => c | none => .skip
def f78.an : An := (.sq .leaf (.cn .leaf .leaf))
theorem f78.body_eq : Tryz.f78.body = some f78.code := by kernel_rfl
theorem f78.shape (Z : List PanicEntry → World → Prop) (x0 x1 : Value) (w : World) (Q : Value → World → Prop) : vc drawD Tryz.prog 20 Z [] f78.an f78.code (fnQ Tryz.prog 20 Tryz.f78.results Q) (argEnv [x0, x1]) w = f78.sh Z x0 x1 w Q := by kernel_rfl
theorem f78.enters : ∀ f, f ∈ ([] : List Nat) → Enters Tryz.prog f := by
 intro f hf
 cases hf
theorem f78.calls {Z : List PanicEntry → World → Prop} {x0 x1 : Value} {w : World} {Q : Value → World → Prop} (h : f78.sh Z x0 x1 w Q) : CallV Tryz.prog Z 78 #[x0, x1] w Q :=
 calls_of_vcn drawD_sound (Q := Q) (n := 20) (rs := Tryz.f78.results) (an := f78.an) (c := f78.code) (cal := []) (args := [x0, x1]) Tryz.func78 (by kernel_rfl) rfl f78.body_eq follows (Nat.le_of_ble_eq_true (by kernel_rfl)) (enters_of_all f78.enters) ((f78.shape Z x0 x1 w Q).mpr h)

def f79.sh (Z : List PanicEntry → World → Prop) (x0 x1 : Value) (w : World) (Q : Value → World → Prop) : Prop :=
 runX Tryz.prog Z (nilChk x0) w fun t5_1 w =>
 run1 Tryz.prog Z (Instr.fieldAt 67 t5_1 4) w fun t6_2 w =>
 run1 Tryz.prog Z (Instr.loadAt 49 t6_2) w fun t7_3 w =>
 run1 Tryz.prog Z (Builtin.len_ #[49] 3 #[t7_3]) w fun t8_4 w =>
 run1 Tryz.prog Z (binOp BinOp.lss 3 t8_4 (Value.int IntKind.i64 600)) w fun t9_5 w =>
 CondV t9_5 (
 runX Tryz.prog Z (nilChk x0) w fun t12_6 w =>
 run1 Tryz.prog Z (Instr.fieldAt 67 t12_6 4) w fun t13_7 w =>
 run1 Tryz.prog Z (Instr.loadAt 49 t13_7) w fun t14_8 w =>
 run1 Tryz.prog Z (Instr.buildSlice 49 1 #[(0, x1)]) w fun t16_9 w =>
 run1 Tryz.prog Z (Builtin.append_ #[49, 49] 49 #[t14_8, t16_9]) w fun t17_10 w =>
 runX Tryz.prog Z (nilChk x0) w fun t18_11 w =>
 run1 Tryz.prog Z (Instr.fieldAt 67 t18_11 4) w fun t19_12 w =>
 run0 Tryz.prog Z (Instr.storeAt 49 t19_12 t17_10) w fun w =>
 Q (Value.tuple #[]) w) (
 Q (Value.tuple #[]) w)
noncomputable def f79.code : Code := match Tryz.f79.body with | some c => c | none => .skip
def f79.an : An := (.sq .leaf (.cn .leaf .leaf))
theorem f79.body_eq : Tryz.f79.body = some f79.code := by kernel_rfl
theorem f79.shape (Z : List PanicEntry → World → Prop) (x0 x1 : Value) (w : World) (Q : Value → World → Prop) : vc drawD Tryz.prog 20 Z [] f79.an f79.code (fnQ Tryz.prog 20 Tryz.f79.results Q) (argEnv [x0, x1]) w = f79.sh Z x0 x1 w Q := by kernel_rfl
theorem f79.enters : ∀ f, f ∈ ([] : List Nat) → Enters Tryz.prog f := by
 intro f hf
 cases hf
theorem f79.calls {Z : List PanicEntry → World → Prop} {x0 x1 : Value} {w : World} {Q : Value → World → Prop} (h : f79.sh Z x0 x1 w Q) : CallV Tryz.prog Z 79 #[x0, x1] w Q :=
 calls_of_vcn drawD_sound (Q := Q) (n := 20) (rs := Tryz.f79.results) (an := f79.an) (c := f79.code) (cal := []) (args := [x0, x1]) Tryz.func79 (by kernel_rfl) rfl f79.body_eq follows (Nat.le_of_ble_eq_true (by kernel_rfl)) (enters_of_all f79.enters) ((f79.shape Z x0 x1 w Q).mpr h)

def f80.sh (Z : List PanicEntry → World → Prop) (x0 x1 : Value) (w : World) (Q : Value → World → Prop) : Prop :=
 ∀ j_1 : World → Prop, (∀ w : World, (Env →
 ∃ J_2 : Nat → Value → World → Prop, (∃ m, J_2 m (Value.int IntKind.i64 0) w) ∧
 ∀ m_2, ∀ t4_3 : Value, ∀ w : World, J_2 m_2 t4_3 w → Env →
 run1 Tryz.prog Z (Builtin.len_ #[31] 3 #[x1]) w fun t23_4 w =>
 run1 Tryz.prog Z (binOp BinOp.lss 3 t4_3 t23_4) w fun t24_5 w =>
 guardW (t24_5) true (fun k => k (t4_3) w) (fun t26_6 w =>
 guardW (t24_5) true (fun k => run1 Tryz.prog Z (binOp BinOp.lss 3 t26_6 (Value.int IntKind.i64 600)) w k) (fun t27_7 w =>
 run1 Tryz.prog Z (pickV t24_5 t27_7 (Value.bool false)) w fun t28_8 w =>
 CondV t28_8 (
 run1 Tryz.prog Z (Instr.indexAt 31 x1 t4_3) w fun t34_9 w =>
 run1 Tryz.prog Z (Instr.loadAt 33 t34_9) w fun t35_10 w =>
 CallV Tryz.prog Z 22 #[x0, t35_10] w fun t36_11 w =>
 run1 Tryz.prog Z (binOp BinOp.add 3 t4_3 (Value.int IntKind.i64 1)) w fun t30_12 w =>
 ∃ n_2, n_2 < m_2 ∧ J_2 n_2 t30_12 w) (
 Q (Value.tuple #[]) w)) w) w) →
 j_1 w) →
 runX Tryz.prog Z (nilChk x0) w fun t6_13 w =>
 run1 Tryz.prog Z (Instr.fieldAt 67 t6_13 6) w fun t7_14 w =>
 run1 Tryz.prog Z (Instr.loadAt 51 t7_14) w fun t8_15 w =>
 run1 Tryz.prog Z (Builtin.len_ #[51] 3 #[t8_15]) w fun t9_16 w =>
 run1 Tryz.prog Z (binOp BinOp.lss 3 t9_16 (Value.int IntKind.i64 600)) w fun t10_17 w =>
 CondV t10_17 (
 runX Tryz.prog Z (nilChk x0) w fun t13_18 w =>
 run1 Tryz.prog Z (Instr.fieldAt 67 t13_18 6) w fun t14_19 w =>
 run1 Tryz.prog Z (Instr.loadAt 51 t14_19) w fun t15_20 w =>
 run1 Tryz.prog Z (Instr.buildSlice 51 1 #[(0, x1)]) w fun t17_21 w =>
 run1 Tryz.prog Z (Builtin.append_ #[51, 51] 51 #[t15_20, t17_21]) w fun t18_22 w =>
 runX Tryz.prog Z (nilChk x0) w fun t19_23 w =>
 run1 Tryz.prog Z (Instr.fieldAt 67 t19_23 6) w fun t20_24 w =>
 run0 Tryz.prog Z (Instr.storeAt 51 t20_24 t18_22) w fun w =>
 j_1 w) (
 j_1 w)
noncomputable def f80.code : Code := match Tryz.f80.body with | some c => c | none => .skip
def f80.an : An := (.sj [] [5, 6, 7, 8, 9, 10, 11, 12, 13, 14, 15, 16, 17, 18, 19, 20] (.sq .leaf (.cn .leaf .leaf)) (.sq .leaf (.bl (.lp [4] [4, 21, 22, 23, 24, 25, 26, 27, 28, 29, 30, 31, 32, 33, 34, 35, 36] (.sq (.sq .leaf (.cn .leaf .leaf)) (.sq (.bl .leaf) .leaf))))))
theorem f80.body_eq : Tryz.f80.body = some f80.code := by kernel_rfl
theorem f80.shape (Z : List PanicEntry → World → Prop) (x0 x1 : Value) (w : World) (Q : Value → World → Prop) : vc drawD Tryz.prog 37 Z [22] f80.an f80.code (fnQ Tryz.prog 37 Tryz.f80.results Q) (argEnv [x0, x1]) w = f80.sh Z x0 x1 w Q := by kernel_rfl
theorem f80.enters : ∀ f, f ∈ ([22] : List Nat) → Enters Tryz.prog f := by
 intro f hf
 simp only [List.mem_cons, List.not_mem_nil, or_false] at hf
 rcases hf with rfl
 · exact en22
theorem f80.calls {Z : List PanicEntry → World → Prop} {x0 x1 : Value} {w : World} {Q : Value → World → Prop} (h : f80.sh Z x0 x1 w Q) : CallV Tryz.prog Z 80 #[x0, x1] w Q :=
 calls_of_vcn drawD_sound (Q := Q) (n := 37) (rs := Tryz.f80.results) (an := f80.an) (c := f80.code) (cal := [22]) (args := [x0, x1]) Tryz.func80 (by kernel_rfl) rfl f80.body_eq follows (Nat.le_of_ble_eq_true (by kernel_rfl)) (enters_of_all f80.enters) ((f80.shape Z x0 x1 w Q).mpr h)

def f87.sh (Z : List PanicEntry → World → Prop) (x0 : Value) (w : World) (Q : Value → World → Prop) : Prop :=
 run1 Tryz.prog Z (Instr.box 33 x0) w fun t1_1 w =>
 run1 Tryz.prog Z (Instr.fieldAt 33 t1_1 0) w fun t5_2 w =>
 run1 Tryz.prog Z (Instr.loadAt 25 t5_2) w fun t6_3 w =>
 CallV Tryz.prog Z 134 #[t6_3] w fun t7_4 w =>
 run1 Tryz.prog Z (Op.unary UnOp.not t7_4) w fun t8_5 w =>
 guardW (t8_5) false (fun k => run1 Tryz.prog Z (Instr.loadAt 33 t1_1) w k) (fun t10_6 w =>
 guardW (t8_5) false (fun k => CallV Tryz.prog Z 163 #[t10_6] w k) (fun t11_7 w =>
 guardW (t8_5) false (fun k => run1 Tryz.prog Z (Op.unary UnOp.not t11_7) w k) (fun t12_8 w =>
 run1 Tryz.prog Z (pickV t8_5 (Value.bool true) t12_8) w fun t13_9 w =>
 CondV t13_9 (
 Q (Value.int IntKind.i64 40) w) (
 run1 Tryz.prog Z (Instr.fieldAt 33 t1_1 10) w fun t14_10 w =>
 run1 Tryz.prog Z (Instr.loadAt 31 t14_10) w fun t15_11 w =>
 run1 Tryz.prog Z (Builtin.len_ #[31] 3 #[t15_11]) w fun t16_12 w =>
 ∃ J_13 : Nat → Value → World → Prop, (∃ m, J_13 m (Value.int IntKind.i64 0) w) ∧
 ∀ m_13, ∀ t17_14 : Value, ∀ w : World, J_13 m_13 t17_14 w → Env →
 run1 Tryz.prog Z (binOp BinOp.lss 3 t17_14 t16_12) w fun t18_15 w =>
 CondV t18_15 (
 run1 Tryz.prog Z (Instr.indexAt 31 t15_11 t17_14) w fun t19_16 w =>
 run1 Tryz.prog Z (Instr.loadAt 33 t19_16) w fun t20_17 w =>
 run1 Tryz.prog Z (Instr.alloc 33 true (.tuple #[])) w fun t4_18 w =>
 run0 Tryz.prog Z (Instr.storeAt 33 t4_18 t20_17) w fun w =>
 run1 Tryz.prog Z (Instr.loadAt 33 t4_18) w fun t21_19 w =>
 CallV Tryz.prog Z 164 #[t21_19] w fun t22_20 w =>
 run1 Tryz.prog Z (Op.unary UnOp.not t22_20) w fun t23_21 w =>
 CondV t23_21 (
 Q (Value.int IntKind.i64 40) w) (
 run1 Tryz.prog Z (binOp BinOp.add 3 t17_14 (Value.int IntKind.i64 1)) w fun t24_22 w =>
 ∃ n_13, n_13 < m_13 ∧ J_13 n_13 t24_22 w)) (
 Q (Value.int IntKind.i64 0) w))) w) w) w
noncomputable def f87.code : Code := match Tryz.f87.body with | some c => c | none => .skip
def f87.an : An := (.sq .leaf (.sq (.sq .leaf (.cn (.sq .leaf .leaf) .leaf)) (.sq (.sq .leaf (.bl (.lp [17] [2, 4, 17, 18, 19, 20, 21, 22, 23, 24] (.sq .leaf (.sq (.cn .leaf .leaf) (.sq (.bl (.sq .leaf (.sq .leaf (.cn (.sq .leaf .leaf) .leaf)))) .leaf)))))) (.sq .leaf .leaf))))
theorem f87.body_eq : Tryz.f87.body = some f87.code := by kernel_rfl
theorem f87.shape (Z : List PanicEntry → World → Prop) (x0 : Value) (w : World) (Q : Value → World → Prop) : vc drawD Tryz.prog 25 Z [134, 163, 164] f87.an f87.code (fnQ Tryz.prog 25 Tryz.f87.results Q) (argEnv [x0]) w = f87.sh Z x0 w Q := by kernel_rfl
theorem f87.enters : ∀ f, f ∈ ([134, 163, 164] : List Nat) → Enters Tryz.prog f := by
 intro f hf
 simp only [List.mem_cons, List.not_mem_nil, or_false] at hf
 rcases hf with rfl | rfl | rfl
 · exact en134
 · exact en163
 · exact en164
theorem f87.calls {Z : List PanicEntry → World → Prop} {x0 : Value} {w : World} {Q : Value → World → Prop} (h : f87.sh Z x0 w Q) : CallV Tryz.prog Z 87 #[x0] w Q :=
 calls_of_vcn drawD_sound (Q := Q) (n := 25) (rs := Tryz.f87.results) (an := f87.an) (c := f87.code) (cal := [134, 163, 164]) (args := [x0]) Tryz.func87 (by kernel_rfl) rfl f87.body_eq follows (Nat.le_of_ble_eq_true (by kernel_rfl)) (enters_of_all f87.enters) ((f87.shape Z x0 w Q).mpr h)

def f88.sh (Z : List PanicEntry → World → Prop) (x0 x1 x2 : Value) (w : World) (Q : Value → World → Prop) : Prop :=
 run1 Tryz.prog Z (eqOp BinOp.eql 79 false true x0 (Value.pointer none)) w fun t8_1 w =>
 CondV t8_1 (
 Q (Value.tuple #[]) w) (
 run1 Tryz.prog Z (binOp BinOp.sub 3 x2 (Value.int IntKind.i64 1)) w fun t10_2 w =>
 ∃ J_3 : Nat → Value → World → Prop, (∃ m, J_3 m t10_2 w) ∧
 ∀ m_3, ∀ t6_4 : Value, ∀ w : World, J_3 m_3 t6_4 w → Env →
 run1 Tryz.prog Z (binOp BinOp.geq 3 t6_4 (Value.int IntKind.i64 0)) w fun t12_5 w =>
 CondV t12_5 (
 Drawn w fun w =>
 PureV Tryz.prog (nilChk x0) fun t17_6 =>
 Pure1 Tryz.prog (Instr.fieldAt 81 t17_6 0) fun t18_7 =>
 Read1 Tryz.prog (Instr.loadAt 28 t18_7) w fun t19_8 =>
 Pure1 Tryz.prog (binOp BinOp.mul 3 (Value.int IntKind.i64 8) t6_4) fun t22_9 =>
 Pure1 Tryz.prog (binOp BinOp.shr 142 x1 t22_9) fun t23_10 =>
 Pure1 Tryz.prog (convert 142 5 t23_10) fun t24_11 =>
 run1 Tryz.prog Z (Instr.buildSlice 28 1 #[(0, t24_11)]) w fun t25_12 w =>
 Still Tryz.prog (nx (Instr.loadAt 28 t18_7)) t19_8 w <|
 run1 Tryz.prog Z (Builtin.append_ #[28, 28] 28 #[t19_8, t25_12]) w fun t26_13 w =>
 PureV Tryz.prog (nilChk x0) fun t27_14 =>
 Pure1 Tryz.prog (Instr.fieldAt 81 t27_14 0) fun t28_15 =>
 run0 Tryz.prog Z (Instr.storeAt 28 t28_15 t26_13) w fun w =>
 run1 Tryz.prog Z (binOp BinOp.sub 3 t6_4 (Value.int IntKind.i64 1)) w fun t14_16 w =>
 ∃ n_3, n_3 < m_3 ∧ J_3 n_3 t14_16 w) (
 Q (Value.tuple #[]) w))
noncomputable def f88.code : Code := match Tryz.f88.body with | some c => c | none => .skip
def f88.an : An := (.sq (.sq .leaf (.cn .leaf .leaf)) (.sq .leaf (.bl (.lp [6] [6, 11, 12, 13, 14, 15, 16, 17, 18, 19, 20, 21, 22, 23, 24, 25, 26, 27, 28] (.sq (.sq .leaf (.cn .leaf .leaf)) (.sq (.bl (.dr (.take 0 false (.take 1 false (.take 2 false (.take 3 false (.take 4 true (.take 5 false (.take 6 false (.take 7 false (.take 8 false (.take 9 false (.one 10 (.one 11 (.take 12 false (.take 13 false (.one 14 .fin))))))))))))))))) .leaf))))))
theorem f88.body_eq : Tryz.f88.body = some f88.code := by kernel_rfl
theorem f88.shape (Z : List PanicEntry → World → Prop) (x0 x1 x2 : Value) (w : World) (Q : Value → World → Prop) : vc drawD Tryz.prog 29 Z [] f88.an f88.code (fnQ Tryz.prog 29 Tryz.f88.results Q) (argEnv [x0, x1, x2]) w = f88.sh Z x0 x1 x2 w Q := by kernel_rfl
theorem f88.enters : ∀ f, f ∈ ([] : List Nat) → Enters Tryz.prog f := by
 intro f hf
 cases hf
theorem f88.calls {Z : List PanicEntry → World → Prop} {x0 x1 x2 : Value} {w : World} {Q : Value → World → Prop} (h : f88.sh Z x0 x1 x2 w Q) : CallV Tryz.prog Z 88 #[x0, x1, x2] w Q :=
 calls_of_vcn drawD_sound (Q := Q) (n := 29) (rs := Tryz.f88.results) (an := f88.an) (c := f88.code) (cal := []) (args := [x0, x1, x2]) Tryz.func88 (by kernel_rfl) rfl f88.body_eq follows (Nat.le_of_ble_eq_true (by kernel_rfl)) (enters_of_all f88.enters) ((f88.shape Z x0 x1 x2 w Q).mpr h)

def f89.sh (Z : List PanicEntry → World → Prop) (x0 x1 : Value) (w : World) (Q : Value → World → Prop) : Prop :=
 run1 Tryz.prog Z (Instr.box 86 x0) w fun t2_1 w =>
 run1 Tryz.prog Z (Instr.fieldAt 86 t2_1 0) w fun t5_2 w =>
 run1 Tryz.prog Z (Instr.loadAt 4 t5_2) w fun t6_3 w =>
 CondV t6_3 (
 run1 Tryz.prog Z (Instr.indexAt 245 (Value.pointer (some ⟨0, 0, none⟩)) x1) w fun t8_4 w =>
 run1 Tryz.prog Z (Instr.loadAt 143 t8_4) w fun t9_5 w =>
 run1 Tryz.prog Z (binOp BinOp.andNot 143 t9_5 (Value.int IntKind.u64 160)) w fun t10_6 w =>
 Q t10_6 w) (
 run1 Tryz.prog Z (Instr.indexAt 245 (Value.pointer (some ⟨0, 0, none⟩)) x1) w fun t12_7 w =>
 run1 Tryz.prog Z (Instr.loadAt 143 t12_7) w fun t13_8 w =>
 Q t13_8 w)
noncomputable def f89.code : Code := match Tryz.f89.body with | some c => c | none => .skip
def f89.an : An := (.sq .leaf (.sq (.sq .leaf (.cn (.sq .leaf .leaf) .leaf)) (.sq .leaf .leaf)))
theorem f89.body_eq : Tryz.f89.body = some f89.code := by kernel_rfl
theorem f89.shape (Z : List PanicEntry → World → Prop) (x0 x1 : Value) (w : World) (Q : Value → World → Prop) : vc drawD Tryz.prog 14 Z [] f89.an f89.code (fnQ Tryz.prog 14 Tryz.f89.results Q) (argEnv [x0, x1]) w = f89.sh Z x0 x1 w Q := by kernel_rfl
theorem f89.enters : ∀ f, f ∈ ([] : List Nat) → Enters Tryz.prog f := by
 intro f hf
 cases hf
theorem f89.calls {Z : List PanicEntry → World → Prop} {x0 x1 : Value} {w : World} {Q : Value → World → Prop} (h : f89.sh Z x0 x1 w Q) : CallV Tryz.prog Z 89 #[x0, x1] w Q :=
 calls_of_vcn drawD_sound (Q := Q) (n := 14) (rs := Tryz.f89.results) (an := f89.an) (c := f89.code) (cal := []) (args := [x0, x1]) Tryz.func89 (by kernel_rfl) rfl f89.body_eq follows (Nat.le_of_ble_eq_true (by kernel_rfl)) (enters_of_all f89.enters) ((f89.shape Z x0 x1 w Q).mpr h)

def f90.sh (Z : List PanicEntry → World → Prop) (x0 x1 : Value) (w : World) (Q : Value → World → Prop) : Prop :=
 run1 Tryz.prog Z (eqOp BinOp.eql 79 false true x0 (Value.pointer none)) w fun t5_1 w =>
 CondV t5_1 (
 Q (Value.tuple #[]) w) (
 run1 Tryz.prog Z (Builtin.len_ #[9] 3 #[x1]) w fun t8_2 w =>
 run1 Tryz.prog Z (convert 3 21 t8_2) w fun t9_3 w =>
 CallV Tryz.prog Z 94 #[x0, t9_3] w fun t10_4 w =>
 runX Tryz.prog Z (nilChk x0) w fun t13_5 w =>
 run1 Tryz.prog Z (Instr.fieldAt 81 t13_5 0) w fun t14_6 w =>
 run1 Tryz.prog Z (Instr.loadAt 28 t14_6) w fun t15_7 w =>
 run1 Tryz.prog Z (Builtin.append_ #[28, 9] 28 #[t15_7, x1]) w fun t17_8 w =>
 runX Tryz.prog Z (nilChk x0) w fun t18_9 w =>
 run1 Tryz.prog Z (Instr.fieldAt 81 t18_9 0) w fun t19_10 w =>
 run0 Tryz.prog Z (Instr.storeAt 28 t19_10 t17_8) w fun w =>
 Q (Value.tuple #[]) w)
noncomputable def f90.code : Code := match Tryz.f90.body with | some c => c | none => .skip
def f90.an : An := (.sq (.sq .leaf (.cn .leaf .leaf)) (.sq .leaf .leaf))
theorem f90.body_eq : Tryz.f90.body = some f90.code := by kernel_rfl
theorem f90.shape (Z : List PanicEntry → World → Prop) (x0 x1 : Value) (w : World) (Q : Value → World → Prop) : vc drawD Tryz.prog 20 Z [94] f90.an f90.code (fnQ Tryz.prog 20 Tryz.f90.results Q) (argEnv [x0, x1]) w = f90.sh Z x0 x1 w Q := by kernel_rfl
theorem f90.enters : ∀ f, f ∈ ([94] : List Nat) → Enters Tryz.prog f := by
 intro f hf
 simp only [List.mem_cons, List.not_mem_nil, or_false] at hf
 rcases hf with rfl
 · exact en94
theorem f90.calls {Z : List PanicEntry → World → Prop} {x0 x1 : Value} {w : World} {Q : Value → World → Prop} (h : f90.sh Z x0 x1 w Q) : CallV Tryz.prog Z 90 #[x0, x1] w Q :=
 calls_of_vcn drawD_sound (Q := Q) (n := 20) (rs := Tryz.f90.results) (an := f90.an) (c := f90.code) (cal := [94]) (args := [x0, x1]) Tryz.func90 (by kernel_rfl) rfl f90.body_eq follows (Nat.le_of_ble_eq_true (by kernel_rfl)) (enters_of_all f90.enters) ((f90.shape Z x0 x1 w Q).mpr h)

def f91.sh (Z : List PanicEntry → World → Prop) (x0 x1 : Value) (w : World) (Q : Value → World → Prop) : Prop :=
 run1 Tryz.prog Z (eqOp BinOp.eql 79 false true x0 (Value.pointer none)) w fun t5_1 w =>
 CondV t5_1 (
 Q (Value.tuple #[]) w) (
 run1 Tryz.prog Z (Builtin.len_ #[28] 3 #[x1]) w fun t8_2 w =>
 run1 Tryz.prog Z (convert 3 21 t8_2) w fun t9_3 w =>
 CallV Tryz.prog Z 94 #[x0, t9_3] w fun t10_4 w =>
 CallV Tryz.prog Z 165 #[x0, x1] w fun t13_5 w =>
 Q (Value.tuple #[]) w)
noncomputable def f91.code : Code := match Tryz.f91.body with | some c => c | none => .skip
def f91.an : An := (.sq (.sq .leaf (.cn .leaf .leaf)) (.sq .leaf .leaf))
theorem f91.body_eq : Tryz.f91.body = some f91.code := by kernel_rfl
theorem f91.shape (Z : List PanicEntry → World → Prop) (x0 x1 : Value) (w : World) (Q : Value → World → Prop) : vc drawD Tryz.prog 14 Z [94, 165] f91.an f91.code (fnQ Tryz.prog 14 Tryz.f91.results Q) (argEnv [x0, x1]) w = f91.sh Z x0 x1 w Q := by kernel_rfl
theorem f91.enters : ∀ f, f ∈ ([94, 165] : List Nat) → Enters Tryz.prog f := by
 intro f hf
 simp only [List.mem_cons, List.not_mem_nil, or_false] at hf
 rcases hf with rfl | rfl
 · exact en94
 · exact en165
theorem f91.calls {Z : List PanicEntry → World → Prop} {x0 x1 : Value} {w : World} {Q : Value → World → Prop} (h : f91.sh Z x0 x1 w Q) : CallV Tryz.prog Z 91 #[x0, x1] w Q :=
 calls_of_vcn drawD_sound (Q := Q) (n := 14) (rs := Tryz.f91.results) (an := f91.an) (c := f91.code) (cal := [94, 165]) (args := [x0, x1]) Tryz.func91 (by kernel_rfl) rfl f91.body_eq follows (Nat.le_of_ble_eq_true (by kernel_rfl)) (enters_of_all f91.enters) ((f91.shape Z x0 x1 w Q).mpr h)

def f92.sh (Z : List PanicEntry → World → Prop) (x0 x1 x2 : Value) (w : World) (Q : Value → World → Prop) : Prop :=
 run1 Tryz.prog Z (eqOp BinOp.eql 79 false true x0 (Value.pointer none)) w fun t9_1 w =>
 CondV t9_1 (
 Q (Value.tuple #[]) w) (
 run1 Tryz.prog Z (Builtin.len_ #[29] 3 #[x1]) w fun t12_2 w =>
 run1 Tryz.prog Z (convert 3 21 t12_2) w fun t13_3 w =>
 CallV Tryz.prog Z 94 #[x0, t13_3] w fun t14_4 w =>
 run1 Tryz.prog Z (eqOp BinOp.eql 147 false true x2 Value.nilFunc) w fun t16_5 w =>
 CondV t16_5 (
 Q (Value.tuple #[]) w) (
 run1 Tryz.prog Z (Builtin.len_ #[29] 3 #[x1]) w fun t18_6 w =>
 ∃ J_7 : Nat → Value → World → Prop, (∃ m, J_7 m (Value.int IntKind.i64 0) w) ∧
 ∀ m_7, ∀ t19_8 : Value, ∀ w : World, J_7 m_7 t19_8 w → Env →
 run1 Tryz.prog Z (binOp BinOp.lss 3 t19_8 t18_6) w fun t20_9 w =>
 CondV t20_9 (
 run1 Tryz.prog Z (Instr.indexAt 29 x1 t19_8) w fun t21_10 w =>
 run1 Tryz.prog Z (Instr.loadAt 122 t21_10) w fun t22_11 w =>
 run1 Tryz.prog Z (Instr.alloc 122 true (.tuple #[])) w fun t7_12 w =>
 run0 Tryz.prog Z (Instr.storeAt 122 t7_12 t22_11) w fun w =>
 run1 Tryz.prog Z (Instr.loadAt 122 t7_12) w fun t25_13 w =>
 runX Tryz.prog Z (callVal x2 #[x0, t25_13]) w fun t26_14 w =>
 run1 Tryz.prog Z (binOp BinOp.add 3 t19_8 (Value.int IntKind.i64 1)) w fun t27_15 w =>
 ∃ n_7, n_7 < m_7 ∧ J_7 n_7 t27_15 w) (
 Q (Value.tuple #[]) w)))
noncomputable def f92.code : Code := match Tryz.f92.body with | some c => c | none => .skip
def f92.an : An := (.sq (.sq .leaf (.cn .leaf .leaf)) (.sq .leaf (.sq (.sq .leaf (.cn .leaf .leaf)) (.sq .leaf (.bl (.lp [19] [7, 19, 20, 21, 22, 23, 24, 25, 26, 27] (.sq .leaf (.sq (.cn .leaf .leaf) (.sq (.bl (.sq .leaf .leaf)) .leaf)))))))))
theorem f92.body_eq : Tryz.f92.body = some f92.code := by kernel_rfl
theorem f92.shape (Z : List PanicEntry → World → Prop) (x0 x1 x2 : Value) (w : World) (Q : Value → World → Prop) : vc drawD Tryz.prog 28 Z [94] f92.an f92.code (fnQ Tryz.prog 28 Tryz.f92.results Q) (argEnv [x0, x1, x2]) w = f92.sh Z x0 x1 x2 w Q := by kernel_rfl
theorem f92.enters : ∀ f, f ∈ ([94] : List Nat) → Enters Tryz.prog f := by
 intro f hf
 simp only [List.mem_cons, List.not_mem_nil, or_false] at hf
 rcases hf with rfl
 · exact en94
theorem f92.calls {Z : List PanicEntry → World → Prop} {x0 x1 x2 : Value} {w : World} {Q : Value → World → Prop} (h : f92.sh Z x0 x1 x2 w Q) : CallV Tryz.prog Z 92 #[x0, x1, x2] w Q :=
 calls_of_vcn drawD_sound (Q := Q) (n := 28) (rs := Tryz.f92.results) (an := f92.an) (c := f92.code) (cal := [94]) (args := [x0, x1, x2]) Tryz.func92 (by kernel_rfl) rfl f92.body_eq follows (Nat.le_of_ble_eq_true (by kernel_rfl)) (enters_of_all f92.enters) ((f92.shape Z x0 x1 x2 w Q).mpr h)

def f93.sh (Z : List PanicEntry → World → Prop) (x0 x1 : Value) (w : World) (Q : Value → World → Prop) : Prop :=
 run1 Tryz.prog Z (Instr.box 122 x1) w fun t3_1 w =>
 run1 Tryz.prog Z (Instr.fieldAt 122 t3_1 0) w fun t5_2 w =>
 run1 Tryz.prog Z (Instr.loadAt 25 t5_2) w fun t6_3 w =>
 CallV Tryz.prog Z 30 #[x0, t6_3] w fun t7_4 w =>
 run1 Tryz.prog Z (Instr.fieldAt 122 t3_1 1) w fun t9_5 w =>
 run1 Tryz.prog Z (Instr.loadAt 120 t9_5) w fun t10_6 w =>
 CallV Tryz.prog Z 97 #[x0, t10_6] w fun t11_7 w =>
 Q (Value.tuple #[]) w
noncomputable def f93.code : Code := match Tryz.f93.body with | some c => c | none => .skip
def f93.an : An := (.sq .leaf (.sq .leaf .leaf))
theorem f93.body_eq : Tryz.f93.body = some f93.code := by kernel_rfl
theorem f93.shape (Z : List PanicEntry → World → Prop) (x0 x1 : Value) (w : World) (Q : Value → World → Prop) : vc drawD Tryz.prog 12 Z [30, 97] f93.an f93.code (fnQ Tryz.prog 12 Tryz.f93.results Q) (argEnv [x0, x1]) w = f93.sh Z x0 x1 w Q := by kernel_rfl
theorem f93.enters : ∀ f, f ∈ ([30, 97] : List Nat) → Enters Tryz.prog f := by
 intro f hf
 simp only [List.mem_cons, List.not_mem_nil, or_false] at hf
 rcases hf with rfl | rfl
 · exact en30
 · exact en97
theorem f93.calls {Z : List PanicEntry → World → Prop} {x0 x1 : Value} {w : World} {Q : Value → World → Prop} (h : f93.sh Z x0 x1 w Q) : CallV Tryz.prog Z 93 #[x0, x1] w Q :=
 calls_of_vcn drawD_sound (Q := Q) (n := 12) (rs := Tryz.f93.results) (an := f93.an) (c := f93.code) (cal := [30, 97]) (args := [x0, x1]) Tryz.func93 (by kernel_rfl) rfl f93.body_eq follows (Nat.le_of_ble_eq_true (by kernel_rfl)) (enters_of_all f93.enters) ((f93.shape Z x0 x1 w Q).mpr h)

def f94.sh (Z : List PanicEntry → World → Prop) (x0 x1 : Value) (w : World) (Q : Value → World → Prop) : Prop :=
 run1 Tryz.prog Z (convert 21 142 x1) w fun t6_1 w =>
 CallV Tryz.prog Z 88 #[x0, t6_1, (Value.int IntKind.i64 4)] w fun t7_2 w =>
 Q (Value.tuple #[]) w
noncomputable def f94.code : Code := match Tryz.f94.body with | some c => c | none => .skip
def f94.an : An := .leaf
theorem f94.body_eq : Tryz.f94.body = some f94.code := by kernel_rfl
theorem f94.shape (Z : List PanicEntry → World → Prop) (x0 x1 : Value) (w : World) (Q : Value → World → Prop) : vc drawD Tryz.prog 8 Z [88] f94.an f94.code (fnQ Tryz.prog 8 Tryz.f94.results Q) (argEnv [x0, x1]) w = f94.sh Z x0 x1 w Q := by kernel_rfl
theorem f94.enters : ∀ f, f ∈ ([88] : List Nat) → Enters Tryz.prog f := by
 intro f hf
 simp only [List.mem_cons, List.not_mem_nil, or_false] at hf
 rcases hf with rfl
 · exact en88
theorem f94.calls {Z : List PanicEntry → World → Prop} {x0 x1 : Value} {w : World} {Q : Value → World → Prop} (h : f94.sh Z x0 x1 w Q) : CallV Tryz.prog Z 94 #[x0, x1] w Q :=
 calls_of_vcn drawD_sound (Q := Q) (n := 8) (rs := Tryz.f94.results) (an := f94.an) (c := f94.code) (cal := [88]) (args := [x0, x1]) Tryz.func94 (by kernel_rfl) rfl f94.body_eq follows (Nat.le_of_ble_eq_true (by kernel_rfl)) (enters_of_all f94.enters) ((f94.shape Z x0 x1 w Q).mpr h)

def f95.sh (Z : List PanicEntry → World → Prop) (x0 x1 : Value) (w : World) (Q : Value → World → Prop) : Prop :=
 ∀ j_1 : Value → World → Prop, (∀ t4_2 : Value, ∀ w : World, (Env →
 CallV Tryz.prog Z 88 #[x0, t4_2, (Value.int IntKind.i64 1)] w fun t8_3 w =>
 Q (Value.tuple #[]) w) →
 j_1 t4_2 w) →
 CondV x1 (
 j_1 (Value.int IntKind.u64 1) w) (
 j_1 (Value.int IntKind.u64 0) w)
noncomputable def f95.code : Code := match Tryz.f95.body with | some c => c | none => .skip
def f95.an : An := (.sq .leaf (.sj [4] [4, 5] (.sq .leaf (.cn .leaf .leaf)) .leaf))
theorem f95.body_eq : Tryz.f95.body = some f95.code := by kernel_rfl
theorem f95.shape (Z : List PanicEntry → World → Prop) (x0 x1 : Value) (w : World) (Q : Value → World → Prop) : vc drawD Tryz.prog 9 Z [88] f95.an f95.code (fnQ Tryz.prog 9 Tryz.f95.results Q) (argEnv [x0, x1]) w = f95.sh Z x0 x1 w Q := by kernel_rfl
theorem f95.enters : ∀ f, f ∈ ([88] : List Nat) → Enters Tryz.prog f := by
 intro f hf
 simp only [List.mem_cons, List.not_mem_nil, or_false] at hf
 rcases hf with rfl
 · exact en88
theorem f95.calls {Z : List PanicEntry → World → Prop} {x0 x1 : Value} {w : World} {Q : Value → World → Prop} (h : f95.sh Z x0 x1 w Q) : CallV Tryz.prog Z 95 #[x0, x1] w Q :=
 calls_of_vcn drawD_sound (Q := Q) (n := 9) (rs := Tryz.f95.results) (an := f95.an) (c := f95.code) (cal := [88]) (args := [x0, x1]) Tryz.func95 (by kernel_rfl) rfl f95.body_eq follows (Nat.le_of_ble_eq_true (by kernel_rfl)) (enters_of_all f95.enters) ((f95.shape Z x0 x1 w Q).mpr h)

def f96.sh (Z : List PanicEntry → World → Prop) (x0 x1 x2 : Value) (w : World) (Q : Value → World → Prop) : Prop :=
 run1 Tryz.prog Z (eqOp BinOp.eql 79 false true x0 (Value.pointer none)) w fun t9_1 w =>
 CondV t9_1 (
 Q (Value.tuple #[]) w) (
 run1 Tryz.prog Z (Builtin.len_ #[30] 3 #[x1]) w fun t12_2 w =>
 run1 Tryz.prog Z (convert 3 21 t12_2) w fun t13_3 w =>
 CallV Tryz.prog Z 94 #[x0, t13_3] w fun t14_4 w =>
 run1 Tryz.prog Z (eqOp BinOp.eql 151 false true x2 Value.nilFunc) w fun t16_5 w =>
 CondV t16_5 (
 Q (Value.tuple #[]) w) (
 run1 Tryz.prog Z (Builtin.len_ #[30] 3 #[x1]) w fun t18_6 w =>
 ∃ J_7 : Nat → Value → World → Prop, (∃ m, J_7 m (Value.int IntKind.i64 0) w) ∧
 ∀ m_7, ∀ t19_8 : Value, ∀ w : World, J_7 m_7 t19_8 w → Env →
 run1 Tryz.prog Z (binOp BinOp.lss 3 t19_8 t18_6) w fun t20_9 w =>
 CondV t20_9 (
 run1 Tryz.prog Z (Instr.indexAt 30 x1 t19_8) w fun t21_10 w =>
 run1 Tryz.prog Z (Instr.loadAt 120 t21_10) w fun t22_11 w =>
 run1 Tryz.prog Z (Instr.alloc 120 true (.tuple #[])) w fun t7_12 w =>
 run0 Tryz.prog Z (Instr.storeAt 120 t7_12 t22_11) w fun w =>
 run1 Tryz.prog Z (Instr.loadAt 120 t7_12) w fun t25_13 w =>
 runX Tryz.prog Z (callVal x2 #[x0, t25_13]) w fun t26_14 w =>
 run1 Tryz.prog Z (binOp BinOp.add 3 t19_8 (Value.int IntKind.i64 1)) w fun t27_15 w =>
 ∃ n_7, n_7 < m_7 ∧ J_7 n_7 t27_15 w) (
 Q (Value.tuple #[]) w)))
noncomputable def f96.code : Code := match Tryz.f96.body with | some c => c | none => .skip
def f96.an : An := (.sq (.sq .leaf (.cn .leaf .leaf)) (.sq .leaf (.sq (.sq .leaf (.cn .leaf .leaf)) (.sq .leaf (.bl (.lp [19] [7, 19, 20, 21, 22, 23, 24, 25, 26, 27] (.sq .leaf (.sq (.cn .leaf .leaf) (.sq (.bl (.sq .leaf .leaf)) .leaf)))))))))
theorem f96.body_eq : Tryz.f96.body = some f96.code := by kernel_rfl
theorem f96.shape (Z : List PanicEntry → World → Prop) (x0 x1 x2 : Value) (w : World) (Q : Value → World → Prop) : vc drawD Tryz.prog 28 Z [94] f96.an f96.code (fnQ Tryz.prog 28 Tryz.f96.results Q) (argEnv [x0, x1, x2]) w = f96.sh Z x0 x1 x2 w Q := by kernel_rfl
theorem f96.enters : ∀ f, f ∈ ([94] : List Nat) → Enters Tryz.prog f := by
 intro f hf
 simp only [List.mem_cons, List.not_mem_nil, or_false] at hf
 rcases hf with rfl
 · exact en94
theorem f96.calls {Z : List PanicEntry → World → Prop} {x0 x1 x2 : Value} {w : World} {Q : Value → World → Prop} (h : f96.sh Z x0 x1 x2 w Q) : CallV Tryz.prog Z 96 #[x0, x1, x2] w Q :=
 calls_of_vcn drawD_sound (Q := Q) (n := 28) (rs := Tryz.f96.results) (an := f96.an) (c := f96.code) (cal := [94]) (args := [x0, x1, x2]) Tryz.func96 (by kernel_rfl) rfl f96.body_eq follows (Nat.le_of_ble_eq_true (by kernel_rfl)) (enters_of_all f96.enters) ((f96.shape Z x0 x1 x2 w Q).mpr h)

def f97.sh (Z : List PanicEntry → World → Prop) (x0 x1 : Value) (w : World) (Q : Value → World → Prop) : Prop :=
 run1 Tryz.prog Z (Instr.box 120 x1) w fun t3_1 w =>
 run1 Tryz.prog Z (Instr.fieldAt 120 t3_1 0) w fun t5_2 w =>
 run1 Tryz.prog Z (Instr.loadAt 9 t5_2) w fun t6_3 w =>
 CallV Tryz.prog Z 90 #[x0, t6_3] w fun t7_4 w =>
 run1 Tryz.prog Z (Instr.fieldAt 120 t3_1 1) w fun t9_5 w =>
 run1 Tryz.prog Z (Instr.loadAt 9 t9_5) w fun t10_6 w =>
 CallV Tryz.prog Z 90 #[x0, t10_6] w fun t11_7 w =>
 Q (Value.tuple #[]) w
noncomputable def f97.code : Code := match Tryz.f97.body with | some c => c | none => .skip
def f97.an : An := (.sq .leaf (.sq .leaf .leaf))
theorem f97.body_eq : Tryz.f97.body = some f97.code := by kernel_rfl
theorem f97.shape (Z : List PanicEntry → World → Prop) (x0 x1 : Value) (w : World) (Q : Value → World → Prop) : vc drawD Tryz.prog 12 Z [90] f97.an f97.code (fnQ Tryz.prog 12 Tryz.f97.results Q) (argEnv [x0, x1]) w = f97.sh Z x0 x1 w Q := by kernel_rfl
theorem f97.enters : ∀ f, f ∈ ([90] : List Nat) → Enters Tryz.prog f := by
 intro f hf
 simp only [List.mem_cons, List.not_mem_nil, or_false] at hf
 rcases hf with rfl
 · exact en90
theorem f97.calls {Z : List PanicEntry → World → Prop} {x0 x1 : Value} {w : World} {Q : Value → World → Prop} (h : f97.sh Z x0 x1 w Q) : CallV Tryz.prog Z 97 #[x0, x1] w Q :=
 calls_of_vcn drawD_sound (Q := Q) (n := 12) (rs := Tryz.f97.results) (an := f97.an) (c := f97.code) (cal := [90]) (args := [x0, x1]) Tryz.func97 (by kernel_rfl) rfl f97.body_eq follows (Nat.le_of_ble_eq_true (by kernel_rfl)) (enters_of_all f97.enters) ((f97.shape Z x0 x1 w Q).mpr h)

def f98.sh (Z : List PanicEntry → World → Prop) (x0 x1 x2 : Value) (w : World) (Q : Value → World → Prop) : Prop :=
 run1 Tryz.prog Z (eqOp BinOp.eql 79 false true x0 (Value.pointer none)) w fun t9_1 w =>
 CondV t9_1 (
 Q (Value.tuple #[]) w) (
 run1 Tryz.prog Z (Builtin.len_ #[31] 3 #[x1]) w fun t12_2 w =>
 run1 Tryz.prog Z (convert 3 21 t12_2) w fun t13_3 w =>
 CallV Tryz.prog Z 94 #[x0, t13_3] w fun t14_4 w =>
 run1 Tryz.prog Z (eqOp BinOp.eql 87 false true x2 Value.nilFunc) w fun t16_5 w =>
 CondV t16_5 (
 Q (Value.tuple #[]) w) (
 run1 Tryz.prog Z (Builtin.len_ #[31] 3 #[x1]) w fun t18_6 w =>
 ∃ J_7 : Nat → Value → World → Prop, (∃ m, J_7 m (Value.int IntKind.i64 0) w) ∧
 ∀ m_7, ∀ t19_8 : Value, ∀ w : World, J_7 m_7 t19_8 w → Env →
 run1 Tryz.prog Z (binOp BinOp.lss 3 t19_8 t18_6) w fun t20_9 w =>
 CondV t20_9 (
 run1 Tryz.prog Z (Instr.indexAt 31 x1 t19_8) w fun t21_10 w =>
 run1 Tryz.prog Z (Instr.loadAt 33 t21_10) w fun t22_11 w =>
 run1 Tryz.prog Z (Instr.alloc 33 true (.tuple #[])) w fun t7_12 w =>
 run0 Tryz.prog Z (Instr.storeAt 33 t7_12 t22_11) w fun w =>
 run1 Tryz.prog Z (Instr.loadAt 33 t7_12) w fun t25_13 w =>
 runX Tryz.prog Z (callVal x2 #[x0, t25_13]) w fun t26_14 w =>
 run1 Tryz.prog Z (binOp BinOp.add 3 t19_8 (Value.int IntKind.i64 1)) w fun t27_15 w =>
 ∃ n_7, n_7 < m_7 ∧ J_7 n_7 t27_15 w) (
 Q (Value.tuple #[]) w)))
noncomputable def f98.code : Code := match Tryz.f98.body with | some c => c | none => .skip
def f98.an : An := (.sq (.sq .leaf (.cn .leaf .leaf)) (.sq .leaf (.sq (.sq .leaf (.cn .leaf .leaf)) (.sq .leaf (.bl (.lp [19] [7, 19, 20, 21, 22, 23, 24, 25, 26, 27] (.sq .leaf (.sq (.cn .leaf .leaf) (.sq (.bl (.sq .leaf .leaf)) .leaf)))))))))
theorem f98.body_eq : Tryz.f98.body = some f98.code := by kernel_rfl
theorem f98.shape (Z : List PanicEntry → World → Prop) (x0 x1 x2 : Value) (w : World) (Q : Value → World → Prop) : vc drawD Tryz.prog 28 Z [94] f98.an f98.code (fnQ Tryz.prog 28 Tryz.f98.results Q) (argEnv [x0, x1, x2]) w = f98.sh Z x0 x1 x2 w Q := by kernel_rfl
theorem f98.enters : ∀ f, f ∈ ([94] : List Nat) → Enters Tryz.prog f := by
 intro f hf
 simp only [List.mem_cons, List.not_mem_nil, or_false] at hf
 rcases hf with rfl
 · exact en94
theorem f98.calls {Z : List PanicEntry → World → Prop} {x0 x1 x2 : Value} {w : World} {Q : Value → World → Prop} (h : f98.sh Z x0 x1 x2 w Q) : CallV Tryz.prog Z 98 #[x0, x1, x2] w Q :=
 calls_of_vcn drawD_sound (Q := Q) (n := 28) (rs := Tryz.f98.results) (an := f98.an) (c := f98.code) (cal := [94]) (args := [x0, x1, x2]) Tryz.func98 (by kernel_rfl) rfl f98.body_eq follows (Nat.le_of_ble_eq_true (by kernel_rfl)) (enters_of_all f98.enters) ((f98.shape Z x0 x1 x2 w Q).mpr h)

def f99.sh (Z : List PanicEntry → World → Prop) (x0 : Value) (w : World) (Q : Value → World → Prop) : Prop :=
 run1 Tryz.prog Z (Instr.box 33 x0) w fun t1_1 w =>
 run1 Tryz.prog Z (Instr.loadAt 33 t1_1) w fun t5_2 w =>
 CallV Tryz.prog Z 166 #[t5_2] w fun t6_3 w =>
 run1 Tryz.prog Z (Op.unary UnOp.not t6_3) w fun t7_4 w =>
 CondV t7_4 (
 Q (Value.int IntKind.i64 40) w) (
 ∃ J_5 : Nat → Value → World → Prop, (∃ m, J_5 m (Value.int IntKind.i64 0) w) ∧
 ∀ m_5, ∀ t3_6 : Value, ∀ w : World, J_5 m_5 t3_6 w → Env →
 run1 Tryz.prog Z (Instr.fieldAt 33 t1_1 10) w fun t9_7 w =>
 run1 Tryz.prog Z (Instr.loadAt 31 t9_7) w fun t10_8 w =>
 run1 Tryz.prog Z (Builtin.len_ #[31] 3 #[t10_8]) w fun t11_9 w =>
 run1 Tryz.prog Z (binOp BinOp.lss 3 t3_6 t11_9) w fun t12_10 w =>
 CondV t12_10 (
 run1 Tryz.prog Z (Instr.fieldAt 33 t1_1 10) w fun t15_11 w =>
 run1 Tryz.prog Z (Instr.loadAt 31 t15_11) w fun t16_12 w =>
 run1 Tryz.prog Z (Instr.indexAt 31 t16_12 t3_6) w fun t18_13 w =>
 run1 Tryz.prog Z (Instr.loadAt 33 t18_13) w fun t19_14 w =>
 run1 Tryz.prog Z (Instr.alloc 33 true (.tuple #[])) w fun t4_15 w =>
 run0 Tryz.prog Z (Instr.storeAt 33 t4_15 t19_14) w fun w =>
 run1 Tryz.prog Z (Instr.fieldAt 33 t4_15 0) w fun t20_16 w =>
 run1 Tryz.prog Z (Instr.loadAt 25 t20_16) w fun t21_17 w =>
 run1 Tryz.prog Z (binOp BinOp.lss 25 t21_17 (Value.int IntKind.i8 1)) w fun t22_18 w =>
 guardW (t22_18) false (fun k => run1 Tryz.prog Z (Instr.fieldAt 33 t4_15 0) w k) (fun t24_19 w =>
 guardW (t22_18) false (fun k => run1 Tryz.prog Z (Instr.loadAt 25 t24_19) w k) (fun t25_20 w =>
 guardW (t22_18) false (fun k => run1 Tryz.prog Z (binOp BinOp.gtr 25 t25_20 (Value.int IntKind.i8 5)) w k) (fun t26_21 w =>
 run1 Tryz.prog Z (pickV t22_18 (Value.bool true) t26_21) w fun t27_22 w =>
 guardW (t27_22) false (fun k => run1 Tryz.prog Z (Instr.fieldAt 33 t4_15 7) w k) (fun t29_23 w =>
 guardW (t27_22) false (fun k => run1 Tryz.prog Z (Instr.loadAt 2 t29_23) w k) (fun t30_24 w =>
 guardW (t27_22) false (fun k => run1 Tryz.prog Z (eqOp BinOp.neq 2 false true t30_24 (Value.int IntKind.i64 0)) w k) (fun t31_25 w =>
 run1 Tryz.prog Z (pickV t27_22 (Value.bool true) t31_25) w fun t32_26 w =>
 guardW (t32_26) false (fun k => run1 Tryz.prog Z (Instr.fieldAt 33 t4_15 9) w k) (fun t34_27 w =>
 guardW (t32_26) false (fun k => run1 Tryz.prog Z (Instr.loadAt 30 t34_27) w k) (fun t35_28 w =>
 guardW (t32_26) false (fun k => run1 Tryz.prog Z (Builtin.len_ #[30] 3 #[t35_28]) w k) (fun t36_29 w =>
 guardW (t32_26) false (fun k => run1 Tryz.prog Z (eqOp BinOp.neq 3 false true t36_29 (Value.int IntKind.i64 0)) w k) (fun t37_30 w =>
 run1 Tryz.prog Z (pickV t32_26 (Value.bool true) t37_30) w fun t38_31 w =>
 guardW (t38_31) false (fun k => run1 Tryz.prog Z (Instr.loadAt 33 t4_15) w k) (fun t40_32 w =>
 guardW (t38_31) false (fun k => CallV Tryz.prog Z 166 #[t40_32] w k) (fun t41_33 w =>
 guardW (t38_31) false (fun k => run1 Tryz.prog Z (Op.unary UnOp.not t41_33) w k) (fun t42_34 w =>
 run1 Tryz.prog Z (pickV t38_31 (Value.bool true) t42_34) w fun t43_35 w =>
 CondV t43_35 (
 Q (Value.int IntKind.i64 40) w) (
 run1 Tryz.prog Z (binOp BinOp.add 3 t3_6 (Value.int IntKind.i64 1)) w fun t14_36 w =>
 ∃ n_5, n_5 < m_5 ∧ J_5 n_5 t14_36 w)) w) w) w) w) w) w) w) w) w) w) w) w) w) (
 Q (Value.int IntKind.i64 0) w))
noncomputable def f99.code : Code := match Tryz.f99.body with | some c => c | none => .skip
def f99.an : An := (.sq .leaf (.sq (.sq .leaf (.cn (.sq .leaf .leaf) .leaf)) (.sq (.sq .leaf (.bl (.lp [3] [2, 3, 4, 8, 9, 10, 11, 12, 13, 14, 15, 16, 17, 18, 19, 20, 21, 22, 23, 24, 25, 26, 27, 28, 29, 30, 31, 32, 33, 34, 35, 36, 37, 38, 39, 40, 41, 42, 43] (.sq (.sq .leaf (.cn .leaf .leaf)) (.sq (.bl (.sq .leaf (.sq .leaf (.cn (.sq .leaf .leaf) .leaf)))) .leaf))))) (.sq .leaf .leaf))))
theorem f99.body_eq : Tryz.f99.body = some f99.code := by kernel_rfl
theorem f99.shape (Z : List PanicEntry → World → Prop) (x0 : Value) (w : World) (Q : Value → World → Prop) : vc drawD Tryz.prog 44 Z [166] f99.an f99.code (fnQ Tryz.prog 44 Tryz.f99.results Q) (argEnv [x0]) w = f99.sh Z x0 w Q := by kernel_rfl
theorem f99.enters : ∀ f, f ∈ ([166] : List Nat) → Enters Tryz.prog f := by
 intro f hf
 simp only [List.mem_cons, List.not_mem_nil, or_false] at hf
 rcases hf with rfl
 · exact en166
theorem f99.calls {Z : List PanicEntry → World → Prop} {x0 : Value} {w : World} {Q : Value → World → Prop} (h : f99.sh Z x0 w Q) : CallV Tryz.prog Z 99 #[x0] w Q :=
 calls_of_vcn drawD_sound (Q := Q) (n := 44) (rs := Tryz.f99.results) (an := f99.an) (c := f99.code) (cal := [166]) (args := [x0]) Tryz.func99 (by kernel_rfl) rfl f99.body_eq follows (Nat.le_of_ble_eq_true (by kernel_rfl)) (enters_of_all f99.enters) ((f99.shape Z x0 w Q).mpr h)

def f101.sh (Z : List PanicEntry → World → Prop) (x0 : Value) (w : World) (Q : Value → World → Prop) : Prop :=
 ∀ j_1 : World → Prop, (∀ w : World, (Env →
 Q (Value.string { data := #[] }) w) →
 j_1 w) →
 run1 Tryz.prog Z (eqOp BinOp.eql 25 false true x0 (Value.int IntKind.i8 1)) w fun t5_2 w =>
 CondV t5_2 (
 Q (Value.string { data := #[112, 100, 97, 102, 115, 119] }) w) (
 ∀ j_3 : Value → World → Prop, (∀ t6_4 : Value, ∀ w : World, (Env →
 CondV t6_4 (
 Q (Value.string { data := #[112, 118, 115, 119] }) w) (
 run1 Tryz.prog Z (eqOp BinOp.eql 25 false true x0 (Value.int IntKind.i8 3)) w fun t10_5 w =>
 CondV t10_5 (
 Q (Value.string { data := #[112, 100, 118, 115, 119] }) w) (
 run1 Tryz.prog Z (eqOp BinOp.eql 25 false true x0 (Value.int IntKind.i8 4)) w fun t12_6 w =>
 CondV t12_6 (
 Q (Value.string { data := #[112, 97, 118, 115, 119] }) w) (
 run1 Tryz.prog Z (eqOp BinOp.eql 25 false true x0 (Value.int IntKind.i8 6)) w fun t14_7 w =>
 CondV t14_7 (
 Q (Value.string { data := #[115, 119, 111] }) w) (
 run1 Tryz.prog Z (eqOp BinOp.eql 25 false true x0 (Value.int IntKind.i8 7)) w fun t16_8 w =>
 CondV t16_8 (
 Q (Value.string { data := #[116] }) w) (
 run1 Tryz.prog Z (eqOp BinOp.eql 25 false true x0 (Value.int IntKind.i8 8)) w fun t18_9 w =>
 CondV t18_9 (
 Q (Value.string { data := #[115] }) w) (
 ∀ j_10 : Value → World → Prop, (∀ t19_11 : Value, ∀ w : World, (Env →
 CondV t19_11 (
 Q (Value.string { data := #[112, 115, 119] }) w) (
 j_1 w)) →
 j_10 t19_11 w) →
 run1 Tryz.prog Z (eqOp BinOp.eql 25 false true x0 (Value.int IntKind.i8 9)) w fun t20_12 w =>
 CondV t20_12 (
 j_10 t20_12 w) (
 run1 Tryz.prog Z (eqOp BinOp.eql 25 false true x0 (Value.int IntKind.i8 10)) w fun t21_13 w =>
 CondV t21_13 (
 j_10 t21_13 w) (
 run1 Tryz.prog Z (eqOp BinOp.eql 25 false true x0 (Value.int IntKind.i8 11)) w fun t22_14 w =>
 CondV t22_14 (
 j_10 t22_14 w) (
 run1 Tryz.prog Z (eqOp BinOp.eql 25 false true x0 (Value.int IntKind.i8 12)) w fun t23_15 w =>
 j_10 t23_15 w)))))))))) →
 j_3 t6_4 w) →
 run1 Tryz.prog Z (eqOp BinOp.eql 25 false true x0 (Value.int IntKind.i8 2)) w fun t7_16 w =>
 CondV t7_16 (
 j_3 t7_16 w) (
 run1 Tryz.prog Z (eqOp BinOp.eql 25 false true x0 (Value.int IntKind.i8 5)) w fun t8_17 w =>
 j_3 t8_17 w))
noncomputable def f101.code : Code := match Tryz.f101.body with | some c => c | none => .skip
def f101.an : An := (.sq .leaf (.sj [] [2, 3, 4, 5, 6, 7, 8, 9, 10, 11, 12, 13, 14, 15, 16, 17, 18, 19, 20, 21, 22, 23] (.sq .leaf (.bl (.sq .leaf (.cn (.sq .leaf .leaf) (.sj [6] [6, 7, 8] (.sq .leaf (.cn .leaf .leaf)) (.cn (.sq .leaf .leaf) (.sq .leaf (.cn (.sq .leaf .leaf) (.sq .leaf (.cn (.sq .leaf .leaf) (.sq .leaf (.cn (.sq .leaf .leaf) (.sq .leaf (.cn (.sq .leaf .leaf) (.sq .leaf (.cn (.sq .leaf .leaf) (.sj [19] [19, 20, 21, 22, 23] (.sq .leaf (.cn .leaf (.sq .leaf (.cn .leaf (.sq .leaf (.cn .leaf .leaf)))))) (.cn (.sq .leaf .leaf) .leaf)))))))))))))))))) (.sq .leaf .leaf)))
theorem f101.body_eq : Tryz.f101.body = some f101.code := by kernel_rfl
theorem f101.shape (Z : List PanicEntry → World → Prop) (x0 : Value) (w : World) (Q : Value → World → Prop) : vc drawD Tryz.prog 24 Z [] f101.an f101.code (fnQ Tryz.prog 24 Tryz.f101.results Q) (argEnv [x0]) w = f101.sh Z x0 w Q := by kernel_rfl
theorem f101.enters : ∀ f, f ∈ ([] : List Nat) → Enters Tryz.prog f := by
 intro f hf
 cases hf
theorem f101.calls {Z : List PanicEntry → World → Prop} {x0 : Value} {w : World} {Q : Value → World → Prop} (h : f101.sh Z x0 w Q) : CallV Tryz.prog Z 101 #[x0] w Q :=
 calls_of_vcn drawD_sound (Q := Q) (n := 24) (rs := Tryz.f101.results) (an := f101.an) (c := f101.code) (cal := []) (args := [x0]) Tryz.func101 (by kernel_rfl) rfl f101.body_eq follows (Nat.le_of_ble_eq_true (by kernel_rfl)) (enters_of_all f101.enters) ((f101.shape Z x0 w Q).mpr h)

def f107.sh (Z : List PanicEntry → World → Prop) (x0 x1 : Value) (w : World) (Q : Value → World → Prop) : Prop :=
 run1 Tryz.prog Z (Builtin.len_ #[29] 3 #[x0]) w fun t7_1 w =>
 run1 Tryz.prog Z (Builtin.len_ #[29] 3 #[x1]) w fun t9_2 w =>
 run1 Tryz.prog Z (eqOp BinOp.neq 3 false false t7_1 t9_2) w fun t10_3 w =>
 CondV t10_3 (
 Q (Value.bool false) w) (
 ∃ J_4 : Nat → Value → World → Prop, (∃ m, J_4 m (Value.int IntKind.i64 0) w) ∧
 ∀ m_4, ∀ t5_5 : Value, ∀ w : World, J_4 m_4 t5_5 w → Env →
 run1 Tryz.prog Z (Builtin.len_ #[29] 3 #[x0]) w fun t13_6 w =>
 run1 Tryz.prog Z (binOp BinOp.lss 3 t5_5 t13_6) w fun t14_7 w =>
 CondV t14_7 (
 Drawn w fun w =>
 Pure1 Tryz.prog (Instr.indexAt 29 x0 t5_5) fun t19_8 =>
 Read1 Tryz.prog (Instr.loadAt 122 t19_8) w fun t20_9 =>
 Pure1 Tryz.prog (Instr.indexAt 29 x1 t5_5) fun t23_10 =>
 Read1 Tryz.prog (Instr.loadAt 122 t23_10) w fun t24_11 =>
 Pure1 Tryz.prog (eqOp BinOp.neq 122 false false t20_9 t24_11) fun t25_12 =>
 CondV t25_12 (
 Q (Value.bool false) w) (
 run1 Tryz.prog Z (binOp BinOp.add 3 t5_5 (Value.int IntKind.i64 1)) w fun t16_13 w =>
 ∃ n_4, n_4 < m_4 ∧ J_4 n_4 t16_13 w)) (
 Q (Value.bool true) w))
noncomputable def f107.code : Code := match Tryz.f107.body with | some c => c | none => .skip
def f107.an : An := (.sq .leaf (.sq (.sq .leaf (.cn (.sq .leaf .leaf) .leaf)) (.sq (.sq .leaf (.bl (.lp [5] [4, 5, 11, 12, 13, 14, 15, 16, 17, 18, 19, 20, 21, 22, 23, 24, 25] (.sq (.sq .leaf (.cn .leaf .leaf)) (.sq (.bl (.sq (.dr (.take 0 false (.take 1 false (.take 2 false (.take 3 true (.take 4 false (.take 5 false (.take 6 false (.take 7 true (.take 8 false .fin)))))))))) (.cn (.sq .leaf .leaf) .leaf))) .leaf))))) (.sq .leaf .leaf))))
theorem f107.body_eq : Tryz.f107.body = some f107.code := by kernel_rfl
theorem f107.shape (Z : List PanicEntry → World → Prop) (x0 x1 : Value) (w : World) (Q : Value → World → Prop) : vc drawD Tryz.prog 26 Z [] f107.an f107.code (fnQ Tryz.prog 26 Tryz.f107.results Q) (argEnv [x0, x1]) w = f107.sh Z x0 x1 w Q := by kernel_rfl
theorem f107.enters : ∀ f, f ∈ ([] : List Nat) → Enters Tryz.prog f := by
 intro f hf
 cases hf
theorem f107.calls {Z : List PanicEntry → World → Prop} {x0 x1 : Value} {w : World} {Q : Value → World → Prop} (h : f107.sh Z x0 x1 w Q) : CallV Tryz.prog Z 107 #[x0, x1] w Q :=
 calls_of_vcn drawD_sound (Q := Q) (n := 26) (rs := Tryz.f107.results) (an := f107.an) (c := f107.code) (cal := []) (args := [x0, x1]) Tryz.func107 (by kernel_rfl) rfl f107.body_eq follows (Nat.le_of_ble_eq_true (by kernel_rfl)) (enters_of_all f107.enters) ((f107.shape Z x0 x1 w Q).mpr h)

def f108.sh (Z : List PanicEntry → World → Prop) (x0 x1 : Value) (w : World) (Q : Value → World → Prop) : Prop :=
 run1 Tryz.prog Z (Builtin.len_ #[30] 3 #[x0]) w fun t7_1 w =>
 run1 Tryz.prog Z (Builtin.len_ #[30] 3 #[x1]) w fun t9_2 w =>
 run1 Tryz.prog Z (eqOp BinOp.neq 3 false false t7_1 t9_2) w fun t10_3 w =>
 CondV t10_3 (
 Q (Value.bool false) w) (
 ∃ J_4 : Nat → Value → World → Prop, (∃ m, J_4 m (Value.int IntKind.i64 0) w) ∧
 ∀ m_4, ∀ t5_5 : Value, ∀ w : World, J_4 m_4 t5_5 w → Env →
 run1 Tryz.prog Z (Builtin.len_ #[30] 3 #[x0]) w fun t13_6 w =>
 run1 Tryz.prog Z (binOp BinOp.lss 3 t5_5 t13_6) w fun t14_7 w =>
 CondV t14_7 (
 Drawn w fun w =>
 Pure1 Tryz.prog (Instr.indexAt 30 x0 t5_5) fun t19_8 =>
 Read1 Tryz.prog (Instr.loadAt 120 t19_8) w fun t20_9 =>
 Pure1 Tryz.prog (Instr.indexAt 30 x1 t5_5) fun t23_10 =>
 Read1 Tryz.prog (Instr.loadAt 120 t23_10) w fun t24_11 =>
 Pure1 Tryz.prog (eqOp BinOp.neq 120 false false t20_9 t24_11) fun t25_12 =>
 CondV t25_12 (
 Q (Value.bool false) w) (
 run1 Tryz.prog Z (binOp BinOp.add 3 t5_5 (Value.int IntKind.i64 1)) w fun t16_13 w =>
 ∃ n_4, n_4 < m_4 ∧ J_4 n_4 t16_13 w)) (
 Q (Value.bool true) w))
noncomputable def f108.code : Code := match Tryz.f108.body with | some c => c | none => .skip
def f108.an : An := (.sq .leaf (.sq (.sq .leaf (.cn (.sq .leaf .leaf) .leaf)) (.sq (.sq .leaf (.bl (.lp [5] [4, 5, 11, 12, 13, 14, 15, 16, 17, 18, 19, 20, 21, 22, 23, 24, 25] (.sq (.sq .leaf (.cn .leaf .leaf)) (.sq (.bl (.sq (.dr (.take 0 false (.take 1 false (.take 2 false (.take 3 true (.take 4 false (.take 5 false (.take 6 false (.take 7 true (.take 8 false .fin)))))))))) (.cn (.sq .leaf .leaf) .leaf))) .leaf))))) (.sq .leaf .leaf))))
theorem f108.body_eq : Tryz.f108.body = some f108.code := by kernel_rfl
theorem f108.shape (Z : List PanicEntry → World → Prop) (x0 x1 : Value) (w : World) (Q : Value → World → Prop) : vc drawD Tryz.prog 26 Z [] f108.an f108.code (fnQ Tryz.prog 26 Tryz.f108.results Q) (argEnv [x0, x1]) w = f108.sh Z x0 x1 w Q := by kernel_rfl
theorem f108.enters : ∀ f, f ∈ ([] : List Nat) → Enters Tryz.prog f := by
 intro f hf
 cases hf
theorem f108.calls {Z : List PanicEntry → World → Prop} {x0 x1 : Value} {w : World} {Q : Value → World → Prop} (h : f108.sh Z x0 x1 w Q) : CallV Tryz.prog Z 108 #[x0, x1] w Q :=
 calls_of_vcn drawD_sound (Q := Q) (n := 26) (rs := Tryz.f108.results) (an := f108.an) (c := f108.code) (cal := []) (args := [x0, x1]) Tryz.func108 (by kernel_rfl) rfl f108.body_eq follows (Nat.le_of_ble_eq_true (by kernel_rfl)) (enters_of_all f108.enters) ((f108.shape Z x0 x1 w Q).mpr h)

def f109.sh (Z : List PanicEntry → World → Prop) (x0 : Value) (w : World) (Q : Value → World → Prop) : Prop :=
 CallV Tryz.prog Z 167 #[x0] w fun t4_1 w =>
 run1 Tryz.prog Z (binOp BinOp.add 9 (Value.string { data := #[33] }) t4_1) w fun t5_2 w =>
 Q t5_2 w
noncomputable def f109.code : Code := match Tryz.f109.body with | some c => c | none => .skip
def f109.an : An := (.sq .leaf (.sq .leaf .leaf))
theorem f109.body_eq : Tryz.f109.body = some f109.code := by kernel_rfl
theorem f109.shape (Z : List PanicEntry → World → Prop) (x0 : Value) (w : World) (Q : Value → World → Prop) : vc drawD Tryz.prog 6 Z [167] f109.an f109.code (fnQ Tryz.prog 6 Tryz.f109.results Q) (argEnv [x0]) w = f109.sh Z x0 w Q := by kernel_rfl
theorem f109.enters : ∀ f, f ∈ ([167] : List Nat) → Enters Tryz.prog f := by
 intro f hf
 simp only [List.mem_cons, List.not_mem_nil, or_false] at hf
 rcases hf with rfl
 · exact en167
theorem f109.calls {Z : List PanicEntry → World → Prop} {x0 : Value} {w : World} {Q : Value → World → Prop} (h : f109.sh Z x0 w Q) : CallV Tryz.prog Z 109 #[x0] w Q :=
 calls_of_vcn drawD_sound (Q := Q) (n := 6) (rs := Tryz.f109.results) (an := f109.an) (c := f109.code) (cal := [167]) (args := [x0]) Tryz.func109 (by kernel_rfl) rfl f109.body_eq follows (Nat.le_of_ble_eq_true (by kernel_rfl)) (enters_of_all f109.enters) ((f109.shape Z x0 w Q).mpr h)

def f110.sh (Z : List PanicEntry → World → Prop) (x0 x1 x2 : Value) (w : World) (Q : Value → World → Prop) : Prop :=
 ∃ J_1 : Nat → Value → Value → World → Prop, (∃ m, J_1 m (Value.slice none 0 0) (Value.int IntKind.i64 0) w) ∧
 ∀ m_1, ∀ t7_2 : Value, ∀ t8_3 : Value, ∀ w : World, J_1 m_1 t7_2 t8_3 w → Env →
 run1 Tryz.prog Z (Builtin.len_ #[45] 3 #[x0]) w fun t16_4 w =>
 run1 Tryz.prog Z (binOp BinOp.lss 3 t8_3 t16_4) w fun t17_5 w =>
 CondV t17_5 (
 run1 Tryz.prog Z (Instr.indexAt 45 x0 t8_3) w fun t22_6 w =>
 run1 Tryz.prog Z (Instr.loadAt 28 t22_6) w fun t23_7 w =>
 ∃ J_8 : Nat → Value → Value → World → Prop, (∃ m, J_8 m t23_7 (Value.int IntKind.i64 0) w) ∧
 ∀ m_8, ∀ t9_9 : Value, ∀ t10_10 : Value, ∀ w : World, J_8 m_8 t9_9 t10_10 w → Env →
 run1 Tryz.prog Z (binOp BinOp.lss 3 t10_10 x2) w fun t26_11 w =>
 CondV t26_11 (
 run1 Tryz.prog Z (binOp BinOp.quo 3 t8_3 x1) w fun t32_12 w =>
 run1 Tryz.prog Z (binOp BinOp.rem 3 t32_12 (Value.int IntKind.i64 100)) w fun t33_13 w =>
 run1 Tryz.prog Z (binOp BinOp.add 3 (Value.int IntKind.i64 100) t33_13) w fun t34_14 w =>
 run1 Tryz.prog Z (convert 3 5 t34_14) w fun t35_15 w =>
 run1 Tryz.prog Z (Instr.buildSlice 28 1 #[(0, t35_15)]) w fun t36_16 w =>
 run1 Tryz.prog Z (Builtin.append_ #[28, 28] 28 #[t9_9, t36_16]) w fun t37_17 w =>
 run1 Tryz.prog Z (binOp BinOp.add 3 t10_10 (Value.int IntKind.i64 1)) w fun t28_18 w =>
 ∃ n_8, n_8 < m_8 ∧ J_8 n_8 t37_17 t28_18 w) (
 run1 Tryz.prog Z (Instr.buildSlice 45 1 #[(0, t9_9)]) w fun t40_19 w =>
 run1 Tryz.prog Z (Builtin.append_ #[45, 45] 45 #[t7_2, t40_19]) w fun t41_20 w =>
 run1 Tryz.prog Z (binOp BinOp.add 3 t8_3 (Value.int IntKind.i64 1)) w fun t19_21 w =>
 ∃ n_1, n_1 < m_1 ∧ J_1 n_1 t41_20 t19_21 w)) (
 ∃ J_22 : Nat → Value → World → Prop, (∃ m, J_22 m (Value.int IntKind.i64 0) w) ∧
 ∀ m_22, ∀ t11_23 : Value, ∀ w : World, J_22 m_22 t11_23 w → Env →
 run1 Tryz.prog Z (Builtin.len_ #[45] 3 #[x0]) w fun t44_24 w =>
 run1 Tryz.prog Z (binOp BinOp.lss 3 t11_23 t44_24) w fun t45_25 w =>
 CondV t45_25 (
 run1 Tryz.prog Z (Instr.indexAt 45 x0 t11_23) w fun t50_26 w =>
 run1 Tryz.prog Z (Instr.loadAt 28 t50_26) w fun t51_27 w =>
 run1 Tryz.prog Z (Builtin.len_ #[28] 3 #[t51_27]) w fun t52_28 w =>
 ∃ J_29 : Nat → Value → World → Prop, (∃ m, J_29 m (Value.int IntKind.i64 0) w) ∧
 ∀ m_29, ∀ t13_30 : Value, ∀ w : World, J_29 m_29 t13_30 w → Env →
 run1 Tryz.prog Z (binOp BinOp.add 3 t52_28 x2) w fun t56_31 w =>
 run1 Tryz.prog Z (binOp BinOp.lss 3 t13_30 t56_31) w fun t57_32 w =>
 CondV t57_32 (
 Drawn w fun w =>
 Pure1 Tryz.prog (binOp BinOp.lss 3 t13_30 t52_28) fun t62_33 =>
 guardV (t62_33) true (fun k => k (x0)) (fun t64_34 =>
 guardV (t62_33) true (fun k => k (t11_23)) (fun t65_35 =>
 guardV (t62_33) true (fun k => Pure1 Tryz.prog (Instr.indexAt 45 t64_34 t65_35) k) (fun t66_36 =>
 guardV (t62_33) true (fun k => Read1 Tryz.prog (Instr.loadAt 28 t66_36) w k) (fun t67_37 =>
 guardV (t62_33) true (fun k => k (t13_30)) (fun t68_38 =>
 guardV (t62_33) true (fun k => Pure1 Tryz.prog (Instr.indexAt 28 t67_37 t68_38) k) (fun t69_39 =>
 guardV (t62_33) true (fun k => Read1 Tryz.prog (Instr.loadAt 5 t69_39) w k) (fun t70_40 =>
 guardV (t62_33) true (fun k => k (t11_23)) (fun t71_41 =>
 guardV (t62_33) true (fun k => k (x1)) (fun t72_42 =>
 guardV (t62_33) true (fun k => Pure1 Tryz.prog (binOp BinOp.quo 3 t71_41 t72_42) k) (fun t73_43 =>
 guardV (t62_33) true (fun k => Pure1 Tryz.prog (binOp BinOp.rem 3 t73_43 (Value.int IntKind.i64 100)) k) (fun t74_44 =>
 guardV (t62_33) true (fun k => Pure1 Tryz.prog (convert 3 5 t74_44) k) (fun t75_45 =>
 guardV (t62_33) true (fun k => Pure1 Tryz.prog (eqOp BinOp.neq 5 false false t70_40 t75_45) k) (fun t76_46 =>
 guardV (t62_33) true (fun k => k (t76_46)) (fun t77_47 =>
 guardV (t77_47) false (fun k => k (t7_2)) (fun t78_48 =>
 guardV (t77_47) false (fun k => k (t11_23)) (fun t79_49 =>
 guardV (t77_47) false (fun k => Pure1 Tryz.prog (Instr.indexAt 45 t78_48 t79_49) k) (fun t80_50 =>
 guardV (t77_47) false (fun k => Read1 Tryz.prog (Instr.loadAt 28 t80_50) w k) (fun t81_51 =>
 guardV (t77_47) false (fun k => k (t13_30)) (fun t82_52 =>
 guardV (t77_47) false (fun k => Pure1 Tryz.prog (Instr.indexAt 28 t81_51 t82_52) k) (fun t83_53 =>
 guardV (t77_47) false (fun k => Read1 Tryz.prog (Instr.loadAt 5 t83_53) w k) (fun t84_54 =>
 guardV (t77_47) false (fun k => k (t11_23)) (fun t85_55 =>
 guardV (t77_47) false (fun k => k (x1)) (fun t86_56 =>
 guardV (t77_47) false (fun k => Pure1 Tryz.prog (binOp BinOp.quo 3 t85_55 t86_56) k) (fun t87_57 =>
 guardV (t77_47) false (fun k => Pure1 Tryz.prog (binOp BinOp.rem 3 t87_57 (Value.int IntKind.i64 100)) k) (fun t88_58 =>
 guardV (t77_47) false (fun k => Pure1 Tryz.prog (convert 3 5 t88_58) k) (fun t89_59 =>
 guardV (t77_47) false (fun k => Pure1 Tryz.prog (eqOp BinOp.neq 5 false false t84_54 t89_59) k) (fun t90_60 =>
 guardV (t62_33) true (fun k => Pure1 Tryz.prog (pickV t77_47 (Value.bool true) t90_60) k) (fun t91_61 =>
 Pure1 Tryz.prog (pickV t62_33 t91_61 (Value.bool false)) fun t92_62 =>
 guardV (t92_62) false (fun k => k (t13_30)) (fun t94_63 =>
 guardV (t92_62) false (fun k => k (t52_28)) (fun t95_64 =>
 guardV (t92_62) false (fun k => Pure1 Tryz.prog (binOp BinOp.geq 3 t94_63 t95_64) k) (fun t96_65 =>
 guardV (t92_62) false (fun k => k (t96_65)) (fun t97_66 =>
 guardV (t97_66) true (fun k => k (t7_2)) (fun t98_67 =>
 guardV (t97_66) true (fun k => k (t11_23)) (fun t99_68 =>
 guardV (t97_66) true (fun k => Pure1 Tryz.prog (Instr.indexAt 45 t98_67 t99_68) k) (fun t100_69 =>
 guardV (t97_66) true (fun k => Read1 Tryz.prog (Instr.loadAt 28 t100_69) w k) (fun t101_70 =>
 guardV (t97_66) true (fun k => k (t13_30)) (fun t102_71 =>
 guardV (t97_66) true (fun k => Pure1 Tryz.prog (Instr.indexAt 28 t101_70 t102_71) k) (fun t103_72 =>
 guardV (t97_66) true (fun k => Read1 Tryz.prog (Instr.loadAt 5 t103_72) w k) (fun t104_73 =>
 guardV (t97_66) true (fun k => k (t11_23)) (fun t105_74 =>
 guardV (t97_66) true (fun k => k (x1)) (fun t106_75 =>
 guardV (t97_66) true (fun k => Pure1 Tryz.prog (binOp BinOp.quo 3 t105_74 t106_75) k) (fun t107_76 =>
 guardV (t97_66) true (fun k => Pure1 Tryz.prog (binOp BinOp.rem 3 t107_76 (Value.int IntKind.i64 100)) k) (fun t108_77 =>
 guardV (t97_66) true (fun k => Pure1 Tryz.prog (binOp BinOp.add 3 (Value.int IntKind.i64 100) t108_77) k) (fun t109_78 =>
 guardV (t97_66) true (fun k => Pure1 Tryz.prog (convert 3 5 t109_78) k) (fun t110_79 =>
 guardV (t97_66) true (fun k => Pure1 Tryz.prog (eqOp BinOp.neq 5 false false t104_73 t110_79) k) (fun t111_80 =>
 guardV (t92_62) false (fun k => Pure1 Tryz.prog (pickV t97_66 t111_80 (Value.bool false)) k) (fun t112_81 =>
 Pure1 Tryz.prog (pickV t92_62 (Value.bool true) t112_81) fun t113_82 =>
 CondV t113_82 (
 Q (Value.bool false) w) (
 run1 Tryz.prog Z (binOp BinOp.add 3 t13_30 (Value.int IntKind.i64 1)) w fun t59_83 w =>
 ∃ n_29, n_29 < m_29 ∧ J_29 n_29 t59_83 w))))))))))))))))))))))))))))))))))))))))))))))))) (
 run1 Tryz.prog Z (binOp BinOp.add 3 t11_23 (Value.int IntKind.i64 1)) w fun t47_84 w =>
 ∃ n_22, n_22 < m_22 ∧ J_22 n_22 t47_84 w)) (
 Q (Value.bool true) w))
noncomputable def f110.code : Code := match Tryz.f110.body with | some c => c | none => .skip
def f110.an : An := (.sq .leaf (.sq .leaf (.sq (.sq .leaf (.bl (.lp [7, 8] [7, 8, 9, 10, 14, 15, 16, 17, 18, 19, 20, 21, 22, 23, 24, 25, 26, 27, 28, 29, 30, 31, 32, 33, 34, 35, 36, 37, 38, 39, 40, 41] (.sq (.sq .leaf (.cn .leaf .leaf)) (.sq (.bl (.sq .leaf (.sq (.sq .leaf (.bl (.lp [9, 10] [9, 10, 24, 25, 26, 27, 28, 29, 30, 31, 32, 33, 34, 35, 36, 37] (.sq (.sq .leaf (.cn .leaf .leaf)) (.sq (.bl .leaf) .leaf))))) .leaf))) .leaf))))) (.sq (.sq .leaf (.bl (.lp [11] [6, 11, 12, 13, 42, 43, 44, 45, 46, 47, 48, 49, 50, 51, 52, 53, 54, 55, 56, 57, 58, 59, 60, 61, 62, 63, 64, 65, 66, 67, 68, 69, 70, 71, 72, 73, 74, 75, 76, 77, 78, 79, 80, 81, 82, 83, 84, 85, 86, 87, 88, 89, 90, 91, 92, 93, 94, 95, 96, 97, 98, 99, 100, 101, 102, 103, 104, 105, 106, 107, 108, 109, 110, 111, 112, 113] (.sq (.sq .leaf (.cn .leaf .leaf)) (.sq (.bl (.sq .leaf (.sq .leaf (.bl (.lp [13] [6, 13, 53, 54, 55, 56, 57, 58, 59, 60, 61, 62, 63, 64, 65, 66, 67, 68, 69, 70, 71, 72, 73, 74, 75, 76, 77, 78, 79, 80, 81, 82, 83, 84, 85, 86, 87, 88, 89, 90, 91, 92, 93, 94, 95, 96, 97, 98, 99, 100, 101, 102, 103, 104, 105, 106, 107, 108, 109, 110, 111, 112, 113] (.sq (.sq .leaf (.cn .leaf .leaf)) (.sq (.bl (.sq (.dr (.take 0 false (.take 1 false (.take 2 false (.take 3 false (.take 4 false (.take 5 false (.take 6 false (.take 7 true (.take 8 false (.take 9 false (.take 10 true (.take 11 false (.take 12 false (.take 13 false (.take 14 false (.take 15 false (.take 16 false (.take 17 false (.take 18 false (.take 19 false (.take 20 false (.take 21 true (.take 22 false (.take 23 false (.take 24 true (.take 25 false (.take 26 false (.take 27 false (.take 28 false (.take 29 false (.take 30 false (.take 31 false (.take 32 false (.take 33 false (.take 34 false (.take 35 false (.take 36 false (.take 37 false (.take 38 false (.take 39 false (.take 40 false (.take 41 true (.take 42 false (.take 43 false (.take 44 true (.take 45 false (.take 46 false (.take 47 false (.take 48 false (.take 49 false (.take 50 false (.take 51 false (.take 52 false (.take 53 false .fin))))))))))))))))))))))))))))))))))))))))))))))))))))))) (.cn (.sq .leaf .leaf) .leaf))) .leaf))))))) .leaf))))) (.sq .leaf .leaf)))))
theorem f110.body_eq : Tryz.f110.body = some f110.code := by kernel_rfl
theorem f110.shape (Z : List PanicEntry → World → Prop) (x0 x1 x2 : Value) (w : World) (Q : Value → World → Prop) : vc drawD Tryz.prog 114 Z [] f110.an f110.code (fnQ Tryz.prog 114 Tryz.f110.results Q) (argEnv [x0, x1, x2]) w = f110.sh Z x0 x1 x2 w Q := by kernel_rfl
theorem f110.enters : ∀ f, f ∈ ([] : List Nat) → Enters Tryz.prog f := by
 intro f hf
 cases hf
theorem f110.calls {Z : List PanicEntry → World → Prop} {x0 x1 x2 : Value} {w : World} {Q : Value → World → Prop} (h : f110.sh Z x0 x1 x2 w Q) : CallV Tryz.prog Z 110 #[x0, x1, x2] w Q :=
 calls_of_vcn drawD_sound (Q := Q) (n := 114) (rs := Tryz.f110.results) (an := f110.an) (c := f110.code) (cal := []) (args := [x0, x1, x2]) Tryz.func110 (by kernel_rfl) rfl f110.body_eq follows (Nat.le_of_ble_eq_true (by kernel_rfl)) (enters_of_all f110.enters) ((f110.shape Z x0 x1 x2 w Q).mpr h)

def f111.sh (Z : List PanicEntry → World → Prop) (x0 x1 : Value) (w : World) (Q : Value → World → Prop) : Prop :=
 ∃ J_1 : Nat → Value → Value → World → Prop, (∃ m, J_1 m (Value.slice none 0 0) (Value.int IntKind.i64 0) w) ∧
 ∀ m_1, ∀ t5_2 : Value, ∀ t6_3 : Value, ∀ w : World, J_1 m_1 t5_2 t6_3 w → Env →
 run1 Tryz.prog Z (Builtin.len_ #[46] 3 #[x0]) w fun t14_4 w =>
 run1 Tryz.prog Z (binOp BinOp.lss 3 t6_3 t14_4) w fun t15_5 w =>
 CondV t15_5 (
 False) (
 ∃ J_6 : Nat → Value → World → Prop, (∃ m, J_6 m (Value.int IntKind.i64 0) w) ∧
 ∀ m_6, ∀ t9_7 : Value, ∀ w : World, J_6 m_6 t9_7 w → Env →
 run1 Tryz.prog Z (Builtin.len_ #[46] 3 #[x0]) w fun t38_8 w =>
 run1 Tryz.prog Z (binOp BinOp.lss 3 t9_7 t38_8) w fun t39_9 w =>
 CondV t39_9 (
 False) (
 Q (Value.bool true) w))
noncomputable def f111.code : Code := match Tryz.f111.body with | some c => c | none => .skip
def f111.an : An := (.sq .leaf (.sq .leaf (.sq (.sq .leaf (.bl (.lp [5, 6] [5, 6, 7, 8, 12, 13, 14, 15, 16, 17, 18, 19, 20, 21, 22, 23, 24, 25, 26, 27, 28, 29, 30, 31, 32, 33, 34, 35] (.sq (.sq .leaf (.cn .leaf .leaf)) .leaf)))) (.sq (.sq .leaf (.bl (.lp [9] [4, 9, 10, 11, 36, 37, 38, 39, 40, 41, 42, 43, 44, 45, 46, 47, 48, 49, 50, 51, 52, 53, 54, 55, 56, 57, 58, 59, 60, 61, 62, 63, 64, 65, 66, 67, 68, 69, 70, 71, 72, 73, 74, 75, 76, 77, 78, 79, 80, 81, 82, 83, 84, 85, 86, 87, 88, 89, 90, 91, 92, 93, 94, 95, 96, 97, 98, 99, 100, 101, 102, 103, 104, 105] (.sq (.sq .leaf (.cn .leaf .leaf)) .leaf)))) (.sq .leaf .leaf)))))
theorem f111.body_eq : Tryz.f111.body = some f111.code := by kernel_rfl
theorem f111.shape (Z : List PanicEntry → World → Prop) (x0 x1 : Value) (w : World) (Q : Value → World → Prop) : vc drawD Tryz.prog 106 Z [] f111.an f111.code (fnQ Tryz.prog 106 Tryz.f111.results Q) (argEnv [x0, x1]) w = f111.sh Z x0 x1 w Q := by kernel_rfl
theorem f111.enters : ∀ f, f ∈ ([] : List Nat) → Enters Tryz.prog f := by
 intro f hf
 cases hf
theorem f111.calls {Z : List PanicEntry → World → Prop} {x0 x1 : Value} {w : World} {Q : Value → World → Prop} (h : f111.sh Z x0 x1 w Q) : CallV Tryz.prog Z 111 #[x0, x1] w Q :=
 calls_of_vcn drawD_sound (Q := Q) (n := 106) (rs := Tryz.f111.results) (an := f111.an) (c := f111.code) (cal := []) (args := [x0, x1]) Tryz.func111 (by kernel_rfl) rfl f111.body_eq follows (Nat.le_of_ble_eq_true (by kernel_rfl)) (enters_of_all f111.enters) ((f111.shape Z x0 x1 w Q).mpr h)

def f112.sh (Z : List PanicEntry → World → Prop) (x0 x1 : Value) (w : World) (Q : Value → World → Prop) : Prop :=
 ∃ J_1 : Nat → Value → Value → World → Prop, (∃ m, J_1 m (Value.slice none 0 0) (Value.int IntKind.i64 0) w) ∧
 ∀ m_1, ∀ t5_2 : Value, ∀ t6_3 : Value, ∀ w : World, J_1 m_1 t5_2 t6_3 w → Env →
 run1 Tryz.prog Z (Builtin.len_ #[47] 3 #[x0]) w fun t14_4 w =>
 run1 Tryz.prog Z (binOp BinOp.lss 3 t6_3 t14_4) w fun t15_5 w =>
 CondV t15_5 (
 False) (
 ∃ J_6 : Nat → Value → World → Prop, (∃ m, J_6 m (Value.int IntKind.i64 0) w) ∧
 ∀ m_6, ∀ t9_7 : Value, ∀ w : World, J_6 m_6 t9_7 w → Env →
 run1 Tryz.prog Z (Builtin.len_ #[47] 3 #[x0]) w fun t39_8 w =>
 run1 Tryz.prog Z (binOp BinOp.lss 3 t9_7 t39_8) w fun t40_9 w =>
 CondV t40_9 (
 False) (
 Q (Value.bool true) w))
noncomputable def f112.code : Code := match Tryz.f112.body with | some c => c | none => .skip
def f112.an : An := (.sq .leaf (.sq .leaf (.sq (.sq .leaf (.bl (.lp [5, 6] [5, 6, 7, 8, 12, 13, 14, 15, 16, 17, 18, 19, 20, 21, 22, 23, 24, 25, 26, 27, 28, 29, 30, 31, 32, 33, 34, 35, 36] (.sq (.sq .leaf (.cn .leaf .leaf)) .leaf)))) (.sq (.sq .leaf (.bl (.lp [9] [4, 9, 10, 11, 37, 38, 39, 40, 41, 42, 43, 44, 45, 46, 47, 48, 49, 50, 51, 52, 53, 54, 55, 56, 57, 58, 59, 60, 61, 62, 63, 64, 65, 66, 67, 68, 69, 70, 71, 72, 73, 74, 75, 76, 77, 78, 79, 80, 81, 82, 83, 84, 85, 86, 87, 88, 89, 90, 91, 92, 93, 94, 95, 96, 97, 98, 99, 100, 101, 102, 103, 104, 105, 106, 107, 108, 109] (.sq (.sq .leaf (.cn .leaf .leaf)) .leaf)))) (.sq .leaf .leaf)))))
theorem f112.body_eq : Tryz.f112.body = some f112.code := by kernel_rfl
theorem f112.shape (Z : List PanicEntry → World → Prop) (x0 x1 : Value) (w : World) (Q : Value → World → Prop) : vc drawD Tryz.prog 110 Z [] f112.an f112.code (fnQ Tryz.prog 110 Tryz.f112.results Q) (argEnv [x0, x1]) w = f112.sh Z x0 x1 w Q := by kernel_rfl
theorem f112.enters : ∀ f, f ∈ ([] : List Nat) → Enters Tryz.prog f := by
 intro f hf
 cases hf
theorem f112.calls {Z : List PanicEntry → World → Prop} {x0 x1 : Value} {w : World} {Q : Value → World → Prop} (h : f112.sh Z x0 x1 w Q) : CallV Tryz.prog Z 112 #[x0, x1] w Q :=
 calls_of_vcn drawD_sound (Q := Q) (n := 110) (rs := Tryz.f112.results) (an := f112.an) (c := f112.code) (cal := []) (args := [x0, x1]) Tryz.func112 (by kernel_rfl) rfl f112.body_eq follows (Nat.le_of_ble_eq_true (by kernel_rfl)) (enters_of_all f112.enters) ((f112.shape Z x0 x1 w Q).mpr h)

def f113.sh (Z : List PanicEntry → World → Prop) (x0 x1 : Value) (w : World) (Q : Value → World → Prop) : Prop :=
 ∃ J_1 : Nat → Value → Value → World → Prop, (∃ m, J_1 m (Value.slice none 0 0) (Value.int IntKind.i64 0) w) ∧
 ∀ m_1, ∀ t5_2 : Value, ∀ t6_3 : Value, ∀ w : World, J_1 m_1 t5_2 t6_3 w → Env →
 run1 Tryz.prog Z (Builtin.len_ #[48] 3 #[x0]) w fun t14_4 w =>
 run1 Tryz.prog Z (binOp BinOp.lss 3 t6_3 t14_4) w fun t15_5 w =>
 CondV t15_5 (
 False) (
 ∃ J_6 : Nat → Value → World → Prop, (∃ m, J_6 m (Value.int IntKind.i64 0) w) ∧
 ∀ m_6, ∀ t9_7 : Value, ∀ w : World, J_6 m_6 t9_7 w → Env →
 run1 Tryz.prog Z (Builtin.len_ #[48] 3 #[x0]) w fun t40_8 w =>
 run1 Tryz.prog Z (binOp BinOp.lss 3 t9_7 t40_8) w fun t41_9 w =>
 CondV t41_9 (
 False) (
 Q (Value.bool true) w))
noncomputable def f113.code : Code := match Tryz.f113.body with | some c => c | none => .skip
def f113.an : An := (.sq .leaf (.sq .leaf (.sq (.sq .leaf (.bl (.lp [5, 6] [5, 6, 7, 8, 12, 13, 14, 15, 16, 17, 18, 19, 20, 21, 22, 23, 24, 25, 26, 27, 28, 29, 30, 31, 32, 33, 34, 35, 36, 37] (.sq (.sq .leaf (.cn .leaf .leaf)) .leaf)))) (.sq (.sq .leaf (.bl (.lp [9] [4, 9, 10, 11, 38, 39, 40, 41, 42, 43, 44, 45, 46, 47, 48, 49, 50, 51, 52, 53, 54, 55, 56, 57, 58, 59, 60, 61, 62, 63, 64, 65, 66, 67, 68, 69, 70, 71, 72, 73, 74, 75, 76, 77, 78, 79, 80, 81, 82, 83, 84, 85, 86, 87, 88, 89, 90, 91, 92, 93, 94, 95, 96, 97, 98, 99, 100, 101, 102, 103, 104, 105, 106, 107, 108, 109, 110, 111, 112, 113] (.sq (.sq .leaf (.cn .leaf .leaf)) .leaf)))) (.sq .leaf .leaf)))))
theorem f113.body_eq : Tryz.f113.body = some f113.code := by kernel_rfl
theorem f113.shape (Z : List PanicEntry → World → Prop) (x0 x1 : Value) (w : World) (Q : Value → World → Prop) : vc drawD Tryz.prog 114 Z [] f113.an f113.code (fnQ Tryz.prog 114 Tryz.f113.results Q) (argEnv [x0, x1]) w = f113.sh Z x0 x1 w Q := by kernel_rfl
theorem f113.enters : ∀ f, f ∈ ([] : List Nat) → Enters Tryz.prog f := by
 intro f hf
 cases hf
theorem f113.calls {Z : List PanicEntry → World → Prop} {x0 x1 : Value} {w : World} {Q : Value → World → Prop} (h : f113.sh Z x0 x1 w Q) : CallV Tryz.prog Z 113 #[x0, x1] w Q :=
 calls_of_vcn drawD_sound (Q := Q) (n := 114) (rs := Tryz.f113.results) (an := f113.an) (c := f113.code) (cal := []) (args := [x0, x1]) Tryz.func113 (by kernel_rfl) rfl f113.body_eq follows (Nat.le_of_ble_eq_true (by kernel_rfl)) (enters_of_all f113.enters) ((f113.shape Z x0 x1 w Q).mpr h)

def f114.sh (Z : List PanicEntry → World → Prop) (x0 x1 : Value) (w : World) (Q : Value → World → Prop) : Prop :=
 ∃ J_1 : Nat → Value → Value → World → Prop, (∃ m, J_1 m (Value.slice none 0 0) (Value.int IntKind.i64 0) w) ∧
 ∀ m_1, ∀ t5_2 : Value, ∀ t6_3 : Value, ∀ w : World, J_1 m_1 t5_2 t6_3 w → Env →
 run1 Tryz.prog Z (Builtin.len_ #[49] 3 #[x0]) w fun t14_4 w =>
 run1 Tryz.prog Z (binOp BinOp.lss 3 t6_3 t14_4) w fun t15_5 w =>
 CondV t15_5 (
 run1 Tryz.prog Z (Instr.indexAt 49 x0 t6_3) w fun t20_6 w =>
 run1 Tryz.prog Z (Instr.loadAt 30 t20_6) w fun t21_7 w =>
 ∃ J_8 : Nat → Value → Value → World → Prop, (∃ m, J_8 m t21_7 (Value.int IntKind.i64 0) w) ∧
 ∀ m_8, ∀ t7_9 : Value, ∀ t8_10 : Value, ∀ w : World, J_8 m_8 t7_9 t8_10 w → Env →
 run1 Tryz.prog Z (binOp BinOp.lss 3 t8_10 x1) w fun t24_11 w =>
 CondV t24_11 (
 run1 Tryz.prog Z (binOp BinOp.sub 3 (Value.int IntKind.i64 (-2000000)) t6_3) w fun t29_12 w =>
 CallV Tryz.prog Z 109 #[t29_12] w fun t30_13 w =>
 run1 Tryz.prog Z (Instr.build 120 #[(1, t30_13)]) w fun t31_14 w =>
 run1 Tryz.prog Z (Instr.buildSlice 30 1 #[(0, t31_14)]) w fun t32_15 w =>
 run1 Tryz.prog Z (Builtin.append_ #[30, 30] 30 #[t7_9, t32_15]) w fun t33_16 w =>
 run1 Tryz.prog Z (binOp BinOp.add 3 t8_10 (Value.int IntKind.i64 1)) w fun t26_17 w =>
 ∃ n_8, n_8 < m_8 ∧ J_8 n_8 t33_16 t26_17 w) (
 run1 Tryz.prog Z (Instr.buildSlice 49 1 #[(0, t7_9)]) w fun t36_18 w =>
 run1 Tryz.prog Z (Builtin.append_ #[49, 49] 49 #[t5_2, t36_18]) w fun t37_19 w =>
 run1 Tryz.prog Z (binOp BinOp.add 3 t6_3 (Value.int IntKind.i64 1)) w fun t17_20 w =>
 ∃ n_1, n_1 < m_1 ∧ J_1 n_1 t37_19 t17_20 w)) (
 ∃ J_21 : Nat → Value → World → Prop, (∃ m, J_21 m (Value.int IntKind.i64 0) w) ∧
 ∀ m_21, ∀ t9_22 : Value, ∀ w : World, J_21 m_21 t9_22 w → Env →
 run1 Tryz.prog Z (Builtin.len_ #[49] 3 #[x0]) w fun t40_23 w =>
 run1 Tryz.prog Z (binOp BinOp.lss 3 t9_22 t40_23) w fun t41_24 w =>
 CondV t41_24 (
 run1 Tryz.prog Z (Instr.indexAt 49 x0 t9_22) w fun t46_25 w =>
 run1 Tryz.prog Z (Instr.loadAt 30 t46_25) w fun t47_26 w =>
 run1 Tryz.prog Z (Builtin.len_ #[30] 3 #[t47_26]) w fun t48_27 w =>
 ∃ J_28 : Nat → Value → World → Prop, (∃ m, J_28 m (Value.int IntKind.i64 0) w) ∧
 ∀ m_28, ∀ t11_29 : Value, ∀ w : World, J_28 m_28 t11_29 w → Env →
 run1 Tryz.prog Z (binOp BinOp.add 3 t48_27 x1) w fun t52_30 w =>
 run1 Tryz.prog Z (binOp BinOp.lss 3 t11_29 t52_30) w fun t53_31 w =>
 CondV t53_31 (
 Drawn w fun w =>
 Pure1 Tryz.prog (binOp BinOp.lss 3 t11_29 t48_27) fun t58_32 =>
 guardV (t58_32) true (fun k => k (x0)) (fun t60_33 =>
 guardV (t58_32) true (fun k => k (t9_22)) (fun t61_34 =>
 guardV (t58_32) true (fun k => Pure1 Tryz.prog (Instr.indexAt 49 t60_33 t61_34) k) (fun t62_35 =>
 guardV (t58_32) true (fun k => Read1 Tryz.prog (Instr.loadAt 30 t62_35) w k) (fun t63_36 =>
 guardV (t58_32) true (fun k => k (t11_29)) (fun t64_37 =>
 guardV (t58_32) true (fun k => Pure1 Tryz.prog (Instr.indexAt 30 t63_36 t64_37) k) (fun t65_38 =>
 guardV (t58_32) true (fun k => Pure1 Tryz.prog (Instr.fieldAt 120 t65_38 1) k) (fun t66_39 =>
 guardV (t58_32) true (fun k => Read1 Tryz.prog (Instr.loadAt 9 t66_39) w k) (fun t67_40 =>
 guardV (t58_32) true (fun k => k (t9_22)) (fun t68_41 =>
 guardV (t58_32) true (fun k => Pure1 Tryz.prog (binOp BinOp.sub 3 (Value.int IntKind.i64 (-1000000)) t68_41) k) (fun t69_42 =>
 guardW (t58_32) true (fun k => CallV Tryz.prog Z 109 #[t69_42] w k) (fun t70_43 w =>
 Still Tryz.prog (gSem (t58_32) true (nx (Instr.loadAt 9 t66_39))) t67_40 w <|
 Still Tryz.prog (gSem (t58_32) true (nx (Instr.loadAt 30 t62_35))) t63_36 w <|
 guardV (t58_32) true (fun k => Pure1 Tryz.prog (eqOp BinOp.eql 9 false false t67_40 t70_43) k) (fun t71_44 =>
 guardV (t58_32) true (fun k => Pure1 Tryz.prog (Op.unary UnOp.not t71_44) k) (fun t72_45 =>
 Pure1 Tryz.prog (pickV t58_32 t72_45 (Value.bool false)) fun t73_46 =>
 guardV (t73_46) false (fun k => k (t11_29)) (fun t75_47 =>
 guardV (t73_46) false (fun k => k (t48_27)) (fun t76_48 =>
 guardV (t73_46) false (fun k => Pure1 Tryz.prog (binOp BinOp.lss 3 t75_47 t76_48) k) (fun t77_49 =>
 guardV (t73_46) false (fun k => k (t77_49)) (fun t78_50 =>
 guardV (t78_50) true (fun k => k (t5_2)) (fun t79_51 =>
 guardV (t78_50) true (fun k => k (t9_22)) (fun t80_52 =>
 guardV (t78_50) true (fun k => Pure1 Tryz.prog (Instr.indexAt 49 t79_51 t80_52) k) (fun t81_53 =>
 guardV (t78_50) true (fun k => Read1 Tryz.prog (Instr.loadAt 30 t81_53) w k) (fun t82_54 =>
 guardV (t78_50) true (fun k => k (t11_29)) (fun t83_55 =>
 guardV (t78_50) true (fun k => Pure1 Tryz.prog (Instr.indexAt 30 t82_54 t83_55) k) (fun t84_56 =>
 guardV (t78_50) true (fun k => Pure1 Tryz.prog (Instr.fieldAt 120 t84_56 1) k) (fun t85_57 =>
 guardV (t78_50) true (fun k => Read1 Tryz.prog (Instr.loadAt 9 t85_57) w k) (fun t86_58 =>
 guardV (t78_50) true (fun k => k (t9_22)) (fun t87_59 =>
 guardV (t78_50) true (fun k => Pure1 Tryz.prog (binOp BinOp.sub 3 (Value.int IntKind.i64 (-1000000)) t87_59) k) (fun t88_60 =>
 guardW (t78_50) true (fun k => CallV Tryz.prog Z 109 #[t88_60] w k) (fun t89_61 w =>
 Still Tryz.prog (gSem (t78_50) true (nx (Instr.loadAt 9 t85_57))) t86_58 w <|
 Still Tryz.prog (gSem (t78_50) true (nx (Instr.loadAt 30 t81_53))) t82_54 w <|
 Still Tryz.prog (gSem (t58_32) true (nx (Instr.loadAt 9 t66_39))) t67_40 w <|
 Still Tryz.prog (gSem (t58_32) true (nx (Instr.loadAt 30 t62_35))) t63_36 w <|
 guardV (t78_50) true (fun k => Pure1 Tryz.prog (eqOp BinOp.eql 9 false false t86_58 t89_61) k) (fun t90_62 =>
 guardV (t78_50) true (fun k => Pure1 Tryz.prog (Op.unary UnOp.not t90_62) k) (fun t91_63 =>
 guardV (t73_46) false (fun k => Pure1 Tryz.prog (pickV t78_50 t91_63 (Value.bool false)) k) (fun t92_64 =>
 Pure1 Tryz.prog (pickV t73_46 (Value.bool true) t92_64) fun t93_65 =>
 guardV (t93_65) false (fun k => k (t11_29)) (fun t95_66 =>
 guardV (t93_65) false (fun k => k (t48_27)) (fun t96_67 =>
 guardV (t93_65) false (fun k => Pure1 Tryz.prog (binOp BinOp.geq 3 t95_66 t96_67) k) (fun t97_68 =>
 guardV (t93_65) false (fun k => k (t97_68)) (fun t98_69 =>
 guardV (t98_69) true (fun k => k (t5_2)) (fun t99_70 =>
 guardV (t98_69) true (fun k => k (t9_22)) (fun t100_71 =>
 guardV (t98_69) true (fun k => Pure1 Tryz.prog (Instr.indexAt 49 t99_70 t100_71) k) (fun t101_72 =>
 guardV (t98_69) true (fun k => Read1 Tryz.prog (Instr.loadAt 30 t101_72) w k) (fun t102_73 =>
 guardV (t98_69) true (fun k => k (t11_29)) (fun t103_74 =>
 guardV (t98_69) true (fun k => Pure1 Tryz.prog (Instr.indexAt 30 t102_73 t103_74) k) (fun t104_75 =>
 guardV (t98_69) true (fun k => Pure1 Tryz.prog (Instr.fieldAt 120 t104_75 1) k) (fun t105_76 =>
 guardV (t98_69) true (fun k => Read1 Tryz.prog (Instr.loadAt 9 t105_76) w k) (fun t106_77 =>
 guardV (t98_69) true (fun k => k (t9_22)) (fun t107_78 =>
 guardV (t98_69) true (fun k => Pure1 Tryz.prog (binOp BinOp.sub 3 (Value.int IntKind.i64 (-2000000)) t107_78) k) (fun t108_79 =>
 guardW (t98_69) true (fun k => CallV Tryz.prog Z 109 #[t108_79] w k) (fun t109_80 w =>
 Still Tryz.prog (gSem (t98_69) true (nx (Instr.loadAt 9 t105_76))) t106_77 w <|
 Still Tryz.prog (gSem (t98_69) true (nx (Instr.loadAt 30 t101_72))) t102_73 w <|
 Still Tryz.prog (gSem (t78_50) true (nx (Instr.loadAt 9 t85_57))) t86_58 w <|
 Still Tryz.prog (gSem (t78_50) true (nx (Instr.loadAt 30 t81_53))) t82_54 w <|
 Still Tryz.prog (gSem (t58_32) true (nx (Instr.loadAt 9 t66_39))) t67_40 w <|
 Still Tryz.prog (gSem (t58_32) true (nx (Instr.loadAt 30 t62_35))) t63_36 w <|
 guardV (t98_69) true (fun k => Pure1 Tryz.prog (eqOp BinOp.eql 9 false false t106_77 t109_80) k) (fun t110_81 =>
 guardV (t98_69) true (fun k => Pure1 Tryz.prog (Op.unary UnOp.not t110_81) k) (fun t111_82 =>
 guardV (t93_65) false (fun k => Pure1 Tryz.prog (pickV t98_69 t111_82 (Value.bool false)) k) (fun t112_83 =>
 Pure1 Tryz.prog (pickV t93_65 (Value.bool true) t112_83) fun t113_84 =>
 CondV t113_84 (
 Q (Value.bool false) w) (
 run1 Tryz.prog Z (binOp BinOp.add 3 t11_29 (Value.int IntKind.i64 1)) w fun t55_85 w =>
 ∃ n_28, n_28 < m_28 ∧ J_28 n_28 t55_85 w))))) w)))))))))))))))))) w))))))))))))))))) w))))))))))) (
 run1 Tryz.prog Z (binOp BinOp.add 3 t9_22 (Value.int IntKind.i64 1)) w fun t43_86 w =>
 ∃ n_21, n_21 < m_21 ∧ J_21 n_21 t43_86 w)) (
 Q (Value.bool true) w))
noncomputable def f114.code : Code := match Tryz.f114.body with | some c => c | none => .skip
def f114.an : An := (.sq .leaf (.sq .leaf (.sq (.sq .leaf (.bl (.lp [5, 6] [5, 6, 7, 8, 12, 13, 14, 15, 16, 17, 18, 19, 20, 21, 22, 23, 24, 25, 26, 27, 28, 29, 30, 31, 32, 33, 34, 35, 36, 37] (.sq (.sq .leaf (.cn .leaf .leaf)) (.sq (.bl (.sq .leaf (.sq (.sq .leaf (.bl (.lp [7, 8] [7, 8, 22, 23, 24, 25, 26, 27, 28, 29, 30, 31, 32, 33] (.sq (.sq .leaf (.cn .leaf .leaf)) (.sq (.bl .leaf) .leaf))))) .leaf))) .leaf))))) (.sq (.sq .leaf (.bl (.lp [9] [4, 9, 10, 11, 38, 39, 40, 41, 42, 43, 44, 45, 46, 47, 48, 49, 50, 51, 52, 53, 54, 55, 56, 57, 58, 59, 60, 61, 62, 63, 64, 65, 66, 67, 68, 69, 70, 71, 72, 73, 74, 75, 76, 77, 78, 79, 80, 81, 82, 83, 84, 85, 86, 87, 88, 89, 90, 91, 92, 93, 94, 95, 96, 97, 98, 99, 100, 101, 102, 103, 104, 105, 106, 107, 108, 109, 110, 111, 112, 113] (.sq (.sq .leaf (.cn .leaf .leaf)) (.sq (.bl (.sq .leaf (.sq .leaf (.bl (.lp [11] [4, 11, 49, 50, 51, 52, 53, 54, 55, 56, 57, 58, 59, 60, 61, 62, 63, 64, 65, 66, 67, 68, 69, 70, 71, 72, 73, 74, 75, 76, 77, 78, 79, 80, 81, 82, 83, 84, 85, 86, 87, 88, 89, 90, 91, 92, 93, 94, 95, 96, 97, 98, 99, 100, 101, 102, 103, 104, 105, 106, 107, 108, 109, 110, 111, 112, 113] (.sq (.sq .leaf (.cn .leaf .leaf)) (.sq (.bl (.sq (.dr (.take 0 false (.take 1 false (.take 2 false (.take 3 false (.take 4 false (.take 5 false (.take 6 false (.take 7 true (.take 8 false (.take 9 false (.take 10 false (.take 11 true (.take 12 false (.take 13 false (.one 14 (.take 15 false (.take 16 false (.take 17 false (.take 18 false (.take 19 false (.take 20 false (.take 21 false (.take 22 false (.take 23 false (.take 24 false (.take 25 false (.take 26 true (.take 27 false (.take 28 false (.take 29 false (.take 30 true (.take 31 false (.take 32 false (.one 33 (.take 34 false (.take 35 false (.take 36 false (.take 37 false (.take 38 false (.take 39 false (.take 40 false (.take 41 false (.take 42 false (.take 43 false (.take 44 false (.take 45 false (.take 46 true (.take 47 false (.take 48 false (.take 49 false (.take 50 true (.take 51 false (.take 52 false (.one 53 (.take 54 false (.take 55 false (.take 56 false (.take 57 false .fin))))))))))))))))))))))))))))))))))))))))))))))))))))))))))) (.cn (.sq .leaf .leaf) .leaf))) .leaf))))))) .leaf))))) (.sq .leaf .leaf)))))
theorem f114.body_eq : Tryz.f114.body = some f114.code := by kernel_rfl
theorem f114.shape (Z : List PanicEntry → World → Prop) (x0 x1 : Value) (w : World) (Q : Value → World → Prop) : vc drawD Tryz.prog 114 Z [109] f114.an f114.code (fnQ Tryz.prog 114 Tryz.f114.results Q) (argEnv [x0, x1]) w = f114.sh Z x0 x1 w Q := by kernel_rfl
theorem f114.enters : ∀ f, f ∈ ([109] : List Nat) → Enters Tryz.prog f := by
 intro f hf
 simp only [List.mem_cons, List.not_mem_nil, or_false] at hf
 rcases hf with rfl
 · exact en109
theorem f114.calls {Z : List PanicEntry → World → Prop} {x0 x1 : Value} {w : World} {Q : Value → World → Prop} (h : f114.sh Z x0 x1 w Q) : CallV Tryz.prog Z 114 #[x0, x1] w Q :=
 calls_of_vcn drawD_sound (Q := Q) (n := 114) (rs := Tryz.f114.results) (an := f114.an) (c := f114.code) (cal := [109]) (args := [x0, x1]) Tryz.func114 (by kernel_rfl) rfl f114.body_eq follows (Nat.le_of_ble_eq_true (by kernel_rfl)) (enters_of_all f114.enters) ((f114.shape Z x0 x1 w Q).mpr h)

def f115.sh (Z : List PanicEntry → World → Prop) (x0 x1 : Value) (w : World) (Q : Value → World → Prop) : Prop :=
 ∃ J_1 : Nat → Value → Value → World → Prop, (∃ m, J_1 m (Value.slice none 0 0) (Value.int IntKind.i64 0) w) ∧
 ∀ m_1, ∀ t5_2 : Value, ∀ t6_3 : Value, ∀ w : World, J_1 m_1 t5_2 t6_3 w → Env →
 run1 Tryz.prog Z (Builtin.len_ #[50] 3 #[x0]) w fun t14_4 w =>
 run1 Tryz.prog Z (binOp BinOp.lss 3 t6_3 t14_4) w fun t15_5 w =>
 CondV t15_5 (
 run1 Tryz.prog Z (Instr.indexAt 50 x0 t6_3) w fun t20_6 w =>
 run1 Tryz.prog Z (Instr.loadAt 29 t20_6) w fun t21_7 w =>
 ∃ J_8 : Nat → Value → Value → World → Prop, (∃ m, J_8 m t21_7 (Value.int IntKind.i64 0) w) ∧
 ∀ m_8, ∀ t7_9 : Value, ∀ t8_10 : Value, ∀ w : World, J_8 m_8 t7_9 t8_10 w → Env →
 run1 Tryz.prog Z (binOp BinOp.lss 3 t8_10 x1) w fun t24_11 w =>
 CondV t24_11 (
 run1 Tryz.prog Z (binOp BinOp.sub 3 (Value.int IntKind.i64 (-2000000)) t6_3) w fun t29_12 w =>
 CallV Tryz.prog Z 109 #[t29_12] w fun t30_13 w =>
 run1 Tryz.prog Z (Instr.build 120 #[(1, t30_13)]) w fun t31_14 w =>
 run1 Tryz.prog Z (Instr.build 122 #[(1, t31_14)]) w fun t32_15 w =>
 run1 Tryz.prog Z (Instr.buildSlice 29 1 #[(0, t32_15)]) w fun t33_16 w =>
 run1 Tryz.prog Z (Builtin.append_ #[29, 29] 29 #[t7_9, t33_16]) w fun t34_17 w =>
 run1 Tryz.prog Z (binOp BinOp.add 3 t8_10 (Value.int IntKind.i64 1)) w fun t26_18 w =>
 ∃ n_8, n_8 < m_8 ∧ J_8 n_8 t34_17 t26_18 w) (
 run1 Tryz.prog Z (Instr.buildSlice 50 1 #[(0, t7_9)]) w fun t37_19 w =>
 run1 Tryz.prog Z (Builtin.append_ #[50, 50] 50 #[t5_2, t37_19]) w fun t38_20 w =>
 run1 Tryz.prog Z (binOp BinOp.add 3 t6_3 (Value.int IntKind.i64 1)) w fun t17_21 w =>
 ∃ n_1, n_1 < m_1 ∧ J_1 n_1 t38_20 t17_21 w)) (
 ∃ J_22 : Nat → Value → World → Prop, (∃ m, J_22 m (Value.int IntKind.i64 0) w) ∧
 ∀ m_22, ∀ t9_23 : Value, ∀ w : World, J_22 m_22 t9_23 w → Env →
 run1 Tryz.prog Z (Builtin.len_ #[50] 3 #[x0]) w fun t41_24 w =>
 run1 Tryz.prog Z (binOp BinOp.lss 3 t9_23 t41_24) w fun t42_25 w =>
 CondV t42_25 (
 run1 Tryz.prog Z (Instr.indexAt 50 x0 t9_23) w fun t47_26 w =>
 run1 Tryz.prog Z (Instr.loadAt 29 t47_26) w fun t48_27 w =>
 run1 Tryz.prog Z (Builtin.len_ #[29] 3 #[t48_27]) w fun t49_28 w =>
 ∃ J_29 : Nat → Value → World → Prop, (∃ m, J_29 m (Value.int IntKind.i64 0) w) ∧
 ∀ m_29, ∀ t11_30 : Value, ∀ w : World, J_29 m_29 t11_30 w → Env →
 run1 Tryz.prog Z (binOp BinOp.add 3 t49_28 x1) w fun t53_31 w =>
 run1 Tryz.prog Z (binOp BinOp.lss 3 t11_30 t53_31) w fun t54_32 w =>
 CondV t54_32 (
 Drawn w fun w =>
 Pure1 Tryz.prog (binOp BinOp.lss 3 t11_30 t49_28) fun t59_33 =>
 guardV (t59_33) true (fun k => k (x0)) (fun t61_34 =>
 guardV (t59_33) true (fun k => k (t9_23)) (fun t62_35 =>
 guardV (t59_33) true (fun k => Pure1 Tryz.prog (Instr.indexAt 50 t61_34 t62_35) k) (fun t63_36 =>
 guardV (t59_33) true (fun k => Read1 Tryz.prog (Instr.loadAt 29 t63_36) w k) (fun t64_37 =>
 guardV (t59_33) true (fun k => k (t11_30)) (fun t65_38 =>
 guardV (t59_33) true (fun k => Pure1 Tryz.prog (Instr.indexAt 29 t64_37 t65_38) k) (fun t66_39 =>
 guardV (t59_33) true (fun k => Pure1 Tryz.prog (Instr.fieldAt 122 t66_39 1) k) (fun t67_40 =>
 guardV (t59_33) true (fun k => Pure1 Tryz.prog (Instr.fieldAt 120 t67_40 1) k) (fun t68_41 =>
 guardV (t59_33) true (fun k => Read1 Tryz.prog (Instr.loadAt 9 t68_41) w k) (fun t69_42 =>
 guardV (t59_33) true (fun k => k (t9_23)) (fun t70_43 =>
 guardV (t59_33) true (fun k => Pure1 Tryz.prog (binOp BinOp.sub 3 (Value.int IntKind.i64 (-1000000)) t70_43) k) (fun t71_44 =>
 guardW (t59_33) true (fun k => CallV Tryz.prog Z 109 #[t71_44] w k) (fun t72_45 w =>
 Still Tryz.prog (gSem (t59_33) true (nx (Instr.loadAt 9 t68_41))) t69_42 w <|
 Still Tryz.prog (gSem (t59_33) true (nx (Instr.loadAt 29 t63_36))) t64_37 w <|
 guardV (t59_33) true (fun k => Pure1 Tryz.prog (eqOp BinOp.eql 9 false false t69_42 t72_45) k) (fun t73_46 =>
 guardV (t59_33) true (fun k => Pure1 Tryz.prog (Op.unary UnOp.not t73_46) k) (fun t74_47 =>
 Pure1 Tryz.prog (pickV t59_33 t74_47 (Value.bool false)) fun t75_48 =>
 guardV (t75_48) false (fun k => k (t11_30)) (fun t77_49 =>
 guardV (t75_48) false (fun k => k (t49_28)) (fun t78_50 =>
 guardV (t75_48) false (fun k => Pure1 Tryz.prog (binOp BinOp.lss 3 t77_49 t78_50) k) (fun t79_51 =>
 guardV (t75_48) false (fun k => k (t79_51)) (fun t80_52 =>
 guardV (t80_52) true (fun k => k (t5_2)) (fun t81_53 =>
 guardV (t80_52) true (fun k => k (t9_23)) (fun t82_54 =>
 guardV (t80_52) true (fun k => Pure1 Tryz.prog (Instr.indexAt 50 t81_53 t82_54) k) (fun t83_55 =>
 guardV (t80_52) true (fun k => Read1 Tryz.prog (Instr.loadAt 29 t83_55) w k) (fun t84_56 =>
 guardV (t80_52) true (fun k => k (t11_30)) (fun t85_57 =>
 guardV (t80_52) true (fun k => Pure1 Tryz.prog (Instr.indexAt 29 t84_56 t85_57) k) (fun t86_58 =>
 guardV (t80_52) true (fun k => Pure1 Tryz.prog (Instr.fieldAt 122 t86_58 1) k) (fun t87_59 =>
 guardV (t80_52) true (fun k => Pure1 Tryz.prog (Instr.fieldAt 120 t87_59 1) k) (fun t88_60 =>
 guardV (t80_52) true (fun k => Read1 Tryz.prog (Instr.loadAt 9 t88_60) w k) (fun t89_61 =>
 guardV (t80_52) true (fun k => k (t9_23)) (fun t90_62 =>
 guardV (t80_52) true (fun k => Pure1 Tryz.prog (binOp BinOp.sub 3 (Value.int IntKind.i64 (-1000000)) t90_62) k) (fun t91_63 =>
 guardW (t80_52) true (fun k => CallV Tryz.prog Z 109 #[t91_63] w k) (fun t92_64 w =>
 Still Tryz.prog (gSem (t80_52) true (nx (Instr.loadAt 9 t88_60))) t89_61 w <|
 Still Tryz.prog (gSem (t80_52) true (nx (Instr.loadAt 29 t83_55))) t84_56 w <|
 Still Tryz.prog (gSem (t59_33) true (nx (Instr.loadAt 9 t68_41))) t69_42 w <|
 Still Tryz.prog (gSem (t59_33) true (nx (Instr.loadAt 29 t63_36))) t64_37 w <|
 guardV (t80_52) true (fun k => Pure1 Tryz.prog (eqOp BinOp.eql 9 false false t89_61 t92_64) k) (fun t93_65 =>
 guardV (t80_52) true (fun k => Pure1 Tryz.prog (Op.unary UnOp.not t93_65) k) (fun t94_66 =>
 guardV (t75_48) false (fun k => Pure1 Tryz.prog (pickV t80_52 t94_66 (Value.bool false)) k) (fun t95_67 =>
 Pure1 Tryz.prog (pickV t75_48 (Value.bool true) t95_67) fun t96_68 =>
 guardV (t96_68) false (fun k => k (t11_30)) (fun t98_69 =>
 guardV (t96_68) false (fun k => k (t49_28)) (fun t99_70 =>
 guardV (t96_68) false (fun k => Pure1 Tryz.prog (binOp BinOp.geq 3 t98_69 t99_70) k) (fun t100_71 =>
 guardV (t96_68) false (fun k => k (t100_71)) (fun t101_72 =>
 guardV (t101_72) true (fun k => k (t5_2)) (fun t102_73 =>
 guardV (t101_72) true (fun k => k (t9_23)) (fun t103_74 =>
 guardV (t101_72) true (fun k => Pure1 Tryz.prog (Instr.indexAt 50 t102_73 t103_74) k) (fun t104_75 =>
 guardV (t101_72) true (fun k => Read1 Tryz.prog (Instr.loadAt 29 t104_75) w k) (fun t105_76 =>
 guardV (t101_72) true (fun k => k (t11_30)) (fun t106_77 =>
 guardV (t101_72) true (fun k => Pure1 Tryz.prog (Instr.indexAt 29 t105_76 t106_77) k) (fun t107_78 =>
 guardV (t101_72) true (fun k => Pure1 Tryz.prog (Instr.fieldAt 122 t107_78 1) k) (fun t108_79 =>
 guardV (t101_72) true (fun k => Pure1 Tryz.prog (Instr.fieldAt 120 t108_79 1) k) (fun t109_80 =>
 guardV (t101_72) true (fun k => Read1 Tryz.prog (Instr.loadAt 9 t109_80) w k) (fun t110_81 =>
 guardV (t101_72) true (fun k => k (t9_23)) (fun t111_82 =>
 guardV (t101_72) true (fun k => Pure1 Tryz.prog (binOp BinOp.sub 3 (Value.int IntKind.i64 (-2000000)) t111_82) k) (fun t112_83 =>
 guardW (t101_72) true (fun k => CallV Tryz.prog Z 109 #[t112_83] w k) (fun t113_84 w =>
 Still Tryz.prog (gSem (t101_72) true (nx (Instr.loadAt 9 t109_80))) t110_81 w <|
 Still Tryz.prog (gSem (t101_72) true (nx (Instr.loadAt 29 t104_75))) t105_76 w <|
 Still Tryz.prog (gSem (t80_52) true (nx (Instr.loadAt 9 t88_60))) t89_61 w <|
 Still Tryz.prog (gSem (t80_52) true (nx (Instr.loadAt 29 t83_55))) t84_56 w <|
 Still Tryz.prog (gSem (t59_33) true (nx (Instr.loadAt 9 t68_41))) t69_42 w <|
 Still Tryz.prog (gSem (t59_33) true (nx (Instr.loadAt 29 t63_36))) t64_37 w <|
 guardV (t101_72) true (fun k => Pure1 Tryz.prog (eqOp BinOp.eql 9 false false t110_81 t113_84) k) (fun t114_85 =>
 guardV (t101_72) true (fun k => Pure1 Tryz.prog (Op.unary UnOp.not t114_85) k) (fun t115_86 =>
 guardV (t96_68) false (fun k => Pure1 Tryz.prog (pickV t101_72 t115_86 (Value.bool false)) k) (fun t116_87 =>
 Pure1 Tryz.prog (pickV t96_68 (Value.bool true) t116_87) fun t117_88 =>
 CondV t117_88 (
 Q (Value.bool false) w) (
 run1 Tryz.prog Z (binOp BinOp.add 3 t11_30 (Value.int IntKind.i64 1)) w fun t56_89 w =>
 ∃ n_29, n_29 < m_29 ∧ J_29 n_29 t56_89 w))))) w))))))))))))))))))) w)))))))))))))))))) w)))))))))))) (
 run1 Tryz.prog Z (binOp BinOp.add 3 t9_23 (Value.int IntKind.i64 1)) w fun t44_90 w =>
 ∃ n_22, n_22 < m_22 ∧ J_22 n_22 t44_90 w)) (
 Q (Value.bool true) w))
noncomputable def f115.code : Code := match Tryz.f115.body with | some c => c | none => .skip
def f115.an : An := (.sq .leaf (.sq .leaf (.sq (.sq .leaf (.bl (.lp [5, 6] [5, 6, 7, 8, 12, 13, 14, 15, 16, 17, 18, 19, 20, 21, 22, 23, 24, 25, 26, 27, 28, 29, 30, 31, 32, 33, 34, 35, 36, 37, 38] (.sq (.sq .leaf (.cn .leaf .leaf)) (.sq (.bl (.sq .leaf (.sq (.sq .leaf (.bl (.lp [7, 8] [7, 8, 22, 23, 24, 25, 26, 27, 28, 29, 30, 31, 32, 33, 34] (.sq (.sq .leaf (.cn .leaf .leaf)) (.sq (.bl .leaf) .leaf))))) .leaf))) .leaf))))) (.sq (.sq .leaf (.bl (.lp [9] [4, 9, 10, 11, 39, 40, 41, 42, 43, 44, 45, 46, 47, 48, 49, 50, 51, 52, 53, 54, 55, 56, 57, 58, 59, 60, 61, 62, 63, 64, 65, 66, 67, 68, 69, 70, 71, 72, 73, 74, 75, 76, 77, 78, 79, 80, 81, 82, 83, 84, 85, 86, 87, 88, 89, 90, 91, 92, 93, 94, 95, 96, 97, 98, 99, 100, 101, 102, 103, 104, 105, 106, 107, 108, 109, 110, 111, 112, 113, 114, 115, 116, 117] (.sq (.sq .leaf (.cn .leaf .leaf)) (.sq (.bl (.sq .leaf (.sq .leaf (.bl (.lp [11] [4, 11, 50, 51, 52, 53, 54, 55, 56, 57, 58, 59, 60, 61, 62, 63, 64, 65, 66, 67, 68, 69, 70, 71, 72, 73, 74, 75, 76, 77, 78, 79, 80, 81, 82, 83, 84, 85, 86, 87, 88, 89, 90, 91, 92, 93, 94, 95, 96, 97, 98, 99, 100, 101, 102, 103, 104, 105, 106, 107, 108, 109, 110, 111, 112, 113, 114, 115, 116, 117] (.sq (.sq .leaf (.cn .leaf .leaf)) (.sq (.bl (.sq (.dr (.take 0 false (.take 1 false (.take 2 false (.take 3 false (.take 4 false (.take 5 false (.take 6 false (.take 7 true (.take 8 false (.take 9 false (.take 10 false (.take 11 false (.take 12 true (.take 13 false (.take 14 false (.one 15 (.take 16 false (.take 17 false (.take 18 false (.take 19 false (.take 20 false (.take 21 false (.take 22 false (.take 23 false (.take 24 false (.take 25 false (.take 26 false (.take 27 true (.take 28 false (.take 29 false (.take 30 false (.take 31 false (.take 32 true (.take 33 false (.take 34 false (.one 35 (.take 36 false (.take 37 false (.take 38 false (.take 39 false (.take 40 false (.take 41 false (.take 42 false (.take 43 false (.take 44 false (.take 45 false (.take 46 false (.take 47 false (.take 48 true (.take 49 false (.take 50 false (.take 51 false (.take 52 false (.take 53 true (.take 54 false (.take 55 false (.one 56 (.take 57 false (.take 58 false (.take 59 false (.take 60 false .fin)))))))))))))))))))))))))))))))))))))))))))))))))))))))))))))) (.cn (.sq .leaf .leaf) .leaf))) .leaf))))))) .leaf))))) (.sq .leaf .leaf)))))
theorem f115.body_eq : Tryz.f115.body = some f115.code := by kernel_rfl
theorem f115.shape (Z : List PanicEntry → World → Prop) (x0 x1 : Value) (w : World) (Q : Value → World → Prop) : vc drawD Tryz.prog 118 Z [109] f115.an f115.code (fnQ Tryz.prog 118 Tryz.f115.results Q) (argEnv [x0, x1]) w = f115.sh Z x0 x1 w Q := by kernel_rfl
theorem f115.enters : ∀ f, f ∈ ([109] : List Nat) → Enters Tryz.prog f := by
 intro f hf
 simp only [List.mem_cons, List.not_mem_nil, or_false] at hf
 rcases hf with rfl
 · exact en109
theorem f115.calls {Z : List PanicEntry → World → Prop} {x0 x1 : Value} {w : World} {Q : Value → World → Prop} (h : f115.sh Z x0 x1 w Q) : CallV Tryz.prog Z 115 #[x0, x1] w Q :=
 calls_of_vcn drawD_sound (Q := Q) (n := 118) (rs := Tryz.f115.results) (an := f115.an) (c := f115.code) (cal := [109]) (args := [x0, x1]) Tryz.func115 (by kernel_rfl) rfl f115.body_eq follows (Nat.le_of_ble_eq_true (by kernel_rfl)) (enters_of_all f115.enters) ((f115.shape Z x0 x1 w Q).mpr h)

def f116.sh (Z : List PanicEntry → World → Prop) (x0 x1 : Value) (w : World) (Q : Value → World → Prop) : Prop :=
 ∃ J_1 : Nat → Value → Value → World → Prop, (∃ m, J_1 m (Value.slice none 0 0) (Value.int IntKind.i64 0) w) ∧
 ∀ m_1, ∀ t5_2 : Value, ∀ t6_3 : Value, ∀ w : World, J_1 m_1 t5_2 t6_3 w → Env →
 run1 Tryz.prog Z (Builtin.len_ #[51] 3 #[x0]) w fun t14_4 w =>
 run1 Tryz.prog Z (binOp BinOp.lss 3 t6_3 t14_4) w fun t15_5 w =>
 CondV t15_5 (
 run1 Tryz.prog Z (Instr.indexAt 51 x0 t6_3) w fun t20_6 w =>
 run1 Tryz.prog Z (Instr.loadAt 31 t20_6) w fun t21_7 w =>
 ∃ J_8 : Nat → Value → Value → World → Prop, (∃ m, J_8 m t21_7 (Value.int IntKind.i64 0) w) ∧
 ∀ m_8, ∀ t7_9 : Value, ∀ t8_10 : Value, ∀ w : World, J_8 m_8 t7_9 t8_10 w → Env →
 run1 Tryz.prog Z (binOp BinOp.lss 3 t8_10 x1) w fun t24_11 w =>
 CondV t24_11 (
 run1 Tryz.prog Z (binOp BinOp.sub 3 (Value.int IntKind.i64 (-2000000)) t6_3) w fun t29_12 w =>
 run1 Tryz.prog Z (Instr.build 33 #[(7, t29_12)]) w fun t30_13 w =>
 run1 Tryz.prog Z (Instr.buildSlice 31 1 #[(0, t30_13)]) w fun t31_14 w =>
 run1 Tryz.prog Z (Builtin.append_ #[31, 31] 31 #[t7_9, t31_14]) w fun t32_15 w =>
 run1 Tryz.prog Z (binOp BinOp.add 3 t8_10 (Value.int IntKind.i64 1)) w fun t26_16 w =>
 ∃ n_8, n_8 < m_8 ∧ J_8 n_8 t32_15 t26_16 w) (
 run1 Tryz.prog Z (Instr.buildSlice 51 1 #[(0, t7_9)]) w fun t35_17 w =>
 run1 Tryz.prog Z (Builtin.append_ #[51, 51] 51 #[t5_2, t35_17]) w fun t36_18 w =>
 run1 Tryz.prog Z (binOp BinOp.add 3 t6_3 (Value.int IntKind.i64 1)) w fun t17_19 w =>
 ∃ n_1, n_1 < m_1 ∧ J_1 n_1 t36_18 t17_19 w)) (
 ∃ J_20 : Nat → Value → World → Prop, (∃ m, J_20 m (Value.int IntKind.i64 0) w) ∧
 ∀ m_20, ∀ t9_21 : Value, ∀ w : World, J_20 m_20 t9_21 w → Env →
 run1 Tryz.prog Z (Builtin.len_ #[51] 3 #[x0]) w fun t39_22 w =>
 run1 Tryz.prog Z (binOp BinOp.lss 3 t9_21 t39_22) w fun t40_23 w =>
 CondV t40_23 (
 run1 Tryz.prog Z (Instr.indexAt 51 x0 t9_21) w fun t45_24 w =>
 run1 Tryz.prog Z (Instr.loadAt 31 t45_24) w fun t46_25 w =>
 run1 Tryz.prog Z (Builtin.len_ #[31] 3 #[t46_25]) w fun t47_26 w =>
 ∃ J_27 : Nat → Value → World → Prop, (∃ m, J_27 m (Value.int IntKind.i64 0) w) ∧
 ∀ m_27, ∀ t11_28 : Value, ∀ w : World, J_27 m_27 t11_28 w → Env →
 run1 Tryz.prog Z (binOp BinOp.add 3 t47_26 x1) w fun t51_29 w =>
 run1 Tryz.prog Z (binOp BinOp.lss 3 t11_28 t51_29) w fun t52_30 w =>
 CondV t52_30 (
 run1 Tryz.prog Z (binOp BinOp.lss 3 t11_28 t47_26) w fun t57_31 w =>
 guardW (t57_31) true (fun k => k (x0) w) (fun t59_32 w =>
 guardW (t57_31) true (fun k => k (t9_21) w) (fun t60_33 w =>
 guardW (t57_31) true (fun k => run1 Tryz.prog Z (Instr.indexAt 51 t59_32 t60_33) w k) (fun t61_34 w =>
 guardW (t57_31) true (fun k => run1 Tryz.prog Z (Instr.loadAt 31 t61_34) w k) (fun t62_35 w =>
 guardW (t57_31) true (fun k => k (t11_28) w) (fun t63_36 w =>
 guardW (t57_31) true (fun k => run1 Tryz.prog Z (Instr.indexAt 31 t62_35 t63_36) w k) (fun t64_37 w =>
 guardW (t57_31) true (fun k => run1 Tryz.prog Z (Instr.fieldAt 33 t64_37 7) w k) (fun t65_38 w =>
 guardW (t57_31) true (fun k => run1 Tryz.prog Z (Instr.loadAt 2 t65_38) w k) (fun t66_39 w =>
 guardW (t57_31) true (fun k => k (t9_21) w) (fun t67_40 w =>
 guardW (t57_31) true (fun k => run1 Tryz.prog Z (binOp BinOp.sub 3 (Value.int IntKind.i64 (-1000000)) t67_40) w k) (fun t68_41 w =>
 guardW (t57_31) true (fun k => run1 Tryz.prog Z (eqOp BinOp.eql 2 false false t66_39 t68_41) w k) (fun t69_42 w =>
 guardW (t57_31) true (fun k => run1 Tryz.prog Z (Op.unary UnOp.not t69_42) w k) (fun t70_43 w =>
 run1 Tryz.prog Z (pickV t57_31 t70_43 (Value.bool false)) w fun t71_44 w =>
 guardW (t71_44) false (fun k => k (t11_28) w) (fun t73_45 w =>
 guardW (t71_44) false (fun k => k (t47_26) w) (fun t74_46 w =>
 guardW (t71_44) false (fun k => run1 Tryz.prog Z (binOp BinOp.lss 3 t73_45 t74_46) w k) (fun t75_47 w =>
 guardW (t71_44) false (fun k => k (t75_47) w) (fun t76_48 w =>
 guardW (t76_48) true (fun k => k (t5_2) w) (fun t77_49 w =>
 guardW (t76_48) true (fun k => k (t9_21) w) (fun t78_50 w =>
 guardW (t76_48) true (fun k => run1 Tryz.prog Z (Instr.indexAt 51 t77_49 t78_50) w k) (fun t79_51 w =>
 guardW (t76_48) true (fun k => run1 Tryz.prog Z (Instr.loadAt 31 t79_51) w k) (fun t80_52 w =>
 guardW (t76_48) true (fun k => k (t11_28) w) (fun t81_53 w =>
 guardW (t76_48) true (fun k => run1 Tryz.prog Z (Instr.indexAt 31 t80_52 t81_53) w k) (fun t82_54 w =>
 guardW (t76_48) true (fun k => run1 Tryz.prog Z (Instr.fieldAt 33 t82_54 7) w k) (fun t83_55 w =>
 guardW (t76_48) true (fun k => run1 Tryz.prog Z (Instr.loadAt 2 t83_55) w k) (fun t84_56 w =>
 guardW (t76_48) true (fun k => k (t9_21) w) (fun t85_57 w =>
 guardW (t76_48) true (fun k => run1 Tryz.prog Z (binOp BinOp.sub 3 (Value.int IntKind.i64 (-1000000)) t85_57) w k) (fun t86_58 w =>
 guardW (t76_48) true (fun k => run1 Tryz.prog Z (eqOp BinOp.eql 2 false false t84_56 t86_58) w k) (fun t87_59 w =>
 guardW (t76_48) true (fun k => run1 Tryz.prog Z (Op.unary UnOp.not t87_59) w k) (fun t88_60 w =>
 guardW (t71_44) false (fun k => run1 Tryz.prog Z (pickV t76_48 t88_60 (Value.bool false)) w k) (fun t89_61 w =>
 run1 Tryz.prog Z (pickV t71_44 (Value.bool true) t89_61) w fun t90_62 w =>
 guardW (t90_62) false (fun k => k (t11_28) w) (fun t92_63 w =>
 guardW (t90_62) false (fun k => k (t47_26) w) (fun t93_64 w =>
 guardW (t90_62) false (fun k => run1 Tryz.prog Z (binOp BinOp.geq 3 t92_63 t93_64) w k) (fun t94_65 w =>
 guardW (t90_62) false (fun k => k (t94_65) w) (fun t95_66 w =>
 guardW (t95_66) true (fun k => k (t5_2) w) (fun t96_67 w =>
 guardW (t95_66) true (fun k => k (t9_21) w) (fun t97_68 w =>
 guardW (t95_66) true (fun k => run1 Tryz.prog Z (Instr.indexAt 51 t96_67 t97_68) w k) (fun t98_69 w =>
 guardW (t95_66) true (fun k => run1 Tryz.prog Z (Instr.loadAt 31 t98_69) w k) (fun t99_70 w =>
 guardW (t95_66) true (fun k => k (t11_28) w) (fun t100_71 w =>
 guardW (t95_66) true (fun k => run1 Tryz.prog Z (Instr.indexAt 31 t99_70 t100_71) w k) (fun t101_72 w =>
 guardW (t95_66) true (fun k => run1 Tryz.prog Z (Instr.fieldAt 33 t101_72 7) w k) (fun t102_73 w =>
 guardW (t95_66) true (fun k => run1 Tryz.prog Z (Instr.loadAt 2 t102_73) w k) (fun t103_74 w =>
 guardW (t95_66) true (fun k => k (t9_21) w) (fun t104_75 w =>
 guardW (t95_66) true (fun k => run1 Tryz.prog Z (binOp BinOp.sub 3 (Value.int IntKind.i64 (-2000000)) t104_75) w k) (fun t105_76 w =>
 guardW (t95_66) true (fun k => run1 Tryz.prog Z (eqOp BinOp.eql 2 false false t103_74 t105_76) w k) (fun t106_77 w =>
 guardW (t95_66) true (fun k => run1 Tryz.prog Z (Op.unary UnOp.not t106_77) w k) (fun t107_78 w =>
 guardW (t90_62) false (fun k => run1 Tryz.prog Z (pickV t95_66 t107_78 (Value.bool false)) w k) (fun t108_79 w =>
 run1 Tryz.prog Z (pickV t90_62 (Value.bool true) t108_79) w fun t109_80 w =>
 CondV t109_80 (
 Q (Value.bool false) w) (
 run1 Tryz.prog Z (binOp BinOp.add 3 t11_28 (Value.int IntKind.i64 1)) w fun t54_81 w =>
 ∃ n_27, n_27 < m_27 ∧ J_27 n_27 t54_81 w)) w) w) w) w) w) w) w) w) w) w) w) w) w) w) w) w) w) w) w) w) w) w) w) w) w) w) w) w) w) w) w) w) w) w) w) w) w) w) w) w) w) w) w) w) w) w) (
 run1 Tryz.prog Z (binOp BinOp.add 3 t9_21 (Value.int IntKind.i64 1)) w fun t42_82 w =>
 ∃ n_20, n_20 < m_20 ∧ J_20 n_20 t42_82 w)) (
 Q (Value.bool true) w))
noncomputable def f116.code : Code := match Tryz.f116.body with | some c => c | none => .skip
def f116.an : An := (.sq .leaf (.sq .leaf (.sq (.sq .leaf (.bl (.lp [5, 6] [5, 6, 7, 8, 12, 13, 14, 15, 16, 17, 18, 19, 20, 21, 22, 23, 24, 25, 26, 27, 28, 29, 30, 31, 32, 33, 34, 35, 36] (.sq (.sq .leaf (.cn .leaf .leaf)) (.sq (.bl (.sq .leaf (.sq (.sq .leaf (.bl (.lp [7, 8] [7, 8, 22, 23, 24, 25, 26, 27, 28, 29, 30, 31, 32] (.sq (.sq .leaf (.cn .leaf .leaf)) (.sq (.bl .leaf) .leaf))))) .leaf))) .leaf))))) (.sq (.sq .leaf (.bl (.lp [9] [4, 9, 10, 11, 37, 38, 39, 40, 41, 42, 43, 44, 45, 46, 47, 48, 49, 50, 51, 52, 53, 54, 55, 56, 57, 58, 59, 60, 61, 62, 63, 64, 65, 66, 67, 68, 69, 70, 71, 72, 73, 74, 75, 76, 77, 78, 79, 80, 81, 82, 83, 84, 85, 86, 87, 88, 89, 90, 91, 92, 93, 94, 95, 96, 97, 98, 99, 100, 101, 102, 103, 104, 105, 106, 107, 108, 109] (.sq (.sq .leaf (.cn .leaf .leaf)) (.sq (.bl (.sq .leaf (.sq .leaf (.bl (.lp [11] [4, 11, 48, 49, 50, 51, 52, 53, 54, 55, 56, 57, 58, 59, 60, 61, 62, 63, 64, 65, 66, 67, 68, 69, 70, 71, 72, 73, 74, 75, 76, 77, 78, 79, 80, 81, 82, 83, 84, 85, 86, 87, 88, 89, 90, 91, 92, 93, 94, 95, 96, 97, 98, 99, 100, 101, 102, 103, 104, 105, 106, 107, 108, 109] (.sq (.sq .leaf (.cn .leaf .leaf)) (.sq (.bl (.sq .leaf (.cn (.sq .leaf .leaf) .leaf))) .leaf))))))) .leaf))))) (.sq .leaf .leaf)))))
theorem f116.body_eq : Tryz.f116.body = some f116.code := by kernel_rfl
theorem f116.shape (Z : List PanicEntry → World → Prop) (x0 x1 : Value) (w : World) (Q : Value → World → Prop) : vc drawD Tryz.prog 110 Z [] f116.an f116.code (fnQ Tryz.prog 110 Tryz.f116.results Q) (argEnv [x0, x1]) w = f116.sh Z x0 x1 w Q := by kernel_rfl
theorem f116.enters : ∀ f, f ∈ ([] : List Nat) → Enters Tryz.prog f := by
 intro f hf
 cases hf
theorem f116.calls {Z : List PanicEntry → World → Prop} {x0 x1 : Value} {w : World} {Q : Value → World → Prop} (h : f116.sh Z x0 x1 w Q) : CallV Tryz.prog Z 116 #[x0, x1] w Q :=
 calls_of_vcn drawD_sound (Q := Q) (n := 110) (rs := Tryz.f116.results) (an := f116.an) (c := f116.code) (cal := []) (args := [x0, x1]) Tryz.func116 (by kernel_rfl) rfl f116.body_eq follows (Nat.le_of_ble_eq_true (by kernel_rfl)) (enters_of_all f116.enters) ((f116.shape Z x0 x1 w Q).mpr h)

def f117.sh (Z : List PanicEntry → World → Prop) (x0 x1 : Value) (w : World) (Q : Value → World → Prop) : Prop :=
 ∃ J_1 : Nat → Value → Value → World → Prop, (∃ m, J_1 m (Value.slice none 0 0) (Value.int IntKind.i64 0) w) ∧
 ∀ m_1, ∀ t5_2 : Value, ∀ t6_3 : Value, ∀ w : World, J_1 m_1 t5_2 t6_3 w → Env →
 run1 Tryz.prog Z (Builtin.len_ #[52] 3 #[x0]) w fun t14_4 w =>
 run1 Tryz.prog Z (binOp BinOp.lss 3 t6_3 t14_4) w fun t15_5 w =>
 CondV t15_5 (
 False) (
 ∃ J_6 : Nat → Value → World → Prop, (∃ m, J_6 m (Value.int IntKind.i64 0) w) ∧
 ∀ m_6, ∀ t9_7 : Value, ∀ w : World, J_6 m_6 t9_7 w → Env →
 run1 Tryz.prog Z (Builtin.len_ #[52] 3 #[x0]) w fun t40_8 w =>
 run1 Tryz.prog Z (binOp BinOp.lss 3 t9_7 t40_8) w fun t41_9 w =>
 CondV t41_9 (
 False) (
 Q (Value.bool true) w))
noncomputable def f117.code : Code := match Tryz.f117.body with | some c => c | none => .skip
def f117.an : An := (.sq .leaf (.sq .leaf (.sq (.sq .leaf (.bl (.lp [5, 6] [5, 6, 7, 8, 12, 13, 14, 15, 16, 17, 18, 19, 20, 21, 22, 23, 24, 25, 26, 27, 28, 29, 30, 31, 32, 33, 34, 35, 36, 37] (.sq (.sq .leaf (.cn .leaf .leaf)) .leaf)))) (.sq (.sq .leaf (.bl (.lp [9] [4, 9, 10, 11, 38, 39, 40, 41, 42, 43, 44, 45, 46, 47, 48, 49, 50, 51, 52, 53, 54, 55, 56, 57, 58, 59, 60, 61, 62, 63, 64, 65, 66, 67, 68, 69, 70, 71, 72, 73, 74, 75, 76, 77, 78, 79, 80, 81, 82, 83, 84, 85, 86, 87, 88, 89, 90, 91, 92, 93, 94, 95, 96, 97, 98, 99, 100, 101, 102, 103, 104, 105, 106, 107, 108, 109, 110, 111, 112, 113] (.sq (.sq .leaf (.cn .leaf .leaf)) .leaf)))) (.sq .leaf .leaf)))))
theorem f117.body_eq : Tryz.f117.body = some f117.code := by kernel_rfl
theorem f117.shape (Z : List PanicEntry → World → Prop) (x0 x1 : Value) (w : World) (Q : Value → World → Prop) : vc drawD Tryz.prog 114 Z [] f117.an f117.code (fnQ Tryz.prog 114 Tryz.f117.results Q) (argEnv [x0, x1]) w = f117.sh Z x0 x1 w Q := by kernel_rfl
theorem f117.enters : ∀ f, f ∈ ([] : List Nat) → Enters Tryz.prog f := by
 intro f hf
 cases hf
theorem f117.calls {Z : List PanicEntry → World → Prop} {x0 x1 : Value} {w : World} {Q : Value → World → Prop} (h : f117.sh Z x0 x1 w Q) : CallV Tryz.prog Z 117 #[x0, x1] w Q :=
 calls_of_vcn drawD_sound (Q := Q) (n := 114) (rs := Tryz.f117.results) (an := f117.an) (c := f117.code) (cal := []) (args := [x0, x1]) Tryz.func117 (by kernel_rfl) rfl f117.body_eq follows (Nat.le_of_ble_eq_true (by kernel_rfl)) (enters_of_all f117.enters) ((f117.shape Z x0 x1 w Q).mpr h)

def f118.sh (Z : List PanicEntry → World → Prop) (x0 x1 : Value) (w : World) (Q : Value → World → Prop) : Prop :=
 ∃ J_1 : Nat → Value → Value → World → Prop, (∃ m, J_1 m (Value.slice none 0 0) (Value.int IntKind.i64 0) w) ∧
 ∀ m_1, ∀ t5_2 : Value, ∀ t6_3 : Value, ∀ w : World, J_1 m_1 t5_2 t6_3 w → Env →
 run1 Tryz.prog Z (Builtin.len_ #[53] 3 #[x0]) w fun t14_4 w =>
 run1 Tryz.prog Z (binOp BinOp.lss 3 t6_3 t14_4) w fun t15_5 w =>
 CondV t15_5 (
 False) (
 ∃ J_6 : Nat → Value → World → Prop, (∃ m, J_6 m (Value.int IntKind.i64 0) w) ∧
 ∀ m_6, ∀ t9_7 : Value, ∀ w : World, J_6 m_6 t9_7 w → Env →
 run1 Tryz.prog Z (Builtin.len_ #[53] 3 #[x0]) w fun t39_8 w =>
 run1 Tryz.prog Z (binOp BinOp.lss 3 t9_7 t39_8) w fun t40_9 w =>
 CondV t40_9 (
 False) (
 Q (Value.bool true) w))
noncomputable def f118.code : Code := match Tryz.f118.body with | some c => c | none => .skip
def f118.an : An := (.sq .leaf (.sq .leaf (.sq (.sq .leaf (.bl (.lp [5, 6] [5, 6, 7, 8, 12, 13, 14, 15, 16, 17, 18, 19, 20, 21, 22, 23, 24, 25, 26, 27, 28, 29, 30, 31, 32, 33, 34, 35, 36] (.sq (.sq .leaf (.cn .leaf .leaf)) .leaf)))) (.sq (.sq .leaf (.bl (.lp [9] [4, 9, 10, 11, 37, 38, 39, 40, 41, 42, 43, 44, 45, 46, 47, 48, 49, 50, 51, 52, 53, 54, 55, 56, 57, 58, 59, 60, 61, 62, 63, 64, 65, 66, 67, 68, 69, 70, 71, 72, 73, 74, 75, 76, 77, 78, 79, 80, 81, 82, 83, 84, 85, 86, 87, 88, 89, 90, 91, 92, 93, 94, 95, 96, 97, 98, 99, 100, 101, 102, 103, 104, 105, 106, 107, 108, 109] (.sq (.sq .leaf (.cn .leaf .leaf)) .leaf)))) (.sq .leaf .leaf)))))
theorem f118.body_eq : Tryz.f118.body = some f118.code := by kernel_rfl
theorem f118.shape (Z : List PanicEntry → World → Prop) (x0 x1 : Value) (w : World) (Q : Value → World → Prop) : vc drawD Tryz.prog 110 Z [] f118.an f118.code (fnQ Tryz.prog 110 Tryz.f118.results Q) (argEnv [x0, x1]) w = f118.sh Z x0 x1 w Q := by kernel_rfl
theorem f118.enters : ∀ f, f ∈ ([] : List Nat) → Enters Tryz.prog f := by
 intro f hf
 cases hf
theorem f118.calls {Z : List PanicEntry → World → Prop} {x0 x1 : Value} {w : World} {Q : Value → World → Prop} (h : f118.sh Z x0 x1 w Q) : CallV Tryz.prog Z 118 #[x0, x1] w Q :=
 calls_of_vcn drawD_sound (Q := Q) (n := 110) (rs := Tryz.f118.results) (an := f118.an) (c := f118.code) (cal := []) (args := [x0, x1]) Tryz.func118 (by kernel_rfl) rfl f118.body_eq follows (Nat.le_of_ble_eq_true (by kernel_rfl)) (enters_of_all f118.enters) ((f118.shape Z x0 x1 w Q).mpr h)

def f119.sh (Z : List PanicEntry → World → Prop) (x0 x1 : Value) (w : World) (Q : Value → World → Prop) : Prop :=
 ∃ J_1 : Nat → Value → Value → World → Prop, (∃ m, J_1 m (Value.slice none 0 0) (Value.int IntKind.i64 0) w) ∧
 ∀ m_1, ∀ t5_2 : Value, ∀ t6_3 : Value, ∀ w : World, J_1 m_1 t5_2 t6_3 w → Env →
 run1 Tryz.prog Z (Builtin.len_ #[54] 3 #[x0]) w fun t14_4 w =>
 run1 Tryz.prog Z (binOp BinOp.lss 3 t6_3 t14_4) w fun t15_5 w =>
 CondV t15_5 (
 False) (
 ∃ J_6 : Nat → Value → World → Prop, (∃ m, J_6 m (Value.int IntKind.i64 0) w) ∧
 ∀ m_6, ∀ t9_7 : Value, ∀ w : World, J_6 m_6 t9_7 w → Env →
 run1 Tryz.prog Z (Builtin.len_ #[54] 3 #[x0]) w fun t40_8 w =>
 run1 Tryz.prog Z (binOp BinOp.lss 3 t9_7 t40_8) w fun t41_9 w =>
 CondV t41_9 (
 False) (
 Q (Value.bool true) w))
noncomputable def f119.code : Code := match Tryz.f119.body with | some c => c | none => .skip
def f119.an : An := (.sq .leaf (.sq .leaf (.sq (.sq .leaf (.bl (.lp [5, 6] [5, 6, 7, 8, 12, 13, 14, 15, 16, 17, 18, 19, 20, 21, 22, 23, 24, 25, 26, 27, 28, 29, 30, 31, 32, 33, 34, 35, 36, 37] (.sq (.sq .leaf (.cn .leaf .leaf)) .leaf)))) (.sq (.sq .leaf (.bl (.lp [9] [4, 9, 10, 11, 38, 39, 40, 41, 42, 43, 44, 45, 46, 47, 48, 49, 50, 51, 52, 53, 54, 55, 56, 57, 58, 59, 60, 61, 62, 63, 64, 65, 66, 67, 68, 69, 70, 71, 72, 73, 74, 75, 76, 77, 78, 79, 80, 81, 82, 83, 84, 85, 86, 87, 88, 89, 90, 91, 92, 93, 94, 95, 96, 97, 98, 99, 100, 101, 102, 103, 104, 105, 106, 107, 108, 109, 110, 111, 112, 113] (.sq (.sq .leaf (.cn .leaf .leaf)) .leaf)))) (.sq .leaf .leaf)))))
theorem f119.body_eq : Tryz.f119.body = some f119.code := by kernel_rfl
theorem f119.shape (Z : List PanicEntry → World → Prop) (x0 x1 : Value) (w : World) (Q : Value → World → Prop) : vc drawD Tryz.prog 114 Z [] f119.an f119.code (fnQ Tryz.prog 114 Tryz.f119.results Q) (argEnv [x0, x1]) w = f119.sh Z x0 x1 w Q := by kernel_rfl
theorem f119.enters : ∀ f, f ∈ ([] : List Nat) → Enters Tryz.prog f := by
 intro f hf
 cases hf
theorem f119.calls {Z : List PanicEntry → World → Prop} {x0 x1 : Value} {w : World} {Q : Value → World → Prop} (h : f119.sh Z x0 x1 w Q) : CallV Tryz.prog Z 119 #[x0, x1] w Q :=
 calls_of_vcn drawD_sound (Q := Q) (n := 114) (rs := Tryz.f119.results) (an := f119.an) (c := f119.code) (cal := []) (args := [x0, x1]) Tryz.func119 (by kernel_rfl) rfl f119.body_eq follows (Nat.le_of_ble_eq_true (by kernel_rfl)) (enters_of_all f119.enters) ((f119.shape Z x0 x1 w Q).mpr h)

def f120.sh (Z : List PanicEntry → World → Prop) (x0 x1 : Value) (w : World) (Q : Value → World → Prop) : Prop :=
 ∃ J_1 : Nat → Value → Value → World → Prop, (∃ m, J_1 m (Value.slice none 0 0) (Value.int IntKind.i64 0) w) ∧
 ∀ m_1, ∀ t5_2 : Value, ∀ t6_3 : Value, ∀ w : World, J_1 m_1 t5_2 t6_3 w → Env →
 run1 Tryz.prog Z (Builtin.len_ #[55] 3 #[x0]) w fun t14_4 w =>
 run1 Tryz.prog Z (binOp BinOp.lss 3 t6_3 t14_4) w fun t15_5 w =>
 CondV t15_5 (
 False) (
 ∃ J_6 : Nat → Value → World → Prop, (∃ m, J_6 m (Value.int IntKind.i64 0) w) ∧
 ∀ m_6, ∀ t9_7 : Value, ∀ w : World, J_6 m_6 t9_7 w → Env →
 run1 Tryz.prog Z (Builtin.len_ #[55] 3 #[x0]) w fun t39_8 w =>
 run1 Tryz.prog Z (binOp BinOp.lss 3 t9_7 t39_8) w fun t40_9 w =>
 CondV t40_9 (
 False) (
 Q (Value.bool true) w))
noncomputable def f120.code : Code := match Tryz.f120.body with | some c => c | none => .skip
def f120.an : An := (.sq .leaf (.sq .leaf (.sq (.sq .leaf (.bl (.lp [5, 6] [5, 6, 7, 8, 12, 13, 14, 15, 16, 17, 18, 19, 20, 21, 22, 23, 24, 25, 26, 27, 28, 29, 30, 31, 32, 33, 34, 35, 36] (.sq (.sq .leaf (.cn .leaf .leaf)) .leaf)))) (.sq (.sq .leaf (.bl (.lp [9] [4, 9, 10, 11, 37, 38, 39, 40, 41, 42, 43, 44, 45, 46, 47, 48, 49, 50, 51, 52, 53, 54, 55, 56, 57, 58, 59, 60, 61, 62, 63, 64, 65, 66, 67, 68, 69, 70, 71, 72, 73, 74, 75, 76, 77, 78, 79, 80, 81, 82, 83, 84, 85, 86, 87, 88, 89, 90, 91, 92, 93, 94, 95, 96, 97, 98, 99, 100, 101, 102, 103, 104, 105, 106, 107, 108, 109] (.sq (.sq .leaf (.cn .leaf .leaf)) .leaf)))) (.sq .leaf .leaf)))))
theorem f120.body_eq : Tryz.f120.body = some f120.code := by kernel_rfl
theorem f120.shape (Z : List PanicEntry → World → Prop) (x0 x1 : Value) (w : World) (Q : Value → World → Prop) : vc drawD Tryz.prog 110 Z [] f120.an f120.code (fnQ Tryz.prog 110 Tryz.f120.results Q) (argEnv [x0, x1]) w = f120.sh Z x0 x1 w Q := by kernel_rfl
theorem f120.enters : ∀ f, f ∈ ([] : List Nat) → Enters Tryz.prog f := by
 intro f hf
 cases hf
theorem f120.calls {Z : List PanicEntry → World → Prop} {x0 x1 : Value} {w : World} {Q : Value → World → Prop} (h : f120.sh Z x0 x1 w Q) : CallV Tryz.prog Z 120 #[x0, x1] w Q :=
 calls_of_vcn drawD_sound (Q := Q) (n := 110) (rs := Tryz.f120.results) (an := f120.an) (c := f120.code) (cal := []) (args := [x0, x1]) Tryz.func120 (by kernel_rfl) rfl f120.body_eq follows (Nat.le_of_ble_eq_true (by kernel_rfl)) (enters_of_all f120.enters) ((f120.shape Z x0 x1 w Q).mpr h)

def f121.sh (Z : List PanicEntry → World → Prop) (x0 x1 : Value) (w : World) (Q : Value → World → Prop) : Prop :=
 ∃ J_1 : Nat → Value → Value → World → Prop, (∃ m, J_1 m (Value.slice none 0 0) (Value.int IntKind.i64 0) w) ∧
 ∀ m_1, ∀ t5_2 : Value, ∀ t6_3 : Value, ∀ w : World, J_1 m_1 t5_2 t6_3 w → Env →
 run1 Tryz.prog Z (Builtin.len_ #[56] 3 #[x0]) w fun t14_4 w =>
 run1 Tryz.prog Z (binOp BinOp.lss 3 t6_3 t14_4) w fun t15_5 w =>
 CondV t15_5 (
 False) (
 ∃ J_6 : Nat → Value → World → Prop, (∃ m, J_6 m (Value.int IntKind.i64 0) w) ∧
 ∀ m_6, ∀ t9_7 : Value, ∀ w : World, J_6 m_6 t9_7 w → Env →
 run1 Tryz.prog Z (Builtin.len_ #[56] 3 #[x0]) w fun t40_8 w =>
 run1 Tryz.prog Z (binOp BinOp.lss 3 t9_7 t40_8) w fun t41_9 w =>
 CondV t41_9 (
 False) (
 Q (Value.bool true) w))
noncomputable def f121.code : Code := match Tryz.f121.body with | some c => c | none => .skip
def f121.an : An := (.sq .leaf (.sq .leaf (.sq (.sq .leaf (.bl (.lp [5, 6] [5, 6, 7, 8, 12, 13, 14, 15, 16, 17, 18, 19, 20, 21, 22, 23, 24, 25, 26, 27, 28, 29, 30, 31, 32, 33, 34, 35, 36, 37] (.sq (.sq .leaf (.cn .leaf .leaf)) .leaf)))) (.sq (.sq .leaf (.bl (.lp [9] [4, 9, 10, 11, 38, 39, 40, 41, 42, 43, 44, 45, 46, 47, 48, 49, 50, 51, 52, 53, 54, 55, 56, 57, 58, 59, 60, 61, 62, 63, 64, 65, 66, 67, 68, 69, 70, 71, 72, 73, 74, 75, 76, 77, 78, 79, 80, 81, 82, 83, 84, 85, 86, 87, 88, 89, 90, 91, 92, 93, 94, 95, 96, 97, 98, 99, 100, 101, 102, 103, 104, 105, 106, 107, 108, 109, 110, 111, 112, 113] (.sq (.sq .leaf (.cn .leaf .leaf)) .leaf)))) (.sq .leaf .leaf)))))
theorem f121.body_eq : Tryz.f121.body = some f121.code := by kernel_rfl
theorem f121.shape (Z : List PanicEntry → World → Prop) (x0 x1 : Value) (w : World) (Q : Value → World → Prop) : vc drawD Tryz.prog 114 Z [] f121.an f121.code (fnQ Tryz.prog 114 Tryz.f121.results Q) (argEnv [x0, x1]) w = f121.sh Z x0 x1 w Q := by kernel_rfl
theorem f121.enters : ∀ f, f ∈ ([] : List Nat) → Enters Tryz.prog f := by
 intro f hf
 cases hf
theorem f121.calls {Z : List PanicEntry → World → Prop} {x0 x1 : Value} {w : World} {Q : Value → World → Prop} (h : f121.sh Z x0 x1 w Q) : CallV Tryz.prog Z 121 #[x0, x1] w Q :=
 calls_of_vcn drawD_sound (Q := Q) (n := 114) (rs := Tryz.f121.results) (an := f121.an) (c := f121.code) (cal := []) (args := [x0, x1]) Tryz.func121 (by kernel_rfl) rfl f121.body_eq follows (Nat.le_of_ble_eq_true (by kernel_rfl)) (enters_of_all f121.enters) ((f121.shape Z x0 x1 w Q).mpr h)

def f122.sh (Z : List PanicEntry → World → Prop) (x0 x1 : Value) (w : World) (Q : Value → World → Prop) : Prop :=
 ∃ J_1 : Nat → Value → Value → World → Prop, (∃ m, J_1 m (Value.slice none 0 0) (Value.int IntKind.i64 0) w) ∧
 ∀ m_1, ∀ t5_2 : Value, ∀ t6_3 : Value, ∀ w : World, J_1 m_1 t5_2 t6_3 w → Env →
 run1 Tryz.prog Z (Builtin.len_ #[57] 3 #[x0]) w fun t14_4 w =>
 run1 Tryz.prog Z (binOp BinOp.lss 3 t6_3 t14_4) w fun t15_5 w =>
 CondV t15_5 (
 False) (
 ∃ J_6 : Nat → Value → World → Prop, (∃ m, J_6 m (Value.int IntKind.i64 0) w) ∧
 ∀ m_6, ∀ t9_7 : Value, ∀ w : World, J_6 m_6 t9_7 w → Env →
 run1 Tryz.prog Z (Builtin.len_ #[57] 3 #[x0]) w fun t40_8 w =>
 run1 Tryz.prog Z (binOp BinOp.lss 3 t9_7 t40_8) w fun t41_9 w =>
 CondV t41_9 (
 False) (
 Q (Value.bool true) w))
noncomputable def f122.code : Code := match Tryz.f122.body with | some c => c | none => .skip
def f122.an : An := (.sq .leaf (.sq .leaf (.sq (.sq .leaf (.bl (.lp [5, 6] [5, 6, 7, 8, 12, 13, 14, 15, 16, 17, 18, 19, 20, 21, 22, 23, 24, 25, 26, 27, 28, 29, 30, 31, 32, 33, 34, 35, 36, 37] (.sq (.sq .leaf (.cn .leaf .leaf)) .leaf)))) (.sq (.sq .leaf (.bl (.lp [9] [4, 9, 10, 11, 38, 39, 40, 41, 42, 43, 44, 45, 46, 47, 48, 49, 50, 51, 52, 53, 54, 55, 56, 57, 58, 59, 60, 61, 62, 63, 64, 65, 66, 67, 68, 69, 70, 71, 72, 73, 74, 75, 76, 77, 78, 79, 80, 81, 82, 83, 84, 85, 86, 87, 88, 89, 90, 91, 92, 93, 94, 95, 96, 97, 98, 99, 100, 101, 102, 103, 104, 105, 106, 107, 108, 109, 110, 111, 112, 113] (.sq (.sq .leaf (.cn .leaf .leaf)) .leaf)))) (.sq .leaf .leaf)))))
theorem f122.body_eq : Tryz.f122.body = some f122.code := by kernel_rfl
theorem f122.shape (Z : List PanicEntry → World → Prop) (x0 x1 : Value) (w : World) (Q : Value → World → Prop) : vc drawD Tryz.prog 114 Z [] f122.an f122.code (fnQ Tryz.prog 114 Tryz.f122.results Q) (argEnv [x0, x1]) w = f122.sh Z x0 x1 w Q := by kernel_rfl
theorem f122.enters : ∀ f, f ∈ ([] : List Nat) → Enters Tryz.prog f := by
 intro f hf
 cases hf
theorem f122.calls {Z : List PanicEntry → World → Prop} {x0 x1 : Value} {w : World} {Q : Value → World → Prop} (h : f122.sh Z x0 x1 w Q) : CallV Tryz.prog Z 122 #[x0, x1] w Q :=
 calls_of_vcn drawD_sound (Q := Q) (n := 114) (rs := Tryz.f122.results) (an := f122.an) (c := f122.code) (cal := []) (args := [x0, x1]) Tryz.func122 (by kernel_rfl) rfl f122.body_eq follows (Nat.le_of_ble_eq_true (by kernel_rfl)) (enters_of_all f122.enters) ((f122.shape Z x0 x1 w Q).mpr h)

def f123.sh (Z : List PanicEntry → World → Prop) (x0 x1 : Value) (w : World) (Q : Value → World → Prop) : Prop :=
 ∃ J_1 : Nat → Value → Value → World → Prop, (∃ m, J_1 m (Value.slice none 0 0) (Value.int IntKind.i64 0) w) ∧
 ∀ m_1, ∀ t5_2 : Value, ∀ t6_3 : Value, ∀ w : World, J_1 m_1 t5_2 t6_3 w → Env →
 run1 Tryz.prog Z (Builtin.len_ #[58] 3 #[x0]) w fun t14_4 w =>
 run1 Tryz.prog Z (binOp BinOp.lss 3 t6_3 t14_4) w fun t15_5 w =>
 CondV t15_5 (
 False) (
 ∃ J_6 : Nat → Value → World → Prop, (∃ m, J_6 m (Value.int IntKind.i64 0) w) ∧
 ∀ m_6, ∀ t9_7 : Value, ∀ w : World, J_6 m_6 t9_7 w → Env →
 run1 Tryz.prog Z (Builtin.len_ #[58] 3 #[x0]) w fun t39_8 w =>
 run1 Tryz.prog Z (binOp BinOp.lss 3 t9_7 t39_8) w fun t40_9 w =>
 CondV t40_9 (
 False) (
 Q (Value.bool true) w))
noncomputable def f123.code : Code := match Tryz.f123.body with | some c => c | none => .skip
def f123.an : An := (.sq .leaf (.sq .leaf (.sq (.sq .leaf (.bl (.lp [5, 6] [5, 6, 7, 8, 12, 13, 14, 15, 16, 17, 18, 19, 20, 21, 22, 23, 24, 25, 26, 27, 28, 29, 30, 31, 32, 33, 34, 35, 36] (.sq (.sq .leaf (.cn .leaf .leaf)) .leaf)))) (.sq (.sq .leaf (.bl (.lp [9] [4, 9, 10, 11, 37, 38, 39, 40, 41, 42, 43, 44, 45, 46, 47, 48, 49, 50, 51, 52, 53, 54, 55, 56, 57, 58, 59, 60, 61, 62, 63, 64, 65, 66, 67, 68, 69, 70, 71, 72, 73, 74, 75, 76, 77, 78, 79, 80, 81, 82, 83, 84, 85, 86, 87, 88, 89, 90, 91, 92, 93, 94, 95, 96, 97, 98, 99, 100, 101, 102, 103, 104, 105, 106, 107, 108, 109] (.sq (.sq .leaf (.cn .leaf .leaf)) .leaf)))) (.sq .leaf .leaf)))))
theorem f123.body_eq : Tryz.f123.body = some f123.code := by kernel_rfl
theorem f123.shape (Z : List PanicEntry → World → Prop) (x0 x1 : Value) (w : World) (Q : Value → World → Prop) : vc drawD Tryz.prog 110 Z [] f123.an f123.code (fnQ Tryz.prog 110 Tryz.f123.results Q) (argEnv [x0, x1]) w = f123.sh Z x0 x1 w Q := by kernel_rfl
theorem f123.enters : ∀ f, f ∈ ([] : List Nat) → Enters Tryz.prog f := by
 intro f hf
 cases hf
theorem f123.calls {Z : List PanicEntry → World → Prop} {x0 x1 : Value} {w : World} {Q : Value → World → Prop} (h : f123.sh Z x0 x1 w Q) : CallV Tryz.prog Z 123 #[x0, x1] w Q :=
 calls_of_vcn drawD_sound (Q := Q) (n := 110) (rs := Tryz.f123.results) (an := f123.an) (c := f123.code) (cal := []) (args := [x0, x1]) Tryz.func123 (by kernel_rfl) rfl f123.body_eq follows (Nat.le_of_ble_eq_true (by kernel_rfl)) (enters_of_all f123.enters) ((f123.shape Z x0 x1 w Q).mpr h)

def f124.sh (Z : List PanicEntry → World → Prop) (x0 x1 : Value) (w : World) (Q : Value → World → Prop) : Prop :=
 ∃ J_1 : Nat → Value → Value → World → Prop, (∃ m, J_1 m (Value.slice none 0 0) (Value.int IntKind.i64 0) w) ∧
 ∀ m_1, ∀ t5_2 : Value, ∀ t6_3 : Value, ∀ w : World, J_1 m_1 t5_2 t6_3 w → Env →
 run1 Tryz.prog Z (Builtin.len_ #[59] 3 #[x0]) w fun t14_4 w =>
 run1 Tryz.prog Z (binOp BinOp.lss 3 t6_3 t14_4) w fun t15_5 w =>
 CondV t15_5 (
 False) (
 ∃ J_6 : Nat → Value → World → Prop, (∃ m, J_6 m (Value.int IntKind.i64 0) w) ∧
 ∀ m_6, ∀ t9_7 : Value, ∀ w : World, J_6 m_6 t9_7 w → Env →
 run1 Tryz.prog Z (Builtin.len_ #[59] 3 #[x0]) w fun t41_8 w =>
 run1 Tryz.prog Z (binOp BinOp.lss 3 t9_7 t41_8) w fun t42_9 w =>
 CondV t42_9 (
 False) (
 Q (Value.bool true) w))
noncomputable def f124.code : Code := match Tryz.f124.body with | some c => c | none => .skip
def f124.an : An := (.sq .leaf (.sq .leaf (.sq (.sq .leaf (.bl (.lp [5, 6] [5, 6, 7, 8, 12, 13, 14, 15, 16, 17, 18, 19, 20, 21, 22, 23, 24, 25, 26, 27, 28, 29, 30, 31, 32, 33, 34, 35, 36, 37, 38] (.sq (.sq .leaf (.cn .leaf .leaf)) .leaf)))) (.sq (.sq .leaf (.bl (.lp [9] [4, 9, 10, 11, 39, 40, 41, 42, 43, 44, 45, 46, 47, 48, 49, 50, 51, 52, 53, 54, 55, 56, 57, 58, 59, 60, 61, 62, 63, 64, 65, 66, 67, 68, 69, 70, 71, 72, 73, 74, 75, 76, 77, 78, 79, 80, 81, 82, 83, 84, 85, 86, 87, 88, 89, 90, 91, 92, 93, 94, 95, 96, 97, 98, 99, 100, 101, 102, 103, 104, 105, 106, 107, 108, 109, 110, 111, 112, 113, 114, 115, 116, 117] (.sq (.sq .leaf (.cn .leaf .leaf)) .leaf)))) (.sq .leaf .leaf)))))
theorem f124.body_eq : Tryz.f124.body = some f124.code := by kernel_rfl
theorem f124.shape (Z : List PanicEntry → World → Prop) (x0 x1 : Value) (w : World) (Q : Value → World → Prop) : vc drawD Tryz.prog 118 Z [] f124.an f124.code (fnQ Tryz.prog 118 Tryz.f124.results Q) (argEnv [x0, x1]) w = f124.sh Z x0 x1 w Q := by kernel_rfl
theorem f124.enters : ∀ f, f ∈ ([] : List Nat) → Enters Tryz.prog f := by
 intro f hf
 cases hf
theorem f124.calls {Z : List PanicEntry → World → Prop} {x0 x1 : Value} {w : World} {Q : Value → World → Prop} (h : f124.sh Z x0 x1 w Q) : CallV Tryz.prog Z 124 #[x0, x1] w Q :=
 calls_of_vcn drawD_sound (Q := Q) (n := 118) (rs := Tryz.f124.results) (an := f124.an) (c := f124.code) (cal := []) (args := [x0, x1]) Tryz.func124 (by kernel_rfl) rfl f124.body_eq follows (Nat.le_of_ble_eq_true (by kernel_rfl)) (enters_of_all f124.enters) ((f124.shape Z x0 x1 w Q).mpr h)

def f125.sh (Z : List PanicEntry → World → Prop) (x0 x1 : Value) (w : World) (Q : Value → World → Prop) : Prop :=
 ∃ J_1 : Nat → Value → Value → World → Prop, (∃ m, J_1 m (Value.slice none 0 0) (Value.int IntKind.i64 0) w) ∧
 ∀ m_1, ∀ t5_2 : Value, ∀ t6_3 : Value, ∀ w : World, J_1 m_1 t5_2 t6_3 w → Env →
 run1 Tryz.prog Z (Builtin.len_ #[60] 3 #[x0]) w fun t14_4 w =>
 run1 Tryz.prog Z (binOp BinOp.lss 3 t6_3 t14_4) w fun t15_5 w =>
 CondV t15_5 (
 False) (
 ∃ J_6 : Nat → Value → World → Prop, (∃ m, J_6 m (Value.int IntKind.i64 0) w) ∧
 ∀ m_6, ∀ t9_7 : Value, ∀ w : World, J_6 m_6 t9_7 w → Env →
 run1 Tryz.prog Z (Builtin.len_ #[60] 3 #[x0]) w fun t39_8 w =>
 run1 Tryz.prog Z (binOp BinOp.lss 3 t9_7 t39_8) w fun t40_9 w =>
 CondV t40_9 (
 False) (
 Q (Value.bool true) w))
noncomputable def f125.code : Code := match Tryz.f125.body with | some c => c | none => .skip
def f125.an : An := (.sq .leaf (.sq .leaf (.sq (.sq .leaf (.bl (.lp [5, 6] [5, 6, 7, 8, 12, 13, 14, 15, 16, 17, 18, 19, 20, 21, 22, 23, 24, 25, 26, 27, 28, 29, 30, 31, 32, 33, 34, 35, 36] (.sq (.sq .leaf (.cn .leaf .leaf)) .leaf)))) (.sq (.sq .leaf (.bl (.lp [9] [4, 9, 10, 11, 37, 38, 39, 40, 41, 42, 43, 44, 45, 46, 47, 48, 49, 50, 51, 52, 53, 54, 55, 56, 57, 58, 59, 60, 61, 62, 63, 64, 65, 66, 67, 68, 69, 70, 71, 72, 73, 74, 75, 76, 77, 78, 79, 80, 81, 82, 83, 84, 85, 86, 87, 88, 89, 90, 91, 92, 93, 94, 95, 96, 97, 98, 99, 100, 101, 102, 103, 104, 105, 106, 107, 108, 109] (.sq (.sq .leaf (.cn .leaf .leaf)) .leaf)))) (.sq .leaf .leaf)))))
theorem f125.body_eq : Tryz.f125.body = some f125.code := by kernel_rfl
theorem f125.shape (Z : List PanicEntry → World → Prop) (x0 x1 : Value) (w : World) (Q : Value → World → Prop) : vc drawD Tryz.prog 110 Z [] f125.an f125.code (fnQ Tryz.prog 110 Tryz.f125.results Q) (argEnv [x0, x1]) w = f125.sh Z x0 x1 w Q := by kernel_rfl
theorem f125.enters : ∀ f, f ∈ ([] : List Nat) → Enters Tryz.prog f := by
 intro f hf
 cases hf
theorem f125.calls {Z : List PanicEntry → World → Prop} {x0 x1 : Value} {w : World} {Q : Value → World → Prop} (h : f125.sh Z x0 x1 w Q) : CallV Tryz.prog Z 125 #[x0, x1] w Q :=
 calls_of_vcn drawD_sound (Q := Q) (n := 110) (rs := Tryz.f125.results) (an := f125.an) (c := f125.code) (cal := []) (args := [x0, x1]) Tryz.func125 (by kernel_rfl) rfl f125.body_eq follows (Nat.le_of_ble_eq_true (by kernel_rfl)) (enters_of_all f125.enters) ((f125.shape Z x0 x1 w Q).mpr h)

def f126.sh (Z : List PanicEntry → World → Prop) (x0 x1 : Value) (w : World) (Q : Value → World → Prop) : Prop :=
 ∃ J_1 : Nat → Value → Value → World → Prop, (∃ m, J_1 m (Value.slice none 0 0) (Value.int IntKind.i64 0) w) ∧
 ∀ m_1, ∀ t5_2 : Value, ∀ t6_3 : Value, ∀ w : World, J_1 m_1 t5_2 t6_3 w → Env →
 run1 Tryz.prog Z (Builtin.len_ #[61] 3 #[x0]) w fun t14_4 w =>
 run1 Tryz.prog Z (binOp BinOp.lss 3 t6_3 t14_4) w fun t15_5 w =>
 CondV t15_5 (
 False) (
 ∃ J_6 : Nat → Value → World → Prop, (∃ m, J_6 m (Value.int IntKind.i64 0) w) ∧
 ∀ m_6, ∀ t9_7 : Value, ∀ w : World, J_6 m_6 t9_7 w → Env →
 run1 Tryz.prog Z (Builtin.len_ #[61] 3 #[x0]) w fun t40_8 w =>
 run1 Tryz.prog Z (binOp BinOp.lss 3 t9_7 t40_8) w fun t41_9 w =>
 CondV t41_9 (
 False) (
 Q (Value.bool true) w))
noncomputable def f126.code : Code := match Tryz.f126.body with | some c => c | none => .skip
def f126.an : An := (.sq .leaf (.sq .leaf (.sq (.sq .leaf (.bl (.lp [5, 6] [5, 6, 7, 8, 12, 13, 14, 15, 16, 17, 18, 19, 20, 21, 22, 23, 24, 25, 26, 27, 28, 29, 30, 31, 32, 33, 34, 35, 36, 37] (.sq (.sq .leaf (.cn .leaf .leaf)) .leaf)))) (.sq (.sq .leaf (.bl (.lp [9] [4, 9, 10, 11, 38, 39, 40, 41, 42, 43, 44, 45, 46, 47, 48, 49, 50, 51, 52, 53, 54, 55, 56, 57, 58, 59, 60, 61, 62, 63, 64, 65, 66, 67, 68, 69, 70, 71, 72, 73, 74, 75, 76, 77, 78, 79, 80, 81, 82, 83, 84, 85, 86, 87, 88, 89, 90, 91, 92, 93, 94, 95, 96, 97, 98, 99, 100, 101, 102, 103, 104, 105, 106, 107, 108, 109, 110, 111, 112, 113] (.sq (.sq .leaf (.cn .leaf .leaf)) .leaf)))) (.sq .leaf .leaf)))))
theorem f126.body_eq : Tryz.f126.body = some f126.code := by kernel_rfl
theorem f126.shape (Z : List PanicEntry → World → Prop) (x0 x1 : Value) (w : World) (Q : Value → World → Prop) : vc drawD Tryz.prog 114 Z [] f126.an f126.code (fnQ Tryz.prog 114 Tryz.f126.results Q) (argEnv [x0, x1]) w = f126.sh Z x0 x1 w Q := by kernel_rfl
theorem f126.enters : ∀ f, f ∈ ([] : List Nat) → Enters Tryz.prog f := by
 intro f hf
 cases hf
theorem f126.calls {Z : List PanicEntry → World → Prop} {x0 x1 : Value} {w : World} {Q : Value → World → Prop} (h : f126.sh Z x0 x1 w Q) : CallV Tryz.prog Z 126 #[x0, x1] w Q :=
 calls_of_vcn drawD_sound (Q := Q) (n := 114) (rs := Tryz.f126.results) (an := f126.an) (c := f126.code) (cal := []) (args := [x0, x1]) Tryz.func126 (by kernel_rfl) rfl f126.body_eq follows (Nat.le_of_ble_eq_true (by kernel_rfl)) (enters_of_all f126.enters) ((f126.shape Z x0 x1 w Q).mpr h)

def f127.sh (Z : List PanicEntry → World → Prop) (x0 x1 : Value) (w : World) (Q : Value → World → Prop) : Prop :=
 ∃ J_1 : Nat → Value → Value → World → Prop, (∃ m, J_1 m (Value.slice none 0 0) (Value.int IntKind.i64 0) w) ∧
 ∀ m_1, ∀ t5_2 : Value, ∀ t6_3 : Value, ∀ w : World, J_1 m_1 t5_2 t6_3 w → Env →
 run1 Tryz.prog Z (Builtin.len_ #[62] 3 #[x0]) w fun t14_4 w =>
 run1 Tryz.prog Z (binOp BinOp.lss 3 t6_3 t14_4) w fun t15_5 w =>
 CondV t15_5 (
 False) (
 ∃ J_6 : Nat → Value → World → Prop, (∃ m, J_6 m (Value.int IntKind.i64 0) w) ∧
 ∀ m_6, ∀ t9_7 : Value, ∀ w : World, J_6 m_6 t9_7 w → Env →
 run1 Tryz.prog Z (Builtin.len_ #[62] 3 #[x0]) w fun t39_8 w =>
 run1 Tryz.prog Z (binOp BinOp.lss 3 t9_7 t39_8) w fun t40_9 w =>
 CondV t40_9 (
 False) (
 Q (Value.bool true) w))
noncomputable def f127.code : Code := match Tryz.f127.body with | some c => c | none => .skip
def f127.an : An := (.sq .leaf (.sq .leaf (.sq (.sq .leaf (.bl (.lp [5, 6] [5, 6, 7, 8, 12, 13, 14, 15, 16, 17, 18, 19, 20, 21, 22, 23, 24, 25, 26, 27, 28, 29, 30, 31, 32, 33, 34, 35, 36] (.sq (.sq .leaf (.cn .leaf .leaf)) .leaf)))) (.sq (.sq .leaf (.bl (.lp [9] [4, 9, 10, 11, 37, 38, 39, 40, 41, 42, 43, 44, 45, 46, 47, 48, 49, 50, 51, 52, 53, 54, 55, 56, 57, 58, 59, 60, 61, 62, 63, 64, 65, 66, 67, 68, 69, 70, 71, 72, 73, 74, 75, 76, 77, 78, 79, 80, 81, 82, 83, 84, 85, 86, 87, 88, 89, 90, 91, 92, 93, 94, 95, 96, 97, 98, 99, 100, 101, 102, 103, 104, 105, 106, 107, 108, 109] (.sq (.sq .leaf (.cn .leaf .leaf)) .leaf)))) (.sq .leaf .leaf)))))
theorem f127.body_eq : Tryz.f127.body = some f127.code := by kernel_rfl
theorem f127.shape (Z : List PanicEntry → World → Prop) (x0 x1 : Value) (w : World) (Q : Value → World → Prop) : vc drawD Tryz.prog 110 Z [] f127.an f127.code (fnQ Tryz.prog 110 Tryz.f127.results Q) (argEnv [x0, x1]) w = f127.sh Z x0 x1 w Q := by kernel_rfl
theorem f127.enters : ∀ f, f ∈ ([] : List Nat) → Enters Tryz.prog f := by
 intro f hf
 cases hf
theorem f127.calls {Z : List PanicEntry → World → Prop} {x0 x1 : Value} {w : World} {Q : Value → World → Prop} (h : f127.sh Z x0 x1 w Q) : CallV Tryz.prog Z 127 #[x0, x1] w Q :=
 calls_of_vcn drawD_sound (Q := Q) (n := 110) (rs := Tryz.f127.results) (an := f127.an) (c := f127.code) (cal := []) (args := [x0, x1]) Tryz.func127 (by kernel_rfl) rfl f127.body_eq follows (Nat.le_of_ble_eq_true (by kernel_rfl)) (enters_of_all f127.enters) ((f127.shape Z x0 x1 w Q).mpr h)

def f128.sh (Z : List PanicEntry → World → Prop) (x0 x1 : Value) (w : World) (Q : Value → World → Prop) : Prop :=
 ∃ J_1 : Nat → Value → Value → World → Prop, (∃ m, J_1 m (Value.slice none 0 0) (Value.int IntKind.i64 0) w) ∧
 ∀ m_1, ∀ t5_2 : Value, ∀ t6_3 : Value, ∀ w : World, J_1 m_1 t5_2 t6_3 w → Env →
 run1 Tryz.prog Z (Builtin.len_ #[63] 3 #[x0]) w fun t14_4 w =>
 run1 Tryz.prog Z (binOp BinOp.lss 3 t6_3 t14_4) w fun t15_5 w =>
 CondV t15_5 (
 False) (
 ∃ J_6 : Nat → Value → World → Prop, (∃ m, J_6 m (Value.int IntKind.i64 0) w) ∧
 ∀ m_6, ∀ t9_7 : Value, ∀ w : World, J_6 m_6 t9_7 w → Env →
 run1 Tryz.prog Z (Builtin.len_ #[63] 3 #[x0]) w fun t41_8 w =>
 run1 Tryz.prog Z (binOp BinOp.lss 3 t9_7 t41_8) w fun t42_9 w =>
 CondV t42_9 (
 False) (
 Q (Value.bool true) w))
noncomputable def f128.code : Code := match Tryz.f128.body with | some c => c | none => .skip
def f128.an : An := (.sq .leaf (.sq .leaf (.sq (.sq .leaf (.bl (.lp [5, 6] [5, 6, 7, 8, 12, 13, 14, 15, 16, 17, 18, 19, 20, 21, 22, 23, 24, 25, 26, 27, 28, 29, 30, 31, 32, 33, 34, 35, 36, 37, 38] (.sq (.sq .leaf (.cn .leaf .leaf)) .leaf)))) (.sq (.sq .leaf (.bl (.lp [9] [4, 9, 10, 11, 39, 40, 41, 42, 43, 44, 45, 46, 47, 48, 49, 50, 51, 52, 53, 54, 55, 56, 57, 58, 59, 60, 61, 62, 63, 64, 65, 66, 67, 68, 69, 70, 71, 72, 73, 74, 75, 76, 77, 78, 79, 80, 81, 82, 83, 84, 85, 86, 87, 88, 89, 90, 91, 92, 93, 94, 95, 96, 97, 98, 99, 100, 101, 102, 103, 104, 105, 106, 107, 108, 109, 110, 111, 112, 113, 114, 115, 116, 117] (.sq (.sq .leaf (.cn .leaf .leaf)) .leaf)))) (.sq .leaf .leaf)))))
theorem f128.body_eq : Tryz.f128.body = some f128.code := by kernel_rfl
theorem f128.shape (Z : List PanicEntry → World → Prop) (x0 x1 : Value) (w : World) (Q : Value → World → Prop) : vc drawD Tryz.prog 118 Z [] f128.an f128.code (fnQ Tryz.prog 118 Tryz.f128.results Q) (argEnv [x0, x1]) w = f128.sh Z x0 x1 w Q := by kernel_rfl
theorem f128.enters : ∀ f, f ∈ ([] : List Nat) → Enters Tryz.prog f := by
 intro f hf
 cases hf
theorem f128.calls {Z : List PanicEntry → World → Prop} {x0 x1 : Value} {w : World} {Q : Value → World → Prop} (h : f128.sh Z x0 x1 w Q) : CallV Tryz.prog Z 128 #[x0, x1] w Q :=
 calls_of_vcn drawD_sound (Q := Q) (n := 118) (rs := Tryz.f128.results) (an := f128.an) (c := f128.code) (cal := []) (args := [x0, x1]) Tryz.func128 (by kernel_rfl) rfl f128.body_eq follows (Nat.le_of_ble_eq_true (by kernel_rfl)) (enters_of_all f128.enters) ((f128.shape Z x0 x1 w Q).mpr h)

def f129.sh (Z : List PanicEntry → World → Prop) (x0 x1 : Value) (w : World) (Q : Value → World → Prop) : Prop :=
 ∃ J_1 : Nat → Value → Value → World → Prop, (∃ m, J_1 m (Value.slice none 0 0) (Value.int IntKind.i64 0) w) ∧
 ∀ m_1, ∀ t5_2 : Value, ∀ t6_3 : Value, ∀ w : World, J_1 m_1 t5_2 t6_3 w → Env →
 run1 Tryz.prog Z (Builtin.len_ #[64] 3 #[x0]) w fun t14_4 w =>
 run1 Tryz.prog Z (binOp BinOp.lss 3 t6_3 t14_4) w fun t15_5 w =>
 CondV t15_5 (
 False) (
 ∃ J_6 : Nat → Value → World → Prop, (∃ m, J_6 m (Value.int IntKind.i64 0) w) ∧
 ∀ m_6, ∀ t9_7 : Value, ∀ w : World, J_6 m_6 t9_7 w → Env →
 run1 Tryz.prog Z (Builtin.len_ #[64] 3 #[x0]) w fun t39_8 w =>
 run1 Tryz.prog Z (binOp BinOp.lss 3 t9_7 t39_8) w fun t40_9 w =>
 CondV t40_9 (
 False) (
 Q (Value.bool true) w))
noncomputable def f129.code : Code := match Tryz.f129.body with | some c => c | none => .skip
def f129.an : An := (.sq .leaf (.sq .leaf (.sq (.sq .leaf (.bl (.lp [5, 6] [5, 6, 7, 8, 12, 13, 14, 15, 16, 17, 18, 19, 20, 21, 22, 23, 24, 25, 26, 27, 28, 29, 30, 31, 32, 33, 34, 35, 36] (.sq (.sq .leaf (.cn .leaf .leaf)) .leaf)))) (.sq (.sq .leaf (.bl (.lp [9] [4, 9, 10, 11, 37, 38, 39, 40, 41, 42, 43, 44, 45, 46, 47, 48, 49, 50, 51, 52, 53, 54, 55, 56, 57, 58, 59, 60, 61, 62, 63, 64, 65, 66, 67, 68, 69, 70, 71, 72, 73, 74, 75, 76, 77, 78, 79, 80, 81, 82, 83, 84, 85, 86, 87, 88, 89, 90, 91, 92, 93, 94, 95, 96, 97, 98, 99, 100, 101, 102, 103, 104, 105, 106, 107, 108, 109] (.sq (.sq .leaf (.cn .leaf .leaf)) .leaf)))) (.sq .leaf .leaf)))))
theorem f129.body_eq : Tryz.f129.body = some f129.code := by kernel_rfl
theorem f129.shape (Z : List PanicEntry → World → Prop) (x0 x1 : Value) (w : World) (Q : Value → World → Prop) : vc drawD Tryz.prog 110 Z [] f129.an f129.code (fnQ Tryz.prog 110 Tryz.f129.results Q) (argEnv [x0, x1]) w = f129.sh Z x0 x1 w Q := by kernel_rfl
theorem f129.enters : ∀ f, f ∈ ([] : List Nat) → Enters Tryz.prog f := by
 intro f hf
 cases hf
theorem f129.calls {Z : List PanicEntry → World → Prop} {x0 x1 : Value} {w : World} {Q : Value → World → Prop} (h : f129.sh Z x0 x1 w Q) : CallV Tryz.prog Z 129 #[x0, x1] w Q :=
 calls_of_vcn drawD_sound (Q := Q) (n := 110) (rs := Tryz.f129.results) (an := f129.an) (c := f129.code) (cal := []) (args := [x0, x1]) Tryz.func129 (by kernel_rfl) rfl f129.body_eq follows (Nat.le_of_ble_eq_true (by kernel_rfl)) (enters_of_all f129.enters) ((f129.shape Z x0 x1 w Q).mpr h)

def f130.sh (Z : List PanicEntry → World → Prop) (x0 x1 : Value) (w : World) (Q : Value → World → Prop) : Prop :=
 ∃ J_1 : Nat → Value → Value → World → Prop, (∃ m, J_1 m (Value.slice none 0 0) (Value.int IntKind.i64 0) w) ∧
 ∀ m_1, ∀ t5_2 : Value, ∀ t6_3 : Value, ∀ w : World, J_1 m_1 t5_2 t6_3 w → Env →
 run1 Tryz.prog Z (Builtin.len_ #[65] 3 #[x0]) w fun t14_4 w =>
 run1 Tryz.prog Z (binOp BinOp.lss 3 t6_3 t14_4) w fun t15_5 w =>
 CondV t15_5 (
 False) (
 ∃ J_6 : Nat → Value → World → Prop, (∃ m, J_6 m (Value.int IntKind.i64 0) w) ∧
 ∀ m_6, ∀ t9_7 : Value, ∀ w : World, J_6 m_6 t9_7 w → Env →
 run1 Tryz.prog Z (Builtin.len_ #[65] 3 #[x0]) w fun t40_8 w =>
 run1 Tryz.prog Z (binOp BinOp.lss 3 t9_7 t40_8) w fun t41_9 w =>
 CondV t41_9 (
 False) (
 Q (Value.bool true) w))
noncomputable def f130.code : Code := match Tryz.f130.body with | some c => c | none => .skip
def f130.an : An := (.sq .leaf (.sq .leaf (.sq (.sq .leaf (.bl (.lp [5, 6] [5, 6, 7, 8, 12, 13, 14, 15, 16, 17, 18, 19, 20, 21, 22, 23, 24, 25, 26, 27, 28, 29, 30, 31, 32, 33, 34, 35, 36, 37] (.sq (.sq .leaf (.cn .leaf .leaf)) .leaf)))) (.sq (.sq .leaf (.bl (.lp [9] [4, 9, 10, 11, 38, 39, 40, 41, 42, 43, 44, 45, 46, 47, 48, 49, 50, 51, 52, 53, 54, 55, 56, 57, 58, 59, 60, 61, 62, 63, 64, 65, 66, 67, 68, 69, 70, 71, 72, 73, 74, 75, 76, 77, 78, 79, 80, 81, 82, 83, 84, 85, 86, 87, 88, 89, 90, 91, 92, 93, 94, 95, 96, 97, 98, 99, 100, 101, 102, 103, 104, 105, 106, 107, 108, 109, 110, 111, 112, 113, 114, 115, 116, 117, 118, 119, 120, 121, 122, 123, 124, 125, 126, 127, 128, 129, 130, 131, 132, 133, 134, 135, 136, 137, 138, 139, 140, 141, 142, 143, 144, 145, 146, 147, 148, 149] (.sq (.sq .leaf (.cn .leaf .leaf)) .leaf)))) (.sq .leaf .leaf)))))
theorem f130.body_eq : Tryz.f130.body = some f130.code := by kernel_rfl
theorem f130.shape (Z : List PanicEntry → World → Prop) (x0 x1 : Value) (w : World) (Q : Value → World → Prop) : vc drawD Tryz.prog 150 Z [] f130.an f130.code (fnQ Tryz.prog 150 Tryz.f130.results Q) (argEnv [x0, x1]) w = f130.sh Z x0 x1 w Q := by kernel_rfl
theorem f130.enters : ∀ f, f ∈ ([] : List Nat) → Enters Tryz.prog f := by
 intro f hf
 cases hf
theorem f130.calls {Z : List PanicEntry → World → Prop} {x0 x1 : Value} {w : World} {Q : Value → World → Prop} (h : f130.sh Z x0 x1 w Q) : CallV Tryz.prog Z 130 #[x0, x1] w Q :=
 calls_of_vcn drawD_sound (Q := Q) (n := 150) (rs := Tryz.f130.results) (an := f130.an) (c := f130.code) (cal := []) (args := [x0, x1]) Tryz.func130 (by kernel_rfl) rfl f130.body_eq follows (Nat.le_of_ble_eq_true (by kernel_rfl)) (enters_of_all f130.enters) ((f130.shape Z x0 x1 w Q).mpr h)

def f133.sh (Z : List PanicEntry → World → Prop) (x0 x1 : Value) (w : World) (Q : Value → World → Prop) : Prop :=
 CallV Tryz.prog Z 168 #[x0, x1] w fun t13_1 w =>
 run1 Tryz.prog Z (Instr.extract t13_1 0) w fun t14_2 w =>
 run1 Tryz.prog Z (Instr.extract t13_1 1) w fun t15_3 w =>
 run1 Tryz.prog Z (Op.unary UnOp.not t15_3) w fun t17_4 w =>
 CondV t17_4 (
 Q (Value.int IntKind.u64 0) w) (
 run1 Tryz.prog Z (Builtin.len_ #[28] 3 #[t14_2]) w fun t19_5 w =>
 ∃ J_6 : Nat → Value → Value → World → Prop, (∃ m, J_6 m (Value.int IntKind.u64 0) (Value.int IntKind.i64 0) w) ∧
 ∀ m_6, ∀ t7_7 : Value, ∀ t20_8 : Value, ∀ w : World, J_6 m_6 t7_7 t20_8 w → Env →
 run1 Tryz.prog Z (binOp BinOp.lss 3 t20_8 t19_5) w fun t21_9 w =>
 CondV t21_9 (
 run1 Tryz.prog Z (Instr.indexAt 28 t14_2 t20_8) w fun t22_10 w =>
 run1 Tryz.prog Z (Instr.loadAt 5 t22_10) w fun t23_11 w =>
 run1 Tryz.prog Z (binOp BinOp.shl 142 t7_7 (Value.int IntKind.u64 8)) w fun t25_12 w =>
 run1 Tryz.prog Z (convert 5 142 t23_11) w fun t27_13 w =>
 run1 Tryz.prog Z (binOp BinOp.or 142 t25_12 t27_13) w fun t28_14 w =>
 run1 Tryz.prog Z (binOp BinOp.add 3 t20_8 (Value.int IntKind.i64 1)) w fun t29_15 w =>
 ∃ n_6, n_6 < m_6 ∧ J_6 n_6 t28_14 t29_15 w) (
 runX Tryz.prog Z (nilChk x0) w fun t32_16 w =>
 run1 Tryz.prog Z (Instr.fieldAt 227 t32_16 1) w fun t33_17 w =>
 run1 Tryz.prog Z (Instr.loadAt 28 t33_17) w fun t34_18 w =>
 run1 Tryz.prog Z (Instr.sliceAt 28 t34_18 (some x1) none none) w fun t36_19 w =>
 runX Tryz.prog Z (nilChk x0) w fun t37_20 w =>
 run1 Tryz.prog Z (Instr.fieldAt 227 t37_20 1) w fun t38_21 w =>
 run0 Tryz.prog Z (Instr.storeAt 28 t38_21 t36_19) w fun w =>
 Q t7_7 w))
noncomputable def f133.code : Code := match Tryz.f133.body with | some c => c | none => .skip
def f133.an : An := (.sq .leaf (.sq .leaf (.sq (.sq .leaf (.cn (.sq .leaf .leaf) .leaf)) (.sq .leaf (.sq (.sq .leaf (.bl (.lp [7, 20] [7, 9, 20, 21, 22, 23, 24, 25, 26, 27, 28, 29] (.sq .leaf (.sq (.cn .leaf .leaf) (.sq (.bl (.sq .leaf .leaf)) .leaf)))))) (.sq .leaf (.sq .leaf .leaf)))))))
theorem f133.body_eq : Tryz.f133.body = some f133.code := by kernel_rfl
theorem f133.shape (Z : List PanicEntry → World → Prop) (x0 x1 : Value) (w : World) (Q : Value → World → Prop) : vc drawD Tryz.prog 40 Z [168] f133.an f133.code (fnQ Tryz.prog 40 Tryz.f133.results Q) (argEnv [x0, x1]) w = f133.sh Z x0 x1 w Q := by kernel_rfl
theorem f133.enters : ∀ f, f ∈ ([168] : List Nat) → Enters Tryz.prog f := by
 intro f hf
 simp only [List.mem_cons, List.not_mem_nil, or_false] at hf
 rcases hf with rfl
 · exact en168
theorem f133.calls {Z : List PanicEntry → World → Prop} {x0 x1 : Value} {w : World} {Q : Value → World → Prop} (h : f133.sh Z x0 x1 w Q) : CallV Tryz.prog Z 133 #[x0, x1] w Q :=
 calls_of_vcn drawD_sound (Q := Q) (n := 40) (rs := Tryz.f133.results) (an := f133.an) (c := f133.code) (cal := [168]) (args := [x0, x1]) Tryz.func133 (by kernel_rfl) rfl f133.body_eq follows (Nat.le_of_ble_eq_true (by kernel_rfl)) (enters_of_all f133.enters) ((f133.shape Z x0 x1 w Q).mpr h)

def f134.sh (Z : List PanicEntry → World → Prop) (x0 : Value) (w : World) (Q : Value → World → Prop) : Prop :=
 run1 Tryz.prog Z (binOp BinOp.geq 25 x0 (Value.int IntKind.i8 1)) w fun t4_1 w =>
 guardW (t4_1) true (fun k => k (x0) w) (fun t6_2 w =>
 guardW (t4_1) true (fun k => run1 Tryz.prog Z (binOp BinOp.leq 25 t6_2 (Value.int IntKind.i8 12)) w k) (fun t7_3 w =>
 run1 Tryz.prog Z (pickV t4_1 t7_3 (Value.bool false)) w fun t8_4 w =>
 Q t8_4 w) w) w
noncomputable def f134.code : Code := match Tryz.f134.body with | some c => c | none => .skip
def f134.an : An := (.sq .leaf (.sq .leaf .leaf))
theorem f134.body_eq : Tryz.f134.body = some f134.code := by kernel_rfl
theorem f134.shape (Z : List PanicEntry → World → Prop) (x0 : Value) (w : World) (Q : Value → World → Prop) : vc drawD Tryz.prog 9 Z [] f134.an f134.code (fnQ Tryz.prog 9 Tryz.f134.results Q) (argEnv [x0]) w = f134.sh Z x0 w Q := by kernel_rfl
theorem f134.enters : ∀ f, f ∈ ([] : List Nat) → Enters Tryz.prog f := by
 intro f hf
 cases hf
theorem f134.calls {Z : List PanicEntry → World → Prop} {x0 : Value} {w : World} {Q : Value → World → Prop} (h : f134.sh Z x0 w Q) : CallV Tryz.prog Z 134 #[x0] w Q :=
 calls_of_vcn drawD_sound (Q := Q) (n := 9) (rs := Tryz.f134.results) (an := f134.an) (c := f134.code) (cal := []) (args := [x0]) Tryz.func134 (by kernel_rfl) rfl f134.body_eq follows (Nat.le_of_ble_eq_true (by kernel_rfl)) (enters_of_all f134.enters) ((f134.shape Z x0 w Q).mpr h)

def f135.sh (Z : List PanicEntry → World → Prop) (x0 x1 : Value) (w : World) (Q : Value → World → Prop) : Prop :=
 CallV Tryz.prog Z 145 #[x0] w fun t5_1 w =>
 CondV t5_1 (
 runX Tryz.prog Z (nilChk x0) w fun t8_2 w =>
 run1 Tryz.prog Z (Instr.fieldAt 227 t8_2 2) w fun t9_3 w =>
 run0 Tryz.prog Z (Instr.storeAt 39 t9_3 x1) w fun w =>
 Q (Value.tuple #[]) w) (
 Q (Value.tuple #[]) w)
noncomputable def f135.code : Code := match Tryz.f135.body with | some c => c | none => .skip
def f135.an : An := (.sq .leaf (.cn .leaf .leaf))
theorem f135.body_eq : Tryz.f135.body = some f135.code := by kernel_rfl
theorem f135.shape (Z : List PanicEntry → World → Prop) (x0 x1 : Value) (w : World) (Q : Value → World → Prop) : vc drawD Tryz.prog 10 Z [145] f135.an f135.code (fnQ Tryz.prog 10 Tryz.f135.results Q) (argEnv [x0, x1]) w = f135.sh Z x0 x1 w Q := by kernel_rfl
theorem f135.enters : ∀ f, f ∈ ([145] : List Nat) → Enters Tryz.prog f := by
 intro f hf
 simp only [List.mem_cons, List.not_mem_nil, or_false] at hf
 rcases hf with rfl
 · exact en145
theorem f135.calls {Z : List PanicEntry → World → Prop} {x0 x1 : Value} {w : World} {Q : Value → World → Prop} (h : f135.sh Z x0 x1 w Q) : CallV Tryz.prog Z 135 #[x0, x1] w Q :=
 calls_of_vcn drawD_sound (Q := Q) (n := 10) (rs := Tryz.f135.results) (an := f135.an) (c := f135.code) (cal := [145]) (args := [x0, x1]) Tryz.func135 (by kernel_rfl) rfl f135.body_eq follows (Nat.le_of_ble_eq_true (by kernel_rfl)) (enters_of_all f135.enters) ((f135.shape Z x0 x1 w Q).mpr h)

def f136.sh (Z : List PanicEntry → World → Prop) (x0 x1 : Value) (w : World) (Q : Value → World → Prop) : Prop :=
 CallV Tryz.prog Z 169 #[x0, x1] w fun t7_1 w =>
 run1 Tryz.prog Z (convert 28 9 t7_1) w fun t8_2 w =>
 Q t8_2 w
noncomputable def f136.code : Code := match Tryz.f136.body with | some c => c | none => .skip
def f136.an : An := (.sq .leaf (.sq .leaf .leaf))
theorem f136.body_eq : Tryz.f136.body = some f136.code := by kernel_rfl
theorem f136.shape (Z : List PanicEntry → World → Prop) (x0 x1 : Value) (w : World) (Q : Value → World → Prop) : vc drawD Tryz.prog 9 Z [169] f136.an f136.code (fnQ Tryz.prog 9 Tryz.f136.results Q) (argEnv [x0, x1]) w = f136.sh Z x0 x1 w Q := by kernel_rfl
theorem f136.enters : ∀ f, f ∈ ([169] : List Nat) → Enters Tryz.prog f := by
 intro f hf
 simp only [List.mem_cons, List.not_mem_nil, or_false] at hf
 rcases hf with rfl
 · exact en169
theorem f136.calls {Z : List PanicEntry → World → Prop} {x0 x1 : Value} {w : World} {Q : Value → World → Prop} (h : f136.sh Z x0 x1 w Q) : CallV Tryz.prog Z 136 #[x0, x1] w Q :=
 calls_of_vcn drawD_sound (Q := Q) (n := 9) (rs := Tryz.f136.results) (an := f136.an) (c := f136.code) (cal := [169]) (args := [x0, x1]) Tryz.func136 (by kernel_rfl) rfl f136.body_eq follows (Nat.le_of_ble_eq_true (by kernel_rfl)) (enters_of_all f136.enters) ((f136.shape Z x0 x1 w Q).mpr h)

end Go.Proofs.YtpdehbbkpekoiaaGreatDoor
