import Derived.Test.YthobnaagjhooeaaGreatDoorShBase
set_option linter.unusedVariables false
namespace Go.Proofs.YthobnaagjhooeaaGreatDoor
open Go.Sh
def f3.sh (Z : List PanicEntry → World → Prop) (x0 x1 : Value) (w : World) (Q : Value → World → Prop) : Prop :=
 CallV Tryz.prog Z 4 #[] w fun t16_1 w =>
 run1 Tryz.prog Z (Builtin.len_ #[22] 3 #[x0]) w fun t18_2 w =>
 run1 Tryz.prog Z (binOp BinOp.gtr 3 t18_2 (Value.int IntKind.i64 67108864)) w fun t19_3 w =>
 guardW (t19_3) false (fun k => k (x1) w) (fun t21_4 w =>
 guardW (t19_3) false (fun k => CallV Tryz.prog Z 5 #[t21_4] w k) (fun t22_5 w =>
 run1 Tryz.prog Z (pickV t19_3 (Value.bool true) t22_5) w fun t23_6 w =>
 CondV t23_6 (
 Q t16_1 w) (
 CallV Tryz.prog Z 6 #[x0] w fun t26_7 w =>
 CallV Tryz.prog Z 7 #[t26_7] w fun t28_8 w =>
 CallV Tryz.prog Z 7 #[t26_7] w fun t30_9 w =>
 run1 Tryz.prog Z (eqOp BinOp.eql 27 false true t28_8 (Value.pointer none)) w fun t32_10 w =>
 guardW (t32_10) false (fun k => k (t30_9) w) (fun t34_11 w =>
 guardW (t32_10) false (fun k => run1 Tryz.prog Z (eqOp BinOp.eql 27 false true t34_11 (Value.pointer none)) w k) (fun t35_12 w =>
 run1 Tryz.prog Z (pickV t32_10 (Value.bool true) t35_12) w fun t36_13 w =>
 CondV t36_13 (
 Q (Value.bool false) w) (
 CallV Tryz.prog Z 8 #[t26_7, x0] w fun t39_14 w =>
 guardW (t39_14) true (fun k => k (t26_7) w) (fun t41_15 w =>
 guardW (t39_14) true (fun k => CallV Tryz.prog Z 9 #[t41_15] w k) (fun t42_16 w =>
 run1 Tryz.prog Z (pickV t39_14 t42_16 (Value.bool false)) w fun t43_17 w =>
 ∃ J_18 : Nat → Value → World → Prop, (∃ m, J_18 m (Value.int IntKind.i64 0) w) ∧
 ∀ m_18, ∀ t10_19 : Value, ∀ w : World, J_18 m_18 t10_19 w → Env →
 run1 Tryz.prog Z (Builtin.len_ #[22] 3 #[t26_7]) w fun t46_20 w =>
 run1 Tryz.prog Z (binOp BinOp.lss 3 t10_19 t46_20) w fun t47_21 w =>
 CondV t47_21 (
 run1 Tryz.prog Z (Instr.indexAt 22 t26_7 t10_19) w fun t54_22 w =>
 run1 Tryz.prog Z (Instr.loadAt 5 t54_22) w fun t55_23 w =>
 run1 Tryz.prog Z (binOp BinOp.xor 5 t55_23 (Value.int IntKind.u8 1)) w fun t56_24 w =>
 run1 Tryz.prog Z (Instr.indexAt 22 t26_7 t10_19) w fun t57_25 w =>
 run0 Tryz.prog Z (Instr.storeAt 5 t57_25 t56_24) w fun w =>
 run1 Tryz.prog Z (binOp BinOp.add 3 t10_19 (Value.int IntKind.i64 1)) w fun t49_26 w =>
 ∃ n_18, n_18 < m_18 ∧ J_18 n_18 t49_26 w) (
 CallV Tryz.prog Z 10 #[t26_7] w fun t59_27 w =>
 CallV Tryz.prog Z 7 #[t26_7] w fun t61_28 w =>
 run1 Tryz.prog Z (eqOp BinOp.eql 27 false true t61_28 (Value.pointer none)) w fun t63_29 w =>
 CondV t63_29 (
 Q (Value.bool false) w) (
 CallV Tryz.prog Z 12 #[x0] w fun t66_30 w =>
 CallV Tryz.prog Z 11 #[t28_8, t66_30, x1, (Value.bool false)] w fun t68_31 w =>
 CallV Tryz.prog Z 12 #[t59_27] w fun t71_32 w =>
 CallV Tryz.prog Z 11 #[t61_28, t71_32, x1, (Value.bool true)] w fun t73_33 w =>
 CallV Tryz.prog Z 12 #[x0] w fun t76_34 w =>
 CallV Tryz.prog Z 11 #[t30_9, t76_34, x1, (Value.bool true)] w fun t78_35 w =>
 guardW (t16_1) true (fun k => k (t43_17) w) (fun t81_36 w =>
 run1 Tryz.prog Z (pickV t16_1 t81_36 (Value.bool false)) w fun t82_37 w =>
 guardW (t82_37) true (fun k => k (t68_31) w) (fun t84_38 w =>
 run1 Tryz.prog Z (pickV t82_37 t84_38 (Value.bool false)) w fun t85_39 w =>
 guardW (t85_39) true (fun k => k (t73_33) w) (fun t87_40 w =>
 run1 Tryz.prog Z (pickV t85_39 t87_40 (Value.bool false)) w fun t88_41 w =>
 guardW (t88_41) true (fun k => k (t78_35) w) (fun t90_42 w =>
 run1 Tryz.prog Z (pickV t88_41 t90_42 (Value.bool false)) w fun t91_43 w =>
 Q t91_43 w) w) w) w) w))) w) w)) w) w)) w) w
noncomputable def f3.code : Code := match Tryz.f3.body with | some c => c | none => .skip
def f3.an : An := (.sq .leaf (.sq .leaf (.sq (.sq .leaf (.cn (.sq .leaf .leaf) .leaf)) (.sq .leaf (.sq .leaf (.sq .leaf (.sq (.sq .leaf (.cn (.sq .leaf .leaf) .leaf)) (.sq .leaf (.sq (.sq .leaf (.bl (.lp [10] [10, 44, 45, 46, 47, 48, 49, 50, 51, 52, 53, 54, 55, 56, 57] (.sq (.sq .leaf (.cn .leaf .leaf)) (.sq (.bl .leaf) .leaf))))) (.sq .leaf (.sq .leaf (.sq (.sq .leaf (.cn (.sq .leaf .leaf) .leaf)) (.sq .leaf (.sq .leaf (.sq .leaf (.sq .leaf .leaf))))))))))))))))
theorem f3.body_eq : Tryz.f3.body = some f3.code := by kernel_rfl
theorem f3.shape (Z : List PanicEntry → World → Prop) (x0 x1 : Value) (w : World) (Q : Value → World → Prop) : vc drawD Tryz.prog 92 Z [4, 5, 6, 7, 8, 9, 10, 12, 11] f3.an f3.code (fnQ Tryz.prog 92 Tryz.f3.results Q) (argEnv [x0, x1]) w = f3.sh Z x0 x1 w Q := by kernel_rfl
theorem f3.enters : ∀ f, f ∈ ([4, 5, 6, 7, 8, 9, 10, 12, 11] : List Nat) → Enters Tryz.prog f := by
 intro f hf
 simp only [List.mem_cons, List.not_mem_nil, or_false] at hf
 rcases hf with rfl | rfl | rfl | rfl | rfl | rfl | rfl | rfl | rfl
 · exact en4
 · exact en5
 · exact en6
 · exact en7
 · exact en8
 · exact en9
 · exact en10
 · exact en12
 · exact en11
theorem f3.calls {Z : List PanicEntry → World → Prop} {x0 x1 : Value} {w : World} {Q : Value → World → Prop} (h : f3.sh Z x0 x1 w Q) : CallV Tryz.prog Z 3 #[x0, x1] w Q :=
 calls_of_vcn drawD_sound (Q := Q) (n := 92) (rs := Tryz.f3.results) (an := f3.an) (c := f3.code) (cal := [4, 5, 6, 7, 8, 9, 10, 12, 11]) (args := [x0, x1]) Tryz.func3 (by kernel_rfl) rfl f3.body_eq follows (Nat.le_of_ble_eq_true (by kernel_rfl)) (enters_of_all f3.enters) ((f3.shape Z x0 x1 w Q).mpr h)

def f4.sh (Z : List PanicEntry → World → Prop) (w : World) (Q : Value → World → Prop) : Prop :=
 run1 Tryz.prog Z (Instr.build 37 #[]) w fun t5_1 w =>
 run1 Tryz.prog Z (Instr.box 37 t5_1) w fun t6_2 w =>
 CallV Tryz.prog Z 13 #[t6_2, (Value.int IntKind.i32 (-2))] w fun t8_3 w =>
 run1 Tryz.prog Z (Instr.buildSlice 22 5 #[(0, (Value.int IntKind.u8 255)), (1, (Value.int IntKind.u8 255)), (2, (Value.int IntKind.u8 255)), (3, (Value.int IntKind.u8 254)), (4, (Value.int IntKind.u8 9))]) w fun t9_4 w =>
 CallV Tryz.prog Z 7 #[t9_4] w fun t10_5 w =>
 CallV Tryz.prog Z 14 #[t10_5] w fun t12_6 w =>
 run1 Tryz.prog Z (Instr.buildSlice 22 3 #[(0, (Value.int IntKind.u8 97)), (1, (Value.int IntKind.u8 98)), (2, (Value.int IntKind.u8 99))]) w fun t13_7 w =>
 CallV Tryz.prog Z 15 #[t13_7] w fun t14_8 w =>
 CallV Tryz.prog Z 16 #[t6_2] w fun t16_9 w =>
 run1 Tryz.prog Z (Instr.buildSlice 22 4 #[(0, (Value.int IntKind.u8 255)), (1, (Value.int IntKind.u8 255)), (2, (Value.int IntKind.u8 255)), (3, (Value.int IntKind.u8 254))]) w fun t17_10 w =>
 CallV Tryz.prog Z 8 #[t16_9, t17_10] w fun t18_11 w =>
 guardW (t18_11) true (fun k => k (t12_6) w) (fun t20_12 w =>
 guardW (t18_11) true (fun k => run1 Tryz.prog Z (eqOp BinOp.eql 21 false true t20_12 (Value.int IntKind.i32 (-2))) w k) (fun t21_13 w =>
 run1 Tryz.prog Z (pickV t18_11 t21_13 (Value.bool false)) w fun t22_14 w =>
 guardW (t22_14) true (fun k => k (t10_5) w) (fun t24_15 w =>
 guardW (t22_14) true (fun k => CallV Tryz.prog Z 17 #[t24_15] w k) (fun t25_16 w =>
 guardW (t22_14) true (fun k => run1 Tryz.prog Z (eqOp BinOp.eql 3 false true t25_16 (Value.int IntKind.i64 1)) w k) (fun t26_17 w =>
 run1 Tryz.prog Z (pickV t22_14 t26_17 (Value.bool false)) w fun t27_18 w =>
 guardW (t27_18) true (fun k => k (t14_8) w) (fun t29_19 w =>
 guardW (t27_18) true (fun k => run1 Tryz.prog Z (eqOp BinOp.eql 40 false true t29_19 (Value.int IntKind.u32 38600999)) w k) (fun t30_20 w =>
 run1 Tryz.prog Z (pickV t27_18 t30_20 (Value.bool false)) w fun t31_21 w =>
 Q t31_21 w) w) w) w) w) w) w) w
noncomputable def f4.code : Code := match Tryz.f4.body with | some c => c | none => .skip
def f4.an : An := (.sq .leaf (.sq .leaf (.sq .leaf (.sq .leaf (.sq .leaf (.sq .leaf (.sq .leaf .leaf)))))))
theorem f4.body_eq : Tryz.f4.body = some f4.code := by kernel_rfl
theorem f4.shape (Z : List PanicEntry → World → Prop) (w : World) (Q : Value → World → Prop) : vc drawD Tryz.prog 32 Z [13, 7, 14, 15, 16, 8, 17] f4.an f4.code (fnQ Tryz.prog 32 Tryz.f4.results Q) (argEnv []) w = f4.sh Z  w Q := by kernel_rfl
theorem f4.enters : ∀ f, f ∈ ([13, 7, 14, 15, 16, 8, 17] : List Nat) → Enters Tryz.prog f := by
 intro f hf
 simp only [List.mem_cons, List.not_mem_nil, or_false] at hf
 rcases hf with rfl | rfl | rfl | rfl | rfl | rfl | rfl
 · exact en13
 · exact en7
 · exact en14
 · exact en15
 · exact en16
 · exact en8
 · exact en17
theorem f4.calls {Z : List PanicEntry → World → Prop} {w : World} {Q : Value → World → Prop} (h : f4.sh Z  w Q) : CallV Tryz.prog Z 4 #[] w Q :=
 calls_of_vcn drawD_sound (Q := Q) (n := 32) (rs := Tryz.f4.results) (an := f4.an) (c := f4.code) (cal := [13, 7, 14, 15, 16, 8, 17]) (args := []) Tryz.func4 (by kernel_rfl) rfl f4.body_eq follows (Nat.le_of_ble_eq_true (by kernel_rfl)) (enters_of_all f4.enters) ((f4.shape Z  w Q).mpr h)

def f5.sh (Z : List PanicEntry → World → Prop) (x0 : Value) (w : World) (Q : Value → World → Prop) : Prop :=
 ∃ J_1 : Nat → Value → Value → World → Prop, (∃ m, J_1 m (Value.int IntKind.i64 0) (Value.int IntKind.i64 0) w) ∧
 ∀ m_1, ∀ t3_2 : Value, ∀ t4_3 : Value, ∀ w : World, J_1 m_1 t3_2 t4_3 w → Env →
 run1 Tryz.prog Z (Builtin.len_ #[23] 3 #[x0]) w fun t7_4 w =>
 run1 Tryz.prog Z (binOp BinOp.lss 3 t4_3 t7_4) w fun t8_5 w =>
 guardW (t8_5) true (fun k => k (t3_2) w) (fun t10_6 w =>
 guardW (t8_5) true (fun k => run1 Tryz.prog Z (binOp BinOp.leq 3 t10_6 (Value.int IntKind.i64 67108864)) w k) (fun t11_7 w =>
 run1 Tryz.prog Z (pickV t8_5 t11_7 (Value.bool false)) w fun t12_8 w =>
 CondV t12_8 (
 Drawn w fun w =>
 Pure1 Tryz.prog (binOp BinOp.add 3 t3_2 (Value.int IntKind.i64 1)) fun t16_9 =>
 Pure1 Tryz.prog (Instr.indexAt 23 x0 t4_3) fun t19_10 =>
 Pure1 Tryz.prog (Instr.fieldAt 46 t19_10 4) fun t20_11 =>
 Read1 Tryz.prog (Instr.loadAt 9 t20_11) w fun t21_12 =>
 Pure1 Tryz.prog (Builtin.len_ #[9] 3 #[t21_12]) fun t22_13 =>
 Pure1 Tryz.prog (binOp BinOp.add 3 t16_9 t22_13) fun t23_14 =>
 Pure1 Tryz.prog (Instr.indexAt 23 x0 t4_3) fun t26_15 =>
 Pure1 Tryz.prog (Instr.fieldAt 46 t26_15 5) fun t27_16 =>
 Read1 Tryz.prog (Instr.loadAt 22 t27_16) w fun t28_17 =>
 Pure1 Tryz.prog (Builtin.len_ #[22] 3 #[t28_17]) fun t29_18 =>
 Pure1 Tryz.prog (binOp BinOp.add 3 t23_14 t29_18) fun t30_19 =>
 run1 Tryz.prog Z (binOp BinOp.add 3 t4_3 (Value.int IntKind.i64 1)) w fun t14_20 w =>
 ∃ n_1, n_1 < m_1 ∧ J_1 n_1 t30_19 t14_20 w) (
 run1 Tryz.prog Z (binOp BinOp.gtr 3 t3_2 (Value.int IntKind.i64 67108864)) w fun t32_21 w =>
 Q t32_21 w)) w) w
noncomputable def f5.code : Code := match Tryz.f5.body with | some c => c | none => .skip
def f5.an : An := (.sq .leaf (.sq .leaf (.sq (.sq .leaf (.bl (.lp [3, 4] [3, 4, 5, 6, 7, 8, 9, 10, 11, 12, 13, 14, 15, 16, 17, 18, 19, 20, 21, 22, 23, 24, 25, 26, 27, 28, 29, 30] (.sq (.sq .leaf (.cn .leaf .leaf)) (.sq (.bl (.dr (.take 0 false (.take 1 false (.take 2 false (.take 3 false (.take 4 false (.take 5 false (.take 6 true (.take 7 false (.take 8 false (.take 9 false (.take 10 false (.take 11 false (.take 12 false (.take 13 true (.take 14 false (.take 15 false (.take 16 false .fin))))))))))))))))))) .leaf))))) (.sq .leaf .leaf))))
theorem f5.body_eq : Tryz.f5.body = some f5.code := by kernel_rfl
theorem f5.shape (Z : List PanicEntry → World → Prop) (x0 : Value) (w : World) (Q : Value → World → Prop) : vc drawD Tryz.prog 33 Z [] f5.an f5.code (fnQ Tryz.prog 33 Tryz.f5.results Q) (argEnv [x0]) w = f5.sh Z x0 w Q := by kernel_rfl
theorem f5.enters : ∀ f, f ∈ ([] : List Nat) → Enters Tryz.prog f := by
 intro f hf
 cases hf
theorem f5.calls {Z : List PanicEntry → World → Prop} {x0 : Value} {w : World} {Q : Value → World → Prop} (h : f5.sh Z x0 w Q) : CallV Tryz.prog Z 5 #[x0] w Q :=
 calls_of_vcn drawD_sound (Q := Q) (n := 33) (rs := Tryz.f5.results) (an := f5.an) (c := f5.code) (cal := []) (args := [x0]) Tryz.func5 (by kernel_rfl) rfl f5.body_eq follows (Nat.le_of_ble_eq_true (by kernel_rfl)) (enters_of_all f5.enters) ((f5.shape Z x0 w Q).mpr h)

def f6.sh (Z : List PanicEntry → World → Prop) (x0 : Value) (w : World) (Q : Value → World → Prop) : Prop :=
 run1 Tryz.prog Z (Builtin.len_ #[22] 3 #[x0]) w fun t6_1 w =>
 run1 Tryz.prog Z (binOp BinOp.add 3 t6_1 (Value.int IntKind.i64 64)) w fun t7_2 w =>
 run1 Tryz.prog Z (Instr.makeSlice 22 t7_2 t7_2) w fun t8_3 w =>
 ∃ J_4 : Nat → Value → World → Prop, (∃ m, J_4 m (Value.int IntKind.i64 0) w) ∧
 ∀ m_4, ∀ t4_5 : Value, ∀ w : World, J_4 m_4 t4_5 w → Env →
 run1 Tryz.prog Z (Builtin.len_ #[22] 3 #[t8_3]) w fun t11_6 w =>
 run1 Tryz.prog Z (binOp BinOp.lss 3 t4_5 t11_6) w fun t12_7 w =>
 CondV t12_7 (
 ∀ j_8 : World → Prop, (∀ w : World, (Env →
 run1 Tryz.prog Z (binOp BinOp.add 3 t4_5 (Value.int IntKind.i64 1)) w fun t14_9 w =>
 ∃ n_4, n_4 < m_4 ∧ J_4 n_4 t14_9 w) →
 j_8 w) →
 run1 Tryz.prog Z (binOp BinOp.rem 3 t4_5 (Value.int IntKind.i64 5)) w fun t18_10 w =>
 run1 Tryz.prog Z (binOp BinOp.add 3 (Value.int IntKind.i64 170) t18_10) w fun t19_11 w =>
 run1 Tryz.prog Z (convert 3 5 t19_11) w fun t20_12 w =>
 run1 Tryz.prog Z (Instr.indexAt 22 t8_3 t4_5) w fun t21_13 w =>
 run0 Tryz.prog Z (Instr.storeAt 5 t21_13 t20_12) w fun w =>
 run1 Tryz.prog Z (Builtin.len_ #[22] 3 #[x0]) w fun t24_14 w =>
 run1 Tryz.prog Z (binOp BinOp.lss 3 t4_5 t24_14) w fun t25_15 w =>
 CondV t25_15 (
 run1 Tryz.prog Z (Instr.indexAt 22 x0 t4_5) w fun t30_16 w =>
 run1 Tryz.prog Z (Instr.loadAt 5 t30_16) w fun t31_17 w =>
 run1 Tryz.prog Z (Instr.indexAt 22 t8_3 t4_5) w fun t32_18 w =>
 run0 Tryz.prog Z (Instr.storeAt 5 t32_18 t31_17) w fun w =>
 j_8 w) (
 j_8 w)) (
 run1 Tryz.prog Z (Builtin.len_ #[22] 3 #[x0]) w fun t35_19 w =>
 run1 Tryz.prog Z (Instr.sliceAt 22 t8_3 none (some t35_19) none) w fun t36_20 w =>
 Q t36_20 w)
noncomputable def f6.code : Code := match Tryz.f6.body with | some c => c | none => .skip
def f6.an : An := (.sq .leaf (.sq .leaf (.sq (.sq .leaf (.bl (.lp [4] [4, 9, 10, 11, 12, 13, 14, 15, 16, 17, 18, 19, 20, 21, 22, 23, 24, 25, 26, 27, 28, 29, 30, 31, 32] (.sq (.sq .leaf (.cn .leaf .leaf)) (.sj [] [15, 16, 17, 18, 19, 20, 21, 22, 23, 24, 25, 26, 27, 28, 29, 30, 31, 32] (.bl (.sq .leaf (.sq .leaf (.cn .leaf .leaf)))) .leaf))))) (.sq .leaf .leaf))))
theorem f6.body_eq : Tryz.f6.body = some f6.code := by kernel_rfl
theorem f6.shape (Z : List PanicEntry → World → Prop) (x0 : Value) (w : World) (Q : Value → World → Prop) : vc drawD Tryz.prog 37 Z [] f6.an f6.code (fnQ Tryz.prog 37 Tryz.f6.results Q) (argEnv [x0]) w = f6.sh Z x0 w Q := by kernel_rfl
theorem f6.enters : ∀ f, f ∈ ([] : List Nat) → Enters Tryz.prog f := by
 intro f hf
 cases hf
theorem f6.calls {Z : List PanicEntry → World → Prop} {x0 : Value} {w : World} {Q : Value → World → Prop} (h : f6.sh Z x0 w Q) : CallV Tryz.prog Z 6 #[x0] w Q :=
 calls_of_vcn drawD_sound (Q := Q) (n := 37) (rs := Tryz.f6.results) (an := f6.an) (c := f6.code) (cal := []) (args := [x0]) Tryz.func6 (by kernel_rfl) rfl f6.body_eq follows (Nat.le_of_ble_eq_true (by kernel_rfl)) (enters_of_all f6.enters) ((f6.shape Z x0 w Q).mpr h)

def f7.sh (Z : List PanicEntry → World → Prop) (x0 : Value) (w : World) (Q : Value → World → Prop) : Prop :=
 run1 Tryz.prog Z (Builtin.append_ #[22, 22] 22 #[(Value.slice none 0 0), x0]) w fun t4_1 w =>
 run1 Tryz.prog Z (Instr.build 49 #[(0, (Value.bool true)), (1, t4_1)]) w fun t5_2 w =>
 run1 Tryz.prog Z (Instr.box 49 t5_2) w fun t6_3 w =>
 Q t6_3 w
noncomputable def f7.code : Code := match Tryz.f7.body with | some c => c | none => .skip
def f7.an : An := (.sq .leaf (.sq .leaf .leaf))
theorem f7.body_eq : Tryz.f7.body = some f7.code := by kernel_rfl
theorem f7.shape (Z : List PanicEntry → World → Prop) (x0 : Value) (w : World) (Q : Value → World → Prop) : vc drawD Tryz.prog 7 Z [] f7.an f7.code (fnQ Tryz.prog 7 Tryz.f7.results Q) (argEnv [x0]) w = f7.sh Z x0 w Q := by kernel_rfl
theorem f7.enters : ∀ f, f ∈ ([] : List Nat) → Enters Tryz.prog f := by
 intro f hf
 cases hf
theorem f7.calls {Z : List PanicEntry → World → Prop} {x0 : Value} {w : World} {Q : Value → World → Prop} (h : f7.sh Z x0 w Q) : CallV Tryz.prog Z 7 #[x0] w Q :=
 calls_of_vcn drawD_sound (Q := Q) (n := 7) (rs := Tryz.f7.results) (an := f7.an) (c := f7.code) (cal := []) (args := [x0]) Tryz.func7 (by kernel_rfl) rfl f7.body_eq follows (Nat.le_of_ble_eq_true (by kernel_rfl)) (enters_of_all f7.enters) ((f7.shape Z x0 w Q).mpr h)

def f8.sh (Z : List PanicEntry → World → Prop) (x0 x1 : Value) (w : World) (Q : Value → World → Prop) : Prop :=
 run1 Tryz.prog Z (Builtin.len_ #[22] 3 #[x0]) w fun t7_1 w =>
 run1 Tryz.prog Z (Builtin.len_ #[22] 3 #[x1]) w fun t9_2 w =>
 run1 Tryz.prog Z (eqOp BinOp.neq 3 false false t7_1 t9_2) w fun t10_3 w =>
 CondV t10_3 (
 Q (Value.bool false) w) (
 ∃ J_4 : Nat → Value → World → Prop, (∃ m, J_4 m (Value.int IntKind.i64 0) w) ∧
 ∀ m_4, ∀ t5_5 : Value, ∀ w : World, J_4 m_4 t5_5 w → Env →
 run1 Tryz.prog Z (Builtin.len_ #[22] 3 #[x0]) w fun t13_6 w =>
 run1 Tryz.prog Z (binOp BinOp.lss 3 t5_5 t13_6) w fun t14_7 w =>
 CondV t14_7 (
 Drawn w fun w =>
 Pure1 Tryz.prog (Instr.indexAt 22 x0 t5_5) fun t19_8 =>
 Read1 Tryz.prog (Instr.loadAt 5 t19_8) w fun t20_9 =>
 Pure1 Tryz.prog (Instr.indexAt 22 x1 t5_5) fun t23_10 =>
 Read1 Tryz.prog (Instr.loadAt 5 t23_10) w fun t24_11 =>
 Pure1 Tryz.prog (eqOp BinOp.neq 5 false false t20_9 t24_11) fun t25_12 =>
 CondV t25_12 (
 Q (Value.bool false) w) (
 run1 Tryz.prog Z (binOp BinOp.add 3 t5_5 (Value.int IntKind.i64 1)) w fun t16_13 w =>
 ∃ n_4, n_4 < m_4 ∧ J_4 n_4 t16_13 w)) (
 Q (Value.bool true) w))
noncomputable def f8.code : Code := match Tryz.f8.body with | some c => c | none => .skip
def f8.an : An := (.sq .leaf (.sq (.sq .leaf (.cn (.sq .leaf .leaf) .leaf)) (.sq (.sq .leaf (.bl (.lp [5] [4, 5, 11, 12, 13, 14, 15, 16, 17, 18, 19, 20, 21, 22, 23, 24, 25] (.sq (.sq .leaf (.cn .leaf .leaf)) (.sq (.bl (.sq (.dr (.take 0 false (.take 1 false (.take 2 false (.take 3 true (.take 4 false (.take 5 false (.take 6 false (.take 7 true (.take 8 false .fin)))))))))) (.cn (.sq .leaf .leaf) .leaf))) .leaf))))) (.sq .leaf .leaf))))
theorem f8.body_eq : Tryz.f8.body = some f8.code := by kernel_rfl
theorem f8.shape (Z : List PanicEntry → World → Prop) (x0 x1 : Value) (w : World) (Q : Value → World → Prop) : vc drawD Tryz.prog 26 Z [] f8.an f8.code (fnQ Tryz.prog 26 Tryz.f8.results Q) (argEnv [x0, x1]) w = f8.sh Z x0 x1 w Q := by kernel_rfl
theorem f8.enters : ∀ f, f ∈ ([] : List Nat) → Enters Tryz.prog f := by
 intro f hf
 cases hf
theorem f8.calls {Z : List PanicEntry → World → Prop} {x0 x1 : Value} {w : World} {Q : Value → World → Prop} (h : f8.sh Z x0 x1 w Q) : CallV Tryz.prog Z 8 #[x0, x1] w Q :=
 calls_of_vcn drawD_sound (Q := Q) (n := 26) (rs := Tryz.f8.results) (an := f8.an) (c := f8.code) (cal := []) (args := [x0, x1]) Tryz.func8 (by kernel_rfl) rfl f8.body_eq follows (Nat.le_of_ble_eq_true (by kernel_rfl)) (enters_of_all f8.enters) ((f8.shape Z x0 x1 w Q).mpr h)

def f9.sh (Z : List PanicEntry → World → Prop) (x0 : Value) (w : World) (Q : Value → World → Prop) : Prop :=
 run1 Tryz.prog Z (Builtin.len_ #[22] 3 #[x0]) w fun t7_1 w =>
 run1 Tryz.prog Z (binOp BinOp.add 3 t7_1 (Value.int IntKind.i64 64)) w fun t8_2 w =>
 run1 Tryz.prog Z (Instr.sliceAt 22 x0 none (some t8_2) none) w fun t9_3 w =>
 run1 Tryz.prog Z (Builtin.len_ #[22] 3 #[x0]) w fun t11_4 w =>
 ∃ J_5 : Nat → Value → World → Prop, (∃ m, J_5 m t11_4 w) ∧
 ∀ m_5, ∀ t4_6 : Value, ∀ w : World, J_5 m_5 t4_6 w → Env →
 run1 Tryz.prog Z (Builtin.len_ #[22] 3 #[t9_3]) w fun t14_7 w =>
 run1 Tryz.prog Z (binOp BinOp.lss 3 t4_6 t14_7) w fun t15_8 w =>
 CondV t15_8 (
 run1 Tryz.prog Z (Instr.indexAt 22 t9_3 t4_6) w fun t20_9 w =>
 run1 Tryz.prog Z (Instr.loadAt 5 t20_9) w fun t21_10 w =>
 run1 Tryz.prog Z (binOp BinOp.rem 3 t4_6 (Value.int IntKind.i64 5)) w fun t23_11 w =>
 run1 Tryz.prog Z (binOp BinOp.add 3 (Value.int IntKind.i64 170) t23_11) w fun t24_12 w =>
 run1 Tryz.prog Z (convert 3 5 t24_12) w fun t25_13 w =>
 run1 Tryz.prog Z (eqOp BinOp.neq 5 false false t21_10 t25_13) w fun t26_14 w =>
 CondV t26_14 (
 Q (Value.bool false) w) (
 run1 Tryz.prog Z (binOp BinOp.add 3 t4_6 (Value.int IntKind.i64 1)) w fun t17_15 w =>
 ∃ n_5, n_5 < m_5 ∧ J_5 n_5 t17_15 w)) (
 Q (Value.bool true) w)
noncomputable def f9.code : Code := match Tryz.f9.body with | some c => c | none => .skip
def f9.an : An := (.sq .leaf (.sq .leaf (.sq (.sq .leaf (.bl (.lp [4] [2, 4, 12, 13, 14, 15, 16, 17, 18, 19, 20, 21, 22, 23, 24, 25, 26] (.sq (.sq .leaf (.cn .leaf .leaf)) (.sq (.bl (.sq .leaf (.cn (.sq .leaf .leaf) .leaf))) .leaf))))) (.sq .leaf .leaf))))
theorem f9.body_eq : Tryz.f9.body = some f9.code := by kernel_rfl
theorem f9.shape (Z : List PanicEntry → World → Prop) (x0 : Value) (w : World) (Q : Value → World → Prop) : vc drawD Tryz.prog 27 Z [] f9.an f9.code (fnQ Tryz.prog 27 Tryz.f9.results Q) (argEnv [x0]) w = f9.sh Z x0 w Q := by kernel_rfl
theorem f9.enters : ∀ f, f ∈ ([] : List Nat) → Enters Tryz.prog f := by
 intro f hf
 cases hf
theorem f9.calls {Z : List PanicEntry → World → Prop} {x0 : Value} {w : World} {Q : Value → World → Prop} (h : f9.sh Z x0 w Q) : CallV Tryz.prog Z 9 #[x0] w Q :=
 calls_of_vcn drawD_sound (Q := Q) (n := 27) (rs := Tryz.f9.results) (an := f9.an) (c := f9.code) (cal := []) (args := [x0]) Tryz.func9 (by kernel_rfl) rfl f9.body_eq follows (Nat.le_of_ble_eq_true (by kernel_rfl)) (enters_of_all f9.enters) ((f9.shape Z x0 w Q).mpr h)

def f10.sh (Z : List PanicEntry → World → Prop) (x0 : Value) (w : World) (Q : Value → World → Prop) : Prop :=
 ∃ J_1 : Nat → Value → Value → World → Prop, (∃ m, J_1 m (Value.slice none 0 0) (Value.int IntKind.i64 0) w) ∧
 ∀ m_1, ∀ t3_2 : Value, ∀ t4_3 : Value, ∀ w : World, J_1 m_1 t3_2 t4_3 w → Env →
 run1 Tryz.prog Z (Builtin.len_ #[22] 3 #[x0]) w fun t7_4 w =>
 run1 Tryz.prog Z (binOp BinOp.lss 3 t4_3 t7_4) w fun t8_5 w =>
 CondV t8_5 (
 run1 Tryz.prog Z (Instr.indexAt 22 x0 t4_3) w fun t14_6 w =>
 run1 Tryz.prog Z (Instr.loadAt 5 t14_6) w fun t15_7 w =>
 run1 Tryz.prog Z (Instr.buildSlice 22 1 #[(0, t15_7)]) w fun t16_8 w =>
 run1 Tryz.prog Z (Builtin.append_ #[22, 22] 22 #[t3_2, t16_8]) w fun t17_9 w =>
 run1 Tryz.prog Z (binOp BinOp.add 3 t4_3 (Value.int IntKind.i64 1)) w fun t10_10 w =>
 ∃ n_1, n_1 < m_1 ∧ J_1 n_1 t17_9 t10_10 w) (
 Q t3_2 w)
noncomputable def f10.code : Code := match Tryz.f10.body with | some c => c | none => .skip
def f10.an : An := (.sq .leaf (.sq .leaf (.sq (.sq .leaf (.bl (.lp [3, 4] [3, 4, 5, 6, 7, 8, 9, 10, 11, 12, 13, 14, 15, 16, 17] (.sq (.sq .leaf (.cn .leaf .leaf)) (.sq (.bl .leaf) .leaf))))) (.sq .leaf .leaf))))
theorem f10.body_eq : Tryz.f10.body = some f10.code := by kernel_rfl
theorem f10.shape (Z : List PanicEntry → World → Prop) (x0 : Value) (w : World) (Q : Value → World → Prop) : vc drawD Tryz.prog 19 Z [] f10.an f10.code (fnQ Tryz.prog 19 Tryz.f10.results Q) (argEnv [x0]) w = f10.sh Z x0 w Q := by kernel_rfl
theorem f10.enters : ∀ f, f ∈ ([] : List Nat) → Enters Tryz.prog f := by
 intro f hf
 cases hf
theorem f10.calls {Z : List PanicEntry → World → Prop} {x0 : Value} {w : World} {Q : Value → World → Prop} (h : f10.sh Z x0 w Q) : CallV Tryz.prog Z 10 #[x0] w Q :=
 calls_of_vcn drawD_sound (Q := Q) (n := 19) (rs := Tryz.f10.results) (an := f10.an) (c := f10.code) (cal := []) (args := [x0]) Tryz.func10 (by kernel_rfl) rfl f10.body_eq follows (Nat.le_of_ble_eq_true (by kernel_rfl)) (enters_of_all f10.enters) ((f10.shape Z x0 w Q).mpr h)

def f11.sh (Z : List PanicEntry → World → Prop) (x0 x1 x2 x3 : Value) (w : World) (Q : Value → World → Prop) : Prop :=
 run1 Tryz.prog Z (Instr.build 73 #[]) w fun t21_1 w =>
 run1 Tryz.prog Z (Instr.box 73 t21_1) w fun t22_2 w =>
 ∃ J_3 : Nat → Value → Value → Value → World → Prop, (∃ m, J_3 m (Value.slice none 0 0) (Value.slice none 0 0) (Value.int IntKind.i64 0) w) ∧
 ∀ m_3, ∀ t10_4 : Value, ∀ t11_5 : Value, ∀ t12_6 : Value, ∀ w : World, J_3 m_3 t10_4 t11_5 t12_6 w → Env →
 run1 Tryz.prog Z (Builtin.len_ #[23] 3 #[x2]) w fun t25_7 w =>
 run1 Tryz.prog Z (binOp BinOp.lss 3 t12_6 t25_7) w fun t26_8 w =>
 CondV t26_8 (
 ∀ j_9 : Value → Value → World → Prop, (∀ t10_10 : Value, ∀ t11_11 : Value, ∀ w : World, (Env →
 run1 Tryz.prog Z (binOp BinOp.add 3 t12_6 (Value.int IntKind.i64 1)) w fun t28_12 w =>
 ∃ n_3, n_3 < m_3 ∧ J_3 n_3 t10_10 t11_11 t28_12 w) →
 j_9 t10_10 t11_11 w) →
 run1 Tryz.prog Z (Instr.indexAt 23 x2 t12_6) w fun t32_13 w =>
 run1 Tryz.prog Z (Instr.loadAt 46 t32_13) w fun t33_14 w =>
 CallV Tryz.prog Z 18 #[x0, t33_14] w fun t34_15 w =>
 run1 Tryz.prog Z (Instr.alloc 76 true (.tuple #[])) w fun t13_16 w =>
 run0 Tryz.prog Z (Instr.storeAt 76 t13_16 t34_15) w fun w =>
 run1 Tryz.prog Z (Instr.indexAt 23 x2 t12_6) w fun t38_17 w =>
 run1 Tryz.prog Z (Instr.loadAt 46 t38_17) w fun t39_18 w =>
 CallV Tryz.prog Z 19 #[x1, t39_18] w fun t40_19 w =>
 run1 Tryz.prog Z (Instr.alloc 76 true (.tuple #[])) w fun t14_20 w =>
 run0 Tryz.prog Z (Instr.storeAt 76 t14_20 t40_19) w fun w =>
 run1 Tryz.prog Z (Instr.loadAt 76 t13_16) w fun t41_21 w =>
 run1 Tryz.prog Z (Instr.loadAt 76 t14_20) w fun t42_22 w =>
 CallV Tryz.prog Z 20 #[t41_21, t42_22] w fun t43_23 w =>
 run1 Tryz.prog Z (Op.unary UnOp.not t43_23) w fun t45_24 w =>
 CondV t45_24 (
 Q (Value.bool false) w) (
 ∀ j_25 : Value → Value → World → Prop, (∀ t10_26 : Value, ∀ t11_27 : Value, ∀ w : World, (Env →
 CondV x3 (
 CallV Tryz.prog Z 17 #[x0] w fun t67_28 w =>
 CallV Tryz.prog Z 22 #[x0] w fun t69_29 w =>
 CallV Tryz.prog Z 23 #[x0] w fun t71_30 w =>
 CallV Tryz.prog Z 24 #[x1] w fun t74_31 w =>
 run1 Tryz.prog Z (eqOp BinOp.neq 3 false false t67_28 t74_31) w fun t75_32 w =>
 guardW (t75_32) false (fun k => k (t69_29) w) (fun t77_33 w =>
 guardW (t75_32) false (fun k => k (x1) w) (fun t78_34 w =>
 guardW (t75_32) false (fun k => runX Tryz.prog Z (nilChk t78_34) w k) (fun t79_35 w =>
 guardW (t75_32) false (fun k => run1 Tryz.prog Z (Instr.fieldAt 83 t79_35 2) w k) (fun t80_36 w =>
 guardW (t75_32) false (fun k => run1 Tryz.prog Z (Instr.loadAt 47 t80_36) w k) (fun t81_37 w =>
 guardW (t75_32) false (fun k => run1 Tryz.prog Z (eqOp BinOp.neq 47 false false t77_33 t81_37) w k) (fun t82_38 w =>
 run1 Tryz.prog Z (pickV t75_32 (Value.bool true) t82_38) w fun t83_39 w =>
 guardW (t83_39) false (fun k => k (t71_30) w) (fun t85_40 w =>
 guardW (t83_39) false (fun k => k (x1) w) (fun t86_41 w =>
 guardW (t83_39) false (fun k => CallV Tryz.prog Z 25 #[t86_41] w k) (fun t87_42 w =>
 guardW (t83_39) false (fun k => run1 Tryz.prog Z (eqOp BinOp.neq 47 false false t85_40 t87_42) w k) (fun t88_43 w =>
 run1 Tryz.prog Z (pickV t83_39 (Value.bool true) t88_43) w fun t89_44 w =>
 CondV t89_44 (
 Q (Value.bool false) w) (
 j_9 t10_26 t11_27 w)) w) w) w) w) w) w) w) w) w) w) (
 j_9 t10_26 t11_27 w)) →
 j_25 t10_26 t11_27 w) →
 run1 Tryz.prog Z (binOp BinOp.rem 3 t12_6 (Value.int IntKind.i64 2)) w fun t47_45 w =>
 run1 Tryz.prog Z (eqOp BinOp.eql 3 false true t47_45 (Value.int IntKind.i64 0)) w fun t48_46 w =>
 CondV t48_46 (
 run1 Tryz.prog Z (Instr.fieldAt 76 t13_16 4) w fun t49_47 w =>
 run1 Tryz.prog Z (Instr.loadAt 22 t49_47) w fun t50_48 w =>
 CallV Tryz.prog Z 21 #[t50_48] w fun t51_49 w =>
 j_25 t10_4 t11_5 w) (
 run1 Tryz.prog Z (Builtin.len_ #[51] 3 #[t10_4]) w fun t53_50 w =>
 run1 Tryz.prog Z (binOp BinOp.lss 3 t53_50 (Value.int IntKind.i64 100)) w fun t54_51 w =>
 CondV t54_51 (
 run1 Tryz.prog Z (Instr.fieldAt 76 t13_16 4) w fun t56_52 w =>
 run1 Tryz.prog Z (Instr.loadAt 22 t56_52) w fun t57_53 w =>
 run1 Tryz.prog Z (Instr.buildSlice 51 1 #[(0, t57_53)]) w fun t58_54 w =>
 run1 Tryz.prog Z (Builtin.append_ #[51, 51] 51 #[t10_4, t58_54]) w fun t59_55 w =>
 run1 Tryz.prog Z (Instr.fieldAt 76 t14_20 4) w fun t61_56 w =>
 run1 Tryz.prog Z (Instr.loadAt 22 t61_56) w fun t62_57 w =>
 run1 Tryz.prog Z (Instr.buildSlice 51 1 #[(0, t62_57)]) w fun t63_58 w =>
 run1 Tryz.prog Z (Builtin.append_ #[51, 51] 51 #[t11_5, t63_58]) w fun t64_59 w =>
 j_25 t59_55 t64_59 w) (
 j_25 t10_4 t11_5 w)))) (
 ∃ J_60 : Nat → Value → World → Prop, (∃ m, J_60 m (Value.int IntKind.i64 0) w) ∧
 ∀ m_60, ∀ t19_61 : Value, ∀ w : World, J_60 m_60 t19_61 w → Env →
 run1 Tryz.prog Z (Builtin.len_ #[51] 3 #[t10_4]) w fun t92_62 w =>
 run1 Tryz.prog Z (binOp BinOp.lss 3 t19_61 t92_62) w fun t93_63 w =>
 CondV t93_63 (
 Drawn w fun w =>
 Pure1 Tryz.prog (Instr.indexAt 51 t10_4 t19_61) fun t98_64 =>
 Read1 Tryz.prog (Instr.loadAt 22 t98_64) w fun t99_65 =>
 Pure1 Tryz.prog (Instr.indexAt 51 t11_5 t19_61) fun t102_66 =>
 Read1 Tryz.prog (Instr.loadAt 22 t102_66) w fun t103_67 =>
 CallV Tryz.prog Z 8 #[t99_65, t103_67] w fun t104_68 w =>
 run1 Tryz.prog Z (Op.unary UnOp.not t104_68) w fun t106_69 w =>
 CondV t106_69 (
 Q (Value.bool false) w) (
 run1 Tryz.prog Z (binOp BinOp.add 3 t19_61 (Value.int IntKind.i64 1)) w fun t95_70 w =>
 ∃ n_60, n_60 < m_60 ∧ J_60 n_60 t95_70 w)) (
 CallV Tryz.prog Z 26 #[t22_2, t10_4] w fun t109_71 w =>
 CallV Tryz.prog Z 27 #[t22_2] w fun t111_72 w =>
 Q t111_72 w))
noncomputable def f11.code : Code := match Tryz.f11.body with | some c => c | none => .skip
def f11.an : An := (.sq .leaf (.sq .leaf (.sq .leaf (.sq .leaf (.sq (.sq .leaf (.bl (.lp [10, 11, 12] [8, 10, 11, 12, 13, 14, 15, 16, 17, 18, 23, 24, 25, 26, 27, 28, 29, 30, 31, 32, 33, 34, 35, 36, 37, 38, 39, 40, 41, 42, 43, 44, 45, 46, 47, 48, 49, 50, 51, 52, 53, 54, 55, 56, 57, 58, 59, 60, 61, 62, 63, 64, 65, 66, 67, 68, 69, 70, 71, 72, 73, 74, 75, 76, 77, 78, 79, 80, 81, 82, 83, 84, 85, 86, 87, 88, 89] (.sq (.sq .leaf (.cn .leaf .leaf)) (.sj [10, 11] [8, 10, 11, 13, 14, 15, 16, 17, 18, 29, 30, 31, 32, 33, 34, 35, 36, 37, 38, 39, 40, 41, 42, 43, 44, 45, 46, 47, 48, 49, 50, 51, 52, 53, 54, 55, 56, 57, 58, 59, 60, 61, 62, 63, 64, 65, 66, 67, 68, 69, 70, 71, 72, 73, 74, 75, 76, 77, 78, 79, 80, 81, 82, 83, 84, 85, 86, 87, 88, 89] (.bl (.sq .leaf (.sq .leaf (.sq .leaf (.sq (.sq .leaf (.cn (.sq .leaf .leaf) .leaf)) (.sj [10, 11] [10, 11, 46, 47, 48, 49, 50, 51, 52, 53, 54, 55, 56, 57, 58, 59, 60, 61, 62, 63, 64] (.sq .leaf (.cn .leaf (.sq .leaf (.cn (.sq .leaf .leaf) .leaf)))) (.sq .leaf (.cn (.sq .leaf (.sq .leaf (.sq .leaf (.sq .leaf (.cn (.sq .leaf .leaf) .leaf))))) .leaf)))))))) .leaf))))) (.sq (.sq .leaf (.bl (.lp [19] [8, 19, 20, 90, 91, 92, 93, 94, 95, 96, 97, 98, 99, 100, 101, 102, 103, 104, 105, 106] (.sq (.sq .leaf (.cn .leaf .leaf)) (.sq (.bl (.sq (.dr (.take 0 false (.take 1 false (.take 2 false (.take 3 true (.take 4 false (.take 5 false (.take 6 false (.take 7 true (.one 8 (.take 9 false .fin))))))))))) (.sq .leaf (.cn (.sq .leaf .leaf) .leaf)))) .leaf))))) (.sq .leaf (.sq .leaf .leaf))))))))
theorem f11.body_eq : Tryz.f11.body = some f11.code := by kernel_rfl
theorem f11.shape (Z : List PanicEntry → World → Prop) (x0 x1 x2 x3 : Value) (w : World) (Q : Value → World → Prop) : vc drawD Tryz.prog 112 Z [18, 19, 20, 17, 22, 23, 24, 25, 21, 8, 26, 27] f11.an f11.code (fnQ Tryz.prog 112 Tryz.f11.results Q) (argEnv [x0, x1, x2, x3]) w = f11.sh Z x0 x1 x2 x3 w Q := by kernel_rfl
theorem f11.enters : ∀ f, f ∈ ([18, 19, 20, 17, 22, 23, 24, 25, 21, 8, 26, 27] : List Nat) → Enters Tryz.prog f := by
 intro f hf
 simp only [List.mem_cons, List.not_mem_nil, or_false] at hf
 rcases hf with rfl | rfl | rfl | rfl | rfl | rfl | rfl | rfl | rfl | rfl | rfl | rfl
 · exact en18
 · exact en19
 · exact en20
 · exact en17
 · exact en22
 · exact en23
 · exact en24
 · exact en25
 · exact en21
 · exact en8
 · exact en26
 · exact en27
theorem f11.calls {Z : List PanicEntry → World → Prop} {x0 x1 x2 x3 : Value} {w : World} {Q : Value → World → Prop} (h : f11.sh Z x0 x1 x2 x3 w Q) : CallV Tryz.prog Z 11 #[x0, x1, x2, x3] w Q :=
 calls_of_vcn drawD_sound (Q := Q) (n := 112) (rs := Tryz.f11.results) (an := f11.an) (c := f11.code) (cal := [18, 19, 20, 17, 22, 23, 24, 25, 21, 8, 26, 27]) (args := [x0, x1, x2, x3]) Tryz.func11 (by kernel_rfl) rfl f11.body_eq follows (Nat.le_of_ble_eq_true (by kernel_rfl)) (enters_of_all f11.enters) ((f11.shape Z x0 x1 x2 x3 w Q).mpr h)

def f12.sh (Z : List PanicEntry → World → Prop) (x0 : Value) (w : World) (Q : Value → World → Prop) : Prop :=
 CallV Tryz.prog Z 10 #[x0] w fun t4_1 w =>
 run1 Tryz.prog Z (Instr.build 83 #[(0, t4_1)]) w fun t5_2 w =>
 run1 Tryz.prog Z (Instr.box 83 t5_2) w fun t6_3 w =>
 Q t6_3 w
noncomputable def f12.code : Code := match Tryz.f12.body with | some c => c | none => .skip
def f12.an : An := (.sq .leaf (.sq .leaf .leaf))
theorem f12.body_eq : Tryz.f12.body = some f12.code := by kernel_rfl
theorem f12.shape (Z : List PanicEntry → World → Prop) (x0 : Value) (w : World) (Q : Value → World → Prop) : vc drawD Tryz.prog 7 Z [10] f12.an f12.code (fnQ Tryz.prog 7 Tryz.f12.results Q) (argEnv [x0]) w = f12.sh Z x0 w Q := by kernel_rfl
theorem f12.enters : ∀ f, f ∈ ([10] : List Nat) → Enters Tryz.prog f := by
 intro f hf
 simp only [List.mem_cons, List.not_mem_nil, or_false] at hf
 rcases hf with rfl
 · exact en10
theorem f12.calls {Z : List PanicEntry → World → Prop} {x0 : Value} {w : World} {Q : Value → World → Prop} (h : f12.sh Z x0 w Q) : CallV Tryz.prog Z 12 #[x0] w Q :=
 calls_of_vcn drawD_sound (Q := Q) (n := 7) (rs := Tryz.f12.results) (an := f12.an) (c := f12.code) (cal := [10]) (args := [x0]) Tryz.func12 (by kernel_rfl) rfl f12.body_eq follows (Nat.le_of_ble_eq_true (by kernel_rfl)) (enters_of_all f12.enters) ((f12.shape Z x0 w Q).mpr h)

def f13.sh (Z : List PanicEntry → World → Prop) (x0 x1 : Value) (w : World) (Q : Value → World → Prop) : Prop :=
 run1 Tryz.prog Z (convert 21 86 x1) w fun t6_1 w =>
 CallV Tryz.prog Z 28 #[x0, t6_1, (Value.int IntKind.i64 4)] w fun t7_2 w =>
 Q (Value.tuple #[]) w
noncomputable def f13.code : Code := match Tryz.f13.body with | some c => c | none => .skip
def f13.an : An := .leaf
theorem f13.body_eq : Tryz.f13.body = some f13.code := by kernel_rfl
theorem f13.shape (Z : List PanicEntry → World → Prop) (x0 x1 : Value) (w : World) (Q : Value → World → Prop) : vc drawD Tryz.prog 8 Z [28] f13.an f13.code (fnQ Tryz.prog 8 Tryz.f13.results Q) (argEnv [x0, x1]) w = f13.sh Z x0 x1 w Q := by kernel_rfl
theorem f13.enters : ∀ f, f ∈ ([28] : List Nat) → Enters Tryz.prog f := by
 intro f hf
 simp only [List.mem_cons, List.not_mem_nil, or_false] at hf
 rcases hf with rfl
 · exact en28
theorem f13.calls {Z : List PanicEntry → World → Prop} {x0 x1 : Value} {w : World} {Q : Value → World → Prop} (h : f13.sh Z x0 x1 w Q) : CallV Tryz.prog Z 13 #[x0, x1] w Q :=
 calls_of_vcn drawD_sound (Q := Q) (n := 8) (rs := Tryz.f13.results) (an := f13.an) (c := f13.code) (cal := [28]) (args := [x0, x1]) Tryz.func13 (by kernel_rfl) rfl f13.body_eq follows (Nat.le_of_ble_eq_true (by kernel_rfl)) (enters_of_all f13.enters) ((f13.shape Z x0 x1 w Q).mpr h)

def f14.sh (Z : List PanicEntry → World → Prop) (x0 : Value) (w : World) (Q : Value → World → Prop) : Prop :=
 CallV Tryz.prog Z 29 #[x0, (Value.int IntKind.i64 4)] w fun t4_1 w =>
 run1 Tryz.prog Z (convert 86 21 t4_1) w fun t5_2 w =>
 Q t5_2 w
noncomputable def f14.code : Code := match Tryz.f14.body with | some c => c | none => .skip
def f14.an : An := (.sq .leaf (.sq .leaf .leaf))
theorem f14.body_eq : Tryz.f14.body = some f14.code := by kernel_rfl
theorem f14.shape (Z : List PanicEntry → World → Prop) (x0 : Value) (w : World) (Q : Value → World → Prop) : vc drawD Tryz.prog 6 Z [29] f14.an f14.code (fnQ Tryz.prog 6 Tryz.f14.results Q) (argEnv [x0]) w = f14.sh Z x0 w Q := by kernel_rfl
theorem f14.enters : ∀ f, f ∈ ([29] : List Nat) → Enters Tryz.prog f := by
 intro f hf
 simp only [List.mem_cons, List.not_mem_nil, or_false] at hf
 rcases hf with rfl
 · exact en29
theorem f14.calls {Z : List PanicEntry → World → Prop} {x0 : Value} {w : World} {Q : Value → World → Prop} (h : f14.sh Z x0 w Q) : CallV Tryz.prog Z 14 #[x0] w Q :=
 calls_of_vcn drawD_sound (Q := Q) (n := 6) (rs := Tryz.f14.results) (an := f14.an) (c := f14.code) (cal := [29]) (args := [x0]) Tryz.func14 (by kernel_rfl) rfl f14.body_eq follows (Nat.le_of_ble_eq_true (by kernel_rfl)) (enters_of_all f14.enters) ((f14.shape Z x0 w Q).mpr h)

def f15.sh (Z : List PanicEntry → World → Prop) (x0 : Value) (w : World) (Q : Value → World → Prop) : Prop :=
 run1 Tryz.prog Z (Builtin.len_ #[22] 3 #[x0]) w fun t8_1 w =>
 ∃ J_2 : Nat → Value → Value → Value → World → Prop, (∃ m, J_2 m (Value.int IntKind.u32 1) (Value.int IntKind.u32 0) (Value.int IntKind.i64 0) w) ∧
 ∀ m_2, ∀ t3_3 : Value, ∀ t4_4 : Value, ∀ t9_5 : Value, ∀ w : World, J_2 m_2 t3_3 t4_4 t9_5 w → Env →
 run1 Tryz.prog Z (binOp BinOp.lss 3 t9_5 t8_1) w fun t10_6 w =>
 CondV t10_6 (
 run1 Tryz.prog Z (Instr.indexAt 22 x0 t9_5) w fun t11_7 w =>
 run1 Tryz.prog Z (Instr.loadAt 5 t11_7) w fun t12_8 w =>
 run1 Tryz.prog Z (convert 5 40 t12_8) w fun t15_9 w =>
 run1 Tryz.prog Z (binOp BinOp.add 40 t3_3 t15_9) w fun t16_10 w =>
 run1 Tryz.prog Z (binOp BinOp.rem 40 t16_10 (Value.int IntKind.u32 65521)) w fun t17_11 w =>
 run1 Tryz.prog Z (binOp BinOp.add 40 t4_4 t17_11) w fun t20_12 w =>
 run1 Tryz.prog Z (binOp BinOp.rem 40 t20_12 (Value.int IntKind.u32 65521)) w fun t21_13 w =>
 run1 Tryz.prog Z (binOp BinOp.add 3 t9_5 (Value.int IntKind.i64 1)) w fun t22_14 w =>
 ∃ n_2, n_2 < m_2 ∧ J_2 n_2 t17_11 t21_13 t22_14 w) (
 run1 Tryz.prog Z (binOp BinOp.shl 40 t4_4 (Value.int IntKind.u64 16)) w fun t24_15 w =>
 run1 Tryz.prog Z (binOp BinOp.or 40 t24_15 t3_3) w fun t26_16 w =>
 Q t26_16 w)
noncomputable def f15.code : Code := match Tryz.f15.body with | some c => c | none => .skip
def f15.an : An := (.sq .leaf (.sq .leaf (.sq (.sq .leaf (.bl (.lp [3, 4, 9] [3, 4, 6, 9, 10, 11, 12, 13, 14, 15, 16, 17, 18, 19, 20, 21, 22] (.sq .leaf (.sq (.cn .leaf .leaf) (.sq (.bl (.sq .leaf (.sq .leaf .leaf))) .leaf)))))) (.sq .leaf .leaf))))
theorem f15.body_eq : Tryz.f15.body = some f15.code := by kernel_rfl
theorem f15.shape (Z : List PanicEntry → World → Prop) (x0 : Value) (w : World) (Q : Value → World → Prop) : vc drawD Tryz.prog 27 Z [] f15.an f15.code (fnQ Tryz.prog 27 Tryz.f15.results Q) (argEnv [x0]) w = f15.sh Z x0 w Q := by kernel_rfl
theorem f15.enters : ∀ f, f ∈ ([] : List Nat) → Enters Tryz.prog f := by
 intro f hf
 cases hf
theorem f15.calls {Z : List PanicEntry → World → Prop} {x0 : Value} {w : World} {Q : Value → World → Prop} (h : f15.sh Z x0 w Q) : CallV Tryz.prog Z 15 #[x0] w Q :=
 calls_of_vcn drawD_sound (Q := Q) (n := 27) (rs := Tryz.f15.results) (an := f15.an) (c := f15.code) (cal := []) (args := [x0]) Tryz.func15 (by kernel_rfl) rfl f15.body_eq follows (Nat.le_of_ble_eq_true (by kernel_rfl)) (enters_of_all f15.enters) ((f15.shape Z x0 w Q).mpr h)

def f16.sh (Z : List PanicEntry → World → Prop) (x0 : Value) (w : World) (Q : Value → World → Prop) : Prop :=
 run1 Tryz.prog Z (eqOp BinOp.eql 35 false true x0 (Value.pointer none)) w fun t4_1 w =>
 CondV t4_1 (
 Q (Value.slice none 0 0) w) (
 runX Tryz.prog Z (nilChk x0) w fun t6_2 w =>
 run1 Tryz.prog Z (Instr.fieldAt 37 t6_2 0) w fun t7_3 w =>
 run1 Tryz.prog Z (Instr.loadAt 22 t7_3) w fun t8_4 w =>
 run1 Tryz.prog Z (Builtin.append_ #[22, 22] 22 #[(Value.slice none 0 0), t8_4]) w fun t9_5 w =>
 Q t9_5 w)
noncomputable def f16.code : Code := match Tryz.f16.body with | some c => c | none => .skip
def f16.an : An := (.sq .leaf (.sq (.sq .leaf (.cn (.sq .leaf .leaf) .leaf)) (.sq .leaf .leaf)))
theorem f16.body_eq : Tryz.f16.body = some f16.code := by kernel_rfl
theorem f16.shape (Z : List PanicEntry → World → Prop) (x0 : Value) (w : World) (Q : Value → World → Prop) : vc drawD Tryz.prog 10 Z [] f16.an f16.code (fnQ Tryz.prog 10 Tryz.f16.results Q) (argEnv [x0]) w = f16.sh Z x0 w Q := by kernel_rfl
theorem f16.enters : ∀ f, f ∈ ([] : List Nat) → Enters Tryz.prog f := by
 intro f hf
 cases hf
theorem f16.calls {Z : List PanicEntry → World → Prop} {x0 : Value} {w : World} {Q : Value → World → Prop} (h : f16.sh Z x0 w Q) : CallV Tryz.prog Z 16 #[x0] w Q :=
 calls_of_vcn drawD_sound (Q := Q) (n := 10) (rs := Tryz.f16.results) (an := f16.an) (c := f16.code) (cal := []) (args := [x0]) Tryz.func16 (by kernel_rfl) rfl f16.body_eq follows (Nat.le_of_ble_eq_true (by kernel_rfl)) (enters_of_all f16.enters) ((f16.shape Z x0 w Q).mpr h)

def f17.sh (Z : List PanicEntry → World → Prop) (x0 : Value) (w : World) (Q : Value → World → Prop) : Prop :=
 CallV Tryz.prog Z 30 #[x0] w fun t4_1 w =>
 run1 Tryz.prog Z (Builtin.len_ #[22] 3 #[t4_1]) w fun t5_2 w =>
 Q t5_2 w
noncomputable def f17.code : Code := match Tryz.f17.body with | some c => c | none => .skip
def f17.an : An := (.sq .leaf (.sq .leaf .leaf))
theorem f17.body_eq : Tryz.f17.body = some f17.code := by kernel_rfl
theorem f17.shape (Z : List PanicEntry → World → Prop) (x0 : Value) (w : World) (Q : Value → World → Prop) : vc drawD Tryz.prog 6 Z [30] f17.an f17.code (fnQ Tryz.prog 6 Tryz.f17.results Q) (argEnv [x0]) w = f17.sh Z x0 w Q := by kernel_rfl
theorem f17.enters : ∀ f, f ∈ ([30] : List Nat) → Enters Tryz.prog f := by
 intro f hf
 simp only [List.mem_cons, List.not_mem_nil, or_false] at hf
 rcases hf with rfl
 · exact en30
theorem f17.calls {Z : List PanicEntry → World → Prop} {x0 : Value} {w : World} {Q : Value → World → Prop} (h : f17.sh Z x0 w Q) : CallV Tryz.prog Z 17 #[x0] w Q :=
 calls_of_vcn drawD_sound (Q := Q) (n := 6) (rs := Tryz.f17.results) (an := f17.an) (c := f17.code) (cal := [30]) (args := [x0]) Tryz.func17 (by kernel_rfl) rfl f17.body_eq follows (Nat.le_of_ble_eq_true (by kernel_rfl)) (enters_of_all f17.enters) ((f17.shape Z x0 w Q).mpr h)

def f18.sh (Z : List PanicEntry → World → Prop) (x0 x1 : Value) (w : World) (Q : Value → World → Prop) : Prop :=
 run1 Tryz.prog Z (Instr.box 46 x1) w fun t3_1 w =>
 run1 Tryz.prog Z (Instr.alloc 76 true (.tuple #[])) w fun t4_2 w =>
 ∀ j_3 : World → Prop, (∀ w : World, (Env →
 run1 Tryz.prog Z (Instr.build 76 #[]) w fun t84_4 w =>
 run0 Tryz.prog Z (Instr.storeAt 76 t4_2 t84_4) w fun w =>
 ∃ r_5, (do loadVar 76 (← asAddr t4_2) : Sem Value).run Tryz.prog w = .ok r_5 w ∧
 Q r_5 w) →
 j_3 w) →
 run1 Tryz.prog Z (Instr.fieldAt 46 t3_1 0) w fun t7_6 w =>
 run1 Tryz.prog Z (Instr.loadAt 3 t7_6) w fun t8_7 w =>
 run1 Tryz.prog Z (eqOp BinOp.eql 3 false true t8_7 (Value.int IntKind.i64 1)) w fun t10_8 w =>
 CondV t10_8 (
 CallV Tryz.prog Z 31 #[x0] w fun t12_9 w =>
 run1 Tryz.prog Z (Instr.build 76 #[(0, t12_9)]) w fun t13_10 w =>
 run0 Tryz.prog Z (Instr.storeAt 76 t4_2 t13_10) w fun w =>
 ∃ r_11, (do loadVar 76 (← asAddr t4_2) : Sem Value).run Tryz.prog w = .ok r_11 w ∧
 Q r_11 w) (
 run1 Tryz.prog Z (eqOp BinOp.eql 3 false true t8_7 (Value.int IntKind.i64 2)) w fun t15_12 w =>
 CondV t15_12 (
 CallV Tryz.prog Z 32 #[x0] w fun t17_13 w =>
 run1 Tryz.prog Z (convert 89 2 t17_13) w fun t18_14 w =>
 run1 Tryz.prog Z (Instr.build 76 #[(1, t18_14)]) w fun t19_15 w =>
 run0 Tryz.prog Z (Instr.storeAt 76 t4_2 t19_15) w fun w =>
 ∃ r_16, (do loadVar 76 (← asAddr t4_2) : Sem Value).run Tryz.prog w = .ok r_16 w ∧
 Q r_16 w) (
 run1 Tryz.prog Z (eqOp BinOp.eql 3 false true t8_7 (Value.int IntKind.i64 3)) w fun t21_17 w =>
 CondV t21_17 (
 CallV Tryz.prog Z 14 #[x0] w fun t23_18 w =>
 run1 Tryz.prog Z (convert 21 2 t23_18) w fun t24_19 w =>
 run1 Tryz.prog Z (Instr.build 76 #[(1, t24_19)]) w fun t25_20 w =>
 run0 Tryz.prog Z (Instr.storeAt 76 t4_2 t25_20) w fun w =>
 ∃ r_21, (do loadVar 76 (← asAddr t4_2) : Sem Value).run Tryz.prog w = .ok r_21 w ∧
 Q r_21 w) (
 run1 Tryz.prog Z (eqOp BinOp.eql 3 false true t8_7 (Value.int IntKind.i64 4)) w fun t27_22 w =>
 CondV t27_22 (
 CallV Tryz.prog Z 33 #[x0] w fun t29_23 w =>
 run1 Tryz.prog Z (convert 40 2 t29_23) w fun t30_24 w =>
 run1 Tryz.prog Z (Instr.build 76 #[(1, t30_24)]) w fun t31_25 w =>
 run0 Tryz.prog Z (Instr.storeAt 76 t4_2 t31_25) w fun w =>
 ∃ r_26, (do loadVar 76 (← asAddr t4_2) : Sem Value).run Tryz.prog w = .ok r_26 w ∧
 Q r_26 w) (
 run1 Tryz.prog Z (eqOp BinOp.eql 3 false true t8_7 (Value.int IntKind.i64 5)) w fun t33_27 w =>
 CondV t33_27 (
 CallV Tryz.prog Z 34 #[x0] w fun t35_28 w =>
 run1 Tryz.prog Z (Instr.build 76 #[(1, t35_28)]) w fun t36_29 w =>
 run0 Tryz.prog Z (Instr.storeAt 76 t4_2 t36_29) w fun w =>
 ∃ r_30, (do loadVar 76 (← asAddr t4_2) : Sem Value).run Tryz.prog w = .ok r_30 w ∧
 Q r_30 w) (
 run1 Tryz.prog Z (eqOp BinOp.eql 3 false true t8_7 (Value.int IntKind.i64 6)) w fun t38_31 w =>
 CondV t38_31 (
 CallV Tryz.prog Z 35 #[x0] w fun t40_32 w =>
 run1 Tryz.prog Z (Instr.build 76 #[(2, t40_32)]) w fun t41_33 w =>
 run0 Tryz.prog Z (Instr.storeAt 76 t4_2 t41_33) w fun w =>
 ∃ r_34, (do loadVar 76 (← asAddr t4_2) : Sem Value).run Tryz.prog w = .ok r_34 w ∧
 Q r_34 w) (
 run1 Tryz.prog Z (eqOp BinOp.eql 3 false true t8_7 (Value.int IntKind.i64 7)) w fun t43_35 w =>
 CondV t43_35 (
 run1 Tryz.prog Z (Instr.fieldAt 46 t3_1 2) w fun t45_36 w =>
 run1 Tryz.prog Z (Instr.loadAt 2 t45_36) w fun t46_37 w =>
 CallV Tryz.prog Z 37 #[t46_37] w fun t47_38 w =>
 CallV Tryz.prog Z 36 #[x0, t47_38] w fun t48_39 w =>
 run1 Tryz.prog Z (Instr.build 76 #[(3, t48_39)]) w fun t49_40 w =>
 run0 Tryz.prog Z (Instr.storeAt 76 t4_2 t49_40) w fun w =>
 ∃ r_41, (do loadVar 76 (← asAddr t4_2) : Sem Value).run Tryz.prog w = .ok r_41 w ∧
 Q r_41 w) (
 run1 Tryz.prog Z (eqOp BinOp.eql 3 false true t8_7 (Value.int IntKind.i64 8)) w fun t51_42 w =>
 CondV t51_42 (
 run1 Tryz.prog Z (Instr.fieldAt 46 t3_1 2) w fun t53_43 w =>
 run1 Tryz.prog Z (Instr.loadAt 2 t53_43) w fun t54_44 w =>
 CallV Tryz.prog Z 37 #[t54_44] w fun t55_45 w =>
 CallV Tryz.prog Z 38 #[x0, t55_45] w fun t56_46 w =>
 run1 Tryz.prog Z (Instr.build 76 #[(4, t56_46)]) w fun t57_47 w =>
 run0 Tryz.prog Z (Instr.storeAt 76 t4_2 t57_47) w fun w =>
 ∃ r_48, (do loadVar 76 (← asAddr t4_2) : Sem Value).run Tryz.prog w = .ok r_48 w ∧
 Q r_48 w) (
 run1 Tryz.prog Z (eqOp BinOp.eql 3 false true t8_7 (Value.int IntKind.i64 9)) w fun t59_49 w =>
 CondV t59_49 (
 run1 Tryz.prog Z (Instr.fieldAt 46 t3_1 2) w fun t61_50 w =>
 run1 Tryz.prog Z (Instr.loadAt 2 t61_50) w fun t62_51 w =>
 CallV Tryz.prog Z 37 #[t62_51] w fun t63_52 w =>
 CallV Tryz.prog Z 39 #[x0, t63_52] w fun t64_53 w =>
 run1 Tryz.prog Z (Instr.build 76 #[(4, t64_53)]) w fun t65_54 w =>
 run0 Tryz.prog Z (Instr.storeAt 76 t4_2 t65_54) w fun w =>
 ∃ r_55, (do loadVar 76 (← asAddr t4_2) : Sem Value).run Tryz.prog w = .ok r_55 w ∧
 Q r_55 w) (
 run1 Tryz.prog Z (eqOp BinOp.eql 3 false true t8_7 (Value.int IntKind.i64 10)) w fun t67_56 w =>
 CondV t67_56 (
 CallV Tryz.prog Z 17 #[x0] w fun t69_57 w =>
 CallV Tryz.prog Z 22 #[x0] w fun t71_58 w =>
 CallV Tryz.prog Z 23 #[x0] w fun t75_59 w =>
 run1 Tryz.prog Z (Instr.build 74 #[(0, t71_58), (1, t75_59)]) w fun t76_60 w =>
 run1 Tryz.prog Z (Instr.build 76 #[(1, t69_57), (5, t76_60)]) w fun t77_61 w =>
 run0 Tryz.prog Z (Instr.storeAt 76 t4_2 t77_61) w fun w =>
 ∃ r_62, (do loadVar 76 (← asAddr t4_2) : Sem Value).run Tryz.prog w = .ok r_62 w ∧
 Q r_62 w) (
 run1 Tryz.prog Z (eqOp BinOp.eql 3 false true t8_7 (Value.int IntKind.i64 11)) w fun t79_63 w =>
 CondV t79_63 (
 run1 Tryz.prog Z (Instr.fieldAt 46 t3_1 2) w fun t81_64 w =>
 run1 Tryz.prog Z (Instr.loadAt 2 t81_64) w fun t82_65 w =>
 CallV Tryz.prog Z 40 #[x0, t82_65] w fun t83_66 w =>
 j_3 w) (
 j_3 w)))))))))))
noncomputable def f18.code : Code := match Tryz.f18.body with | some c => c | none => .skip
def f18.an : An := (.sq .leaf (.sj [] [5, 6, 7, 8, 9, 10, 11, 12, 13, 14, 15, 16, 17, 18, 19, 20, 21, 22, 23, 24, 25, 26, 27, 28, 29, 30, 31, 32, 33, 34, 35, 36, 37, 38, 39, 40, 41, 42, 43, 44, 45, 46, 47, 48, 49, 50, 51, 52, 53, 54, 55, 56, 57, 58, 59, 60, 61, 62, 63, 64, 65, 66, 67, 68, 69, 70, 71, 72, 73, 74, 75, 76, 77, 78, 79, 80, 81, 82, 83] (.sq .leaf (.bl (.sq .leaf (.cn (.sq .leaf .leaf) (.sq .leaf (.cn (.sq .leaf .leaf) (.sq .leaf (.cn (.sq .leaf .leaf) (.sq .leaf (.cn (.sq .leaf .leaf) (.sq .leaf (.cn (.sq .leaf .leaf) (.sq .leaf (.cn (.sq .leaf .leaf) (.sq .leaf (.cn (.sq .leaf .leaf) (.sq .leaf (.cn (.sq .leaf .leaf) (.sq .leaf (.cn (.sq .leaf .leaf) (.sq .leaf (.cn (.sq .leaf (.sq .leaf (.sq .leaf .leaf))) (.sq .leaf (.cn .leaf .leaf)))))))))))))))))))))))) (.sq .leaf .leaf)))
theorem f18.body_eq : Tryz.f18.body = some f18.code := by kernel_rfl
theorem f18.shape (Z : List PanicEntry → World → Prop) (x0 x1 : Value) (w : World) (Q : Value → World → Prop) : vc drawD Tryz.prog 85 Z [31, 32, 14, 33, 34, 35, 37, 36, 38, 39, 17, 22, 23, 40] f18.an f18.code (fnQ Tryz.prog 85 Tryz.f18.results Q) (argEnv [x0, x1]) w = f18.sh Z x0 x1 w Q := by kernel_rfl
theorem f18.enters : ∀ f, f ∈ ([31, 32, 14, 33, 34, 35, 37, 36, 38, 39, 17, 22, 23, 40] : List Nat) → Enters Tryz.prog f := by
 intro f hf
 simp only [List.mem_cons, List.not_mem_nil, or_false] at hf
 rcases hf with rfl | rfl | rfl | rfl | rfl | rfl | rfl | rfl | rfl | rfl | rfl | rfl | rfl | rfl
 · exact en31
 · exact en32
 · exact en14
 · exact en33
 · exact en34
 · exact en35
 · exact en37
 · exact en36
 · exact en38
 · exact en39
 · exact en17
 · exact en22
 · exact en23
 · exact en40
theorem f18.calls {Z : List PanicEntry → World → Prop} {x0 x1 : Value} {w : World} {Q : Value → World → Prop} (h : f18.sh Z x0 x1 w Q) : CallV Tryz.prog Z 18 #[x0, x1] w Q :=
 calls_of_vcn drawD_sound (Q := Q) (n := 85) (rs := Tryz.f18.results) (an := f18.an) (c := f18.code) (cal := [31, 32, 14, 33, 34, 35, 37, 36, 38, 39, 17, 22, 23, 40]) (args := [x0, x1]) Tryz.func18 (by kernel_rfl) rfl f18.body_eq follows (Nat.le_of_ble_eq_true (by kernel_rfl)) (enters_of_all f18.enters) ((f18.shape Z x0 x1 w Q).mpr h)

def f19.sh (Z : List PanicEntry → World → Prop) (x0 x1 : Value) (w : World) (Q : Value → World → Prop) : Prop :=
 run1 Tryz.prog Z (Instr.box 46 x1) w fun t3_1 w =>
 run1 Tryz.prog Z (Instr.alloc 76 true (.tuple #[])) w fun t4_2 w =>
 ∀ j_3 : World → Prop, (∀ w : World, (Env →
 run1 Tryz.prog Z (Instr.build 76 #[]) w fun t82_4 w =>
 run0 Tryz.prog Z (Instr.storeAt 76 t4_2 t82_4) w fun w =>
 ∃ r_5, (do loadVar 76 (← asAddr t4_2) : Sem Value).run Tryz.prog w = .ok r_5 w ∧
 Q r_5 w) →
 j_3 w) →
 run1 Tryz.prog Z (Instr.fieldAt 46 t3_1 0) w fun t5_6 w =>
 run1 Tryz.prog Z (Instr.loadAt 3 t5_6) w fun t6_7 w =>
 run1 Tryz.prog Z (eqOp BinOp.eql 3 false true t6_7 (Value.int IntKind.i64 1)) w fun t8_8 w =>
 CondV t8_8 (
 CallV Tryz.prog Z 41 #[x0] w fun t10_9 w =>
 run1 Tryz.prog Z (Instr.build 76 #[(0, t10_9)]) w fun t11_10 w =>
 run0 Tryz.prog Z (Instr.storeAt 76 t4_2 t11_10) w fun w =>
 ∃ r_11, (do loadVar 76 (← asAddr t4_2) : Sem Value).run Tryz.prog w = .ok r_11 w ∧
 Q r_11 w) (
 run1 Tryz.prog Z (eqOp BinOp.eql 3 false true t6_7 (Value.int IntKind.i64 2)) w fun t13_12 w =>
 CondV t13_12 (
 CallV Tryz.prog Z 42 #[x0] w fun t15_13 w =>
 run1 Tryz.prog Z (convert 89 2 t15_13) w fun t16_14 w =>
 run1 Tryz.prog Z (Instr.build 76 #[(1, t16_14)]) w fun t17_15 w =>
 run0 Tryz.prog Z (Instr.storeAt 76 t4_2 t17_15) w fun w =>
 ∃ r_16, (do loadVar 76 (← asAddr t4_2) : Sem Value).run Tryz.prog w = .ok r_16 w ∧
 Q r_16 w) (
 run1 Tryz.prog Z (eqOp BinOp.eql 3 false true t6_7 (Value.int IntKind.i64 3)) w fun t19_17 w =>
 CondV t19_17 (
 CallV Tryz.prog Z 43 #[x0] w fun t21_18 w =>
 run1 Tryz.prog Z (convert 21 2 t21_18) w fun t22_19 w =>
 run1 Tryz.prog Z (Instr.build 76 #[(1, t22_19)]) w fun t23_20 w =>
 run0 Tryz.prog Z (Instr.storeAt 76 t4_2 t23_20) w fun w =>
 ∃ r_21, (do loadVar 76 (← asAddr t4_2) : Sem Value).run Tryz.prog w = .ok r_21 w ∧
 Q r_21 w) (
 run1 Tryz.prog Z (eqOp BinOp.eql 3 false true t6_7 (Value.int IntKind.i64 4)) w fun t25_22 w =>
 CondV t25_22 (
 CallV Tryz.prog Z 44 #[x0] w fun t27_23 w =>
 run1 Tryz.prog Z (convert 40 2 t27_23) w fun t28_24 w =>
 run1 Tryz.prog Z (Instr.build 76 #[(1, t28_24)]) w fun t29_25 w =>
 run0 Tryz.prog Z (Instr.storeAt 76 t4_2 t29_25) w fun w =>
 ∃ r_26, (do loadVar 76 (← asAddr t4_2) : Sem Value).run Tryz.prog w = .ok r_26 w ∧
 Q r_26 w) (
 run1 Tryz.prog Z (eqOp BinOp.eql 3 false true t6_7 (Value.int IntKind.i64 5)) w fun t31_27 w =>
 CondV t31_27 (
 CallV Tryz.prog Z 45 #[x0] w fun t33_28 w =>
 run1 Tryz.prog Z (Instr.build 76 #[(1, t33_28)]) w fun t34_29 w =>
 run0 Tryz.prog Z (Instr.storeAt 76 t4_2 t34_29) w fun w =>
 ∃ r_30, (do loadVar 76 (← asAddr t4_2) : Sem Value).run Tryz.prog w = .ok r_30 w ∧
 Q r_30 w) (
 run1 Tryz.prog Z (eqOp BinOp.eql 3 false true t6_7 (Value.int IntKind.i64 6)) w fun t36_31 w =>
 CondV t36_31 (
 CallV Tryz.prog Z 46 #[x0] w fun t38_32 w =>
 run1 Tryz.prog Z (Instr.build 76 #[(2, t38_32)]) w fun t39_33 w =>
 run0 Tryz.prog Z (Instr.storeAt 76 t4_2 t39_33) w fun w =>
 ∃ r_34, (do loadVar 76 (← asAddr t4_2) : Sem Value).run Tryz.prog w = .ok r_34 w ∧
 Q r_34 w) (
 run1 Tryz.prog Z (eqOp BinOp.eql 3 false true t6_7 (Value.int IntKind.i64 7)) w fun t41_35 w =>
 CondV t41_35 (
 run1 Tryz.prog Z (Instr.fieldAt 46 t3_1 2) w fun t43_36 w =>
 run1 Tryz.prog Z (Instr.loadAt 2 t43_36) w fun t44_37 w =>
 CallV Tryz.prog Z 37 #[t44_37] w fun t45_38 w =>
 CallV Tryz.prog Z 47 #[x0, t45_38] w fun t46_39 w =>
 run1 Tryz.prog Z (Instr.build 76 #[(3, t46_39)]) w fun t47_40 w =>
 run0 Tryz.prog Z (Instr.storeAt 76 t4_2 t47_40) w fun w =>
 ∃ r_41, (do loadVar 76 (← asAddr t4_2) : Sem Value).run Tryz.prog w = .ok r_41 w ∧
 Q r_41 w) (
 run1 Tryz.prog Z (eqOp BinOp.eql 3 false true t6_7 (Value.int IntKind.i64 8)) w fun t49_42 w =>
 CondV t49_42 (
 run1 Tryz.prog Z (Instr.fieldAt 46 t3_1 2) w fun t51_43 w =>
 run1 Tryz.prog Z (Instr.loadAt 2 t51_43) w fun t52_44 w =>
 CallV Tryz.prog Z 37 #[t52_44] w fun t53_45 w =>
 CallV Tryz.prog Z 48 #[x0, t53_45] w fun t54_46 w =>
 run1 Tryz.prog Z (Instr.build 76 #[(4, t54_46)]) w fun t55_47 w =>
 run0 Tryz.prog Z (Instr.storeAt 76 t4_2 t55_47) w fun w =>
 ∃ r_48, (do loadVar 76 (← asAddr t4_2) : Sem Value).run Tryz.prog w = .ok r_48 w ∧
 Q r_48 w) (
 run1 Tryz.prog Z (eqOp BinOp.eql 3 false true t6_7 (Value.int IntKind.i64 9)) w fun t57_49 w =>
 CondV t57_49 (
 run1 Tryz.prog Z (Instr.fieldAt 46 t3_1 2) w fun t59_50 w =>
 run1 Tryz.prog Z (Instr.loadAt 2 t59_50) w fun t60_51 w =>
 CallV Tryz.prog Z 37 #[t60_51] w fun t61_52 w =>
 CallV Tryz.prog Z 49 #[x0, t61_52] w fun t62_53 w =>
 run1 Tryz.prog Z (Instr.build 76 #[(4, t62_53)]) w fun t63_54 w =>
 run0 Tryz.prog Z (Instr.storeAt 76 t4_2 t63_54) w fun w =>
 ∃ r_55, (do loadVar 76 (← asAddr t4_2) : Sem Value).run Tryz.prog w = .ok r_55 w ∧
 Q r_55 w) (
 run1 Tryz.prog Z (eqOp BinOp.eql 3 false true t6_7 (Value.int IntKind.i64 10)) w fun t65_56 w =>
 CondV t65_56 (
 Drawn w fun w =>
 PureV Tryz.prog (nilChk x0) fun t69_57 =>
 Pure1 Tryz.prog (Instr.fieldAt 83 t69_57 2) fun t70_58 =>
 Read1 Tryz.prog (Instr.loadAt 47 t70_58) w fun t71_59 =>
 CallV Tryz.prog Z 24 #[x0] w fun t67_60 w =>
 Still Tryz.prog (nx (Instr.loadAt 47 t70_58)) t71_59 w <|
 CallV Tryz.prog Z 25 #[x0] w fun t73_61 w =>
 Still Tryz.prog (nx (Instr.loadAt 47 t70_58)) t71_59 w <|
 Pure1 Tryz.prog (Instr.build 74 #[(0, t71_59), (1, t73_61)]) fun t74_62 =>
 Pure1 Tryz.prog (Instr.build 76 #[(1, t67_60), (5, t74_62)]) fun t75_63 =>
 run0 Tryz.prog Z (Instr.storeAt 76 t4_2 t75_63) w fun w =>
 ∃ r_64, (do loadVar 76 (← asAddr t4_2) : Sem Value).run Tryz.prog w = .ok r_64 w ∧
 Q r_64 w) (
 run1 Tryz.prog Z (eqOp BinOp.eql 3 false true t6_7 (Value.int IntKind.i64 11)) w fun t77_65 w =>
 CondV t77_65 (
 run1 Tryz.prog Z (Instr.fieldAt 46 t3_1 2) w fun t79_66 w =>
 run1 Tryz.prog Z (Instr.loadAt 2 t79_66) w fun t80_67 w =>
 CallV Tryz.prog Z 50 #[x0, t80_67] w fun t81_68 w =>
 j_3 w) (
 j_3 w)))))))))))
noncomputable def f19.code : Code := match Tryz.f19.body with | some c => c | none => .skip
def f19.an : An := (.sq .leaf (.sj [] [5, 6, 7, 8, 9, 10, 11, 12, 13, 14, 15, 16, 17, 18, 19, 20, 21, 22, 23, 24, 25, 26, 27, 28, 29, 30, 31, 32, 33, 34, 35, 36, 37, 38, 39, 40, 41, 42, 43, 44, 45, 46, 47, 48, 49, 50, 51, 52, 53, 54, 55, 56, 57, 58, 59, 60, 61, 62, 63, 64, 65, 66, 67, 68, 69, 70, 71, 72, 73, 74, 75, 76, 77, 78, 79, 80, 81] (.sq .leaf (.bl (.sq .leaf (.cn (.sq .leaf .leaf) (.sq .leaf (.cn (.sq .leaf .leaf) (.sq .leaf (.cn (.sq .leaf .leaf) (.sq .leaf (.cn (.sq .leaf .leaf) (.sq .leaf (.cn (.sq .leaf .leaf) (.sq .leaf (.cn (.sq .leaf .leaf) (.sq .leaf (.cn (.sq .leaf .leaf) (.sq .leaf (.cn (.sq .leaf .leaf) (.sq .leaf (.cn (.sq .leaf .leaf) (.sq .leaf (.cn (.sq (.dr (.take 0 false (.take 2 false (.take 3 false (.take 4 false (.take 5 true (.take 6 false (.one 1 (.one 7 (.take 8 false (.take 9 false (.one 10 .fin)))))))))))) .leaf) (.sq .leaf (.cn .leaf .leaf)))))))))))))))))))))))) (.sq .leaf .leaf)))
theorem f19.body_eq : Tryz.f19.body = some f19.code := by kernel_rfl
theorem f19.shape (Z : List PanicEntry → World → Prop) (x0 x1 : Value) (w : World) (Q : Value → World → Prop) : vc drawD Tryz.prog 83 Z [41, 42, 43, 44, 45, 46, 37, 47, 48, 49, 24, 25, 50] f19.an f19.code (fnQ Tryz.prog 83 Tryz.f19.results Q) (argEnv [x0, x1]) w = f19.sh Z x0 x1 w Q := by kernel_rfl
theorem f19.enters : ∀ f, f ∈ ([41, 42, 43, 44, 45, 46, 37, 47, 48, 49, 24, 25, 50] : List Nat) → Enters Tryz.prog f := by
 intro f hf
 simp only [List.mem_cons, List.not_mem_nil, or_false] at hf
 rcases hf with rfl | rfl | rfl | rfl | rfl | rfl | rfl | rfl | rfl | rfl | rfl | rfl | rfl
 · exact en41
 · exact en42
 · exact en43
 · exact en44
 · exact en45
 · exact en46
 · exact en37
 · exact en47
 · exact en48
 · exact en49
 · exact en24
 · exact en25
 · exact en50
theorem f19.calls {Z : List PanicEntry → World → Prop} {x0 x1 : Value} {w : World} {Q : Value → World → Prop} (h : f19.sh Z x0 x1 w Q) : CallV Tryz.prog Z 19 #[x0, x1] w Q :=
 calls_of_vcn drawD_sound (Q := Q) (n := 83) (rs := Tryz.f19.results) (an := f19.an) (c := f19.code) (cal := [41, 42, 43, 44, 45, 46, 37, 47, 48, 49, 24, 25, 50]) (args := [x0, x1]) Tryz.func19 (by kernel_rfl) rfl f19.body_eq follows (Nat.le_of_ble_eq_true (by kernel_rfl)) (enters_of_all f19.enters) ((f19.shape Z x0 x1 w Q).mpr h)

def f20.sh (Z : List PanicEntry → World → Prop) (x0 x1 : Value) (w : World) (Q : Value → World → Prop) : Prop :=
 run1 Tryz.prog Z (Instr.box 76 x0) w fun t2_1 w =>
 run1 Tryz.prog Z (Instr.box 76 x1) w fun t3_2 w =>
 run1 Tryz.prog Z (Instr.fieldAt 76 t2_1 0) w fun t5_3 w =>
 run1 Tryz.prog Z (Instr.loadAt 4 t5_3) w fun t6_4 w =>
 run1 Tryz.prog Z (Instr.fieldAt 76 t3_2 0) w fun t7_5 w =>
 run1 Tryz.prog Z (Instr.loadAt 4 t7_5) w fun t8_6 w =>
 run1 Tryz.prog Z (eqOp BinOp.eql 4 false false t6_4 t8_6) w fun t9_7 w =>
 guardW (t9_7) true (fun k => run1 Tryz.prog Z (Instr.fieldAt 76 t2_1 1) w k) (fun t11_8 w =>
 guardW (t9_7) true (fun k => run1 Tryz.prog Z (Instr.loadAt 2 t11_8) w k) (fun t12_9 w =>
 guardW (t9_7) true (fun k => run1 Tryz.prog Z (Instr.fieldAt 76 t3_2 1) w k) (fun t13_10 w =>
 guardW (t9_7) true (fun k => run1 Tryz.prog Z (Instr.loadAt 2 t13_10) w k) (fun t14_11 w =>
 guardW (t9_7) true (fun k => run1 Tryz.prog Z (eqOp BinOp.eql 2 false false t12_9 t14_11) w k) (fun t15_12 w =>
 run1 Tryz.prog Z (pickV t9_7 t15_12 (Value.bool false)) w fun t16_13 w =>
 guardW (t16_13) true (fun k => run1 Tryz.prog Z (Instr.fieldAt 76 t2_1 2) w k) (fun t18_14 w =>
 guardW (t16_13) true (fun k => run1 Tryz.prog Z (Instr.loadAt 44 t18_14) w k) (fun t19_15 w =>
 guardW (t16_13) true (fun k => run1 Tryz.prog Z (Instr.fieldAt 76 t3_2 2) w k) (fun t20_16 w =>
 guardW (t16_13) true (fun k => run1 Tryz.prog Z (Instr.loadAt 44 t20_16) w k) (fun t21_17 w =>
 guardW (t16_13) true (fun k => CallV Tryz.prog Z 51 #[t19_15, t21_17] w k) (fun t22_18 w =>
 run1 Tryz.prog Z (pickV t16_13 t22_18 (Value.bool false)) w fun t23_19 w =>
 guardW (t23_19) true (fun k => run1 Tryz.prog Z (Instr.fieldAt 76 t2_1 3) w k) (fun t25_20 w =>
 guardW (t23_19) true (fun k => run1 Tryz.prog Z (Instr.loadAt 9 t25_20) w k) (fun t26_21 w =>
 guardW (t23_19) true (fun k => run1 Tryz.prog Z (Instr.fieldAt 76 t3_2 3) w k) (fun t27_22 w =>
 guardW (t23_19) true (fun k => run1 Tryz.prog Z (Instr.loadAt 9 t27_22) w k) (fun t28_23 w =>
 guardW (t23_19) true (fun k => run1 Tryz.prog Z (eqOp BinOp.eql 9 false false t26_21 t28_23) w k) (fun t29_24 w =>
 run1 Tryz.prog Z (pickV t23_19 t29_24 (Value.bool false)) w fun t30_25 w =>
 guardW (t30_25) true (fun k => run1 Tryz.prog Z (Instr.fieldAt 76 t2_1 4) w k) (fun t32_26 w =>
 guardW (t30_25) true (fun k => run1 Tryz.prog Z (Instr.loadAt 22 t32_26) w k) (fun t33_27 w =>
 guardW (t30_25) true (fun k => run1 Tryz.prog Z (Instr.fieldAt 76 t3_2 4) w k) (fun t34_28 w =>
 guardW (t30_25) true (fun k => run1 Tryz.prog Z (Instr.loadAt 22 t34_28) w k) (fun t35_29 w =>
 guardW (t30_25) true (fun k => CallV Tryz.prog Z 8 #[t33_27, t35_29] w k) (fun t36_30 w =>
 run1 Tryz.prog Z (pickV t30_25 t36_30 (Value.bool false)) w fun t37_31 w =>
 guardW (t37_31) true (fun k => run1 Tryz.prog Z (Instr.fieldAt 76 t2_1 5) w k) (fun t39_32 w =>
 guardW (t37_31) true (fun k => run1 Tryz.prog Z (Instr.loadAt 74 t39_32) w k) (fun t40_33 w =>
 guardW (t37_31) true (fun k => run1 Tryz.prog Z (Instr.fieldAt 76 t3_2 5) w k) (fun t41_34 w =>
 guardW (t37_31) true (fun k => run1 Tryz.prog Z (Instr.loadAt 74 t41_34) w k) (fun t42_35 w =>
 guardW (t37_31) true (fun k => run1 Tryz.prog Z (eqOp BinOp.eql 74 false false t40_33 t42_35) w k) (fun t43_36 w =>
 run1 Tryz.prog Z (pickV t37_31 t43_36 (Value.bool false)) w fun t44_37 w =>
 Q t44_37 w) w) w) w) w) w) w) w) w) w) w) w) w) w) w) w) w) w) w) w) w) w) w) w) w) w
noncomputable def f20.code : Code := match Tryz.f20.body with | some c => c | none => .skip
def f20.an : An := (.sq .leaf (.sq .leaf .leaf))
theorem f20.body_eq : Tryz.f20.body = some f20.code := by kernel_rfl
theorem f20.shape (Z : List PanicEntry → World → Prop) (x0 x1 : Value) (w : World) (Q : Value → World → Prop) : vc drawD Tryz.prog 45 Z [51, 8] f20.an f20.code (fnQ Tryz.prog 45 Tryz.f20.results Q) (argEnv [x0, x1]) w = f20.sh Z x0 x1 w Q := by kernel_rfl
theorem f20.enters : ∀ f, f ∈ ([51, 8] : List Nat) → Enters Tryz.prog f := by
 intro f hf
 simp only [List.mem_cons, List.not_mem_nil, or_false] at hf
 rcases hf with rfl | rfl
 · exact en51
 · exact en8
theorem f20.calls {Z : List PanicEntry → World → Prop} {x0 x1 : Value} {w : World} {Q : Value → World → Prop} (h : f20.sh Z x0 x1 w Q) : CallV Tryz.prog Z 20 #[x0, x1] w Q :=
 calls_of_vcn drawD_sound (Q := Q) (n := 45) (rs := Tryz.f20.results) (an := f20.an) (c := f20.code) (cal := [51, 8]) (args := [x0, x1]) Tryz.func20 (by kernel_rfl) rfl f20.body_eq follows (Nat.le_of_ble_eq_true (by kernel_rfl)) (enters_of_all f20.enters) ((f20.shape Z x0 x1 w Q).mpr h)

def f21.sh (Z : List PanicEntry → World → Prop) (x0 : Value) (w : World) (Q : Value → World → Prop) : Prop :=
 ∃ J_1 : Nat → Value → World → Prop, (∃ m, J_1 m (Value.int IntKind.i64 0) w) ∧
 ∀ m_1, ∀ t2_2 : Value, ∀ w : World, J_1 m_1 t2_2 w → Env →
 run1 Tryz.prog Z (Builtin.len_ #[22] 3 #[x0]) w fun t5_3 w =>
 run1 Tryz.prog Z (binOp BinOp.lss 3 t2_2 t5_3) w fun t6_4 w =>
 CondV t6_4 (
 run1 Tryz.prog Z (binOp BinOp.rem 3 t2_2 (Value.int IntKind.i64 50)) w fun t12_5 w =>
 run1 Tryz.prog Z (binOp BinOp.add 3 (Value.int IntKind.i64 200) t12_5) w fun t13_6 w =>
 run1 Tryz.prog Z (convert 3 5 t13_6) w fun t14_7 w =>
 run1 Tryz.prog Z (Instr.indexAt 22 x0 t2_2) w fun t15_8 w =>
 run0 Tryz.prog Z (Instr.storeAt 5 t15_8 t14_7) w fun w =>
 run1 Tryz.prog Z (binOp BinOp.add 3 t2_2 (Value.int IntKind.i64 1)) w fun t8_9 w =>
 ∃ n_1, n_1 < m_1 ∧ J_1 n_1 t8_9 w) (
 Q (Value.tuple #[]) w)
noncomputable def f21.code : Code := match Tryz.f21.body with | some c => c | none => .skip
def f21.an : An := (.sq .leaf (.bl (.lp [2] [2, 3, 4, 5, 6, 7, 8, 9, 10, 11, 12, 13, 14, 15] (.sq (.sq .leaf (.cn .leaf .leaf)) (.sq (.bl .leaf) .leaf)))))
theorem f21.body_eq : Tryz.f21.body = some f21.code := by kernel_rfl
theorem f21.shape (Z : List PanicEntry → World → Prop) (x0 : Value) (w : World) (Q : Value → World → Prop) : vc drawD Tryz.prog 16 Z [] f21.an f21.code (fnQ Tryz.prog 16 Tryz.f21.results Q) (argEnv [x0]) w = f21.sh Z x0 w Q := by kernel_rfl
theorem f21.enters : ∀ f, f ∈ ([] : List Nat) → Enters Tryz.prog f := by
 intro f hf
 cases hf
theorem f21.calls {Z : List PanicEntry → World → Prop} {x0 : Value} {w : World} {Q : Value → World → Prop} (h : f21.sh Z x0 w Q) : CallV Tryz.prog Z 21 #[x0] w Q :=
 calls_of_vcn drawD_sound (Q := Q) (n := 16) (rs := Tryz.f21.results) (an := f21.an) (c := f21.code) (cal := []) (args := [x0]) Tryz.func21 (by kernel_rfl) rfl f21.body_eq follows (Nat.le_of_ble_eq_true (by kernel_rfl)) (enters_of_all f21.enters) ((f21.shape Z x0 w Q).mpr h)

def f22.sh (Z : List PanicEntry → World → Prop) (x0 : Value) (w : World) (Q : Value → World → Prop) : Prop :=
 CallV Tryz.prog Z 52 #[x0] w fun t4_1 w =>
 CondV t4_1 (
 Q (Value.int IntKind.i64 1) w) (
 runX Tryz.prog Z (nilChk x0) w fun t6_2 w =>
 run1 Tryz.prog Z (Instr.fieldAt 49 t6_2 2) w fun t7_3 w =>
 run1 Tryz.prog Z (Instr.loadAt 47 t7_3) w fun t8_4 w =>
 Q t8_4 w)
noncomputable def f22.code : Code := match Tryz.f22.body with | some c => c | none => .skip
def f22.an : An := (.sq .leaf (.sq (.sq .leaf (.cn (.sq .leaf .leaf) .leaf)) (.sq .leaf .leaf)))
theorem f22.body_eq : Tryz.f22.body = some f22.code := by kernel_rfl
theorem f22.shape (Z : List PanicEntry → World → Prop) (x0 : Value) (w : World) (Q : Value → World → Prop) : vc drawD Tryz.prog 9 Z [52] f22.an f22.code (fnQ Tryz.prog 9 Tryz.f22.results Q) (argEnv [x0]) w = f22.sh Z x0 w Q := by kernel_rfl
theorem f22.enters : ∀ f, f ∈ ([52] : List Nat) → Enters Tryz.prog f := by
 intro f hf
 simp only [List.mem_cons, List.not_mem_nil, or_false] at hf
 rcases hf with rfl
 · exact en52
theorem f22.calls {Z : List PanicEntry → World → Prop} {x0 : Value} {w : World} {Q : Value → World → Prop} (h : f22.sh Z x0 w Q) : CallV Tryz.prog Z 22 #[x0] w Q :=
 calls_of_vcn drawD_sound (Q := Q) (n := 9) (rs := Tryz.f22.results) (an := f22.an) (c := f22.code) (cal := [52]) (args := [x0]) Tryz.func22 (by kernel_rfl) rfl f22.body_eq follows (Nat.le_of_ble_eq_true (by kernel_rfl)) (enters_of_all f22.enters) ((f22.shape Z x0 w Q).mpr h)

def f23.sh (Z : List PanicEntry → World → Prop) (x0 : Value) (w : World) (Q : Value → World → Prop) : Prop :=
 CallV Tryz.prog Z 53 #[x0] w fun t4_1 w =>
 guardW (t4_1) true (fun k => k (x0) w) (fun t6_2 w =>
 guardW (t4_1) true (fun k => runX Tryz.prog Z (nilChk t6_2) w k) (fun t7_3 w =>
 guardW (t4_1) true (fun k => run1 Tryz.prog Z (Instr.fieldAt 49 t7_3 1) w k) (fun t8_4 w =>
 guardW (t4_1) true (fun k => run1 Tryz.prog Z (Instr.loadAt 22 t8_4) w k) (fun t9_5 w =>
 guardW (t4_1) true (fun k => run1 Tryz.prog Z (Builtin.len_ #[22] 3 #[t9_5]) w k) (fun t10_6 w =>
 guardW (t4_1) true (fun k => run1 Tryz.prog Z (binOp BinOp.gtr 3 t10_6 (Value.int IntKind.i64 0)) w k) (fun t11_7 w =>
 run1 Tryz.prog Z (pickV t4_1 t11_7 (Value.bool false)) w fun t12_8 w =>
 CondV t12_8 (
 Q (Value.int IntKind.i64 13) w) (
 CallV Tryz.prog Z 22 #[x0] w fun t14_9 w =>
 Q t14_9 w)) w) w) w) w) w) w
noncomputable def f23.code : Code := match Tryz.f23.body with | some c => c | none => .skip
def f23.an : An := (.sq .leaf (.sq (.sq .leaf (.cn (.sq .leaf .leaf) .leaf)) (.sq .leaf .leaf)))
theorem f23.body_eq : Tryz.f23.body = some f23.code := by kernel_rfl
theorem f23.shape (Z : List PanicEntry → World → Prop) (x0 : Value) (w : World) (Q : Value → World → Prop) : vc drawD Tryz.prog 15 Z [53, 22] f23.an f23.code (fnQ Tryz.prog 15 Tryz.f23.results Q) (argEnv [x0]) w = f23.sh Z x0 w Q := by kernel_rfl
theorem f23.enters : ∀ f, f ∈ ([53, 22] : List Nat) → Enters Tryz.prog f := by
 intro f hf
 simp only [List.mem_cons, List.not_mem_nil, or_false] at hf
 rcases hf with rfl | rfl
 · exact en53
 · exact en22
theorem f23.calls {Z : List PanicEntry → World → Prop} {x0 : Value} {w : World} {Q : Value → World → Prop} (h : f23.sh Z x0 w Q) : CallV Tryz.prog Z 23 #[x0] w Q :=
 calls_of_vcn drawD_sound (Q := Q) (n := 15) (rs := Tryz.f23.results) (an := f23.an) (c := f23.code) (cal := [53, 22]) (args := [x0]) Tryz.func23 (by kernel_rfl) rfl f23.body_eq follows (Nat.le_of_ble_eq_true (by kernel_rfl)) (enters_of_all f23.enters) ((f23.shape Z x0 w Q).mpr h)

def f24.sh (Z : List PanicEntry → World → Prop) (x0 : Value) (w : World) (Q : Value → World → Prop) : Prop :=
 Drawn w fun w =>
 PureV Tryz.prog (nilChk x0) fun t4_1 =>
 Pure1 Tryz.prog (Instr.fieldAt 83 t4_1 0) fun t5_2 =>
 Read1 Tryz.prog (Instr.loadAt 22 t5_2) w fun t6_3 =>
 Pure1 Tryz.prog (Builtin.len_ #[22] 3 #[t6_3]) fun t7_4 =>
 PureV Tryz.prog (nilChk x0) fun t9_5 =>
 Pure1 Tryz.prog (Instr.fieldAt 83 t9_5 1) fun t10_6 =>
 Read1 Tryz.prog (Instr.loadAt 3 t10_6) w fun t11_7 =>
 Pure1 Tryz.prog (binOp BinOp.sub 3 t7_4 t11_7) fun t12_8 =>
 Q t12_8 w
noncomputable def f24.code : Code := match Tryz.f24.body with | some c => c | none => .skip
def f24.an : An := (.sq .leaf (.sq (.dr (.take 0 false (.take 1 false (.take 2 false (.take 3 true (.take 4 false (.take 5 false (.take 6 false (.take 7 false (.take 8 true (.take 9 false (.take 10 false .fin)))))))))))) .leaf))
theorem f24.body_eq : Tryz.f24.body = some f24.code := by kernel_rfl
theorem f24.shape (Z : List PanicEntry → World → Prop) (x0 : Value) (w : World) (Q : Value → World → Prop) : vc drawD Tryz.prog 13 Z [] f24.an f24.code (fnQ Tryz.prog 13 Tryz.f24.results Q) (argEnv [x0]) w = f24.sh Z x0 w Q := by kernel_rfl
theorem f24.enters : ∀ f, f ∈ ([] : List Nat) → Enters Tryz.prog f := by
 intro f hf
 cases hf
theorem f24.calls {Z : List PanicEntry → World → Prop} {x0 : Value} {w : World} {Q : Value → World → Prop} (h : f24.sh Z x0 w Q) : CallV Tryz.prog Z 24 #[x0] w Q :=
 calls_of_vcn drawD_sound (Q := Q) (n := 13) (rs := Tryz.f24.results) (an := f24.an) (c := f24.code) (cal := []) (args := [x0]) Tryz.func24 (by kernel_rfl) rfl f24.body_eq follows (Nat.le_of_ble_eq_true (by kernel_rfl)) (enters_of_all f24.enters) ((f24.shape Z x0 w Q).mpr h)

def f25.sh (Z : List PanicEntry → World → Prop) (x0 : Value) (w : World) (Q : Value → World → Prop) : Prop :=
 Drawn w fun w =>
 PureV Tryz.prog (nilChk x0) fun t4_1 =>
 Pure1 Tryz.prog (Instr.fieldAt 83 t4_1 2) fun t5_2 =>
 Read1 Tryz.prog (Instr.loadAt 47 t5_2) w fun t6_3 =>
 Pure1 Tryz.prog (eqOp BinOp.eql 47 false true t6_3 (Value.int IntKind.i64 0)) fun t7_4 =>
 guardV (t7_4) true (fun k => k (x0)) (fun t9_5 =>
 guardV (t7_4) true (fun k => PureV Tryz.prog (nilChk t9_5) k) (fun t10_6 =>
 guardV (t7_4) true (fun k => Pure1 Tryz.prog (Instr.fieldAt 83 t10_6 1) k) (fun t11_7 =>
 guardV (t7_4) true (fun k => Read1 Tryz.prog (Instr.loadAt 3 t11_7) w k) (fun t12_8 =>
 guardV (t7_4) true (fun k => k (x0)) (fun t13_9 =>
 guardV (t7_4) true (fun k => PureV Tryz.prog (nilChk t13_9) k) (fun t14_10 =>
 guardV (t7_4) true (fun k => Pure1 Tryz.prog (Instr.fieldAt 83 t14_10 0) k) (fun t15_11 =>
 guardV (t7_4) true (fun k => Read1 Tryz.prog (Instr.loadAt 22 t15_11) w k) (fun t16_12 =>
 guardV (t7_4) true (fun k => Pure1 Tryz.prog (Builtin.len_ #[22] 3 #[t16_12]) k) (fun t17_13 =>
 guardV (t7_4) true (fun k => Pure1 Tryz.prog (binOp BinOp.lss 3 t12_8 t17_13) k) (fun t18_14 =>
 Pure1 Tryz.prog (pickV t7_4 t18_14 (Value.bool false)) fun t19_15 =>
 CondV t19_15 (
 Q (Value.int IntKind.i64 13) w) (
 runX Tryz.prog Z (nilChk x0) w fun t21_16 w =>
 run1 Tryz.prog Z (Instr.fieldAt 83 t21_16 2) w fun t22_17 w =>
 run1 Tryz.prog Z (Instr.loadAt 47 t22_17) w fun t23_18 w =>
 Q t23_18 w)))))))))))
noncomputable def f25.code : Code := match Tryz.f25.body with | some c => c | none => .skip
def f25.an : An := (.sq .leaf (.sq (.sq (.dr (.take 0 false (.take 1 false (.take 2 false (.take 3 true (.take 4 false (.take 5 false (.take 6 false (.take 7 false (.take 8 false (.take 9 true (.take 10 false (.take 11 false (.take 12 false (.take 13 true (.take 14 false (.take 15 false (.take 16 false .fin)))))))))))))))))) (.cn (.sq .leaf .leaf) .leaf)) (.sq .leaf .leaf)))
theorem f25.body_eq : Tryz.f25.body = some f25.code := by kernel_rfl
theorem f25.shape (Z : List PanicEntry → World → Prop) (x0 : Value) (w : World) (Q : Value → World → Prop) : vc drawD Tryz.prog 24 Z [] f25.an f25.code (fnQ Tryz.prog 24 Tryz.f25.results Q) (argEnv [x0]) w = f25.sh Z x0 w Q := by kernel_rfl
theorem f25.enters : ∀ f, f ∈ ([] : List Nat) → Enters Tryz.prog f := by
 intro f hf
 cases hf
theorem f25.calls {Z : List PanicEntry → World → Prop} {x0 : Value} {w : World} {Q : Value → World → Prop} (h : f25.sh Z x0 w Q) : CallV Tryz.prog Z 25 #[x0] w Q :=
 calls_of_vcn drawD_sound (Q := Q) (n := 24) (rs := Tryz.f25.results) (an := f25.an) (c := f25.code) (cal := []) (args := [x0]) Tryz.func25 (by kernel_rfl) rfl f25.body_eq follows (Nat.le_of_ble_eq_true (by kernel_rfl)) (enters_of_all f25.enters) ((f25.shape Z x0 w Q).mpr h)

def f26.sh (Z : List PanicEntry → World → Prop) (x0 x1 : Value) (w : World) (Q : Value → World → Prop) : Prop :=
 ∀ j_1 : World → Prop, (∀ w : World, (Env →
 ∃ J_2 : Nat → Value → World → Prop, (∃ m, J_2 m (Value.int IntKind.i64 0) w) ∧
 ∀ m_2, ∀ t4_3 : Value, ∀ w : World, J_2 m_2 t4_3 w → Env →
 run1 Tryz.prog Z (Builtin.len_ #[51] 3 #[x1]) w fun t23_4 w =>
 run1 Tryz.prog Z (binOp BinOp.lss 3 t4_3 t23_4) w fun t24_5 w =>
 guardW (t24_5) true (fun k => k (t4_3) w) (fun t26_6 w =>
 guardW (t24_5) true (fun k => run1 Tryz.prog Z (binOp BinOp.lss 3 t26_6 (Value.int IntKind.i64 600)) w k) (fun t27_7 w =>
 run1 Tryz.prog Z (pickV t24_5 t27_7 (Value.bool false)) w fun t28_8 w =>
 CondV t28_8 (
 run1 Tryz.prog Z (Instr.indexAt 51 x1 t4_3) w fun t34_9 w =>
 run1 Tryz.prog Z (Instr.loadAt 22 t34_9) w fun t35_10 w =>
 CallV Tryz.prog Z 54 #[x0, t35_10] w fun t36_11 w =>
 run1 Tryz.prog Z (binOp BinOp.add 3 t4_3 (Value.int IntKind.i64 1)) w fun t30_12 w =>
 ∃ n_2, n_2 < m_2 ∧ J_2 n_2 t30_12 w) (
 Q (Value.tuple #[]) w)) w) w) →
 j_1 w) →
 runX Tryz.prog Z (nilChk x0) w fun t6_13 w =>
 run1 Tryz.prog Z (Instr.fieldAt 73 t6_13 3) w fun t7_14 w =>
 run1 Tryz.prog Z (Instr.loadAt 54 t7_14) w fun t8_15 w =>
 run1 Tryz.prog Z (Builtin.len_ #[54] 3 #[t8_15]) w fun t9_16 w =>
 run1 Tryz.prog Z (binOp BinOp.lss 3 t9_16 (Value.int IntKind.i64 600)) w fun t10_17 w =>
 CondV t10_17 (
 runX Tryz.prog Z (nilChk x0) w fun t13_18 w =>
 run1 Tryz.prog Z (Instr.fieldAt 73 t13_18 3) w fun t14_19 w =>
 run1 Tryz.prog Z (Instr.loadAt 54 t14_19) w fun t15_20 w =>
 run1 Tryz.prog Z (Instr.buildSlice 54 1 #[(0, x1)]) w fun t17_21 w =>
 run1 Tryz.prog Z (Builtin.append_ #[54, 54] 54 #[t15_20, t17_21]) w fun t18_22 w =>
 runX Tryz.prog Z (nilChk x0) w fun t19_23 w =>
 run1 Tryz.prog Z (Instr.fieldAt 73 t19_23 3) w fun t20_24 w =>
 run0 Tryz.prog Z (Instr.storeAt 54 t20_24 t18_22) w fun w =>
 j_1 w) (
 j_1 w)
noncomputable def f26.code : Code := match Tryz.f26.body with | some c => c | none => .skip
def f26.an : An := (.sj [] [5, 6, 7, 8, 9, 10, 11, 12, 13, 14, 15, 16, 17, 18, 19, 20] (.sq .leaf (.cn .leaf .leaf)) (.sq .leaf (.bl (.lp [4] [4, 21, 22, 23, 24, 25, 26, 27, 28, 29, 30, 31, 32, 33, 34, 35, 36] (.sq (.sq .leaf (.cn .leaf .leaf)) (.sq (.bl .leaf) .leaf))))))
theorem f26.body_eq : Tryz.f26.body = some f26.code := by kernel_rfl
theorem f26.shape (Z : List PanicEntry → World → Prop) (x0 x1 : Value) (w : World) (Q : Value → World → Prop) : vc drawD Tryz.prog 37 Z [54] f26.an f26.code (fnQ Tryz.prog 37 Tryz.f26.results Q) (argEnv [x0, x1]) w = f26.sh Z x0 x1 w Q := by kernel_rfl
theorem f26.enters : ∀ f, f ∈ ([54] : List Nat) → Enters Tryz.prog f := by
 intro f hf
 simp only [List.mem_cons, List.not_mem_nil, or_false] at hf
 rcases hf with rfl
 · exact en54
theorem f26.calls {Z : List PanicEntry → World → Prop} {x0 x1 : Value} {w : World} {Q : Value → World → Prop} (h : f26.sh Z x0 x1 w Q) : CallV Tryz.prog Z 26 #[x0, x1] w Q :=
 calls_of_vcn drawD_sound (Q := Q) (n := 37) (rs := Tryz.f26.results) (an := f26.an) (c := f26.code) (cal := [54]) (args := [x0, x1]) Tryz.func26 (by kernel_rfl) rfl f26.body_eq follows (Nat.le_of_ble_eq_true (by kernel_rfl)) (enters_of_all f26.enters) ((f26.shape Z x0 x1 w Q).mpr h)

def f27.sh (Z : List PanicEntry → World → Prop) (x0 : Value) (w : World) (Q : Value → World → Prop) : Prop :=
 runX Tryz.prog Z (nilChk x0) w fun t25_1 w =>
 run1 Tryz.prog Z (Instr.fieldAt 73 t25_1 0) w fun t26_2 w =>
 run1 Tryz.prog Z (Instr.loadAt 51 t26_2) w fun t27_3 w =>
 CallV Tryz.prog Z 55 #[t27_3] w fun t28_4 w =>
 runX Tryz.prog Z (nilChk x0) w fun t30_5 w =>
 run1 Tryz.prog Z (Instr.fieldAt 73 t30_5 1) w fun t31_6 w =>
 run1 Tryz.prog Z (Instr.loadAt 52 t31_6) w fun t32_7 w =>
 CallV Tryz.prog Z 56 #[t32_7] w fun t33_8 w =>
 runX Tryz.prog Z (nilChk x0) w fun t35_9 w =>
 run1 Tryz.prog Z (Instr.fieldAt 73 t35_9 2) w fun t36_10 w =>
 run1 Tryz.prog Z (Instr.loadAt 53 t36_10) w fun t37_11 w =>
 CallV Tryz.prog Z 57 #[t37_11] w fun t38_12 w =>
 runX Tryz.prog Z (nilChk x0) w fun t40_13 w =>
 run1 Tryz.prog Z (Instr.fieldAt 73 t40_13 3) w fun t41_14 w =>
 run1 Tryz.prog Z (Instr.loadAt 54 t41_14) w fun t42_15 w =>
 CallV Tryz.prog Z 58 #[t42_15] w fun t43_16 w =>
 runX Tryz.prog Z (nilChk x0) w fun t45_17 w =>
 run1 Tryz.prog Z (Instr.fieldAt 73 t45_17 4) w fun t46_18 w =>
 run1 Tryz.prog Z (Instr.loadAt 55 t46_18) w fun t47_19 w =>
 CallV Tryz.prog Z 59 #[t47_19] w fun t48_20 w =>
 runX Tryz.prog Z (nilChk x0) w fun t50_21 w =>
 run1 Tryz.prog Z (Instr.fieldAt 73 t50_21 5) w fun t51_22 w =>
 run1 Tryz.prog Z (Instr.loadAt 56 t51_22) w fun t52_23 w =>
 CallV Tryz.prog Z 60 #[t52_23] w fun t53_24 w =>
 runX Tryz.prog Z (nilChk x0) w fun t55_25 w =>
 run1 Tryz.prog Z (Instr.fieldAt 73 t55_25 6) w fun t56_26 w =>
 run1 Tryz.prog Z (Instr.loadAt 57 t56_26) w fun t57_27 w =>
 CallV Tryz.prog Z 61 #[t57_27] w fun t58_28 w =>
 runX Tryz.prog Z (nilChk x0) w fun t60_29 w =>
 run1 Tryz.prog Z (Instr.fieldAt 73 t60_29 7) w fun t61_30 w =>
 run1 Tryz.prog Z (Instr.loadAt 58 t61_30) w fun t62_31 w =>
 CallV Tryz.prog Z 62 #[t62_31] w fun t63_32 w =>
 runX Tryz.prog Z (nilChk x0) w fun t65_33 w =>
 run1 Tryz.prog Z (Instr.fieldAt 73 t65_33 8) w fun t66_34 w =>
 run1 Tryz.prog Z (Instr.loadAt 59 t66_34) w fun t67_35 w =>
 CallV Tryz.prog Z 63 #[t67_35] w fun t68_36 w =>
 runX Tryz.prog Z (nilChk x0) w fun t70_37 w =>
 run1 Tryz.prog Z (Instr.fieldAt 73 t70_37 9) w fun t71_38 w =>
 run1 Tryz.prog Z (Instr.loadAt 60 t71_38) w fun t72_39 w =>
 CallV Tryz.prog Z 64 #[t72_39] w fun t73_40 w =>
 runX Tryz.prog Z (nilChk x0) w fun t75_41 w =>
 run1 Tryz.prog Z (Instr.fieldAt 73 t75_41 10) w fun t76_42 w =>
 run1 Tryz.prog Z (Instr.loadAt 61 t76_42) w fun t77_43 w =>
 CallV Tryz.prog Z 65 #[t77_43] w fun t78_44 w =>
 runX Tryz.prog Z (nilChk x0) w fun t80_45 w =>
 run1 Tryz.prog Z (Instr.fieldAt 73 t80_45 11) w fun t81_46 w =>
 run1 Tryz.prog Z (Instr.loadAt 62 t81_46) w fun t82_47 w =>
 CallV Tryz.prog Z 66 #[t82_47] w fun t83_48 w =>
 runX Tryz.prog Z (nilChk x0) w fun t85_49 w =>
 run1 Tryz.prog Z (Instr.fieldAt 73 t85_49 12) w fun t86_50 w =>
 run1 Tryz.prog Z (Instr.loadAt 63 t86_50) w fun t87_51 w =>
 CallV Tryz.prog Z 67 #[t87_51] w fun t88_52 w =>
 runX Tryz.prog Z (nilChk x0) w fun t90_53 w =>
 run1 Tryz.prog Z (Instr.fieldAt 73 t90_53 13) w fun t91_54 w =>
 run1 Tryz.prog Z (Instr.loadAt 64 t91_54) w fun t92_55 w =>
 CallV Tryz.prog Z 68 #[t92_55] w fun t93_56 w =>
 runX Tryz.prog Z (nilChk x0) w fun t95_57 w =>
 run1 Tryz.prog Z (Instr.fieldAt 73 t95_57 14) w fun t96_58 w =>
 run1 Tryz.prog Z (Instr.loadAt 65 t96_58) w fun t97_59 w =>
 CallV Tryz.prog Z 69 #[t97_59] w fun t98_60 w =>
 runX Tryz.prog Z (nilChk x0) w fun t100_61 w =>
 run1 Tryz.prog Z (Instr.fieldAt 73 t100_61 15) w fun t101_62 w =>
 run1 Tryz.prog Z (Instr.loadAt 66 t101_62) w fun t102_63 w =>
 CallV Tryz.prog Z 70 #[t102_63] w fun t103_64 w =>
 runX Tryz.prog Z (nilChk x0) w fun t105_65 w =>
 run1 Tryz.prog Z (Instr.fieldAt 73 t105_65 16) w fun t106_66 w =>
 run1 Tryz.prog Z (Instr.loadAt 67 t106_66) w fun t107_67 w =>
 CallV Tryz.prog Z 71 #[t107_67] w fun t108_68 w =>
 runX Tryz.prog Z (nilChk x0) w fun t110_69 w =>
 run1 Tryz.prog Z (Instr.fieldAt 73 t110_69 17) w fun t111_70 w =>
 run1 Tryz.prog Z (Instr.loadAt 68 t111_70) w fun t112_71 w =>
 CallV Tryz.prog Z 72 #[t112_71] w fun t113_72 w =>
 runX Tryz.prog Z (nilChk x0) w fun t115_73 w =>
 run1 Tryz.prog Z (Instr.fieldAt 73 t115_73 18) w fun t116_74 w =>
 run1 Tryz.prog Z (Instr.loadAt 69 t116_74) w fun t117_75 w =>
 CallV Tryz.prog Z 73 #[t117_75] w fun t118_76 w =>
 runX Tryz.prog Z (nilChk x0) w fun t120_77 w =>
 run1 Tryz.prog Z (Instr.fieldAt 73 t120_77 19) w fun t121_78 w =>
 run1 Tryz.prog Z (Instr.loadAt 70 t121_78) w fun t122_79 w =>
 CallV Tryz.prog Z 74 #[t122_79] w fun t123_80 w =>
 runX Tryz.prog Z (nilChk x0) w fun t125_81 w =>
 run1 Tryz.prog Z (Instr.fieldAt 73 t125_81 20) w fun t126_82 w =>
 run1 Tryz.prog Z (Instr.loadAt 71 t126_82) w fun t127_83 w =>
 CallV Tryz.prog Z 75 #[t127_83] w fun t128_84 w =>
 guardW (t28_4) true (fun k => k (t33_8) w) (fun t131_85 w =>
 run1 Tryz.prog Z (pickV t28_4 t131_85 (Value.bool false)) w fun t132_86 w =>
 guardW (t132_86) true (fun k => k (t38_12) w) (fun t134_87 w =>
 run1 Tryz.prog Z (pickV t132_86 t134_87 (Value.bool false)) w fun t135_88 w =>
 guardW (t135_88) true (fun k => k (t43_16) w) (fun t137_89 w =>
 run1 Tryz.prog Z (pickV t135_88 t137_89 (Value.bool false)) w fun t138_90 w =>
 guardW (t138_90) true (fun k => k (t48_20) w) (fun t140_91 w =>
 run1 Tryz.prog Z (pickV t138_90 t140_91 (Value.bool false)) w fun t141_92 w =>
 guardW (t141_92) true (fun k => k (t53_24) w) (fun t143_93 w =>
 run1 Tryz.prog Z (pickV t141_92 t143_93 (Value.bool false)) w fun t144_94 w =>
 guardW (t144_94) true (fun k => k (t58_28) w) (fun t146_95 w =>
 run1 Tryz.prog Z (pickV t144_94 t146_95 (Value.bool false)) w fun t147_96 w =>
 guardW (t147_96) true (fun k => k (t63_32) w) (fun t149_97 w =>
 run1 Tryz.prog Z (pickV t147_96 t149_97 (Value.bool false)) w fun t150_98 w =>
 guardW (t150_98) true (fun k => k (t68_36) w) (fun t152_99 w =>
 run1 Tryz.prog Z (pickV t150_98 t152_99 (Value.bool false)) w fun t153_100 w =>
 guardW (t153_100) true (fun k => k (t73_40) w) (fun t155_101 w =>
 run1 Tryz.prog Z (pickV t153_100 t155_101 (Value.bool false)) w fun t156_102 w =>
 guardW (t156_102) true (fun k => k (t78_44) w) (fun t158_103 w =>
 run1 Tryz.prog Z (pickV t156_102 t158_103 (Value.bool false)) w fun t159_104 w =>
 guardW (t159_104) true (fun k => k (t83_48) w) (fun t161_105 w =>
 run1 Tryz.prog Z (pickV t159_104 t161_105 (Value.bool false)) w fun t162_106 w =>
 guardW (t162_106) true (fun k => k (t88_52) w) (fun t164_107 w =>
 run1 Tryz.prog Z (pickV t162_106 t164_107 (Value.bool false)) w fun t165_108 w =>
 guardW (t165_108) true (fun k => k (t93_56) w) (fun t167_109 w =>
 run1 Tryz.prog Z (pickV t165_108 t167_109 (Value.bool false)) w fun t168_110 w =>
 guardW (t168_110) true (fun k => k (t98_60) w) (fun t170_111 w =>
 run1 Tryz.prog Z (pickV t168_110 t170_111 (Value.bool false)) w fun t171_112 w =>
 guardW (t171_112) true (fun k => k (t103_64) w) (fun t173_113 w =>
 run1 Tryz.prog Z (pickV t171_112 t173_113 (Value.bool false)) w fun t174_114 w =>
 guardW (t174_114) true (fun k => k (t108_68) w) (fun t176_115 w =>
 run1 Tryz.prog Z (pickV t174_114 t176_115 (Value.bool false)) w fun t177_116 w =>
 guardW (t177_116) true (fun k => k (t113_72) w) (fun t179_117 w =>
 run1 Tryz.prog Z (pickV t177_116 t179_117 (Value.bool false)) w fun t180_118 w =>
 guardW (t180_118) true (fun k => k (t118_76) w) (fun t182_119 w =>
 run1 Tryz.prog Z (pickV t180_118 t182_119 (Value.bool false)) w fun t183_120 w =>
 guardW (t183_120) true (fun k => k (t123_80) w) (fun t185_121 w =>
 run1 Tryz.prog Z (pickV t183_120 t185_121 (Value.bool false)) w fun t186_122 w =>
 guardW (t186_122) true (fun k => k (t128_84) w) (fun t188_123 w =>
 run1 Tryz.prog Z (pickV t186_122 t188_123 (Value.bool false)) w fun t189_124 w =>
 Q t189_124 w) w) w) w) w) w) w) w) w) w) w) w) w) w) w) w) w) w) w) w) w
noncomputable def f27.code : Code := match Tryz.f27.body with | some c => c | none => .skip
def f27.an : An := (.sq .leaf (.sq .leaf (.sq .leaf (.sq .leaf (.sq .leaf (.sq .leaf (.sq .leaf (.sq .leaf (.sq .leaf (.sq .leaf (.sq .leaf (.sq .leaf (.sq .leaf (.sq .leaf (.sq .leaf (.sq .leaf (.sq .leaf (.sq .leaf (.sq .leaf (.sq .leaf (.sq .leaf (.sq .leaf (.sq .leaf .leaf)))))))))))))))))))))))
theorem f27.body_eq : Tryz.f27.body = some f27.code := by kernel_rfl
theorem f27.shape (Z : List PanicEntry → World → Prop) (x0 : Value) (w : World) (Q : Value → World → Prop) : vc drawD Tryz.prog 190 Z [55, 56, 57, 58, 59, 60, 61, 62, 63, 64, 65, 66, 67, 68, 69, 70, 71, 72, 73, 74, 75] f27.an f27.code (fnQ Tryz.prog 190 Tryz.f27.results Q) (argEnv [x0]) w = f27.sh Z x0 w Q := by kernel_rfl
theorem f27.enters : ∀ f, f ∈ ([55, 56, 57, 58, 59, 60, 61, 62, 63, 64, 65, 66, 67, 68, 69, 70, 71, 72, 73, 74, 75] : List Nat) → Enters Tryz.prog f := by
 intro f hf
 simp only [List.mem_cons, List.not_mem_nil, or_false] at hf
 rcases hf with rfl | rfl | rfl | rfl | rfl | rfl | rfl | rfl | rfl | rfl | rfl | rfl | rfl | rfl | rfl | rfl | rfl | rfl | rfl | rfl | rfl
 · exact en55
 · exact en56
 · exact en57
 · exact en58
 · exact en59
 · exact en60
 · exact en61
 · exact en62
 · exact en63
 · exact en64
 · exact en65
 · exact en66
 · exact en67
 · exact en68
 · exact en69
 · exact en70
 · exact en71
 · exact en72
 · exact en73
 · exact en74
 · exact en75
theorem f27.calls {Z : List PanicEntry → World → Prop} {x0 : Value} {w : World} {Q : Value → World → Prop} (h : f27.sh Z x0 w Q) : CallV Tryz.prog Z 27 #[x0] w Q :=
 calls_of_vcn drawD_sound (Q := Q) (n := 190) (rs := Tryz.f27.results) (an := f27.an) (c := f27.code) (cal := [55, 56, 57, 58, 59, 60, 61, 62, 63, 64, 65, 66, 67, 68, 69, 70, 71, 72, 73, 74, 75]) (args := [x0]) Tryz.func27 (by kernel_rfl) rfl f27.body_eq follows (Nat.le_of_ble_eq_true (by kernel_rfl)) (enters_of_all f27.enters) ((f27.shape Z x0 w Q).mpr h)

def f28.sh (Z : List PanicEntry → World → Prop) (x0 x1 x2 : Value) (w : World) (Q : Value → World → Prop) : Prop :=
 run1 Tryz.prog Z (eqOp BinOp.eql 35 false true x0 (Value.pointer none)) w fun t8_1 w =>
 CondV t8_1 (
 Q (Value.tuple #[]) w) (
 run1 Tryz.prog Z (binOp BinOp.sub 3 x2 (Value.int IntKind.i64 1)) w fun t10_2 w =>
 ∃ J_3 : Nat → Value → World → Prop, (∃ m, J_3 m t10_2 w) ∧
 ∀ m_3, ∀ t6_4 : Value, ∀ w : World, J_3 m_3 t6_4 w → Env →
 run1 Tryz.prog Z (binOp BinOp.geq 3 t6_4 (Value.int IntKind.i64 0)) w fun t12_5 w =>
 CondV t12_5 (
 Drawn w fun w =>
 PureV Tryz.prog (nilChk x0) fun t17_6 =>
 Pure1 Tryz.prog (Instr.fieldAt 37 t17_6 0) fun t18_7 =>
 Read1 Tryz.prog (Instr.loadAt 22 t18_7) w fun t19_8 =>
 Pure1 Tryz.prog (binOp BinOp.mul 3 (Value.int IntKind.i64 8) t6_4) fun t22_9 =>
 Pure1 Tryz.prog (binOp BinOp.shr 86 x1 t22_9) fun t23_10 =>
 Pure1 Tryz.prog (convert 86 5 t23_10) fun t24_11 =>
 run1 Tryz.prog Z (Instr.buildSlice 22 1 #[(0, t24_11)]) w fun t25_12 w =>
 Still Tryz.prog (nx (Instr.loadAt 22 t18_7)) t19_8 w <|
 run1 Tryz.prog Z (Builtin.append_ #[22, 22] 22 #[t19_8, t25_12]) w fun t26_13 w =>
 PureV Tryz.prog (nilChk x0) fun t27_14 =>
 Pure1 Tryz.prog (Instr.fieldAt 37 t27_14 0) fun t28_15 =>
 run0 Tryz.prog Z (Instr.storeAt 22 t28_15 t26_13) w fun w =>
 run1 Tryz.prog Z (binOp BinOp.sub 3 t6_4 (Value.int IntKind.i64 1)) w fun t14_16 w =>
 ∃ n_3, n_3 < m_3 ∧ J_3 n_3 t14_16 w) (
 Q (Value.tuple #[]) w))
noncomputable def f28.code : Code := match Tryz.f28.body with | some c => c | none => .skip
def f28.an : An := (.sq (.sq .leaf (.cn .leaf .leaf)) (.sq .leaf (.bl (.lp [6] [6, 11, 12, 13, 14, 15, 16, 17, 18, 19, 20, 21, 22, 23, 24, 25, 26, 27, 28] (.sq (.sq .leaf (.cn .leaf .leaf)) (.sq (.bl (.dr (.take 0 false (.take 1 false (.take 2 false (.take 3 false (.take 4 true (.take 5 false (.take 6 false (.take 7 false (.take 8 false (.take 9 false (.one 10 (.one 11 (.take 12 false (.take 13 false (.one 14 .fin))))))))))))))))) .leaf))))))
theorem f28.body_eq : Tryz.f28.body = some f28.code := by kernel_rfl
theorem f28.shape (Z : List PanicEntry → World → Prop) (x0 x1 x2 : Value) (w : World) (Q : Value → World → Prop) : vc drawD Tryz.prog 29 Z [] f28.an f28.code (fnQ Tryz.prog 29 Tryz.f28.results Q) (argEnv [x0, x1, x2]) w = f28.sh Z x0 x1 x2 w Q := by kernel_rfl
theorem f28.enters : ∀ f, f ∈ ([] : List Nat) → Enters Tryz.prog f := by
 intro f hf
 cases hf
theorem f28.calls {Z : List PanicEntry → World → Prop} {x0 x1 x2 : Value} {w : World} {Q : Value → World → Prop} (h : f28.sh Z x0 x1 x2 w Q) : CallV Tryz.prog Z 28 #[x0, x1, x2] w Q :=
 calls_of_vcn drawD_sound (Q := Q) (n := 29) (rs := Tryz.f28.results) (an := f28.an) (c := f28.code) (cal := []) (args := [x0, x1, x2]) Tryz.func28 (by kernel_rfl) rfl f28.body_eq follows (Nat.le_of_ble_eq_true (by kernel_rfl)) (enters_of_all f28.enters) ((f28.shape Z x0 x1 x2 w Q).mpr h)

def f29.sh (Z : List PanicEntry → World → Prop) (x0 x1 : Value) (w : World) (Q : Value → World → Prop) : Prop :=
 CallV Tryz.prog Z 76 #[x0, x1] w fun t13_1 w =>
 run1 Tryz.prog Z (Instr.extract t13_1 0) w fun t14_2 w =>
 run1 Tryz.prog Z (Instr.extract t13_1 1) w fun t15_3 w =>
 run1 Tryz.prog Z (Op.unary UnOp.not t15_3) w fun t17_4 w =>
 CondV t17_4 (
 Q (Value.int IntKind.u64 0) w) (
 run1 Tryz.prog Z (Builtin.len_ #[22] 3 #[t14_2]) w fun t19_5 w =>
 ∃ J_6 : Nat → Value → Value → World → Prop, (∃ m, J_6 m (Value.int IntKind.u64 0) (Value.int IntKind.i64 0) w) ∧
 ∀ m_6, ∀ t7_7 : Value, ∀ t20_8 : Value, ∀ w : World, J_6 m_6 t7_7 t20_8 w → Env →
 run1 Tryz.prog Z (binOp BinOp.lss 3 t20_8 t19_5) w fun t21_9 w =>
 CondV t21_9 (
 run1 Tryz.prog Z (Instr.indexAt 22 t14_2 t20_8) w fun t22_10 w =>
 run1 Tryz.prog Z (Instr.loadAt 5 t22_10) w fun t23_11 w =>
 run1 Tryz.prog Z (binOp BinOp.shl 86 t7_7 (Value.int IntKind.u64 8)) w fun t25_12 w =>
 run1 Tryz.prog Z (convert 5 86 t23_11) w fun t27_13 w =>
 run1 Tryz.prog Z (binOp BinOp.or 86 t25_12 t27_13) w fun t28_14 w =>
 run1 Tryz.prog Z (binOp BinOp.add 3 t20_8 (Value.int IntKind.i64 1)) w fun t29_15 w =>
 ∃ n_6, n_6 < m_6 ∧ J_6 n_6 t28_14 t29_15 w) (
 runX Tryz.prog Z (nilChk x0) w fun t32_16 w =>
 run1 Tryz.prog Z (Instr.fieldAt 49 t32_16 1) w fun t33_17 w =>
 run1 Tryz.prog Z (Instr.loadAt 22 t33_17) w fun t34_18 w =>
 run1 Tryz.prog Z (Instr.sliceAt 22 t34_18 (some x1) none none) w fun t36_19 w =>
 runX Tryz.prog Z (nilChk x0) w fun t37_20 w =>
 run1 Tryz.prog Z (Instr.fieldAt 49 t37_20 1) w fun t38_21 w =>
 run0 Tryz.prog Z (Instr.storeAt 22 t38_21 t36_19) w fun w =>
 Q t7_7 w))
noncomputable def f29.code : Code := match Tryz.f29.body with | some c => c | none => .skip
def f29.an : An := (.sq .leaf (.sq .leaf (.sq (.sq .leaf (.cn (.sq .leaf .leaf) .leaf)) (.sq .leaf (.sq (.sq .leaf (.bl (.lp [7, 20] [7, 9, 20, 21, 22, 23, 24, 25, 26, 27, 28, 29] (.sq .leaf (.sq (.cn .leaf .leaf) (.sq (.bl (.sq .leaf .leaf)) .leaf)))))) (.sq .leaf (.sq .leaf .leaf)))))))
theorem f29.body_eq : Tryz.f29.body = some f29.code := by kernel_rfl
theorem f29.shape (Z : List PanicEntry → World → Prop) (x0 x1 : Value) (w : World) (Q : Value → World → Prop) : vc drawD Tryz.prog 40 Z [76] f29.an f29.code (fnQ Tryz.prog 40 Tryz.f29.results Q) (argEnv [x0, x1]) w = f29.sh Z x0 x1 w Q := by kernel_rfl
theorem f29.enters : ∀ f, f ∈ ([76] : List Nat) → Enters Tryz.prog f := by
 intro f hf
 simp only [List.mem_cons, List.not_mem_nil, or_false] at hf
 rcases hf with rfl
 · exact en76
theorem f29.calls {Z : List PanicEntry → World → Prop} {x0 x1 : Value} {w : World} {Q : Value → World → Prop} (h : f29.sh Z x0 x1 w Q) : CallV Tryz.prog Z 29 #[x0, x1] w Q :=
 calls_of_vcn drawD_sound (Q := Q) (n := 40) (rs := Tryz.f29.results) (an := f29.an) (c := f29.code) (cal := [76]) (args := [x0, x1]) Tryz.func29 (by kernel_rfl) rfl f29.body_eq follows (Nat.le_of_ble_eq_true (by kernel_rfl)) (enters_of_all f29.enters) ((f29.shape Z x0 x1 w Q).mpr h)

def f30.sh (Z : List PanicEntry → World → Prop) (x0 : Value) (w : World) (Q : Value → World → Prop) : Prop :=
 CallV Tryz.prog Z 52 #[x0] w fun t4_1 w =>
 CondV t4_1 (
 Q (Value.slice none 0 0) w) (
 runX Tryz.prog Z (nilChk x0) w fun t6_2 w =>
 run1 Tryz.prog Z (Instr.fieldAt 49 t6_2 1) w fun t7_3 w =>
 run1 Tryz.prog Z (Instr.loadAt 22 t7_3) w fun t8_4 w =>
 Q t8_4 w)
noncomputable def f30.code : Code := match Tryz.f30.body with | some c => c | none => .skip
def f30.an : An := (.sq .leaf (.sq (.sq .leaf (.cn (.sq .leaf .leaf) .leaf)) (.sq .leaf .leaf)))
theorem f30.body_eq : Tryz.f30.body = some f30.code := by kernel_rfl
theorem f30.shape (Z : List PanicEntry → World → Prop) (x0 : Value) (w : World) (Q : Value → World → Prop) : vc drawD Tryz.prog 9 Z [52] f30.an f30.code (fnQ Tryz.prog 9 Tryz.f30.results Q) (argEnv [x0]) w = f30.sh Z x0 w Q := by kernel_rfl
theorem f30.enters : ∀ f, f ∈ ([52] : List Nat) → Enters Tryz.prog f := by
 intro f hf
 simp only [List.mem_cons, List.not_mem_nil, or_false] at hf
 rcases hf with rfl
 · exact en52
theorem f30.calls {Z : List PanicEntry → World → Prop} {x0 : Value} {w : World} {Q : Value → World → Prop} (h : f30.sh Z x0 w Q) : CallV Tryz.prog Z 30 #[x0] w Q :=
 calls_of_vcn drawD_sound (Q := Q) (n := 9) (rs := Tryz.f30.results) (an := f30.an) (c := f30.code) (cal := [52]) (args := [x0]) Tryz.func30 (by kernel_rfl) rfl f30.body_eq follows (Nat.le_of_ble_eq_true (by kernel_rfl)) (enters_of_all f30.enters) ((f30.shape Z x0 w Q).mpr h)

def f31.sh (Z : List PanicEntry → World → Prop) (x0 : Value) (w : World) (Q : Value → World → Prop) : Prop :=
 CallV Tryz.prog Z 76 #[x0, (Value.int IntKind.i64 1)] w fun t7_1 w =>
 run1 Tryz.prog Z (Instr.extract t7_1 0) w fun t8_2 w =>
 run1 Tryz.prog Z (Instr.extract t7_1 1) w fun t9_3 w =>
 run1 Tryz.prog Z (Op.unary UnOp.not t9_3) w fun t11_4 w =>
 CondV t11_4 (
 Q (Value.bool false) w) (
 run1 Tryz.prog Z (Instr.indexAt 22 t8_2 (Value.int IntKind.i64 0)) w fun t13_5 w =>
 run1 Tryz.prog Z (Instr.loadAt 5 t13_5) w fun t14_6 w =>
 run1 Tryz.prog Z (binOp BinOp.gtr 5 t14_6 (Value.int IntKind.u8 1)) w fun t15_7 w =>
 CondV t15_7 (
 runX Tryz.prog Z (nilChk x0) w fun t17_8 w =>
 run1 Tryz.prog Z (Instr.fieldAt 49 t17_8 2) w fun t18_9 w =>
 run0 Tryz.prog Z (Instr.storeAt 47 t18_9 (Value.int IntKind.i64 12)) w fun w =>
 Q (Value.bool false) w) (
 runX Tryz.prog Z (nilChk x0) w fun t21_10 w =>
 run1 Tryz.prog Z (Instr.fieldAt 49 t21_10 1) w fun t22_11 w =>
 run1 Tryz.prog Z (Instr.loadAt 22 t22_11) w fun t23_12 w =>
 run1 Tryz.prog Z (Instr.sliceAt 22 t23_12 (some (Value.int IntKind.i64 1)) none none) w fun t24_13 w =>
 runX Tryz.prog Z (nilChk x0) w fun t25_14 w =>
 run1 Tryz.prog Z (Instr.fieldAt 49 t25_14 1) w fun t26_15 w =>
 run0 Tryz.prog Z (Instr.storeAt 22 t26_15 t24_13) w fun w =>
 run1 Tryz.prog Z (Instr.indexAt 22 t8_2 (Value.int IntKind.i64 0)) w fun t28_16 w =>
 run1 Tryz.prog Z (Instr.loadAt 5 t28_16) w fun t29_17 w =>
 run1 Tryz.prog Z (eqOp BinOp.eql 5 false true t29_17 (Value.int IntKind.u8 1)) w fun t30_18 w =>
 Q t30_18 w))
noncomputable def f31.code : Code := match Tryz.f31.body with | some c => c | none => .skip
def f31.an : An := (.sq .leaf (.sq .leaf (.sq (.sq .leaf (.cn (.sq .leaf .leaf) .leaf)) (.sq (.sq .leaf (.cn (.sq .leaf (.sq .leaf .leaf)) .leaf)) (.sq .leaf (.sq .leaf .leaf))))))
theorem f31.body_eq : Tryz.f31.body = some f31.code := by kernel_rfl
theorem f31.shape (Z : List PanicEntry → World → Prop) (x0 : Value) (w : World) (Q : Value → World → Prop) : vc drawD Tryz.prog 31 Z [76] f31.an f31.code (fnQ Tryz.prog 31 Tryz.f31.results Q) (argEnv [x0]) w = f31.sh Z x0 w Q := by kernel_rfl
theorem f31.enters : ∀ f, f ∈ ([76] : List Nat) → Enters Tryz.prog f := by
 intro f hf
 simp only [List.mem_cons, List.not_mem_nil, or_false] at hf
 rcases hf with rfl
 · exact en76
theorem f31.calls {Z : List PanicEntry → World → Prop} {x0 : Value} {w : World} {Q : Value → World → Prop} (h : f31.sh Z x0 w Q) : CallV Tryz.prog Z 31 #[x0] w Q :=
 calls_of_vcn drawD_sound (Q := Q) (n := 31) (rs := Tryz.f31.results) (an := f31.an) (c := f31.code) (cal := [76]) (args := [x0]) Tryz.func31 (by kernel_rfl) rfl f31.body_eq follows (Nat.le_of_ble_eq_true (by kernel_rfl)) (enters_of_all f31.enters) ((f31.shape Z x0 w Q).mpr h)

def f32.sh (Z : List PanicEntry → World → Prop) (x0 : Value) (w : World) (Q : Value → World → Prop) : Prop :=
 CallV Tryz.prog Z 29 #[x0, (Value.int IntKind.i64 1)] w fun t4_1 w =>
 run1 Tryz.prog Z (convert 86 89 t4_1) w fun t5_2 w =>
 Q t5_2 w
noncomputable def f32.code : Code := match Tryz.f32.body with | some c => c | none => .skip
def f32.an : An := (.sq .leaf (.sq .leaf .leaf))
theorem f32.body_eq : Tryz.f32.body = some f32.code := by kernel_rfl
theorem f32.shape (Z : List PanicEntry → World → Prop) (x0 : Value) (w : World) (Q : Value → World → Prop) : vc drawD Tryz.prog 6 Z [29] f32.an f32.code (fnQ Tryz.prog 6 Tryz.f32.results Q) (argEnv [x0]) w = f32.sh Z x0 w Q := by kernel_rfl
theorem f32.enters : ∀ f, f ∈ ([29] : List Nat) → Enters Tryz.prog f := by
 intro f hf
 simp only [List.mem_cons, List.not_mem_nil, or_false] at hf
 rcases hf with rfl
 · exact en29
theorem f32.calls {Z : List PanicEntry → World → Prop} {x0 : Value} {w : World} {Q : Value → World → Prop} (h : f32.sh Z x0 w Q) : CallV Tryz.prog Z 32 #[x0] w Q :=
 calls_of_vcn drawD_sound (Q := Q) (n := 6) (rs := Tryz.f32.results) (an := f32.an) (c := f32.code) (cal := [29]) (args := [x0]) Tryz.func32 (by kernel_rfl) rfl f32.body_eq follows (Nat.le_of_ble_eq_true (by kernel_rfl)) (enters_of_all f32.enters) ((f32.shape Z x0 w Q).mpr h)

def f33.sh (Z : List PanicEntry → World → Prop) (x0 : Value) (w : World) (Q : Value → World → Prop) : Prop :=
 CallV Tryz.prog Z 29 #[x0, (Value.int IntKind.i64 4)] w fun t4_1 w =>
 run1 Tryz.prog Z (convert 86 40 t4_1) w fun t5_2 w =>
 Q t5_2 w
noncomputable def f33.code : Code := match Tryz.f33.body with | some c => c | none => .skip
def f33.an : An := (.sq .leaf (.sq .leaf .leaf))
theorem f33.body_eq : Tryz.f33.body = some f33.code := by kernel_rfl
theorem f33.shape (Z : List PanicEntry → World → Prop) (x0 : Value) (w : World) (Q : Value → World → Prop) : vc drawD Tryz.prog 6 Z [29] f33.an f33.code (fnQ Tryz.prog 6 Tryz.f33.results Q) (argEnv [x0]) w = f33.sh Z x0 w Q := by kernel_rfl
theorem f33.enters : ∀ f, f ∈ ([29] : List Nat) → Enters Tryz.prog f := by
 intro f hf
 simp only [List.mem_cons, List.not_mem_nil, or_false] at hf
 rcases hf with rfl
 · exact en29
theorem f33.calls {Z : List PanicEntry → World → Prop} {x0 : Value} {w : World} {Q : Value → World → Prop} (h : f33.sh Z x0 w Q) : CallV Tryz.prog Z 33 #[x0] w Q :=
 calls_of_vcn drawD_sound (Q := Q) (n := 6) (rs := Tryz.f33.results) (an := f33.an) (c := f33.code) (cal := [29]) (args := [x0]) Tryz.func33 (by kernel_rfl) rfl f33.body_eq follows (Nat.le_of_ble_eq_true (by kernel_rfl)) (enters_of_all f33.enters) ((f33.shape Z x0 w Q).mpr h)

def f34.sh (Z : List PanicEntry → World → Prop) (x0 : Value) (w : World) (Q : Value → World → Prop) : Prop :=
 CallV Tryz.prog Z 29 #[x0, (Value.int IntKind.i64 8)] w fun t4_1 w =>
 run1 Tryz.prog Z (convert 86 2 t4_1) w fun t5_2 w =>
 Q t5_2 w
noncomputable def f34.code : Code := match Tryz.f34.body with | some c => c | none => .skip
def f34.an : An := (.sq .leaf (.sq .leaf .leaf))
theorem f34.body_eq : Tryz.f34.body = some f34.code := by kernel_rfl
theorem f34.shape (Z : List PanicEntry → World → Prop) (x0 : Value) (w : World) (Q : Value → World → Prop) : vc drawD Tryz.prog 6 Z [29] f34.an f34.code (fnQ Tryz.prog 6 Tryz.f34.results Q) (argEnv [x0]) w = f34.sh Z x0 w Q := by kernel_rfl
theorem f34.enters : ∀ f, f ∈ ([29] : List Nat) → Enters Tryz.prog f := by
 intro f hf
 simp only [List.mem_cons, List.not_mem_nil, or_false] at hf
 rcases hf with rfl
 · exact en29
theorem f34.calls {Z : List PanicEntry → World → Prop} {x0 : Value} {w : World} {Q : Value → World → Prop} (h : f34.sh Z x0 w Q) : CallV Tryz.prog Z 34 #[x0] w Q :=
 calls_of_vcn drawD_sound (Q := Q) (n := 6) (rs := Tryz.f34.results) (an := f34.an) (c := f34.code) (cal := [29]) (args := [x0]) Tryz.func34 (by kernel_rfl) rfl f34.body_eq follows (Nat.le_of_ble_eq_true (by kernel_rfl)) (enters_of_all f34.enters) ((f34.shape Z x0 w Q).mpr h)

def f35.sh (Z : List PanicEntry → World → Prop) (x0 : Value) (w : World) (Q : Value → World → Prop) : Prop :=
 CallV Tryz.prog Z 30 #[x0] w fun t7_1 w =>
 CallV Tryz.prog Z 29 #[x0, (Value.int IntKind.i64 8)] w fun t9_2 w =>
 runX Tryz.prog Z (callFunc 77 #[t9_2]) w fun t11_3 w =>
 run1 Tryz.prog Z (eqOp BinOp.neq 44 false false t11_3 t11_3) w fun t14_4 w =>
 guardW (t14_4) true (fun k => k (t9_2) w) (fun t16_5 w =>
 guardW (t14_4) true (fun k => run1 Tryz.prog Z (eqOp BinOp.neq 86 false true t16_5 (Value.int IntKind.u64 9221120237041090560)) w k) (fun t17_6 w =>
 run1 Tryz.prog Z (pickV t14_4 t17_6 (Value.bool false)) w fun t18_7 w =>
 CondV t18_7 (
 CallV Tryz.prog Z 78 #[x0, t7_1, (Value.int IntKind.i64 12)] w fun t21_8 w =>
 Q (Value.float FloatKind.f64 0) w) (
 Q t11_3 w)) w) w
noncomputable def f35.code : Code := match Tryz.f35.body with | some c => c | none => .skip
def f35.an : An := (.sq .leaf (.sq .leaf (.sq .leaf (.sq .leaf (.sq (.sq .leaf (.cn (.sq .leaf (.sq .leaf .leaf)) .leaf)) (.sq .leaf .leaf))))))
theorem f35.body_eq : Tryz.f35.body = some f35.code := by kernel_rfl
theorem f35.shape (Z : List PanicEntry → World → Prop) (x0 : Value) (w : World) (Q : Value → World → Prop) : vc drawD Tryz.prog 23 Z [30, 29, 78] f35.an f35.code (fnQ Tryz.prog 23 Tryz.f35.results Q) (argEnv [x0]) w = f35.sh Z x0 w Q := by kernel_rfl
theorem f35.enters : ∀ f, f ∈ ([30, 29, 78] : List Nat) → Enters Tryz.prog f := by
 intro f hf
 simp only [List.mem_cons, List.not_mem_nil, or_false] at hf
 rcases hf with rfl | rfl | rfl
 · exact en30
 · exact en29
 · exact en78
theorem f35.calls {Z : List PanicEntry → World → Prop} {x0 : Value} {w : World} {Q : Value → World → Prop} (h : f35.sh Z x0 w Q) : CallV Tryz.prog Z 35 #[x0] w Q :=
 calls_of_vcn drawD_sound (Q := Q) (n := 23) (rs := Tryz.f35.results) (an := f35.an) (c := f35.code) (cal := [30, 29, 78]) (args := [x0]) Tryz.func35 (by kernel_rfl) rfl f35.body_eq follows (Nat.le_of_ble_eq_true (by kernel_rfl)) (enters_of_all f35.enters) ((f35.shape Z x0 w Q).mpr h)

def f36.sh (Z : List PanicEntry → World → Prop) (x0 x1 : Value) (w : World) (Q : Value → World → Prop) : Prop :=
 CallV Tryz.prog Z 79 #[x0, x1] w fun t7_1 w =>
 run1 Tryz.prog Z (convert 22 9 t7_1) w fun t8_2 w =>
 Q t8_2 w
noncomputable def f36.code : Code := match Tryz.f36.body with | some c => c | none => .skip
def f36.an : An := (.sq .leaf (.sq .leaf .leaf))
theorem f36.body_eq : Tryz.f36.body = some f36.code := by kernel_rfl
theorem f36.shape (Z : List PanicEntry → World → Prop) (x0 x1 : Value) (w : World) (Q : Value → World → Prop) : vc drawD Tryz.prog 9 Z [79] f36.an f36.code (fnQ Tryz.prog 9 Tryz.f36.results Q) (argEnv [x0, x1]) w = f36.sh Z x0 x1 w Q := by kernel_rfl
theorem f36.enters : ∀ f, f ∈ ([79] : List Nat) → Enters Tryz.prog f := by
 intro f hf
 simp only [List.mem_cons, List.not_mem_nil, or_false] at hf
 rcases hf with rfl
 · exact en79
theorem f36.calls {Z : List PanicEntry → World → Prop} {x0 x1 : Value} {w : World} {Q : Value → World → Prop} (h : f36.sh Z x0 x1 w Q) : CallV Tryz.prog Z 36 #[x0, x1] w Q :=
 calls_of_vcn drawD_sound (Q := Q) (n := 9) (rs := Tryz.f36.results) (an := f36.an) (c := f36.code) (cal := [79]) (args := [x0, x1]) Tryz.func36 (by kernel_rfl) rfl f36.body_eq follows (Nat.le_of_ble_eq_true (by kernel_rfl)) (enters_of_all f36.enters) ((f36.shape Z x0 x1 w Q).mpr h)

def f37.sh (Z : List PanicEntry → World → Prop) (x0 : Value) (w : World) (Q : Value → World → Prop) : Prop :=
 Q x0 w
noncomputable def f37.code : Code := match Tryz.f37.body with | some c => c | none => .skip
def f37.an : An := (.sq .leaf (.sq .leaf .leaf))
theorem f37.body_eq : Tryz.f37.body = some f37.code := by kernel_rfl
theorem f37.shape (Z : List PanicEntry → World → Prop) (x0 : Value) (w : World) (Q : Value → World → Prop) : vc drawD Tryz.prog 4 Z [] f37.an f37.code (fnQ Tryz.prog 4 Tryz.f37.results Q) (argEnv [x0]) w = f37.sh Z x0 w Q := by kernel_rfl
theorem f37.enters : ∀ f, f ∈ ([] : List Nat) → Enters Tryz.prog f := by
 intro f hf
 cases hf
theorem f37.calls {Z : List PanicEntry → World → Prop} {x0 : Value} {w : World} {Q : Value → World → Prop} (h : f37.sh Z x0 w Q) : CallV Tryz.prog Z 37 #[x0] w Q :=
 calls_of_vcn drawD_sound (Q := Q) (n := 4) (rs := Tryz.f37.results) (an := f37.an) (c := f37.code) (cal := []) (args := [x0]) Tryz.func37 (by kernel_rfl) rfl f37.body_eq follows (Nat.le_of_ble_eq_true (by kernel_rfl)) (enters_of_all f37.enters) ((f37.shape Z x0 w Q).mpr h)

def f38.sh (Z : List PanicEntry → World → Prop) (x0 x1 : Value) (w : World) (Q : Value → World → Prop) : Prop :=
 CallV Tryz.prog Z 79 #[x0, x1] w fun t7_1 w =>
 run1 Tryz.prog Z (Builtin.append_ #[22, 22] 22 #[(Value.slice none 0 0), t7_1]) w fun t8_2 w =>
 Q t8_2 w
noncomputable def f38.code : Code := match Tryz.f38.body with | some c => c | none => .skip
def f38.an : An := (.sq .leaf (.sq .leaf .leaf))
theorem f38.body_eq : Tryz.f38.body = some f38.code := by kernel_rfl
theorem f38.shape (Z : List PanicEntry → World → Prop) (x0 x1 : Value) (w : World) (Q : Value → World → Prop) : vc drawD Tryz.prog 9 Z [79] f38.an f38.code (fnQ Tryz.prog 9 Tryz.f38.results Q) (argEnv [x0, x1]) w = f38.sh Z x0 x1 w Q := by kernel_rfl
theorem f38.enters : ∀ f, f ∈ ([79] : List Nat) → Enters Tryz.prog f := by
 intro f hf
 simp only [List.mem_cons, List.not_mem_nil, or_false] at hf
 rcases hf with rfl
 · exact en79
theorem f38.calls {Z : List PanicEntry → World → Prop} {x0 x1 : Value} {w : World} {Q : Value → World → Prop} (h : f38.sh Z x0 x1 w Q) : CallV Tryz.prog Z 38 #[x0, x1] w Q :=
 calls_of_vcn drawD_sound (Q := Q) (n := 9) (rs := Tryz.f38.results) (an := f38.an) (c := f38.code) (cal := [79]) (args := [x0, x1]) Tryz.func38 (by kernel_rfl) rfl f38.body_eq follows (Nat.le_of_ble_eq_true (by kernel_rfl)) (enters_of_all f38.enters) ((f38.shape Z x0 x1 w Q).mpr h)

def f39.sh (Z : List PanicEntry → World → Prop) (x0 x1 : Value) (w : World) (Q : Value → World → Prop) : Prop :=
 CallV Tryz.prog Z 53 #[x0] w fun t8_1 w =>
 guardW (t8_1) true (fun k => k (x1) w) (fun t10_2 w =>
 guardW (t8_1) true (fun k => run1 Tryz.prog Z (binOp BinOp.lss 3 t10_2 (Value.int IntKind.i64 0)) w k) (fun t11_3 w =>
 run1 Tryz.prog Z (pickV t8_1 t11_3 (Value.bool false)) w fun t12_4 w =>
 CondV t12_4 (
 runX Tryz.prog Z (nilChk x0) w fun t14_5 w =>
 run1 Tryz.prog Z (Instr.fieldAt 49 t14_5 2) w fun t15_6 w =>
 run0 Tryz.prog Z (Instr.storeAt 47 t15_6 (Value.int IntKind.i64 11)) w fun w =>
 Q (Value.slice none 0 0) w) (
 CallV Tryz.prog Z 76 #[x0, x1] w fun t19_7 w =>
 run1 Tryz.prog Z (Instr.extract t19_7 0) w fun t20_8 w =>
 run1 Tryz.prog Z (Instr.extract t19_7 1) w fun t21_9 w =>
 run1 Tryz.prog Z (Op.unary UnOp.not t21_9) w fun t23_10 w =>
 CondV t23_10 (
 Q (Value.slice none 0 0) w) (
 runX Tryz.prog Z (nilChk x0) w fun t26_11 w =>
 run1 Tryz.prog Z (Instr.fieldAt 49 t26_11 1) w fun t27_12 w =>
 run1 Tryz.prog Z (Instr.loadAt 22 t27_12) w fun t28_13 w =>
 run1 Tryz.prog Z (Instr.sliceAt 22 t28_13 (some x1) none none) w fun t30_14 w =>
 runX Tryz.prog Z (nilChk x0) w fun t31_15 w =>
 run1 Tryz.prog Z (Instr.fieldAt 49 t31_15 1) w fun t32_16 w =>
 run0 Tryz.prog Z (Instr.storeAt 22 t32_16 t30_14) w fun w =>
 run1 Tryz.prog Z (Builtin.append_ #[22, 22] 22 #[(Value.slice none 0 0), t20_8]) w fun t34_17 w =>
 Q t34_17 w))) w) w
noncomputable def f39.code : Code := match Tryz.f39.body with | some c => c | none => .skip
def f39.an : An := (.sq .leaf (.sq (.sq .leaf (.cn (.sq .leaf (.sq .leaf .leaf)) .leaf)) (.sq .leaf (.sq (.sq .leaf (.cn (.sq .leaf .leaf) .leaf)) (.sq .leaf (.sq .leaf .leaf))))))
theorem f39.body_eq : Tryz.f39.body = some f39.code := by kernel_rfl
theorem f39.shape (Z : List PanicEntry → World → Prop) (x0 x1 : Value) (w : World) (Q : Value → World → Prop) : vc drawD Tryz.prog 35 Z [53, 76] f39.an f39.code (fnQ Tryz.prog 35 Tryz.f39.results Q) (argEnv [x0, x1]) w = f39.sh Z x0 x1 w Q := by kernel_rfl
theorem f39.enters : ∀ f, f ∈ ([53, 76] : List Nat) → Enters Tryz.prog f := by
 intro f hf
 simp only [List.mem_cons, List.not_mem_nil, or_false] at hf
 rcases hf with rfl | rfl
 · exact en53
 · exact en76
theorem f39.calls {Z : List PanicEntry → World → Prop} {x0 x1 : Value} {w : World} {Q : Value → World → Prop} (h : f39.sh Z x0 x1 w Q) : CallV Tryz.prog Z 39 #[x0, x1] w Q :=
 calls_of_vcn drawD_sound (Q := Q) (n := 35) (rs := Tryz.f39.results) (an := f39.an) (c := f39.code) (cal := [53, 76]) (args := [x0, x1]) Tryz.func39 (by kernel_rfl) rfl f39.body_eq follows (Nat.le_of_ble_eq_true (by kernel_rfl)) (enters_of_all f39.enters) ((f39.shape Z x0 x1 w Q).mpr h)

def f40.sh (Z : List PanicEntry → World → Prop) (x0 x1 : Value) (w : World) (Q : Value → World → Prop) : Prop :=
 CallV Tryz.prog Z 53 #[x0] w fun t5_1 w =>
 CondV t5_1 (
 runX Tryz.prog Z (nilChk x0) w fun t8_2 w =>
 run1 Tryz.prog Z (Instr.fieldAt 49 t8_2 2) w fun t9_3 w =>
 run0 Tryz.prog Z (Instr.storeAt 47 t9_3 x1) w fun w =>
 Q (Value.tuple #[]) w) (
 Q (Value.tuple #[]) w)
noncomputable def f40.code : Code := match Tryz.f40.body with | some c => c | none => .skip
def f40.an : An := (.sq .leaf (.cn .leaf .leaf))
theorem f40.body_eq : Tryz.f40.body = some f40.code := by kernel_rfl
theorem f40.shape (Z : List PanicEntry → World → Prop) (x0 x1 : Value) (w : World) (Q : Value → World → Prop) : vc drawD Tryz.prog 10 Z [53] f40.an f40.code (fnQ Tryz.prog 10 Tryz.f40.results Q) (argEnv [x0, x1]) w = f40.sh Z x0 x1 w Q := by kernel_rfl
theorem f40.enters : ∀ f, f ∈ ([53] : List Nat) → Enters Tryz.prog f := by
 intro f hf
 simp only [List.mem_cons, List.not_mem_nil, or_false] at hf
 rcases hf with rfl
 · exact en53
theorem f40.calls {Z : List PanicEntry → World → Prop} {x0 x1 : Value} {w : World} {Q : Value → World → Prop} (h : f40.sh Z x0 x1 w Q) : CallV Tryz.prog Z 40 #[x0, x1] w Q :=
 calls_of_vcn drawD_sound (Q := Q) (n := 10) (rs := Tryz.f40.results) (an := f40.an) (c := f40.code) (cal := [53]) (args := [x0, x1]) Tryz.func40 (by kernel_rfl) rfl f40.body_eq follows (Nat.le_of_ble_eq_true (by kernel_rfl)) (enters_of_all f40.enters) ((f40.shape Z x0 x1 w Q).mpr h)

def f41.sh (Z : List PanicEntry → World → Prop) (x0 : Value) (w : World) (Q : Value → World → Prop) : Prop :=
 runX Tryz.prog Z (nilChk x0) w fun t7_1 w =>
 run1 Tryz.prog Z (Instr.fieldAt 83 t7_1 1) w fun t8_2 w =>
 run1 Tryz.prog Z (Instr.loadAt 3 t8_2) w fun t9_3 w =>
 CallV Tryz.prog Z 80 #[x0, (Value.int IntKind.i64 1)] w fun t12_4 w =>
 run1 Tryz.prog Z (Instr.extract t12_4 0) w fun t13_5 w =>
 run1 Tryz.prog Z (Instr.extract t12_4 1) w fun t14_6 w =>
 guardW (t14_6) true (fun k => k (t13_5) w) (fun t17_7 w =>
 guardW (t14_6) true (fun k => run1 Tryz.prog Z (binOp BinOp.gtr 86 t17_7 (Value.int IntKind.u64 1)) w k) (fun t18_8 w =>
 run1 Tryz.prog Z (pickV t14_6 t18_8 (Value.bool false)) w fun t19_9 w =>
 CondV t19_9 (
 CallV Tryz.prog Z 81 #[x0, t9_3, (Value.int IntKind.i64 12)] w fun t22_10 w =>
 Q (Value.bool false) w) (
 run1 Tryz.prog Z (eqOp BinOp.eql 86 false true t13_5 (Value.int IntKind.u64 1)) w fun t24_11 w =>
 Q t24_11 w)) w) w
noncomputable def f41.code : Code := match Tryz.f41.body with | some c => c | none => .skip
def f41.an : An := (.sq .leaf (.sq .leaf (.sq .leaf (.sq (.sq .leaf (.cn (.sq .leaf (.sq .leaf .leaf)) .leaf)) (.sq .leaf .leaf)))))
theorem f41.body_eq : Tryz.f41.body = some f41.code := by kernel_rfl
theorem f41.shape (Z : List PanicEntry → World → Prop) (x0 : Value) (w : World) (Q : Value → World → Prop) : vc drawD Tryz.prog 25 Z [80, 81] f41.an f41.code (fnQ Tryz.prog 25 Tryz.f41.results Q) (argEnv [x0]) w = f41.sh Z x0 w Q := by kernel_rfl
theorem f41.enters : ∀ f, f ∈ ([80, 81] : List Nat) → Enters Tryz.prog f := by
 intro f hf
 simp only [List.mem_cons, List.not_mem_nil, or_false] at hf
 rcases hf with rfl | rfl
 · exact en80
 · exact en81
theorem f41.calls {Z : List PanicEntry → World → Prop} {x0 : Value} {w : World} {Q : Value → World → Prop} (h : f41.sh Z x0 w Q) : CallV Tryz.prog Z 41 #[x0] w Q :=
 calls_of_vcn drawD_sound (Q := Q) (n := 25) (rs := Tryz.f41.results) (an := f41.an) (c := f41.code) (cal := [80, 81]) (args := [x0]) Tryz.func41 (by kernel_rfl) rfl f41.body_eq follows (Nat.le_of_ble_eq_true (by kernel_rfl)) (enters_of_all f41.enters) ((f41.shape Z x0 w Q).mpr h)

def f42.sh (Z : List PanicEntry → World → Prop) (x0 : Value) (w : World) (Q : Value → World → Prop) : Prop :=
 CallV Tryz.prog Z 80 #[x0, (Value.int IntKind.i64 1)] w fun t8_1 w =>
 run1 Tryz.prog Z (Instr.extract t8_1 0) w fun t9_2 w =>
 run1 Tryz.prog Z (Instr.extract t8_1 1) w fun t10_3 w =>
 run1 Tryz.prog Z (convert 86 3 t9_2) w fun t12_4 w =>
 ∀ j_5 : Value → World → Prop, (∀ t5_6 : Value, ∀ w : World, (Env →
 run1 Tryz.prog Z (convert 3 89 t5_6) w fun t18_7 w =>
 Q t18_7 w) →
 j_5 t5_6 w) →
 run1 Tryz.prog Z (binOp BinOp.gtr 3 t12_4 (Value.int IntKind.i64 127)) w fun t14_8 w =>
 CondV t14_8 (
 run1 Tryz.prog Z (binOp BinOp.sub 3 t12_4 (Value.int IntKind.i64 256)) w fun t16_9 w =>
 j_5 t16_9 w) (
 j_5 t12_4 w)
noncomputable def f42.code : Code := match Tryz.f42.body with | some c => c | none => .skip
def f42.an : An := (.sq .leaf (.sq .leaf (.sq .leaf (.sj [5] [5, 13, 14, 15, 16] (.sq .leaf (.cn .leaf .leaf)) (.sq .leaf .leaf)))))
theorem f42.body_eq : Tryz.f42.body = some f42.code := by kernel_rfl
theorem f42.shape (Z : List PanicEntry → World → Prop) (x0 : Value) (w : World) (Q : Value → World → Prop) : vc drawD Tryz.prog 19 Z [80] f42.an f42.code (fnQ Tryz.prog 19 Tryz.f42.results Q) (argEnv [x0]) w = f42.sh Z x0 w Q := by kernel_rfl
theorem f42.enters : ∀ f, f ∈ ([80] : List Nat) → Enters Tryz.prog f := by
 intro f hf
 simp only [List.mem_cons, List.not_mem_nil, or_false] at hf
 rcases hf with rfl
 · exact en80
theorem f42.calls {Z : List PanicEntry → World → Prop} {x0 : Value} {w : World} {Q : Value → World → Prop} (h : f42.sh Z x0 w Q) : CallV Tryz.prog Z 42 #[x0] w Q :=
 calls_of_vcn drawD_sound (Q := Q) (n := 19) (rs := Tryz.f42.results) (an := f42.an) (c := f42.code) (cal := [80]) (args := [x0]) Tryz.func42 (by kernel_rfl) rfl f42.body_eq follows (Nat.le_of_ble_eq_true (by kernel_rfl)) (enters_of_all f42.enters) ((f42.shape Z x0 w Q).mpr h)

def f43.sh (Z : List PanicEntry → World → Prop) (x0 : Value) (w : World) (Q : Value → World → Prop) : Prop :=
 CallV Tryz.prog Z 80 #[x0, (Value.int IntKind.i64 4)] w fun t8_1 w =>
 run1 Tryz.prog Z (Instr.extract t8_1 0) w fun t9_2 w =>
 run1 Tryz.prog Z (Instr.extract t8_1 1) w fun t10_3 w =>
 run1 Tryz.prog Z (convert 86 2 t9_2) w fun t12_4 w =>
 ∀ j_5 : Value → World → Prop, (∀ t5_6 : Value, ∀ w : World, (Env →
 run1 Tryz.prog Z (convert 2 21 t5_6) w fun t18_7 w =>
 Q t18_7 w) →
 j_5 t5_6 w) →
 run1 Tryz.prog Z (binOp BinOp.gtr 2 t12_4 (Value.int IntKind.i64 2147483647)) w fun t14_8 w =>
 CondV t14_8 (
 run1 Tryz.prog Z (binOp BinOp.sub 2 t12_4 (Value.int IntKind.i64 4294967296)) w fun t16_9 w =>
 j_5 t16_9 w) (
 j_5 t12_4 w)
noncomputable def f43.code : Code := match Tryz.f43.body with | some c => c | none => .skip
def f43.an : An := (.sq .leaf (.sq .leaf (.sq .leaf (.sj [5] [5, 13, 14, 15, 16] (.sq .leaf (.cn .leaf .leaf)) (.sq .leaf .leaf)))))
theorem f43.body_eq : Tryz.f43.body = some f43.code := by kernel_rfl
theorem f43.shape (Z : List PanicEntry → World → Prop) (x0 : Value) (w : World) (Q : Value → World → Prop) : vc drawD Tryz.prog 19 Z [80] f43.an f43.code (fnQ Tryz.prog 19 Tryz.f43.results Q) (argEnv [x0]) w = f43.sh Z x0 w Q := by kernel_rfl
theorem f43.enters : ∀ f, f ∈ ([80] : List Nat) → Enters Tryz.prog f := by
 intro f hf
 simp only [List.mem_cons, List.not_mem_nil, or_false] at hf
 rcases hf with rfl
 · exact en80
theorem f43.calls {Z : List PanicEntry → World → Prop} {x0 : Value} {w : World} {Q : Value → World → Prop} (h : f43.sh Z x0 w Q) : CallV Tryz.prog Z 43 #[x0] w Q :=
 calls_of_vcn drawD_sound (Q := Q) (n := 19) (rs := Tryz.f43.results) (an := f43.an) (c := f43.code) (cal := [80]) (args := [x0]) Tryz.func43 (by kernel_rfl) rfl f43.body_eq follows (Nat.le_of_ble_eq_true (by kernel_rfl)) (enters_of_all f43.enters) ((f43.shape Z x0 w Q).mpr h)

def f44.sh (Z : List PanicEntry → World → Prop) (x0 : Value) (w : World) (Q : Value → World → Prop) : Prop :=
 CallV Tryz.prog Z 80 #[x0, (Value.int IntKind.i64 4)] w fun t7_1 w =>
 run1 Tryz.prog Z (Instr.extract t7_1 0) w fun t8_2 w =>
 run1 Tryz.prog Z (Instr.extract t7_1 1) w fun t9_3 w =>
 run1 Tryz.prog Z (convert 86 40 t8_2) w fun t11_4 w =>
 Q t11_4 w
noncomputable def f44.code : Code := match Tryz.f44.body with | some c => c | none => .skip
def f44.an : An := (.sq .leaf (.sq .leaf (.sq .leaf .leaf)))
theorem f44.body_eq : Tryz.f44.body = some f44.code := by kernel_rfl
theorem f44.shape (Z : List PanicEntry → World → Prop) (x0 : Value) (w : World) (Q : Value → World → Prop) : vc drawD Tryz.prog 12 Z [80] f44.an f44.code (fnQ Tryz.prog 12 Tryz.f44.results Q) (argEnv [x0]) w = f44.sh Z x0 w Q := by kernel_rfl
theorem f44.enters : ∀ f, f ∈ ([80] : List Nat) → Enters Tryz.prog f := by
 intro f hf
 simp only [List.mem_cons, List.not_mem_nil, or_false] at hf
 rcases hf with rfl
 · exact en80
theorem f44.calls {Z : List PanicEntry → World → Prop} {x0 : Value} {w : World} {Q : Value → World → Prop} (h : f44.sh Z x0 w Q) : CallV Tryz.prog Z 44 #[x0] w Q :=
 calls_of_vcn drawD_sound (Q := Q) (n := 12) (rs := Tryz.f44.results) (an := f44.an) (c := f44.code) (cal := [80]) (args := [x0]) Tryz.func44 (by kernel_rfl) rfl f44.body_eq follows (Nat.le_of_ble_eq_true (by kernel_rfl)) (enters_of_all f44.enters) ((f44.shape Z x0 w Q).mpr h)

def f45.sh (Z : List PanicEntry → World → Prop) (x0 : Value) (w : World) (Q : Value → World → Prop) : Prop :=
 CallV Tryz.prog Z 80 #[x0, (Value.int IntKind.i64 8)] w fun t7_1 w =>
 run1 Tryz.prog Z (Instr.extract t7_1 0) w fun t8_2 w =>
 run1 Tryz.prog Z (Instr.extract t7_1 1) w fun t9_3 w =>
 run1 Tryz.prog Z (binOp BinOp.gtr 86 t8_2 (Value.int IntKind.u64 9223372036854775807)) w fun t11_4 w =>
 CondV t11_4 (
 run1 Tryz.prog Z (binOp BinOp.sub 86 (Value.int IntKind.u64 18446744073709551615) t8_2) w fun t13_5 w =>
 run1 Tryz.prog Z (convert 86 2 t13_5) w fun t14_6 w =>
 run1 Tryz.prog Z (binOp BinOp.sub 2 (Value.int IntKind.i64 (-1)) t14_6) w fun t15_7 w =>
 Q t15_7 w) (
 run1 Tryz.prog Z (convert 86 2 t8_2) w fun t17_8 w =>
 Q t17_8 w)
noncomputable def f45.code : Code := match Tryz.f45.body with | some c => c | none => .skip
def f45.an : An := (.sq .leaf (.sq .leaf (.sq (.sq .leaf (.cn (.sq .leaf .leaf) .leaf)) (.sq .leaf .leaf))))
theorem f45.body_eq : Tryz.f45.body = some f45.code := by kernel_rfl
theorem f45.shape (Z : List PanicEntry → World → Prop) (x0 : Value) (w : World) (Q : Value → World → Prop) : vc drawD Tryz.prog 18 Z [80] f45.an f45.code (fnQ Tryz.prog 18 Tryz.f45.results Q) (argEnv [x0]) w = f45.sh Z x0 w Q := by kernel_rfl
theorem f45.enters : ∀ f, f ∈ ([80] : List Nat) → Enters Tryz.prog f := by
 intro f hf
 simp only [List.mem_cons, List.not_mem_nil, or_false] at hf
 rcases hf with rfl
 · exact en80
theorem f45.calls {Z : List PanicEntry → World → Prop} {x0 : Value} {w : World} {Q : Value → World → Prop} (h : f45.sh Z x0 w Q) : CallV Tryz.prog Z 45 #[x0] w Q :=
 calls_of_vcn drawD_sound (Q := Q) (n := 18) (rs := Tryz.f45.results) (an := f45.an) (c := f45.code) (cal := [80]) (args := [x0]) Tryz.func45 (by kernel_rfl) rfl f45.body_eq follows (Nat.le_of_ble_eq_true (by kernel_rfl)) (enters_of_all f45.enters) ((f45.shape Z x0 w Q).mpr h)

def f46.sh (Z : List PanicEntry → World → Prop) (x0 : Value) (w : World) (Q : Value → World → Prop) : Prop :=
 runX Tryz.prog Z (nilChk x0) w fun t9_1 w =>
 run1 Tryz.prog Z (Instr.fieldAt 83 t9_1 1) w fun t10_2 w =>
 run1 Tryz.prog Z (Instr.loadAt 3 t10_2) w fun t11_3 w =>
 CallV Tryz.prog Z 80 #[x0, (Value.int IntKind.i64 8)] w fun t14_4 w =>
 run1 Tryz.prog Z (Instr.extract t14_4 0) w fun t15_5 w =>
 run1 Tryz.prog Z (Instr.extract t14_4 1) w fun t16_6 w =>
 run1 Tryz.prog Z (Op.unary UnOp.not t16_6) w fun t18_7 w =>
 CondV t18_7 (
 Q (Value.float FloatKind.f64 0) w) (
 CallV Tryz.prog Z 82 #[t15_5] w fun t21_8 w =>
 run1 Tryz.prog Z (Instr.extract t21_8 0) w fun t22_9 w =>
 run1 Tryz.prog Z (Instr.extract t21_8 1) w fun t23_10 w =>
 run1 Tryz.prog Z (Op.unary UnOp.not t23_10) w fun t25_11 w =>
 CondV t25_11 (
 CallV Tryz.prog Z 81 #[x0, t11_3, (Value.int IntKind.i64 12)] w fun t28_12 w =>
 Q (Value.float FloatKind.f64 0) w) (
 Q t22_9 w))
noncomputable def f46.code : Code := match Tryz.f46.body with | some c => c | none => .skip
def f46.an : An := (.sq .leaf (.sq .leaf (.sq .leaf (.sq (.sq .leaf (.cn (.sq .leaf .leaf) .leaf)) (.sq .leaf (.sq (.sq .leaf (.cn (.sq .leaf (.sq .leaf .leaf)) .leaf)) (.sq .leaf .leaf)))))))
theorem f46.body_eq : Tryz.f46.body = some f46.code := by kernel_rfl
theorem f46.shape (Z : List PanicEntry → World → Prop) (x0 : Value) (w : World) (Q : Value → World → Prop) : vc drawD Tryz.prog 30 Z [80, 82, 81] f46.an f46.code (fnQ Tryz.prog 30 Tryz.f46.results Q) (argEnv [x0]) w = f46.sh Z x0 w Q := by kernel_rfl
theorem f46.enters : ∀ f, f ∈ ([80, 82, 81] : List Nat) → Enters Tryz.prog f := by
 intro f hf
 simp only [List.mem_cons, List.not_mem_nil, or_false] at hf
 rcases hf with rfl | rfl | rfl
 · exact en80
 · exact en82
 · exact en81
theorem f46.calls {Z : List PanicEntry → World → Prop} {x0 : Value} {w : World} {Q : Value → World → Prop} (h : f46.sh Z x0 w Q) : CallV Tryz.prog Z 46 #[x0] w Q :=
 calls_of_vcn drawD_sound (Q := Q) (n := 30) (rs := Tryz.f46.results) (an := f46.an) (c := f46.code) (cal := [80, 82, 81]) (args := [x0]) Tryz.func46 (by kernel_rfl) rfl f46.body_eq follows (Nat.le_of_ble_eq_true (by kernel_rfl)) (enters_of_all f46.enters) ((f46.shape Z x0 w Q).mpr h)

def f47.sh (Z : List PanicEntry → World → Prop) (x0 x1 : Value) (w : World) (Q : Value → World → Prop) : Prop :=
 CallV Tryz.prog Z 48 #[x0, x1] w fun t7_1 w =>
 run1 Tryz.prog Z (convert 22 9 t7_1) w fun t8_2 w =>
 Q t8_2 w
noncomputable def f47.code : Code := match Tryz.f47.body with | some c => c | none => .skip
def f47.an : An := (.sq .leaf (.sq .leaf .leaf))
theorem f47.body_eq : Tryz.f47.body = some f47.code := by kernel_rfl
theorem f47.shape (Z : List PanicEntry → World → Prop) (x0 x1 : Value) (w : World) (Q : Value → World → Prop) : vc drawD Tryz.prog 9 Z [48] f47.an f47.code (fnQ Tryz.prog 9 Tryz.f47.results Q) (argEnv [x0, x1]) w = f47.sh Z x0 x1 w Q := by kernel_rfl
theorem f47.enters : ∀ f, f ∈ ([48] : List Nat) → Enters Tryz.prog f := by
 intro f hf
 simp only [List.mem_cons, List.not_mem_nil, or_false] at hf
 rcases hf with rfl
 · exact en48
theorem f47.calls {Z : List PanicEntry → World → Prop} {x0 x1 : Value} {w : World} {Q : Value → World → Prop} (h : f47.sh Z x0 x1 w Q) : CallV Tryz.prog Z 47 #[x0, x1] w Q :=
 calls_of_vcn drawD_sound (Q := Q) (n := 9) (rs := Tryz.f47.results) (an := f47.an) (c := f47.code) (cal := [48]) (args := [x0, x1]) Tryz.func47 (by kernel_rfl) rfl f47.body_eq follows (Nat.le_of_ble_eq_true (by kernel_rfl)) (enters_of_all f47.enters) ((f47.shape Z x0 x1 w Q).mpr h)

def f48.sh (Z : List PanicEntry → World → Prop) (x0 x1 : Value) (w : World) (Q : Value → World → Prop) : Prop :=
 runX Tryz.prog Z (nilChk x0) w fun t9_1 w =>
 run1 Tryz.prog Z (Instr.fieldAt 83 t9_1 1) w fun t10_2 w =>
 run1 Tryz.prog Z (Instr.loadAt 3 t10_2) w fun t11_3 w =>
 CallV Tryz.prog Z 43 #[x0] w fun t13_4 w =>
 run1 Tryz.prog Z (convert 21 3 t13_4) w fun t14_5 w =>
 runX Tryz.prog Z (nilChk x0) w fun t16_6 w =>
 run1 Tryz.prog Z (Instr.fieldAt 83 t16_6 2) w fun t17_7 w =>
 run1 Tryz.prog Z (Instr.loadAt 47 t17_7) w fun t18_8 w =>
 run1 Tryz.prog Z (eqOp BinOp.neq 47 false true t18_8 (Value.int IntKind.i64 0)) w fun t19_9 w =>
 CondV t19_9 (
 Q (Value.slice none 0 0) w) (
 run1 Tryz.prog Z (binOp BinOp.lss 3 t14_5 (Value.int IntKind.i64 0)) w fun t21_10 w =>
 guardW (t21_10) false (fun k => k (t14_5) w) (fun t23_11 w =>
 guardW (t21_10) false (fun k => k (x1) w) (fun t24_12 w =>
 guardW (t21_10) false (fun k => run1 Tryz.prog Z (binOp BinOp.gtr 3 t23_11 t24_12) w k) (fun t25_13 w =>
 run1 Tryz.prog Z (pickV t21_10 (Value.bool true) t25_13) w fun t26_14 w =>
 CondV t26_14 (
 CallV Tryz.prog Z 81 #[x0, t11_3, (Value.int IntKind.i64 11)] w fun t29_15 w =>
 Q (Value.slice none 0 0) w) (
 Drawn w fun w =>
 PureV Tryz.prog (nilChk x0) fun t31_16 =>
 Pure1 Tryz.prog (Instr.fieldAt 83 t31_16 0) fun t32_17 =>
 Read1 Tryz.prog (Instr.loadAt 22 t32_17) w fun t33_18 =>
 Pure1 Tryz.prog (Builtin.len_ #[22] 3 #[t33_18]) fun t34_19 =>
 PureV Tryz.prog (nilChk x0) fun t36_20 =>
 Pure1 Tryz.prog (Instr.fieldAt 83 t36_20 1) fun t37_21 =>
 Read1 Tryz.prog (Instr.loadAt 3 t37_21) w fun t38_22 =>
 Pure1 Tryz.prog (binOp BinOp.sub 3 t34_19 t38_22) fun t39_23 =>
 Pure1 Tryz.prog (binOp BinOp.lss 3 t39_23 t14_5) fun t41_24 =>
 CondV t41_24 (
 CallV Tryz.prog Z 81 #[x0, t11_3, (Value.int IntKind.i64 10)] w fun t44_25 w =>
 Q (Value.slice none 0 0) w) (
 Drawn w fun w =>
 PureV Tryz.prog (nilChk x0) fun t46_26 =>
 Pure1 Tryz.prog (Instr.fieldAt 83 t46_26 0) fun t47_27 =>
 Read1 Tryz.prog (Instr.loadAt 22 t47_27) w fun t48_28 =>
 PureV Tryz.prog (nilChk x0) fun t50_29 =>
 Pure1 Tryz.prog (Instr.fieldAt 83 t50_29 1) fun t51_30 =>
 Read1 Tryz.prog (Instr.loadAt 3 t51_30) w fun t52_31 =>
 PureV Tryz.prog (nilChk x0) fun t54_32 =>
 Pure1 Tryz.prog (Instr.fieldAt 83 t54_32 1) fun t55_33 =>
 Read1 Tryz.prog (Instr.loadAt 3 t55_33) w fun t56_34 =>
 Pure1 Tryz.prog (binOp BinOp.add 3 t56_34 t14_5) fun t58_35 =>
 Pure1 Tryz.prog (Instr.sliceAt 22 t48_28 (some t52_31) (some t58_35) none) fun t59_36 =>
 CallV Tryz.prog Z 10 #[t59_36] w fun t60_37 w =>
 Still Tryz.prog (nx (Instr.loadAt 3 t55_33)) t56_34 w <|
 Still Tryz.prog (nx (Instr.loadAt 3 t51_30)) t52_31 w <|
 Still Tryz.prog (nx (Instr.loadAt 22 t47_27)) t48_28 w <|
 runX Tryz.prog Z (nilChk x0) w fun t63_38 w =>
 run1 Tryz.prog Z (Instr.fieldAt 83 t63_38 1) w fun t64_39 w =>
 run1 Tryz.prog Z (Instr.loadAt 3 t64_39) w fun t65_40 w =>
 run1 Tryz.prog Z (binOp BinOp.add 3 t65_40 t14_5) w fun t67_41 w =>
 runX Tryz.prog Z (nilChk x0) w fun t68_42 w =>
 run1 Tryz.prog Z (Instr.fieldAt 83 t68_42 1) w fun t69_43 w =>
 run0 Tryz.prog Z (Instr.storeAt 3 t69_43 t67_41) w fun w =>
 Q t60_37 w))) w) w) w)
noncomputable def f48.code : Code := match Tryz.f48.body with | some c => c | none => .skip
def f48.an : An := (.sq .leaf (.sq .leaf (.sq .leaf (.sq (.sq .leaf (.cn (.sq .leaf .leaf) .leaf)) (.sq (.sq .leaf (.cn (.sq .leaf (.sq .leaf .leaf)) .leaf)) (.sq (.sq (.dr (.take 0 false (.take 1 false (.take 2 false (.take 3 true (.take 4 false (.take 5 false (.take 6 false (.take 7 false (.take 8 true (.take 9 false (.take 10 false (.take 11 false .fin))))))))))))) (.cn (.sq .leaf (.sq .leaf .leaf)) .leaf)) (.sq (.dr (.take 0 false (.take 1 false (.take 2 false (.take 3 true (.take 4 false (.take 5 false (.take 6 false (.take 7 true (.take 8 false (.take 9 false (.take 10 false (.take 11 true (.take 12 false (.take 13 false (.take 14 false (.one 15 (.take 16 false .fin)))))))))))))))))) (.sq .leaf (.sq .leaf .leaf)))))))))
theorem f48.body_eq : Tryz.f48.body = some f48.code := by kernel_rfl
theorem f48.shape (Z : List PanicEntry → World → Prop) (x0 x1 : Value) (w : World) (Q : Value → World → Prop) : vc drawD Tryz.prog 71 Z [43, 81, 10] f48.an f48.code (fnQ Tryz.prog 71 Tryz.f48.results Q) (argEnv [x0, x1]) w = f48.sh Z x0 x1 w Q := by kernel_rfl
theorem f48.enters : ∀ f, f ∈ ([43, 81, 10] : List Nat) → Enters Tryz.prog f := by
 intro f hf
 simp only [List.mem_cons, List.not_mem_nil, or_false] at hf
 rcases hf with rfl | rfl | rfl
 · exact en43
 · exact en81
 · exact en10
theorem f48.calls {Z : List PanicEntry → World → Prop} {x0 x1 : Value} {w : World} {Q : Value → World → Prop} (h : f48.sh Z x0 x1 w Q) : CallV Tryz.prog Z 48 #[x0, x1] w Q :=
 calls_of_vcn drawD_sound (Q := Q) (n := 71) (rs := Tryz.f48.results) (an := f48.an) (c := f48.code) (cal := [43, 81, 10]) (args := [x0, x1]) Tryz.func48 (by kernel_rfl) rfl f48.body_eq follows (Nat.le_of_ble_eq_true (by kernel_rfl)) (enters_of_all f48.enters) ((f48.shape Z x0 x1 w Q).mpr h)

def f49.sh (Z : List PanicEntry → World → Prop) (x0 x1 : Value) (w : World) (Q : Value → World → Prop) : Prop :=
 runX Tryz.prog Z (nilChk x0) w fun t7_1 w =>
 run1 Tryz.prog Z (Instr.fieldAt 83 t7_1 2) w fun t8_2 w =>
 run1 Tryz.prog Z (Instr.loadAt 47 t8_2) w fun t9_3 w =>
 run1 Tryz.prog Z (eqOp BinOp.neq 47 false true t9_3 (Value.int IntKind.i64 0)) w fun t10_4 w =>
 CondV t10_4 (
 Q (Value.slice none 0 0) w) (
 run1 Tryz.prog Z (binOp BinOp.lss 3 x1 (Value.int IntKind.i64 0)) w fun t12_5 w =>
 CondV t12_5 (
 runX Tryz.prog Z (nilChk x0) w fun t14_6 w =>
 run1 Tryz.prog Z (Instr.fieldAt 83 t14_6 2) w fun t15_7 w =>
 run0 Tryz.prog Z (Instr.storeAt 47 t15_7 (Value.int IntKind.i64 11)) w fun w =>
 Q (Value.slice none 0 0) w) (
 Drawn w fun w =>
 PureV Tryz.prog (nilChk x0) fun t17_8 =>
 Pure1 Tryz.prog (Instr.fieldAt 83 t17_8 0) fun t18_9 =>
 Read1 Tryz.prog (Instr.loadAt 22 t18_9) w fun t19_10 =>
 Pure1 Tryz.prog (Builtin.len_ #[22] 3 #[t19_10]) fun t20_11 =>
 PureV Tryz.prog (nilChk x0) fun t22_12 =>
 Pure1 Tryz.prog (Instr.fieldAt 83 t22_12 1) fun t23_13 =>
 Read1 Tryz.prog (Instr.loadAt 3 t23_13) w fun t24_14 =>
 Pure1 Tryz.prog (binOp BinOp.sub 3 t20_11 t24_14) fun t25_15 =>
 Pure1 Tryz.prog (binOp BinOp.lss 3 t25_15 x1) fun t27_16 =>
 CondV t27_16 (
 runX Tryz.prog Z (nilChk x0) w fun t29_17 w =>
 run1 Tryz.prog Z (Instr.fieldAt 83 t29_17 2) w fun t30_18 w =>
 run0 Tryz.prog Z (Instr.storeAt 47 t30_18 (Value.int IntKind.i64 10)) w fun w =>
 Q (Value.slice none 0 0) w) (
 Drawn w fun w =>
 PureV Tryz.prog (nilChk x0) fun t32_19 =>
 Pure1 Tryz.prog (Instr.fieldAt 83 t32_19 0) fun t33_20 =>
 Read1 Tryz.prog (Instr.loadAt 22 t33_20) w fun t34_21 =>
 PureV Tryz.prog (nilChk x0) fun t36_22 =>
 Pure1 Tryz.prog (Instr.fieldAt 83 t36_22 1) fun t37_23 =>
 Read1 Tryz.prog (Instr.loadAt 3 t37_23) w fun t38_24 =>
 PureV Tryz.prog (nilChk x0) fun t40_25 =>
 Pure1 Tryz.prog (Instr.fieldAt 83 t40_25 1) fun t41_26 =>
 Read1 Tryz.prog (Instr.loadAt 3 t41_26) w fun t42_27 =>
 Pure1 Tryz.prog (binOp BinOp.add 3 t42_27 x1) fun t44_28 =>
 Pure1 Tryz.prog (Instr.sliceAt 22 t34_21 (some t38_24) (some t44_28) none) fun t45_29 =>
 CallV Tryz.prog Z 10 #[t45_29] w fun t46_30 w =>
 Still Tryz.prog (nx (Instr.loadAt 3 t41_26)) t42_27 w <|
 Still Tryz.prog (nx (Instr.loadAt 3 t37_23)) t38_24 w <|
 Still Tryz.prog (nx (Instr.loadAt 22 t33_20)) t34_21 w <|
 runX Tryz.prog Z (nilChk x0) w fun t49_31 w =>
 run1 Tryz.prog Z (Instr.fieldAt 83 t49_31 1) w fun t50_32 w =>
 run1 Tryz.prog Z (Instr.loadAt 3 t50_32) w fun t51_33 w =>
 run1 Tryz.prog Z (binOp BinOp.add 3 t51_33 x1) w fun t53_34 w =>
 runX Tryz.prog Z (nilChk x0) w fun t54_35 w =>
 run1 Tryz.prog Z (Instr.fieldAt 83 t54_35 1) w fun t55_36 w =>
 run0 Tryz.prog Z (Instr.storeAt 3 t55_36 t53_34) w fun w =>
 Q t46_30 w)))
noncomputable def f49.code : Code := match Tryz.f49.body with | some c => c | none => .skip
def f49.an : An := (.sq .leaf (.sq (.sq .leaf (.cn (.sq .leaf .leaf) .leaf)) (.sq (.sq .leaf (.cn (.sq .leaf (.sq .leaf .leaf)) .leaf)) (.sq (.sq (.dr (.take 0 false (.take 1 false (.take 2 false (.take 3 true (.take 4 false (.take 5 false (.take 6 false (.take 7 false (.take 8 true (.take 9 false (.take 10 false (.take 11 false .fin))))))))))))) (.cn (.sq .leaf (.sq .leaf .leaf)) .leaf)) (.sq (.dr (.take 0 false (.take 1 false (.take 2 false (.take 3 true (.take 4 false (.take 5 false (.take 6 false (.take 7 true (.take 8 false (.take 9 false (.take 10 false (.take 11 true (.take 12 false (.take 13 false (.take 14 false (.one 15 (.take 16 false .fin)))))))))))))))))) (.sq .leaf (.sq .leaf .leaf)))))))
theorem f49.body_eq : Tryz.f49.body = some f49.code := by kernel_rfl
theorem f49.shape (Z : List PanicEntry → World → Prop) (x0 x1 : Value) (w : World) (Q : Value → World → Prop) : vc drawD Tryz.prog 57 Z [10] f49.an f49.code (fnQ Tryz.prog 57 Tryz.f49.results Q) (argEnv [x0, x1]) w = f49.sh Z x0 x1 w Q := by kernel_rfl
theorem f49.enters : ∀ f, f ∈ ([10] : List Nat) → Enters Tryz.prog f := by
 intro f hf
 simp only [List.mem_cons, List.not_mem_nil, or_false] at hf
 rcases hf with rfl
 · exact en10
theorem f49.calls {Z : List PanicEntry → World → Prop} {x0 x1 : Value} {w : World} {Q : Value → World → Prop} (h : f49.sh Z x0 x1 w Q) : CallV Tryz.prog Z 49 #[x0, x1] w Q :=
 calls_of_vcn drawD_sound (Q := Q) (n := 57) (rs := Tryz.f49.results) (an := f49.an) (c := f49.code) (cal := [10]) (args := [x0, x1]) Tryz.func49 (by kernel_rfl) rfl f49.body_eq follows (Nat.le_of_ble_eq_true (by kernel_rfl)) (enters_of_all f49.enters) ((f49.shape Z x0 x1 w Q).mpr h)

def f50.sh (Z : List PanicEntry → World → Prop) (x0 x1 : Value) (w : World) (Q : Value → World → Prop) : Prop :=
 runX Tryz.prog Z (nilChk x0) w fun t5_1 w =>
 run1 Tryz.prog Z (Instr.fieldAt 83 t5_1 2) w fun t6_2 w =>
 run1 Tryz.prog Z (Instr.loadAt 47 t6_2) w fun t7_3 w =>
 run1 Tryz.prog Z (eqOp BinOp.eql 47 false true t7_3 (Value.int IntKind.i64 0)) w fun t8_4 w =>
 CondV t8_4 (
 runX Tryz.prog Z (nilChk x0) w fun t11_5 w =>
 run1 Tryz.prog Z (Instr.fieldAt 83 t11_5 2) w fun t12_6 w =>
 run0 Tryz.prog Z (Instr.storeAt 47 t12_6 x1) w fun w =>
 Q (Value.tuple #[]) w) (
 Q (Value.tuple #[]) w)
noncomputable def f50.code : Code := match Tryz.f50.body with | some c => c | none => .skip
def f50.an : An := (.sq .leaf (.cn .leaf .leaf))
theorem f50.body_eq : Tryz.f50.body = some f50.code := by kernel_rfl
theorem f50.shape (Z : List PanicEntry → World → Prop) (x0 x1 : Value) (w : World) (Q : Value → World → Prop) : vc drawD Tryz.prog 13 Z [] f50.an f50.code (fnQ Tryz.prog 13 Tryz.f50.results Q) (argEnv [x0, x1]) w = f50.sh Z x0 x1 w Q := by kernel_rfl
theorem f50.enters : ∀ f, f ∈ ([] : List Nat) → Enters Tryz.prog f := by
 intro f hf
 cases hf
theorem f50.calls {Z : List PanicEntry → World → Prop} {x0 x1 : Value} {w : World} {Q : Value → World → Prop} (h : f50.sh Z x0 x1 w Q) : CallV Tryz.prog Z 50 #[x0, x1] w Q :=
 calls_of_vcn drawD_sound (Q := Q) (n := 13) (rs := Tryz.f50.results) (an := f50.an) (c := f50.code) (cal := []) (args := [x0, x1]) Tryz.func50 (by kernel_rfl) rfl f50.body_eq follows (Nat.le_of_ble_eq_true (by kernel_rfl)) (enters_of_all f50.enters) ((f50.shape Z x0 x1 w Q).mpr h)

def f51.sh (Z : List PanicEntry → World → Prop) (x0 x1 : Value) (w : World) (Q : Value → World → Prop) : Prop :=
 run1 Tryz.prog Z (eqOp BinOp.neq 44 false false x0 x0) w fun t7_1 w =>
 guardW (t7_1) false (fun k => k (x1) w) (fun t9_2 w =>
 guardW (t7_1) false (fun k => k (x1) w) (fun t10_3 w =>
 guardW (t7_1) false (fun k => run1 Tryz.prog Z (eqOp BinOp.neq 44 false false t9_2 t10_3) w k) (fun t11_4 w =>
 run1 Tryz.prog Z (pickV t7_1 (Value.bool true) t11_4) w fun t12_5 w =>
 CondV t12_5 (
 run1 Tryz.prog Z (eqOp BinOp.neq 44 false false x0 x0) w fun t15_6 w =>
 guardW (t15_6) true (fun k => k (x1) w) (fun t17_7 w =>
 guardW (t15_6) true (fun k => k (x1) w) (fun t18_8 w =>
 guardW (t15_6) true (fun k => run1 Tryz.prog Z (eqOp BinOp.neq 44 false false t17_7 t18_8) w k) (fun t19_9 w =>
 run1 Tryz.prog Z (pickV t15_6 t19_9 (Value.bool false)) w fun t20_10 w =>
 Q t20_10 w) w) w) w) (
 run1 Tryz.prog Z (eqOp BinOp.eql 44 false false x0 x1) w fun t23_11 w =>
 guardW (t23_11) true (fun k => k (x0) w) (fun t25_12 w =>
 guardW (t23_11) true (fun k => run1 Tryz.prog Z (eqOp BinOp.neq 44 false true t25_12 (Value.float FloatKind.f64 0)) w k) (fun t26_13 w =>
 guardW (t23_11) true (fun k => k (t26_13) w) (fun t27_14 w =>
 guardW (t27_14) false (fun k => k (x0) w) (fun t28_15 w =>
 guardW (t27_14) false (fun k => run1 Tryz.prog Z (binOp BinOp.quo 44 (Value.float FloatKind.f64 4607182418800017408) t28_15) w k) (fun t29_16 w =>
 guardW (t27_14) false (fun k => k (x1) w) (fun t30_17 w =>
 guardW (t27_14) false (fun k => run1 Tryz.prog Z (binOp BinOp.quo 44 (Value.float FloatKind.f64 4607182418800017408) t30_17) w k) (fun t31_18 w =>
 guardW (t27_14) false (fun k => run1 Tryz.prog Z (eqOp BinOp.eql 44 false false t29_16 t31_18) w k) (fun t32_19 w =>
 guardW (t23_11) true (fun k => run1 Tryz.prog Z (pickV t27_14 (Value.bool true) t32_19) w k) (fun t33_20 w =>
 run1 Tryz.prog Z (pickV t23_11 t33_20 (Value.bool false)) w fun t34_21 w =>
 Q t34_21 w) w) w) w) w) w) w) w) w) w)) w) w) w
noncomputable def f51.code : Code := match Tryz.f51.body with | some c => c | none => .skip
def f51.an : An := (.sq .leaf (.sq (.sq .leaf (.cn (.sq .leaf .leaf) .leaf)) (.sq .leaf .leaf)))
theorem f51.body_eq : Tryz.f51.body = some f51.code := by kernel_rfl
theorem f51.shape (Z : List PanicEntry → World → Prop) (x0 x1 : Value) (w : World) (Q : Value → World → Prop) : vc drawD Tryz.prog 35 Z [] f51.an f51.code (fnQ Tryz.prog 35 Tryz.f51.results Q) (argEnv [x0, x1]) w = f51.sh Z x0 x1 w Q := by kernel_rfl
theorem f51.enters : ∀ f, f ∈ ([] : List Nat) → Enters Tryz.prog f := by
 intro f hf
 cases hf
theorem f51.calls {Z : List PanicEntry → World → Prop} {x0 x1 : Value} {w : World} {Q : Value → World → Prop} (h : f51.sh Z x0 x1 w Q) : CallV Tryz.prog Z 51 #[x0, x1] w Q :=
 calls_of_vcn drawD_sound (Q := Q) (n := 35) (rs := Tryz.f51.results) (an := f51.an) (c := f51.code) (cal := []) (args := [x0, x1]) Tryz.func51 (by kernel_rfl) rfl f51.body_eq follows (Nat.le_of_ble_eq_true (by kernel_rfl)) (enters_of_all f51.enters) ((f51.shape Z x0 x1 w Q).mpr h)

def f52.sh (Z : List PanicEntry → World → Prop) (x0 : Value) (w : World) (Q : Value → World → Prop) : Prop :=
 run1 Tryz.prog Z (eqOp BinOp.eql 27 false true x0 (Value.pointer none)) w fun t4_1 w =>
 guardW (t4_1) false (fun k => k (x0) w) (fun t6_2 w =>
 guardW (t4_1) false (fun k => runX Tryz.prog Z (nilChk t6_2) w k) (fun t7_3 w =>
 guardW (t4_1) false (fun k => run1 Tryz.prog Z (Instr.fieldAt 49 t7_3 0) w k) (fun t8_4 w =>
 guardW (t4_1) false (fun k => run1 Tryz.prog Z (Instr.loadAt 4 t8_4) w k) (fun t9_5 w =>
 guardW (t4_1) false (fun k => run1 Tryz.prog Z (Op.unary UnOp.not t9_5) w k) (fun t10_6 w =>
 run1 Tryz.prog Z (pickV t4_1 (Value.bool true) t10_6) w fun t11_7 w =>
 Q t11_7 w) w) w) w) w) w
noncomputable def f52.code : Code := match Tryz.f52.body with | some c => c | none => .skip
def f52.an : An := (.sq .leaf (.sq .leaf .leaf))
theorem f52.body_eq : Tryz.f52.body = some f52.code := by kernel_rfl
theorem f52.shape (Z : List PanicEntry → World → Prop) (x0 : Value) (w : World) (Q : Value → World → Prop) : vc drawD Tryz.prog 12 Z [] f52.an f52.code (fnQ Tryz.prog 12 Tryz.f52.results Q) (argEnv [x0]) w = f52.sh Z x0 w Q := by kernel_rfl
theorem f52.enters : ∀ f, f ∈ ([] : List Nat) → Enters Tryz.prog f := by
 intro f hf
 cases hf
theorem f52.calls {Z : List PanicEntry → World → Prop} {x0 : Value} {w : World} {Q : Value → World → Prop} (h : f52.sh Z x0 w Q) : CallV Tryz.prog Z 52 #[x0] w Q :=
 calls_of_vcn drawD_sound (Q := Q) (n := 12) (rs := Tryz.f52.results) (an := f52.an) (c := f52.code) (cal := []) (args := [x0]) Tryz.func52 (by kernel_rfl) rfl f52.body_eq follows (Nat.le_of_ble_eq_true (by kernel_rfl)) (enters_of_all f52.enters) ((f52.shape Z x0 w Q).mpr h)

def f53.sh (Z : List PanicEntry → World → Prop) (x0 : Value) (w : World) (Q : Value → World → Prop) : Prop :=
 CallV Tryz.prog Z 52 #[x0] w fun t4_1 w =>
 run1 Tryz.prog Z (Op.unary UnOp.not t4_1) w fun t5_2 w =>
 guardW (t5_2) true (fun k => k (x0) w) (fun t7_3 w =>
 guardW (t5_2) true (fun k => runX Tryz.prog Z (nilChk t7_3) w k) (fun t8_4 w =>
 guardW (t5_2) true (fun k => run1 Tryz.prog Z (Instr.fieldAt 49 t8_4 2) w k) (fun t9_5 w =>
 guardW (t5_2) true (fun k => run1 Tryz.prog Z (Instr.loadAt 47 t9_5) w k) (fun t10_6 w =>
 guardW (t5_2) true (fun k => run1 Tryz.prog Z (eqOp BinOp.eql 47 false true t10_6 (Value.int IntKind.i64 0)) w k) (fun t11_7 w =>
 run1 Tryz.prog Z (pickV t5_2 t11_7 (Value.bool false)) w fun t12_8 w =>
 Q t12_8 w) w) w) w) w) w
noncomputable def f53.code : Code := match Tryz.f53.body with | some c => c | none => .skip
def f53.an : An := (.sq .leaf (.sq .leaf .leaf))
theorem f53.body_eq : Tryz.f53.body = some f53.code := by kernel_rfl
theorem f53.shape (Z : List PanicEntry → World → Prop) (x0 : Value) (w : World) (Q : Value → World → Prop) : vc drawD Tryz.prog 13 Z [52] f53.an f53.code (fnQ Tryz.prog 13 Tryz.f53.results Q) (argEnv [x0]) w = f53.sh Z x0 w Q := by kernel_rfl
theorem f53.enters : ∀ f, f ∈ ([52] : List Nat) → Enters Tryz.prog f := by
 intro f hf
 simp only [List.mem_cons, List.not_mem_nil, or_false] at hf
 rcases hf with rfl
 · exact en52
theorem f53.calls {Z : List PanicEntry → World → Prop} {x0 : Value} {w : World} {Q : Value → World → Prop} (h : f53.sh Z x0 w Q) : CallV Tryz.prog Z 53 #[x0] w Q :=
 calls_of_vcn drawD_sound (Q := Q) (n := 13) (rs := Tryz.f53.results) (an := f53.an) (c := f53.code) (cal := [52]) (args := [x0]) Tryz.func53 (by kernel_rfl) rfl f53.body_eq follows (Nat.le_of_ble_eq_true (by kernel_rfl)) (enters_of_all f53.enters) ((f53.shape Z x0 w Q).mpr h)

def f54.sh (Z : List PanicEntry → World → Prop) (x0 x1 : Value) (w : World) (Q : Value → World → Prop) : Prop :=
 runX Tryz.prog Z (nilChk x0) w fun t5_1 w =>
 run1 Tryz.prog Z (Instr.fieldAt 73 t5_1 0) w fun t6_2 w =>
 run1 Tryz.prog Z (Instr.loadAt 51 t6_2) w fun t7_3 w =>
 run1 Tryz.prog Z (Builtin.len_ #[51] 3 #[t7_3]) w fun t8_4 w =>
 run1 Tryz.prog Z (binOp BinOp.lss 3 t8_4 (Value.int IntKind.i64 600)) w fun t9_5 w =>
 CondV t9_5 (
 runX Tryz.prog Z (nilChk x0) w fun t12_6 w =>
 run1 Tryz.prog Z (Instr.fieldAt 73 t12_6 0) w fun t13_7 w =>
 run1 Tryz.prog Z (Instr.loadAt 51 t13_7) w fun t14_8 w =>
 run1 Tryz.prog Z (Instr.buildSlice 51 1 #[(0, x1)]) w fun t16_9 w =>
 run1 Tryz.prog Z (Builtin.append_ #[51, 51] 51 #[t14_8, t16_9]) w fun t17_10 w =>
 runX Tryz.prog Z (nilChk x0) w fun t18_11 w =>
 run1 Tryz.prog Z (Instr.fieldAt 73 t18_11 0) w fun t19_12 w =>
 run0 Tryz.prog Z (Instr.storeAt 51 t19_12 t17_10) w fun w =>
 Q (Value.tuple #[]) w) (
 Q (Value.tuple #[]) w)
noncomputable def f54.code : Code := match Tryz.f54.body with | some c => c | none => .skip
def f54.an : An := (.sq .leaf (.cn .leaf .leaf))
theorem f54.body_eq : Tryz.f54.body = some f54.code := by kernel_rfl
theorem f54.shape (Z : List PanicEntry → World → Prop) (x0 x1 : Value) (w : World) (Q : Value → World → Prop) : vc drawD Tryz.prog 20 Z [] f54.an f54.code (fnQ Tryz.prog 20 Tryz.f54.results Q) (argEnv [x0, x1]) w = f54.sh Z x0 x1 w Q := by kernel_rfl
theorem f54.enters : ∀ f, f ∈ ([] : List Nat) → Enters Tryz.prog f := by
 intro f hf
 cases hf
theorem f54.calls {Z : List PanicEntry → World → Prop} {x0 x1 : Value} {w : World} {Q : Value → World → Prop} (h : f54.sh Z x0 x1 w Q) : CallV Tryz.prog Z 54 #[x0, x1] w Q :=
 calls_of_vcn drawD_sound (Q := Q) (n := 20) (rs := Tryz.f54.results) (an := f54.an) (c := f54.code) (cal := []) (args := [x0, x1]) Tryz.func54 (by kernel_rfl) rfl f54.body_eq follows (Nat.le_of_ble_eq_true (by kernel_rfl)) (enters_of_all f54.enters) ((f54.shape Z x0 x1 w Q).mpr h)

def f55.sh (Z : List PanicEntry → World → Prop) (x0 : Value) (w : World) (Q : Value → World → Prop) : Prop :=
 ∃ J_1 : Nat → Value → World → Prop, (∃ m, J_1 m (Value.int IntKind.i64 1) w) ∧
 ∀ m_1, ∀ t3_2 : Value, ∀ w : World, J_1 m_1 t3_2 w → Env →
 run1 Tryz.prog Z (eqOp BinOp.eql 3 false true t3_2 (Value.int IntKind.i64 1)) w fun t8_3 w =>
 guardW (t8_3) false (fun k => k (t3_2) w) (fun t10_4 w =>
 guardW (t8_3) false (fun k => k (x0) w) (fun t11_5 w =>
 guardW (t8_3) false (fun k => run1 Tryz.prog Z (Builtin.len_ #[51] 3 #[t11_5]) w k) (fun t12_6 w =>
 guardW (t8_3) false (fun k => run1 Tryz.prog Z (binOp BinOp.leq 3 t10_4 t12_6) w k) (fun t13_7 w =>
 run1 Tryz.prog Z (pickV t8_3 (Value.bool true) t13_7) w fun t14_8 w =>
 CondV t14_8 (
 ∃ J_9 : Nat → Value → World → Prop, (∃ m, J_9 m (Value.int IntKind.i64 0) w) ∧
 ∀ m_9, ∀ t4_10 : Value, ∀ w : World, J_9 m_9 t4_10 w → Env →
 run1 Tryz.prog Z (Builtin.len_ #[51] 3 #[x0]) w fun t19_11 w =>
 run1 Tryz.prog Z (binOp BinOp.lss 3 t4_10 t19_11) w fun t20_12 w =>
 CondV t20_12 (
 ∃ J_13 : Nat → Value → World → Prop, (∃ m, J_13 m (Value.int IntKind.i64 0) w) ∧
 ∀ m_13, ∀ t5_14 : Value, ∀ w : World, J_13 m_13 t5_14 w → Env →
 run1 Tryz.prog Z (Instr.indexAt 51 x0 t4_10) w fun t26_15 w =>
 run1 Tryz.prog Z (Instr.loadAt 22 t26_15) w fun t27_16 w =>
 run1 Tryz.prog Z (Builtin.len_ #[22] 3 #[t27_16]) w fun t28_17 w =>
 run1 Tryz.prog Z (binOp BinOp.lss 3 t5_14 t28_17) w fun t29_18 w =>
 CondV t29_18 (
 Drawn w fun w =>
 Pure1 Tryz.prog (Instr.indexAt 51 x0 t4_10) fun t34_19 =>
 Read1 Tryz.prog (Instr.loadAt 22 t34_19) w fun t35_20 =>
 Pure1 Tryz.prog (binOp BinOp.quo 3 t4_10 t3_2) fun t39_21 =>
 Pure1 Tryz.prog (binOp BinOp.rem 3 t39_21 (Value.int IntKind.i64 100)) fun t40_22 =>
 Pure1 Tryz.prog (convert 3 5 t40_22) fun t41_23 =>
 Pure1 Tryz.prog (Instr.indexAt 22 t35_20 t5_14) fun t42_24 =>
 run0 Tryz.prog Z (Instr.storeAt 5 t42_24 t41_23) w fun w =>
 run1 Tryz.prog Z (binOp BinOp.add 3 t5_14 (Value.int IntKind.i64 1)) w fun t31_25 w =>
 ∃ n_13, n_13 < m_13 ∧ J_13 n_13 t31_25 w) (
 run1 Tryz.prog Z (binOp BinOp.add 3 t4_10 (Value.int IntKind.i64 1)) w fun t22_26 w =>
 ∃ n_9, n_9 < m_9 ∧ J_9 n_9 t22_26 w)) (
 CallV Tryz.prog Z 83 #[x0, t3_2, (Value.int IntKind.i64 1)] w fun t45_27 w =>
 guardW (t45_27) true (fun k => k (x0) w) (fun t47_28 w =>
 guardW (t45_27) true (fun k => k (t3_2) w) (fun t48_29 w =>
 guardW (t45_27) true (fun k => CallV Tryz.prog Z 83 #[t47_28, t48_29, (Value.int IntKind.i64 64)] w k) (fun t49_30 w =>
 run1 Tryz.prog Z (pickV t45_27 t49_30 (Value.bool false)) w fun t50_31 w =>
 run1 Tryz.prog Z (Op.unary UnOp.not t50_31) w fun t52_32 w =>
 CondV t52_32 (
 Q (Value.bool false) w) (
 run1 Tryz.prog Z (binOp BinOp.mul 3 t3_2 (Value.int IntKind.i64 100)) w fun t16_33 w =>
 ∃ n_1, n_1 < m_1 ∧ J_1 n_1 t16_33 w)) w) w) w)) (
 Q (Value.bool true) w)) w) w) w) w
noncomputable def f55.code : Code := match Tryz.f55.body with | some c => c | none => .skip
def f55.an : An := (.sq .leaf (.sq (.sq .leaf (.bl (.lp [3] [2, 3, 4, 5, 6, 7, 8, 9, 10, 11, 12, 13, 14, 15, 16, 17, 18, 19, 20, 21, 22, 23, 24, 25, 26, 27, 28, 29, 30, 31, 32, 33, 34, 35, 36, 37, 38, 39, 40, 41, 42, 43, 44, 45, 46, 47, 48, 49, 50, 51, 52] (.sq (.sq .leaf (.cn .leaf .leaf)) (.sq (.bl (.sq (.sq .leaf (.bl (.lp [4] [4, 5, 17, 18, 19, 20, 21, 22, 23, 24, 25, 26, 27, 28, 29, 30, 31, 32, 33, 34, 35, 36, 37, 38, 39, 40, 41, 42] (.sq (.sq .leaf (.cn .leaf .leaf)) (.sq (.bl (.sq .leaf (.bl (.lp [5] [5, 23, 24, 25, 26, 27, 28, 29, 30, 31, 32, 33, 34, 35, 36, 37, 38, 39, 40, 41, 42] (.sq (.sq .leaf (.cn .leaf .leaf)) (.sq (.bl (.dr (.take 0 false (.take 1 false (.take 2 false (.take 3 true (.take 4 false (.take 5 false (.take 6 false (.take 7 false (.take 8 false (.take 9 false (.take 10 false (.one 11 .fin)))))))))))))) .leaf)))))) .leaf))))) (.sq .leaf (.sq .leaf (.cn (.sq .leaf .leaf) .leaf))))) .leaf))))) (.sq .leaf .leaf)))
theorem f55.body_eq : Tryz.f55.body = some f55.code := by kernel_rfl
theorem f55.shape (Z : List PanicEntry → World → Prop) (x0 : Value) (w : World) (Q : Value → World → Prop) : vc drawD Tryz.prog 53 Z [83] f55.an f55.code (fnQ Tryz.prog 53 Tryz.f55.results Q) (argEnv [x0]) w = f55.sh Z x0 w Q := by kernel_rfl
theorem f55.enters : ∀ f, f ∈ ([83] : List Nat) → Enters Tryz.prog f := by
 intro f hf
 simp only [List.mem_cons, List.not_mem_nil, or_false] at hf
 rcases hf with rfl
 · exact en83
theorem f55.calls {Z : List PanicEntry → World → Prop} {x0 : Value} {w : World} {Q : Value → World → Prop} (h : f55.sh Z x0 w Q) : CallV Tryz.prog Z 55 #[x0] w Q :=
 calls_of_vcn drawD_sound (Q := Q) (n := 53) (rs := Tryz.f55.results) (an := f55.an) (c := f55.code) (cal := [83]) (args := [x0]) Tryz.func55 (by kernel_rfl) rfl f55.body_eq follows (Nat.le_of_ble_eq_true (by kernel_rfl)) (enters_of_all f55.enters) ((f55.shape Z x0 w Q).mpr h)

def f56.sh (Z : List PanicEntry → World → Prop) (x0 : Value) (w : World) (Q : Value → World → Prop) : Prop :=
 ∃ J_1 : Nat → Value → World → Prop, (∃ m, J_1 m (Value.int IntKind.i64 0) w) ∧
 ∀ m_1, ∀ t3_2 : Value, ∀ w : World, J_1 m_1 t3_2 w → Env →
 run1 Tryz.prog Z (Builtin.len_ #[52] 3 #[x0]) w fun t9_3 w =>
 run1 Tryz.prog Z (binOp BinOp.lss 3 t3_2 t9_3) w fun t10_4 w =>
 CondV t10_4 (
 False) (
 CallV Tryz.prog Z 84 #[x0, (Value.int IntKind.i64 1)] w fun t31_5 w =>
 CallV Tryz.prog Z 84 #[x0, (Value.int IntKind.i64 24)] w fun t33_6 w =>
 guardW (t31_5) true (fun k => k (t33_6) w) (fun t36_7 w =>
 run1 Tryz.prog Z (pickV t31_5 t36_7 (Value.bool false)) w fun t37_8 w =>
 Q t37_8 w) w)
noncomputable def f56.code : Code := match Tryz.f56.body with | some c => c | none => .skip
def f56.an : An := (.sq .leaf (.sq (.sq .leaf (.bl (.lp [3] [3, 4, 7, 8, 9, 10, 11, 12, 13, 14, 15, 16, 17, 18, 19, 20, 21, 22, 23, 24, 25, 26, 27, 28, 29] (.sq (.sq .leaf (.cn .leaf .leaf)) .leaf)))) (.sq .leaf (.sq .leaf (.sq .leaf .leaf)))))
theorem f56.body_eq : Tryz.f56.body = some f56.code := by kernel_rfl
theorem f56.shape (Z : List PanicEntry → World → Prop) (x0 : Value) (w : World) (Q : Value → World → Prop) : vc drawD Tryz.prog 38 Z [84] f56.an f56.code (fnQ Tryz.prog 38 Tryz.f56.results Q) (argEnv [x0]) w = f56.sh Z x0 w Q := by kernel_rfl
theorem f56.enters : ∀ f, f ∈ ([84] : List Nat) → Enters Tryz.prog f := by
 intro f hf
 simp only [List.mem_cons, List.not_mem_nil, or_false] at hf
 rcases hf with rfl
 · exact en84
theorem f56.calls {Z : List PanicEntry → World → Prop} {x0 : Value} {w : World} {Q : Value → World → Prop} (h : f56.sh Z x0 w Q) : CallV Tryz.prog Z 56 #[x0] w Q :=
 calls_of_vcn drawD_sound (Q := Q) (n := 38) (rs := Tryz.f56.results) (an := f56.an) (c := f56.code) (cal := [84]) (args := [x0]) Tryz.func56 (by kernel_rfl) rfl f56.body_eq follows (Nat.le_of_ble_eq_true (by kernel_rfl)) (enters_of_all f56.enters) ((f56.shape Z x0 w Q).mpr h)

def f57.sh (Z : List PanicEntry → World → Prop) (x0 : Value) (w : World) (Q : Value → World → Prop) : Prop :=
 ∃ J_1 : Nat → Value → World → Prop, (∃ m, J_1 m (Value.int IntKind.i64 0) w) ∧
 ∀ m_1, ∀ t3_2 : Value, ∀ w : World, J_1 m_1 t3_2 w → Env →
 run1 Tryz.prog Z (Builtin.len_ #[53] 3 #[x0]) w fun t9_3 w =>
 run1 Tryz.prog Z (binOp BinOp.lss 3 t3_2 t9_3) w fun t10_4 w =>
 CondV t10_4 (
 False) (
 CallV Tryz.prog Z 86 #[x0, (Value.int IntKind.i64 1)] w fun t32_5 w =>
 CallV Tryz.prog Z 86 #[x0, (Value.int IntKind.i64 24)] w fun t34_6 w =>
 guardW (t32_5) true (fun k => k (t34_6) w) (fun t37_7 w =>
 run1 Tryz.prog Z (pickV t32_5 t37_7 (Value.bool false)) w fun t38_8 w =>
 Q t38_8 w) w)
noncomputable def f57.code : Code := match Tryz.f57.body with | some c => c | none => .skip
def f57.an : An := (.sq .leaf (.sq (.sq .leaf (.bl (.lp [3] [3, 4, 7, 8, 9, 10, 11, 12, 13, 14, 15, 16, 17, 18, 19, 20, 21, 22, 23, 24, 25, 26, 27, 28, 29, 30] (.sq (.sq .leaf (.cn .leaf .leaf)) .leaf)))) (.sq .leaf (.sq .leaf (.sq .leaf .leaf)))))
theorem f57.body_eq : Tryz.f57.body = some f57.code := by kernel_rfl
theorem f57.shape (Z : List PanicEntry → World → Prop) (x0 : Value) (w : World) (Q : Value → World → Prop) : vc drawD Tryz.prog 39 Z [86] f57.an f57.code (fnQ Tryz.prog 39 Tryz.f57.results Q) (argEnv [x0]) w = f57.sh Z x0 w Q := by kernel_rfl
theorem f57.enters : ∀ f, f ∈ ([86] : List Nat) → Enters Tryz.prog f := by
 intro f hf
 simp only [List.mem_cons, List.not_mem_nil, or_false] at hf
 rcases hf with rfl
 · exact en86
theorem f57.calls {Z : List PanicEntry → World → Prop} {x0 : Value} {w : World} {Q : Value → World → Prop} (h : f57.sh Z x0 w Q) : CallV Tryz.prog Z 57 #[x0] w Q :=
 calls_of_vcn drawD_sound (Q := Q) (n := 39) (rs := Tryz.f57.results) (an := f57.an) (c := f57.code) (cal := [86]) (args := [x0]) Tryz.func57 (by kernel_rfl) rfl f57.body_eq follows (Nat.le_of_ble_eq_true (by kernel_rfl)) (enters_of_all f57.enters) ((f57.shape Z x0 w Q).mpr h)

def f58.sh (Z : List PanicEntry → World → Prop) (x0 : Value) (w : World) (Q : Value → World → Prop) : Prop :=
 ∃ J_1 : Nat → Value → World → Prop, (∃ m, J_1 m (Value.int IntKind.i64 0) w) ∧
 ∀ m_1, ∀ t3_2 : Value, ∀ w : World, J_1 m_1 t3_2 w → Env →
 run1 Tryz.prog Z (Builtin.len_ #[54] 3 #[x0]) w fun t9_3 w =>
 run1 Tryz.prog Z (binOp BinOp.lss 3 t3_2 t9_3) w fun t10_4 w =>
 CondV t10_4 (
 ∃ J_5 : Nat → Value → World → Prop, (∃ m, J_5 m (Value.int IntKind.i64 0) w) ∧
 ∀ m_5, ∀ t4_6 : Value, ∀ w : World, J_5 m_5 t4_6 w → Env →
 run1 Tryz.prog Z (Instr.indexAt 54 x0 t3_2) w fun t16_7 w =>
 run1 Tryz.prog Z (Instr.loadAt 51 t16_7) w fun t17_8 w =>
 run1 Tryz.prog Z (Builtin.len_ #[51] 3 #[t17_8]) w fun t18_9 w =>
 run1 Tryz.prog Z (binOp BinOp.lss 3 t4_6 t18_9) w fun t19_10 w =>
 CondV t19_10 (
 Drawn w fun w =>
 Pure1 Tryz.prog (Instr.indexAt 54 x0 t3_2) fun t24_11 =>
 Read1 Tryz.prog (Instr.loadAt 51 t24_11) w fun t25_12 =>
 Pure1 Tryz.prog (binOp BinOp.sub 3 (Value.int IntKind.i64 (-1000000)) t3_2) fun t28_13 =>
 CallV Tryz.prog Z 85 #[t28_13] w fun t29_14 w =>
 Still Tryz.prog (nx (Instr.loadAt 51 t24_11)) t25_12 w <|
 run1 Tryz.prog Z (convert 9 22 t29_14) w fun t30_15 w =>
 Still Tryz.prog (nx (Instr.loadAt 51 t24_11)) t25_12 w <|
 Pure1 Tryz.prog (Instr.indexAt 51 t25_12 t4_6) fun t31_16 =>
 run0 Tryz.prog Z (Instr.storeAt 22 t31_16 t30_15) w fun w =>
 run1 Tryz.prog Z (binOp BinOp.add 3 t4_6 (Value.int IntKind.i64 1)) w fun t21_17 w =>
 ∃ n_5, n_5 < m_5 ∧ J_5 n_5 t21_17 w) (
 run1 Tryz.prog Z (binOp BinOp.add 3 t3_2 (Value.int IntKind.i64 1)) w fun t12_18 w =>
 ∃ n_1, n_1 < m_1 ∧ J_1 n_1 t12_18 w)) (
 CallV Tryz.prog Z 87 #[x0, (Value.int IntKind.i64 1)] w fun t33_19 w =>
 CallV Tryz.prog Z 87 #[x0, (Value.int IntKind.i64 24)] w fun t35_20 w =>
 guardW (t33_19) true (fun k => k (t35_20) w) (fun t38_21 w =>
 run1 Tryz.prog Z (pickV t33_19 t38_21 (Value.bool false)) w fun t39_22 w =>
 Q t39_22 w) w)
noncomputable def f58.code : Code := match Tryz.f58.body with | some c => c | none => .skip
def f58.an : An := (.sq .leaf (.sq (.sq .leaf (.bl (.lp [3] [3, 4, 7, 8, 9, 10, 11, 12, 13, 14, 15, 16, 17, 18, 19, 20, 21, 22, 23, 24, 25, 26, 27, 28, 29, 30, 31] (.sq (.sq .leaf (.cn .leaf .leaf)) (.sq (.bl (.sq .leaf (.bl (.lp [4] [4, 13, 14, 15, 16, 17, 18, 19, 20, 21, 22, 23, 24, 25, 26, 27, 28, 29, 30, 31] (.sq (.sq .leaf (.cn .leaf .leaf)) (.sq (.bl (.dr (.take 0 false (.take 1 false (.take 2 false (.take 3 true (.take 4 false (.take 5 false (.take 6 false (.one 7 (.one 8 (.take 9 false (.one 10 .fin))))))))))))) .leaf)))))) .leaf))))) (.sq .leaf (.sq .leaf (.sq .leaf .leaf)))))
theorem f58.body_eq : Tryz.f58.body = some f58.code := by kernel_rfl
theorem f58.shape (Z : List PanicEntry → World → Prop) (x0 : Value) (w : World) (Q : Value → World → Prop) : vc drawD Tryz.prog 40 Z [85, 87] f58.an f58.code (fnQ Tryz.prog 40 Tryz.f58.results Q) (argEnv [x0]) w = f58.sh Z x0 w Q := by kernel_rfl
theorem f58.enters : ∀ f, f ∈ ([85, 87] : List Nat) → Enters Tryz.prog f := by
 intro f hf
 simp only [List.mem_cons, List.not_mem_nil, or_false] at hf
 rcases hf with rfl | rfl
 · exact en85
 · exact en87
theorem f58.calls {Z : List PanicEntry → World → Prop} {x0 : Value} {w : World} {Q : Value → World → Prop} (h : f58.sh Z x0 w Q) : CallV Tryz.prog Z 58 #[x0] w Q :=
 calls_of_vcn drawD_sound (Q := Q) (n := 40) (rs := Tryz.f58.results) (an := f58.an) (c := f58.code) (cal := [85, 87]) (args := [x0]) Tryz.func58 (by kernel_rfl) rfl f58.body_eq follows (Nat.le_of_ble_eq_true (by kernel_rfl)) (enters_of_all f58.enters) ((f58.shape Z x0 w Q).mpr h)

def f59.sh (Z : List PanicEntry → World → Prop) (x0 : Value) (w : World) (Q : Value → World → Prop) : Prop :=
 ∃ J_1 : Nat → Value → World → Prop, (∃ m, J_1 m (Value.int IntKind.i64 0) w) ∧
 ∀ m_1, ∀ t3_2 : Value, ∀ w : World, J_1 m_1 t3_2 w → Env →
 run1 Tryz.prog Z (Builtin.len_ #[55] 3 #[x0]) w fun t9_3 w =>
 run1 Tryz.prog Z (binOp BinOp.lss 3 t3_2 t9_3) w fun t10_4 w =>
 CondV t10_4 (
 False) (
 CallV Tryz.prog Z 88 #[x0, (Value.int IntKind.i64 1)] w fun t33_5 w =>
 CallV Tryz.prog Z 88 #[x0, (Value.int IntKind.i64 24)] w fun t35_6 w =>
 guardW (t33_5) true (fun k => k (t35_6) w) (fun t38_7 w =>
 run1 Tryz.prog Z (pickV t33_5 t38_7 (Value.bool false)) w fun t39_8 w =>
 Q t39_8 w) w)
noncomputable def f59.code : Code := match Tryz.f59.body with | some c => c | none => .skip
def f59.an : An := (.sq .leaf (.sq (.sq .leaf (.bl (.lp [3] [3, 4, 7, 8, 9, 10, 11, 12, 13, 14, 15, 16, 17, 18, 19, 20, 21, 22, 23, 24, 25, 26, 27, 28, 29, 30, 31] (.sq (.sq .leaf (.cn .leaf .leaf)) .leaf)))) (.sq .leaf (.sq .leaf (.sq .leaf .leaf)))))
theorem f59.body_eq : Tryz.f59.body = some f59.code := by kernel_rfl
theorem f59.shape (Z : List PanicEntry → World → Prop) (x0 : Value) (w : World) (Q : Value → World → Prop) : vc drawD Tryz.prog 40 Z [88] f59.an f59.code (fnQ Tryz.prog 40 Tryz.f59.results Q) (argEnv [x0]) w = f59.sh Z x0 w Q := by kernel_rfl
theorem f59.enters : ∀ f, f ∈ ([88] : List Nat) → Enters Tryz.prog f := by
 intro f hf
 simp only [List.mem_cons, List.not_mem_nil, or_false] at hf
 rcases hf with rfl
 · exact en88
theorem f59.calls {Z : List PanicEntry → World → Prop} {x0 : Value} {w : World} {Q : Value → World → Prop} (h : f59.sh Z x0 w Q) : CallV Tryz.prog Z 59 #[x0] w Q :=
 calls_of_vcn drawD_sound (Q := Q) (n := 40) (rs := Tryz.f59.results) (an := f59.an) (c := f59.code) (cal := [88]) (args := [x0]) Tryz.func59 (by kernel_rfl) rfl f59.body_eq follows (Nat.le_of_ble_eq_true (by kernel_rfl)) (enters_of_all f59.enters) ((f59.shape Z x0 w Q).mpr h)

def f60.sh (Z : List PanicEntry → World → Prop) (x0 : Value) (w : World) (Q : Value → World → Prop) : Prop :=
 ∃ J_1 : Nat → Value → World → Prop, (∃ m, J_1 m (Value.int IntKind.i64 0) w) ∧
 ∀ m_1, ∀ t3_2 : Value, ∀ w : World, J_1 m_1 t3_2 w → Env →
 run1 Tryz.prog Z (Builtin.len_ #[56] 3 #[x0]) w fun t9_3 w =>
 run1 Tryz.prog Z (binOp BinOp.lss 3 t3_2 t9_3) w fun t10_4 w =>
 CondV t10_4 (
 False) (
 CallV Tryz.prog Z 89 #[x0, (Value.int IntKind.i64 1)] w fun t34_5 w =>
 CallV Tryz.prog Z 89 #[x0, (Value.int IntKind.i64 24)] w fun t36_6 w =>
 guardW (t34_5) true (fun k => k (t36_6) w) (fun t39_7 w =>
 run1 Tryz.prog Z (pickV t34_5 t39_7 (Value.bool false)) w fun t40_8 w =>
 Q t40_8 w) w)
noncomputable def f60.code : Code := match Tryz.f60.body with | some c => c | none => .skip
def f60.an : An := (.sq .leaf (.sq (.sq .leaf (.bl (.lp [3] [3, 4, 7, 8, 9, 10, 11, 12, 13, 14, 15, 16, 17, 18, 19, 20, 21, 22, 23, 24, 25, 26, 27, 28, 29, 30, 31, 32] (.sq (.sq .leaf (.cn .leaf .leaf)) .leaf)))) (.sq .leaf (.sq .leaf (.sq .leaf .leaf)))))
theorem f60.body_eq : Tryz.f60.body = some f60.code := by kernel_rfl
theorem f60.shape (Z : List PanicEntry → World → Prop) (x0 : Value) (w : World) (Q : Value → World → Prop) : vc drawD Tryz.prog 41 Z [89] f60.an f60.code (fnQ Tryz.prog 41 Tryz.f60.results Q) (argEnv [x0]) w = f60.sh Z x0 w Q := by kernel_rfl
theorem f60.enters : ∀ f, f ∈ ([89] : List Nat) → Enters Tryz.prog f := by
 intro f hf
 simp only [List.mem_cons, List.not_mem_nil, or_false] at hf
 rcases hf with rfl
 · exact en89
theorem f60.calls {Z : List PanicEntry → World → Prop} {x0 : Value} {w : World} {Q : Value → World → Prop} (h : f60.sh Z x0 w Q) : CallV Tryz.prog Z 60 #[x0] w Q :=
 calls_of_vcn drawD_sound (Q := Q) (n := 41) (rs := Tryz.f60.results) (an := f60.an) (c := f60.code) (cal := [89]) (args := [x0]) Tryz.func60 (by kernel_rfl) rfl f60.body_eq follows (Nat.le_of_ble_eq_true (by kernel_rfl)) (enters_of_all f60.enters) ((f60.shape Z x0 w Q).mpr h)

def f61.sh (Z : List PanicEntry → World → Prop) (x0 : Value) (w : World) (Q : Value → World → Prop) : Prop :=
 ∃ J_1 : Nat → Value → World → Prop, (∃ m, J_1 m (Value.int IntKind.i64 0) w) ∧
 ∀ m_1, ∀ t3_2 : Value, ∀ w : World, J_1 m_1 t3_2 w → Env →
 run1 Tryz.prog Z (Builtin.len_ #[57] 3 #[x0]) w fun t9_3 w =>
 run1 Tryz.prog Z (binOp BinOp.lss 3 t3_2 t9_3) w fun t10_4 w =>
 CondV t10_4 (
 False) (
 CallV Tryz.prog Z 90 #[x0, (Value.int IntKind.i64 1)] w fun t32_5 w =>
 CallV Tryz.prog Z 90 #[x0, (Value.int IntKind.i64 24)] w fun t34_6 w =>
 guardW (t32_5) true (fun k => k (t34_6) w) (fun t37_7 w =>
 run1 Tryz.prog Z (pickV t32_5 t37_7 (Value.bool false)) w fun t38_8 w =>
 Q t38_8 w) w)
noncomputable def f61.code : Code := match Tryz.f61.body with | some c => c | none => .skip
def f61.an : An := (.sq .leaf (.sq (.sq .leaf (.bl (.lp [3] [3, 4, 7, 8, 9, 10, 11, 12, 13, 14, 15, 16, 17, 18, 19, 20, 21, 22, 23, 24, 25, 26, 27, 28, 29, 30] (.sq (.sq .leaf (.cn .leaf .leaf)) .leaf)))) (.sq .leaf (.sq .leaf (.sq .leaf .leaf)))))
theorem f61.body_eq : Tryz.f61.body = some f61.code := by kernel_rfl
theorem f61.shape (Z : List PanicEntry → World → Prop) (x0 : Value) (w : World) (Q : Value → World → Prop) : vc drawD Tryz.prog 39 Z [90] f61.an f61.code (fnQ Tryz.prog 39 Tryz.f61.results Q) (argEnv [x0]) w = f61.sh Z x0 w Q := by kernel_rfl
theorem f61.enters : ∀ f, f ∈ ([90] : List Nat) → Enters Tryz.prog f := by
 intro f hf
 simp only [List.mem_cons, List.not_mem_nil, or_false] at hf
 rcases hf with rfl
 · exact en90
theorem f61.calls {Z : List PanicEntry → World → Prop} {x0 : Value} {w : World} {Q : Value → World → Prop} (h : f61.sh Z x0 w Q) : CallV Tryz.prog Z 61 #[x0] w Q :=
 calls_of_vcn drawD_sound (Q := Q) (n := 39) (rs := Tryz.f61.results) (an := f61.an) (c := f61.code) (cal := [90]) (args := [x0]) Tryz.func61 (by kernel_rfl) rfl f61.body_eq follows (Nat.le_of_ble_eq_true (by kernel_rfl)) (enters_of_all f61.enters) ((f61.shape Z x0 w Q).mpr h)

def f62.sh (Z : List PanicEntry → World → Prop) (x0 : Value) (w : World) (Q : Value → World → Prop) : Prop :=
 ∃ J_1 : Nat → Value → World → Prop, (∃ m, J_1 m (Value.int IntKind.i64 0) w) ∧
 ∀ m_1, ∀ t3_2 : Value, ∀ w : World, J_1 m_1 t3_2 w → Env →
 run1 Tryz.prog Z (Builtin.len_ #[58] 3 #[x0]) w fun t9_3 w =>
 run1 Tryz.prog Z (binOp BinOp.lss 3 t3_2 t9_3) w fun t10_4 w =>
 CondV t10_4 (
 False) (
 CallV Tryz.prog Z 91 #[x0, (Value.int IntKind.i64 1)] w fun t33_5 w =>
 CallV Tryz.prog Z 91 #[x0, (Value.int IntKind.i64 24)] w fun t35_6 w =>
 guardW (t33_5) true (fun k => k (t35_6) w) (fun t38_7 w =>
 run1 Tryz.prog Z (pickV t33_5 t38_7 (Value.bool false)) w fun t39_8 w =>
 Q t39_8 w) w)
noncomputable def f62.code : Code := match Tryz.f62.body with | some c => c | none => .skip
def f62.an : An := (.sq .leaf (.sq (.sq .leaf (.bl (.lp [3] [3, 4, 7, 8, 9, 10, 11, 12, 13, 14, 15, 16, 17, 18, 19, 20, 21, 22, 23, 24, 25, 26, 27, 28, 29, 30, 31] (.sq (.sq .leaf (.cn .leaf .leaf)) .leaf)))) (.sq .leaf (.sq .leaf (.sq .leaf .leaf)))))
theorem f62.body_eq : Tryz.f62.body = some f62.code := by kernel_rfl
theorem f62.shape (Z : List PanicEntry → World → Prop) (x0 : Value) (w : World) (Q : Value → World → Prop) : vc drawD Tryz.prog 40 Z [91] f62.an f62.code (fnQ Tryz.prog 40 Tryz.f62.results Q) (argEnv [x0]) w = f62.sh Z x0 w Q := by kernel_rfl
theorem f62.enters : ∀ f, f ∈ ([91] : List Nat) → Enters Tryz.prog f := by
 intro f hf
 simp only [List.mem_cons, List.not_mem_nil, or_false] at hf
 rcases hf with rfl
 · exact en91
theorem f62.calls {Z : List PanicEntry → World → Prop} {x0 : Value} {w : World} {Q : Value → World → Prop} (h : f62.sh Z x0 w Q) : CallV Tryz.prog Z 62 #[x0] w Q :=
 calls_of_vcn drawD_sound (Q := Q) (n := 40) (rs := Tryz.f62.results) (an := f62.an) (c := f62.code) (cal := [91]) (args := [x0]) Tryz.func62 (by kernel_rfl) rfl f62.body_eq follows (Nat.le_of_ble_eq_true (by kernel_rfl)) (enters_of_all f62.enters) ((f62.shape Z x0 w Q).mpr h)

def f63.sh (Z : List PanicEntry → World → Prop) (x0 : Value) (w : World) (Q : Value → World → Prop) : Prop :=
 ∃ J_1 : Nat → Value → World → Prop, (∃ m, J_1 m (Value.int IntKind.i64 0) w) ∧
 ∀ m_1, ∀ t3_2 : Value, ∀ w : World, J_1 m_1 t3_2 w → Env →
 run1 Tryz.prog Z (Builtin.len_ #[59] 3 #[x0]) w fun t9_3 w =>
 run1 Tryz.prog Z (binOp BinOp.lss 3 t3_2 t9_3) w fun t10_4 w =>
 CondV t10_4 (
 False) (
 CallV Tryz.prog Z 92 #[x0, (Value.int IntKind.i64 1)] w fun t32_5 w =>
 CallV Tryz.prog Z 92 #[x0, (Value.int IntKind.i64 24)] w fun t34_6 w =>
 guardW (t32_5) true (fun k => k (t34_6) w) (fun t37_7 w =>
 run1 Tryz.prog Z (pickV t32_5 t37_7 (Value.bool false)) w fun t38_8 w =>
 Q t38_8 w) w)
noncomputable def f63.code : Code := match Tryz.f63.body with | some c => c | none => .skip
def f63.an : An := (.sq .leaf (.sq (.sq .leaf (.bl (.lp [3] [3, 4, 7, 8, 9, 10, 11, 12, 13, 14, 15, 16, 17, 18, 19, 20, 21, 22, 23, 24, 25, 26, 27, 28, 29, 30] (.sq (.sq .leaf (.cn .leaf .leaf)) .leaf)))) (.sq .leaf (.sq .leaf (.sq .leaf .leaf)))))
theorem f63.body_eq : Tryz.f63.body = some f63.code := by kernel_rfl
theorem f63.shape (Z : List PanicEntry → World → Prop) (x0 : Value) (w : World) (Q : Value → World → Prop) : vc drawD Tryz.prog 39 Z [92] f63.an f63.code (fnQ Tryz.prog 39 Tryz.f63.results Q) (argEnv [x0]) w = f63.sh Z x0 w Q := by kernel_rfl
theorem f63.enters : ∀ f, f ∈ ([92] : List Nat) → Enters Tryz.prog f := by
 intro f hf
 simp only [List.mem_cons, List.not_mem_nil, or_false] at hf
 rcases hf with rfl
 · exact en92
theorem f63.calls {Z : List PanicEntry → World → Prop} {x0 : Value} {w : World} {Q : Value → World → Prop} (h : f63.sh Z x0 w Q) : CallV Tryz.prog Z 63 #[x0] w Q :=
 calls_of_vcn drawD_sound (Q := Q) (n := 39) (rs := Tryz.f63.results) (an := f63.an) (c := f63.code) (cal := [92]) (args := [x0]) Tryz.func63 (by kernel_rfl) rfl f63.body_eq follows (Nat.le_of_ble_eq_true (by kernel_rfl)) (enters_of_all f63.enters) ((f63.shape Z x0 w Q).mpr h)

def f64.sh (Z : List PanicEntry → World → Prop) (x0 : Value) (w : World) (Q : Value → World → Prop) : Prop :=
 ∃ J_1 : Nat → Value → World → Prop, (∃ m, J_1 m (Value.int IntKind.i64 0) w) ∧
 ∀ m_1, ∀ t3_2 : Value, ∀ w : World, J_1 m_1 t3_2 w → Env →
 run1 Tryz.prog Z (Builtin.len_ #[60] 3 #[x0]) w fun t9_3 w =>
 run1 Tryz.prog Z (binOp BinOp.lss 3 t3_2 t9_3) w fun t10_4 w =>
 CondV t10_4 (
 False) (
 CallV Tryz.prog Z 93 #[x0, (Value.int IntKind.i64 1)] w fun t33_5 w =>
 CallV Tryz.prog Z 93 #[x0, (Value.int IntKind.i64 24)] w fun t35_6 w =>
 guardW (t33_5) true (fun k => k (t35_6) w) (fun t38_7 w =>
 run1 Tryz.prog Z (pickV t33_5 t38_7 (Value.bool false)) w fun t39_8 w =>
 Q t39_8 w) w)
noncomputable def f64.code : Code := match Tryz.f64.body with | some c => c | none => .skip
def f64.an : An := (.sq .leaf (.sq (.sq .leaf (.bl (.lp [3] [3, 4, 7, 8, 9, 10, 11, 12, 13, 14, 15, 16, 17, 18, 19, 20, 21, 22, 23, 24, 25, 26, 27, 28, 29, 30, 31] (.sq (.sq .leaf (.cn .leaf .leaf)) .leaf)))) (.sq .leaf (.sq .leaf (.sq .leaf .leaf)))))
theorem f64.body_eq : Tryz.f64.body = some f64.code := by kernel_rfl
theorem f64.shape (Z : List PanicEntry → World → Prop) (x0 : Value) (w : World) (Q : Value → World → Prop) : vc drawD Tryz.prog 40 Z [93] f64.an f64.code (fnQ Tryz.prog 40 Tryz.f64.results Q) (argEnv [x0]) w = f64.sh Z x0 w Q := by kernel_rfl
theorem f64.enters : ∀ f, f ∈ ([93] : List Nat) → Enters Tryz.prog f := by
 intro f hf
 simp only [List.mem_cons, List.not_mem_nil, or_false] at hf
 rcases hf with rfl
 · exact en93
theorem f64.calls {Z : List PanicEntry → World → Prop} {x0 : Value} {w : World} {Q : Value → World → Prop} (h : f64.sh Z x0 w Q) : CallV Tryz.prog Z 64 #[x0] w Q :=
 calls_of_vcn drawD_sound (Q := Q) (n := 40) (rs := Tryz.f64.results) (an := f64.an) (c := f64.code) (cal := [93]) (args := [x0]) Tryz.func64 (by kernel_rfl) rfl f64.body_eq follows (Nat.le_of_ble_eq_true (by kernel_rfl)) (enters_of_all f64.enters) ((f64.shape Z x0 w Q).mpr h)

def f65.sh (Z : List PanicEntry → World → Prop) (x0 : Value) (w : World) (Q : Value → World → Prop) : Prop :=
 ∃ J_1 : Nat → Value → World → Prop, (∃ m, J_1 m (Value.int IntKind.i64 0) w) ∧
 ∀ m_1, ∀ t3_2 : Value, ∀ w : World, J_1 m_1 t3_2 w → Env →
 run1 Tryz.prog Z (Builtin.len_ #[61] 3 #[x0]) w fun t9_3 w =>
 run1 Tryz.prog Z (binOp BinOp.lss 3 t3_2 t9_3) w fun t10_4 w =>
 CondV t10_4 (
 False) (
 CallV Tryz.prog Z 94 #[x0, (Value.int IntKind.i64 1)] w fun t32_5 w =>
 CallV Tryz.prog Z 94 #[x0, (Value.int IntKind.i64 24)] w fun t34_6 w =>
 guardW (t32_5) true (fun k => k (t34_6) w) (fun t37_7 w =>
 run1 Tryz.prog Z (pickV t32_5 t37_7 (Value.bool false)) w fun t38_8 w =>
 Q t38_8 w) w)
noncomputable def f65.code : Code := match Tryz.f65.body with | some c => c | none => .skip
def f65.an : An := (.sq .leaf (.sq (.sq .leaf (.bl (.lp [3] [3, 4, 7, 8, 9, 10, 11, 12, 13, 14, 15, 16, 17, 18, 19, 20, 21, 22, 23, 24, 25, 26, 27, 28, 29, 30] (.sq (.sq .leaf (.cn .leaf .leaf)) .leaf)))) (.sq .leaf (.sq .leaf (.sq .leaf .leaf)))))
theorem f65.body_eq : Tryz.f65.body = some f65.code := by kernel_rfl
theorem f65.shape (Z : List PanicEntry → World → Prop) (x0 : Value) (w : World) (Q : Value → World → Prop) : vc drawD Tryz.prog 39 Z [94] f65.an f65.code (fnQ Tryz.prog 39 Tryz.f65.results Q) (argEnv [x0]) w = f65.sh Z x0 w Q := by kernel_rfl
theorem f65.enters : ∀ f, f ∈ ([94] : List Nat) → Enters Tryz.prog f := by
 intro f hf
 simp only [List.mem_cons, List.not_mem_nil, or_false] at hf
 rcases hf with rfl
 · exact en94
theorem f65.calls {Z : List PanicEntry → World → Prop} {x0 : Value} {w : World} {Q : Value → World → Prop} (h : f65.sh Z x0 w Q) : CallV Tryz.prog Z 65 #[x0] w Q :=
 calls_of_vcn drawD_sound (Q := Q) (n := 39) (rs := Tryz.f65.results) (an := f65.an) (c := f65.code) (cal := [94]) (args := [x0]) Tryz.func65 (by kernel_rfl) rfl f65.body_eq follows (Nat.le_of_ble_eq_true (by kernel_rfl)) (enters_of_all f65.enters) ((f65.shape Z x0 w Q).mpr h)

def f66.sh (Z : List PanicEntry → World → Prop) (x0 : Value) (w : World) (Q : Value → World → Prop) : Prop :=
 ∃ J_1 : Nat → Value → World → Prop, (∃ m, J_1 m (Value.int IntKind.i64 0) w) ∧
 ∀ m_1, ∀ t3_2 : Value, ∀ w : World, J_1 m_1 t3_2 w → Env →
 run1 Tryz.prog Z (Builtin.len_ #[62] 3 #[x0]) w fun t9_3 w =>
 run1 Tryz.prog Z (binOp BinOp.lss 3 t3_2 t9_3) w fun t10_4 w =>
 CondV t10_4 (
 False) (
 CallV Tryz.prog Z 95 #[x0, (Value.int IntKind.i64 1)] w fun t33_5 w =>
 CallV Tryz.prog Z 95 #[x0, (Value.int IntKind.i64 24)] w fun t35_6 w =>
 guardW (t33_5) true (fun k => k (t35_6) w) (fun t38_7 w =>
 run1 Tryz.prog Z (pickV t33_5 t38_7 (Value.bool false)) w fun t39_8 w =>
 Q t39_8 w) w)
noncomputable def f66.code : Code := match Tryz.f66.body with | some c => c | none => .skip
def f66.an : An := (.sq .leaf (.sq (.sq .leaf (.bl (.lp [3] [3, 4, 7, 8, 9, 10, 11, 12, 13, 14, 15, 16, 17, 18, 19, 20, 21, 22, 23, 24, 25, 26, 27, 28, 29, 30, 31] (.sq (.sq .leaf (.cn .leaf .leaf)) .leaf)))) (.sq .leaf (.sq .leaf (.sq .leaf .leaf)))))
theorem f66.body_eq : Tryz.f66.body = some f66.code := by kernel_rfl
theorem f66.shape (Z : List PanicEntry → World → Prop) (x0 : Value) (w : World) (Q : Value → World → Prop) : vc drawD Tryz.prog 40 Z [95] f66.an f66.code (fnQ Tryz.prog 40 Tryz.f66.results Q) (argEnv [x0]) w = f66.sh Z x0 w Q := by kernel_rfl
theorem f66.enters : ∀ f, f ∈ ([95] : List Nat) → Enters Tryz.prog f := by
 intro f hf
 simp only [List.mem_cons, List.not_mem_nil, or_false] at hf
 rcases hf with rfl
 · exact en95
theorem f66.calls {Z : List PanicEntry → World → Prop} {x0 : Value} {w : World} {Q : Value → World → Prop} (h : f66.sh Z x0 w Q) : CallV Tryz.prog Z 66 #[x0] w Q :=
 calls_of_vcn drawD_sound (Q := Q) (n := 40) (rs := Tryz.f66.results) (an := f66.an) (c := f66.code) (cal := [95]) (args := [x0]) Tryz.func66 (by kernel_rfl) rfl f66.body_eq follows (Nat.le_of_ble_eq_true (by kernel_rfl)) (enters_of_all f66.enters) ((f66.shape Z x0 w Q).mpr h)

def f67.sh (Z : List PanicEntry → World → Prop) (x0 : Value) (w : World) (Q : Value → World → Prop) : Prop :=
 ∃ J_1 : Nat → Value → World → Prop, (∃ m, J_1 m (Value.int IntKind.i64 0) w) ∧
 ∀ m_1, ∀ t3_2 : Value, ∀ w : World, J_1 m_1 t3_2 w → Env →
 run1 Tryz.prog Z (Builtin.len_ #[63] 3 #[x0]) w fun t9_3 w =>
 run1 Tryz.prog Z (binOp BinOp.lss 3 t3_2 t9_3) w fun t10_4 w =>
 CondV t10_4 (
 False) (
 CallV Tryz.prog Z 96 #[x0, (Value.int IntKind.i64 1)] w fun t33_5 w =>
 CallV Tryz.prog Z 96 #[x0, (Value.int IntKind.i64 24)] w fun t35_6 w =>
 guardW (t33_5) true (fun k => k (t35_6) w) (fun t38_7 w =>
 run1 Tryz.prog Z (pickV t33_5 t38_7 (Value.bool false)) w fun t39_8 w =>
 Q t39_8 w) w)
noncomputable def f67.code : Code := match Tryz.f67.body with | some c => c | none => .skip
def f67.an : An := (.sq .leaf (.sq (.sq .leaf (.bl (.lp [3] [3, 4, 7, 8, 9, 10, 11, 12, 13, 14, 15, 16, 17, 18, 19, 20, 21, 22, 23, 24, 25, 26, 27, 28, 29, 30, 31] (.sq (.sq .leaf (.cn .leaf .leaf)) .leaf)))) (.sq .leaf (.sq .leaf (.sq .leaf .leaf)))))
theorem f67.body_eq : Tryz.f67.body = some f67.code := by kernel_rfl
theorem f67.shape (Z : List PanicEntry → World → Prop) (x0 : Value) (w : World) (Q : Value → World → Prop) : vc drawD Tryz.prog 40 Z [96] f67.an f67.code (fnQ Tryz.prog 40 Tryz.f67.results Q) (argEnv [x0]) w = f67.sh Z x0 w Q := by kernel_rfl
theorem f67.enters : ∀ f, f ∈ ([96] : List Nat) → Enters Tryz.prog f := by
 intro f hf
 simp only [List.mem_cons, List.not_mem_nil, or_false] at hf
 rcases hf with rfl
 · exact en96
theorem f67.calls {Z : List PanicEntry → World → Prop} {x0 : Value} {w : World} {Q : Value → World → Prop} (h : f67.sh Z x0 w Q) : CallV Tryz.prog Z 67 #[x0] w Q :=
 calls_of_vcn drawD_sound (Q := Q) (n := 40) (rs := Tryz.f67.results) (an := f67.an) (c := f67.code) (cal := [96]) (args := [x0]) Tryz.func67 (by kernel_rfl) rfl f67.body_eq follows (Nat.le_of_ble_eq_true (by kernel_rfl)) (enters_of_all f67.enters) ((f67.shape Z x0 w Q).mpr h)

def f68.sh (Z : List PanicEntry → World → Prop) (x0 : Value) (w : World) (Q : Value → World → Prop) : Prop :=
 ∃ J_1 : Nat → Value → World → Prop, (∃ m, J_1 m (Value.int IntKind.i64 0) w) ∧
 ∀ m_1, ∀ t3_2 : Value, ∀ w : World, J_1 m_1 t3_2 w → Env →
 run1 Tryz.prog Z (Builtin.len_ #[64] 3 #[x0]) w fun t9_3 w =>
 run1 Tryz.prog Z (binOp BinOp.lss 3 t3_2 t9_3) w fun t10_4 w =>
 CondV t10_4 (
 False) (
 CallV Tryz.prog Z 97 #[x0, (Value.int IntKind.i64 1)] w fun t32_5 w =>
 CallV Tryz.prog Z 97 #[x0, (Value.int IntKind.i64 24)] w fun t34_6 w =>
 guardW (t32_5) true (fun k => k (t34_6) w) (fun t37_7 w =>
 run1 Tryz.prog Z (pickV t32_5 t37_7 (Value.bool false)) w fun t38_8 w =>
 Q t38_8 w) w)
noncomputable def f68.code : Code := match Tryz.f68.body with | some c => c | none => .skip
def f68.an : An := (.sq .leaf (.sq (.sq .leaf (.bl (.lp [3] [3, 4, 7, 8, 9, 10, 11, 12, 13, 14, 15, 16, 17, 18, 19, 20, 21, 22, 23, 24, 25, 26, 27, 28, 29, 30] (.sq (.sq .leaf (.cn .leaf .leaf)) .leaf)))) (.sq .leaf (.sq .leaf (.sq .leaf .leaf)))))
theorem f68.body_eq : Tryz.f68.body = some f68.code := by kernel_rfl
theorem f68.shape (Z : List PanicEntry → World → Prop) (x0 : Value) (w : World) (Q : Value → World → Prop) : vc drawD Tryz.prog 39 Z [97] f68.an f68.code (fnQ Tryz.prog 39 Tryz.f68.results Q) (argEnv [x0]) w = f68.sh Z x0 w Q := by kernel_rfl
theorem f68.enters : ∀ f, f ∈ ([97] : List Nat) → Enters Tryz.prog f := by
 intro f hf
 simp only [List.mem_cons, List.not_mem_nil, or_false] at hf
 rcases hf with rfl
 · exact en97
theorem f68.calls {Z : List PanicEntry → World → Prop} {x0 : Value} {w : World} {Q : Value → World → Prop} (h : f68.sh Z x0 w Q) : CallV Tryz.prog Z 68 #[x0] w Q :=
 calls_of_vcn drawD_sound (Q := Q) (n := 39) (rs := Tryz.f68.results) (an := f68.an) (c := f68.code) (cal := [97]) (args := [x0]) Tryz.func68 (by kernel_rfl) rfl f68.body_eq follows (Nat.le_of_ble_eq_true (by kernel_rfl)) (enters_of_all f68.enters) ((f68.shape Z x0 w Q).mpr h)

def f69.sh (Z : List PanicEntry → World → Prop) (x0 : Value) (w : World) (Q : Value → World → Prop) : Prop :=
 ∃ J_1 : Nat → Value → World → Prop, (∃ m, J_1 m (Value.int IntKind.i64 0) w) ∧
 ∀ m_1, ∀ t3_2 : Value, ∀ w : World, J_1 m_1 t3_2 w → Env →
 run1 Tryz.prog Z (Builtin.len_ #[65] 3 #[x0]) w fun t9_3 w =>
 run1 Tryz.prog Z (binOp BinOp.lss 3 t3_2 t9_3) w fun t10_4 w =>
 CondV t10_4 (
 False) (
 CallV Tryz.prog Z 98 #[x0, (Value.int IntKind.i64 1)] w fun t34_5 w =>
 CallV Tryz.prog Z 98 #[x0, (Value.int IntKind.i64 24)] w fun t36_6 w =>
 guardW (t34_5) true (fun k => k (t36_6) w) (fun t39_7 w =>
 run1 Tryz.prog Z (pickV t34_5 t39_7 (Value.bool false)) w fun t40_8 w =>
 Q t40_8 w) w)
noncomputable def f69.code : Code := match Tryz.f69.body with | some c => c | none => .skip
def f69.an : An := (.sq .leaf (.sq (.sq .leaf (.bl (.lp [3] [3, 4, 7, 8, 9, 10, 11, 12, 13, 14, 15, 16, 17, 18, 19, 20, 21, 22, 23, 24, 25, 26, 27, 28, 29, 30, 31, 32] (.sq (.sq .leaf (.cn .leaf .leaf)) .leaf)))) (.sq .leaf (.sq .leaf (.sq .leaf .leaf)))))
theorem f69.body_eq : Tryz.f69.body = some f69.code := by kernel_rfl
theorem f69.shape (Z : List PanicEntry → World → Prop) (x0 : Value) (w : World) (Q : Value → World → Prop) : vc drawD Tryz.prog 41 Z [98] f69.an f69.code (fnQ Tryz.prog 41 Tryz.f69.results Q) (argEnv [x0]) w = f69.sh Z x0 w Q := by kernel_rfl
theorem f69.enters : ∀ f, f ∈ ([98] : List Nat) → Enters Tryz.prog f := by
 intro f hf
 simp only [List.mem_cons, List.not_mem_nil, or_false] at hf
 rcases hf with rfl
 · exact en98
theorem f69.calls {Z : List PanicEntry → World → Prop} {x0 : Value} {w : World} {Q : Value → World → Prop} (h : f69.sh Z x0 w Q) : CallV Tryz.prog Z 69 #[x0] w Q :=
 calls_of_vcn drawD_sound (Q := Q) (n := 41) (rs := Tryz.f69.results) (an := f69.an) (c := f69.code) (cal := [98]) (args := [x0]) Tryz.func69 (by kernel_rfl) rfl f69.body_eq follows (Nat.le_of_ble_eq_true (by kernel_rfl)) (enters_of_all f69.enters) ((f69.shape Z x0 w Q).mpr h)

def f70.sh (Z : List PanicEntry → World → Prop) (x0 : Value) (w : World) (Q : Value → World → Prop) : Prop :=
 ∃ J_1 : Nat → Value → World → Prop, (∃ m, J_1 m (Value.int IntKind.i64 0) w) ∧
 ∀ m_1, ∀ t3_2 : Value, ∀ w : World, J_1 m_1 t3_2 w → Env →
 run1 Tryz.prog Z (Builtin.len_ #[66] 3 #[x0]) w fun t9_3 w =>
 run1 Tryz.prog Z (binOp BinOp.lss 3 t3_2 t9_3) w fun t10_4 w =>
 CondV t10_4 (
 False) (
 CallV Tryz.prog Z 99 #[x0, (Value.int IntKind.i64 1)] w fun t32_5 w =>
 CallV Tryz.prog Z 99 #[x0, (Value.int IntKind.i64 24)] w fun t34_6 w =>
 guardW (t32_5) true (fun k => k (t34_6) w) (fun t37_7 w =>
 run1 Tryz.prog Z (pickV t32_5 t37_7 (Value.bool false)) w fun t38_8 w =>
 Q t38_8 w) w)
noncomputable def f70.code : Code := match Tryz.f70.body with | some c => c | none => .skip
def f70.an : An := (.sq .leaf (.sq (.sq .leaf (.bl (.lp [3] [3, 4, 7, 8, 9, 10, 11, 12, 13, 14, 15, 16, 17, 18, 19, 20, 21, 22, 23, 24, 25, 26, 27, 28, 29, 30] (.sq (.sq .leaf (.cn .leaf .leaf)) .leaf)))) (.sq .leaf (.sq .leaf (.sq .leaf .leaf)))))
theorem f70.body_eq : Tryz.f70.body = some f70.code := by kernel_rfl
theorem f70.shape (Z : List PanicEntry → World → Prop) (x0 : Value) (w : World) (Q : Value → World → Prop) : vc drawD Tryz.prog 39 Z [99] f70.an f70.code (fnQ Tryz.prog 39 Tryz.f70.results Q) (argEnv [x0]) w = f70.sh Z x0 w Q := by kernel_rfl
theorem f70.enters : ∀ f, f ∈ ([99] : List Nat) → Enters Tryz.prog f := by
 intro f hf
 simp only [List.mem_cons, List.not_mem_nil, or_false] at hf
 rcases hf with rfl
 · exact en99
theorem f70.calls {Z : List PanicEntry → World → Prop} {x0 : Value} {w : World} {Q : Value → World → Prop} (h : f70.sh Z x0 w Q) : CallV Tryz.prog Z 70 #[x0] w Q :=
 calls_of_vcn drawD_sound (Q := Q) (n := 39) (rs := Tryz.f70.results) (an := f70.an) (c := f70.code) (cal := [99]) (args := [x0]) Tryz.func70 (by kernel_rfl) rfl f70.body_eq follows (Nat.le_of_ble_eq_true (by kernel_rfl)) (enters_of_all f70.enters) ((f70.shape Z x0 w Q).mpr h)

def f71.sh (Z : List PanicEntry → World → Prop) (x0 : Value) (w : World) (Q : Value → World → Prop) : Prop :=
 ∃ J_1 : Nat → Value → World → Prop, (∃ m, J_1 m (Value.int IntKind.i64 0) w) ∧
 ∀ m_1, ∀ t3_2 : Value, ∀ w : World, J_1 m_1 t3_2 w → Env →
 run1 Tryz.prog Z (Builtin.len_ #[67] 3 #[x0]) w fun t9_3 w =>
 run1 Tryz.prog Z (binOp BinOp.lss 3 t3_2 t9_3) w fun t10_4 w =>
 CondV t10_4 (
 False) (
 CallV Tryz.prog Z 100 #[x0, (Value.int IntKind.i64 1)] w fun t33_5 w =>
 CallV Tryz.prog Z 100 #[x0, (Value.int IntKind.i64 24)] w fun t35_6 w =>
 guardW (t33_5) true (fun k => k (t35_6) w) (fun t38_7 w =>
 run1 Tryz.prog Z (pickV t33_5 t38_7 (Value.bool false)) w fun t39_8 w =>
 Q t39_8 w) w)
noncomputable def f71.code : Code := match Tryz.f71.body with | some c => c | none => .skip
def f71.an : An := (.sq .leaf (.sq (.sq .leaf (.bl (.lp [3] [3, 4, 7, 8, 9, 10, 11, 12, 13, 14, 15, 16, 17, 18, 19, 20, 21, 22, 23, 24, 25, 26, 27, 28, 29, 30, 31] (.sq (.sq .leaf (.cn .leaf .leaf)) .leaf)))) (.sq .leaf (.sq .leaf (.sq .leaf .leaf)))))
theorem f71.body_eq : Tryz.f71.body = some f71.code := by kernel_rfl
theorem f71.shape (Z : List PanicEntry → World → Prop) (x0 : Value) (w : World) (Q : Value → World → Prop) : vc drawD Tryz.prog 40 Z [100] f71.an f71.code (fnQ Tryz.prog 40 Tryz.f71.results Q) (argEnv [x0]) w = f71.sh Z x0 w Q := by kernel_rfl
theorem f71.enters : ∀ f, f ∈ ([100] : List Nat) → Enters Tryz.prog f := by
 intro f hf
 simp only [List.mem_cons, List.not_mem_nil, or_false] at hf
 rcases hf with rfl
 · exact en100
theorem f71.calls {Z : List PanicEntry → World → Prop} {x0 : Value} {w : World} {Q : Value → World → Prop} (h : f71.sh Z x0 w Q) : CallV Tryz.prog Z 71 #[x0] w Q :=
 calls_of_vcn drawD_sound (Q := Q) (n := 40) (rs := Tryz.f71.results) (an := f71.an) (c := f71.code) (cal := [100]) (args := [x0]) Tryz.func71 (by kernel_rfl) rfl f71.body_eq follows (Nat.le_of_ble_eq_true (by kernel_rfl)) (enters_of_all f71.enters) ((f71.shape Z x0 w Q).mpr h)

def f72.sh (Z : List PanicEntry → World → Prop) (x0 : Value) (w : World) (Q : Value → World → Prop) : Prop :=
 ∃ J_1 : Nat → Value → World → Prop, (∃ m, J_1 m (Value.int IntKind.i64 0) w) ∧
 ∀ m_1, ∀ t3_2 : Value, ∀ w : World, J_1 m_1 t3_2 w → Env →
 run1 Tryz.prog Z (Builtin.len_ #[68] 3 #[x0]) w fun t9_3 w =>
 run1 Tryz.prog Z (binOp BinOp.lss 3 t3_2 t9_3) w fun t10_4 w =>
 CondV t10_4 (
 False) (
 CallV Tryz.prog Z 101 #[x0, (Value.int IntKind.i64 1)] w fun t32_5 w =>
 CallV Tryz.prog Z 101 #[x0, (Value.int IntKind.i64 24)] w fun t34_6 w =>
 guardW (t32_5) true (fun k => k (t34_6) w) (fun t37_7 w =>
 run1 Tryz.prog Z (pickV t32_5 t37_7 (Value.bool false)) w fun t38_8 w =>
 Q t38_8 w) w)
noncomputable def f72.code : Code := match Tryz.f72.body with | some c => c | none => .skip
def f72.an : An := (.sq .leaf (.sq (.sq .leaf (.bl (.lp [3] [3, 4, 7, 8, 9, 10, 11, 12, 13, 14, 15, 16, 17, 18, 19, 20, 21, 22, 23, 24, 25, 26, 27, 28, 29, 30] (.sq (.sq .leaf (.cn .leaf .leaf)) .leaf)))) (.sq .leaf (.sq .leaf (.sq .leaf .leaf)))))
theorem f72.body_eq : Tryz.f72.body = some f72.code := by kernel_rfl
theorem f72.shape (Z : List PanicEntry → World → Prop) (x0 : Value) (w : World) (Q : Value → World → Prop) : vc drawD Tryz.prog 39 Z [101] f72.an f72.code (fnQ Tryz.prog 39 Tryz.f72.results Q) (argEnv [x0]) w = f72.sh Z x0 w Q := by kernel_rfl
theorem f72.enters : ∀ f, f ∈ ([101] : List Nat) → Enters Tryz.prog f := by
 intro f hf
 simp only [List.mem_cons, List.not_mem_nil, or_false] at hf
 rcases hf with rfl
 · exact en101
theorem f72.calls {Z : List PanicEntry → World → Prop} {x0 : Value} {w : World} {Q : Value → World → Prop} (h : f72.sh Z x0 w Q) : CallV Tryz.prog Z 72 #[x0] w Q :=
 calls_of_vcn drawD_sound (Q := Q) (n := 39) (rs := Tryz.f72.results) (an := f72.an) (c := f72.code) (cal := [101]) (args := [x0]) Tryz.func72 (by kernel_rfl) rfl f72.body_eq follows (Nat.le_of_ble_eq_true (by kernel_rfl)) (enters_of_all f72.enters) ((f72.shape Z x0 w Q).mpr h)

def f73.sh (Z : List PanicEntry → World → Prop) (x0 : Value) (w : World) (Q : Value → World → Prop) : Prop :=
 ∃ J_1 : Nat → Value → World → Prop, (∃ m, J_1 m (Value.int IntKind.i64 0) w) ∧
 ∀ m_1, ∀ t3_2 : Value, ∀ w : World, J_1 m_1 t3_2 w → Env →
 run1 Tryz.prog Z (Builtin.len_ #[69] 3 #[x0]) w fun t9_3 w =>
 run1 Tryz.prog Z (binOp BinOp.lss 3 t3_2 t9_3) w fun t10_4 w =>
 CondV t10_4 (
 False) (
 CallV Tryz.prog Z 102 #[x0, (Value.int IntKind.i64 1)] w fun t34_5 w =>
 CallV Tryz.prog Z 102 #[x0, (Value.int IntKind.i64 24)] w fun t36_6 w =>
 guardW (t34_5) true (fun k => k (t36_6) w) (fun t39_7 w =>
 run1 Tryz.prog Z (pickV t34_5 t39_7 (Value.bool false)) w fun t40_8 w =>
 Q t40_8 w) w)
noncomputable def f73.code : Code := match Tryz.f73.body with | some c => c | none => .skip
def f73.an : An := (.sq .leaf (.sq (.sq .leaf (.bl (.lp [3] [3, 4, 7, 8, 9, 10, 11, 12, 13, 14, 15, 16, 17, 18, 19, 20, 21, 22, 23, 24, 25, 26, 27, 28, 29, 30, 31, 32] (.sq (.sq .leaf (.cn .leaf .leaf)) .leaf)))) (.sq .leaf (.sq .leaf (.sq .leaf .leaf)))))
theorem f73.body_eq : Tryz.f73.body = some f73.code := by kernel_rfl
theorem f73.shape (Z : List PanicEntry → World → Prop) (x0 : Value) (w : World) (Q : Value → World → Prop) : vc drawD Tryz.prog 41 Z [102] f73.an f73.code (fnQ Tryz.prog 41 Tryz.f73.results Q) (argEnv [x0]) w = f73.sh Z x0 w Q := by kernel_rfl
theorem f73.enters : ∀ f, f ∈ ([102] : List Nat) → Enters Tryz.prog f := by
 intro f hf
 simp only [List.mem_cons, List.not_mem_nil, or_false] at hf
 rcases hf with rfl
 · exact en102
theorem f73.calls {Z : List PanicEntry → World → Prop} {x0 : Value} {w : World} {Q : Value → World → Prop} (h : f73.sh Z x0 w Q) : CallV Tryz.prog Z 73 #[x0] w Q :=
 calls_of_vcn drawD_sound (Q := Q) (n := 41) (rs := Tryz.f73.results) (an := f73.an) (c := f73.code) (cal := [102]) (args := [x0]) Tryz.func73 (by kernel_rfl) rfl f73.body_eq follows (Nat.le_of_ble_eq_true (by kernel_rfl)) (enters_of_all f73.enters) ((f73.shape Z x0 w Q).mpr h)

def f74.sh (Z : List PanicEntry → World → Prop) (x0 : Value) (w : World) (Q : Value → World → Prop) : Prop :=
 ∃ J_1 : Nat → Value → World → Prop, (∃ m, J_1 m (Value.int IntKind.i64 0) w) ∧
 ∀ m_1, ∀ t3_2 : Value, ∀ w : World, J_1 m_1 t3_2 w → Env →
 run1 Tryz.prog Z (Builtin.len_ #[70] 3 #[x0]) w fun t9_3 w =>
 run1 Tryz.prog Z (binOp BinOp.lss 3 t3_2 t9_3) w fun t10_4 w =>
 CondV t10_4 (
 False) (
 CallV Tryz.prog Z 103 #[x0, (Value.int IntKind.i64 1)] w fun t32_5 w =>
 CallV Tryz.prog Z 103 #[x0, (Value.int IntKind.i64 24)] w fun t34_6 w =>
 guardW (t32_5) true (fun k => k (t34_6) w) (fun t37_7 w =>
 run1 Tryz.prog Z (pickV t32_5 t37_7 (Value.bool false)) w fun t38_8 w =>
 Q t38_8 w) w)
noncomputable def f74.code : Code := match Tryz.f74.body with | some c => c | none => .skip
def f74.an : An := (.sq .leaf (.sq (.sq .leaf (.bl (.lp [3] [3, 4, 7, 8, 9, 10, 11, 12, 13, 14, 15, 16, 17, 18, 19, 20, 21, 22, 23, 24, 25, 26, 27, 28, 29, 30] (.sq (.sq .leaf (.cn .leaf .leaf)) .leaf)))) (.sq .leaf (.sq .leaf (.sq .leaf .leaf)))))
theorem f74.body_eq : Tryz.f74.body = some f74.code := by kernel_rfl
theorem f74.shape (Z : List PanicEntry → World → Prop) (x0 : Value) (w : World) (Q : Value → World → Prop) : vc drawD Tryz.prog 39 Z [103] f74.an f74.code (fnQ Tryz.prog 39 Tryz.f74.results Q) (argEnv [x0]) w = f74.sh Z x0 w Q := by kernel_rfl
theorem f74.enters : ∀ f, f ∈ ([103] : List Nat) → Enters Tryz.prog f := by
 intro f hf
 simp only [List.mem_cons, List.not_mem_nil, or_false] at hf
 rcases hf with rfl
 · exact en103
theorem f74.calls {Z : List PanicEntry → World → Prop} {x0 : Value} {w : World} {Q : Value → World → Prop} (h : f74.sh Z x0 w Q) : CallV Tryz.prog Z 74 #[x0] w Q :=
 calls_of_vcn drawD_sound (Q := Q) (n := 39) (rs := Tryz.f74.results) (an := f74.an) (c := f74.code) (cal := [103]) (args := [x0]) Tryz.func74 (by kernel_rfl) rfl f74.body_eq follows (Nat.le_of_ble_eq_true (by kernel_rfl)) (enters_of_all f74.enters) ((f74.shape Z x0 w Q).mpr h)

def f75.sh (Z : List PanicEntry → World → Prop) (x0 : Value) (w : World) (Q : Value → World → Prop) : Prop :=
 ∃ J_1 : Nat → Value → World → Prop, (∃ m, J_1 m (Value.int IntKind.i64 0) w) ∧
 ∀ m_1, ∀ t3_2 : Value, ∀ w : World, J_1 m_1 t3_2 w → Env →
 run1 Tryz.prog Z (Builtin.len_ #[71] 3 #[x0]) w fun t9_3 w =>
 run1 Tryz.prog Z (binOp BinOp.lss 3 t3_2 t9_3) w fun t10_4 w =>
 CondV t10_4 (
 False) (
 CallV Tryz.prog Z 104 #[x0, (Value.int IntKind.i64 1)] w fun t33_5 w =>
 CallV Tryz.prog Z 104 #[x0, (Value.int IntKind.i64 24)] w fun t35_6 w =>
 guardW (t33_5) true (fun k => k (t35_6) w) (fun t38_7 w =>
 run1 Tryz.prog Z (pickV t33_5 t38_7 (Value.bool false)) w fun t39_8 w =>
 Q t39_8 w) w)
noncomputable def f75.code : Code := match Tryz.f75.body with | some c => c | none => .skip
def f75.an : An := (.sq .leaf (.sq (.sq .leaf (.bl (.lp [3] [3, 4, 7, 8, 9, 10, 11, 12, 13, 14, 15, 16, 17, 18, 19, 20, 21, 22, 23, 24, 25, 26, 27, 28, 29, 30, 31] (.sq (.sq .leaf (.cn .leaf .leaf)) .leaf)))) (.sq .leaf (.sq .leaf (.sq .leaf .leaf)))))
theorem f75.body_eq : Tryz.f75.body = some f75.code := by kernel_rfl
theorem f75.shape (Z : List PanicEntry → World → Prop) (x0 : Value) (w : World) (Q : Value → World → Prop) : vc drawD Tryz.prog 40 Z [104] f75.an f75.code (fnQ Tryz.prog 40 Tryz.f75.results Q) (argEnv [x0]) w = f75.sh Z x0 w Q := by kernel_rfl
theorem f75.enters : ∀ f, f ∈ ([104] : List Nat) → Enters Tryz.prog f := by
 intro f hf
 simp only [List.mem_cons, List.not_mem_nil, or_false] at hf
 rcases hf with rfl
 · exact en104
theorem f75.calls {Z : List PanicEntry → World → Prop} {x0 : Value} {w : World} {Q : Value → World → Prop} (h : f75.sh Z x0 w Q) : CallV Tryz.prog Z 75 #[x0] w Q :=
 calls_of_vcn drawD_sound (Q := Q) (n := 40) (rs := Tryz.f75.results) (an := f75.an) (c := f75.code) (cal := [104]) (args := [x0]) Tryz.func75 (by kernel_rfl) rfl f75.body_eq follows (Nat.le_of_ble_eq_true (by kernel_rfl)) (enters_of_all f75.enters) ((f75.shape Z x0 w Q).mpr h)

def f76.sh (Z : List PanicEntry → World → Prop) (x0 x1 : Value) (w : World) (Q : Value → World → Prop) : Prop :=
 CallV Tryz.prog Z 53 #[x0] w fun t7_1 w =>
 run1 Tryz.prog Z (Op.unary UnOp.not t7_1) w fun t8_2 w =>
 CondV t8_2 (
 Q (Value.tuple #[(Value.slice none 0 0), (Value.bool false)]) w) (
 runX Tryz.prog Z (nilChk x0) w fun t10_3 w =>
 run1 Tryz.prog Z (Instr.fieldAt 49 t10_3 1) w fun t11_4 w =>
 run1 Tryz.prog Z (Instr.loadAt 22 t11_4) w fun t12_5 w =>
 run1 Tryz.prog Z (Builtin.len_ #[22] 3 #[t12_5]) w fun t13_6 w =>
 run1 Tryz.prog Z (binOp BinOp.lss 3 t13_6 x1) w fun t15_7 w =>
 CondV t15_7 (
 runX Tryz.prog Z (nilChk x0) w fun t17_8 w =>
 run1 Tryz.prog Z (Instr.fieldAt 49 t17_8 2) w fun t18_9 w =>
 run0 Tryz.prog Z (Instr.storeAt 47 t18_9 (Value.int IntKind.i64 10)) w fun w =>
 Q (Value.tuple #[(Value.slice none 0 0), (Value.bool false)]) w) (
 runX Tryz.prog Z (nilChk x0) w fun t20_10 w =>
 run1 Tryz.prog Z (Instr.fieldAt 49 t20_10 1) w fun t21_11 w =>
 run1 Tryz.prog Z (Instr.loadAt 22 t21_11) w fun t22_12 w =>
 run1 Tryz.prog Z (Instr.sliceAt 22 t22_12 none (some x1) (some x1)) w fun t25_13 w =>
 Q (Value.tuple #[t25_13, (Value.bool true)]) w))
noncomputable def f76.code : Code := match Tryz.f76.body with | some c => c | none => .skip
def f76.an : An := (.sq .leaf (.sq (.sq .leaf (.cn (.sq .leaf .leaf) .leaf)) (.sq (.sq .leaf (.cn (.sq .leaf (.sq .leaf .leaf)) .leaf)) (.sq .leaf .leaf))))
theorem f76.body_eq : Tryz.f76.body = some f76.code := by kernel_rfl
theorem f76.shape (Z : List PanicEntry → World → Prop) (x0 x1 : Value) (w : World) (Q : Value → World → Prop) : vc drawD Tryz.prog 26 Z [53] f76.an f76.code (fnQ Tryz.prog 26 Tryz.f76.results Q) (argEnv [x0, x1]) w = f76.sh Z x0 x1 w Q := by kernel_rfl
theorem f76.enters : ∀ f, f ∈ ([53] : List Nat) → Enters Tryz.prog f := by
 intro f hf
 simp only [List.mem_cons, List.not_mem_nil, or_false] at hf
 rcases hf with rfl
 · exact en53
theorem f76.calls {Z : List PanicEntry → World → Prop} {x0 x1 : Value} {w : World} {Q : Value → World → Prop} (h : f76.sh Z x0 x1 w Q) : CallV Tryz.prog Z 76 #[x0, x1] w Q :=
 calls_of_vcn drawD_sound (Q := Q) (n := 26) (rs := Tryz.f76.results) (an := f76.an) (c := f76.code) (cal := [53]) (args := [x0, x1]) Tryz.func76 (by kernel_rfl) rfl f76.body_eq follows (Nat.le_of_ble_eq_true (by kernel_rfl)) (enters_of_all f76.enters) ((f76.shape Z x0 x1 w Q).mpr h)

def f78.sh (Z : List PanicEntry → World → Prop) (x0 x1 x2 : Value) (w : World) (Q : Value → World → Prop) : Prop :=
 runX Tryz.prog Z (nilChk x0) w fun t10_1 w =>
 run1 Tryz.prog Z (Instr.fieldAt 49 t10_1 1) w fun t11_2 w =>
 run0 Tryz.prog Z (Instr.storeAt 22 t11_2 x1) w fun w =>
 runX Tryz.prog Z (nilChk x0) w fun t12_3 w =>
 run1 Tryz.prog Z (Instr.fieldAt 49 t12_3 2) w fun t13_4 w =>
 run0 Tryz.prog Z (Instr.storeAt 47 t13_4 x2) w fun w =>
 Q (Value.tuple #[]) w
noncomputable def f78.code : Code := match Tryz.f78.body with | some c => c | none => .skip
def f78.an : An := .leaf
theorem f78.body_eq : Tryz.f78.body = some f78.code := by kernel_rfl
theorem f78.shape (Z : List PanicEntry → World → Prop) (x0 x1 x2 : Value) (w : World) (Q : Value → World → Prop) : vc drawD Tryz.prog 14 Z [] f78.an f78.code (fnQ Tryz.prog 14 Tryz.f78.results Q) (argEnv [x0, x1, x2]) w = f78.sh Z x0 x1 x2 w Q := by kernel_rfl
theorem f78.enters : ∀ f, f ∈ ([] : List Nat) → Enters Tryz.prog f := by
 intro f hf
 cases hf
theorem f78.calls {Z : List PanicEntry → World → Prop} {x0 x1 x2 : Value} {w : World} {Q : Value → World → Prop} (h : f78.sh Z x0 x1 x2 w Q) : CallV Tryz.prog Z 78 #[x0, x1, x2] w Q :=
 calls_of_vcn drawD_sound (Q := Q) (n := 14) (rs := Tryz.f78.results) (an := f78.an) (c := f78.code) (cal := []) (args := [x0, x1, x2]) Tryz.func78 (by kernel_rfl) rfl f78.body_eq follows (Nat.le_of_ble_eq_true (by kernel_rfl)) (enters_of_all f78.enters) ((f78.shape Z x0 x1 x2 w Q).mpr h)

def f79.sh (Z : List PanicEntry → World → Prop) (x0 x1 : Value) (w : World) (Q : Value → World → Prop) : Prop :=
 CallV Tryz.prog Z 30 #[x0] w fun t10_1 w =>
 CallV Tryz.prog Z 14 #[x0] w fun t12_2 w =>
 run1 Tryz.prog Z (convert 21 3 t12_2) w fun t13_3 w =>
 CallV Tryz.prog Z 53 #[x0] w fun t15_4 w =>
 run1 Tryz.prog Z (Op.unary UnOp.not t15_4) w fun t16_5 w =>
 CondV t16_5 (
 Q (Value.slice none 0 0) w) (
 run1 Tryz.prog Z (binOp BinOp.lss 3 t13_3 (Value.int IntKind.i64 0)) w fun t18_6 w =>
 guardW (t18_6) false (fun k => k (t13_3) w) (fun t20_7 w =>
 guardW (t18_6) false (fun k => k (x1) w) (fun t21_8 w =>
 guardW (t18_6) false (fun k => run1 Tryz.prog Z (binOp BinOp.gtr 3 t20_7 t21_8) w k) (fun t22_9 w =>
 run1 Tryz.prog Z (pickV t18_6 (Value.bool true) t22_9) w fun t23_10 w =>
 CondV t23_10 (
 CallV Tryz.prog Z 78 #[x0, t10_1, (Value.int IntKind.i64 11)] w fun t26_11 w =>
 Q (Value.slice none 0 0) w) (
 CallV Tryz.prog Z 76 #[x0, t13_3] w fun t30_12 w =>
 run1 Tryz.prog Z (Instr.extract t30_12 0) w fun t31_13 w =>
 run1 Tryz.prog Z (Instr.extract t30_12 1) w fun t32_14 w =>
 run1 Tryz.prog Z (Op.unary UnOp.not t32_14) w fun t34_15 w =>
 CondV t34_15 (
 CallV Tryz.prog Z 78 #[x0, t10_1, (Value.int IntKind.i64 10)] w fun t37_16 w =>
 Q (Value.slice none 0 0) w) (
 runX Tryz.prog Z (nilChk x0) w fun t40_17 w =>
 run1 Tryz.prog Z (Instr.fieldAt 49 t40_17 1) w fun t41_18 w =>
 run1 Tryz.prog Z (Instr.loadAt 22 t41_18) w fun t42_19 w =>
 run1 Tryz.prog Z (Instr.sliceAt 22 t42_19 (some t13_3) none none) w fun t44_20 w =>
 runX Tryz.prog Z (nilChk x0) w fun t45_21 w =>
 run1 Tryz.prog Z (Instr.fieldAt 49 t45_21 1) w fun t46_22 w =>
 run0 Tryz.prog Z (Instr.storeAt 22 t46_22 t44_20) w fun w =>
 Q t31_13 w))) w) w) w)
noncomputable def f79.code : Code := match Tryz.f79.body with | some c => c | none => .skip
def f79.an : An := (.sq .leaf (.sq .leaf (.sq .leaf (.sq (.sq .leaf (.cn (.sq .leaf .leaf) .leaf)) (.sq (.sq .leaf (.cn (.sq .leaf (.sq .leaf .leaf)) .leaf)) (.sq .leaf (.sq (.sq .leaf (.cn (.sq .leaf (.sq .leaf .leaf)) .leaf)) (.sq .leaf (.sq .leaf .leaf)))))))))
theorem f79.body_eq : Tryz.f79.body = some f79.code := by kernel_rfl
theorem f79.shape (Z : List PanicEntry → World → Prop) (x0 x1 : Value) (w : World) (Q : Value → World → Prop) : vc drawD Tryz.prog 48 Z [30, 14, 53, 78, 76] f79.an f79.code (fnQ Tryz.prog 48 Tryz.f79.results Q) (argEnv [x0, x1]) w = f79.sh Z x0 x1 w Q := by kernel_rfl
theorem f79.enters : ∀ f, f ∈ ([30, 14, 53, 78, 76] : List Nat) → Enters Tryz.prog f := by
 intro f hf
 simp only [List.mem_cons, List.not_mem_nil, or_false] at hf
 rcases hf with rfl | rfl | rfl | rfl | rfl
 · exact en30
 · exact en14
 · exact en53
 · exact en78
 · exact en76
theorem f79.calls {Z : List PanicEntry → World → Prop} {x0 x1 : Value} {w : World} {Q : Value → World → Prop} (h : f79.sh Z x0 x1 w Q) : CallV Tryz.prog Z 79 #[x0, x1] w Q :=
 calls_of_vcn drawD_sound (Q := Q) (n := 48) (rs := Tryz.f79.results) (an := f79.an) (c := f79.code) (cal := [30, 14, 53, 78, 76]) (args := [x0, x1]) Tryz.func79 (by kernel_rfl) rfl f79.body_eq follows (Nat.le_of_ble_eq_true (by kernel_rfl)) (enters_of_all f79.enters) ((f79.shape Z x0 x1 w Q).mpr h)

def f80.sh (Z : List PanicEntry → World → Prop) (x0 x1 : Value) (w : World) (Q : Value → World → Prop) : Prop :=
 runX Tryz.prog Z (nilChk x0) w fun t9_1 w =>
 run1 Tryz.prog Z (Instr.fieldAt 83 t9_1 2) w fun t10_2 w =>
 run1 Tryz.prog Z (Instr.loadAt 47 t10_2) w fun t11_3 w =>
 run1 Tryz.prog Z (eqOp BinOp.neq 47 false true t11_3 (Value.int IntKind.i64 0)) w fun t12_4 w =>
 CondV t12_4 (
 Q (Value.tuple #[(Value.int IntKind.u64 0), (Value.bool false)]) w) (
 Drawn w fun w =>
 PureV Tryz.prog (nilChk x0) fun t14_5 =>
 Pure1 Tryz.prog (Instr.fieldAt 83 t14_5 0) fun t15_6 =>
 Read1 Tryz.prog (Instr.loadAt 22 t15_6) w fun t16_7 =>
 Pure1 Tryz.prog (Builtin.len_ #[22] 3 #[t16_7]) fun t17_8 =>
 PureV Tryz.prog (nilChk x0) fun t19_9 =>
 Pure1 Tryz.prog (Instr.fieldAt 83 t19_9 1) fun t20_10 =>
 Read1 Tryz.prog (Instr.loadAt 3 t20_10) w fun t21_11 =>
 Pure1 Tryz.prog (binOp BinOp.sub 3 t17_8 t21_11) fun t22_12 =>
 Pure1 Tryz.prog (binOp BinOp.lss 3 t22_12 x1) fun t24_13 =>
 CondV t24_13 (
 runX Tryz.prog Z (nilChk x0) w fun t26_14 w =>
 run1 Tryz.prog Z (Instr.fieldAt 83 t26_14 2) w fun t27_15 w =>
 run0 Tryz.prog Z (Instr.storeAt 47 t27_15 (Value.int IntKind.i64 10)) w fun w =>
 Q (Value.tuple #[(Value.int IntKind.u64 0), (Value.bool false)]) w) (
 ∃ J_16 : Nat → Value → Value → World → Prop, (∃ m, J_16 m (Value.int IntKind.u64 0) (Value.int IntKind.i64 0) w) ∧
 ∀ m_16, ∀ t6_17 : Value, ∀ t7_18 : Value, ∀ w : World, J_16 m_16 t6_17 t7_18 w → Env →
 run1 Tryz.prog Z (binOp BinOp.lss 3 t7_18 x1) w fun t30_19 w =>
 CondV t30_19 (
 Drawn w fun w =>
 Pure1 Tryz.prog (binOp BinOp.mul 86 t6_17 (Value.int IntKind.u64 256)) fun t34_20 =>
 PureV Tryz.prog (nilChk x0) fun t36_21 =>
 Pure1 Tryz.prog (Instr.fieldAt 83 t36_21 0) fun t37_22 =>
 Read1 Tryz.prog (Instr.loadAt 22 t37_22) w fun t38_23 =>
 PureV Tryz.prog (nilChk x0) fun t40_24 =>
 Pure1 Tryz.prog (Instr.fieldAt 83 t40_24 1) fun t41_25 =>
 Read1 Tryz.prog (Instr.loadAt 3 t41_25) w fun t42_26 =>
 Pure1 Tryz.prog (Instr.indexAt 22 t38_23 t42_26) fun t43_27 =>
 Read1 Tryz.prog (Instr.loadAt 5 t43_27) w fun t44_28 =>
 Pure1 Tryz.prog (convert 5 86 t44_28) fun t45_29 =>
 Pure1 Tryz.prog (binOp BinOp.add 86 t34_20 t45_29) fun t46_30 =>
 runX Tryz.prog Z (nilChk x0) w fun t48_31 w =>
 run1 Tryz.prog Z (Instr.fieldAt 83 t48_31 1) w fun t49_32 w =>
 run1 Tryz.prog Z (Instr.loadAt 3 t49_32) w fun t50_33 w =>
 run1 Tryz.prog Z (binOp BinOp.add 3 t50_33 (Value.int IntKind.i64 1)) w fun t51_34 w =>
 runX Tryz.prog Z (nilChk x0) w fun t52_35 w =>
 run1 Tryz.prog Z (Instr.fieldAt 83 t52_35 1) w fun t53_36 w =>
 run0 Tryz.prog Z (Instr.storeAt 3 t53_36 t51_34) w fun w =>
 run1 Tryz.prog Z (binOp BinOp.add 3 t7_18 (Value.int IntKind.i64 1)) w fun t32_37 w =>
 ∃ n_16, n_16 < m_16 ∧ J_16 n_16 t46_30 t32_37 w) (
 Q (Value.tuple #[t6_17, (Value.bool true)]) w)))
noncomputable def f80.code : Code := match Tryz.f80.body with | some c => c | none => .skip
def f80.an : An := (.sq .leaf (.sq (.sq .leaf (.cn (.sq .leaf .leaf) .leaf)) (.sq (.sq (.dr (.take 0 false (.take 1 false (.take 2 false (.take 3 true (.take 4 false (.take 5 false (.take 6 false (.take 7 false (.take 8 true (.take 9 false (.take 10 false (.take 11 false .fin))))))))))))) (.cn (.sq .leaf (.sq .leaf .leaf)) .leaf)) (.sq .leaf (.sq (.sq .leaf (.bl (.lp [6, 7] [6, 7, 28, 29, 30, 31, 32, 33, 34, 35, 36, 37, 38, 39, 40, 41, 42, 43, 44, 45, 46, 47, 48, 49, 50, 51, 52, 53] (.sq (.sq .leaf (.cn .leaf .leaf)) (.sq (.bl (.sq (.dr (.take 0 false (.take 1 false (.take 2 false (.take 3 false (.take 4 false (.take 5 true (.take 6 false (.take 7 false (.take 8 false (.take 9 true (.take 10 false (.take 11 true (.take 12 false (.take 13 false (.take 14 false .fin)))))))))))))))) .leaf)) .leaf))))) (.sq .leaf .leaf))))))
theorem f80.body_eq : Tryz.f80.body = some f80.code := by kernel_rfl
theorem f80.shape (Z : List PanicEntry → World → Prop) (x0 x1 : Value) (w : World) (Q : Value → World → Prop) : vc drawD Tryz.prog 55 Z [] f80.an f80.code (fnQ Tryz.prog 55 Tryz.f80.results Q) (argEnv [x0, x1]) w = f80.sh Z x0 x1 w Q := by kernel_rfl
theorem f80.enters : ∀ f, f ∈ ([] : List Nat) → Enters Tryz.prog f := by
 intro f hf
 cases hf
theorem f80.calls {Z : List PanicEntry → World → Prop} {x0 x1 : Value} {w : World} {Q : Value → World → Prop} (h : f80.sh Z x0 x1 w Q) : CallV Tryz.prog Z 80 #[x0, x1] w Q :=
 calls_of_vcn drawD_sound (Q := Q) (n := 55) (rs := Tryz.f80.results) (an := f80.an) (c := f80.code) (cal := []) (args := [x0, x1]) Tryz.func80 (by kernel_rfl) rfl f80.body_eq follows (Nat.le_of_ble_eq_true (by kernel_rfl)) (enters_of_all f80.enters) ((f80.shape Z x0 x1 w Q).mpr h)

def f81.sh (Z : List PanicEntry → World → Prop) (x0 x1 x2 : Value) (w : World) (Q : Value → World → Prop) : Prop :=
 runX Tryz.prog Z (nilChk x0) w fun t8_1 w =>
 run1 Tryz.prog Z (Instr.fieldAt 83 t8_1 1) w fun t9_2 w =>
 run0 Tryz.prog Z (Instr.storeAt 3 t9_2 x1) w fun w =>
 runX Tryz.prog Z (nilChk x0) w fun t12_3 w =>
 run1 Tryz.prog Z (Instr.fieldAt 83 t12_3 2) w fun t13_4 w =>
 run0 Tryz.prog Z (Instr.storeAt 47 t13_4 x2) w fun w =>
 Q (Value.tuple #[]) w
noncomputable def f81.code : Code := match Tryz.f81.body with | some c => c | none => .skip
def f81.an : An := (.sq .leaf .leaf)
theorem f81.body_eq : Tryz.f81.body = some f81.code := by kernel_rfl
theorem f81.shape (Z : List PanicEntry → World → Prop) (x0 x1 x2 : Value) (w : World) (Q : Value → World → Prop) : vc drawD Tryz.prog 14 Z [] f81.an f81.code (fnQ Tryz.prog 14 Tryz.f81.results Q) (argEnv [x0, x1, x2]) w = f81.sh Z x0 x1 x2 w Q := by kernel_rfl
theorem f81.enters : ∀ f, f ∈ ([] : List Nat) → Enters Tryz.prog f := by
 intro f hf
 cases hf
theorem f81.calls {Z : List PanicEntry → World → Prop} {x0 x1 x2 : Value} {w : World} {Q : Value → World → Prop} (h : f81.sh Z x0 x1 x2 w Q) : CallV Tryz.prog Z 81 #[x0, x1, x2] w Q :=
 calls_of_vcn drawD_sound (Q := Q) (n := 14) (rs := Tryz.f81.results) (an := f81.an) (c := f81.code) (cal := []) (args := [x0, x1, x2]) Tryz.func81 (by kernel_rfl) rfl f81.body_eq follows (Nat.le_of_ble_eq_true (by kernel_rfl)) (enters_of_all f81.enters) ((f81.shape Z x0 x1 x2 w Q).mpr h)

def f82.sh (Z : List PanicEntry → World → Prop) (x0 : Value) (w : World) (Q : Value → World → Prop) : Prop :=
 run1 Tryz.prog Z (binOp BinOp.quo 86 x0 (Value.int IntKind.u64 9223372036854775808)) w fun t10_1 w =>
 run1 Tryz.prog Z (binOp BinOp.quo 86 x0 (Value.int IntKind.u64 4503599627370496)) w fun t12_2 w =>
 run1 Tryz.prog Z (binOp BinOp.rem 86 t12_2 (Value.int IntKind.u64 2048)) w fun t13_3 w =>
 run1 Tryz.prog Z (convert 86 3 t13_3) w fun t14_4 w =>
 run1 Tryz.prog Z (binOp BinOp.rem 86 x0 (Value.int IntKind.u64 4503599627370496)) w fun t16_5 w =>
 run1 Tryz.prog Z (convert 86 44 t16_5) w fun t17_6 w =>
 run1 Tryz.prog Z (eqOp BinOp.eql 3 false true t14_4 (Value.int IntKind.i64 2047)) w fun t19_7 w =>
 CondV t19_7 (
 run1 Tryz.prog Z (eqOp BinOp.neq 44 false true t17_6 (Value.float FloatKind.f64 0)) w fun t21_8 w =>
 CondV t21_8 (
 run1 Tryz.prog Z (binOp BinOp.quo 44 (Value.float FloatKind.f64 0) (Value.float FloatKind.f64 0)) w fun t24_9 w =>
 run1 Tryz.prog Z (eqOp BinOp.eql 86 false true x0 (Value.int IntKind.u64 9221120237041090560)) w fun t26_10 w =>
 Q (Value.tuple #[t24_9, t26_10]) w) (
 run1 Tryz.prog Z (eqOp BinOp.eql 86 false true t10_1 (Value.int IntKind.u64 1)) w fun t28_11 w =>
 CondV t28_11 (
 run1 Tryz.prog Z (binOp BinOp.quo 44 (Value.float FloatKind.f64 13830554455654793216) (Value.float FloatKind.f64 0)) w fun t30_12 w =>
 Q (Value.tuple #[t30_12, (Value.bool true)]) w) (
 run1 Tryz.prog Z (binOp BinOp.quo 44 (Value.float FloatKind.f64 4607182418800017408) (Value.float FloatKind.f64 0)) w fun t32_13 w =>
 Q (Value.tuple #[t32_13, (Value.bool true)]) w))) (
 run1 Tryz.prog Z (binOp BinOp.quo 44 t17_6 (Value.float FloatKind.f64 4841369599423283200)) w fun t34_14 w =>
 ∀ j_15 : Value → Value → World → Prop, (∀ t5_16 : Value, ∀ t8_17 : Value, ∀ w : World, (Env →
 ∃ J_18 : Nat → Value → Value → World → Prop, (∃ m, J_18 m t5_16 t8_17 w) ∧
 ∀ m_18, ∀ t5_19 : Value, ∀ t8_20 : Value, ∀ w : World, J_18 m_18 t5_19 t8_20 w → Env →
 run1 Tryz.prog Z (binOp BinOp.lss 3 t5_19 (Value.int IntKind.i64 1022)) w fun t42_21 w =>
 CondV t42_21 (
 run1 Tryz.prog Z (binOp BinOp.quo 44 t8_20 (Value.float FloatKind.f64 4611686018427387904)) w fun t44_22 w =>
 run1 Tryz.prog Z (binOp BinOp.add 3 t5_19 (Value.int IntKind.i64 1)) w fun t46_23 w =>
 ∃ n_18, n_18 < m_18 ∧ J_18 n_18 t46_23 t44_22 w) (
 ∃ J_24 : Nat → Value → Value → World → Prop, (∃ m, J_24 m t5_19 t8_20 w) ∧
 ∀ m_24, ∀ t5_25 : Value, ∀ t8_26 : Value, ∀ w : World, J_24 m_24 t5_25 t8_26 w → Env →
 run1 Tryz.prog Z (binOp BinOp.gtr 3 t5_25 (Value.int IntKind.i64 1022)) w fun t48_27 w =>
 CondV t48_27 (
 run1 Tryz.prog Z (binOp BinOp.mul 44 t8_26 (Value.float FloatKind.f64 4611686018427387904)) w fun t50_28 w =>
 run1 Tryz.prog Z (binOp BinOp.sub 3 t5_25 (Value.int IntKind.i64 1)) w fun t52_29 w =>
 ∃ n_24, n_24 < m_24 ∧ J_24 n_24 t52_29 t50_28 w) (
 run1 Tryz.prog Z (eqOp BinOp.eql 86 false true t10_1 (Value.int IntKind.u64 1)) w fun t54_30 w =>
 CondV t54_30 (
 run1 Tryz.prog Z (Op.unary UnOp.neg t8_26) w fun t56_31 w =>
 Q (Value.tuple #[t56_31, (Value.bool true)]) w) (
 Q (Value.tuple #[t8_26, (Value.bool true)]) w)))) →
 j_15 t5_16 t8_17 w) →
 run1 Tryz.prog Z (binOp BinOp.gtr 3 t14_4 (Value.int IntKind.i64 0)) w fun t36_32 w =>
 CondV t36_32 (
 run1 Tryz.prog Z (binOp BinOp.add 44 t34_14 (Value.float FloatKind.f64 4607182418800017408)) w fun t38_33 w =>
 run1 Tryz.prog Z (binOp BinOp.sub 3 t14_4 (Value.int IntKind.i64 1)) w fun t40_34 w =>
 j_15 t40_34 t38_33 w) (
 j_15 t14_4 t34_14 w))
noncomputable def f82.code : Code := match Tryz.f82.body with | some c => c | none => .skip
def f82.an : An := (.sq .leaf (.sq .leaf (.sq .leaf (.sq .leaf (.sq .leaf (.sq (.sq .leaf (.cn (.sq (.sq .leaf (.cn (.sq .leaf .leaf) .leaf)) (.sq (.sq .leaf (.cn (.sq .leaf .leaf) .leaf)) (.sq .leaf .leaf))) .leaf)) (.sq .leaf (.sj [5, 8] [5, 8, 35, 36, 37, 38, 39, 40] (.sq .leaf (.cn (.sq .leaf .leaf) .leaf)) (.sq (.bl (.lp [5, 8] [5, 8, 41, 42, 43, 44, 45, 46] (.sq (.sq .leaf (.cn .leaf .leaf)) (.bl (.sq .leaf .leaf))))) (.sq (.bl (.lp [5, 8] [5, 8, 47, 48, 49, 50, 51, 52] (.sq (.sq .leaf (.cn .leaf .leaf)) (.bl (.sq .leaf .leaf))))) (.sq (.sq .leaf (.cn (.sq .leaf .leaf) .leaf)) (.sq .leaf .leaf))))))))))))
theorem f82.body_eq : Tryz.f82.body = some f82.code := by kernel_rfl
theorem f82.shape (Z : List PanicEntry → World → Prop) (x0 : Value) (w : World) (Q : Value → World → Prop) : vc drawD Tryz.prog 58 Z [] f82.an f82.code (fnQ Tryz.prog 58 Tryz.f82.results Q) (argEnv [x0]) w = f82.sh Z x0 w Q := by kernel_rfl
theorem f82.enters : ∀ f, f ∈ ([] : List Nat) → Enters Tryz.prog f := by
 intro f hf
 cases hf
theorem f82.calls {Z : List PanicEntry → World → Prop} {x0 : Value} {w : World} {Q : Value → World → Prop} (h : f82.sh Z x0 w Q) : CallV Tryz.prog Z 82 #[x0] w Q :=
 calls_of_vcn drawD_sound (Q := Q) (n := 58) (rs := Tryz.f82.results) (an := f82.an) (c := f82.code) (cal := []) (args := [x0]) Tryz.func82 (by kernel_rfl) rfl f82.body_eq follows (Nat.le_of_ble_eq_true (by kernel_rfl)) (enters_of_all f82.enters) ((f82.shape Z x0 w Q).mpr h)

def f83.sh (Z : List PanicEntry → World → Prop) (x0 x1 x2 : Value) (w : World) (Q : Value → World → Prop) : Prop :=
 ∃ J_1 : Nat → Value → Value → World → Prop, (∃ m, J_1 m (Value.slice none 0 0) (Value.int IntKind.i64 0) w) ∧
 ∀ m_1, ∀ t7_2 : Value, ∀ t8_3 : Value, ∀ w : World, J_1 m_1 t7_2 t8_3 w → Env →
 run1 Tryz.prog Z (Builtin.len_ #[51] 3 #[x0]) w fun t16_4 w =>
 run1 Tryz.prog Z (binOp BinOp.lss 3 t8_3 t16_4) w fun t17_5 w =>
 CondV t17_5 (
 run1 Tryz.prog Z (Instr.indexAt 51 x0 t8_3) w fun t22_6 w =>
 run1 Tryz.prog Z (Instr.loadAt 22 t22_6) w fun t23_7 w =>
 ∃ J_8 : Nat → Value → Value → World → Prop, (∃ m, J_8 m t23_7 (Value.int IntKind.i64 0) w) ∧
 ∀ m_8, ∀ t9_9 : Value, ∀ t10_10 : Value, ∀ w : World, J_8 m_8 t9_9 t10_10 w → Env →
 run1 Tryz.prog Z (binOp BinOp.lss 3 t10_10 x2) w fun t26_11 w =>
 CondV t26_11 (
 run1 Tryz.prog Z (binOp BinOp.quo 3 t8_3 x1) w fun t32_12 w =>
 run1 Tryz.prog Z (binOp BinOp.rem 3 t32_12 (Value.int IntKind.i64 100)) w fun t33_13 w =>
 run1 Tryz.prog Z (binOp BinOp.add 3 (Value.int IntKind.i64 100) t33_13) w fun t34_14 w =>
 run1 Tryz.prog Z (convert 3 5 t34_14) w fun t35_15 w =>
 run1 Tryz.prog Z (Instr.buildSlice 22 1 #[(0, t35_15)]) w fun t36_16 w =>
 run1 Tryz.prog Z (Builtin.append_ #[22, 22] 22 #[t9_9, t36_16]) w fun t37_17 w =>
 run1 Tryz.prog Z (binOp BinOp.add 3 t10_10 (Value.int IntKind.i64 1)) w fun t28_18 w =>
 ∃ n_8, n_8 < m_8 ∧ J_8 n_8 t37_17 t28_18 w) (
 run1 Tryz.prog Z (Instr.buildSlice 51 1 #[(0, t9_9)]) w fun t40_19 w =>
 run1 Tryz.prog Z (Builtin.append_ #[51, 51] 51 #[t7_2, t40_19]) w fun t41_20 w =>
 run1 Tryz.prog Z (binOp BinOp.add 3 t8_3 (Value.int IntKind.i64 1)) w fun t19_21 w =>
 ∃ n_1, n_1 < m_1 ∧ J_1 n_1 t41_20 t19_21 w)) (
 ∃ J_22 : Nat → Value → World → Prop, (∃ m, J_22 m (Value.int IntKind.i64 0) w) ∧
 ∀ m_22, ∀ t11_23 : Value, ∀ w : World, J_22 m_22 t11_23 w → Env →
 run1 Tryz.prog Z (Builtin.len_ #[51] 3 #[x0]) w fun t44_24 w =>
 run1 Tryz.prog Z (binOp BinOp.lss 3 t11_23 t44_24) w fun t45_25 w =>
 CondV t45_25 (
 run1 Tryz.prog Z (Instr.indexAt 51 x0 t11_23) w fun t50_26 w =>
 run1 Tryz.prog Z (Instr.loadAt 22 t50_26) w fun t51_27 w =>
 run1 Tryz.prog Z (Builtin.len_ #[22] 3 #[t51_27]) w fun t52_28 w =>
 ∃ J_29 : Nat → Value → World → Prop, (∃ m, J_29 m (Value.int IntKind.i64 0) w) ∧
 ∀ m_29, ∀ t13_30 : Value, ∀ w : World, J_29 m_29 t13_30 w → Env →
 run1 Tryz.prog Z (binOp BinOp.add 3 t52_28 x2) w fun t56_31 w =>
 run1 Tryz.prog Z (binOp BinOp.lss 3 t13_30 t56_31) w fun t57_32 w =>
 CondV t57_32 (
 Drawn w fun w =>
 Pure1 Tryz.prog (binOp BinOp.lss 3 t13_30 t52_28) fun t62_33 =>
 guardV (t62_33) true (fun k => k (x0)) (fun t64_34 =>
 guardV (t62_33) true (fun k => k (t11_23)) (fun t65_35 =>
 guardV (t62_33) true (fun k => Pure1 Tryz.prog (Instr.indexAt 51 t64_34 t65_35) k) (fun t66_36 =>
 guardV (t62_33) true (fun k => Read1 Tryz.prog (Instr.loadAt 22 t66_36) w k) (fun t67_37 =>
 guardV (t62_33) true (fun k => k (t13_30)) (fun t68_38 =>
 guardV (t62_33) true (fun k => Pure1 Tryz.prog (Instr.indexAt 22 t67_37 t68_38) k) (fun t69_39 =>
 guardV (t62_33) true (fun k => Read1 Tryz.prog (Instr.loadAt 5 t69_39) w k) (fun t70_40 =>
 guardV (t62_33) true (fun k => k (t11_23)) (fun t71_41 =>
 guardV (t62_33) true (fun k => k (x1)) (fun t72_42 =>
 guardV (t62_33) true (fun k => Pure1 Tryz.prog (binOp BinOp.quo 3 t71_41 t72_42) k) (fun t73_43 =>
 guardV (t62_33) true (fun k => Pure1 Tryz.prog (binOp BinOp.rem 3 t73_43 (Value.int IntKind.i64 100)) k) (fun t74_44 =>
 guardV (t62_33) true (fun k => Pure1 Tryz.prog (convert 3 5 t74_44) k) (fun t75_45 =>
 guardV (t62_33) true (fun k => Pure1 Tryz.prog (eqOp BinOp.neq 5 false false t70_40 t75_45) k) (fun t76_46 =>
 guardV (t62_33) true (fun k => k (t76_46)) (fun t77_47 =>
 guardV (t77_47) false (fun k => k (t7_2)) (fun t78_48 =>
 guardV (t77_47) false (fun k => k (t11_23)) (fun t79_49 =>
 guardV (t77_47) false (fun k => Pure1 Tryz.prog (Instr.indexAt 51 t78_48 t79_49) k) (fun t80_50 =>
 guardV (t77_47) false (fun k => Read1 Tryz.prog (Instr.loadAt 22 t80_50) w k) (fun t81_51 =>
 guardV (t77_47) false (fun k => k (t13_30)) (fun t82_52 =>
 guardV (t77_47) false (fun k => Pure1 Tryz.prog (Instr.indexAt 22 t81_51 t82_52) k) (fun t83_53 =>
 guardV (t77_47) false (fun k => Read1 Tryz.prog (Instr.loadAt 5 t83_53) w k) (fun t84_54 =>
 guardV (t77_47) false (fun k => k (t11_23)) (fun t85_55 =>
 guardV (t77_47) false (fun k => k (x1)) (fun t86_56 =>
 guardV (t77_47) false (fun k => Pure1 Tryz.prog (binOp BinOp.quo 3 t85_55 t86_56) k) (fun t87_57 =>
 guardV (t77_47) false (fun k => Pure1 Tryz.prog (binOp BinOp.rem 3 t87_57 (Value.int IntKind.i64 100)) k) (fun t88_58 =>
 guardV (t77_47) false (fun k => Pure1 Tryz.prog (convert 3 5 t88_58) k) (fun t89_59 =>
 guardV (t77_47) false (fun k => Pure1 Tryz.prog (eqOp BinOp.neq 5 false false t84_54 t89_59) k) (fun t90_60 =>
 guardV (t62_33) true (fun k => Pure1 Tryz.prog (pickV t77_47 (Value.bool true) t90_60) k) (fun t91_61 =>
 Pure1 Tryz.prog (pickV t62_33 t91_61 (Value.bool false)) fun t92_62 =>
 guardV (t92_62) false (fun k => k (t13_30)) (fun t94_63 =>
 guardV (t92_62) false (fun k => k (t52_28)) (fun t95_64 =>
 guardV (t92_62) false (fun k => Pure1 Tryz.prog (binOp BinOp.geq 3 t94_63 t95_64) k) (fun t96_65 =>
 guardV (t92_62) false (fun k => k (t96_65)) (fun t97_66 =>
 guardV (t97_66) true (fun k => k (t7_2)) (fun t98_67 =>
 guardV (t97_66) true (fun k => k (t11_23)) (fun t99_68 =>
 guardV (t97_66) true (fun k => Pure1 Tryz.prog (Instr.indexAt 51 t98_67 t99_68) k) (fun t100_69 =>
 guardV (t97_66) true (fun k => Read1 Tryz.prog (Instr.loadAt 22 t100_69) w k) (fun t101_70 =>
 guardV (t97_66) true (fun k => k (t13_30)) (fun t102_71 =>
 guardV (t97_66) true (fun k => Pure1 Tryz.prog (Instr.indexAt 22 t101_70 t102_71) k) (fun t103_72 =>
 guardV (t97_66) true (fun k => Read1 Tryz.prog (Instr.loadAt 5 t103_72) w k) (fun t104_73 =>
 guardV (t97_66) true (fun k => k (t11_23)) (fun t105_74 =>
 guardV (t97_66) true (fun k => k (x1)) (fun t106_75 =>
 guardV (t97_66) true (fun k => Pure1 Tryz.prog (binOp BinOp.quo 3 t105_74 t106_75) k) (fun t107_76 =>
 guardV (t97_66) true (fun k => Pure1 Tryz.prog (binOp BinOp.rem 3 t107_76 (Value.int IntKind.i64 100)) k) (fun t108_77 =>
 guardV (t97_66) true (fun k => Pure1 Tryz.prog (binOp BinOp.add 3 (Value.int IntKind.i64 100) t108_77) k) (fun t109_78 =>
 guardV (t97_66) true (fun k => Pure1 Tryz.prog (convert 3 5 t109_78) k) (fun t110_79 =>
 guardV (t97_66) true (fun k => Pure1 Tryz.prog (eqOp BinOp.neq 5 false false t104_73 t110_79) k) (fun t111_80 =>
 guardV (t92_62) false (fun k => Pure1 Tryz.prog (pickV t97_66 t111_80 (Value.bool false)) k) (fun t112_81 =>
 Pure1 Tryz.prog (pickV t92_62 (Value.bool true) t112_81) fun t113_82 =>
 CondV t113_82 (
 Q (Value.bool false) w) (
 run1 Tryz.prog Z (binOp BinOp.add 3 t13_30 (Value.int IntKind.i64 1)) w fun t59_83 w =>
 ∃ n_29, n_29 < m_29 ∧ J_29 n_29 t59_83 w))))))))))))))))))))))))))))))))))))))))))))))))) (
 run1 Tryz.prog Z (binOp BinOp.add 3 t11_23 (Value.int IntKind.i64 1)) w fun t47_84 w =>
 ∃ n_22, n_22 < m_22 ∧ J_22 n_22 t47_84 w)) (
 Q (Value.bool true) w))
noncomputable def f83.code : Code := match Tryz.f83.body with | some c => c | none => .skip
def f83.an : An := (.sq .leaf (.sq .leaf (.sq (.sq .leaf (.bl (.lp [7, 8] [7, 8, 9, 10, 14, 15, 16, 17, 18, 19, 20, 21, 22, 23, 24, 25, 26, 27, 28, 29, 30, 31, 32, 33, 34, 35, 36, 37, 38, 39, 40, 41] (.sq (.sq .leaf (.cn .leaf .leaf)) (.sq (.bl (.sq .leaf (.sq (.sq .leaf (.bl (.lp [9, 10] [9, 10, 24, 25, 26, 27, 28, 29, 30, 31, 32, 33, 34, 35, 36, 37] (.sq (.sq .leaf (.cn .leaf .leaf)) (.sq (.bl .leaf) .leaf))))) .leaf))) .leaf))))) (.sq (.sq .leaf (.bl (.lp [11] [6, 11, 12, 13, 42, 43, 44, 45, 46, 47, 48, 49, 50, 51, 52, 53, 54, 55, 56, 57, 58, 59, 60, 61, 62, 63, 64, 65, 66, 67, 68, 69, 70, 71, 72, 73, 74, 75, 76, 77, 78, 79, 80, 81, 82, 83, 84, 85, 86, 87, 88, 89, 90, 91, 92, 93, 94, 95, 96, 97, 98, 99, 100, 101, 102, 103, 104, 105, 106, 107, 108, 109, 110, 111, 112, 113] (.sq (.sq .leaf (.cn .leaf .leaf)) (.sq (.bl (.sq .leaf (.sq .leaf (.bl (.lp [13] [6, 13, 53, 54, 55, 56, 57, 58, 59, 60, 61, 62, 63, 64, 65, 66, 67, 68, 69, 70, 71, 72, 73, 74, 75, 76, 77, 78, 79, 80, 81, 82, 83, 84, 85, 86, 87, 88, 89, 90, 91, 92, 93, 94, 95, 96, 97, 98, 99, 100, 101, 102, 103, 104, 105, 106, 107, 108, 109, 110, 111, 112, 113] (.sq (.sq .leaf (.cn .leaf .leaf)) (.sq (.bl (.sq (.dr (.take 0 false (.take 1 false (.take 2 false (.take 3 false (.take 4 false (.take 5 false (.take 6 false (.take 7 true (.take 8 false (.take 9 false (.take 10 true (.take 11 false (.take 12 false (.take 13 false (.take 14 false (.take 15 false (.take 16 false (.take 17 false (.take 18 false (.take 19 false (.take 20 false (.take 21 true (.take 22 false (.take 23 false (.take 24 true (.take 25 false (.take 26 false (.take 27 false (.take 28 false (.take 29 false (.take 30 false (.take 31 false (.take 32 false (.take 33 false (.take 34 false (.take 35 false (.take 36 false (.take 37 false (.take 38 false (.take 39 false (.take 40 false (.take 41 true (.take 42 false (.take 43 false (.take 44 true (.take 45 false (.take 46 false (.take 47 false (.take 48 false (.take 49 false (.take 50 false (.take 51 false (.take 52 false (.take 53 false .fin))))))))))))))))))))))))))))))))))))))))))))))))))))))) (.cn (.sq .leaf .leaf) .leaf))) .leaf))))))) .leaf))))) (.sq .leaf .leaf)))))
theorem f83.body_eq : Tryz.f83.body = some f83.code := by kernel_rfl
theorem f83.shape (Z : List PanicEntry → World → Prop) (x0 x1 x2 : Value) (w : World) (Q : Value → World → Prop) : vc drawD Tryz.prog 114 Z [] f83.an f83.code (fnQ Tryz.prog 114 Tryz.f83.results Q) (argEnv [x0, x1, x2]) w = f83.sh Z x0 x1 x2 w Q := by kernel_rfl
theorem f83.enters : ∀ f, f ∈ ([] : List Nat) → Enters Tryz.prog f := by
 intro f hf
 cases hf
theorem f83.calls {Z : List PanicEntry → World → Prop} {x0 x1 x2 : Value} {w : World} {Q : Value → World → Prop} (h : f83.sh Z x0 x1 x2 w Q) : CallV Tryz.prog Z 83 #[x0, x1, x2] w Q :=
 calls_of_vcn drawD_sound (Q := Q) (n := 114) (rs := Tryz.f83.results) (an := f83.an) (c := f83.code) (cal := []) (args := [x0, x1, x2]) Tryz.func83 (by kernel_rfl) rfl f83.body_eq follows (Nat.le_of_ble_eq_true (by kernel_rfl)) (enters_of_all f83.enters) ((f83.shape Z x0 x1 x2 w Q).mpr h)

def f84.sh (Z : List PanicEntry → World → Prop) (x0 x1 : Value) (w : World) (Q : Value → World → Prop) : Prop :=
 ∃ J_1 : Nat → Value → Value → World → Prop, (∃ m, J_1 m (Value.slice none 0 0) (Value.int IntKind.i64 0) w) ∧
 ∀ m_1, ∀ t5_2 : Value, ∀ t6_3 : Value, ∀ w : World, J_1 m_1 t5_2 t6_3 w → Env →
 run1 Tryz.prog Z (Builtin.len_ #[52] 3 #[x0]) w fun t14_4 w =>
 run1 Tryz.prog Z (binOp BinOp.lss 3 t6_3 t14_4) w fun t15_5 w =>
 CondV t15_5 (
 False) (
 ∃ J_6 : Nat → Value → World → Prop, (∃ m, J_6 m (Value.int IntKind.i64 0) w) ∧
 ∀ m_6, ∀ t9_7 : Value, ∀ w : World, J_6 m_6 t9_7 w → Env →
 run1 Tryz.prog Z (Builtin.len_ #[52] 3 #[x0]) w fun t38_8 w =>
 run1 Tryz.prog Z (binOp BinOp.lss 3 t9_7 t38_8) w fun t39_9 w =>
 CondV t39_9 (
 False) (
 Q (Value.bool true) w))
noncomputable def f84.code : Code := match Tryz.f84.body with | some c => c | none => .skip
def f84.an : An := (.sq .leaf (.sq .leaf (.sq (.sq .leaf (.bl (.lp [5, 6] [5, 6, 7, 8, 12, 13, 14, 15, 16, 17, 18, 19, 20, 21, 22, 23, 24, 25, 26, 27, 28, 29, 30, 31, 32, 33, 34, 35] (.sq (.sq .leaf (.cn .leaf .leaf)) .leaf)))) (.sq (.sq .leaf (.bl (.lp [9] [4, 9, 10, 11, 36, 37, 38, 39, 40, 41, 42, 43, 44, 45, 46, 47, 48, 49, 50, 51, 52, 53, 54, 55, 56, 57, 58, 59, 60, 61, 62, 63, 64, 65, 66, 67, 68, 69, 70, 71, 72, 73, 74, 75, 76, 77, 78, 79, 80, 81, 82, 83, 84, 85, 86, 87, 88, 89, 90, 91, 92, 93, 94, 95, 96, 97, 98, 99, 100, 101, 102, 103, 104, 105] (.sq (.sq .leaf (.cn .leaf .leaf)) .leaf)))) (.sq .leaf .leaf)))))
theorem f84.body_eq : Tryz.f84.body = some f84.code := by kernel_rfl
theorem f84.shape (Z : List PanicEntry → World → Prop) (x0 x1 : Value) (w : World) (Q : Value → World → Prop) : vc drawD Tryz.prog 106 Z [] f84.an f84.code (fnQ Tryz.prog 106 Tryz.f84.results Q) (argEnv [x0, x1]) w = f84.sh Z x0 x1 w Q := by kernel_rfl
theorem f84.enters : ∀ f, f ∈ ([] : List Nat) → Enters Tryz.prog f := by
 intro f hf
 cases hf
theorem f84.calls {Z : List PanicEntry → World → Prop} {x0 x1 : Value} {w : World} {Q : Value → World → Prop} (h : f84.sh Z x0 x1 w Q) : CallV Tryz.prog Z 84 #[x0, x1] w Q :=
 calls_of_vcn drawD_sound (Q := Q) (n := 106) (rs := Tryz.f84.results) (an := f84.an) (c := f84.code) (cal := []) (args := [x0, x1]) Tryz.func84 (by kernel_rfl) rfl f84.body_eq follows (Nat.le_of_ble_eq_true (by kernel_rfl)) (enters_of_all f84.enters) ((f84.shape Z x0 x1 w Q).mpr h)

end Go.Proofs.YthobnaagjhooeaaGreatDoor
