import Derived.Test.YtpdehbbkpekoiaaGreatDoorShBase
set_option linter.unusedVariables false
namespace Go.Proofs.YtpdehbbkpekoiaaGreatDoor
open Go.Sh
def f137.sh (Z : List PanicEntry → World → Prop) (x0 x1 : Value) (w : World) (Q : Value → World → Prop) : Prop :=
 CallV Tryz.prog Z 169 #[x0, x1] w fun t7_1 w =>
 run1 Tryz.prog Z (Builtin.append_ #[28, 28] 28 #[(Value.slice none 0 0), t7_1]) w fun t8_2 w =>
 Q t8_2 w
noncomputable def f137.code : Code := match Tryz.f137.body with | some c => c | none => .skip
def f137.an : An := (.sq .leaf (.sq .leaf .leaf))
theorem f137.body_eq : Tryz.f137.body = some f137.code := by kernel_rfl
theorem f137.shape (Z : List PanicEntry → World → Prop) (x0 x1 : Value) (w : World) (Q : Value → World → Prop) : vc drawD Tryz.prog 9 Z [169] f137.an f137.code (fnQ Tryz.prog 9 Tryz.f137.results Q) (argEnv [x0, x1]) w = f137.sh Z x0 x1 w Q := by kernel_rfl
theorem f137.enters : ∀ f, f ∈ ([169] : List Nat) → Enters Tryz.prog f := by
 intro f hf
 simp only [List.mem_cons, List.not_mem_nil, or_false] at hf
 rcases hf with rfl
 · exact en169
theorem f137.calls {Z : List PanicEntry → World → Prop} {x0 x1 : Value} {w : World} {Q : Value → World → Prop} (h : f137.sh Z x0 x1 w Q) : CallV Tryz.prog Z 137 #[x0, x1] w Q :=
 calls_of_vcn drawD_sound (Q := Q) (n := 9) (rs := Tryz.f137.results) (an := f137.an) (c := f137.code) (cal := [169]) (args := [x0, x1]) Tryz.func137 (by kernel_rfl) rfl f137.body_eq follows (Nat.le_of_ble_eq_true (by kernel_rfl)) (enters_of_all f137.enters) ((f137.shape Z x0 x1 w Q).mpr h)

def f138.sh (Z : List PanicEntry → World → Prop) (x0 x1 x2 : Value) (w : World) (Q : Value → World → Prop) : Prop :=
 CallV Tryz.prog Z 170 #[x0] w fun t12_1 w =>
 CallV Tryz.prog Z 140 #[x0] w fun t14_2 w =>
 run1 Tryz.prog Z (convert 21 3 t14_2) w fun t15_3 w =>
 CallV Tryz.prog Z 145 #[x0] w fun t17_4 w =>
 run1 Tryz.prog Z (Op.unary UnOp.not t17_4) w fun t18_5 w =>
 CondV t18_5 (
 Q (Value.slice none 0 0) w) (
 run1 Tryz.prog Z (binOp BinOp.lss 3 t15_3 (Value.int IntKind.i64 0)) w fun t21_6 w =>
 guardW (t21_6) false (fun k => k (t15_3) w) (fun t23_7 w =>
 guardW (t21_6) false (fun k => k (x1) w) (fun t24_8 w =>
 guardW (t21_6) false (fun k => run1 Tryz.prog Z (binOp BinOp.gtr 3 t23_7 t24_8) w k) (fun t25_9 w =>
 run1 Tryz.prog Z (pickV t21_6 (Value.bool true) t25_9) w fun t26_10 w =>
 CondV t26_10 (
 CallV Tryz.prog Z 171 #[x0, t12_1, (Value.int IntKind.i64 11)] w fun t29_11 w =>
 Q (Value.slice none 0 0) w) (
 runX Tryz.prog Z (nilChk x0) w fun t33_12 w =>
 run1 Tryz.prog Z (Instr.fieldAt 227 t33_12 1) w fun t34_13 w =>
 run1 Tryz.prog Z (Instr.loadAt 28 t34_13) w fun t35_14 w =>
 run1 Tryz.prog Z (Builtin.len_ #[28] 3 #[t35_14]) w fun t36_15 w =>
 run1 Tryz.prog Z (binOp BinOp.gtr 3 t15_3 t36_15) w fun t37_16 w =>
 CondV t37_16 (
 CallV Tryz.prog Z 171 #[x0, t12_1, (Value.int IntKind.i64 10)] w fun t40_17 w =>
 Q (Value.slice none 0 0) w) (
 run1 Tryz.prog Z (eqOp BinOp.eql 233 false true x2 Value.nilFunc) w fun t42_18 w =>
 CondV t42_18 (
 run1 Tryz.prog Z (Instr.makeSlice 29 t15_3 t15_3) w fun t44_19 w =>
 Q t44_19 w) (
 ∃ J_20 : Nat → Value → Value → World → Prop, (∃ m, J_20 m (Value.slice none 0 0) (Value.int IntKind.i64 0) w) ∧
 ∀ m_20, ∀ t9_21 : Value, ∀ t46_22 : Value, ∀ w : World, J_20 m_20 t9_21 t46_22 w → Env →
 run1 Tryz.prog Z (binOp BinOp.lss 3 t46_22 t15_3) w fun t47_23 w =>
 CondV t47_23 (
 runX Tryz.prog Z (callVal x2 #[x0]) w fun t50_24 w =>
 run1 Tryz.prog Z (Instr.alloc 122 true (.tuple #[])) w fun t10_25 w =>
 run0 Tryz.prog Z (Instr.storeAt 122 t10_25 t50_24) w fun w =>
 CallV Tryz.prog Z 145 #[x0] w fun t52_26 w =>
 run1 Tryz.prog Z (Op.unary UnOp.not t52_26) w fun t53_27 w =>
 CondV t53_27 (
 Q (Value.slice none 0 0) w) (
 run1 Tryz.prog Z (Instr.loadAt 122 t10_25) w fun t55_28 w =>
 run1 Tryz.prog Z (Instr.buildSlice 29 1 #[(0, t55_28)]) w fun t56_29 w =>
 run1 Tryz.prog Z (Builtin.append_ #[29, 29] 29 #[t9_21, t56_29]) w fun t57_30 w =>
 run1 Tryz.prog Z (binOp BinOp.add 3 t46_22 (Value.int IntKind.i64 1)) w fun t58_31 w =>
 ∃ n_20, n_20 < m_20 ∧ J_20 n_20 t57_30 t58_31 w)) (
 Q t9_21 w))))) w) w) w)
noncomputable def f138.code : Code := match Tryz.f138.body with | some c => c | none => .skip
def f138.an : An := (.sq .leaf (.sq .leaf (.sq .leaf (.sq (.sq .leaf (.cn (.sq .leaf .leaf) .leaf)) (.sq (.bl (.sq .leaf (.cn (.sq .leaf (.sq .leaf .leaf)) (.sq .leaf (.cn (.sq .leaf (.sq .leaf .leaf)) .leaf))))) (.sq (.sq .leaf (.cn (.sq .leaf .leaf) .leaf)) (.sq .leaf (.sq (.sq .leaf (.bl (.lp [9, 46] [6, 9, 10, 46, 47, 48, 49, 50, 51, 52, 53, 54, 55, 56, 57, 58] (.sq .leaf (.sq (.cn .leaf .leaf) (.sq (.bl (.sq .leaf (.sq (.sq .leaf (.cn (.sq .leaf .leaf) .leaf)) .leaf))) .leaf)))))) (.sq .leaf .leaf)))))))))
theorem f138.body_eq : Tryz.f138.body = some f138.code := by kernel_rfl
theorem f138.shape (Z : List PanicEntry → World → Prop) (x0 x1 x2 : Value) (w : World) (Q : Value → World → Prop) : vc drawD Tryz.prog 60 Z [170, 140, 145, 171] f138.an f138.code (fnQ Tryz.prog 60 Tryz.f138.results Q) (argEnv [x0, x1, x2]) w = f138.sh Z x0 x1 x2 w Q := by kernel_rfl
theorem f138.enters : ∀ f, f ∈ ([170, 140, 145, 171] : List Nat) → Enters Tryz.prog f := by
 intro f hf
 simp only [List.mem_cons, List.not_mem_nil, or_false] at hf
 rcases hf with rfl | rfl | rfl | rfl
 · exact en170
 · exact en140
 · exact en145
 · exact en171
theorem f138.calls {Z : List PanicEntry → World → Prop} {x0 x1 x2 : Value} {w : World} {Q : Value → World → Prop} (h : f138.sh Z x0 x1 x2 w Q) : CallV Tryz.prog Z 138 #[x0, x1, x2] w Q :=
 calls_of_vcn drawD_sound (Q := Q) (n := 60) (rs := Tryz.f138.results) (an := f138.an) (c := f138.code) (cal := [170, 140, 145, 171]) (args := [x0, x1, x2]) Tryz.func138 (by kernel_rfl) rfl f138.body_eq follows (Nat.le_of_ble_eq_true (by kernel_rfl)) (enters_of_all f138.enters) ((f138.shape Z x0 x1 x2 w Q).mpr h)

def f139.sh (Z : List PanicEntry → World → Prop) (x0 : Value) (w : World) (Q : Value → World → Prop) : Prop :=
 run1 Tryz.prog Z (Instr.alloc 122 true (.tuple #[])) w fun t2_1 w =>
 CallV Tryz.prog Z 68 #[x0] w fun t5_2 w =>
 CallV Tryz.prog Z 143 #[x0] w fun t8_3 w =>
 run1 Tryz.prog Z (Instr.build 122 #[(0, t5_2), (1, t8_3)]) w fun t9_4 w =>
 run0 Tryz.prog Z (Instr.storeAt 122 t2_1 t9_4) w fun w =>
 ∃ r_5, (do loadVar 122 (← asAddr t2_1) : Sem Value).run Tryz.prog w = .ok r_5 w ∧
 Q r_5 w
noncomputable def f139.code : Code := match Tryz.f139.body with | some c => c | none => .skip
def f139.an : An := (.sq .leaf (.sq .leaf (.sq .leaf .leaf)))
theorem f139.body_eq : Tryz.f139.body = some f139.code := by kernel_rfl
theorem f139.shape (Z : List PanicEntry → World → Prop) (x0 : Value) (w : World) (Q : Value → World → Prop) : vc drawD Tryz.prog 10 Z [68, 143] f139.an f139.code (fnQ Tryz.prog 10 Tryz.f139.results Q) (argEnv [x0]) w = f139.sh Z x0 w Q := by kernel_rfl
theorem f139.enters : ∀ f, f ∈ ([68, 143] : List Nat) → Enters Tryz.prog f := by
 intro f hf
 simp only [List.mem_cons, List.not_mem_nil, or_false] at hf
 rcases hf with rfl | rfl
 · exact en68
 · exact en143
theorem f139.calls {Z : List PanicEntry → World → Prop} {x0 : Value} {w : World} {Q : Value → World → Prop} (h : f139.sh Z x0 w Q) : CallV Tryz.prog Z 139 #[x0] w Q :=
 calls_of_vcn drawD_sound (Q := Q) (n := 10) (rs := Tryz.f139.results) (an := f139.an) (c := f139.code) (cal := [68, 143]) (args := [x0]) Tryz.func139 (by kernel_rfl) rfl f139.body_eq follows (Nat.le_of_ble_eq_true (by kernel_rfl)) (enters_of_all f139.enters) ((f139.shape Z x0 w Q).mpr h)

def f140.sh (Z : List PanicEntry → World → Prop) (x0 : Value) (w : World) (Q : Value → World → Prop) : Prop :=
 CallV Tryz.prog Z 133 #[x0, (Value.int IntKind.i64 4)] w fun t4_1 w =>
 run1 Tryz.prog Z (convert 142 21 t4_1) w fun t5_2 w =>
 Q t5_2 w
noncomputable def f140.code : Code := match Tryz.f140.body with | some c => c | none => .skip
def f140.an : An := (.sq .leaf (.sq .leaf .leaf))
theorem f140.body_eq : Tryz.f140.body = some f140.code := by kernel_rfl
theorem f140.shape (Z : List PanicEntry → World → Prop) (x0 : Value) (w : World) (Q : Value → World → Prop) : vc drawD Tryz.prog 6 Z [133] f140.an f140.code (fnQ Tryz.prog 6 Tryz.f140.results Q) (argEnv [x0]) w = f140.sh Z x0 w Q := by kernel_rfl
theorem f140.enters : ∀ f, f ∈ ([133] : List Nat) → Enters Tryz.prog f := by
 intro f hf
 simp only [List.mem_cons, List.not_mem_nil, or_false] at hf
 rcases hf with rfl
 · exact en133
theorem f140.calls {Z : List PanicEntry → World → Prop} {x0 : Value} {w : World} {Q : Value → World → Prop} (h : f140.sh Z x0 w Q) : CallV Tryz.prog Z 140 #[x0] w Q :=
 calls_of_vcn drawD_sound (Q := Q) (n := 6) (rs := Tryz.f140.results) (an := f140.an) (c := f140.code) (cal := [133]) (args := [x0]) Tryz.func140 (by kernel_rfl) rfl f140.body_eq follows (Nat.le_of_ble_eq_true (by kernel_rfl)) (enters_of_all f140.enters) ((f140.shape Z x0 w Q).mpr h)

def f141.sh (Z : List PanicEntry → World → Prop) (x0 : Value) (w : World) (Q : Value → World → Prop) : Prop :=
 CallV Tryz.prog Z 168 #[x0, (Value.int IntKind.i64 1)] w fun t7_1 w =>
 run1 Tryz.prog Z (Instr.extract t7_1 0) w fun t8_2 w =>
 run1 Tryz.prog Z (Instr.extract t7_1 1) w fun t9_3 w =>
 run1 Tryz.prog Z (Op.unary UnOp.not t9_3) w fun t11_4 w =>
 CondV t11_4 (
 Q (Value.bool false) w) (
 run1 Tryz.prog Z (Instr.indexAt 28 t8_2 (Value.int IntKind.i64 0)) w fun t13_5 w =>
 run1 Tryz.prog Z (Instr.loadAt 5 t13_5) w fun t14_6 w =>
 run1 Tryz.prog Z (binOp BinOp.gtr 5 t14_6 (Value.int IntKind.u8 1)) w fun t15_7 w =>
 CondV t15_7 (
 runX Tryz.prog Z (nilChk x0) w fun t17_8 w =>
 run1 Tryz.prog Z (Instr.fieldAt 227 t17_8 2) w fun t18_9 w =>
 run0 Tryz.prog Z (Instr.storeAt 39 t18_9 (Value.int IntKind.i64 12)) w fun w =>
 Q (Value.bool false) w) (
 runX Tryz.prog Z (nilChk x0) w fun t21_10 w =>
 run1 Tryz.prog Z (Instr.fieldAt 227 t21_10 1) w fun t22_11 w =>
 run1 Tryz.prog Z (Instr.loadAt 28 t22_11) w fun t23_12 w =>
 run1 Tryz.prog Z (Instr.sliceAt 28 t23_12 (some (Value.int IntKind.i64 1)) none none) w fun t24_13 w =>
 runX Tryz.prog Z (nilChk x0) w fun t25_14 w =>
 run1 Tryz.prog Z (Instr.fieldAt 227 t25_14 1) w fun t26_15 w =>
 run0 Tryz.prog Z (Instr.storeAt 28 t26_15 t24_13) w fun w =>
 run1 Tryz.prog Z (Instr.indexAt 28 t8_2 (Value.int IntKind.i64 0)) w fun t28_16 w =>
 run1 Tryz.prog Z (Instr.loadAt 5 t28_16) w fun t29_17 w =>
 run1 Tryz.prog Z (eqOp BinOp.eql 5 false true t29_17 (Value.int IntKind.u8 1)) w fun t30_18 w =>
 Q t30_18 w))
noncomputable def f141.code : Code := match Tryz.f141.body with | some c => c | none => .skip
def f141.an : An := (.sq .leaf (.sq .leaf (.sq (.sq .leaf (.cn (.sq .leaf .leaf) .leaf)) (.sq (.sq .leaf (.cn (.sq .leaf (.sq .leaf .leaf)) .leaf)) (.sq .leaf (.sq .leaf .leaf))))))
theorem f141.body_eq : Tryz.f141.body = some f141.code := by kernel_rfl
theorem f141.shape (Z : List PanicEntry → World → Prop) (x0 : Value) (w : World) (Q : Value → World → Prop) : vc drawD Tryz.prog 31 Z [168] f141.an f141.code (fnQ Tryz.prog 31 Tryz.f141.results Q) (argEnv [x0]) w = f141.sh Z x0 w Q := by kernel_rfl
theorem f141.enters : ∀ f, f ∈ ([168] : List Nat) → Enters Tryz.prog f := by
 intro f hf
 simp only [List.mem_cons, List.not_mem_nil, or_false] at hf
 rcases hf with rfl
 · exact en168
theorem f141.calls {Z : List PanicEntry → World → Prop} {x0 : Value} {w : World} {Q : Value → World → Prop} (h : f141.sh Z x0 w Q) : CallV Tryz.prog Z 141 #[x0] w Q :=
 calls_of_vcn drawD_sound (Q := Q) (n := 31) (rs := Tryz.f141.results) (an := f141.an) (c := f141.code) (cal := [168]) (args := [x0]) Tryz.func141 (by kernel_rfl) rfl f141.body_eq follows (Nat.le_of_ble_eq_true (by kernel_rfl)) (enters_of_all f141.enters) ((f141.shape Z x0 w Q).mpr h)

def f142.sh (Z : List PanicEntry → World → Prop) (x0 x1 x2 : Value) (w : World) (Q : Value → World → Prop) : Prop :=
 CallV Tryz.prog Z 170 #[x0] w fun t12_1 w =>
 CallV Tryz.prog Z 140 #[x0] w fun t14_2 w =>
 run1 Tryz.prog Z (convert 21 3 t14_2) w fun t15_3 w =>
 CallV Tryz.prog Z 145 #[x0] w fun t17_4 w =>
 run1 Tryz.prog Z (Op.unary UnOp.not t17_4) w fun t18_5 w =>
 CondV t18_5 (
 Q (Value.slice none 0 0) w) (
 run1 Tryz.prog Z (binOp BinOp.lss 3 t15_3 (Value.int IntKind.i64 0)) w fun t21_6 w =>
 guardW (t21_6) false (fun k => k (t15_3) w) (fun t23_7 w =>
 guardW (t21_6) false (fun k => k (x1) w) (fun t24_8 w =>
 guardW (t21_6) false (fun k => run1 Tryz.prog Z (binOp BinOp.gtr 3 t23_7 t24_8) w k) (fun t25_9 w =>
 run1 Tryz.prog Z (pickV t21_6 (Value.bool true) t25_9) w fun t26_10 w =>
 CondV t26_10 (
 CallV Tryz.prog Z 171 #[x0, t12_1, (Value.int IntKind.i64 11)] w fun t29_11 w =>
 Q (Value.slice none 0 0) w) (
 runX Tryz.prog Z (nilChk x0) w fun t33_12 w =>
 run1 Tryz.prog Z (Instr.fieldAt 227 t33_12 1) w fun t34_13 w =>
 run1 Tryz.prog Z (Instr.loadAt 28 t34_13) w fun t35_14 w =>
 run1 Tryz.prog Z (Builtin.len_ #[28] 3 #[t35_14]) w fun t36_15 w =>
 run1 Tryz.prog Z (binOp BinOp.gtr 3 t15_3 t36_15) w fun t37_16 w =>
 CondV t37_16 (
 CallV Tryz.prog Z 171 #[x0, t12_1, (Value.int IntKind.i64 10)] w fun t40_17 w =>
 Q (Value.slice none 0 0) w) (
 run1 Tryz.prog Z (eqOp BinOp.eql 236 false true x2 Value.nilFunc) w fun t42_18 w =>
 CondV t42_18 (
 run1 Tryz.prog Z (Instr.makeSlice 30 t15_3 t15_3) w fun t44_19 w =>
 Q t44_19 w) (
 ∃ J_20 : Nat → Value → Value → World → Prop, (∃ m, J_20 m (Value.slice none 0 0) (Value.int IntKind.i64 0) w) ∧
 ∀ m_20, ∀ t9_21 : Value, ∀ t46_22 : Value, ∀ w : World, J_20 m_20 t9_21 t46_22 w → Env →
 run1 Tryz.prog Z (binOp BinOp.lss 3 t46_22 t15_3) w fun t47_23 w =>
 CondV t47_23 (
 runX Tryz.prog Z (callVal x2 #[x0]) w fun t50_24 w =>
 run1 Tryz.prog Z (Instr.alloc 120 true (.tuple #[])) w fun t10_25 w =>
 run0 Tryz.prog Z (Instr.storeAt 120 t10_25 t50_24) w fun w =>
 CallV Tryz.prog Z 145 #[x0] w fun t52_26 w =>
 run1 Tryz.prog Z (Op.unary UnOp.not t52_26) w fun t53_27 w =>
 CondV t53_27 (
 Q (Value.slice none 0 0) w) (
 run1 Tryz.prog Z (Instr.loadAt 120 t10_25) w fun t55_28 w =>
 run1 Tryz.prog Z (Instr.buildSlice 30 1 #[(0, t55_28)]) w fun t56_29 w =>
 run1 Tryz.prog Z (Builtin.append_ #[30, 30] 30 #[t9_21, t56_29]) w fun t57_30 w =>
 run1 Tryz.prog Z (binOp BinOp.add 3 t46_22 (Value.int IntKind.i64 1)) w fun t58_31 w =>
 ∃ n_20, n_20 < m_20 ∧ J_20 n_20 t57_30 t58_31 w)) (
 Q t9_21 w))))) w) w) w)
noncomputable def f142.code : Code := match Tryz.f142.body with | some c => c | none => .skip
def f142.an : An := (.sq .leaf (.sq .leaf (.sq .leaf (.sq (.sq .leaf (.cn (.sq .leaf .leaf) .leaf)) (.sq (.bl (.sq .leaf (.cn (.sq .leaf (.sq .leaf .leaf)) (.sq .leaf (.cn (.sq .leaf (.sq .leaf .leaf)) .leaf))))) (.sq (.sq .leaf (.cn (.sq .leaf .leaf) .leaf)) (.sq .leaf (.sq (.sq .leaf (.bl (.lp [9, 46] [6, 9, 10, 46, 47, 48, 49, 50, 51, 52, 53, 54, 55, 56, 57, 58] (.sq .leaf (.sq (.cn .leaf .leaf) (.sq (.bl (.sq .leaf (.sq (.sq .leaf (.cn (.sq .leaf .leaf) .leaf)) .leaf))) .leaf)))))) (.sq .leaf .leaf)))))))))
theorem f142.body_eq : Tryz.f142.body = some f142.code := by kernel_rfl
theorem f142.shape (Z : List PanicEntry → World → Prop) (x0 x1 x2 : Value) (w : World) (Q : Value → World → Prop) : vc drawD Tryz.prog 60 Z [170, 140, 145, 171] f142.an f142.code (fnQ Tryz.prog 60 Tryz.f142.results Q) (argEnv [x0, x1, x2]) w = f142.sh Z x0 x1 x2 w Q := by kernel_rfl
theorem f142.enters : ∀ f, f ∈ ([170, 140, 145, 171] : List Nat) → Enters Tryz.prog f := by
 intro f hf
 simp only [List.mem_cons, List.not_mem_nil, or_false] at hf
 rcases hf with rfl | rfl | rfl | rfl
 · exact en170
 · exact en140
 · exact en145
 · exact en171
theorem f142.calls {Z : List PanicEntry → World → Prop} {x0 x1 x2 : Value} {w : World} {Q : Value → World → Prop} (h : f142.sh Z x0 x1 x2 w Q) : CallV Tryz.prog Z 142 #[x0, x1, x2] w Q :=
 calls_of_vcn drawD_sound (Q := Q) (n := 60) (rs := Tryz.f142.results) (an := f142.an) (c := f142.code) (cal := [170, 140, 145, 171]) (args := [x0, x1, x2]) Tryz.func142 (by kernel_rfl) rfl f142.body_eq follows (Nat.le_of_ble_eq_true (by kernel_rfl)) (enters_of_all f142.enters) ((f142.shape Z x0 x1 x2 w Q).mpr h)

def f143.sh (Z : List PanicEntry → World → Prop) (x0 : Value) (w : World) (Q : Value → World → Prop) : Prop :=
 run1 Tryz.prog Z (Instr.alloc 120 true (.tuple #[])) w fun t2_1 w =>
 CallV Tryz.prog Z 136 #[x0, (Value.int IntKind.i64 24)] w fun t5_2 w =>
 CallV Tryz.prog Z 136 #[x0, (Value.int IntKind.i64 24)] w fun t8_3 w =>
 run1 Tryz.prog Z (Instr.build 120 #[(0, t5_2), (1, t8_3)]) w fun t9_4 w =>
 run0 Tryz.prog Z (Instr.storeAt 120 t2_1 t9_4) w fun w =>
 ∃ r_5, (do loadVar 120 (← asAddr t2_1) : Sem Value).run Tryz.prog w = .ok r_5 w ∧
 Q r_5 w
noncomputable def f143.code : Code := match Tryz.f143.body with | some c => c | none => .skip
def f143.an : An := (.sq .leaf (.sq .leaf (.sq .leaf .leaf)))
theorem f143.body_eq : Tryz.f143.body = some f143.code := by kernel_rfl
theorem f143.shape (Z : List PanicEntry → World → Prop) (x0 : Value) (w : World) (Q : Value → World → Prop) : vc drawD Tryz.prog 10 Z [136] f143.an f143.code (fnQ Tryz.prog 10 Tryz.f143.results Q) (argEnv [x0]) w = f143.sh Z x0 w Q := by kernel_rfl
theorem f143.enters : ∀ f, f ∈ ([136] : List Nat) → Enters Tryz.prog f := by
 intro f hf
 simp only [List.mem_cons, List.not_mem_nil, or_false] at hf
 rcases hf with rfl
 · exact en136
theorem f143.calls {Z : List PanicEntry → World → Prop} {x0 : Value} {w : World} {Q : Value → World → Prop} (h : f143.sh Z x0 w Q) : CallV Tryz.prog Z 143 #[x0] w Q :=
 calls_of_vcn drawD_sound (Q := Q) (n := 10) (rs := Tryz.f143.results) (an := f143.an) (c := f143.code) (cal := [136]) (args := [x0]) Tryz.func143 (by kernel_rfl) rfl f143.body_eq follows (Nat.le_of_ble_eq_true (by kernel_rfl)) (enters_of_all f143.enters) ((f143.shape Z x0 w Q).mpr h)

def f144.sh (Z : List PanicEntry → World → Prop) (x0 x1 x2 : Value) (w : World) (Q : Value → World → Prop) : Prop :=
 CallV Tryz.prog Z 170 #[x0] w fun t12_1 w =>
 CallV Tryz.prog Z 140 #[x0] w fun t14_2 w =>
 run1 Tryz.prog Z (convert 21 3 t14_2) w fun t15_3 w =>
 CallV Tryz.prog Z 145 #[x0] w fun t17_4 w =>
 run1 Tryz.prog Z (Op.unary UnOp.not t17_4) w fun t18_5 w =>
 CondV t18_5 (
 Q (Value.slice none 0 0) w) (
 run1 Tryz.prog Z (binOp BinOp.lss 3 t15_3 (Value.int IntKind.i64 0)) w fun t21_6 w =>
 guardW (t21_6) false (fun k => k (t15_3) w) (fun t23_7 w =>
 guardW (t21_6) false (fun k => k (x1) w) (fun t24_8 w =>
 guardW (t21_6) false (fun k => run1 Tryz.prog Z (binOp BinOp.gtr 3 t23_7 t24_8) w k) (fun t25_9 w =>
 run1 Tryz.prog Z (pickV t21_6 (Value.bool true) t25_9) w fun t26_10 w =>
 CondV t26_10 (
 CallV Tryz.prog Z 171 #[x0, t12_1, (Value.int IntKind.i64 11)] w fun t29_11 w =>
 Q (Value.slice none 0 0) w) (
 runX Tryz.prog Z (nilChk x0) w fun t33_12 w =>
 run1 Tryz.prog Z (Instr.fieldAt 227 t33_12 1) w fun t34_13 w =>
 run1 Tryz.prog Z (Instr.loadAt 28 t34_13) w fun t35_14 w =>
 run1 Tryz.prog Z (Builtin.len_ #[28] 3 #[t35_14]) w fun t36_15 w =>
 run1 Tryz.prog Z (binOp BinOp.gtr 3 t15_3 t36_15) w fun t37_16 w =>
 CondV t37_16 (
 CallV Tryz.prog Z 171 #[x0, t12_1, (Value.int IntKind.i64 10)] w fun t40_17 w =>
 Q (Value.slice none 0 0) w) (
 run1 Tryz.prog Z (eqOp BinOp.eql 128 false true x2 Value.nilFunc) w fun t42_18 w =>
 CondV t42_18 (
 run1 Tryz.prog Z (Instr.makeSlice 31 t15_3 t15_3) w fun t44_19 w =>
 Q t44_19 w) (
 ∃ J_20 : Nat → Value → Value → World → Prop, (∃ m, J_20 m (Value.slice none 0 0) (Value.int IntKind.i64 0) w) ∧
 ∀ m_20, ∀ t9_21 : Value, ∀ t46_22 : Value, ∀ w : World, J_20 m_20 t9_21 t46_22 w → Env →
 run1 Tryz.prog Z (binOp BinOp.lss 3 t46_22 t15_3) w fun t47_23 w =>
 CondV t47_23 (
 runX Tryz.prog Z (callVal x2 #[x0]) w fun t50_24 w =>
 run1 Tryz.prog Z (Instr.alloc 33 true (.tuple #[])) w fun t10_25 w =>
 run0 Tryz.prog Z (Instr.storeAt 33 t10_25 t50_24) w fun w =>
 CallV Tryz.prog Z 145 #[x0] w fun t52_26 w =>
 run1 Tryz.prog Z (Op.unary UnOp.not t52_26) w fun t53_27 w =>
 CondV t53_27 (
 Q (Value.slice none 0 0) w) (
 run1 Tryz.prog Z (Instr.loadAt 33 t10_25) w fun t55_28 w =>
 run1 Tryz.prog Z (Instr.buildSlice 31 1 #[(0, t55_28)]) w fun t56_29 w =>
 run1 Tryz.prog Z (Builtin.append_ #[31, 31] 31 #[t9_21, t56_29]) w fun t57_30 w =>
 run1 Tryz.prog Z (binOp BinOp.add 3 t46_22 (Value.int IntKind.i64 1)) w fun t58_31 w =>
 ∃ n_20, n_20 < m_20 ∧ J_20 n_20 t57_30 t58_31 w)) (
 Q t9_21 w))))) w) w) w)
noncomputable def f144.code : Code := match Tryz.f144.body with | some c => c | none => .skip
def f144.an : An := (.sq .leaf (.sq .leaf (.sq .leaf (.sq (.sq .leaf (.cn (.sq .leaf .leaf) .leaf)) (.sq (.bl (.sq .leaf (.cn (.sq .leaf (.sq .leaf .leaf)) (.sq .leaf (.cn (.sq .leaf (.sq .leaf .leaf)) .leaf))))) (.sq (.sq .leaf (.cn (.sq .leaf .leaf) .leaf)) (.sq .leaf (.sq (.sq .leaf (.bl (.lp [9, 46] [6, 9, 10, 46, 47, 48, 49, 50, 51, 52, 53, 54, 55, 56, 57, 58] (.sq .leaf (.sq (.cn .leaf .leaf) (.sq (.bl (.sq .leaf (.sq (.sq .leaf (.cn (.sq .leaf .leaf) .leaf)) .leaf))) .leaf)))))) (.sq .leaf .leaf)))))))))
theorem f144.body_eq : Tryz.f144.body = some f144.code := by kernel_rfl
theorem f144.shape (Z : List PanicEntry → World → Prop) (x0 x1 x2 : Value) (w : World) (Q : Value → World → Prop) : vc drawD Tryz.prog 60 Z [170, 140, 145, 171] f144.an f144.code (fnQ Tryz.prog 60 Tryz.f144.results Q) (argEnv [x0, x1, x2]) w = f144.sh Z x0 x1 x2 w Q := by kernel_rfl
theorem f144.enters : ∀ f, f ∈ ([170, 140, 145, 171] : List Nat) → Enters Tryz.prog f := by
 intro f hf
 simp only [List.mem_cons, List.not_mem_nil, or_false] at hf
 rcases hf with rfl | rfl | rfl | rfl
 · exact en170
 · exact en140
 · exact en145
 · exact en171
theorem f144.calls {Z : List PanicEntry → World → Prop} {x0 x1 x2 : Value} {w : World} {Q : Value → World → Prop} (h : f144.sh Z x0 x1 x2 w Q) : CallV Tryz.prog Z 144 #[x0, x1, x2] w Q :=
 calls_of_vcn drawD_sound (Q := Q) (n := 60) (rs := Tryz.f144.results) (an := f144.an) (c := f144.code) (cal := [170, 140, 145, 171]) (args := [x0, x1, x2]) Tryz.func144 (by kernel_rfl) rfl f144.body_eq follows (Nat.le_of_ble_eq_true (by kernel_rfl)) (enters_of_all f144.enters) ((f144.shape Z x0 x1 x2 w Q).mpr h)

def f145.sh (Z : List PanicEntry → World → Prop) (x0 : Value) (w : World) (Q : Value → World → Prop) : Prop :=
 CallV Tryz.prog Z 172 #[x0] w fun t4_1 w =>
 run1 Tryz.prog Z (Op.unary UnOp.not t4_1) w fun t5_2 w =>
 guardW (t5_2) true (fun k => k (x0) w) (fun t7_3 w =>
 guardW (t5_2) true (fun k => runX Tryz.prog Z (nilChk t7_3) w k) (fun t8_4 w =>
 guardW (t5_2) true (fun k => run1 Tryz.prog Z (Instr.fieldAt 227 t8_4 2) w k) (fun t9_5 w =>
 guardW (t5_2) true (fun k => run1 Tryz.prog Z (Instr.loadAt 39 t9_5) w k) (fun t10_6 w =>
 guardW (t5_2) true (fun k => run1 Tryz.prog Z (eqOp BinOp.eql 39 false true t10_6 (Value.int IntKind.i64 0)) w k) (fun t11_7 w =>
 run1 Tryz.prog Z (pickV t5_2 t11_7 (Value.bool false)) w fun t12_8 w =>
 Q t12_8 w) w) w) w) w) w
noncomputable def f145.code : Code := match Tryz.f145.body with | some c => c | none => .skip
def f145.an : An := (.sq .leaf (.sq .leaf .leaf))
theorem f145.body_eq : Tryz.f145.body = some f145.code := by kernel_rfl
theorem f145.shape (Z : List PanicEntry → World → Prop) (x0 : Value) (w : World) (Q : Value → World → Prop) : vc drawD Tryz.prog 13 Z [172] f145.an f145.code (fnQ Tryz.prog 13 Tryz.f145.results Q) (argEnv [x0]) w = f145.sh Z x0 w Q := by kernel_rfl
theorem f145.enters : ∀ f, f ∈ ([172] : List Nat) → Enters Tryz.prog f := by
 intro f hf
 simp only [List.mem_cons, List.not_mem_nil, or_false] at hf
 rcases hf with rfl
 · exact en172
theorem f145.calls {Z : List PanicEntry → World → Prop} {x0 : Value} {w : World} {Q : Value → World → Prop} (h : f145.sh Z x0 w Q) : CallV Tryz.prog Z 145 #[x0] w Q :=
 calls_of_vcn drawD_sound (Q := Q) (n := 13) (rs := Tryz.f145.results) (an := f145.an) (c := f145.code) (cal := [172]) (args := [x0]) Tryz.func145 (by kernel_rfl) rfl f145.body_eq follows (Nat.le_of_ble_eq_true (by kernel_rfl)) (enters_of_all f145.enters) ((f145.shape Z x0 w Q).mpr h)

def f146.sh (Z : List PanicEntry → World → Prop) (x0 : Value) (w : World) (Q : Value → World → Prop) : Prop :=
 CallV Tryz.prog Z 172 #[x0] w fun t4_1 w =>
 CondV t4_1 (
 Q (Value.int IntKind.i64 1) w) (
 runX Tryz.prog Z (nilChk x0) w fun t6_2 w =>
 run1 Tryz.prog Z (Instr.fieldAt 227 t6_2 2) w fun t7_3 w =>
 run1 Tryz.prog Z (Instr.loadAt 39 t7_3) w fun t8_4 w =>
 Q t8_4 w)
noncomputable def f146.code : Code := match Tryz.f146.body with | some c => c | none => .skip
def f146.an : An := (.sq .leaf (.sq (.sq .leaf (.cn (.sq .leaf .leaf) .leaf)) (.sq .leaf .leaf)))
theorem f146.body_eq : Tryz.f146.body = some f146.code := by kernel_rfl
theorem f146.shape (Z : List PanicEntry → World → Prop) (x0 : Value) (w : World) (Q : Value → World → Prop) : vc drawD Tryz.prog 9 Z [172] f146.an f146.code (fnQ Tryz.prog 9 Tryz.f146.results Q) (argEnv [x0]) w = f146.sh Z x0 w Q := by kernel_rfl
theorem f146.enters : ∀ f, f ∈ ([172] : List Nat) → Enters Tryz.prog f := by
 intro f hf
 simp only [List.mem_cons, List.not_mem_nil, or_false] at hf
 rcases hf with rfl
 · exact en172
theorem f146.calls {Z : List PanicEntry → World → Prop} {x0 : Value} {w : World} {Q : Value → World → Prop} (h : f146.sh Z x0 w Q) : CallV Tryz.prog Z 146 #[x0] w Q :=
 calls_of_vcn drawD_sound (Q := Q) (n := 9) (rs := Tryz.f146.results) (an := f146.an) (c := f146.code) (cal := [172]) (args := [x0]) Tryz.func146 (by kernel_rfl) rfl f146.body_eq follows (Nat.le_of_ble_eq_true (by kernel_rfl)) (enters_of_all f146.enters) ((f146.shape Z x0 w Q).mpr h)

def f147.sh (Z : List PanicEntry → World → Prop) (x0 x1 : Value) (w : World) (Q : Value → World → Prop) : Prop :=
 runX Tryz.prog Z (nilChk x0) w fun t9_1 w =>
 run1 Tryz.prog Z (Instr.fieldAt 239 t9_1 2) w fun t10_2 w =>
 run1 Tryz.prog Z (Instr.loadAt 39 t10_2) w fun t11_3 w =>
 run1 Tryz.prog Z (eqOp BinOp.neq 39 false true t11_3 (Value.int IntKind.i64 0)) w fun t12_4 w =>
 CondV t12_4 (
 Q (Value.tuple #[(Value.int IntKind.u64 0), (Value.bool false)]) w) (
 Drawn w fun w =>
 PureV Tryz.prog (nilChk x0) fun t14_5 =>
 Pure1 Tryz.prog (Instr.fieldAt 239 t14_5 0) fun t15_6 =>
 Read1 Tryz.prog (Instr.loadAt 28 t15_6) w fun t16_7 =>
 Pure1 Tryz.prog (Builtin.len_ #[28] 3 #[t16_7]) fun t17_8 =>
 PureV Tryz.prog (nilChk x0) fun t19_9 =>
 Pure1 Tryz.prog (Instr.fieldAt 239 t19_9 1) fun t20_10 =>
 Read1 Tryz.prog (Instr.loadAt 3 t20_10) w fun t21_11 =>
 Pure1 Tryz.prog (binOp BinOp.sub 3 t17_8 t21_11) fun t22_12 =>
 Pure1 Tryz.prog (binOp BinOp.lss 3 t22_12 x1) fun t24_13 =>
 CondV t24_13 (
 runX Tryz.prog Z (nilChk x0) w fun t26_14 w =>
 run1 Tryz.prog Z (Instr.fieldAt 239 t26_14 2) w fun t27_15 w =>
 run0 Tryz.prog Z (Instr.storeAt 39 t27_15 (Value.int IntKind.i64 10)) w fun w =>
 Q (Value.tuple #[(Value.int IntKind.u64 0), (Value.bool false)]) w) (
 ∃ J_16 : Nat → Value → Value → World → Prop, (∃ m, J_16 m (Value.int IntKind.u64 0) (Value.int IntKind.i64 0) w) ∧
 ∀ m_16, ∀ t6_17 : Value, ∀ t7_18 : Value, ∀ w : World, J_16 m_16 t6_17 t7_18 w → Env →
 run1 Tryz.prog Z (binOp BinOp.lss 3 t7_18 x1) w fun t30_19 w =>
 CondV t30_19 (
 Drawn w fun w =>
 Pure1 Tryz.prog (binOp BinOp.mul 142 t6_17 (Value.int IntKind.u64 256)) fun t34_20 =>
 PureV Tryz.prog (nilChk x0) fun t36_21 =>
 Pure1 Tryz.prog (Instr.fieldAt 239 t36_21 0) fun t37_22 =>
 Read1 Tryz.prog (Instr.loadAt 28 t37_22) w fun t38_23 =>
 PureV Tryz.prog (nilChk x0) fun t40_24 =>
 Pure1 Tryz.prog (Instr.fieldAt 239 t40_24 1) fun t41_25 =>
 Read1 Tryz.prog (Instr.loadAt 3 t41_25) w fun t42_26 =>
 Pure1 Tryz.prog (Instr.indexAt 28 t38_23 t42_26) fun t43_27 =>
 Read1 Tryz.prog (Instr.loadAt 5 t43_27) w fun t44_28 =>
 Pure1 Tryz.prog (convert 5 142 t44_28) fun t45_29 =>
 Pure1 Tryz.prog (binOp BinOp.add 142 t34_20 t45_29) fun t46_30 =>
 runX Tryz.prog Z (nilChk x0) w fun t48_31 w =>
 run1 Tryz.prog Z (Instr.fieldAt 239 t48_31 1) w fun t49_32 w =>
 run1 Tryz.prog Z (Instr.loadAt 3 t49_32) w fun t50_33 w =>
 run1 Tryz.prog Z (binOp BinOp.add 3 t50_33 (Value.int IntKind.i64 1)) w fun t51_34 w =>
 runX Tryz.prog Z (nilChk x0) w fun t52_35 w =>
 run1 Tryz.prog Z (Instr.fieldAt 239 t52_35 1) w fun t53_36 w =>
 run0 Tryz.prog Z (Instr.storeAt 3 t53_36 t51_34) w fun w =>
 run1 Tryz.prog Z (binOp BinOp.add 3 t7_18 (Value.int IntKind.i64 1)) w fun t32_37 w =>
 ∃ n_16, n_16 < m_16 ∧ J_16 n_16 t46_30 t32_37 w) (
 Q (Value.tuple #[t6_17, (Value.bool true)]) w)))
noncomputable def f147.code : Code := match Tryz.f147.body with | some c => c | none => .skip
def f147.an : An := (.sq .leaf (.sq (.sq .leaf (.cn (.sq .leaf .leaf) .leaf)) (.sq (.sq (.dr (.take 0 false (.take 1 false (.take 2 false (.take 3 true (.take 4 false (.take 5 false (.take 6 false (.take 7 false (.take 8 true (.take 9 false (.take 10 false (.take 11 false .fin))))))))))))) (.cn (.sq .leaf (.sq .leaf .leaf)) .leaf)) (.sq .leaf (.sq (.sq .leaf (.bl (.lp [6, 7] [6, 7, 28, 29, 30, 31, 32, 33, 34, 35, 36, 37, 38, 39, 40, 41, 42, 43, 44, 45, 46, 47, 48, 49, 50, 51, 52, 53] (.sq (.sq .leaf (.cn .leaf .leaf)) (.sq (.bl (.sq (.dr (.take 0 false (.take 1 false (.take 2 false (.take 3 false (.take 4 false (.take 5 true (.take 6 false (.take 7 false (.take 8 false (.take 9 true (.take 10 false (.take 11 true (.take 12 false (.take 13 false (.take 14 false .fin)))))))))))))))) .leaf)) .leaf))))) (.sq .leaf .leaf))))))
theorem f147.body_eq : Tryz.f147.body = some f147.code := by kernel_rfl
theorem f147.shape (Z : List PanicEntry → World → Prop) (x0 x1 : Value) (w : World) (Q : Value → World → Prop) : vc drawD Tryz.prog 55 Z [] f147.an f147.code (fnQ Tryz.prog 55 Tryz.f147.results Q) (argEnv [x0, x1]) w = f147.sh Z x0 x1 w Q := by kernel_rfl
theorem f147.enters : ∀ f, f ∈ ([] : List Nat) → Enters Tryz.prog f := by
 intro f hf
 cases hf
theorem f147.calls {Z : List PanicEntry → World → Prop} {x0 x1 : Value} {w : World} {Q : Value → World → Prop} (h : f147.sh Z x0 x1 w Q) : CallV Tryz.prog Z 147 #[x0, x1] w Q :=
 calls_of_vcn drawD_sound (Q := Q) (n := 55) (rs := Tryz.f147.results) (an := f147.an) (c := f147.code) (cal := []) (args := [x0, x1]) Tryz.func147 (by kernel_rfl) rfl f147.body_eq follows (Nat.le_of_ble_eq_true (by kernel_rfl)) (enters_of_all f147.enters) ((f147.shape Z x0 x1 w Q).mpr h)

def f148.sh (Z : List PanicEntry → World → Prop) (x0 x1 : Value) (w : World) (Q : Value → World → Prop) : Prop :=
 runX Tryz.prog Z (nilChk x0) w fun t5_1 w =>
 run1 Tryz.prog Z (Instr.fieldAt 239 t5_1 2) w fun t6_2 w =>
 run1 Tryz.prog Z (Instr.loadAt 39 t6_2) w fun t7_3 w =>
 run1 Tryz.prog Z (eqOp BinOp.eql 39 false true t7_3 (Value.int IntKind.i64 0)) w fun t8_4 w =>
 CondV t8_4 (
 runX Tryz.prog Z (nilChk x0) w fun t11_5 w =>
 run1 Tryz.prog Z (Instr.fieldAt 239 t11_5 2) w fun t12_6 w =>
 run0 Tryz.prog Z (Instr.storeAt 39 t12_6 x1) w fun w =>
 Q (Value.tuple #[]) w) (
 Q (Value.tuple #[]) w)
noncomputable def f148.code : Code := match Tryz.f148.body with | some c => c | none => .skip
def f148.an : An := (.sq .leaf (.cn .leaf .leaf))
theorem f148.body_eq : Tryz.f148.body = some f148.code := by kernel_rfl
theorem f148.shape (Z : List PanicEntry → World → Prop) (x0 x1 : Value) (w : World) (Q : Value → World → Prop) : vc drawD Tryz.prog 13 Z [] f148.an f148.code (fnQ Tryz.prog 13 Tryz.f148.results Q) (argEnv [x0, x1]) w = f148.sh Z x0 x1 w Q := by kernel_rfl
theorem f148.enters : ∀ f, f ∈ ([] : List Nat) → Enters Tryz.prog f := by
 intro f hf
 cases hf
theorem f148.calls {Z : List PanicEntry → World → Prop} {x0 x1 : Value} {w : World} {Q : Value → World → Prop} (h : f148.sh Z x0 x1 w Q) : CallV Tryz.prog Z 148 #[x0, x1] w Q :=
 calls_of_vcn drawD_sound (Q := Q) (n := 13) (rs := Tryz.f148.results) (an := f148.an) (c := f148.code) (cal := []) (args := [x0, x1]) Tryz.func148 (by kernel_rfl) rfl f148.body_eq follows (Nat.le_of_ble_eq_true (by kernel_rfl)) (enters_of_all f148.enters) ((f148.shape Z x0 x1 w Q).mpr h)

def f149.sh (Z : List PanicEntry → World → Prop) (x0 x1 : Value) (w : World) (Q : Value → World → Prop) : Prop :=
 CallV Tryz.prog Z 150 #[x0, x1] w fun t7_1 w =>
 run1 Tryz.prog Z (convert 28 9 t7_1) w fun t8_2 w =>
 Q t8_2 w
noncomputable def f149.code : Code := match Tryz.f149.body with | some c => c | none => .skip
def f149.an : An := (.sq .leaf (.sq .leaf .leaf))
theorem f149.body_eq : Tryz.f149.body = some f149.code := by kernel_rfl
theorem f149.shape (Z : List PanicEntry → World → Prop) (x0 x1 : Value) (w : World) (Q : Value → World → Prop) : vc drawD Tryz.prog 9 Z [150] f149.an f149.code (fnQ Tryz.prog 9 Tryz.f149.results Q) (argEnv [x0, x1]) w = f149.sh Z x0 x1 w Q := by kernel_rfl
theorem f149.enters : ∀ f, f ∈ ([150] : List Nat) → Enters Tryz.prog f := by
 intro f hf
 simp only [List.mem_cons, List.not_mem_nil, or_false] at hf
 rcases hf with rfl
 · exact en150
theorem f149.calls {Z : List PanicEntry → World → Prop} {x0 x1 : Value} {w : World} {Q : Value → World → Prop} (h : f149.sh Z x0 x1 w Q) : CallV Tryz.prog Z 149 #[x0, x1] w Q :=
 calls_of_vcn drawD_sound (Q := Q) (n := 9) (rs := Tryz.f149.results) (an := f149.an) (c := f149.code) (cal := [150]) (args := [x0, x1]) Tryz.func149 (by kernel_rfl) rfl f149.body_eq follows (Nat.le_of_ble_eq_true (by kernel_rfl)) (enters_of_all f149.enters) ((f149.shape Z x0 x1 w Q).mpr h)

def f150.sh (Z : List PanicEntry → World → Prop) (x0 x1 : Value) (w : World) (Q : Value → World → Prop) : Prop :=
 runX Tryz.prog Z (nilChk x0) w fun t9_1 w =>
 run1 Tryz.prog Z (Instr.fieldAt 239 t9_1 1) w fun t10_2 w =>
 run1 Tryz.prog Z (Instr.loadAt 3 t10_2) w fun t11_3 w =>
 CallV Tryz.prog Z 153 #[x0] w fun t13_4 w =>
 run1 Tryz.prog Z (convert 21 3 t13_4) w fun t14_5 w =>
 runX Tryz.prog Z (nilChk x0) w fun t16_6 w =>
 run1 Tryz.prog Z (Instr.fieldAt 239 t16_6 2) w fun t17_7 w =>
 run1 Tryz.prog Z (Instr.loadAt 39 t17_7) w fun t18_8 w =>
 run1 Tryz.prog Z (eqOp BinOp.neq 39 false true t18_8 (Value.int IntKind.i64 0)) w fun t19_9 w =>
 CondV t19_9 (
 Q (Value.slice none 0 0) w) (
 run1 Tryz.prog Z (binOp BinOp.lss 3 t14_5 (Value.int IntKind.i64 0)) w fun t21_10 w =>
 guardW (t21_10) false (fun k => k (t14_5) w) (fun t23_11 w =>
 guardW (t21_10) false (fun k => k (x1) w) (fun t24_12 w =>
 guardW (t21_10) false (fun k => run1 Tryz.prog Z (binOp BinOp.gtr 3 t23_11 t24_12) w k) (fun t25_13 w =>
 run1 Tryz.prog Z (pickV t21_10 (Value.bool true) t25_13) w fun t26_14 w =>
 CondV t26_14 (
 CallV Tryz.prog Z 173 #[x0, t11_3, (Value.int IntKind.i64 11)] w fun t29_15 w =>
 Q (Value.slice none 0 0) w) (
 Drawn w fun w =>
 PureV Tryz.prog (nilChk x0) fun t31_16 =>
 Pure1 Tryz.prog (Instr.fieldAt 239 t31_16 0) fun t32_17 =>
 Read1 Tryz.prog (Instr.loadAt 28 t32_17) w fun t33_18 =>
 Pure1 Tryz.prog (Builtin.len_ #[28] 3 #[t33_18]) fun t34_19 =>
 PureV Tryz.prog (nilChk x0) fun t36_20 =>
 Pure1 Tryz.prog (Instr.fieldAt 239 t36_20 1) fun t37_21 =>
 Read1 Tryz.prog (Instr.loadAt 3 t37_21) w fun t38_22 =>
 Pure1 Tryz.prog (binOp BinOp.sub 3 t34_19 t38_22) fun t39_23 =>
 Pure1 Tryz.prog (binOp BinOp.lss 3 t39_23 t14_5) fun t41_24 =>
 CondV t41_24 (
 CallV Tryz.prog Z 173 #[x0, t11_3, (Value.int IntKind.i64 10)] w fun t44_25 w =>
 Q (Value.slice none 0 0) w) (
 Drawn w fun w =>
 PureV Tryz.prog (nilChk x0) fun t46_26 =>
 Pure1 Tryz.prog (Instr.fieldAt 239 t46_26 0) fun t47_27 =>
 Read1 Tryz.prog (Instr.loadAt 28 t47_27) w fun t48_28 =>
 PureV Tryz.prog (nilChk x0) fun t50_29 =>
 Pure1 Tryz.prog (Instr.fieldAt 239 t50_29 1) fun t51_30 =>
 Read1 Tryz.prog (Instr.loadAt 3 t51_30) w fun t52_31 =>
 PureV Tryz.prog (nilChk x0) fun t54_32 =>
 Pure1 Tryz.prog (Instr.fieldAt 239 t54_32 1) fun t55_33 =>
 Read1 Tryz.prog (Instr.loadAt 3 t55_33) w fun t56_34 =>
 Pure1 Tryz.prog (binOp BinOp.add 3 t56_34 t14_5) fun t58_35 =>
 Pure1 Tryz.prog (Instr.sliceAt 28 t48_28 (some t52_31) (some t58_35) none) fun t59_36 =>
 CallV Tryz.prog Z 23 #[t59_36] w fun t60_37 w =>
 Still Tryz.prog (nx (Instr.loadAt 3 t55_33)) t56_34 w <|
 Still Tryz.prog (nx (Instr.loadAt 3 t51_30)) t52_31 w <|
 Still Tryz.prog (nx (Instr.loadAt 28 t47_27)) t48_28 w <|
 runX Tryz.prog Z (nilChk x0) w fun t63_38 w =>
 run1 Tryz.prog Z (Instr.fieldAt 239 t63_38 1) w fun t64_39 w =>
 run1 Tryz.prog Z (Instr.loadAt 3 t64_39) w fun t65_40 w =>
 run1 Tryz.prog Z (binOp BinOp.add 3 t65_40 t14_5) w fun t67_41 w =>
 runX Tryz.prog Z (nilChk x0) w fun t68_42 w =>
 run1 Tryz.prog Z (Instr.fieldAt 239 t68_42 1) w fun t69_43 w =>
 run0 Tryz.prog Z (Instr.storeAt 3 t69_43 t67_41) w fun w =>
 Q t60_37 w))) w) w) w)
noncomputable def f150.code : Code := match Tryz.f150.body with | some c => c | none => .skip
def f150.an : An := (.sq .leaf (.sq .leaf (.sq .leaf (.sq (.sq .leaf (.cn (.sq .leaf .leaf) .leaf)) (.sq (.sq .leaf (.cn (.sq .leaf (.sq .leaf .leaf)) .leaf)) (.sq (.sq (.dr (.take 0 false (.take 1 false (.take 2 false (.take 3 true (.take 4 false (.take 5 false (.take 6 false (.take 7 false (.take 8 true (.take 9 false (.take 10 false (.take 11 false .fin))))))))))))) (.cn (.sq .leaf (.sq .leaf .leaf)) .leaf)) (.sq (.dr (.take 0 false (.take 1 false (.take 2 false (.take 3 true (.take 4 false (.take 5 false (.take 6 false (.take 7 true (.take 8 false (.take 9 false (.take 10 false (.take 11 true (.take 12 false (.take 13 false (.take 14 false (.one 15 (.take 16 false .fin)))))))))))))))))) (.sq .leaf (.sq .leaf .leaf)))))))))
theorem f150.body_eq : Tryz.f150.body = some f150.code := by kernel_rfl
theorem f150.shape (Z : List PanicEntry → World → Prop) (x0 x1 : Value) (w : World) (Q : Value → World → Prop) : vc drawD Tryz.prog 71 Z [153, 173, 23] f150.an f150.code (fnQ Tryz.prog 71 Tryz.f150.results Q) (argEnv [x0, x1]) w = f150.sh Z x0 x1 w Q := by kernel_rfl
theorem f150.enters : ∀ f, f ∈ ([153, 173, 23] : List Nat) → Enters Tryz.prog f := by
 intro f hf
 simp only [List.mem_cons, List.not_mem_nil, or_false] at hf
 rcases hf with rfl | rfl | rfl
 · exact en153
 · exact en173
 · exact en23
theorem f150.calls {Z : List PanicEntry → World → Prop} {x0 x1 : Value} {w : World} {Q : Value → World → Prop} (h : f150.sh Z x0 x1 w Q) : CallV Tryz.prog Z 150 #[x0, x1] w Q :=
 calls_of_vcn drawD_sound (Q := Q) (n := 71) (rs := Tryz.f150.results) (an := f150.an) (c := f150.code) (cal := [153, 173, 23]) (args := [x0, x1]) Tryz.func150 (by kernel_rfl) rfl f150.body_eq follows (Nat.le_of_ble_eq_true (by kernel_rfl)) (enters_of_all f150.enters) ((f150.shape Z x0 x1 w Q).mpr h)

def f151.sh (Z : List PanicEntry → World → Prop) (x0 x1 : Value) (w : World) (Q : Value → World → Prop) : Prop :=
 runX Tryz.prog Z (nilChk x0) w fun t8_1 w =>
 run1 Tryz.prog Z (Instr.fieldAt 239 t8_1 1) w fun t9_2 w =>
 run1 Tryz.prog Z (Instr.loadAt 3 t9_2) w fun t10_3 w =>
 CallV Tryz.prog Z 153 #[x0] w fun t12_4 w =>
 run1 Tryz.prog Z (convert 21 3 t12_4) w fun t13_5 w =>
 runX Tryz.prog Z (nilChk x0) w fun t15_6 w =>
 run1 Tryz.prog Z (Instr.fieldAt 239 t15_6 2) w fun t16_7 w =>
 run1 Tryz.prog Z (Instr.loadAt 39 t16_7) w fun t17_8 w =>
 run1 Tryz.prog Z (eqOp BinOp.neq 39 false true t17_8 (Value.int IntKind.i64 0)) w fun t18_9 w =>
 CondV t18_9 (
 Q (Value.int IntKind.i64 (-1)) w) (
 run1 Tryz.prog Z (binOp BinOp.lss 3 t13_5 (Value.int IntKind.i64 0)) w fun t20_10 w =>
 guardW (t20_10) false (fun k => k (t13_5) w) (fun t22_11 w =>
 guardW (t20_10) false (fun k => k (x1) w) (fun t23_12 w =>
 guardW (t20_10) false (fun k => run1 Tryz.prog Z (binOp BinOp.gtr 3 t22_11 t23_12) w k) (fun t24_13 w =>
 run1 Tryz.prog Z (pickV t20_10 (Value.bool true) t24_13) w fun t25_14 w =>
 CondV t25_14 (
 CallV Tryz.prog Z 173 #[x0, t10_3, (Value.int IntKind.i64 11)] w fun t28_15 w =>
 Q (Value.int IntKind.i64 (-1)) w) (
 Drawn w fun w =>
 PureV Tryz.prog (nilChk x0) fun t31_16 =>
 Pure1 Tryz.prog (Instr.fieldAt 239 t31_16 0) fun t32_17 =>
 Read1 Tryz.prog (Instr.loadAt 28 t32_17) w fun t33_18 =>
 Pure1 Tryz.prog (Builtin.len_ #[28] 3 #[t33_18]) fun t34_19 =>
 PureV Tryz.prog (nilChk x0) fun t36_20 =>
 Pure1 Tryz.prog (Instr.fieldAt 239 t36_20 1) fun t37_21 =>
 Read1 Tryz.prog (Instr.loadAt 3 t37_21) w fun t38_22 =>
 Pure1 Tryz.prog (binOp BinOp.sub 3 t34_19 t38_22) fun t39_23 =>
 Pure1 Tryz.prog (binOp BinOp.gtr 3 t13_5 t39_23) fun t40_24 =>
 CondV t40_24 (
 CallV Tryz.prog Z 173 #[x0, t10_3, (Value.int IntKind.i64 10)] w fun t43_25 w =>
 Q (Value.int IntKind.i64 (-1)) w) (
 Q t13_5 w))) w) w) w)
noncomputable def f151.code : Code := match Tryz.f151.body with | some c => c | none => .skip
def f151.an : An := (.sq .leaf (.sq .leaf (.sq .leaf (.sq (.sq .leaf (.cn (.sq .leaf .leaf) .leaf)) (.sq (.sq .leaf (.cn (.sq .leaf (.sq .leaf .leaf)) .leaf)) (.sq (.sq (.dr (.take 0 false (.take 1 false (.take 2 false (.take 3 false (.take 4 true (.take 5 false (.take 6 false (.take 7 false (.take 8 false (.take 9 true (.take 10 false (.take 11 false .fin))))))))))))) (.cn (.sq .leaf (.sq .leaf .leaf)) .leaf)) (.sq .leaf .leaf)))))))
theorem f151.body_eq : Tryz.f151.body = some f151.code := by kernel_rfl
theorem f151.shape (Z : List PanicEntry → World → Prop) (x0 x1 : Value) (w : World) (Q : Value → World → Prop) : vc drawD Tryz.prog 45 Z [153, 173] f151.an f151.code (fnQ Tryz.prog 45 Tryz.f151.results Q) (argEnv [x0, x1]) w = f151.sh Z x0 x1 w Q := by kernel_rfl
theorem f151.enters : ∀ f, f ∈ ([153, 173] : List Nat) → Enters Tryz.prog f := by
 intro f hf
 simp only [List.mem_cons, List.not_mem_nil, or_false] at hf
 rcases hf with rfl | rfl
 · exact en153
 · exact en173
theorem f151.calls {Z : List PanicEntry → World → Prop} {x0 x1 : Value} {w : World} {Q : Value → World → Prop} (h : f151.sh Z x0 x1 w Q) : CallV Tryz.prog Z 151 #[x0, x1] w Q :=
 calls_of_vcn drawD_sound (Q := Q) (n := 45) (rs := Tryz.f151.results) (an := f151.an) (c := f151.code) (cal := [153, 173]) (args := [x0, x1]) Tryz.func151 (by kernel_rfl) rfl f151.body_eq follows (Nat.le_of_ble_eq_true (by kernel_rfl)) (enters_of_all f151.enters) ((f151.shape Z x0 x1 w Q).mpr h)

def f152.sh (Z : List PanicEntry → World → Prop) (x0 : Value) (w : World) (Q : Value → World → Prop) : Prop :=
 run1 Tryz.prog Z (Instr.alloc 120 true (.tuple #[])) w fun t2_1 w =>
 CallV Tryz.prog Z 149 #[x0, (Value.int IntKind.i64 24)] w fun t6_2 w =>
 CallV Tryz.prog Z 149 #[x0, (Value.int IntKind.i64 24)] w fun t8_3 w =>
 run1 Tryz.prog Z (Instr.build 120 #[(0, t6_2), (1, t8_3)]) w fun t11_4 w =>
 run0 Tryz.prog Z (Instr.storeAt 120 t2_1 t11_4) w fun w =>
 ∃ r_5, (do loadVar 120 (← asAddr t2_1) : Sem Value).run Tryz.prog w = .ok r_5 w ∧
 Q r_5 w
noncomputable def f152.code : Code := match Tryz.f152.body with | some c => c | none => .skip
def f152.an : An := (.sq .leaf (.sq .leaf (.sq .leaf (.sq .leaf .leaf))))
theorem f152.body_eq : Tryz.f152.body = some f152.code := by kernel_rfl
theorem f152.shape (Z : List PanicEntry → World → Prop) (x0 : Value) (w : World) (Q : Value → World → Prop) : vc drawD Tryz.prog 12 Z [149] f152.an f152.code (fnQ Tryz.prog 12 Tryz.f152.results Q) (argEnv [x0]) w = f152.sh Z x0 w Q := by kernel_rfl
theorem f152.enters : ∀ f, f ∈ ([149] : List Nat) → Enters Tryz.prog f := by
 intro f hf
 simp only [List.mem_cons, List.not_mem_nil, or_false] at hf
 rcases hf with rfl
 · exact en149
theorem f152.calls {Z : List PanicEntry → World → Prop} {x0 : Value} {w : World} {Q : Value → World → Prop} (h : f152.sh Z x0 w Q) : CallV Tryz.prog Z 152 #[x0] w Q :=
 calls_of_vcn drawD_sound (Q := Q) (n := 12) (rs := Tryz.f152.results) (an := f152.an) (c := f152.code) (cal := [149]) (args := [x0]) Tryz.func152 (by kernel_rfl) rfl f152.body_eq follows (Nat.le_of_ble_eq_true (by kernel_rfl)) (enters_of_all f152.enters) ((f152.shape Z x0 w Q).mpr h)

def f153.sh (Z : List PanicEntry → World → Prop) (x0 : Value) (w : World) (Q : Value → World → Prop) : Prop :=
 CallV Tryz.prog Z 147 #[x0, (Value.int IntKind.i64 4)] w fun t8_1 w =>
 run1 Tryz.prog Z (Instr.extract t8_1 0) w fun t9_2 w =>
 run1 Tryz.prog Z (Instr.extract t8_1 1) w fun t10_3 w =>
 run1 Tryz.prog Z (convert 142 2 t9_2) w fun t12_4 w =>
 ∀ j_5 : Value → World → Prop, (∀ t5_6 : Value, ∀ w : World, (Env →
 run1 Tryz.prog Z (convert 2 21 t5_6) w fun t18_7 w =>
 Q t18_7 w) →
 j_5 t5_6 w) →
 run1 Tryz.prog Z (binOp BinOp.gtr 2 t12_4 (Value.int IntKind.i64 2147483647)) w fun t14_8 w =>
 CondV t14_8 (
 run1 Tryz.prog Z (binOp BinOp.sub 2 t12_4 (Value.int IntKind.i64 4294967296)) w fun t16_9 w =>
 j_5 t16_9 w) (
 j_5 t12_4 w)
noncomputable def f153.code : Code := match Tryz.f153.body with | some c => c | none => .skip
def f153.an : An := (.sq .leaf (.sq .leaf (.sq .leaf (.sj [5] [5, 13, 14, 15, 16] (.sq .leaf (.cn .leaf .leaf)) (.sq .leaf .leaf)))))
theorem f153.body_eq : Tryz.f153.body = some f153.code := by kernel_rfl
theorem f153.shape (Z : List PanicEntry → World → Prop) (x0 : Value) (w : World) (Q : Value → World → Prop) : vc drawD Tryz.prog 19 Z [147] f153.an f153.code (fnQ Tryz.prog 19 Tryz.f153.results Q) (argEnv [x0]) w = f153.sh Z x0 w Q := by kernel_rfl
theorem f153.enters : ∀ f, f ∈ ([147] : List Nat) → Enters Tryz.prog f := by
 intro f hf
 simp only [List.mem_cons, List.not_mem_nil, or_false] at hf
 rcases hf with rfl
 · exact en147
theorem f153.calls {Z : List PanicEntry → World → Prop} {x0 : Value} {w : World} {Q : Value → World → Prop} (h : f153.sh Z x0 w Q) : CallV Tryz.prog Z 153 #[x0] w Q :=
 calls_of_vcn drawD_sound (Q := Q) (n := 19) (rs := Tryz.f153.results) (an := f153.an) (c := f153.code) (cal := [147]) (args := [x0]) Tryz.func153 (by kernel_rfl) rfl f153.body_eq follows (Nat.le_of_ble_eq_true (by kernel_rfl)) (enters_of_all f153.enters) ((f153.shape Z x0 w Q).mpr h)

def f154.sh (Z : List PanicEntry → World → Prop) (x0 : Value) (w : World) (Q : Value → World → Prop) : Prop :=
 runX Tryz.prog Z (nilChk x0) w fun t7_1 w =>
 run1 Tryz.prog Z (Instr.fieldAt 239 t7_1 1) w fun t8_2 w =>
 run1 Tryz.prog Z (Instr.loadAt 3 t8_2) w fun t9_3 w =>
 CallV Tryz.prog Z 147 #[x0, (Value.int IntKind.i64 1)] w fun t12_4 w =>
 run1 Tryz.prog Z (Instr.extract t12_4 0) w fun t13_5 w =>
 run1 Tryz.prog Z (Instr.extract t12_4 1) w fun t14_6 w =>
 guardW (t14_6) true (fun k => k (t13_5) w) (fun t17_7 w =>
 guardW (t14_6) true (fun k => run1 Tryz.prog Z (binOp BinOp.gtr 142 t17_7 (Value.int IntKind.u64 1)) w k) (fun t18_8 w =>
 run1 Tryz.prog Z (pickV t14_6 t18_8 (Value.bool false)) w fun t19_9 w =>
 CondV t19_9 (
 CallV Tryz.prog Z 173 #[x0, t9_3, (Value.int IntKind.i64 12)] w fun t22_10 w =>
 Q (Value.bool false) w) (
 run1 Tryz.prog Z (eqOp BinOp.eql 142 false true t13_5 (Value.int IntKind.u64 1)) w fun t24_11 w =>
 Q t24_11 w)) w) w
noncomputable def f154.code : Code := match Tryz.f154.body with | some c => c | none => .skip
def f154.an : An := (.sq .leaf (.sq .leaf (.sq .leaf (.sq (.sq .leaf (.cn (.sq .leaf (.sq .leaf .leaf)) .leaf)) (.sq .leaf .leaf)))))
theorem f154.body_eq : Tryz.f154.body = some f154.code := by kernel_rfl
theorem f154.shape (Z : List PanicEntry → World → Prop) (x0 : Value) (w : World) (Q : Value → World → Prop) : vc drawD Tryz.prog 25 Z [147, 173] f154.an f154.code (fnQ Tryz.prog 25 Tryz.f154.results Q) (argEnv [x0]) w = f154.sh Z x0 w Q := by kernel_rfl
theorem f154.enters : ∀ f, f ∈ ([147, 173] : List Nat) → Enters Tryz.prog f := by
 intro f hf
 simp only [List.mem_cons, List.not_mem_nil, or_false] at hf
 rcases hf with rfl | rfl
 · exact en147
 · exact en173
theorem f154.calls {Z : List PanicEntry → World → Prop} {x0 : Value} {w : World} {Q : Value → World → Prop} (h : f154.sh Z x0 w Q) : CallV Tryz.prog Z 154 #[x0] w Q :=
 calls_of_vcn drawD_sound (Q := Q) (n := 25) (rs := Tryz.f154.results) (an := f154.an) (c := f154.code) (cal := [147, 173]) (args := [x0]) Tryz.func154 (by kernel_rfl) rfl f154.body_eq follows (Nat.le_of_ble_eq_true (by kernel_rfl)) (enters_of_all f154.enters) ((f154.shape Z x0 w Q).mpr h)

def f163.sh (Z : List PanicEntry → World → Prop) (x0 : Value) (w : World) (Q : Value → World → Prop) : Prop :=
 run1 Tryz.prog Z (Instr.box 33 x0) w fun t1_1 w =>
 run1 Tryz.prog Z (Instr.fieldAt 33 t1_1 0) w fun t7_2 w =>
 run1 Tryz.prog Z (Instr.loadAt 25 t7_2) w fun t8_3 w =>
 run1 Tryz.prog Z (Instr.indexAt 245 (Value.pointer (some ⟨0, 0, none⟩)) t8_3) w fun t9_4 w =>
 run1 Tryz.prog Z (Instr.loadAt 143 t9_4) w fun t10_5 w =>
 run1 Tryz.prog Z (Instr.alloc 143 true (.tuple #[])) w fun t3_6 w =>
 run0 Tryz.prog Z (Instr.storeAt 143 t3_6 t10_5) w fun w =>
 run1 Tryz.prog Z (Instr.makeFunc (Fn.func 174) #[] #[t3_6]) w fun t11_7 w =>
 ∀ j_8 : World → Prop, (∀ w : World, (Env →
 run1 Tryz.prog Z (Instr.fieldAt 33 t1_1 3) w fun t146_9 w =>
 run1 Tryz.prog Z (Instr.loadAt 29 t146_9) w fun t147_10 w =>
 run1 Tryz.prog Z (Builtin.len_ #[29] 3 #[t147_10]) w fun t148_11 w =>
 ∃ J_12 : Nat → Value → World → Prop, (∃ m, J_12 m (Value.int IntKind.i64 0) w) ∧
 ∀ m_12, ∀ t149_13 : Value, ∀ w : World, J_12 m_12 t149_13 w → Env →
 run1 Tryz.prog Z (binOp BinOp.lss 3 t149_13 t148_11) w fun t150_14 w =>
 CondV t150_14 (
 run1 Tryz.prog Z (Instr.indexAt 29 t147_10 t149_13) w fun t151_15 w =>
 run1 Tryz.prog Z (Instr.loadAt 122 t151_15) w fun t152_16 w =>
 run1 Tryz.prog Z (Instr.alloc 122 true (.tuple #[])) w fun t6_17 w =>
 run0 Tryz.prog Z (Instr.storeAt 122 t6_17 t152_16) w fun w =>
 run1 Tryz.prog Z (Instr.fieldAt 122 t6_17 1) w fun t153_18 w =>
 run1 Tryz.prog Z (Instr.loadAt 120 t153_18) w fun t154_19 w =>
 CallV Tryz.prog Z 175 #[t154_19] w fun t155_20 w =>
 run1 Tryz.prog Z (Op.unary UnOp.not t155_20) w fun t156_21 w =>
 CondV t156_21 (
 Q (Value.bool false) w) (
 run1 Tryz.prog Z (binOp BinOp.add 3 t149_13 (Value.int IntKind.i64 1)) w fun t157_22 w =>
 ∃ n_12, n_12 < m_12 ∧ J_12 n_12 t157_22 w)) (
 run1 Tryz.prog Z (Instr.fieldAt 33 t1_1 9) w fun t158_23 w =>
 run1 Tryz.prog Z (Instr.loadAt 30 t158_23) w fun t159_24 w =>
 CallV Tryz.prog Z 176 #[t159_24, (Value.func (Fn.func 177) #[] #[])] w fun t160_25 w =>
 run1 Tryz.prog Z (Op.unary UnOp.not t160_25) w fun t161_26 w =>
 Q t161_26 w)) →
 j_8 w) →
 ∀ j_27 : Value → World → Prop, (∀ t12_28 : Value, ∀ w : World, (Env →
 CondV t12_28 (
 Q (Value.bool false) w) (
 ∀ j_29 : Value → World → Prop, (∀ t47_30 : Value, ∀ w : World, (Env →
 CondV t47_30 (
 Q (Value.bool false) w) (
 ∀ j_31 : Value → World → Prop, (∀ t93_32 : Value, ∀ w : World, (Env →
 CondV t93_32 (
 Q (Value.bool false) w) (
 ∀ j_33 : Value → World → Prop, (∀ t114_34 : Value, ∀ w : World, (Env →
 CondV t114_34 (
 Q (Value.bool false) w) (
 j_8 w)) →
 j_33 t114_34 w) →
 run1 Tryz.prog Z (Instr.fieldAt 33 t1_1 7) w fun t115_35 w =>
 run1 Tryz.prog Z (Instr.loadAt 2 t115_35) w fun t116_36 w =>
 run1 Tryz.prog Z (binOp BinOp.lss 2 t116_36 (Value.int IntKind.i64 0)) w fun t117_37 w =>
 CondV t117_37 (
 j_33 t117_37 w) (
 run1 Tryz.prog Z (Instr.fieldAt 33 t1_1 0) w fun t118_38 w =>
 run1 Tryz.prog Z (Instr.loadAt 25 t118_38) w fun t119_39 w =>
 run1 Tryz.prog Z (eqOp BinOp.eql 25 false true t119_39 (Value.int IntKind.i8 8)) w fun t120_40 w =>
 guardW (t120_40) true (fun k => run1 Tryz.prog Z (Instr.fieldAt 33 t1_1 7) w k) (fun t122_41 w =>
 guardW (t120_40) true (fun k => run1 Tryz.prog Z (Instr.loadAt 2 t122_41) w k) (fun t123_42 w =>
 guardW (t120_40) true (fun k => run1 Tryz.prog Z (eqOp BinOp.eql 2 false true t123_42 (Value.int IntKind.i64 0)) w k) (fun t124_43 w =>
 run1 Tryz.prog Z (pickV t120_40 t124_43 (Value.bool false)) w fun t125_44 w =>
 CondV t125_44 (
 j_33 t125_44 w) (
 runX Tryz.prog Z (callVal t11_7 #[(Value.int IntKind.u64 64)]) w fun t127_45 w =>
 guardW (t127_45) true (fun k => run1 Tryz.prog Z (Instr.fieldAt 33 t1_1 8) w k) (fun t129_46 w =>
 guardW (t127_45) true (fun k => run1 Tryz.prog Z (Instr.loadAt 21 t129_46) w k) (fun t130_47 w =>
 guardW (t127_45) true (fun k => run1 Tryz.prog Z (binOp BinOp.lss 21 t130_47 (Value.int IntKind.i32 1)) w k) (fun t131_48 w =>
 guardW (t127_45) true (fun k => k (t131_48) w) (fun t132_49 w =>
 guardW (t132_49) false (fun k => run1 Tryz.prog Z (Instr.fieldAt 33 t1_1 8) w k) (fun t133_50 w =>
 guardW (t132_49) false (fun k => run1 Tryz.prog Z (Instr.loadAt 21 t133_50) w k) (fun t134_51 w =>
 guardW (t132_49) false (fun k => run1 Tryz.prog Z (binOp BinOp.gtr 21 t134_51 (Value.int IntKind.i32 1000)) w k) (fun t135_52 w =>
 guardW (t127_45) true (fun k => run1 Tryz.prog Z (pickV t132_49 (Value.bool true) t135_52) w k) (fun t136_53 w =>
 run1 Tryz.prog Z (pickV t127_45 t136_53 (Value.bool false)) w fun t137_54 w =>
 CondV t137_54 (
 j_33 t137_54 w) (
 runX Tryz.prog Z (callVal t11_7 #[(Value.int IntKind.u64 256)]) w fun t139_55 w =>
 guardW (t139_55) true (fun k => run1 Tryz.prog Z (Instr.fieldAt 33 t1_1 10) w k) (fun t141_56 w =>
 guardW (t139_55) true (fun k => run1 Tryz.prog Z (Instr.loadAt 31 t141_56) w k) (fun t142_57 w =>
 guardW (t139_55) true (fun k => run1 Tryz.prog Z (Builtin.len_ #[31] 3 #[t142_57]) w k) (fun t143_58 w =>
 guardW (t139_55) true (fun k => run1 Tryz.prog Z (eqOp BinOp.eql 3 false true t143_58 (Value.int IntKind.i64 0)) w k) (fun t144_59 w =>
 run1 Tryz.prog Z (pickV t139_55 t144_59 (Value.bool false)) w fun t145_60 w =>
 j_33 t145_60 w) w) w) w) w)) w) w) w) w) w) w) w) w)) w) w) w))) →
 j_31 t93_32 w) →
 run1 Tryz.prog Z (Instr.fieldAt 33 t1_1 1) w fun t94_61 w =>
 run1 Tryz.prog Z (Instr.loadAt 9 t94_61) w fun t95_62 w =>
 run1 Tryz.prog Z (Builtin.len_ #[9] 3 #[t95_62]) w fun t96_63 w =>
 run1 Tryz.prog Z (binOp BinOp.gtr 3 t96_63 (Value.int IntKind.i64 64)) w fun t97_64 w =>
 CondV t97_64 (
 j_31 t97_64 w) (
 run1 Tryz.prog Z (Instr.fieldAt 33 t1_1 2) w fun t98_65 w =>
 run1 Tryz.prog Z (Instr.loadAt 28 t98_65) w fun t99_66 w =>
 run1 Tryz.prog Z (Builtin.len_ #[28] 3 #[t99_66]) w fun t100_67 w =>
 run1 Tryz.prog Z (binOp BinOp.gtr 3 t100_67 (Value.int IntKind.i64 96)) w fun t101_68 w =>
 CondV t101_68 (
 j_31 t101_68 w) (
 run1 Tryz.prog Z (Instr.fieldAt 33 t1_1 3) w fun t102_69 w =>
 run1 Tryz.prog Z (Instr.loadAt 29 t102_69) w fun t103_70 w =>
 run1 Tryz.prog Z (Builtin.len_ #[29] 3 #[t103_70]) w fun t104_71 w =>
 run1 Tryz.prog Z (binOp BinOp.gtr 3 t104_71 (Value.int IntKind.i64 4)) w fun t105_72 w =>
 CondV t105_72 (
 j_31 t105_72 w) (
 run1 Tryz.prog Z (Instr.fieldAt 33 t1_1 9) w fun t106_73 w =>
 run1 Tryz.prog Z (Instr.loadAt 30 t106_73) w fun t107_74 w =>
 run1 Tryz.prog Z (Builtin.len_ #[30] 3 #[t107_74]) w fun t108_75 w =>
 run1 Tryz.prog Z (binOp BinOp.gtr 3 t108_75 (Value.int IntKind.i64 4)) w fun t109_76 w =>
 CondV t109_76 (
 j_31 t109_76 w) (
 run1 Tryz.prog Z (Instr.fieldAt 33 t1_1 10) w fun t110_77 w =>
 run1 Tryz.prog Z (Instr.loadAt 31 t110_77) w fun t111_78 w =>
 run1 Tryz.prog Z (Builtin.len_ #[31] 3 #[t111_78]) w fun t112_79 w =>
 run1 Tryz.prog Z (binOp BinOp.gtr 3 t112_79 (Value.int IntKind.i64 8)) w fun t113_80 w =>
 j_31 t113_80 w)))))) →
 j_29 t47_30 w) →
 runX Tryz.prog Z (callVal t11_7 #[(Value.int IntKind.u64 16)]) w fun t49_81 w =>
 run1 Tryz.prog Z (Op.unary UnOp.not t49_81) w fun t50_82 w =>
 guardW (t50_82) true (fun k => run1 Tryz.prog Z (Instr.fieldAt 33 t1_1 5) w k) (fun t52_83 w =>
 guardW (t50_82) true (fun k => run1 Tryz.prog Z (Instr.loadAt 4 t52_83) w k) (fun t53_84 w =>
 guardW (t50_82) true (fun k => k (t53_84) w) (fun t54_85 w =>
 guardW (t54_85) false (fun k => run1 Tryz.prog Z (Instr.fieldAt 33 t1_1 6) w k) (fun t55_86 w =>
 guardW (t54_85) false (fun k => run1 Tryz.prog Z (Instr.loadAt 4 t55_86) w k) (fun t56_87 w =>
 guardW (t50_82) true (fun k => run1 Tryz.prog Z (pickV t54_85 (Value.bool true) t56_87) w k) (fun t57_88 w =>
 run1 Tryz.prog Z (pickV t50_82 t57_88 (Value.bool false)) w fun t58_89 w =>
 CondV t58_89 (
 j_29 t58_89 w) (
 runX Tryz.prog Z (callVal t11_7 #[(Value.int IntKind.u64 32)]) w fun t60_90 w =>
 run1 Tryz.prog Z (Op.unary UnOp.not t60_90) w fun t61_91 w =>
 guardW (t61_91) true (fun k => run1 Tryz.prog Z (Instr.fieldAt 33 t1_1 7) w k) (fun t63_92 w =>
 guardW (t61_91) true (fun k => run1 Tryz.prog Z (Instr.loadAt 2 t63_92) w k) (fun t64_93 w =>
 guardW (t61_91) true (fun k => run1 Tryz.prog Z (eqOp BinOp.neq 2 false true t64_93 (Value.int IntKind.i64 0)) w k) (fun t65_94 w =>
 run1 Tryz.prog Z (pickV t61_91 t65_94 (Value.bool false)) w fun t66_95 w =>
 CondV t66_95 (
 j_29 t66_95 w) (
 runX Tryz.prog Z (callVal t11_7 #[(Value.int IntKind.u64 64)]) w fun t68_96 w =>
 run1 Tryz.prog Z (Op.unary UnOp.not t68_96) w fun t69_97 w =>
 guardW (t69_97) true (fun k => run1 Tryz.prog Z (Instr.fieldAt 33 t1_1 8) w k) (fun t71_98 w =>
 guardW (t69_97) true (fun k => run1 Tryz.prog Z (Instr.loadAt 21 t71_98) w k) (fun t72_99 w =>
 guardW (t69_97) true (fun k => run1 Tryz.prog Z (eqOp BinOp.neq 21 false true t72_99 (Value.int IntKind.i32 0)) w k) (fun t73_100 w =>
 run1 Tryz.prog Z (pickV t69_97 t73_100 (Value.bool false)) w fun t74_101 w =>
 CondV t74_101 (
 j_29 t74_101 w) (
 runX Tryz.prog Z (callVal t11_7 #[(Value.int IntKind.u64 128)]) w fun t76_102 w =>
 run1 Tryz.prog Z (Op.unary UnOp.not t76_102) w fun t77_103 w =>
 guardW (t77_103) true (fun k => run1 Tryz.prog Z (Instr.fieldAt 33 t1_1 9) w k) (fun t79_104 w =>
 guardW (t77_103) true (fun k => run1 Tryz.prog Z (Instr.loadAt 30 t79_104) w k) (fun t80_105 w =>
 guardW (t77_103) true (fun k => run1 Tryz.prog Z (Builtin.len_ #[30] 3 #[t80_105]) w k) (fun t81_106 w =>
 guardW (t77_103) true (fun k => run1 Tryz.prog Z (binOp BinOp.gtr 3 t81_106 (Value.int IntKind.i64 0)) w k) (fun t82_107 w =>
 run1 Tryz.prog Z (pickV t77_103 t82_107 (Value.bool false)) w fun t83_108 w =>
 CondV t83_108 (
 j_29 t83_108 w) (
 runX Tryz.prog Z (callVal t11_7 #[(Value.int IntKind.u64 256)]) w fun t85_109 w =>
 run1 Tryz.prog Z (Op.unary UnOp.not t85_109) w fun t86_110 w =>
 guardW (t86_110) true (fun k => run1 Tryz.prog Z (Instr.fieldAt 33 t1_1 10) w k) (fun t88_111 w =>
 guardW (t86_110) true (fun k => run1 Tryz.prog Z (Instr.loadAt 31 t88_111) w k) (fun t89_112 w =>
 guardW (t86_110) true (fun k => run1 Tryz.prog Z (Builtin.len_ #[31] 3 #[t89_112]) w k) (fun t90_113 w =>
 guardW (t86_110) true (fun k => run1 Tryz.prog Z (binOp BinOp.gtr 3 t90_113 (Value.int IntKind.i64 0)) w k) (fun t91_114 w =>
 run1 Tryz.prog Z (pickV t86_110 t91_114 (Value.bool false)) w fun t92_115 w =>
 j_29 t92_115 w) w) w) w) w)) w) w) w) w)) w) w) w)) w) w) w)) w) w) w) w) w) w)) →
 j_27 t12_28 w) →
 runX Tryz.prog Z (callVal t11_7 #[(Value.int IntKind.u64 1)]) w fun t14_116 w =>
 run1 Tryz.prog Z (Op.unary UnOp.not t14_116) w fun t15_117 w =>
 guardW (t15_117) true (fun k => run1 Tryz.prog Z (Instr.fieldAt 33 t1_1 1) w k) (fun t17_118 w =>
 guardW (t15_117) true (fun k => run1 Tryz.prog Z (Instr.loadAt 9 t17_118) w k) (fun t18_119 w =>
 guardW (t15_117) true (fun k => run1 Tryz.prog Z (eqOp BinOp.neq 9 false true t18_119 (Value.string { data := #[] })) w k) (fun t19_120 w =>
 run1 Tryz.prog Z (pickV t15_117 t19_120 (Value.bool false)) w fun t20_121 w =>
 CondV t20_121 (
 j_27 t20_121 w) (
 runX Tryz.prog Z (callVal t11_7 #[(Value.int IntKind.u64 2)]) w fun t22_122 w =>
 run1 Tryz.prog Z (Op.unary UnOp.not t22_122) w fun t23_123 w =>
 guardW (t23_123) true (fun k => run1 Tryz.prog Z (Instr.fieldAt 33 t1_1 2) w k) (fun t25_124 w =>
 guardW (t23_123) true (fun k => run1 Tryz.prog Z (Instr.loadAt 28 t25_124) w k) (fun t26_125 w =>
 guardW (t23_123) true (fun k => run1 Tryz.prog Z (Builtin.len_ #[28] 3 #[t26_125]) w k) (fun t27_126 w =>
 guardW (t23_123) true (fun k => run1 Tryz.prog Z (binOp BinOp.gtr 3 t27_126 (Value.int IntKind.i64 0)) w k) (fun t28_127 w =>
 run1 Tryz.prog Z (pickV t23_123 t28_127 (Value.bool false)) w fun t29_128 w =>
 CondV t29_128 (
 j_27 t29_128 w) (
 runX Tryz.prog Z (callVal t11_7 #[(Value.int IntKind.u64 4)]) w fun t31_129 w =>
 run1 Tryz.prog Z (Op.unary UnOp.not t31_129) w fun t32_130 w =>
 guardW (t32_130) true (fun k => run1 Tryz.prog Z (Instr.fieldAt 33 t1_1 3) w k) (fun t34_131 w =>
 guardW (t32_130) true (fun k => run1 Tryz.prog Z (Instr.loadAt 29 t34_131) w k) (fun t35_132 w =>
 guardW (t32_130) true (fun k => run1 Tryz.prog Z (Builtin.len_ #[29] 3 #[t35_132]) w k) (fun t36_133 w =>
 guardW (t32_130) true (fun k => run1 Tryz.prog Z (binOp BinOp.gtr 3 t36_133 (Value.int IntKind.i64 0)) w k) (fun t37_134 w =>
 run1 Tryz.prog Z (pickV t32_130 t37_134 (Value.bool false)) w fun t38_135 w =>
 CondV t38_135 (
 j_27 t38_135 w) (
 runX Tryz.prog Z (callVal t11_7 #[(Value.int IntKind.u64 8)]) w fun t40_136 w =>
 run1 Tryz.prog Z (Op.unary UnOp.not t40_136) w fun t41_137 w =>
 guardW (t41_137) true (fun k => run1 Tryz.prog Z (Instr.fieldAt 33 t1_1 4) w k) (fun t43_138 w =>
 guardW (t41_137) true (fun k => run1 Tryz.prog Z (Instr.loadAt 21 t43_138) w k) (fun t44_139 w =>
 guardW (t41_137) true (fun k => run1 Tryz.prog Z (eqOp BinOp.neq 21 false true t44_139 (Value.int IntKind.i32 0)) w k) (fun t45_140 w =>
 run1 Tryz.prog Z (pickV t41_137 t45_140 (Value.bool false)) w fun t46_141 w =>
 j_27 t46_141 w) w) w) w)) w) w) w) w)) w) w) w) w)) w) w) w
noncomputable def f163.code : Code := match Tryz.f163.body with | some c => c | none => .skip
def f163.an : An := (.sq .leaf (.sq .leaf (.sq .leaf (.sj [] [2, 12, 13, 14, 15, 16, 17, 18, 19, 20, 21, 22, 23, 24, 25, 26, 27, 28, 29, 30, 31, 32, 33, 34, 35, 36, 37, 38, 39, 40, 41, 42, 43, 44, 45, 46, 47, 48, 49, 50, 51, 52, 53, 54, 55, 56, 57, 58, 59, 60, 61, 62, 63, 64, 65, 66, 67, 68, 69, 70, 71, 72, 73, 74, 75, 76, 77, 78, 79, 80, 81, 82, 83, 84, 85, 86, 87, 88, 89, 90, 91, 92, 93, 94, 95, 96, 97, 98, 99, 100, 101, 102, 103, 104, 105, 106, 107, 108, 109, 110, 111, 112, 113, 114, 115, 116, 117, 118, 119, 120, 121, 122, 123, 124, 125, 126, 127, 128, 129, 130, 131, 132, 133, 134, 135, 136, 137, 138, 139, 140, 141, 142, 143, 144, 145] (.bl (.sj [12] [12, 13, 14, 15, 16, 17, 18, 19, 20, 21, 22, 23, 24, 25, 26, 27, 28, 29, 30, 31, 32, 33, 34, 35, 36, 37, 38, 39, 40, 41, 42, 43, 44, 45, 46] (.sq .leaf (.cn .leaf (.sq .leaf (.cn .leaf (.sq .leaf (.cn .leaf .leaf)))))) (.cn (.sq .leaf .leaf) (.sj [47] [47, 48, 49, 50, 51, 52, 53, 54, 55, 56, 57, 58, 59, 60, 61, 62, 63, 64, 65, 66, 67, 68, 69, 70, 71, 72, 73, 74, 75, 76, 77, 78, 79, 80, 81, 82, 83, 84, 85, 86, 87, 88, 89, 90, 91, 92] (.sq .leaf (.cn .leaf (.sq .leaf (.cn .leaf (.sq .leaf (.cn .leaf (.sq .leaf (.cn .leaf .leaf)))))))) (.cn (.sq .leaf .leaf) (.sj [93] [93, 94, 95, 96, 97, 98, 99, 100, 101, 102, 103, 104, 105, 106, 107, 108, 109, 110, 111, 112, 113] (.sq .leaf (.cn .leaf (.sq .leaf (.cn .leaf (.sq .leaf (.cn .leaf (.sq .leaf (.cn .leaf .leaf)))))))) (.cn (.sq .leaf .leaf) (.sj [114] [114, 115, 116, 117, 118, 119, 120, 121, 122, 123, 124, 125, 126, 127, 128, 129, 130, 131, 132, 133, 134, 135, 136, 137, 138, 139, 140, 141, 142, 143, 144, 145] (.sq .leaf (.cn .leaf (.sq .leaf (.cn .leaf (.sq .leaf (.cn .leaf .leaf)))))) (.cn (.sq .leaf .leaf) .leaf))))))))) (.sq (.sq .leaf (.bl (.lp [149] [2, 6, 149, 150, 151, 152, 153, 154, 155, 156, 157] (.sq .leaf (.sq (.cn .leaf .leaf) (.sq (.bl (.sq .leaf (.sq .leaf (.cn (.sq .leaf .leaf) .leaf)))) .leaf)))))) (.sq .leaf .leaf))))))
theorem f163.body_eq : Tryz.f163.body = some f163.code := by kernel_rfl
theorem f163.shape (Z : List PanicEntry → World → Prop) (x0 : Value) (w : World) (Q : Value → World → Prop) : vc drawD Tryz.prog 162 Z [175, 176] f163.an f163.code (fnQ Tryz.prog 162 Tryz.f163.results Q) (argEnv [x0]) w = f163.sh Z x0 w Q := by kernel_rfl
theorem f163.enters : ∀ f, f ∈ ([175, 176] : List Nat) → Enters Tryz.prog f := by
 intro f hf
 simp only [List.mem_cons, List.not_mem_nil, or_false] at hf
 rcases hf with rfl | rfl
 · exact en175
 · exact en176
theorem f163.calls {Z : List PanicEntry → World → Prop} {x0 : Value} {w : World} {Q : Value → World → Prop} (h : f163.sh Z x0 w Q) : CallV Tryz.prog Z 163 #[x0] w Q :=
 calls_of_vcn drawD_sound (Q := Q) (n := 162) (rs := Tryz.f163.results) (an := f163.an) (c := f163.code) (cal := [175, 176]) (args := [x0]) Tryz.func163 (by kernel_rfl) rfl f163.body_eq follows (Nat.le_of_ble_eq_true (by kernel_rfl)) (enters_of_all f163.enters) ((f163.shape Z x0 w Q).mpr h)

def f164.sh (Z : List PanicEntry → World → Prop) (x0 : Value) (w : World) (Q : Value → World → Prop) : Prop :=
 run1 Tryz.prog Z (Instr.box 33 x0) w fun t1_1 w =>
 run1 Tryz.prog Z (Instr.fieldAt 33 t1_1 0) w fun t3_2 w =>
 run1 Tryz.prog Z (Instr.loadAt 25 t3_2) w fun t4_3 w =>
 run1 Tryz.prog Z (binOp BinOp.geq 25 t4_3 (Value.int IntKind.i8 1)) w fun t5_4 w =>
 guardW (t5_4) true (fun k => run1 Tryz.prog Z (Instr.fieldAt 33 t1_1 0) w k) (fun t7_5 w =>
 guardW (t5_4) true (fun k => run1 Tryz.prog Z (Instr.loadAt 25 t7_5) w k) (fun t8_6 w =>
 guardW (t5_4) true (fun k => run1 Tryz.prog Z (binOp BinOp.leq 25 t8_6 (Value.int IntKind.i8 5)) w k) (fun t9_7 w =>
 run1 Tryz.prog Z (pickV t5_4 t9_7 (Value.bool false)) w fun t10_8 w =>
 guardW (t10_8) true (fun k => run1 Tryz.prog Z (Instr.fieldAt 33 t1_1 7) w k) (fun t12_9 w =>
 guardW (t10_8) true (fun k => run1 Tryz.prog Z (Instr.loadAt 2 t12_9) w k) (fun t13_10 w =>
 guardW (t10_8) true (fun k => run1 Tryz.prog Z (eqOp BinOp.eql 2 false true t13_10 (Value.int IntKind.i64 0)) w k) (fun t14_11 w =>
 run1 Tryz.prog Z (pickV t10_8 t14_11 (Value.bool false)) w fun t15_12 w =>
 guardW (t15_12) true (fun k => run1 Tryz.prog Z (Instr.fieldAt 33 t1_1 9) w k) (fun t17_13 w =>
 guardW (t15_12) true (fun k => run1 Tryz.prog Z (Instr.loadAt 30 t17_13) w k) (fun t18_14 w =>
 guardW (t15_12) true (fun k => run1 Tryz.prog Z (Builtin.len_ #[30] 3 #[t18_14]) w k) (fun t19_15 w =>
 guardW (t15_12) true (fun k => run1 Tryz.prog Z (eqOp BinOp.eql 3 false true t19_15 (Value.int IntKind.i64 0)) w k) (fun t20_16 w =>
 run1 Tryz.prog Z (pickV t15_12 t20_16 (Value.bool false)) w fun t21_17 w =>
 guardW (t21_17) true (fun k => run1 Tryz.prog Z (Instr.loadAt 33 t1_1) w k) (fun t23_18 w =>
 guardW (t21_17) true (fun k => CallV Tryz.prog Z 163 #[t23_18] w k) (fun t24_19 w =>
 run1 Tryz.prog Z (pickV t21_17 t24_19 (Value.bool false)) w fun t25_20 w =>
 Q t25_20 w) w) w) w) w) w) w) w) w) w) w) w) w
noncomputable def f164.code : Code := match Tryz.f164.body with | some c => c | none => .skip
def f164.an : An := (.sq .leaf (.sq .leaf .leaf))
theorem f164.body_eq : Tryz.f164.body = some f164.code := by kernel_rfl
theorem f164.shape (Z : List PanicEntry → World → Prop) (x0 : Value) (w : World) (Q : Value → World → Prop) : vc drawD Tryz.prog 26 Z [163] f164.an f164.code (fnQ Tryz.prog 26 Tryz.f164.results Q) (argEnv [x0]) w = f164.sh Z x0 w Q := by kernel_rfl
theorem f164.enters : ∀ f, f ∈ ([163] : List Nat) → Enters Tryz.prog f := by
 intro f hf
 simp only [List.mem_cons, List.not_mem_nil, or_false] at hf
 rcases hf with rfl
 · exact en163
theorem f164.calls {Z : List PanicEntry → World → Prop} {x0 : Value} {w : World} {Q : Value → World → Prop} (h : f164.sh Z x0 w Q) : CallV Tryz.prog Z 164 #[x0] w Q :=
 calls_of_vcn drawD_sound (Q := Q) (n := 26) (rs := Tryz.f164.results) (an := f164.an) (c := f164.code) (cal := [163]) (args := [x0]) Tryz.func164 (by kernel_rfl) rfl f164.body_eq follows (Nat.le_of_ble_eq_true (by kernel_rfl)) (enters_of_all f164.enters) ((f164.shape Z x0 w Q).mpr h)

def f165.sh (Z : List PanicEntry → World → Prop) (x0 x1 : Value) (w : World) (Q : Value → World → Prop) : Prop :=
 run1 Tryz.prog Z (eqOp BinOp.neq 79 false true x0 (Value.pointer none)) w fun t5_1 w =>
 CondV t5_1 (
 runX Tryz.prog Z (nilChk x0) w fun t8_2 w =>
 run1 Tryz.prog Z (Instr.fieldAt 81 t8_2 0) w fun t9_3 w =>
 run1 Tryz.prog Z (Instr.loadAt 28 t9_3) w fun t10_4 w =>
 run1 Tryz.prog Z (Builtin.append_ #[28, 28] 28 #[t10_4, x1]) w fun t12_5 w =>
 runX Tryz.prog Z (nilChk x0) w fun t13_6 w =>
 run1 Tryz.prog Z (Instr.fieldAt 81 t13_6 0) w fun t14_7 w =>
 run0 Tryz.prog Z (Instr.storeAt 28 t14_7 t12_5) w fun w =>
 Q (Value.tuple #[]) w) (
 Q (Value.tuple #[]) w)
noncomputable def f165.code : Code := match Tryz.f165.body with | some c => c | none => .skip
def f165.an : An := (.sq .leaf (.cn .leaf .leaf))
theorem f165.body_eq : Tryz.f165.body = some f165.code := by kernel_rfl
theorem f165.shape (Z : List PanicEntry → World → Prop) (x0 x1 : Value) (w : World) (Q : Value → World → Prop) : vc drawD Tryz.prog 15 Z [] f165.an f165.code (fnQ Tryz.prog 15 Tryz.f165.results Q) (argEnv [x0, x1]) w = f165.sh Z x0 x1 w Q := by kernel_rfl
theorem f165.enters : ∀ f, f ∈ ([] : List Nat) → Enters Tryz.prog f := by
 intro f hf
 cases hf
theorem f165.calls {Z : List PanicEntry → World → Prop} {x0 x1 : Value} {w : World} {Q : Value → World → Prop} (h : f165.sh Z x0 x1 w Q) : CallV Tryz.prog Z 165 #[x0, x1] w Q :=
 calls_of_vcn drawD_sound (Q := Q) (n := 15) (rs := Tryz.f165.results) (an := f165.an) (c := f165.code) (cal := []) (args := [x0, x1]) Tryz.func165 (by kernel_rfl) rfl f165.body_eq follows (Nat.le_of_ble_eq_true (by kernel_rfl)) (enters_of_all f165.enters) ((f165.shape Z x0 x1 w Q).mpr h)

def f166.sh (Z : List PanicEntry → World → Prop) (x0 : Value) (w : World) (Q : Value → World → Prop) : Prop :=
 run1 Tryz.prog Z (Instr.box 33 x0) w fun t1_1 w =>
 run1 Tryz.prog Z (Instr.fieldAt 33 t1_1 0) w fun t4_2 w =>
 run1 Tryz.prog Z (Instr.loadAt 25 t4_2) w fun t5_3 w =>
 CallV Tryz.prog Z 101 #[t5_3] w fun t6_4 w =>
 run1 Tryz.prog Z (eqOp BinOp.eql 9 false true t6_4 (Value.string { data := #[] })) w fun t8_5 w =>
 CondV t8_5 (
 Q (Value.bool false) w) (
 run1 Tryz.prog Z (Instr.fieldAt 33 t1_1 1) w fun t9_6 w =>
 run1 Tryz.prog Z (Instr.loadAt 9 t9_6) w fun t10_7 w =>
 run1 Tryz.prog Z (eqOp BinOp.neq 9 false true t10_7 (Value.string { data := #[] })) w fun t11_8 w =>
 guardW (t11_8) true (fun k => k (t6_4) w) (fun t13_9 w =>
 guardW (t11_8) true (fun k => CallV Tryz.prog Z 178 #[t13_9, (Value.int IntKind.u8 112)] w k) (fun t14_10 w =>
 guardW (t11_8) true (fun k => run1 Tryz.prog Z (Op.unary UnOp.not t14_10) w k) (fun t15_11 w =>
 run1 Tryz.prog Z (pickV t11_8 t15_11 (Value.bool false)) w fun t16_12 w =>
 guardW (t16_12) false (fun k => run1 Tryz.prog Z (Instr.fieldAt 33 t1_1 1) w k) (fun t18_13 w =>
 guardW (t16_12) false (fun k => run1 Tryz.prog Z (Instr.loadAt 9 t18_13) w k) (fun t19_14 w =>
 guardW (t16_12) false (fun k => run1 Tryz.prog Z (Builtin.len_ #[9] 3 #[t19_14]) w k) (fun t20_15 w =>
 guardW (t16_12) false (fun k => run1 Tryz.prog Z (binOp BinOp.gtr 3 t20_15 (Value.int IntKind.i64 64)) w k) (fun t21_16 w =>
 run1 Tryz.prog Z (pickV t16_12 (Value.bool true) t21_16) w fun t22_17 w =>
 CondV t22_17 (
 Q (Value.bool false) w) (
 run1 Tryz.prog Z (Instr.fieldAt 33 t1_1 2) w fun t23_18 w =>
 run1 Tryz.prog Z (Instr.loadAt 28 t23_18) w fun t24_19 w =>
 run1 Tryz.prog Z (Builtin.len_ #[28] 3 #[t24_19]) w fun t25_20 w =>
 run1 Tryz.prog Z (eqOp BinOp.neq 3 false true t25_20 (Value.int IntKind.i64 0)) w fun t26_21 w =>
 guardW (t26_21) true (fun k => k (t6_4) w) (fun t28_22 w =>
 guardW (t26_21) true (fun k => CallV Tryz.prog Z 178 #[t28_22, (Value.int IntKind.u8 100)] w k) (fun t29_23 w =>
 guardW (t26_21) true (fun k => run1 Tryz.prog Z (Op.unary UnOp.not t29_23) w k) (fun t30_24 w =>
 run1 Tryz.prog Z (pickV t26_21 t30_24 (Value.bool false)) w fun t31_25 w =>
 guardW (t31_25) false (fun k => run1 Tryz.prog Z (Instr.fieldAt 33 t1_1 2) w k) (fun t33_26 w =>
 guardW (t31_25) false (fun k => run1 Tryz.prog Z (Instr.loadAt 28 t33_26) w k) (fun t34_27 w =>
 guardW (t31_25) false (fun k => run1 Tryz.prog Z (Builtin.len_ #[28] 3 #[t34_27]) w k) (fun t35_28 w =>
 guardW (t31_25) false (fun k => run1 Tryz.prog Z (binOp BinOp.gtr 3 t35_28 (Value.int IntKind.i64 96)) w k) (fun t36_29 w =>
 run1 Tryz.prog Z (pickV t31_25 (Value.bool true) t36_29) w fun t37_30 w =>
 CondV t37_30 (
 Q (Value.bool false) w) (
 run1 Tryz.prog Z (Instr.fieldAt 33 t1_1 3) w fun t38_31 w =>
 run1 Tryz.prog Z (Instr.loadAt 29 t38_31) w fun t39_32 w =>
 run1 Tryz.prog Z (Builtin.len_ #[29] 3 #[t39_32]) w fun t40_33 w =>
 run1 Tryz.prog Z (eqOp BinOp.neq 3 false true t40_33 (Value.int IntKind.i64 0)) w fun t41_34 w =>
 guardW (t41_34) true (fun k => k (t6_4) w) (fun t43_35 w =>
 guardW (t41_34) true (fun k => CallV Tryz.prog Z 178 #[t43_35, (Value.int IntKind.u8 97)] w k) (fun t44_36 w =>
 guardW (t41_34) true (fun k => run1 Tryz.prog Z (Op.unary UnOp.not t44_36) w k) (fun t45_37 w =>
 run1 Tryz.prog Z (pickV t41_34 t45_37 (Value.bool false)) w fun t46_38 w =>
 guardW (t46_38) false (fun k => run1 Tryz.prog Z (Instr.fieldAt 33 t1_1 3) w k) (fun t48_39 w =>
 guardW (t46_38) false (fun k => run1 Tryz.prog Z (Instr.loadAt 29 t48_39) w k) (fun t49_40 w =>
 guardW (t46_38) false (fun k => CallV Tryz.prog Z 179 #[t49_40] w k) (fun t50_41 w =>
 guardW (t46_38) false (fun k => run1 Tryz.prog Z (Op.unary UnOp.not t50_41) w k) (fun t51_42 w =>
 run1 Tryz.prog Z (pickV t46_38 (Value.bool true) t51_42) w fun t52_43 w =>
 CondV t52_43 (
 Q (Value.bool false) w) (
 run1 Tryz.prog Z (Instr.fieldAt 33 t1_1 4) w fun t53_44 w =>
 run1 Tryz.prog Z (Instr.loadAt 21 t53_44) w fun t54_45 w =>
 run1 Tryz.prog Z (eqOp BinOp.neq 21 false true t54_45 (Value.int IntKind.i32 0)) w fun t55_46 w =>
 guardW (t55_46) true (fun k => k (t6_4) w) (fun t57_47 w =>
 guardW (t55_46) true (fun k => CallV Tryz.prog Z 178 #[t57_47, (Value.int IntKind.u8 118)] w k) (fun t58_48 w =>
 guardW (t55_46) true (fun k => run1 Tryz.prog Z (Op.unary UnOp.not t58_48) w k) (fun t59_49 w =>
 run1 Tryz.prog Z (pickV t55_46 t59_49 (Value.bool false)) w fun t60_50 w =>
 CondV t60_50 (
 Q (Value.bool false) w) (
 run1 Tryz.prog Z (Instr.fieldAt 33 t1_1 5) w fun t61_51 w =>
 run1 Tryz.prog Z (Instr.loadAt 4 t61_51) w fun t62_52 w =>
 guardW (t62_52) false (fun k => run1 Tryz.prog Z (Instr.fieldAt 33 t1_1 6) w k) (fun t64_53 w =>
 guardW (t62_52) false (fun k => run1 Tryz.prog Z (Instr.loadAt 4 t64_53) w k) (fun t65_54 w =>
 run1 Tryz.prog Z (pickV t62_52 (Value.bool true) t65_54) w fun t66_55 w =>
 guardW (t66_55) true (fun k => k (t6_4) w) (fun t68_56 w =>
 guardW (t66_55) true (fun k => CallV Tryz.prog Z 178 #[t68_56, (Value.int IntKind.u8 102)] w k) (fun t69_57 w =>
 guardW (t66_55) true (fun k => run1 Tryz.prog Z (Op.unary UnOp.not t69_57) w k) (fun t70_58 w =>
 run1 Tryz.prog Z (pickV t66_55 t70_58 (Value.bool false)) w fun t71_59 w =>
 CondV t71_59 (
 Q (Value.bool false) w) (
 run1 Tryz.prog Z (Instr.fieldAt 33 t1_1 7) w fun t72_60 w =>
 run1 Tryz.prog Z (Instr.loadAt 2 t72_60) w fun t73_61 w =>
 run1 Tryz.prog Z (eqOp BinOp.neq 2 false true t73_61 (Value.int IntKind.i64 0)) w fun t74_62 w =>
 guardW (t74_62) true (fun k => k (t6_4) w) (fun t76_63 w =>
 guardW (t74_62) true (fun k => CallV Tryz.prog Z 178 #[t76_63, (Value.int IntKind.u8 115)] w k) (fun t77_64 w =>
 guardW (t74_62) true (fun k => run1 Tryz.prog Z (Op.unary UnOp.not t77_64) w k) (fun t78_65 w =>
 run1 Tryz.prog Z (pickV t74_62 t78_65 (Value.bool false)) w fun t79_66 w =>
 guardW (t79_66) false (fun k => run1 Tryz.prog Z (Instr.fieldAt 33 t1_1 7) w k) (fun t81_67 w =>
 guardW (t79_66) false (fun k => run1 Tryz.prog Z (Instr.loadAt 2 t81_67) w k) (fun t82_68 w =>
 guardW (t79_66) false (fun k => run1 Tryz.prog Z (binOp BinOp.lss 2 t82_68 (Value.int IntKind.i64 0)) w k) (fun t83_69 w =>
 run1 Tryz.prog Z (pickV t79_66 (Value.bool true) t83_69) w fun t84_70 w =>
 guardW (t84_70) false (fun k => run1 Tryz.prog Z (Instr.fieldAt 33 t1_1 0) w k) (fun t86_71 w =>
 guardW (t84_70) false (fun k => run1 Tryz.prog Z (Instr.loadAt 25 t86_71) w k) (fun t87_72 w =>
 guardW (t84_70) false (fun k => run1 Tryz.prog Z (eqOp BinOp.eql 25 false true t87_72 (Value.int IntKind.i8 8)) w k) (fun t88_73 w =>
 guardW (t84_70) false (fun k => k (t88_73) w) (fun t89_74 w =>
 guardW (t89_74) true (fun k => run1 Tryz.prog Z (Instr.fieldAt 33 t1_1 7) w k) (fun t90_75 w =>
 guardW (t89_74) true (fun k => run1 Tryz.prog Z (Instr.loadAt 2 t90_75) w k) (fun t91_76 w =>
 guardW (t89_74) true (fun k => run1 Tryz.prog Z (binOp BinOp.lss 2 t91_76 (Value.int IntKind.i64 1)) w k) (fun t92_77 w =>
 guardW (t84_70) false (fun k => run1 Tryz.prog Z (pickV t89_74 t92_77 (Value.bool false)) w k) (fun t93_78 w =>
 run1 Tryz.prog Z (pickV t84_70 (Value.bool true) t93_78) w fun t94_79 w =>
 CondV t94_79 (
 Q (Value.bool false) w) (
 CallV Tryz.prog Z 178 #[t6_4, (Value.int IntKind.u8 116)] w fun t96_80 w =>
 guardW (t96_80) true (fun k => run1 Tryz.prog Z (Instr.fieldAt 33 t1_1 8) w k) (fun t98_81 w =>
 guardW (t96_80) true (fun k => run1 Tryz.prog Z (Instr.loadAt 21 t98_81) w k) (fun t99_82 w =>
 guardW (t96_80) true (fun k => run1 Tryz.prog Z (binOp BinOp.lss 21 t99_82 (Value.int IntKind.i32 1)) w k) (fun t100_83 w =>
 guardW (t96_80) true (fun k => k (t100_83) w) (fun t101_84 w =>
 guardW (t101_84) false (fun k => run1 Tryz.prog Z (Instr.fieldAt 33 t1_1 8) w k) (fun t102_85 w =>
 guardW (t101_84) false (fun k => run1 Tryz.prog Z (Instr.loadAt 21 t102_85) w k) (fun t103_86 w =>
 guardW (t101_84) false (fun k => run1 Tryz.prog Z (binOp BinOp.gtr 21 t103_86 (Value.int IntKind.i32 1000)) w k) (fun t104_87 w =>
 guardW (t96_80) true (fun k => run1 Tryz.prog Z (pickV t101_84 (Value.bool true) t104_87) w k) (fun t105_88 w =>
 run1 Tryz.prog Z (pickV t96_80 t105_88 (Value.bool false)) w fun t106_89 w =>
 guardW (t106_89) false (fun k => k (t6_4) w) (fun t108_90 w =>
 guardW (t106_89) false (fun k => CallV Tryz.prog Z 178 #[t108_90, (Value.int IntKind.u8 116)] w k) (fun t109_91 w =>
 guardW (t106_89) false (fun k => run1 Tryz.prog Z (Op.unary UnOp.not t109_91) w k) (fun t110_92 w =>
 guardW (t106_89) false (fun k => k (t110_92) w) (fun t111_93 w =>
 guardW (t111_93) true (fun k => run1 Tryz.prog Z (Instr.fieldAt 33 t1_1 8) w k) (fun t112_94 w =>
 guardW (t111_93) true (fun k => run1 Tryz.prog Z (Instr.loadAt 21 t112_94) w k) (fun t113_95 w =>
 guardW (t111_93) true (fun k => run1 Tryz.prog Z (eqOp BinOp.neq 21 false true t113_95 (Value.int IntKind.i32 0)) w k) (fun t114_96 w =>
 guardW (t106_89) false (fun k => run1 Tryz.prog Z (pickV t111_93 t114_96 (Value.bool false)) w k) (fun t115_97 w =>
 run1 Tryz.prog Z (pickV t106_89 (Value.bool true) t115_97) w fun t116_98 w =>
 CondV t116_98 (
 Q (Value.bool false) w) (
 run1 Tryz.prog Z (Instr.fieldAt 33 t1_1 9) w fun t117_99 w =>
 run1 Tryz.prog Z (Instr.loadAt 30 t117_99) w fun t118_100 w =>
 run1 Tryz.prog Z (Builtin.len_ #[30] 3 #[t118_100]) w fun t119_101 w =>
 run1 Tryz.prog Z (eqOp BinOp.neq 3 false true t119_101 (Value.int IntKind.i64 0)) w fun t120_102 w =>
 guardW (t120_102) true (fun k => k (t6_4) w) (fun t122_103 w =>
 guardW (t120_102) true (fun k => CallV Tryz.prog Z 178 #[t122_103, (Value.int IntKind.u8 119)] w k) (fun t123_104 w =>
 guardW (t120_102) true (fun k => run1 Tryz.prog Z (Op.unary UnOp.not t123_104) w k) (fun t124_105 w =>
 run1 Tryz.prog Z (pickV t120_102 t124_105 (Value.bool false)) w fun t125_106 w =>
 guardW (t125_106) false (fun k => run1 Tryz.prog Z (Instr.fieldAt 33 t1_1 9) w k) (fun t127_107 w =>
 guardW (t125_106) false (fun k => run1 Tryz.prog Z (Instr.loadAt 30 t127_107) w k) (fun t128_108 w =>
 guardW (t125_106) false (fun k => CallV Tryz.prog Z 180 #[t128_108] w k) (fun t129_109 w =>
 guardW (t125_106) false (fun k => run1 Tryz.prog Z (Op.unary UnOp.not t129_109) w k) (fun t130_110 w =>
 run1 Tryz.prog Z (pickV t125_106 (Value.bool true) t130_110) w fun t131_111 w =>
 CondV t131_111 (
 Q (Value.bool false) w) (
 CallV Tryz.prog Z 178 #[t6_4, (Value.int IntKind.u8 111)] w fun t133_112 w =>
 CondV t133_112 (
 run1 Tryz.prog Z (Instr.fieldAt 33 t1_1 10) w fun t134_113 w =>
 run1 Tryz.prog Z (Instr.loadAt 31 t134_113) w fun t135_114 w =>
 run1 Tryz.prog Z (Builtin.len_ #[31] 3 #[t135_114]) w fun t136_115 w =>
 run1 Tryz.prog Z (binOp BinOp.geq 3 t136_115 (Value.int IntKind.i64 1)) w fun t137_116 w =>
 guardW (t137_116) true (fun k => run1 Tryz.prog Z (Instr.fieldAt 33 t1_1 10) w k) (fun t139_117 w =>
 guardW (t137_116) true (fun k => run1 Tryz.prog Z (Instr.loadAt 31 t139_117) w k) (fun t140_118 w =>
 guardW (t137_116) true (fun k => run1 Tryz.prog Z (Builtin.len_ #[31] 3 #[t140_118]) w k) (fun t141_119 w =>
 guardW (t137_116) true (fun k => run1 Tryz.prog Z (binOp BinOp.leq 3 t141_119 (Value.int IntKind.i64 8)) w k) (fun t142_120 w =>
 run1 Tryz.prog Z (pickV t137_116 t142_120 (Value.bool false)) w fun t143_121 w =>
 Q t143_121 w) w) w) w) w) (
 run1 Tryz.prog Z (Instr.fieldAt 33 t1_1 10) w fun t144_122 w =>
 run1 Tryz.prog Z (Instr.loadAt 31 t144_122) w fun t145_123 w =>
 run1 Tryz.prog Z (Builtin.len_ #[31] 3 #[t145_123]) w fun t146_124 w =>
 run1 Tryz.prog Z (eqOp BinOp.eql 3 false true t146_124 (Value.int IntKind.i64 0)) w fun t147_125 w =>
 Q t147_125 w))) w) w) w) w) w) w) w)) w) w) w) w) w) w) w) w) w) w) w) w) w) w) w) w)) w) w) w) w) w) w) w) w) w) w) w) w) w) w)) w) w) w) w) w)) w) w) w)) w) w) w) w) w) w) w)) w) w) w) w) w) w) w)) w) w) w) w) w) w) w)
noncomputable def f166.code : Code := match Tryz.f166.body with | some c => c | none => .skip
def f166.an : An := (.sq .leaf (.sq .leaf (.sq (.sq .leaf (.cn (.sq .leaf .leaf) .leaf)) (.sq (.sq .leaf (.cn (.sq .leaf .leaf) .leaf)) (.sq (.sq .leaf (.cn (.sq .leaf .leaf) .leaf)) (.sq (.sq .leaf (.cn (.sq .leaf .leaf) .leaf)) (.sq (.sq .leaf (.cn (.sq .leaf .leaf) .leaf)) (.sq (.sq .leaf (.cn (.sq .leaf .leaf) .leaf)) (.sq (.sq .leaf (.cn (.sq .leaf .leaf) .leaf)) (.sq (.sq .leaf (.cn (.sq .leaf .leaf) .leaf)) (.sq (.sq .leaf (.cn (.sq .leaf .leaf) .leaf)) (.sq (.sq .leaf (.cn (.sq .leaf .leaf) .leaf)) (.sq .leaf .leaf)))))))))))))
theorem f166.body_eq : Tryz.f166.body = some f166.code := by kernel_rfl
theorem f166.shape (Z : List PanicEntry → World → Prop) (x0 : Value) (w : World) (Q : Value → World → Prop) : vc drawD Tryz.prog 148 Z [101, 178, 179, 180] f166.an f166.code (fnQ Tryz.prog 148 Tryz.f166.results Q) (argEnv [x0]) w = f166.sh Z x0 w Q := by kernel_rfl
theorem f166.enters : ∀ f, f ∈ ([101, 178, 179, 180] : List Nat) → Enters Tryz.prog f := by
 intro f hf
 simp only [List.mem_cons, List.not_mem_nil, or_false] at hf
 rcases hf with rfl | rfl | rfl | rfl
 · exact en101
 · exact en178
 · exact en179
 · exact en180
theorem f166.calls {Z : List PanicEntry → World → Prop} {x0 : Value} {w : World} {Q : Value → World → Prop} (h : f166.sh Z x0 w Q) : CallV Tryz.prog Z 166 #[x0] w Q :=
 calls_of_vcn drawD_sound (Q := Q) (n := 148) (rs := Tryz.f166.results) (an := f166.an) (c := f166.code) (cal := [101, 178, 179, 180]) (args := [x0]) Tryz.func166 (by kernel_rfl) rfl f166.body_eq follows (Nat.le_of_ble_eq_true (by kernel_rfl)) (enters_of_all f166.enters) ((f166.shape Z x0 w Q).mpr h)

def f168.sh (Z : List PanicEntry → World → Prop) (x0 x1 : Value) (w : World) (Q : Value → World → Prop) : Prop :=
 CallV Tryz.prog Z 145 #[x0] w fun t7_1 w =>
 run1 Tryz.prog Z (Op.unary UnOp.not t7_1) w fun t8_2 w =>
 CondV t8_2 (
 Q (Value.tuple #[(Value.slice none 0 0), (Value.bool false)]) w) (
 runX Tryz.prog Z (nilChk x0) w fun t10_3 w =>
 run1 Tryz.prog Z (Instr.fieldAt 227 t10_3 1) w fun t11_4 w =>
 run1 Tryz.prog Z (Instr.loadAt 28 t11_4) w fun t12_5 w =>
 run1 Tryz.prog Z (Builtin.len_ #[28] 3 #[t12_5]) w fun t13_6 w =>
 run1 Tryz.prog Z (binOp BinOp.lss 3 t13_6 x1) w fun t15_7 w =>
 CondV t15_7 (
 runX Tryz.prog Z (nilChk x0) w fun t17_8 w =>
 run1 Tryz.prog Z (Instr.fieldAt 227 t17_8 2) w fun t18_9 w =>
 run0 Tryz.prog Z (Instr.storeAt 39 t18_9 (Value.int IntKind.i64 10)) w fun w =>
 Q (Value.tuple #[(Value.slice none 0 0), (Value.bool false)]) w) (
 runX Tryz.prog Z (nilChk x0) w fun t20_10 w =>
 run1 Tryz.prog Z (Instr.fieldAt 227 t20_10 1) w fun t21_11 w =>
 run1 Tryz.prog Z (Instr.loadAt 28 t21_11) w fun t22_12 w =>
 run1 Tryz.prog Z (Instr.sliceAt 28 t22_12 none (some x1) (some x1)) w fun t25_13 w =>
 Q (Value.tuple #[t25_13, (Value.bool true)]) w))
noncomputable def f168.code : Code := match Tryz.f168.body with | some c => c | none => .skip
def f168.an : An := (.sq .leaf (.sq (.sq .leaf (.cn (.sq .leaf .leaf) .leaf)) (.sq (.sq .leaf (.cn (.sq .leaf (.sq .leaf .leaf)) .leaf)) (.sq .leaf .leaf))))
theorem f168.body_eq : Tryz.f168.body = some f168.code := by kernel_rfl
theorem f168.shape (Z : List PanicEntry → World → Prop) (x0 x1 : Value) (w : World) (Q : Value → World → Prop) : vc drawD Tryz.prog 26 Z [145] f168.an f168.code (fnQ Tryz.prog 26 Tryz.f168.results Q) (argEnv [x0, x1]) w = f168.sh Z x0 x1 w Q := by kernel_rfl
theorem f168.enters : ∀ f, f ∈ ([145] : List Nat) → Enters Tryz.prog f := by
 intro f hf
 simp only [List.mem_cons, List.not_mem_nil, or_false] at hf
 rcases hf with rfl
 · exact en145
theorem f168.calls {Z : List PanicEntry → World → Prop} {x0 x1 : Value} {w : World} {Q : Value → World → Prop} (h : f168.sh Z x0 x1 w Q) : CallV Tryz.prog Z 168 #[x0, x1] w Q :=
 calls_of_vcn drawD_sound (Q := Q) (n := 26) (rs := Tryz.f168.results) (an := f168.an) (c := f168.code) (cal := [145]) (args := [x0, x1]) Tryz.func168 (by kernel_rfl) rfl f168.body_eq follows (Nat.le_of_ble_eq_true (by kernel_rfl)) (enters_of_all f168.enters) ((f168.shape Z x0 x1 w Q).mpr h)

def f169.sh (Z : List PanicEntry → World → Prop) (x0 x1 : Value) (w : World) (Q : Value → World → Prop) : Prop :=
 CallV Tryz.prog Z 170 #[x0] w fun t10_1 w =>
 CallV Tryz.prog Z 140 #[x0] w fun t12_2 w =>
 run1 Tryz.prog Z (convert 21 3 t12_2) w fun t13_3 w =>
 CallV Tryz.prog Z 145 #[x0] w fun t15_4 w =>
 run1 Tryz.prog Z (Op.unary UnOp.not t15_4) w fun t16_5 w =>
 CondV t16_5 (
 Q (Value.slice none 0 0) w) (
 run1 Tryz.prog Z (binOp BinOp.lss 3 t13_3 (Value.int IntKind.i64 0)) w fun t18_6 w =>
 guardW (t18_6) false (fun k => k (t13_3) w) (fun t20_7 w =>
 guardW (t18_6) false (fun k => k (x1) w) (fun t21_8 w =>
 guardW (t18_6) false (fun k => run1 Tryz.prog Z (binOp BinOp.gtr 3 t20_7 t21_8) w k) (fun t22_9 w =>
 run1 Tryz.prog Z (pickV t18_6 (Value.bool true) t22_9) w fun t23_10 w =>
 CondV t23_10 (
 CallV Tryz.prog Z 171 #[x0, t10_1, (Value.int IntKind.i64 11)] w fun t26_11 w =>
 Q (Value.slice none 0 0) w) (
 CallV Tryz.prog Z 168 #[x0, t13_3] w fun t30_12 w =>
 run1 Tryz.prog Z (Instr.extract t30_12 0) w fun t31_13 w =>
 run1 Tryz.prog Z (Instr.extract t30_12 1) w fun t32_14 w =>
 run1 Tryz.prog Z (Op.unary UnOp.not t32_14) w fun t34_15 w =>
 CondV t34_15 (
 CallV Tryz.prog Z 171 #[x0, t10_1, (Value.int IntKind.i64 10)] w fun t37_16 w =>
 Q (Value.slice none 0 0) w) (
 runX Tryz.prog Z (nilChk x0) w fun t40_17 w =>
 run1 Tryz.prog Z (Instr.fieldAt 227 t40_17 1) w fun t41_18 w =>
 run1 Tryz.prog Z (Instr.loadAt 28 t41_18) w fun t42_19 w =>
 run1 Tryz.prog Z (Instr.sliceAt 28 t42_19 (some t13_3) none none) w fun t44_20 w =>
 runX Tryz.prog Z (nilChk x0) w fun t45_21 w =>
 run1 Tryz.prog Z (Instr.fieldAt 227 t45_21 1) w fun t46_22 w =>
 run0 Tryz.prog Z (Instr.storeAt 28 t46_22 t44_20) w fun w =>
 Q t31_13 w))) w) w) w)
noncomputable def f169.code : Code := match Tryz.f169.body with | some c => c | none => .skip
def f169.an : An := (.sq .leaf (.sq .leaf (.sq .leaf (.sq (.sq .leaf (.cn (.sq .leaf .leaf) .leaf)) (.sq (.sq .leaf (.cn (.sq .leaf (.sq .leaf .leaf)) .leaf)) (.sq .leaf (.sq (.sq .leaf (.cn (.sq .leaf (.sq .leaf .leaf)) .leaf)) (.sq .leaf (.sq .leaf .leaf)))))))))
theorem f169.body_eq : Tryz.f169.body = some f169.code := by kernel_rfl
theorem f169.shape (Z : List PanicEntry → World → Prop) (x0 x1 : Value) (w : World) (Q : Value → World → Prop) : vc drawD Tryz.prog 48 Z [170, 140, 145, 171, 168] f169.an f169.code (fnQ Tryz.prog 48 Tryz.f169.results Q) (argEnv [x0, x1]) w = f169.sh Z x0 x1 w Q := by kernel_rfl
theorem f169.enters : ∀ f, f ∈ ([170, 140, 145, 171, 168] : List Nat) → Enters Tryz.prog f := by
 intro f hf
 simp only [List.mem_cons, List.not_mem_nil, or_false] at hf
 rcases hf with rfl | rfl | rfl | rfl | rfl
 · exact en170
 · exact en140
 · exact en145
 · exact en171
 · exact en168
theorem f169.calls {Z : List PanicEntry → World → Prop} {x0 x1 : Value} {w : World} {Q : Value → World → Prop} (h : f169.sh Z x0 x1 w Q) : CallV Tryz.prog Z 169 #[x0, x1] w Q :=
 calls_of_vcn drawD_sound (Q := Q) (n := 48) (rs := Tryz.f169.results) (an := f169.an) (c := f169.code) (cal := [170, 140, 145, 171, 168]) (args := [x0, x1]) Tryz.func169 (by kernel_rfl) rfl f169.body_eq follows (Nat.le_of_ble_eq_true (by kernel_rfl)) (enters_of_all f169.enters) ((f169.shape Z x0 x1 w Q).mpr h)

def f170.sh (Z : List PanicEntry → World → Prop) (x0 : Value) (w : World) (Q : Value → World → Prop) : Prop :=
 CallV Tryz.prog Z 172 #[x0] w fun t4_1 w =>
 CondV t4_1 (
 Q (Value.slice none 0 0) w) (
 runX Tryz.prog Z (nilChk x0) w fun t6_2 w =>
 run1 Tryz.prog Z (Instr.fieldAt 227 t6_2 1) w fun t7_3 w =>
 run1 Tryz.prog Z (Instr.loadAt 28 t7_3) w fun t8_4 w =>
 Q t8_4 w)
noncomputable def f170.code : Code := match Tryz.f170.body with | some c => c | none => .skip
def f170.an : An := (.sq .leaf (.sq (.sq .leaf (.cn (.sq .leaf .leaf) .leaf)) (.sq .leaf .leaf)))
theorem f170.body_eq : Tryz.f170.body = some f170.code := by kernel_rfl
theorem f170.shape (Z : List PanicEntry → World → Prop) (x0 : Value) (w : World) (Q : Value → World → Prop) : vc drawD Tryz.prog 9 Z [172] f170.an f170.code (fnQ Tryz.prog 9 Tryz.f170.results Q) (argEnv [x0]) w = f170.sh Z x0 w Q := by kernel_rfl
theorem f170.enters : ∀ f, f ∈ ([172] : List Nat) → Enters Tryz.prog f := by
 intro f hf
 simp only [List.mem_cons, List.not_mem_nil, or_false] at hf
 rcases hf with rfl
 · exact en172
theorem f170.calls {Z : List PanicEntry → World → Prop} {x0 : Value} {w : World} {Q : Value → World → Prop} (h : f170.sh Z x0 w Q) : CallV Tryz.prog Z 170 #[x0] w Q :=
 calls_of_vcn drawD_sound (Q := Q) (n := 9) (rs := Tryz.f170.results) (an := f170.an) (c := f170.code) (cal := [172]) (args := [x0]) Tryz.func170 (by kernel_rfl) rfl f170.body_eq follows (Nat.le_of_ble_eq_true (by kernel_rfl)) (enters_of_all f170.enters) ((f170.shape Z x0 w Q).mpr h)

def f171.sh (Z : List PanicEntry → World → Prop) (x0 x1 x2 : Value) (w : World) (Q : Value → World → Prop) : Prop :=
 runX Tryz.prog Z (nilChk x0) w fun t10_1 w =>
 run1 Tryz.prog Z (Instr.fieldAt 227 t10_1 1) w fun t11_2 w =>
 run0 Tryz.prog Z (Instr.storeAt 28 t11_2 x1) w fun w =>
 runX Tryz.prog Z (nilChk x0) w fun t12_3 w =>
 run1 Tryz.prog Z (Instr.fieldAt 227 t12_3 2) w fun t13_4 w =>
 run0 Tryz.prog Z (Instr.storeAt 39 t13_4 x2) w fun w =>
 Q (Value.tuple #[]) w
noncomputable def f171.code : Code := match Tryz.f171.body with | some c => c | none => .skip
def f171.an : An := .leaf
theorem f171.body_eq : Tryz.f171.body = some f171.code := by kernel_rfl
theorem f171.shape (Z : List PanicEntry → World → Prop) (x0 x1 x2 : Value) (w : World) (Q : Value → World → Prop) : vc drawD Tryz.prog 14 Z [] f171.an f171.code (fnQ Tryz.prog 14 Tryz.f171.results Q) (argEnv [x0, x1, x2]) w = f171.sh Z x0 x1 x2 w Q := by kernel_rfl
theorem f171.enters : ∀ f, f ∈ ([] : List Nat) → Enters Tryz.prog f := by
 intro f hf
 cases hf
theorem f171.calls {Z : List PanicEntry → World → Prop} {x0 x1 x2 : Value} {w : World} {Q : Value → World → Prop} (h : f171.sh Z x0 x1 x2 w Q) : CallV Tryz.prog Z 171 #[x0, x1, x2] w Q :=
 calls_of_vcn drawD_sound (Q := Q) (n := 14) (rs := Tryz.f171.results) (an := f171.an) (c := f171.code) (cal := []) (args := [x0, x1, x2]) Tryz.func171 (by kernel_rfl) rfl f171.body_eq follows (Nat.le_of_ble_eq_true (by kernel_rfl)) (enters_of_all f171.enters) ((f171.shape Z x0 x1 x2 w Q).mpr h)

def f172.sh (Z : List PanicEntry → World → Prop) (x0 : Value) (w : World) (Q : Value → World → Prop) : Prop :=
 run1 Tryz.prog Z (eqOp BinOp.eql 123 false true x0 (Value.pointer none)) w fun t4_1 w =>
 guardW (t4_1) false (fun k => k (x0) w) (fun t6_2 w =>
 guardW (t4_1) false (fun k => runX Tryz.prog Z (nilChk t6_2) w k) (fun t7_3 w =>
 guardW (t4_1) false (fun k => run1 Tryz.prog Z (Instr.fieldAt 227 t7_3 0) w k) (fun t8_4 w =>
 guardW (t4_1) false (fun k => run1 Tryz.prog Z (Instr.loadAt 4 t8_4) w k) (fun t9_5 w =>
 guardW (t4_1) false (fun k => run1 Tryz.prog Z (Op.unary UnOp.not t9_5) w k) (fun t10_6 w =>
 run1 Tryz.prog Z (pickV t4_1 (Value.bool true) t10_6) w fun t11_7 w =>
 Q t11_7 w) w) w) w) w) w
noncomputable def f172.code : Code := match Tryz.f172.body with | some c => c | none => .skip
def f172.an : An := (.sq .leaf (.sq .leaf .leaf))
theorem f172.body_eq : Tryz.f172.body = some f172.code := by kernel_rfl
theorem f172.shape (Z : List PanicEntry → World → Prop) (x0 : Value) (w : World) (Q : Value → World → Prop) : vc drawD Tryz.prog 12 Z [] f172.an f172.code (fnQ Tryz.prog 12 Tryz.f172.results Q) (argEnv [x0]) w = f172.sh Z x0 w Q := by kernel_rfl
theorem f172.enters : ∀ f, f ∈ ([] : List Nat) → Enters Tryz.prog f := by
 intro f hf
 cases hf
theorem f172.calls {Z : List PanicEntry → World → Prop} {x0 : Value} {w : World} {Q : Value → World → Prop} (h : f172.sh Z x0 w Q) : CallV Tryz.prog Z 172 #[x0] w Q :=
 calls_of_vcn drawD_sound (Q := Q) (n := 12) (rs := Tryz.f172.results) (an := f172.an) (c := f172.code) (cal := []) (args := [x0]) Tryz.func172 (by kernel_rfl) rfl f172.body_eq follows (Nat.le_of_ble_eq_true (by kernel_rfl)) (enters_of_all f172.enters) ((f172.shape Z x0 w Q).mpr h)

def f173.sh (Z : List PanicEntry → World → Prop) (x0 x1 x2 : Value) (w : World) (Q : Value → World → Prop) : Prop :=
 runX Tryz.prog Z (nilChk x0) w fun t8_1 w =>
 run1 Tryz.prog Z (Instr.fieldAt 239 t8_1 1) w fun t9_2 w =>
 run0 Tryz.prog Z (Instr.storeAt 3 t9_2 x1) w fun w =>
 runX Tryz.prog Z (nilChk x0) w fun t12_3 w =>
 run1 Tryz.prog Z (Instr.fieldAt 239 t12_3 2) w fun t13_4 w =>
 run0 Tryz.prog Z (Instr.storeAt 39 t13_4 x2) w fun w =>
 Q (Value.tuple #[]) w
noncomputable def f173.code : Code := match Tryz.f173.body with | some c => c | none => .skip
def f173.an : An := (.sq .leaf .leaf)
theorem f173.body_eq : Tryz.f173.body = some f173.code := by kernel_rfl
theorem f173.shape (Z : List PanicEntry → World → Prop) (x0 x1 x2 : Value) (w : World) (Q : Value → World → Prop) : vc drawD Tryz.prog 14 Z [] f173.an f173.code (fnQ Tryz.prog 14 Tryz.f173.results Q) (argEnv [x0, x1, x2]) w = f173.sh Z x0 x1 x2 w Q := by kernel_rfl
theorem f173.enters : ∀ f, f ∈ ([] : List Nat) → Enters Tryz.prog f := by
 intro f hf
 cases hf
theorem f173.calls {Z : List PanicEntry → World → Prop} {x0 x1 x2 : Value} {w : World} {Q : Value → World → Prop} (h : f173.sh Z x0 x1 x2 w Q) : CallV Tryz.prog Z 173 #[x0, x1, x2] w Q :=
 calls_of_vcn drawD_sound (Q := Q) (n := 14) (rs := Tryz.f173.results) (an := f173.an) (c := f173.code) (cal := []) (args := [x0, x1, x2]) Tryz.func173 (by kernel_rfl) rfl f173.body_eq follows (Nat.le_of_ble_eq_true (by kernel_rfl)) (enters_of_all f173.enters) ((f173.shape Z x0 x1 x2 w Q).mpr h)

def f174.sh (Z : List PanicEntry → World → Prop) (x0 x1 : Value) (w : World) (Q : Value → World → Prop) : Prop :=
 run1 Tryz.prog Z (Instr.loadAt 143 x1) w fun t4_1 w =>
 run1 Tryz.prog Z (binOp BinOp.and 143 t4_1 x0) w fun t6_2 w =>
 run1 Tryz.prog Z (eqOp BinOp.neq 143 false true t6_2 (Value.int IntKind.u64 0)) w fun t7_3 w =>
 Q t7_3 w
noncomputable def f174.code : Code := match Tryz.f174.body with | some c => c | none => .skip
def f174.an : An := (.sq .leaf (.sq .leaf .leaf))
theorem f174.body_eq : Tryz.f174.body = some f174.code := by kernel_rfl
theorem f174.shape (Z : List PanicEntry → World → Prop) (x0 x1 : Value) (w : World) (Q : Value → World → Prop) : vc drawD Tryz.prog 8 Z [] f174.an f174.code (fnQ Tryz.prog 8 Tryz.f174.results Q) (argEnv [x0, x1]) w = f174.sh Z x0 x1 w Q := by kernel_rfl
theorem f174.enters : ∀ f, f ∈ ([] : List Nat) → Enters Tryz.prog f := by
 intro f hf
 cases hf
theorem f174.calls {Z : List PanicEntry → World → Prop} {x0 x1 : Value} {w : World} {Q : Value → World → Prop} (h : f174.sh Z x0 x1 w Q) : CallV Tryz.prog Z 174 #[x0, x1] w Q :=
 calls_of_vcn drawD_sound (Q := Q) (n := 8) (rs := Tryz.f174.results) (an := f174.an) (c := f174.code) (cal := []) (args := [x0, x1]) Tryz.func174 (by kernel_rfl) rfl f174.body_eq follows (Nat.le_of_ble_eq_true (by kernel_rfl)) (enters_of_all f174.enters) ((f174.shape Z x0 x1 w Q).mpr h)

def f175.sh (Z : List PanicEntry → World → Prop) (x0 : Value) (w : World) (Q : Value → World → Prop) : Prop :=
 run1 Tryz.prog Z (Instr.box 120 x0) w fun t1_1 w =>
 run1 Tryz.prog Z (Instr.fieldAt 120 t1_1 0) w fun t3_2 w =>
 run1 Tryz.prog Z (Instr.loadAt 9 t3_2) w fun t4_3 w =>
 run1 Tryz.prog Z (Builtin.len_ #[9] 3 #[t4_3]) w fun t5_4 w =>
 run1 Tryz.prog Z (binOp BinOp.leq 3 t5_4 (Value.int IntKind.i64 24)) w fun t6_5 w =>
 guardW (t6_5) true (fun k => run1 Tryz.prog Z (Instr.fieldAt 120 t1_1 1) w k) (fun t8_6 w =>
 guardW (t6_5) true (fun k => run1 Tryz.prog Z (Instr.loadAt 9 t8_6) w k) (fun t9_7 w =>
 guardW (t6_5) true (fun k => run1 Tryz.prog Z (Builtin.len_ #[9] 3 #[t9_7]) w k) (fun t10_8 w =>
 guardW (t6_5) true (fun k => run1 Tryz.prog Z (binOp BinOp.leq 3 t10_8 (Value.int IntKind.i64 24)) w k) (fun t11_9 w =>
 run1 Tryz.prog Z (pickV t6_5 t11_9 (Value.bool false)) w fun t12_10 w =>
 Q t12_10 w) w) w) w) w
noncomputable def f175.code : Code := match Tryz.f175.body with | some c => c | none => .skip
def f175.an : An := (.sq .leaf (.sq .leaf .leaf))
theorem f175.body_eq : Tryz.f175.body = some f175.code := by kernel_rfl
theorem f175.shape (Z : List PanicEntry → World → Prop) (x0 : Value) (w : World) (Q : Value → World → Prop) : vc drawD Tryz.prog 13 Z [] f175.an f175.code (fnQ Tryz.prog 13 Tryz.f175.results Q) (argEnv [x0]) w = f175.sh Z x0 w Q := by kernel_rfl
theorem f175.enters : ∀ f, f ∈ ([] : List Nat) → Enters Tryz.prog f := by
 intro f hf
 cases hf
theorem f175.calls {Z : List PanicEntry → World → Prop} {x0 : Value} {w : World} {Q : Value → World → Prop} (h : f175.sh Z x0 w Q) : CallV Tryz.prog Z 175 #[x0] w Q :=
 calls_of_vcn drawD_sound (Q := Q) (n := 13) (rs := Tryz.f175.results) (an := f175.an) (c := f175.code) (cal := []) (args := [x0]) Tryz.func175 (by kernel_rfl) rfl f175.body_eq follows (Nat.le_of_ble_eq_true (by kernel_rfl)) (enters_of_all f175.enters) ((f175.shape Z x0 w Q).mpr h)

def f176.sh (Z : List PanicEntry → World → Prop) (x0 x1 : Value) (w : World) (Q : Value → World → Prop) : Prop :=
 CallV Tryz.prog Z 182 #[x0, x1] w fun t7_1 w =>
 run1 Tryz.prog Z (binOp BinOp.geq 3 t7_1 (Value.int IntKind.i64 0)) w fun t8_2 w =>
 Q t8_2 w
noncomputable def f176.code : Code := match Tryz.f176.body with | some c => c | none => .skip
def f176.an : An := (.sq .leaf (.sq .leaf .leaf))
theorem f176.body_eq : Tryz.f176.body = some f176.code := by kernel_rfl
theorem f176.shape (Z : List PanicEntry → World → Prop) (x0 x1 : Value) (w : World) (Q : Value → World → Prop) : vc drawD Tryz.prog 9 Z [182] f176.an f176.code (fnQ Tryz.prog 9 Tryz.f176.results Q) (argEnv [x0, x1]) w = f176.sh Z x0 x1 w Q := by kernel_rfl
theorem f176.enters : ∀ f, f ∈ ([182] : List Nat) → Enters Tryz.prog f := by
 intro f hf
 simp only [List.mem_cons, List.not_mem_nil, or_false] at hf
 rcases hf with rfl
 · exact en182
theorem f176.calls {Z : List PanicEntry → World → Prop} {x0 x1 : Value} {w : World} {Q : Value → World → Prop} (h : f176.sh Z x0 x1 w Q) : CallV Tryz.prog Z 176 #[x0, x1] w Q :=
 calls_of_vcn drawD_sound (Q := Q) (n := 9) (rs := Tryz.f176.results) (an := f176.an) (c := f176.code) (cal := [182]) (args := [x0, x1]) Tryz.func176 (by kernel_rfl) rfl f176.body_eq follows (Nat.le_of_ble_eq_true (by kernel_rfl)) (enters_of_all f176.enters) ((f176.shape Z x0 x1 w Q).mpr h)

def f177.sh (Z : List PanicEntry → World → Prop) (x0 : Value) (w : World) (Q : Value → World → Prop) : Prop :=
 run1 Tryz.prog Z (Instr.box 120 x0) w fun t1_1 w =>
 run1 Tryz.prog Z (Instr.loadAt 120 t1_1) w fun t3_2 w =>
 CallV Tryz.prog Z 175 #[t3_2] w fun t4_3 w =>
 run1 Tryz.prog Z (Op.unary UnOp.not t4_3) w fun t5_4 w =>
 Q t5_4 w
noncomputable def f177.code : Code := match Tryz.f177.body with | some c => c | none => .skip
def f177.an : An := (.sq .leaf (.sq .leaf .leaf))
theorem f177.body_eq : Tryz.f177.body = some f177.code := by kernel_rfl
theorem f177.shape (Z : List PanicEntry → World → Prop) (x0 : Value) (w : World) (Q : Value → World → Prop) : vc drawD Tryz.prog 6 Z [175] f177.an f177.code (fnQ Tryz.prog 6 Tryz.f177.results Q) (argEnv [x0]) w = f177.sh Z x0 w Q := by kernel_rfl
theorem f177.enters : ∀ f, f ∈ ([175] : List Nat) → Enters Tryz.prog f := by
 intro f hf
 simp only [List.mem_cons, List.not_mem_nil, or_false] at hf
 rcases hf with rfl
 · exact en175
theorem f177.calls {Z : List PanicEntry → World → Prop} {x0 : Value} {w : World} {Q : Value → World → Prop} (h : f177.sh Z x0 w Q) : CallV Tryz.prog Z 177 #[x0] w Q :=
 calls_of_vcn drawD_sound (Q := Q) (n := 6) (rs := Tryz.f177.results) (an := f177.an) (c := f177.code) (cal := [175]) (args := [x0]) Tryz.func177 (by kernel_rfl) rfl f177.body_eq follows (Nat.le_of_ble_eq_true (by kernel_rfl)) (enters_of_all f177.enters) ((f177.shape Z x0 w Q).mpr h)

def f178.sh (Z : List PanicEntry → World → Prop) (x0 x1 : Value) (w : World) (Q : Value → World → Prop) : Prop :=
 ∃ J_1 : Nat → Value → World → Prop, (∃ m, J_1 m (Value.int IntKind.i64 0) w) ∧
 ∀ m_1, ∀ t5_2 : Value, ∀ w : World, J_1 m_1 t5_2 w → Env →
 run1 Tryz.prog Z (Builtin.len_ #[9] 3 #[x0]) w fun t8_3 w =>
 run1 Tryz.prog Z (binOp BinOp.lss 3 t5_2 t8_3) w fun t9_4 w =>
 CondV t9_4 (
 run1 Tryz.prog Z (Instr.index 9 x0 t5_2) w fun t14_5 w =>
 run1 Tryz.prog Z (eqOp BinOp.eql 5 false false t14_5 x1) w fun t16_6 w =>
 CondV t16_6 (
 Q (Value.bool true) w) (
 run1 Tryz.prog Z (binOp BinOp.add 3 t5_2 (Value.int IntKind.i64 1)) w fun t11_7 w =>
 ∃ n_1, n_1 < m_1 ∧ J_1 n_1 t11_7 w)) (
 Q (Value.bool false) w)
noncomputable def f178.code : Code := match Tryz.f178.body with | some c => c | none => .skip
def f178.an : An := (.sq .leaf (.sq (.sq .leaf (.bl (.lp [5] [4, 5, 6, 7, 8, 9, 10, 11, 12, 13, 14, 15, 16] (.sq (.sq .leaf (.cn .leaf .leaf)) (.sq (.bl (.sq .leaf (.cn (.sq .leaf .leaf) .leaf))) .leaf))))) (.sq .leaf .leaf)))
theorem f178.body_eq : Tryz.f178.body = some f178.code := by kernel_rfl
theorem f178.shape (Z : List PanicEntry → World → Prop) (x0 x1 : Value) (w : World) (Q : Value → World → Prop) : vc drawD Tryz.prog 17 Z [] f178.an f178.code (fnQ Tryz.prog 17 Tryz.f178.results Q) (argEnv [x0, x1]) w = f178.sh Z x0 x1 w Q := by kernel_rfl
theorem f178.enters : ∀ f, f ∈ ([] : List Nat) → Enters Tryz.prog f := by
 intro f hf
 cases hf
theorem f178.calls {Z : List PanicEntry → World → Prop} {x0 x1 : Value} {w : World} {Q : Value → World → Prop} (h : f178.sh Z x0 x1 w Q) : CallV Tryz.prog Z 178 #[x0, x1] w Q :=
 calls_of_vcn drawD_sound (Q := Q) (n := 17) (rs := Tryz.f178.results) (an := f178.an) (c := f178.code) (cal := []) (args := [x0, x1]) Tryz.func178 (by kernel_rfl) rfl f178.body_eq follows (Nat.le_of_ble_eq_true (by kernel_rfl)) (enters_of_all f178.enters) ((f178.shape Z x0 x1 w Q).mpr h)

def f179.sh (Z : List PanicEntry → World → Prop) (x0 : Value) (w : World) (Q : Value → World → Prop) : Prop :=
 ∃ J_1 : Nat → Value → World → Prop, (∃ m, J_1 m (Value.int IntKind.i64 0) w) ∧
 ∀ m_1, ∀ t3_2 : Value, ∀ w : World, J_1 m_1 t3_2 w → Env →
 run1 Tryz.prog Z (Builtin.len_ #[29] 3 #[x0]) w fun t6_3 w =>
 run1 Tryz.prog Z (binOp BinOp.lss 3 t3_2 t6_3) w fun t7_4 w =>
 CondV t7_4 (
 run1 Tryz.prog Z (Instr.indexAt 29 x0 t3_2) w fun t12_5 w =>
 run1 Tryz.prog Z (Instr.fieldAt 122 t12_5 1) w fun t13_6 w =>
 run1 Tryz.prog Z (Instr.fieldAt 120 t13_6 0) w fun t14_7 w =>
 run1 Tryz.prog Z (Instr.loadAt 9 t14_7) w fun t15_8 w =>
 run1 Tryz.prog Z (Builtin.len_ #[9] 3 #[t15_8]) w fun t16_9 w =>
 run1 Tryz.prog Z (binOp BinOp.gtr 3 t16_9 (Value.int IntKind.i64 24)) w fun t17_10 w =>
 guardW (t17_10) false (fun k => k (x0) w) (fun t19_11 w =>
 guardW (t17_10) false (fun k => k (t3_2) w) (fun t20_12 w =>
 guardW (t17_10) false (fun k => run1 Tryz.prog Z (Instr.indexAt 29 t19_11 t20_12) w k) (fun t21_13 w =>
 guardW (t17_10) false (fun k => run1 Tryz.prog Z (Instr.fieldAt 122 t21_13 1) w k) (fun t22_14 w =>
 guardW (t17_10) false (fun k => run1 Tryz.prog Z (Instr.fieldAt 120 t22_14 1) w k) (fun t23_15 w =>
 guardW (t17_10) false (fun k => run1 Tryz.prog Z (Instr.loadAt 9 t23_15) w k) (fun t24_16 w =>
 guardW (t17_10) false (fun k => run1 Tryz.prog Z (Builtin.len_ #[9] 3 #[t24_16]) w k) (fun t25_17 w =>
 guardW (t17_10) false (fun k => run1 Tryz.prog Z (binOp BinOp.gtr 3 t25_17 (Value.int IntKind.i64 24)) w k) (fun t26_18 w =>
 run1 Tryz.prog Z (pickV t17_10 (Value.bool true) t26_18) w fun t27_19 w =>
 CondV t27_19 (
 Q (Value.bool false) w) (
 run1 Tryz.prog Z (binOp BinOp.add 3 t3_2 (Value.int IntKind.i64 1)) w fun t9_20 w =>
 ∃ n_1, n_1 < m_1 ∧ J_1 n_1 t9_20 w)) w) w) w) w) w) w) w) w) (
 run1 Tryz.prog Z (Builtin.len_ #[29] 3 #[x0]) w fun t29_21 w =>
 run1 Tryz.prog Z (binOp BinOp.leq 3 t29_21 (Value.int IntKind.i64 4)) w fun t30_22 w =>
 Q t30_22 w)
noncomputable def f179.code : Code := match Tryz.f179.body with | some c => c | none => .skip
def f179.an : An := (.sq .leaf (.sq (.sq .leaf (.bl (.lp [3] [2, 3, 4, 5, 6, 7, 8, 9, 10, 11, 12, 13, 14, 15, 16, 17, 18, 19, 20, 21, 22, 23, 24, 25, 26, 27] (.sq (.sq .leaf (.cn .leaf .leaf)) (.sq (.bl (.sq .leaf (.cn (.sq .leaf .leaf) .leaf))) .leaf))))) (.sq .leaf .leaf)))
theorem f179.body_eq : Tryz.f179.body = some f179.code := by kernel_rfl
theorem f179.shape (Z : List PanicEntry → World → Prop) (x0 : Value) (w : World) (Q : Value → World → Prop) : vc drawD Tryz.prog 31 Z [] f179.an f179.code (fnQ Tryz.prog 31 Tryz.f179.results Q) (argEnv [x0]) w = f179.sh Z x0 w Q := by kernel_rfl
theorem f179.enters : ∀ f, f ∈ ([] : List Nat) → Enters Tryz.prog f := by
 intro f hf
 cases hf
theorem f179.calls {Z : List PanicEntry → World → Prop} {x0 : Value} {w : World} {Q : Value → World → Prop} (h : f179.sh Z x0 w Q) : CallV Tryz.prog Z 179 #[x0] w Q :=
 calls_of_vcn drawD_sound (Q := Q) (n := 31) (rs := Tryz.f179.results) (an := f179.an) (c := f179.code) (cal := []) (args := [x0]) Tryz.func179 (by kernel_rfl) rfl f179.body_eq follows (Nat.le_of_ble_eq_true (by kernel_rfl)) (enters_of_all f179.enters) ((f179.shape Z x0 w Q).mpr h)

def f180.sh (Z : List PanicEntry → World → Prop) (x0 : Value) (w : World) (Q : Value → World → Prop) : Prop :=
 ∃ J_1 : Nat → Value → World → Prop, (∃ m, J_1 m (Value.int IntKind.i64 0) w) ∧
 ∀ m_1, ∀ t3_2 : Value, ∀ w : World, J_1 m_1 t3_2 w → Env →
 run1 Tryz.prog Z (Builtin.len_ #[30] 3 #[x0]) w fun t6_3 w =>
 run1 Tryz.prog Z (binOp BinOp.lss 3 t3_2 t6_3) w fun t7_4 w =>
 CondV t7_4 (
 run1 Tryz.prog Z (Instr.indexAt 30 x0 t3_2) w fun t12_5 w =>
 run1 Tryz.prog Z (Instr.fieldAt 120 t12_5 0) w fun t13_6 w =>
 run1 Tryz.prog Z (Instr.loadAt 9 t13_6) w fun t14_7 w =>
 run1 Tryz.prog Z (Builtin.len_ #[9] 3 #[t14_7]) w fun t15_8 w =>
 run1 Tryz.prog Z (binOp BinOp.gtr 3 t15_8 (Value.int IntKind.i64 24)) w fun t16_9 w =>
 guardW (t16_9) false (fun k => k (x0) w) (fun t18_10 w =>
 guardW (t16_9) false (fun k => k (t3_2) w) (fun t19_11 w =>
 guardW (t16_9) false (fun k => run1 Tryz.prog Z (Instr.indexAt 30 t18_10 t19_11) w k) (fun t20_12 w =>
 guardW (t16_9) false (fun k => run1 Tryz.prog Z (Instr.fieldAt 120 t20_12 1) w k) (fun t21_13 w =>
 guardW (t16_9) false (fun k => run1 Tryz.prog Z (Instr.loadAt 9 t21_13) w k) (fun t22_14 w =>
 guardW (t16_9) false (fun k => run1 Tryz.prog Z (Builtin.len_ #[9] 3 #[t22_14]) w k) (fun t23_15 w =>
 guardW (t16_9) false (fun k => run1 Tryz.prog Z (binOp BinOp.gtr 3 t23_15 (Value.int IntKind.i64 24)) w k) (fun t24_16 w =>
 run1 Tryz.prog Z (pickV t16_9 (Value.bool true) t24_16) w fun t25_17 w =>
 CondV t25_17 (
 Q (Value.bool false) w) (
 run1 Tryz.prog Z (binOp BinOp.add 3 t3_2 (Value.int IntKind.i64 1)) w fun t9_18 w =>
 ∃ n_1, n_1 < m_1 ∧ J_1 n_1 t9_18 w)) w) w) w) w) w) w) w) (
 run1 Tryz.prog Z (Builtin.len_ #[30] 3 #[x0]) w fun t27_19 w =>
 run1 Tryz.prog Z (binOp BinOp.leq 3 t27_19 (Value.int IntKind.i64 4)) w fun t28_20 w =>
 Q t28_20 w)
noncomputable def f180.code : Code := match Tryz.f180.body with | some c => c | none => .skip
def f180.an : An := (.sq .leaf (.sq (.sq .leaf (.bl (.lp [3] [2, 3, 4, 5, 6, 7, 8, 9, 10, 11, 12, 13, 14, 15, 16, 17, 18, 19, 20, 21, 22, 23, 24, 25] (.sq (.sq .leaf (.cn .leaf .leaf)) (.sq (.bl (.sq .leaf (.cn (.sq .leaf .leaf) .leaf))) .leaf))))) (.sq .leaf .leaf)))
theorem f180.body_eq : Tryz.f180.body = some f180.code := by kernel_rfl
theorem f180.shape (Z : List PanicEntry → World → Prop) (x0 : Value) (w : World) (Q : Value → World → Prop) : vc drawD Tryz.prog 29 Z [] f180.an f180.code (fnQ Tryz.prog 29 Tryz.f180.results Q) (argEnv [x0]) w = f180.sh Z x0 w Q := by kernel_rfl
theorem f180.enters : ∀ f, f ∈ ([] : List Nat) → Enters Tryz.prog f := by
 intro f hf
 cases hf
theorem f180.calls {Z : List PanicEntry → World → Prop} {x0 : Value} {w : World} {Q : Value → World → Prop} (h : f180.sh Z x0 w Q) : CallV Tryz.prog Z 180 #[x0] w Q :=
 calls_of_vcn drawD_sound (Q := Q) (n := 29) (rs := Tryz.f180.results) (an := f180.an) (c := f180.code) (cal := []) (args := [x0]) Tryz.func180 (by kernel_rfl) rfl f180.body_eq follows (Nat.le_of_ble_eq_true (by kernel_rfl)) (enters_of_all f180.enters) ((f180.shape Z x0 w Q).mpr h)

def f182.sh (Z : List PanicEntry → World → Prop) (x0 x1 : Value) (w : World) (Q : Value → World → Prop) : Prop :=
 run1 Tryz.prog Z (Builtin.len_ #[30] 3 #[x0]) w fun t7_1 w =>
 ∃ J_2 : Nat → Value → World → Prop, (∃ m, J_2 m (Value.int IntKind.i64 0) w) ∧
 ∀ m_2, ∀ t8_3 : Value, ∀ w : World, J_2 m_2 t8_3 w → Env →
 run1 Tryz.prog Z (binOp BinOp.lss 3 t8_3 t7_1) w fun t9_4 w =>
 CondV t9_4 (
 run1 Tryz.prog Z (Instr.indexAt 30 x0 t8_3) w fun t14_5 w =>
 run1 Tryz.prog Z (Instr.loadAt 120 t14_5) w fun t15_6 w =>
 runX Tryz.prog Z (callVal x1 #[t15_6]) w fun t16_7 w =>
 CondV t16_7 (
 Q t8_3 w) (
 run1 Tryz.prog Z (binOp BinOp.add 3 t8_3 (Value.int IntKind.i64 1)) w fun t18_8 w =>
 ∃ n_2, n_2 < m_2 ∧ J_2 n_2 t18_8 w)) (
 Q (Value.int IntKind.i64 (-1)) w)
noncomputable def f182.code : Code := match Tryz.f182.body with | some c => c | none => .skip
def f182.an : An := (.sq .leaf (.sq (.sq .leaf (.bl (.lp [8] [4, 5, 8, 9, 10, 11, 12, 13, 14, 15, 16, 17, 18] (.sq .leaf (.sq (.cn .leaf .leaf) (.sq (.bl (.sq .leaf (.sq .leaf (.cn (.sq .leaf .leaf) .leaf)))) .leaf)))))) (.sq .leaf .leaf)))
theorem f182.body_eq : Tryz.f182.body = some f182.code := by kernel_rfl
theorem f182.shape (Z : List PanicEntry → World → Prop) (x0 x1 : Value) (w : World) (Q : Value → World → Prop) : vc drawD Tryz.prog 19 Z [] f182.an f182.code (fnQ Tryz.prog 19 Tryz.f182.results Q) (argEnv [x0, x1]) w = f182.sh Z x0 x1 w Q := by kernel_rfl
theorem f182.enters : ∀ f, f ∈ ([] : List Nat) → Enters Tryz.prog f := by
 intro f hf
 cases hf
theorem f182.calls {Z : List PanicEntry → World → Prop} {x0 x1 : Value} {w : World} {Q : Value → World → Prop} (h : f182.sh Z x0 x1 w Q) : CallV Tryz.prog Z 182 #[x0, x1] w Q :=
 calls_of_vcn drawD_sound (Q := Q) (n := 19) (rs := Tryz.f182.results) (an := f182.an) (c := f182.code) (cal := []) (args := [x0, x1]) Tryz.func182 (by kernel_rfl) rfl f182.body_eq follows (Nat.le_of_ble_eq_true (by kernel_rfl)) (enters_of_all f182.enters) ((f182.shape Z x0 x1 w Q).mpr h)

end Go.Proofs.YtpdehbbkpekoiaaGreatDoor
