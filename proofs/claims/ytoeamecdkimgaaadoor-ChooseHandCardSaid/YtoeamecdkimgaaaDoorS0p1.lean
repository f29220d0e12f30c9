import Derived.Test.YtoeamecdkimgaaaDoorShBase
set_option linter.unusedVariables false
namespace Go.Proofs.YtoeamecdkimgaaaDoor
open Go.Sh
/-! ### 59: cmp.isNaN[uint32] -/
def f59.sh (Z : List PanicEntry → World → Prop) (x0 : Value) (w : World) (Q : Value → World → Prop) : Prop :=
  run1 Tryd.prog Z (eqOp BinOp.neq 28 false false x0 x0) w fun t5_1 w =>
  Q t5_1 w
noncomputable def f59.code : Code := match Tryd.f59.body with | some c => c | none => .skip
def f59.an : An := (.sq .leaf (.sq .leaf .leaf))
theorem f59.body_eq : Tryd.f59.body = some f59.code := by kernel_rfl
theorem f59.shape (Z : List PanicEntry → World → Prop) (x0 : Value) (w : World) (Q : Value → World → Prop) : vc drawD Tryd.prog 6 Z [] f59.an f59.code (fnQ Tryd.prog 6 Tryd.f59.results Q) (argEnv [x0]) w = f59.sh Z x0 w Q := by kernel_rfl
theorem f59.enters : ∀ f, f ∈ ([] : List Nat) → Enters Tryd.prog f := by
  intro f hf
  cases hf
theorem f59.calls {Z : List PanicEntry → World → Prop} {x0 : Value} {w : World} {Q : Value → World → Prop} (h : f59.sh Z x0 w Q) : CallV Tryd.prog Z 59 #[x0] w Q :=
  calls_of_vcn drawD_sound (Q := Q) (n := 6) (rs := Tryd.f59.results) (an := f59.an) (c := f59.code) (cal := []) (args := [x0]) Tryd.func59 (by kernel_rfl) rfl f59.body_eq follows (Nat.le_of_ble_eq_true (by kernel_rfl)) (enters_of_all f59.enters) ((f59.shape Z x0 w Q).mpr h)

/-! ### 60: lagoon/lagoonref00.CopyBytes -/
def f60.sh (Z : List PanicEntry → World → Prop) (x0 : Value) (w : World) (Q : Value → World → Prop) : Prop :=
  ∃ J_1 : Nat → Value → Value → World → Prop, (∃ m, J_1 m (Value.slice none 0 0) (Value.int IntKind.i64 0) w) ∧
    ∀ m_1, ∀ t3_2 : Value, ∀ t4_3 : Value, ∀ w : World, J_1 m_1 t3_2 t4_3 w → Env →
      run1 Tryd.prog Z (Builtin.len_ #[42] 3 #[x0]) w fun t7_4 w =>
      run1 Tryd.prog Z (binOp BinOp.lss 3 t4_3 t7_4) w fun t8_5 w =>
      CondV t8_5 (
        run1 Tryd.prog Z (Instr.indexAt 42 x0 t4_3) w fun t14_6 w =>
        run1 Tryd.prog Z (Instr.loadAt 5 t14_6) w fun t15_7 w =>
        run1 Tryd.prog Z (Instr.buildSlice 42 1 #[(0, t15_7)]) w fun t16_8 w =>
        run1 Tryd.prog Z (Builtin.append_ #[42, 42] 42 #[t3_2, t16_8]) w fun t17_9 w =>
        run1 Tryd.prog Z (binOp BinOp.add 3 t4_3 (Value.int IntKind.i64 1)) w fun t10_10 w =>
        ∃ n_1, n_1 < m_1 ∧ J_1 n_1 t17_9 t10_10 w) (
        Q t3_2 w)
noncomputable def f60.code : Code := match Tryd.f60.body with | some c => c | none => .skip
def f60.an : An := (.sq .leaf (.sq .leaf (.sq (.sq .leaf (.bl (.lp [3, 4] [3, 4, 5, 6, 7, 8, 9, 10, 11, 12, 13, 14, 15, 16, 17] (.sq (.sq .leaf (.cn .leaf .leaf)) (.sq (.bl .leaf) .leaf))))) (.sq .leaf .leaf))))
theorem f60.body_eq : Tryd.f60.body = some f60.code := by kernel_rfl
theorem f60.shape (Z : List PanicEntry → World → Prop) (x0 : Value) (w : World) (Q : Value → World → Prop) : vc drawD Tryd.prog 19 Z [] f60.an f60.code (fnQ Tryd.prog 19 Tryd.f60.results Q) (argEnv [x0]) w = f60.sh Z x0 w Q := by kernel_rfl
theorem f60.enters : ∀ f, f ∈ ([] : List Nat) → Enters Tryd.prog f := by
  intro f hf
  cases hf
theorem f60.calls {Z : List PanicEntry → World → Prop} {x0 : Value} {w : World} {Q : Value → World → Prop} (h : f60.sh Z x0 w Q) : CallV Tryd.prog Z 60 #[x0] w Q :=
  calls_of_vcn drawD_sound (Q := Q) (n := 19) (rs := Tryd.f60.results) (an := f60.an) (c := f60.code) (cal := []) (args := [x0]) Tryd.func60 (by kernel_rfl) rfl f60.body_eq follows (Nat.le_of_ble_eq_true (by kernel_rfl)) (enters_of_all f60.enters) ((f60.shape Z x0 w Q).mpr h)

/-! ### 61: lagoon/lagoonref00.CopyAcl -/
def f61.sh (Z : List PanicEntry → World → Prop) (x0 : Value) (w : World) (Q : Value → World → Prop) : Prop :=
  ∃ J_1 : Nat → Value → Value → World → Prop, (∃ m, J_1 m (Value.slice none 0 0) (Value.int IntKind.i64 0) w) ∧
    ∀ m_1, ∀ t3_2 : Value, ∀ t4_3 : Value, ∀ w : World, J_1 m_1 t3_2 t4_3 w → Env →
      run1 Tryd.prog Z (Builtin.len_ #[43] 3 #[x0]) w fun t7_4 w =>
      run1 Tryd.prog Z (binOp BinOp.lss 3 t4_3 t7_4) w fun t8_5 w =>
      CondV t8_5 (
        run1 Tryd.prog Z (Instr.indexAt 43 x0 t4_3) w fun t14_6 w =>
        run1 Tryd.prog Z (Instr.loadAt 116 t14_6) w fun t15_7 w =>
        run1 Tryd.prog Z (Instr.buildSlice 43 1 #[(0, t15_7)]) w fun t16_8 w =>
        run1 Tryd.prog Z (Builtin.append_ #[43, 43] 43 #[t3_2, t16_8]) w fun t17_9 w =>
        run1 Tryd.prog Z (binOp BinOp.add 3 t4_3 (Value.int IntKind.i64 1)) w fun t10_10 w =>
        ∃ n_1, n_1 < m_1 ∧ J_1 n_1 t17_9 t10_10 w) (
        Q t3_2 w)
noncomputable def f61.code : Code := match Tryd.f61.body with | some c => c | none => .skip
def f61.an : An := (.sq .leaf (.sq .leaf (.sq (.sq .leaf (.bl (.lp [3, 4] [3, 4, 5, 6, 7, 8, 9, 10, 11, 12, 13, 14, 15, 16, 17] (.sq (.sq .leaf (.cn .leaf .leaf)) (.sq (.bl .leaf) .leaf))))) (.sq .leaf .leaf))))
theorem f61.body_eq : Tryd.f61.body = some f61.code := by kernel_rfl
theorem f61.shape (Z : List PanicEntry → World → Prop) (x0 : Value) (w : World) (Q : Value → World → Prop) : vc drawD Tryd.prog 19 Z [] f61.an f61.code (fnQ Tryd.prog 19 Tryd.f61.results Q) (argEnv [x0]) w = f61.sh Z x0 w Q := by kernel_rfl
theorem f61.enters : ∀ f, f ∈ ([] : List Nat) → Enters Tryd.prog f := by
  intro f hf
  cases hf
theorem f61.calls {Z : List PanicEntry → World → Prop} {x0 : Value} {w : World} {Q : Value → World → Prop} (h : f61.sh Z x0 w Q) : CallV Tryd.prog Z 61 #[x0] w Q :=
  calls_of_vcn drawD_sound (Q := Q) (n := 19) (rs := Tryd.f61.results) (an := f61.an) (c := f61.code) (cal := []) (args := [x0]) Tryd.func61 (by kernel_rfl) rfl f61.body_eq follows (Nat.le_of_ble_eq_true (by kernel_rfl)) (enters_of_all f61.enters) ((f61.shape Z x0 w Q).mpr h)

/-! ### 62: lagoon/lagoonref00.CopyIds -/
def f62.sh (Z : List PanicEntry → World → Prop) (x0 : Value) (w : World) (Q : Value → World → Prop) : Prop :=
  ∃ J_1 : Nat → Value → Value → World → Prop, (∃ m, J_1 m (Value.slice none 0 0) (Value.int IntKind.i64 0) w) ∧
    ∀ m_1, ∀ t3_2 : Value, ∀ t4_3 : Value, ∀ w : World, J_1 m_1 t3_2 t4_3 w → Env →
      run1 Tryd.prog Z (Builtin.len_ #[44] 3 #[x0]) w fun t7_4 w =>
      run1 Tryd.prog Z (binOp BinOp.lss 3 t4_3 t7_4) w fun t8_5 w =>
      CondV t8_5 (
        run1 Tryd.prog Z (Instr.indexAt 44 x0 t4_3) w fun t14_6 w =>
        run1 Tryd.prog Z (Instr.loadAt 114 t14_6) w fun t15_7 w =>
        run1 Tryd.prog Z (Instr.buildSlice 44 1 #[(0, t15_7)]) w fun t16_8 w =>
        run1 Tryd.prog Z (Builtin.append_ #[44, 44] 44 #[t3_2, t16_8]) w fun t17_9 w =>
        run1 Tryd.prog Z (binOp BinOp.add 3 t4_3 (Value.int IntKind.i64 1)) w fun t10_10 w =>
        ∃ n_1, n_1 < m_1 ∧ J_1 n_1 t17_9 t10_10 w) (
        Q t3_2 w)
noncomputable def f62.code : Code := match Tryd.f62.body with | some c => c | none => .skip
def f62.an : An := (.sq .leaf (.sq .leaf (.sq (.sq .leaf (.bl (.lp [3, 4] [3, 4, 5, 6, 7, 8, 9, 10, 11, 12, 13, 14, 15, 16, 17] (.sq (.sq .leaf (.cn .leaf .leaf)) (.sq (.bl .leaf) .leaf))))) (.sq .leaf .leaf))))
theorem f62.body_eq : Tryd.f62.body = some f62.code := by kernel_rfl
theorem f62.shape (Z : List PanicEntry → World → Prop) (x0 : Value) (w : World) (Q : Value → World → Prop) : vc drawD Tryd.prog 19 Z [] f62.an f62.code (fnQ Tryd.prog 19 Tryd.f62.results Q) (argEnv [x0]) w = f62.sh Z x0 w Q := by kernel_rfl
theorem f62.enters : ∀ f, f ∈ ([] : List Nat) → Enters Tryd.prog f := by
  intro f hf
  cases hf
theorem f62.calls {Z : List PanicEntry → World → Prop} {x0 : Value} {w : World} {Q : Value → World → Prop} (h : f62.sh Z x0 w Q) : CallV Tryd.prog Z 62 #[x0] w Q :=
  calls_of_vcn drawD_sound (Q := Q) (n := 19) (rs := Tryd.f62.results) (an := f62.an) (c := f62.code) (cal := []) (args := [x0]) Tryd.func62 (by kernel_rfl) rfl f62.body_eq follows (Nat.le_of_ble_eq_true (by kernel_rfl)) (enters_of_all f62.enters) ((f62.shape Z x0 w Q).mpr h)

/-! ### 63: lagoon/lagoonref00.EqBytes -/
def f63.sh (Z : List PanicEntry → World → Prop) (x0 x1 : Value) (w : World) (Q : Value → World → Prop) : Prop :=
  run1 Tryd.prog Z (Builtin.len_ #[42] 3 #[x0]) w fun t7_1 w =>
  run1 Tryd.prog Z (Builtin.len_ #[42] 3 #[x1]) w fun t9_2 w =>
  run1 Tryd.prog Z (eqOp BinOp.neq 3 false false t7_1 t9_2) w fun t10_3 w =>
  CondV t10_3 (
    Q (Value.bool false) w) (
    ∃ J_4 : Nat → Value → World → Prop, (∃ m, J_4 m (Value.int IntKind.i64 0) w) ∧
      ∀ m_4, ∀ t5_5 : Value, ∀ w : World, J_4 m_4 t5_5 w → Env →
        run1 Tryd.prog Z (Builtin.len_ #[42] 3 #[x0]) w fun t13_6 w =>
        run1 Tryd.prog Z (binOp BinOp.lss 3 t5_5 t13_6) w fun t14_7 w =>
        CondV t14_7 (
          Drawn w fun w =>
          Pure1 Tryd.prog (Instr.indexAt 42 x0 t5_5) fun t19_8 =>
          Read1 Tryd.prog (Instr.loadAt 5 t19_8) w fun t20_9 =>
          Pure1 Tryd.prog (Instr.indexAt 42 x1 t5_5) fun t23_10 =>
          Read1 Tryd.prog (Instr.loadAt 5 t23_10) w fun t24_11 =>
          Pure1 Tryd.prog (eqOp BinOp.neq 5 false false t20_9 t24_11) fun t25_12 =>
          CondV t25_12 (
            Q (Value.bool false) w) (
            run1 Tryd.prog Z (binOp BinOp.add 3 t5_5 (Value.int IntKind.i64 1)) w fun t16_13 w =>
            ∃ n_4, n_4 < m_4 ∧ J_4 n_4 t16_13 w)) (
          Q (Value.bool true) w))
noncomputable def f63.code : Code := match Tryd.f63.body with | some c => c | none => .skip
def f63.an : An := (.sq .leaf (.sq (.sq .leaf (.cn (.sq .leaf .leaf) .leaf)) (.sq (.sq .leaf (.bl (.lp [5] [4, 5, 11, 12, 13, 14, 15, 16, 17, 18, 19, 20, 21, 22, 23, 24, 25] (.sq (.sq .leaf (.cn .leaf .leaf)) (.sq (.bl (.sq (.dr (.take 0 false (.take 1 false (.take 2 false (.take 3 true (.take 4 false (.take 5 false (.take 6 false (.take 7 true (.take 8 false .fin)))))))))) (.cn (.sq .leaf .leaf) .leaf))) .leaf))))) (.sq .leaf .leaf))))
theorem f63.body_eq : Tryd.f63.body = some f63.code := by kernel_rfl
theorem f63.shape (Z : List PanicEntry → World → Prop) (x0 x1 : Value) (w : World) (Q : Value → World → Prop) : vc drawD Tryd.prog 26 Z [] f63.an f63.code (fnQ Tryd.prog 26 Tryd.f63.results Q) (argEnv [x0, x1]) w = f63.sh Z x0 x1 w Q := by kernel_rfl
theorem f63.enters : ∀ f, f ∈ ([] : List Nat) → Enters Tryd.prog f := by
  intro f hf
  cases hf
theorem f63.calls {Z : List PanicEntry → World → Prop} {x0 x1 : Value} {w : World} {Q : Value → World → Prop} (h : f63.sh Z x0 x1 w Q) : CallV Tryd.prog Z 63 #[x0, x1] w Q :=
  calls_of_vcn drawD_sound (Q := Q) (n := 26) (rs := Tryd.f63.results) (an := f63.an) (c := f63.code) (cal := []) (args := [x0, x1]) Tryd.func63 (by kernel_rfl) rfl f63.body_eq follows (Nat.le_of_ble_eq_true (by kernel_rfl)) (enters_of_all f63.enters) ((f63.shape Z x0 x1 w Q).mpr h)

/-! ### 64: lagoon/lagoonref00.EqAcl -/
def f64.sh (Z : List PanicEntry → World → Prop) (x0 x1 : Value) (w : World) (Q : Value → World → Prop) : Prop :=
  run1 Tryd.prog Z (Builtin.len_ #[43] 3 #[x0]) w fun t7_1 w =>
  run1 Tryd.prog Z (Builtin.len_ #[43] 3 #[x1]) w fun t9_2 w =>
  run1 Tryd.prog Z (eqOp BinOp.neq 3 false false t7_1 t9_2) w fun t10_3 w =>
  CondV t10_3 (
    Q (Value.bool false) w) (
    ∃ J_4 : Nat → Value → World → Prop, (∃ m, J_4 m (Value.int IntKind.i64 0) w) ∧
      ∀ m_4, ∀ t5_5 : Value, ∀ w : World, J_4 m_4 t5_5 w → Env →
        run1 Tryd.prog Z (Builtin.len_ #[43] 3 #[x0]) w fun t13_6 w =>
        run1 Tryd.prog Z (binOp BinOp.lss 3 t5_5 t13_6) w fun t14_7 w =>
        CondV t14_7 (
          Drawn w fun w =>
          Pure1 Tryd.prog (Instr.indexAt 43 x0 t5_5) fun t19_8 =>
          Read1 Tryd.prog (Instr.loadAt 116 t19_8) w fun t20_9 =>
          Pure1 Tryd.prog (Instr.indexAt 43 x1 t5_5) fun t23_10 =>
          Read1 Tryd.prog (Instr.loadAt 116 t23_10) w fun t24_11 =>
          Pure1 Tryd.prog (eqOp BinOp.neq 116 false false t20_9 t24_11) fun t25_12 =>
          CondV t25_12 (
            Q (Value.bool false) w) (
            run1 Tryd.prog Z (binOp BinOp.add 3 t5_5 (Value.int IntKind.i64 1)) w fun t16_13 w =>
            ∃ n_4, n_4 < m_4 ∧ J_4 n_4 t16_13 w)) (
          Q (Value.bool true) w))
noncomputable def f64.code : Code := match Tryd.f64.body with | some c => c | none => .skip
def f64.an : An := (.sq .leaf (.sq (.sq .leaf (.cn (.sq .leaf .leaf) .leaf)) (.sq (.sq .leaf (.bl (.lp [5] [4, 5, 11, 12, 13, 14, 15, 16, 17, 18, 19, 20, 21, 22, 23, 24, 25] (.sq (.sq .leaf (.cn .leaf .leaf)) (.sq (.bl (.sq (.dr (.take 0 false (.take 1 false (.take 2 false (.take 3 true (.take 4 false (.take 5 false (.take 6 false (.take 7 true (.take 8 false .fin)))))))))) (.cn (.sq .leaf .leaf) .leaf))) .leaf))))) (.sq .leaf .leaf))))
theorem f64.body_eq : Tryd.f64.body = some f64.code := by kernel_rfl
theorem f64.shape (Z : List PanicEntry → World → Prop) (x0 x1 : Value) (w : World) (Q : Value → World → Prop) : vc drawD Tryd.prog 26 Z [] f64.an f64.code (fnQ Tryd.prog 26 Tryd.f64.results Q) (argEnv [x0, x1]) w = f64.sh Z x0 x1 w Q := by kernel_rfl
theorem f64.enters : ∀ f, f ∈ ([] : List Nat) → Enters Tryd.prog f := by
  intro f hf
  cases hf
theorem f64.calls {Z : List PanicEntry → World → Prop} {x0 x1 : Value} {w : World} {Q : Value → World → Prop} (h : f64.sh Z x0 x1 w Q) : CallV Tryd.prog Z 64 #[x0, x1] w Q :=
  calls_of_vcn drawD_sound (Q := Q) (n := 26) (rs := Tryd.f64.results) (an := f64.an) (c := f64.code) (cal := []) (args := [x0, x1]) Tryd.func64 (by kernel_rfl) rfl f64.body_eq follows (Nat.le_of_ble_eq_true (by kernel_rfl)) (enters_of_all f64.enters) ((f64.shape Z x0 x1 w Q).mpr h)

/-! ### 65: lagoon/lagoonref00.EqIds -/
def f65.sh (Z : List PanicEntry → World → Prop) (x0 x1 : Value) (w : World) (Q : Value → World → Prop) : Prop :=
  run1 Tryd.prog Z (Builtin.len_ #[44] 3 #[x0]) w fun t7_1 w =>
  run1 Tryd.prog Z (Builtin.len_ #[44] 3 #[x1]) w fun t9_2 w =>
  run1 Tryd.prog Z (eqOp BinOp.neq 3 false false t7_1 t9_2) w fun t10_3 w =>
  CondV t10_3 (
    Q (Value.bool false) w) (
    ∃ J_4 : Nat → Value → World → Prop, (∃ m, J_4 m (Value.int IntKind.i64 0) w) ∧
      ∀ m_4, ∀ t5_5 : Value, ∀ w : World, J_4 m_4 t5_5 w → Env →
        run1 Tryd.prog Z (Builtin.len_ #[44] 3 #[x0]) w fun t13_6 w =>
        run1 Tryd.prog Z (binOp BinOp.lss 3 t5_5 t13_6) w fun t14_7 w =>
        CondV t14_7 (
          Drawn w fun w =>
          Pure1 Tryd.prog (Instr.indexAt 44 x0 t5_5) fun t19_8 =>
          Read1 Tryd.prog (Instr.loadAt 114 t19_8) w fun t20_9 =>
          Pure1 Tryd.prog (Instr.indexAt 44 x1 t5_5) fun t23_10 =>
          Read1 Tryd.prog (Instr.loadAt 114 t23_10) w fun t24_11 =>
          Pure1 Tryd.prog (eqOp BinOp.neq 114 false false t20_9 t24_11) fun t25_12 =>
          CondV t25_12 (
            Q (Value.bool false) w) (
            run1 Tryd.prog Z (binOp BinOp.add 3 t5_5 (Value.int IntKind.i64 1)) w fun t16_13 w =>
            ∃ n_4, n_4 < m_4 ∧ J_4 n_4 t16_13 w)) (
          Q (Value.bool true) w))
noncomputable def f65.code : Code := match Tryd.f65.body with | some c => c | none => .skip
def f65.an : An := (.sq .leaf (.sq (.sq .leaf (.cn (.sq .leaf .leaf) .leaf)) (.sq (.sq .leaf (.bl (.lp [5] [4, 5, 11, 12, 13, 14, 15, 16, 17, 18, 19, 20, 21, 22, 23, 24, 25] (.sq (.sq .leaf (.cn .leaf .leaf)) (.sq (.bl (.sq (.dr (.take 0 false (.take 1 false (.take 2 false (.take 3 true (.take 4 false (.take 5 false (.take 6 false (.take 7 true (.take 8 false .fin)))))))))) (.cn (.sq .leaf .leaf) .leaf))) .leaf))))) (.sq .leaf .leaf))))
theorem f65.body_eq : Tryd.f65.body = some f65.code := by kernel_rfl
theorem f65.shape (Z : List PanicEntry → World → Prop) (x0 x1 : Value) (w : World) (Q : Value → World → Prop) : vc drawD Tryd.prog 26 Z [] f65.an f65.code (fnQ Tryd.prog 26 Tryd.f65.results Q) (argEnv [x0, x1]) w = f65.sh Z x0 x1 w Q := by kernel_rfl
theorem f65.enters : ∀ f, f ∈ ([] : List Nat) → Enters Tryd.prog f := by
  intro f hf
  cases hf
theorem f65.calls {Z : List PanicEntry → World → Prop} {x0 x1 : Value} {w : World} {Q : Value → World → Prop} (h : f65.sh Z x0 x1 w Q) : CallV Tryd.prog Z 65 #[x0, x1] w Q :=
  calls_of_vcn drawD_sound (Q := Q) (n := 26) (rs := Tryd.f65.results) (an := f65.an) (c := f65.code) (cal := []) (args := [x0, x1]) Tryd.func65 (by kernel_rfl) rfl f65.body_eq follows (Nat.le_of_ble_eq_true (by kernel_rfl)) (enters_of_all f65.enters) ((f65.shape Z x0 x1 w Q).mpr h)

/-! ### 66: lagoon/lagoonref00.WideBytes -/
def f66.sh (Z : List PanicEntry → World → Prop) (x0 : Value) (w : World) (Q : Value → World → Prop) : Prop :=
  run1 Tryd.prog Z (Builtin.len_ #[42] 3 #[x0]) w fun t6_1 w =>
  run1 Tryd.prog Z (binOp BinOp.add 3 t6_1 (Value.int IntKind.i64 64)) w fun t7_2 w =>
  run1 Tryd.prog Z (Instr.makeSlice 42 t7_2 t7_2) w fun t8_3 w =>
  ∃ J_4 : Nat → Value → World → Prop, (∃ m, J_4 m (Value.int IntKind.i64 0) w) ∧
    ∀ m_4, ∀ t4_5 : Value, ∀ w : World, J_4 m_4 t4_5 w → Env →
      run1 Tryd.prog Z (Builtin.len_ #[42] 3 #[t8_3]) w fun t11_6 w =>
      run1 Tryd.prog Z (binOp BinOp.lss 3 t4_5 t11_6) w fun t12_7 w =>
      CondV t12_7 (
        ∀ j_8 : World → Prop, (∀ w : World, (Env →
            run1 Tryd.prog Z (binOp BinOp.add 3 t4_5 (Value.int IntKind.i64 1)) w fun t14_9 w =>
            ∃ n_4, n_4 < m_4 ∧ J_4 n_4 t14_9 w) →
            j_8 w) →
        run1 Tryd.prog Z (binOp BinOp.rem 3 t4_5 (Value.int IntKind.i64 5)) w fun t18_10 w =>
        run1 Tryd.prog Z (binOp BinOp.add 3 (Value.int IntKind.i64 170) t18_10) w fun t19_11 w =>
        run1 Tryd.prog Z (convert 3 5 t19_11) w fun t20_12 w =>
        run1 Tryd.prog Z (Instr.indexAt 42 t8_3 t4_5) w fun t21_13 w =>
        run0 Tryd.prog Z (Instr.storeAt 5 t21_13 t20_12) w fun w =>
        run1 Tryd.prog Z (Builtin.len_ #[42] 3 #[x0]) w fun t24_14 w =>
        run1 Tryd.prog Z (binOp BinOp.lss 3 t4_5 t24_14) w fun t25_15 w =>
        CondV t25_15 (
          run1 Tryd.prog Z (Instr.indexAt 42 x0 t4_5) w fun t30_16 w =>
          run1 Tryd.prog Z (Instr.loadAt 5 t30_16) w fun t31_17 w =>
          run1 Tryd.prog Z (Instr.indexAt 42 t8_3 t4_5) w fun t32_18 w =>
          run0 Tryd.prog Z (Instr.storeAt 5 t32_18 t31_17) w fun w =>
          j_8 w) (
          j_8 w)) (
        run1 Tryd.prog Z (Builtin.len_ #[42] 3 #[x0]) w fun t35_19 w =>
        run1 Tryd.prog Z (Instr.sliceAt 42 t8_3 none (some t35_19) none) w fun t36_20 w =>
        Q t36_20 w)
noncomputable def f66.code : Code := match Tryd.f66.body with | some c => c | none => .skip
def f66.an : An := (.sq .leaf (.sq .leaf (.sq (.sq .leaf (.bl (.lp [4] [4, 9, 10, 11, 12, 13, 14, 15, 16, 17, 18, 19, 20, 21, 22, 23, 24, 25, 26, 27, 28, 29, 30, 31, 32] (.sq (.sq .leaf (.cn .leaf .leaf)) (.sj [] [15, 16, 17, 18, 19, 20, 21, 22, 23, 24, 25, 26, 27, 28, 29, 30, 31, 32] (.bl (.sq .leaf (.sq .leaf (.cn .leaf .leaf)))) .leaf))))) (.sq .leaf .leaf))))
theorem f66.body_eq : Tryd.f66.body = some f66.code := by kernel_rfl
theorem f66.shape (Z : List PanicEntry → World → Prop) (x0 : Value) (w : World) (Q : Value → World → Prop) : vc drawD Tryd.prog 37 Z [] f66.an f66.code (fnQ Tryd.prog 37 Tryd.f66.results Q) (argEnv [x0]) w = f66.sh Z x0 w Q := by kernel_rfl
theorem f66.enters : ∀ f, f ∈ ([] : List Nat) → Enters Tryd.prog f := by
  intro f hf
  cases hf
theorem f66.calls {Z : List PanicEntry → World → Prop} {x0 : Value} {w : World} {Q : Value → World → Prop} (h : f66.sh Z x0 w Q) : CallV Tryd.prog Z 66 #[x0] w Q :=
  calls_of_vcn drawD_sound (Q := Q) (n := 37) (rs := Tryd.f66.results) (an := f66.an) (c := f66.code) (cal := []) (args := [x0]) Tryd.func66 (by kernel_rfl) rfl f66.body_eq follows (Nat.le_of_ble_eq_true (by kernel_rfl)) (enters_of_all f66.enters) ((f66.shape Z x0 w Q).mpr h)

/-! ### 67: lagoon/lagoonref00.WideAcl -/
def f67.sh (Z : List PanicEntry → World → Prop) (x0 : Value) (w : World) (Q : Value → World → Prop) : Prop :=
  run1 Tryd.prog Z (Builtin.len_ #[43] 3 #[x0]) w fun t6_1 w =>
  run1 Tryd.prog Z (binOp BinOp.add 3 t6_1 (Value.int IntKind.i64 64)) w fun t7_2 w =>
  run1 Tryd.prog Z (Instr.makeSlice 43 t7_2 t7_2) w fun t8_3 w =>
  ∃ J_4 : Nat → Value → World → Prop, (∃ m, J_4 m (Value.int IntKind.i64 0) w) ∧
    ∀ m_4, ∀ t4_5 : Value, ∀ w : World, J_4 m_4 t4_5 w → Env →
      run1 Tryd.prog Z (Builtin.len_ #[43] 3 #[t8_3]) w fun t11_6 w =>
      run1 Tryd.prog Z (binOp BinOp.lss 3 t4_5 t11_6) w fun t12_7 w =>
      CondV t12_7 (
        ∀ j_8 : World → Prop, (∀ w : World, (Env →
            run1 Tryd.prog Z (binOp BinOp.add 3 t4_5 (Value.int IntKind.i64 1)) w fun t14_9 w =>
            ∃ n_4, n_4 < m_4 ∧ J_4 n_4 t14_9 w) →
            j_8 w) →
        run1 Tryd.prog Z (Builtin.len_ #[43] 3 #[x0]) w fun t17_10 w =>
        run1 Tryd.prog Z (binOp BinOp.lss 3 t4_5 t17_10) w fun t18_11 w =>
        CondV t18_11 (
          run1 Tryd.prog Z (Instr.indexAt 43 x0 t4_5) w fun t23_12 w =>
          run1 Tryd.prog Z (Instr.loadAt 116 t23_12) w fun t24_13 w =>
          run1 Tryd.prog Z (Instr.indexAt 43 t8_3 t4_5) w fun t25_14 w =>
          run0 Tryd.prog Z (Instr.storeAt 116 t25_14 t24_13) w fun w =>
          j_8 w) (
          run1 Tryd.prog Z (binOp BinOp.sub 3 (Value.int IntKind.i64 (-3000000)) t4_5) w fun t29_15 w =>
          CallV Tryd.prog Z 90 #[t29_15] w fun t30_16 w =>
          run1 Tryd.prog Z (Instr.build 114 #[(1, t30_16)]) w fun t31_17 w =>
          run1 Tryd.prog Z (Instr.build 116 #[(1, t31_17)]) w fun t32_18 w =>
          run1 Tryd.prog Z (Instr.indexAt 43 t8_3 t4_5) w fun t33_19 w =>
          run0 Tryd.prog Z (Instr.storeAt 116 t33_19 t32_18) w fun w =>
          j_8 w)) (
        run1 Tryd.prog Z (Builtin.len_ #[43] 3 #[x0]) w fun t36_20 w =>
        run1 Tryd.prog Z (Instr.sliceAt 43 t8_3 none (some t36_20) none) w fun t37_21 w =>
        Q t37_21 w)
noncomputable def f67.code : Code := match Tryd.f67.body with | some c => c | none => .skip
def f67.an : An := (.sq .leaf (.sq .leaf (.sq (.sq .leaf (.bl (.lp [4] [4, 9, 10, 11, 12, 13, 14, 15, 16, 17, 18, 19, 20, 21, 22, 23, 24, 25, 26, 27, 28, 29, 30, 31, 32, 33] (.sq (.sq .leaf (.cn .leaf .leaf)) (.sj [] [15, 16, 17, 18, 19, 20, 21, 22, 23, 24, 25, 26, 27, 28, 29, 30, 31, 32, 33] (.bl (.sq .leaf (.cn .leaf .leaf))) .leaf))))) (.sq .leaf .leaf))))
theorem f67.body_eq : Tryd.f67.body = some f67.code := by kernel_rfl
theorem f67.shape (Z : List PanicEntry → World → Prop) (x0 : Value) (w : World) (Q : Value → World → Prop) : vc drawD Tryd.prog 38 Z [90] f67.an f67.code (fnQ Tryd.prog 38 Tryd.f67.results Q) (argEnv [x0]) w = f67.sh Z x0 w Q := by kernel_rfl
theorem f67.enters : ∀ f, f ∈ ([90] : List Nat) → Enters Tryd.prog f := by
  intro f hf
  simp only [List.mem_cons, List.not_mem_nil, or_false] at hf
  rcases hf with rfl
  · exact en90
theorem f67.calls {Z : List PanicEntry → World → Prop} {x0 : Value} {w : World} {Q : Value → World → Prop} (h : f67.sh Z x0 w Q) : CallV Tryd.prog Z 67 #[x0] w Q :=
  calls_of_vcn drawD_sound (Q := Q) (n := 38) (rs := Tryd.f67.results) (an := f67.an) (c := f67.code) (cal := [90]) (args := [x0]) Tryd.func67 (by kernel_rfl) rfl f67.body_eq follows (Nat.le_of_ble_eq_true (by kernel_rfl)) (enters_of_all f67.enters) ((f67.shape Z x0 w Q).mpr h)

/-! ### 68: lagoon/lagoonref00.WideIds -/
def f68.sh (Z : List PanicEntry → World → Prop) (x0 : Value) (w : World) (Q : Value → World → Prop) : Prop :=
  run1 Tryd.prog Z (Builtin.len_ #[44] 3 #[x0]) w fun t6_1 w =>
  run1 Tryd.prog Z (binOp BinOp.add 3 t6_1 (Value.int IntKind.i64 64)) w fun t7_2 w =>
  run1 Tryd.prog Z (Instr.makeSlice 44 t7_2 t7_2) w fun t8_3 w =>
  ∃ J_4 : Nat → Value → World → Prop, (∃ m, J_4 m (Value.int IntKind.i64 0) w) ∧
    ∀ m_4, ∀ t4_5 : Value, ∀ w : World, J_4 m_4 t4_5 w → Env →
      run1 Tryd.prog Z (Builtin.len_ #[44] 3 #[t8_3]) w fun t11_6 w =>
      run1 Tryd.prog Z (binOp BinOp.lss 3 t4_5 t11_6) w fun t12_7 w =>
      CondV t12_7 (
        ∀ j_8 : World → Prop, (∀ w : World, (Env →
            run1 Tryd.prog Z (binOp BinOp.add 3 t4_5 (Value.int IntKind.i64 1)) w fun t14_9 w =>
            ∃ n_4, n_4 < m_4 ∧ J_4 n_4 t14_9 w) →
            j_8 w) →
        run1 Tryd.prog Z (Builtin.len_ #[44] 3 #[x0]) w fun t17_10 w =>
        run1 Tryd.prog Z (binOp BinOp.lss 3 t4_5 t17_10) w fun t18_11 w =>
        CondV t18_11 (
          run1 Tryd.prog Z (Instr.indexAt 44 x0 t4_5) w fun t23_12 w =>
          run1 Tryd.prog Z (Instr.loadAt 114 t23_12) w fun t24_13 w =>
          run1 Tryd.prog Z (Instr.indexAt 44 t8_3 t4_5) w fun t25_14 w =>
          run0 Tryd.prog Z (Instr.storeAt 114 t25_14 t24_13) w fun w =>
          j_8 w) (
          run1 Tryd.prog Z (binOp BinOp.sub 3 (Value.int IntKind.i64 (-3000000)) t4_5) w fun t29_15 w =>
          CallV Tryd.prog Z 90 #[t29_15] w fun t30_16 w =>
          run1 Tryd.prog Z (Instr.build 114 #[(1, t30_16)]) w fun t31_17 w =>
          run1 Tryd.prog Z (Instr.indexAt 44 t8_3 t4_5) w fun t32_18 w =>
          run0 Tryd.prog Z (Instr.storeAt 114 t32_18 t31_17) w fun w =>
          j_8 w)) (
        run1 Tryd.prog Z (Builtin.len_ #[44] 3 #[x0]) w fun t35_19 w =>
        run1 Tryd.prog Z (Instr.sliceAt 44 t8_3 none (some t35_19) none) w fun t36_20 w =>
        Q t36_20 w)
noncomputable def f68.code : Code := match Tryd.f68.body with | some c => c | none => .skip
def f68.an : An := (.sq .leaf (.sq .leaf (.sq (.sq .leaf (.bl (.lp [4] [4, 9, 10, 11, 12, 13, 14, 15, 16, 17, 18, 19, 20, 21, 22, 23, 24, 25, 26, 27, 28, 29, 30, 31, 32] (.sq (.sq .leaf (.cn .leaf .leaf)) (.sj [] [15, 16, 17, 18, 19, 20, 21, 22, 23, 24, 25, 26, 27, 28, 29, 30, 31, 32] (.bl (.sq .leaf (.cn .leaf .leaf))) .leaf))))) (.sq .leaf .leaf))))
theorem f68.body_eq : Tryd.f68.body = some f68.code := by kernel_rfl
theorem f68.shape (Z : List PanicEntry → World → Prop) (x0 : Value) (w : World) (Q : Value → World → Prop) : vc drawD Tryd.prog 37 Z [90] f68.an f68.code (fnQ Tryd.prog 37 Tryd.f68.results Q) (argEnv [x0]) w = f68.sh Z x0 w Q := by kernel_rfl
theorem f68.enters : ∀ f, f ∈ ([90] : List Nat) → Enters Tryd.prog f := by
  intro f hf
  simp only [List.mem_cons, List.not_mem_nil, or_false] at hf
  rcases hf with rfl
  · exact en90
theorem f68.calls {Z : List PanicEntry → World → Prop} {x0 : Value} {w : World} {Q : Value → World → Prop} (h : f68.sh Z x0 w Q) : CallV Tryd.prog Z 68 #[x0] w Q :=
  calls_of_vcn drawD_sound (Q := Q) (n := 37) (rs := Tryd.f68.results) (an := f68.an) (c := f68.code) (cal := [90]) (args := [x0]) Tryd.func68 (by kernel_rfl) rfl f68.body_eq follows (Nat.le_of_ble_eq_true (by kernel_rfl)) (enters_of_all f68.enters) ((f68.shape Z x0 w Q).mpr h)

/-! ### 69: lagoon/lagoonref00.WideRequests -/
def f69.sh (Z : List PanicEntry → World → Prop) (x0 : Value) (w : World) (Q : Value → World → Prop) : Prop :=
  run1 Tryd.prog Z (Builtin.len_ #[45] 3 #[x0]) w fun t6_1 w =>
  run1 Tryd.prog Z (binOp BinOp.add 3 t6_1 (Value.int IntKind.i64 64)) w fun t7_2 w =>
  run1 Tryd.prog Z (Instr.makeSlice 45 t7_2 t7_2) w fun t8_3 w =>
  ∃ J_4 : Nat → Value → World → Prop, (∃ m, J_4 m (Value.int IntKind.i64 0) w) ∧
    ∀ m_4, ∀ t4_5 : Value, ∀ w : World, J_4 m_4 t4_5 w → Env →
      run1 Tryd.prog Z (Builtin.len_ #[45] 3 #[t8_3]) w fun t11_6 w =>
      run1 Tryd.prog Z (binOp BinOp.lss 3 t4_5 t11_6) w fun t12_7 w =>
      CondV t12_7 (
        ∀ j_8 : World → Prop, (∀ w : World, (Env →
            run1 Tryd.prog Z (binOp BinOp.add 3 t4_5 (Value.int IntKind.i64 1)) w fun t14_9 w =>
            ∃ n_4, n_4 < m_4 ∧ J_4 n_4 t14_9 w) →
            j_8 w) →
        run1 Tryd.prog Z (Builtin.len_ #[45] 3 #[x0]) w fun t17_10 w =>
        run1 Tryd.prog Z (binOp BinOp.lss 3 t4_5 t17_10) w fun t18_11 w =>
        CondV t18_11 (
          run1 Tryd.prog Z (Instr.indexAt 45 x0 t4_5) w fun t23_12 w =>
          run1 Tryd.prog Z (Instr.loadAt 47 t23_12) w fun t24_13 w =>
          CallV Tryd.prog Z 42 #[t24_13] w fun t25_14 w =>
          run1 Tryd.prog Z (Instr.indexAt 45 t8_3 t4_5) w fun t26_15 w =>
          run0 Tryd.prog Z (Instr.storeAt 47 t26_15 t25_14) w fun w =>
          j_8 w) (
          run1 Tryd.prog Z (binOp BinOp.sub 3 (Value.int IntKind.i64 (-3000000)) t4_5) w fun t30_16 w =>
          run1 Tryd.prog Z (Instr.build 47 #[(7, t30_16)]) w fun t31_17 w =>
          run1 Tryd.prog Z (Instr.indexAt 45 t8_3 t4_5) w fun t32_18 w =>
          run0 Tryd.prog Z (Instr.storeAt 47 t32_18 t31_17) w fun w =>
          j_8 w)) (
        run1 Tryd.prog Z (Builtin.len_ #[45] 3 #[x0]) w fun t35_19 w =>
        run1 Tryd.prog Z (Instr.sliceAt 45 t8_3 none (some t35_19) none) w fun t36_20 w =>
        Q t36_20 w)
noncomputable def f69.code : Code := match Tryd.f69.body with | some c => c | none => .skip
def f69.an : An := (.sq .leaf (.sq .leaf (.sq (.sq .leaf (.bl (.lp [4] [4, 9, 10, 11, 12, 13, 14, 15, 16, 17, 18, 19, 20, 21, 22, 23, 24, 25, 26, 27, 28, 29, 30, 31, 32] (.sq (.sq .leaf (.cn .leaf .leaf)) (.sj [] [15, 16, 17, 18, 19, 20, 21, 22, 23, 24, 25, 26, 27, 28, 29, 30, 31, 32] (.bl (.sq .leaf (.cn .leaf .leaf))) .leaf))))) (.sq .leaf .leaf))))
theorem f69.body_eq : Tryd.f69.body = some f69.code := by kernel_rfl
theorem f69.shape (Z : List PanicEntry → World → Prop) (x0 : Value) (w : World) (Q : Value → World → Prop) : vc drawD Tryd.prog 37 Z [42] f69.an f69.code (fnQ Tryd.prog 37 Tryd.f69.results Q) (argEnv [x0]) w = f69.sh Z x0 w Q := by kernel_rfl
theorem f69.enters : ∀ f, f ∈ ([42] : List Nat) → Enters Tryd.prog f := by
  intro f hf
  simp only [List.mem_cons, List.not_mem_nil, or_false] at hf
  rcases hf with rfl
  · exact en42
theorem f69.calls {Z : List PanicEntry → World → Prop} {x0 : Value} {w : World} {Q : Value → World → Prop} (h : f69.sh Z x0 w Q) : CallV Tryd.prog Z 69 #[x0] w Q :=
  calls_of_vcn drawD_sound (Q := Q) (n := 37) (rs := Tryd.f69.results) (an := f69.an) (c := f69.code) (cal := [42]) (args := [x0]) Tryd.func69 (by kernel_rfl) rfl f69.body_eq follows (Nat.le_of_ble_eq_true (by kernel_rfl)) (enters_of_all f69.enters) ((f69.shape Z x0 w Q).mpr h)

/-! ### 70: lagoon/txn.CheckRequest -/
def f70.sh (Z : List PanicEntry → World → Prop) (x0 : Value) (w : World) (Q : Value → World → Prop) : Prop :=
  run1 Tryd.prog Z (Instr.box 47 x0) w fun t1_1 w =>
  run1 Tryd.prog Z (Instr.fieldAt 47 t1_1 0) w fun t5_2 w =>
  run1 Tryd.prog Z (Instr.loadAt 31 t5_2) w fun t6_3 w =>
  CallV Tryd.prog Z 91 #[t6_3] w fun t7_4 w =>
  run1 Tryd.prog Z (Op.unary UnOp.not t7_4) w fun t8_5 w =>
  guardW (t8_5) false (fun k => run1 Tryd.prog Z (Instr.loadAt 47 t1_1) w k) (fun t10_6 w =>
  guardW (t8_5) false (fun k => CallV Tryd.prog Z 92 #[t10_6] w k) (fun t11_7 w =>
  guardW (t8_5) false (fun k => run1 Tryd.prog Z (Op.unary UnOp.not t11_7) w k) (fun t12_8 w =>
  run1 Tryd.prog Z (pickV t8_5 (Value.bool true) t12_8) w fun t13_9 w =>
  CondV t13_9 (
    Q (Value.int IntKind.i64 40) w) (
    run1 Tryd.prog Z (Instr.fieldAt 47 t1_1 10) w fun t14_10 w =>
    run1 Tryd.prog Z (Instr.loadAt 45 t14_10) w fun t15_11 w =>
    run1 Tryd.prog Z (Builtin.len_ #[45] 3 #[t15_11]) w fun t16_12 w =>
    ∃ J_13 : Nat → Value → World → Prop, (∃ m, J_13 m (Value.int IntKind.i64 0) w) ∧
      ∀ m_13, ∀ t17_14 : Value, ∀ w : World, J_13 m_13 t17_14 w → Env →
        run1 Tryd.prog Z (binOp BinOp.lss 3 t17_14 t16_12) w fun t18_15 w =>
        CondV t18_15 (
          run1 Tryd.prog Z (Instr.indexAt 45 t15_11 t17_14) w fun t19_16 w =>
          run1 Tryd.prog Z (Instr.loadAt 47 t19_16) w fun t20_17 w =>
          run1 Tryd.prog Z (Instr.alloc 47 true (.tuple #[])) w fun t4_18 w =>
          run0 Tryd.prog Z (Instr.storeAt 47 t4_18 t20_17) w fun w =>
          run1 Tryd.prog Z (Instr.loadAt 47 t4_18) w fun t21_19 w =>
          CallV Tryd.prog Z 93 #[t21_19] w fun t22_20 w =>
          run1 Tryd.prog Z (Op.unary UnOp.not t22_20) w fun t23_21 w =>
          CondV t23_21 (
            Q (Value.int IntKind.i64 40) w) (
            run1 Tryd.prog Z (binOp BinOp.add 3 t17_14 (Value.int IntKind.i64 1)) w fun t24_22 w =>
            ∃ n_13, n_13 < m_13 ∧ J_13 n_13 t24_22 w)) (
          Q (Value.int IntKind.i64 0) w))) w) w) w
noncomputable def f70.code : Code := match Tryd.f70.body with | some c => c | none => .skip
def f70.an : An := (.sq .leaf (.sq (.sq .leaf (.cn (.sq .leaf .leaf) .leaf)) (.sq (.sq .leaf (.bl (.lp [17] [2, 4, 17, 18, 19, 20, 21, 22, 23, 24] (.sq .leaf (.sq (.cn .leaf .leaf) (.sq (.bl (.sq .leaf (.sq .leaf (.cn (.sq .leaf .leaf) .leaf)))) .leaf)))))) (.sq .leaf .leaf))))
theorem f70.body_eq : Tryd.f70.body = some f70.code := by kernel_rfl
theorem f70.shape (Z : List PanicEntry → World → Prop) (x0 : Value) (w : World) (Q : Value → World → Prop) : vc drawD Tryd.prog 25 Z [91, 92, 93] f70.an f70.code (fnQ Tryd.prog 25 Tryd.f70.results Q) (argEnv [x0]) w = f70.sh Z x0 w Q := by kernel_rfl
theorem f70.enters : ∀ f, f ∈ ([91, 92, 93] : List Nat) → Enters Tryd.prog f := by
  intro f hf
  simp only [List.mem_cons, List.not_mem_nil, or_false] at hf
  rcases hf with rfl | rfl | rfl
  · exact en91
  · exact en92
  · exact en93
theorem f70.calls {Z : List PanicEntry → World → Prop} {x0 : Value} {w : World} {Q : Value → World → Prop} (h : f70.sh Z x0 w Q) : CallV Tryd.prog Z 70 #[x0] w Q :=
  calls_of_vcn drawD_sound (Q := Q) (n := 25) (rs := Tryd.f70.results) (an := f70.an) (c := f70.code) (cal := [91, 92, 93]) (args := [x0]) Tryd.func70 (by kernel_rfl) rfl f70.body_eq follows (Nat.le_of_ble_eq_true (by kernel_rfl)) (enters_of_all f70.enters) ((f70.shape Z x0 w Q).mpr h)

/-! ### 71: (*lagoon/pack.Writer).whole -/
def f71.sh (Z : List PanicEntry → World → Prop) (x0 x1 x2 : Value) (w : World) (Q : Value → World → Prop) : Prop :=
  run1 Tryd.prog Z (eqOp BinOp.eql 77 false true x0 (Value.pointer none)) w fun t8_1 w =>
  CondV t8_1 (
    Q (Value.tuple #[]) w) (
    run1 Tryd.prog Z (binOp BinOp.sub 3 x2 (Value.int IntKind.i64 1)) w fun t10_2 w =>
    ∃ J_3 : Nat → Value → World → Prop, (∃ m, J_3 m t10_2 w) ∧
      ∀ m_3, ∀ t6_4 : Value, ∀ w : World, J_3 m_3 t6_4 w → Env →
        run1 Tryd.prog Z (binOp BinOp.geq 3 t6_4 (Value.int IntKind.i64 0)) w fun t12_5 w =>
        CondV t12_5 (
          Drawn w fun w =>
          PureV Tryd.prog (nilChk x0) fun t17_6 =>
          Pure1 Tryd.prog (Instr.fieldAt 79 t17_6 0) fun t18_7 =>
          Read1 Tryd.prog (Instr.loadAt 42 t18_7) w fun t19_8 =>
          Pure1 Tryd.prog (binOp BinOp.mul 3 (Value.int IntKind.i64 8) t6_4) fun t22_9 =>
          Pure1 Tryd.prog (binOp BinOp.shr 107 x1 t22_9) fun t23_10 =>
          Pure1 Tryd.prog (convert 107 5 t23_10) fun t24_11 =>
          run1 Tryd.prog Z (Instr.buildSlice 42 1 #[(0, t24_11)]) w fun t25_12 w =>
            Still Tryd.prog (nx (Instr.loadAt 42 t18_7)) t19_8 w <|
          run1 Tryd.prog Z (Builtin.append_ #[42, 42] 42 #[t19_8, t25_12]) w fun t26_13 w =>
          PureV Tryd.prog (nilChk x0) fun t27_14 =>
          Pure1 Tryd.prog (Instr.fieldAt 79 t27_14 0) fun t28_15 =>
          run0 Tryd.prog Z (Instr.storeAt 42 t28_15 t26_13) w fun w =>
          run1 Tryd.prog Z (binOp BinOp.sub 3 t6_4 (Value.int IntKind.i64 1)) w fun t14_16 w =>
          ∃ n_3, n_3 < m_3 ∧ J_3 n_3 t14_16 w) (
          Q (Value.tuple #[]) w))
noncomputable def f71.code : Code := match Tryd.f71.body with | some c => c | none => .skip
def f71.an : An := (.sq (.sq .leaf (.cn .leaf .leaf)) (.sq .leaf (.bl (.lp [6] [6, 11, 12, 13, 14, 15, 16, 17, 18, 19, 20, 21, 22, 23, 24, 25, 26, 27, 28] (.sq (.sq .leaf (.cn .leaf .leaf)) (.sq (.bl (.dr (.take 0 false (.take 1 false (.take 2 false (.take 3 false (.take 4 true (.take 5 false (.take 6 false (.take 7 false (.take 8 false (.take 9 false (.one 10 (.one 11 (.take 12 false (.take 13 false (.one 14 .fin))))))))))))))))) .leaf))))))
theorem f71.body_eq : Tryd.f71.body = some f71.code := by kernel_rfl
theorem f71.shape (Z : List PanicEntry → World → Prop) (x0 x1 x2 : Value) (w : World) (Q : Value → World → Prop) : vc drawD Tryd.prog 29 Z [] f71.an f71.code (fnQ Tryd.prog 29 Tryd.f71.results Q) (argEnv [x0, x1, x2]) w = f71.sh Z x0 x1 x2 w Q := by kernel_rfl
theorem f71.enters : ∀ f, f ∈ ([] : List Nat) → Enters Tryd.prog f := by
  intro f hf
  cases hf
theorem f71.calls {Z : List PanicEntry → World → Prop} {x0 x1 x2 : Value} {w : World} {Q : Value → World → Prop} (h : f71.sh Z x0 x1 x2 w Q) : CallV Tryd.prog Z 71 #[x0, x1, x2] w Q :=
  calls_of_vcn drawD_sound (Q := Q) (n := 29) (rs := Tryd.f71.results) (an := f71.an) (c := f71.code) (cal := []) (args := [x0, x1, x2]) Tryd.func71 (by kernel_rfl) rfl f71.body_eq follows (Nat.le_of_ble_eq_true (by kernel_rfl)) (enters_of_all f71.enters) ((f71.shape Z x0 x1 x2 w Q).mpr h)

/-! ### 72: (lagoon/txn.layer).fields -/
def f72.sh (Z : List PanicEntry → World → Prop) (x0 x1 : Value) (w : World) (Q : Value → World → Prop) : Prop :=
  run1 Tryd.prog Z (Instr.box 84 x0) w fun t2_1 w =>
  run1 Tryd.prog Z (Instr.fieldAt 84 t2_1 0) w fun t5_2 w =>
  run1 Tryd.prog Z (Instr.loadAt 4 t5_2) w fun t6_3 w =>
  CondV t6_3 (
    run1 Tryd.prog Z (Instr.indexAt 131 (Value.pointer (some ⟨0, 0, none⟩)) x1) w fun t8_4 w =>
    run1 Tryd.prog Z (Instr.loadAt 108 t8_4) w fun t9_5 w =>
    run1 Tryd.prog Z (binOp BinOp.andNot 108 t9_5 (Value.int IntKind.u64 160)) w fun t10_6 w =>
    Q t10_6 w) (
    run1 Tryd.prog Z (Instr.indexAt 131 (Value.pointer (some ⟨0, 0, none⟩)) x1) w fun t12_7 w =>
    run1 Tryd.prog Z (Instr.loadAt 108 t12_7) w fun t13_8 w =>
    Q t13_8 w)
noncomputable def f72.code : Code := match Tryd.f72.body with | some c => c | none => .skip
def f72.an : An := (.sq .leaf (.sq (.sq .leaf (.cn (.sq .leaf .leaf) .leaf)) (.sq .leaf .leaf)))
theorem f72.body_eq : Tryd.f72.body = some f72.code := by kernel_rfl
theorem f72.shape (Z : List PanicEntry → World → Prop) (x0 x1 : Value) (w : World) (Q : Value → World → Prop) : vc drawD Tryd.prog 14 Z [] f72.an f72.code (fnQ Tryd.prog 14 Tryd.f72.results Q) (argEnv [x0, x1]) w = f72.sh Z x0 x1 w Q := by kernel_rfl
theorem f72.enters : ∀ f, f ∈ ([] : List Nat) → Enters Tryd.prog f := by
  intro f hf
  cases hf
theorem f72.calls {Z : List PanicEntry → World → Prop} {x0 x1 : Value} {w : World} {Q : Value → World → Prop} (h : f72.sh Z x0 x1 w Q) : CallV Tryd.prog Z 72 #[x0, x1] w Q :=
  calls_of_vcn drawD_sound (Q := Q) (n := 14) (rs := Tryd.f72.results) (an := f72.an) (c := f72.code) (cal := []) (args := [x0, x1]) Tryd.func72 (by kernel_rfl) rfl f72.body_eq follows (Nat.le_of_ble_eq_true (by kernel_rfl)) (enters_of_all f72.enters) ((f72.shape Z x0 x1 w Q).mpr h)

/-! ### 73: (*lagoon/pack.Writer).Text -/
def f73.sh (Z : List PanicEntry → World → Prop) (x0 x1 : Value) (w : World) (Q : Value → World → Prop) : Prop :=
  run1 Tryd.prog Z (eqOp BinOp.eql 77 false true x0 (Value.pointer none)) w fun t5_1 w =>
  CondV t5_1 (
    Q (Value.tuple #[]) w) (
    run1 Tryd.prog Z (Builtin.len_ #[9] 3 #[x1]) w fun t8_2 w =>
    run1 Tryd.prog Z (convert 3 21 t8_2) w fun t9_3 w =>
    CallV Tryd.prog Z 77 #[x0, t9_3] w fun t10_4 w =>
    runX Tryd.prog Z (nilChk x0) w fun t13_5 w =>
    run1 Tryd.prog Z (Instr.fieldAt 79 t13_5 0) w fun t14_6 w =>
    run1 Tryd.prog Z (Instr.loadAt 42 t14_6) w fun t15_7 w =>
    run1 Tryd.prog Z (Builtin.append_ #[42, 9] 42 #[t15_7, x1]) w fun t17_8 w =>
    runX Tryd.prog Z (nilChk x0) w fun t18_9 w =>
    run1 Tryd.prog Z (Instr.fieldAt 79 t18_9 0) w fun t19_10 w =>
    run0 Tryd.prog Z (Instr.storeAt 42 t19_10 t17_8) w fun w =>
    Q (Value.tuple #[]) w)
noncomputable def f73.code : Code := match Tryd.f73.body with | some c => c | none => .skip
def f73.an : An := (.sq (.sq .leaf (.cn .leaf .leaf)) (.sq .leaf .leaf))
theorem f73.body_eq : Tryd.f73.body = some f73.code := by kernel_rfl
theorem f73.shape (Z : List PanicEntry → World → Prop) (x0 x1 : Value) (w : World) (Q : Value → World → Prop) : vc drawD Tryd.prog 20 Z [77] f73.an f73.code (fnQ Tryd.prog 20 Tryd.f73.results Q) (argEnv [x0, x1]) w = f73.sh Z x0 x1 w Q := by kernel_rfl
theorem f73.enters : ∀ f, f ∈ ([77] : List Nat) → Enters Tryd.prog f := by
  intro f hf
  simp only [List.mem_cons, List.not_mem_nil, or_false] at hf
  rcases hf with rfl
  · exact en77
theorem f73.calls {Z : List PanicEntry → World → Prop} {x0 x1 : Value} {w : World} {Q : Value → World → Prop} (h : f73.sh Z x0 x1 w Q) : CallV Tryd.prog Z 73 #[x0, x1] w Q :=
  calls_of_vcn drawD_sound (Q := Q) (n := 20) (rs := Tryd.f73.results) (an := f73.an) (c := f73.code) (cal := [77]) (args := [x0, x1]) Tryd.func73 (by kernel_rfl) rfl f73.body_eq follows (Nat.le_of_ble_eq_true (by kernel_rfl)) (enters_of_all f73.enters) ((f73.shape Z x0 x1 w Q).mpr h)

/-! ### 74: (*lagoon/pack.Writer).Buffer -/
def f74.sh (Z : List PanicEntry → World → Prop) (x0 x1 : Value) (w : World) (Q : Value → World → Prop) : Prop :=
  run1 Tryd.prog Z (eqOp BinOp.eql 77 false true x0 (Value.pointer none)) w fun t5_1 w =>
  CondV t5_1 (
    Q (Value.tuple #[]) w) (
    run1 Tryd.prog Z (Builtin.len_ #[42] 3 #[x1]) w fun t8_2 w =>
    run1 Tryd.prog Z (convert 3 21 t8_2) w fun t9_3 w =>
    CallV Tryd.prog Z 77 #[x0, t9_3] w fun t10_4 w =>
    CallV Tryd.prog Z 94 #[x0, x1] w fun t13_5 w =>
    Q (Value.tuple #[]) w)
noncomputable def f74.code : Code := match Tryd.f74.body with | some c => c | none => .skip
def f74.an : An := (.sq (.sq .leaf (.cn .leaf .leaf)) (.sq .leaf .leaf))
theorem f74.body_eq : Tryd.f74.body = some f74.code := by kernel_rfl
theorem f74.shape (Z : List PanicEntry → World → Prop) (x0 x1 : Value) (w : World) (Q : Value → World → Prop) : vc drawD Tryd.prog 14 Z [77, 94] f74.an f74.code (fnQ Tryd.prog 14 Tryd.f74.results Q) (argEnv [x0, x1]) w = f74.sh Z x0 x1 w Q := by kernel_rfl
theorem f74.enters : ∀ f, f ∈ ([77, 94] : List Nat) → Enters Tryd.prog f := by
  intro f hf
  simp only [List.mem_cons, List.not_mem_nil, or_false] at hf
  rcases hf with rfl | rfl
  · exact en77
  · exact en94
theorem f74.calls {Z : List PanicEntry → World → Prop} {x0 x1 : Value} {w : World} {Q : Value → World → Prop} (h : f74.sh Z x0 x1 w Q) : CallV Tryd.prog Z 74 #[x0, x1] w Q :=
  calls_of_vcn drawD_sound (Q := Q) (n := 14) (rs := Tryd.f74.results) (an := f74.an) (c := f74.code) (cal := [77, 94]) (args := [x0, x1]) Tryd.func74 (by kernel_rfl) rfl f74.body_eq follows (Nat.le_of_ble_eq_true (by kernel_rfl)) (enters_of_all f74.enters) ((f74.shape Z x0 x1 w Q).mpr h)

/-! ### 75: lagoon/pack.PutList[lagoon/api.Entry] -/
def f75.sh (Z : List PanicEntry → World → Prop) (x0 x1 x2 : Value) (w : World) (Q : Value → World → Prop) : Prop :=
  run1 Tryd.prog Z (eqOp BinOp.eql 77 false true x0 (Value.pointer none)) w fun t9_1 w =>
  CondV t9_1 (
    Q (Value.tuple #[]) w) (
    run1 Tryd.prog Z (Builtin.len_ #[43] 3 #[x1]) w fun t12_2 w =>
    run1 Tryd.prog Z (convert 3 21 t12_2) w fun t13_3 w =>
    CallV Tryd.prog Z 77 #[x0, t13_3] w fun t14_4 w =>
    run1 Tryd.prog Z (eqOp BinOp.eql 117 false true x2 Value.nilFunc) w fun t16_5 w =>
    CondV t16_5 (
      Q (Value.tuple #[]) w) (
      run1 Tryd.prog Z (Builtin.len_ #[43] 3 #[x1]) w fun t18_6 w =>
      ∃ J_7 : Nat → Value → World → Prop, (∃ m, J_7 m (Value.int IntKind.i64 0) w) ∧
        ∀ m_7, ∀ t19_8 : Value, ∀ w : World, J_7 m_7 t19_8 w → Env →
          run1 Tryd.prog Z (binOp BinOp.lss 3 t19_8 t18_6) w fun t20_9 w =>
          CondV t20_9 (
            run1 Tryd.prog Z (Instr.indexAt 43 x1 t19_8) w fun t21_10 w =>
            run1 Tryd.prog Z (Instr.loadAt 116 t21_10) w fun t22_11 w =>
            run1 Tryd.prog Z (Instr.alloc 116 true (.tuple #[])) w fun t7_12 w =>
            run0 Tryd.prog Z (Instr.storeAt 116 t7_12 t22_11) w fun w =>
            run1 Tryd.prog Z (Instr.loadAt 116 t7_12) w fun t25_13 w =>
            runX Tryd.prog Z (callVal x2 #[x0, t25_13]) w fun t26_14 w =>
            run1 Tryd.prog Z (binOp BinOp.add 3 t19_8 (Value.int IntKind.i64 1)) w fun t27_15 w =>
            ∃ n_7, n_7 < m_7 ∧ J_7 n_7 t27_15 w) (
            Q (Value.tuple #[]) w)))
noncomputable def f75.code : Code := match Tryd.f75.body with | some c => c | none => .skip
def f75.an : An := (.sq (.sq .leaf (.cn .leaf .leaf)) (.sq .leaf (.sq (.sq .leaf (.cn .leaf .leaf)) (.sq .leaf (.bl (.lp [19] [7, 19, 20, 21, 22, 23, 24, 25, 26, 27] (.sq .leaf (.sq (.cn .leaf .leaf) (.sq (.bl (.sq .leaf .leaf)) .leaf)))))))))
theorem f75.body_eq : Tryd.f75.body = some f75.code := by kernel_rfl
theorem f75.shape (Z : List PanicEntry → World → Prop) (x0 x1 x2 : Value) (w : World) (Q : Value → World → Prop) : vc drawD Tryd.prog 28 Z [77] f75.an f75.code (fnQ Tryd.prog 28 Tryd.f75.results Q) (argEnv [x0, x1, x2]) w = f75.sh Z x0 x1 x2 w Q := by kernel_rfl
theorem f75.enters : ∀ f, f ∈ ([77] : List Nat) → Enters Tryd.prog f := by
  intro f hf
  simp only [List.mem_cons, List.not_mem_nil, or_false] at hf
  rcases hf with rfl
  · exact en77
theorem f75.calls {Z : List PanicEntry → World → Prop} {x0 x1 x2 : Value} {w : World} {Q : Value → World → Prop} (h : f75.sh Z x0 x1 x2 w Q) : CallV Tryd.prog Z 75 #[x0, x1, x2] w Q :=
  calls_of_vcn drawD_sound (Q := Q) (n := 28) (rs := Tryd.f75.results) (an := f75.an) (c := f75.code) (cal := [77]) (args := [x0, x1, x2]) Tryd.func75 (by kernel_rfl) rfl f75.body_eq follows (Nat.le_of_ble_eq_true (by kernel_rfl)) (enters_of_all f75.enters) ((f75.shape Z x0 x1 x2 w Q).mpr h)

/-! ### 76: lagoon/txn.putEntry -/
def f76.sh (Z : List PanicEntry → World → Prop) (x0 x1 : Value) (w : World) (Q : Value → World → Prop) : Prop :=
  run1 Tryd.prog Z (Instr.box 116 x1) w fun t3_1 w =>
  run1 Tryd.prog Z (Instr.fieldAt 116 t3_1 0) w fun t5_2 w =>
  run1 Tryd.prog Z (Instr.loadAt 31 t5_2) w fun t6_3 w =>
  CallV Tryd.prog Z 45 #[x0, t6_3] w fun t7_4 w =>
  run1 Tryd.prog Z (Instr.fieldAt 116 t3_1 1) w fun t9_5 w =>
  run1 Tryd.prog Z (Instr.loadAt 114 t9_5) w fun t10_6 w =>
  CallV Tryd.prog Z 80 #[x0, t10_6] w fun t11_7 w =>
  Q (Value.tuple #[]) w
noncomputable def f76.code : Code := match Tryd.f76.body with | some c => c | none => .skip
def f76.an : An := (.sq .leaf (.sq .leaf .leaf))
theorem f76.body_eq : Tryd.f76.body = some f76.code := by kernel_rfl
theorem f76.shape (Z : List PanicEntry → World → Prop) (x0 x1 : Value) (w : World) (Q : Value → World → Prop) : vc drawD Tryd.prog 12 Z [45, 80] f76.an f76.code (fnQ Tryd.prog 12 Tryd.f76.results Q) (argEnv [x0, x1]) w = f76.sh Z x0 x1 w Q := by kernel_rfl
theorem f76.enters : ∀ f, f ∈ ([45, 80] : List Nat) → Enters Tryd.prog f := by
  intro f hf
  simp only [List.mem_cons, List.not_mem_nil, or_false] at hf
  rcases hf with rfl | rfl
  · exact en45
  · exact en80
theorem f76.calls {Z : List PanicEntry → World → Prop} {x0 x1 : Value} {w : World} {Q : Value → World → Prop} (h : f76.sh Z x0 x1 w Q) : CallV Tryd.prog Z 76 #[x0, x1] w Q :=
  calls_of_vcn drawD_sound (Q := Q) (n := 12) (rs := Tryd.f76.results) (an := f76.an) (c := f76.code) (cal := [45, 80]) (args := [x0, x1]) Tryd.func76 (by kernel_rfl) rfl f76.body_eq follows (Nat.le_of_ble_eq_true (by kernel_rfl)) (enters_of_all f76.enters) ((f76.shape Z x0 x1 w Q).mpr h)

/-! ### 77: (*lagoon/pack.Writer).Int32 -/
def f77.sh (Z : List PanicEntry → World → Prop) (x0 x1 : Value) (w : World) (Q : Value → World → Prop) : Prop :=
  run1 Tryd.prog Z (convert 21 107 x1) w fun t6_1 w =>
  CallV Tryd.prog Z 71 #[x0, t6_1, (Value.int IntKind.i64 4)] w fun t7_2 w =>
  Q (Value.tuple #[]) w
noncomputable def f77.code : Code := match Tryd.f77.body with | some c => c | none => .skip
def f77.an : An := .leaf
theorem f77.body_eq : Tryd.f77.body = some f77.code := by kernel_rfl
theorem f77.shape (Z : List PanicEntry → World → Prop) (x0 x1 : Value) (w : World) (Q : Value → World → Prop) : vc drawD Tryd.prog 8 Z [71] f77.an f77.code (fnQ Tryd.prog 8 Tryd.f77.results Q) (argEnv [x0, x1]) w = f77.sh Z x0 x1 w Q := by kernel_rfl
theorem f77.enters : ∀ f, f ∈ ([71] : List Nat) → Enters Tryd.prog f := by
  intro f hf
  simp only [List.mem_cons, List.not_mem_nil, or_false] at hf
  rcases hf with rfl
  · exact en71
theorem f77.calls {Z : List PanicEntry → World → Prop} {x0 x1 : Value} {w : World} {Q : Value → World → Prop} (h : f77.sh Z x0 x1 w Q) : CallV Tryd.prog Z 77 #[x0, x1] w Q :=
  calls_of_vcn drawD_sound (Q := Q) (n := 8) (rs := Tryd.f77.results) (an := f77.an) (c := f77.code) (cal := [71]) (args := [x0, x1]) Tryd.func77 (by kernel_rfl) rfl f77.body_eq follows (Nat.le_of_ble_eq_true (by kernel_rfl)) (enters_of_all f77.enters) ((f77.shape Z x0 x1 w Q).mpr h)

/-! ### 78: (*lagoon/pack.Writer).Bool -/
def f78.sh (Z : List PanicEntry → World → Prop) (x0 x1 : Value) (w : World) (Q : Value → World → Prop) : Prop :=
  ∀ j_1 : Value → World → Prop, (∀ t4_2 : Value, ∀ w : World, (Env →
      CallV Tryd.prog Z 71 #[x0, t4_2, (Value.int IntKind.i64 1)] w fun t8_3 w =>
      Q (Value.tuple #[]) w) →
      j_1 t4_2 w) →
  CondV x1 (
    j_1 (Value.int IntKind.u64 1) w) (
    j_1 (Value.int IntKind.u64 0) w)
noncomputable def f78.code : Code := match Tryd.f78.body with | some c => c | none => .skip
def f78.an : An := (.sq .leaf (.sj [4] [4, 5] (.sq .leaf (.cn .leaf .leaf)) .leaf))
theorem f78.body_eq : Tryd.f78.body = some f78.code := by kernel_rfl
theorem f78.shape (Z : List PanicEntry → World → Prop) (x0 x1 : Value) (w : World) (Q : Value → World → Prop) : vc drawD Tryd.prog 9 Z [71] f78.an f78.code (fnQ Tryd.prog 9 Tryd.f78.results Q) (argEnv [x0, x1]) w = f78.sh Z x0 x1 w Q := by kernel_rfl
theorem f78.enters : ∀ f, f ∈ ([71] : List Nat) → Enters Tryd.prog f := by
  intro f hf
  simp only [List.mem_cons, List.not_mem_nil, or_false] at hf
  rcases hf with rfl
  · exact en71
theorem f78.calls {Z : List PanicEntry → World → Prop} {x0 x1 : Value} {w : World} {Q : Value → World → Prop} (h : f78.sh Z x0 x1 w Q) : CallV Tryd.prog Z 78 #[x0, x1] w Q :=
  calls_of_vcn drawD_sound (Q := Q) (n := 9) (rs := Tryd.f78.results) (an := f78.an) (c := f78.code) (cal := [71]) (args := [x0, x1]) Tryd.func78 (by kernel_rfl) rfl f78.body_eq follows (Nat.le_of_ble_eq_true (by kernel_rfl)) (enters_of_all f78.enters) ((f78.shape Z x0 x1 w Q).mpr h)

/-! ### 79: lagoon/pack.PutList[lagoon/api.Id] -/
def f79.sh (Z : List PanicEntry → World → Prop) (x0 x1 x2 : Value) (w : World) (Q : Value → World → Prop) : Prop :=
  run1 Tryd.prog Z (eqOp BinOp.eql 77 false true x0 (Value.pointer none)) w fun t9_1 w =>
  CondV t9_1 (
    Q (Value.tuple #[]) w) (
    run1 Tryd.prog Z (Builtin.len_ #[44] 3 #[x1]) w fun t12_2 w =>
    run1 Tryd.prog Z (convert 3 21 t12_2) w fun t13_3 w =>
    CallV Tryd.prog Z 77 #[x0, t13_3] w fun t14_4 w =>
    run1 Tryd.prog Z (eqOp BinOp.eql 121 false true x2 Value.nilFunc) w fun t16_5 w =>
    CondV t16_5 (
      Q (Value.tuple #[]) w) (
      run1 Tryd.prog Z (Builtin.len_ #[44] 3 #[x1]) w fun t18_6 w =>
      ∃ J_7 : Nat → Value → World → Prop, (∃ m, J_7 m (Value.int IntKind.i64 0) w) ∧
        ∀ m_7, ∀ t19_8 : Value, ∀ w : World, J_7 m_7 t19_8 w → Env →
          run1 Tryd.prog Z (binOp BinOp.lss 3 t19_8 t18_6) w fun t20_9 w =>
          CondV t20_9 (
            run1 Tryd.prog Z (Instr.indexAt 44 x1 t19_8) w fun t21_10 w =>
            run1 Tryd.prog Z (Instr.loadAt 114 t21_10) w fun t22_11 w =>
            run1 Tryd.prog Z (Instr.alloc 114 true (.tuple #[])) w fun t7_12 w =>
            run0 Tryd.prog Z (Instr.storeAt 114 t7_12 t22_11) w fun w =>
            run1 Tryd.prog Z (Instr.loadAt 114 t7_12) w fun t25_13 w =>
            runX Tryd.prog Z (callVal x2 #[x0, t25_13]) w fun t26_14 w =>
            run1 Tryd.prog Z (binOp BinOp.add 3 t19_8 (Value.int IntKind.i64 1)) w fun t27_15 w =>
            ∃ n_7, n_7 < m_7 ∧ J_7 n_7 t27_15 w) (
            Q (Value.tuple #[]) w)))
noncomputable def f79.code : Code := match Tryd.f79.body with | some c => c | none => .skip
def f79.an : An := (.sq (.sq .leaf (.cn .leaf .leaf)) (.sq .leaf (.sq (.sq .leaf (.cn .leaf .leaf)) (.sq .leaf (.bl (.lp [19] [7, 19, 20, 21, 22, 23, 24, 25, 26, 27] (.sq .leaf (.sq (.cn .leaf .leaf) (.sq (.bl (.sq .leaf .leaf)) .leaf)))))))))
theorem f79.body_eq : Tryd.f79.body = some f79.code := by kernel_rfl
theorem f79.shape (Z : List PanicEntry → World → Prop) (x0 x1 x2 : Value) (w : World) (Q : Value → World → Prop) : vc drawD Tryd.prog 28 Z [77] f79.an f79.code (fnQ Tryd.prog 28 Tryd.f79.results Q) (argEnv [x0, x1, x2]) w = f79.sh Z x0 x1 x2 w Q := by kernel_rfl
theorem f79.enters : ∀ f, f ∈ ([77] : List Nat) → Enters Tryd.prog f := by
  intro f hf
  simp only [List.mem_cons, List.not_mem_nil, or_false] at hf
  rcases hf with rfl
  · exact en77
theorem f79.calls {Z : List PanicEntry → World → Prop} {x0 x1 x2 : Value} {w : World} {Q : Value → World → Prop} (h : f79.sh Z x0 x1 x2 w Q) : CallV Tryd.prog Z 79 #[x0, x1, x2] w Q :=
  calls_of_vcn drawD_sound (Q := Q) (n := 28) (rs := Tryd.f79.results) (an := f79.an) (c := f79.code) (cal := [77]) (args := [x0, x1, x2]) Tryd.func79 (by kernel_rfl) rfl f79.body_eq follows (Nat.le_of_ble_eq_true (by kernel_rfl)) (enters_of_all f79.enters) ((f79.shape Z x0 x1 x2 w Q).mpr h)

/-! ### 80: lagoon/txn.putId -/
def f80.sh (Z : List PanicEntry → World → Prop) (x0 x1 : Value) (w : World) (Q : Value → World → Prop) : Prop :=
  run1 Tryd.prog Z (Instr.box 114 x1) w fun t3_1 w =>
  run1 Tryd.prog Z (Instr.fieldAt 114 t3_1 0) w fun t5_2 w =>
  run1 Tryd.prog Z (Instr.loadAt 9 t5_2) w fun t6_3 w =>
  CallV Tryd.prog Z 73 #[x0, t6_3] w fun t7_4 w =>
  run1 Tryd.prog Z (Instr.fieldAt 114 t3_1 1) w fun t9_5 w =>
  run1 Tryd.prog Z (Instr.loadAt 9 t9_5) w fun t10_6 w =>
  CallV Tryd.prog Z 73 #[x0, t10_6] w fun t11_7 w =>
  Q (Value.tuple #[]) w
noncomputable def f80.code : Code := match Tryd.f80.body with | some c => c | none => .skip
def f80.an : An := (.sq .leaf (.sq .leaf .leaf))
theorem f80.body_eq : Tryd.f80.body = some f80.code := by kernel_rfl
theorem f80.shape (Z : List PanicEntry → World → Prop) (x0 x1 : Value) (w : World) (Q : Value → World → Prop) : vc drawD Tryd.prog 12 Z [73] f80.an f80.code (fnQ Tryd.prog 12 Tryd.f80.results Q) (argEnv [x0, x1]) w = f80.sh Z x0 x1 w Q := by kernel_rfl
theorem f80.enters : ∀ f, f ∈ ([73] : List Nat) → Enters Tryd.prog f := by
  intro f hf
  simp only [List.mem_cons, List.not_mem_nil, or_false] at hf
  rcases hf with rfl
  · exact en73
theorem f80.calls {Z : List PanicEntry → World → Prop} {x0 x1 : Value} {w : World} {Q : Value → World → Prop} (h : f80.sh Z x0 x1 w Q) : CallV Tryd.prog Z 80 #[x0, x1] w Q :=
  calls_of_vcn drawD_sound (Q := Q) (n := 12) (rs := Tryd.f80.results) (an := f80.an) (c := f80.code) (cal := [73]) (args := [x0, x1]) Tryd.func80 (by kernel_rfl) rfl f80.body_eq follows (Nat.le_of_ble_eq_true (by kernel_rfl)) (enters_of_all f80.enters) ((f80.shape Z x0 x1 w Q).mpr h)

/-! ### 81: lagoon/pack.PutList[lagoon/api.Request] -/
def f81.sh (Z : List PanicEntry → World → Prop) (x0 x1 x2 : Value) (w : World) (Q : Value → World → Prop) : Prop :=
  run1 Tryd.prog Z (eqOp BinOp.eql 77 false true x0 (Value.pointer none)) w fun t9_1 w =>
  CondV t9_1 (
    Q (Value.tuple #[]) w) (
    run1 Tryd.prog Z (Builtin.len_ #[45] 3 #[x1]) w fun t12_2 w =>
    run1 Tryd.prog Z (convert 3 21 t12_2) w fun t13_3 w =>
    CallV Tryd.prog Z 77 #[x0, t13_3] w fun t14_4 w =>
    run1 Tryd.prog Z (eqOp BinOp.eql 85 false true x2 Value.nilFunc) w fun t16_5 w =>
    CondV t16_5 (
      Q (Value.tuple #[]) w) (
      run1 Tryd.prog Z (Builtin.len_ #[45] 3 #[x1]) w fun t18_6 w =>
      ∃ J_7 : Nat → Value → World → Prop, (∃ m, J_7 m (Value.int IntKind.i64 0) w) ∧
        ∀ m_7, ∀ t19_8 : Value, ∀ w : World, J_7 m_7 t19_8 w → Env →
          run1 Tryd.prog Z (binOp BinOp.lss 3 t19_8 t18_6) w fun t20_9 w =>
          CondV t20_9 (
            run1 Tryd.prog Z (Instr.indexAt 45 x1 t19_8) w fun t21_10 w =>
            run1 Tryd.prog Z (Instr.loadAt 47 t21_10) w fun t22_11 w =>
            run1 Tryd.prog Z (Instr.alloc 47 true (.tuple #[])) w fun t7_12 w =>
            run0 Tryd.prog Z (Instr.storeAt 47 t7_12 t22_11) w fun w =>
            run1 Tryd.prog Z (Instr.loadAt 47 t7_12) w fun t25_13 w =>
            runX Tryd.prog Z (callVal x2 #[x0, t25_13]) w fun t26_14 w =>
            run1 Tryd.prog Z (binOp BinOp.add 3 t19_8 (Value.int IntKind.i64 1)) w fun t27_15 w =>
            ∃ n_7, n_7 < m_7 ∧ J_7 n_7 t27_15 w) (
            Q (Value.tuple #[]) w)))
noncomputable def f81.code : Code := match Tryd.f81.body with | some c => c | none => .skip
def f81.an : An := (.sq (.sq .leaf (.cn .leaf .leaf)) (.sq .leaf (.sq (.sq .leaf (.cn .leaf .leaf)) (.sq .leaf (.bl (.lp [19] [7, 19, 20, 21, 22, 23, 24, 25, 26, 27] (.sq .leaf (.sq (.cn .leaf .leaf) (.sq (.bl (.sq .leaf .leaf)) .leaf)))))))))
theorem f81.body_eq : Tryd.f81.body = some f81.code := by kernel_rfl
theorem f81.shape (Z : List PanicEntry → World → Prop) (x0 x1 x2 : Value) (w : World) (Q : Value → World → Prop) : vc drawD Tryd.prog 28 Z [77] f81.an f81.code (fnQ Tryd.prog 28 Tryd.f81.results Q) (argEnv [x0, x1, x2]) w = f81.sh Z x0 x1 x2 w Q := by kernel_rfl
theorem f81.enters : ∀ f, f ∈ ([77] : List Nat) → Enters Tryd.prog f := by
  intro f hf
  simp only [List.mem_cons, List.not_mem_nil, or_false] at hf
  rcases hf with rfl
  · exact en77
theorem f81.calls {Z : List PanicEntry → World → Prop} {x0 x1 x2 : Value} {w : World} {Q : Value → World → Prop} (h : f81.sh Z x0 x1 x2 w Q) : CallV Tryd.prog Z 81 #[x0, x1, x2] w Q :=
  calls_of_vcn drawD_sound (Q := Q) (n := 28) (rs := Tryd.f81.results) (an := f81.an) (c := f81.code) (cal := [77]) (args := [x0, x1, x2]) Tryd.func81 (by kernel_rfl) rfl f81.body_eq follows (Nat.le_of_ble_eq_true (by kernel_rfl)) (enters_of_all f81.enters) ((f81.shape Z x0 x1 x2 w Q).mpr h)

/-! ### 82: lagoon/lagoonref04.CheckRequest -/
def f82.sh (Z : List PanicEntry → World → Prop) (x0 : Value) (w : World) (Q : Value → World → Prop) : Prop :=
  run1 Tryd.prog Z (Instr.box 47 x0) w fun t1_1 w =>
  run1 Tryd.prog Z (Instr.loadAt 47 t1_1) w fun t5_2 w =>
  CallV Tryd.prog Z 95 #[t5_2] w fun t6_3 w =>
  run1 Tryd.prog Z (Op.unary UnOp.not t6_3) w fun t7_4 w =>
  CondV t7_4 (
    Q (Value.int IntKind.i64 40) w) (
    ∃ J_5 : Nat → Value → World → Prop, (∃ m, J_5 m (Value.int IntKind.i64 0) w) ∧
      ∀ m_5, ∀ t3_6 : Value, ∀ w : World, J_5 m_5 t3_6 w → Env →
        run1 Tryd.prog Z (Instr.fieldAt 47 t1_1 10) w fun t9_7 w =>
        run1 Tryd.prog Z (Instr.loadAt 45 t9_7) w fun t10_8 w =>
        run1 Tryd.prog Z (Builtin.len_ #[45] 3 #[t10_8]) w fun t11_9 w =>
        run1 Tryd.prog Z (binOp BinOp.lss 3 t3_6 t11_9) w fun t12_10 w =>
        CondV t12_10 (
          run1 Tryd.prog Z (Instr.fieldAt 47 t1_1 10) w fun t15_11 w =>
          run1 Tryd.prog Z (Instr.loadAt 45 t15_11) w fun t16_12 w =>
          run1 Tryd.prog Z (Instr.indexAt 45 t16_12 t3_6) w fun t18_13 w =>
          run1 Tryd.prog Z (Instr.loadAt 47 t18_13) w fun t19_14 w =>
          run1 Tryd.prog Z (Instr.alloc 47 true (.tuple #[])) w fun t4_15 w =>
          run0 Tryd.prog Z (Instr.storeAt 47 t4_15 t19_14) w fun w =>
          run1 Tryd.prog Z (Instr.fieldAt 47 t4_15 0) w fun t20_16 w =>
          run1 Tryd.prog Z (Instr.loadAt 31 t20_16) w fun t21_17 w =>
          run1 Tryd.prog Z (binOp BinOp.lss 31 t21_17 (Value.int IntKind.i8 1)) w fun t22_18 w =>
          guardW (t22_18) false (fun k => run1 Tryd.prog Z (Instr.fieldAt 47 t4_15 0) w k) (fun t24_19 w =>
          guardW (t22_18) false (fun k => run1 Tryd.prog Z (Instr.loadAt 31 t24_19) w k) (fun t25_20 w =>
          guardW (t22_18) false (fun k => run1 Tryd.prog Z (binOp BinOp.gtr 31 t25_20 (Value.int IntKind.i8 5)) w k) (fun t26_21 w =>
          run1 Tryd.prog Z (pickV t22_18 (Value.bool true) t26_21) w fun t27_22 w =>
          guardW (t27_22) false (fun k => run1 Tryd.prog Z (Instr.fieldAt 47 t4_15 7) w k) (fun t29_23 w =>
          guardW (t27_22) false (fun k => run1 Tryd.prog Z (Instr.loadAt 2 t29_23) w k) (fun t30_24 w =>
          guardW (t27_22) false (fun k => run1 Tryd.prog Z (eqOp BinOp.neq 2 false true t30_24 (Value.int IntKind.i64 0)) w k) (fun t31_25 w =>
          run1 Tryd.prog Z (pickV t27_22 (Value.bool true) t31_25) w fun t32_26 w =>
          guardW (t32_26) false (fun k => run1 Tryd.prog Z (Instr.fieldAt 47 t4_15 9) w k) (fun t34_27 w =>
          guardW (t32_26) false (fun k => run1 Tryd.prog Z (Instr.loadAt 44 t34_27) w k) (fun t35_28 w =>
          guardW (t32_26) false (fun k => run1 Tryd.prog Z (Builtin.len_ #[44] 3 #[t35_28]) w k) (fun t36_29 w =>
          guardW (t32_26) false (fun k => run1 Tryd.prog Z (eqOp BinOp.neq 3 false true t36_29 (Value.int IntKind.i64 0)) w k) (fun t37_30 w =>
          run1 Tryd.prog Z (pickV t32_26 (Value.bool true) t37_30) w fun t38_31 w =>
          guardW (t38_31) false (fun k => run1 Tryd.prog Z (Instr.loadAt 47 t4_15) w k) (fun t40_32 w =>
          guardW (t38_31) false (fun k => CallV Tryd.prog Z 95 #[t40_32] w k) (fun t41_33 w =>
          guardW (t38_31) false (fun k => run1 Tryd.prog Z (Op.unary UnOp.not t41_33) w k) (fun t42_34 w =>
          run1 Tryd.prog Z (pickV t38_31 (Value.bool true) t42_34) w fun t43_35 w =>
          CondV t43_35 (
            Q (Value.int IntKind.i64 40) w) (
            run1 Tryd.prog Z (binOp BinOp.add 3 t3_6 (Value.int IntKind.i64 1)) w fun t14_36 w =>
            ∃ n_5, n_5 < m_5 ∧ J_5 n_5 t14_36 w)) w) w) w) w) w) w) w) w) w) w) w) w) w) (
          Q (Value.int IntKind.i64 0) w))
noncomputable def f82.code : Code := match Tryd.f82.body with | some c => c | none => .skip
def f82.an : An := (.sq .leaf (.sq (.sq .leaf (.cn (.sq .leaf .leaf) .leaf)) (.sq (.sq .leaf (.bl (.lp [3] [2, 3, 4, 8, 9, 10, 11, 12, 13, 14, 15, 16, 17, 18, 19, 20, 21, 22, 23, 24, 25, 26, 27, 28, 29, 30, 31, 32, 33, 34, 35, 36, 37, 38, 39, 40, 41, 42, 43] (.sq (.sq .leaf (.cn .leaf .leaf)) (.sq (.bl (.sq .leaf (.sq .leaf (.cn (.sq .leaf .leaf) .leaf)))) .leaf))))) (.sq .leaf .leaf))))
theorem f82.body_eq : Tryd.f82.body = some f82.code := by kernel_rfl
theorem f82.shape (Z : List PanicEntry → World → Prop) (x0 : Value) (w : World) (Q : Value → World → Prop) : vc drawD Tryd.prog 44 Z [95] f82.an f82.code (fnQ Tryd.prog 44 Tryd.f82.results Q) (argEnv [x0]) w = f82.sh Z x0 w Q := by kernel_rfl
theorem f82.enters : ∀ f, f ∈ ([95] : List Nat) → Enters Tryd.prog f := by
  intro f hf
  simp only [List.mem_cons, List.not_mem_nil, or_false] at hf
  rcases hf with rfl
  · exact en95
theorem f82.calls {Z : List PanicEntry → World → Prop} {x0 : Value} {w : World} {Q : Value → World → Prop} (h : f82.sh Z x0 w Q) : CallV Tryd.prog Z 82 #[x0] w Q :=
  calls_of_vcn drawD_sound (Q := Q) (n := 44) (rs := Tryd.f82.results) (an := f82.an) (c := f82.code) (cal := [95]) (args := [x0]) Tryd.func82 (by kernel_rfl) rfl f82.body_eq follows (Nat.le_of_ble_eq_true (by kernel_rfl)) (enters_of_all f82.enters) ((f82.shape Z x0 w Q).mpr h)

/-! ### 83: lagoon/lagoonref01.digits -/
def f83.sh (Z : List PanicEntry → World → Prop) (x0 x1 : Value) (w : World) (Q : Value → World → Prop) : Prop :=
  run1 Tryd.prog Z (Instr.makeSlice 42 x1 x1) w fun t8_1 w =>
  run1 Tryd.prog Z (binOp BinOp.sub 3 x1 (Value.int IntKind.i64 1)) w fun t10_2 w =>
  ∃ J_3 : Nat → Value → Value → World → Prop, (∃ m, J_3 m x0 t10_2 w) ∧
    ∀ m_3, ∀ t0_4 : Value, ∀ t6_5 : Value, ∀ w : World, J_3 m_3 t0_4 t6_5 w → Env →
      run1 Tryd.prog Z (binOp BinOp.geq 3 t6_5 (Value.int IntKind.i64 0)) w fun t12_6 w =>
      CondV t12_6 (
        run1 Tryd.prog Z (binOp BinOp.rem 107 t0_4 (Value.int IntKind.u64 256)) w fun t18_7 w =>
        run1 Tryd.prog Z (convert 107 5 t18_7) w fun t19_8 w =>
        run1 Tryd.prog Z (Instr.indexAt 42 t8_1 t6_5) w fun t20_9 w =>
        run0 Tryd.prog Z (Instr.storeAt 5 t20_9 t19_8) w fun w =>
        run1 Tryd.prog Z (binOp BinOp.quo 107 t0_4 (Value.int IntKind.u64 256)) w fun t22_10 w =>
        run1 Tryd.prog Z (binOp BinOp.sub 3 t6_5 (Value.int IntKind.i64 1)) w fun t14_11 w =>
        ∃ n_3, n_3 < m_3 ∧ J_3 n_3 t22_10 t14_11 w) (
        Q t8_1 w)
noncomputable def f83.code : Code := match Tryd.f83.body with | some c => c | none => .skip
def f83.an : An := (.sq .leaf (.sq .leaf (.sq (.sq .leaf (.bl (.lp [0, 6] [0, 6, 11, 12, 13, 14, 15, 16, 17, 18, 19, 20, 21, 22] (.sq (.sq .leaf (.cn .leaf .leaf)) (.sq (.bl (.sq .leaf .leaf)) .leaf))))) (.sq .leaf .leaf))))
theorem f83.body_eq : Tryd.f83.body = some f83.code := by kernel_rfl
theorem f83.shape (Z : List PanicEntry → World → Prop) (x0 x1 : Value) (w : World) (Q : Value → World → Prop) : vc drawD Tryd.prog 24 Z [] f83.an f83.code (fnQ Tryd.prog 24 Tryd.f83.results Q) (argEnv [x0, x1]) w = f83.sh Z x0 x1 w Q := by kernel_rfl
theorem f83.enters : ∀ f, f ∈ ([] : List Nat) → Enters Tryd.prog f := by
  intro f hf
  cases hf
theorem f83.calls {Z : List PanicEntry → World → Prop} {x0 x1 : Value} {w : World} {Q : Value → World → Prop} (h : f83.sh Z x0 x1 w Q) : CallV Tryd.prog Z 83 #[x0, x1] w Q :=
  calls_of_vcn drawD_sound (Q := Q) (n := 24) (rs := Tryd.f83.results) (an := f83.an) (c := f83.code) (cal := []) (args := [x0, x1]) Tryd.func83 (by kernel_rfl) rfl f83.body_eq follows (Nat.le_of_ble_eq_true (by kernel_rfl)) (enters_of_all f83.enters) ((f83.shape Z x0 x1 w Q).mpr h)

/-! ### 84: lagoon/lagoonref04.Letters -/
def f84.sh (Z : List PanicEntry → World → Prop) (x0 : Value) (w : World) (Q : Value → World → Prop) : Prop :=
  ∀ j_1 : World → Prop, (∀ w : World, (Env →
      Q (Value.string { data := #[] }) w) →
      j_1 w) →
  run1 Tryd.prog Z (eqOp BinOp.eql 31 false true x0 (Value.int IntKind.i8 1)) w fun t5_2 w =>
  CondV t5_2 (
    Q (Value.string { data := #[112, 100, 97, 102, 115, 119] }) w) (
    ∀ j_3 : Value → World → Prop, (∀ t6_4 : Value, ∀ w : World, (Env →
        CondV t6_4 (
          Q (Value.string { data := #[112, 118, 115, 119] }) w) (
          run1 Tryd.prog Z (eqOp BinOp.eql 31 false true x0 (Value.int IntKind.i8 3)) w fun t10_5 w =>
          CondV t10_5 (
            Q (Value.string { data := #[112, 100, 118, 115, 119] }) w) (
            run1 Tryd.prog Z (eqOp BinOp.eql 31 false true x0 (Value.int IntKind.i8 4)) w fun t12_6 w =>
            CondV t12_6 (
              Q (Value.string { data := #[112, 97, 118, 115, 119] }) w) (
              run1 Tryd.prog Z (eqOp BinOp.eql 31 false true x0 (Value.int IntKind.i8 6)) w fun t14_7 w =>
              CondV t14_7 (
                Q (Value.string { data := #[115, 119, 111] }) w) (
                run1 Tryd.prog Z (eqOp BinOp.eql 31 false true x0 (Value.int IntKind.i8 7)) w fun t16_8 w =>
                CondV t16_8 (
                  Q (Value.string { data := #[116] }) w) (
                  run1 Tryd.prog Z (eqOp BinOp.eql 31 false true x0 (Value.int IntKind.i8 8)) w fun t18_9 w =>
                  CondV t18_9 (
                    Q (Value.string { data := #[115] }) w) (
                    ∀ j_10 : Value → World → Prop, (∀ t19_11 : Value, ∀ w : World, (Env →
                        CondV t19_11 (
                          Q (Value.string { data := #[112, 115, 119] }) w) (
                          j_1 w)) →
                        j_10 t19_11 w) →
                    run1 Tryd.prog Z (eqOp BinOp.eql 31 false true x0 (Value.int IntKind.i8 9)) w fun t20_12 w =>
                    CondV t20_12 (
                      j_10 t20_12 w) (
                      run1 Tryd.prog Z (eqOp BinOp.eql 31 false true x0 (Value.int IntKind.i8 10)) w fun t21_13 w =>
                      CondV t21_13 (
                        j_10 t21_13 w) (
                        run1 Tryd.prog Z (eqOp BinOp.eql 31 false true x0 (Value.int IntKind.i8 11)) w fun t22_14 w =>
                        CondV t22_14 (
                          j_10 t22_14 w) (
                          run1 Tryd.prog Z (eqOp BinOp.eql 31 false true x0 (Value.int IntKind.i8 12)) w fun t23_15 w =>
                          j_10 t23_15 w)))))))))) →
        j_3 t6_4 w) →
    run1 Tryd.prog Z (eqOp BinOp.eql 31 false true x0 (Value.int IntKind.i8 2)) w fun t7_16 w =>
    CondV t7_16 (
      j_3 t7_16 w) (
      run1 Tryd.prog Z (eqOp BinOp.eql 31 false true x0 (Value.int IntKind.i8 5)) w fun t8_17 w =>
      j_3 t8_17 w))
noncomputable def f84.code : Code := match Tryd.f84.body with | some c => c | none => .skip
def f84.an : An := (.sq .leaf (.sj [] [2, 3, 4, 5, 6, 7, 8, 9, 10, 11, 12, 13, 14, 15, 16, 17, 18, 19, 20, 21, 22, 23] (.sq .leaf (.bl (.sq .leaf (.cn (.sq .leaf .leaf) (.sj [6] [6, 7, 8] (.sq .leaf (.cn .leaf .leaf)) (.cn (.sq .leaf .leaf) (.sq .leaf (.cn (.sq .leaf .leaf) (.sq .leaf (.cn (.sq .leaf .leaf) (.sq .leaf (.cn (.sq .leaf .leaf) (.sq .leaf (.cn (.sq .leaf .leaf) (.sq .leaf (.cn (.sq .leaf .leaf) (.sj [19] [19, 20, 21, 22, 23] (.sq .leaf (.cn .leaf (.sq .leaf (.cn .leaf (.sq .leaf (.cn .leaf .leaf)))))) (.cn (.sq .leaf .leaf) .leaf)))))))))))))))))) (.sq .leaf .leaf)))
theorem f84.body_eq : Tryd.f84.body = some f84.code := by kernel_rfl
theorem f84.shape (Z : List PanicEntry → World → Prop) (x0 : Value) (w : World) (Q : Value → World → Prop) : vc drawD Tryd.prog 24 Z [] f84.an f84.code (fnQ Tryd.prog 24 Tryd.f84.results Q) (argEnv [x0]) w = f84.sh Z x0 w Q := by kernel_rfl
theorem f84.enters : ∀ f, f ∈ ([] : List Nat) → Enters Tryd.prog f := by
  intro f hf
  cases hf
theorem f84.calls {Z : List PanicEntry → World → Prop} {x0 : Value} {w : World} {Q : Value → World → Prop} (h : f84.sh Z x0 w Q) : CallV Tryd.prog Z 84 #[x0] w Q :=
  calls_of_vcn drawD_sound (Q := Q) (n := 24) (rs := Tryd.f84.results) (an := f84.an) (c := f84.code) (cal := []) (args := [x0]) Tryd.func84 (by kernel_rfl) rfl f84.body_eq follows (Nat.le_of_ble_eq_true (by kernel_rfl)) (enters_of_all f84.enters) ((f84.shape Z x0 w Q).mpr h)

/-! ### 85: lagoon/lagoonref01.Text -/
def f85.sh (Z : List PanicEntry → World → Prop) (x0 : Value) (w : World) (Q : Value → World → Prop) : Prop :=
  run1 Tryd.prog Z (convert 9 42 x0) w fun t4_1 w =>
  CallV Tryd.prog Z 86 #[t4_1] w fun t5_2 w =>
  Q t5_2 w
noncomputable def f85.code : Code := match Tryd.f85.body with | some c => c | none => .skip
def f85.an : An := (.sq .leaf (.sq .leaf .leaf))
theorem f85.body_eq : Tryd.f85.body = some f85.code := by kernel_rfl
theorem f85.shape (Z : List PanicEntry → World → Prop) (x0 : Value) (w : World) (Q : Value → World → Prop) : vc drawD Tryd.prog 6 Z [86] f85.an f85.code (fnQ Tryd.prog 6 Tryd.f85.results Q) (argEnv [x0]) w = f85.sh Z x0 w Q := by kernel_rfl
theorem f85.enters : ∀ f, f ∈ ([86] : List Nat) → Enters Tryd.prog f := by
  intro f hf
  simp only [List.mem_cons, List.not_mem_nil, or_false] at hf
  rcases hf with rfl
  · exact en86
theorem f85.calls {Z : List PanicEntry → World → Prop} {x0 : Value} {w : World} {Q : Value → World → Prop} (h : f85.sh Z x0 w Q) : CallV Tryd.prog Z 85 #[x0] w Q :=
  calls_of_vcn drawD_sound (Q := Q) (n := 6) (rs := Tryd.f85.results) (an := f85.an) (c := f85.code) (cal := [86]) (args := [x0]) Tryd.func85 (by kernel_rfl) rfl f85.body_eq follows (Nat.le_of_ble_eq_true (by kernel_rfl)) (enters_of_all f85.enters) ((f85.shape Z x0 w Q).mpr h)

/-! ### 86: lagoon/lagoonref01.Buffer -/
def f86.sh (Z : List PanicEntry → World → Prop) (x0 : Value) (w : World) (Q : Value → World → Prop) : Prop :=
  run1 Tryd.prog Z (Builtin.len_ #[42] 3 #[x0]) w fun t6_1 w =>
  run1 Tryd.prog Z (convert 3 21 t6_1) w fun t7_2 w =>
  CallV Tryd.prog Z 87 #[t7_2] w fun t8_3 w =>
  ∃ J_4 : Nat → Value → Value → World → Prop, (∃ m, J_4 m t8_3 (Value.int IntKind.i64 0) w) ∧
    ∀ m_4, ∀ t3_5 : Value, ∀ t4_6 : Value, ∀ w : World, J_4 m_4 t3_5 t4_6 w → Env →
      run1 Tryd.prog Z (Builtin.len_ #[42] 3 #[x0]) w fun t11_7 w =>
      run1 Tryd.prog Z (binOp BinOp.lss 3 t4_6 t11_7) w fun t12_8 w =>
      CondV t12_8 (
        run1 Tryd.prog Z (Instr.indexAt 42 x0 t4_6) w fun t18_9 w =>
        run1 Tryd.prog Z (Instr.loadAt 5 t18_9) w fun t19_10 w =>
        run1 Tryd.prog Z (Instr.buildSlice 42 1 #[(0, t19_10)]) w fun t20_11 w =>
        run1 Tryd.prog Z (Builtin.append_ #[42, 42] 42 #[t3_5, t20_11]) w fun t21_12 w =>
        run1 Tryd.prog Z (binOp BinOp.add 3 t4_6 (Value.int IntKind.i64 1)) w fun t14_13 w =>
        ∃ n_4, n_4 < m_4 ∧ J_4 n_4 t21_12 t14_13 w) (
        Q t3_5 w)
noncomputable def f86.code : Code := match Tryd.f86.body with | some c => c | none => .skip
def f86.an : An := (.sq .leaf (.sq .leaf (.sq (.sq .leaf (.bl (.lp [3, 4] [3, 4, 9, 10, 11, 12, 13, 14, 15, 16, 17, 18, 19, 20, 21] (.sq (.sq .leaf (.cn .leaf .leaf)) (.sq (.bl .leaf) .leaf))))) (.sq .leaf .leaf))))
theorem f86.body_eq : Tryd.f86.body = some f86.code := by kernel_rfl
theorem f86.shape (Z : List PanicEntry → World → Prop) (x0 : Value) (w : World) (Q : Value → World → Prop) : vc drawD Tryd.prog 23 Z [87] f86.an f86.code (fnQ Tryd.prog 23 Tryd.f86.results Q) (argEnv [x0]) w = f86.sh Z x0 w Q := by kernel_rfl
theorem f86.enters : ∀ f, f ∈ ([87] : List Nat) → Enters Tryd.prog f := by
  intro f hf
  simp only [List.mem_cons, List.not_mem_nil, or_false] at hf
  rcases hf with rfl
  · exact en87
theorem f86.calls {Z : List PanicEntry → World → Prop} {x0 : Value} {w : World} {Q : Value → World → Prop} (h : f86.sh Z x0 w Q) : CallV Tryd.prog Z 86 #[x0] w Q :=
  calls_of_vcn drawD_sound (Q := Q) (n := 23) (rs := Tryd.f86.results) (an := f86.an) (c := f86.code) (cal := [87]) (args := [x0]) Tryd.func86 (by kernel_rfl) rfl f86.body_eq follows (Nat.le_of_ble_eq_true (by kernel_rfl)) (enters_of_all f86.enters) ((f86.shape Z x0 w Q).mpr h)

/-! ### 87: lagoon/lagoonref01.Int32 -/
def f87.sh (Z : List PanicEntry → World → Prop) (x0 : Value) (w : World) (Q : Value → World → Prop) : Prop :=
  run1 Tryd.prog Z (convert 21 2 x0) w fun t5_1 w =>
  ∀ j_2 : Value → World → Prop, (∀ t3_3 : Value, ∀ w : World, (Env →
      run1 Tryd.prog Z (convert 2 107 t3_3) w fun t11_4 w =>
      CallV Tryd.prog Z 83 #[t11_4, (Value.int IntKind.i64 4)] w fun t12_5 w =>
      Q t12_5 w) →
      j_2 t3_3 w) →
  run1 Tryd.prog Z (binOp BinOp.lss 2 t5_1 (Value.int IntKind.i64 0)) w fun t7_6 w =>
  CondV t7_6 (
    run1 Tryd.prog Z (binOp BinOp.add 2 t5_1 (Value.int IntKind.i64 4294967296)) w fun t9_7 w =>
    j_2 t9_7 w) (
    j_2 t5_1 w)
noncomputable def f87.code : Code := match Tryd.f87.body with | some c => c | none => .skip
def f87.an : An := (.sq .leaf (.sq .leaf (.sj [3] [3, 6, 7, 8, 9] (.sq .leaf (.cn .leaf .leaf)) (.sq .leaf .leaf))))
theorem f87.body_eq : Tryd.f87.body = some f87.code := by kernel_rfl
theorem f87.shape (Z : List PanicEntry → World → Prop) (x0 : Value) (w : World) (Q : Value → World → Prop) : vc drawD Tryd.prog 13 Z [83] f87.an f87.code (fnQ Tryd.prog 13 Tryd.f87.results Q) (argEnv [x0]) w = f87.sh Z x0 w Q := by kernel_rfl
theorem f87.enters : ∀ f, f ∈ ([83] : List Nat) → Enters Tryd.prog f := by
  intro f hf
  simp only [List.mem_cons, List.not_mem_nil, or_false] at hf
  rcases hf with rfl
  · exact en83
theorem f87.calls {Z : List PanicEntry → World → Prop} {x0 : Value} {w : World} {Q : Value → World → Prop} (h : f87.sh Z x0 w Q) : CallV Tryd.prog Z 87 #[x0] w Q :=
  calls_of_vcn drawD_sound (Q := Q) (n := 13) (rs := Tryd.f87.results) (an := f87.an) (c := f87.code) (cal := [83]) (args := [x0]) Tryd.func87 (by kernel_rfl) rfl f87.body_eq follows (Nat.le_of_ble_eq_true (by kernel_rfl)) (enters_of_all f87.enters) ((f87.shape Z x0 w Q).mpr h)

/-! ### 88: lagoon/lagoonref04.putId -/
def f88.sh (Z : List PanicEntry → World → Prop) (x0 x1 : Value) (w : World) (Q : Value → World → Prop) : Prop :=
  run1 Tryd.prog Z (Instr.box 114 x1) w fun t3_1 w =>
  run1 Tryd.prog Z (Instr.fieldAt 114 t3_1 0) w fun t6_2 w =>
  run1 Tryd.prog Z (Instr.loadAt 9 t6_2) w fun t7_3 w =>
  CallV Tryd.prog Z 85 #[t7_3] w fun t8_4 w =>
  CallV Tryd.prog Z 51 #[x0, t8_4] w fun t9_5 w =>
  run1 Tryd.prog Z (Instr.fieldAt 114 t3_1 1) w fun t11_6 w =>
  run1 Tryd.prog Z (Instr.loadAt 9 t11_6) w fun t12_7 w =>
  CallV Tryd.prog Z 85 #[t12_7] w fun t13_8 w =>
  CallV Tryd.prog Z 51 #[t9_5, t13_8] w fun t14_9 w =>
  Q t14_9 w
noncomputable def f88.code : Code := match Tryd.f88.body with | some c => c | none => .skip
def f88.an : An := (.sq .leaf (.sq .leaf (.sq .leaf .leaf)))
theorem f88.body_eq : Tryd.f88.body = some f88.code := by kernel_rfl
theorem f88.shape (Z : List PanicEntry → World → Prop) (x0 x1 : Value) (w : World) (Q : Value → World → Prop) : vc drawD Tryd.prog 15 Z [85, 51] f88.an f88.code (fnQ Tryd.prog 15 Tryd.f88.results Q) (argEnv [x0, x1]) w = f88.sh Z x0 x1 w Q := by kernel_rfl
theorem f88.enters : ∀ f, f ∈ ([85, 51] : List Nat) → Enters Tryd.prog f := by
  intro f hf
  simp only [List.mem_cons, List.not_mem_nil, or_false] at hf
  rcases hf with rfl | rfl
  · exact en85
  · exact en51
theorem f88.calls {Z : List PanicEntry → World → Prop} {x0 x1 : Value} {w : World} {Q : Value → World → Prop} (h : f88.sh Z x0 x1 w Q) : CallV Tryd.prog Z 88 #[x0, x1] w Q :=
  calls_of_vcn drawD_sound (Q := Q) (n := 15) (rs := Tryd.f88.results) (an := f88.an) (c := f88.code) (cal := [85, 51]) (args := [x0, x1]) Tryd.func88 (by kernel_rfl) rfl f88.body_eq follows (Nat.le_of_ble_eq_true (by kernel_rfl)) (enters_of_all f88.enters) ((f88.shape Z x0 x1 w Q).mpr h)

/-! ### 89: lagoon/lagoonref01.Bool -/
def f89.sh (Z : List PanicEntry → World → Prop) (x0 : Value) (w : World) (Q : Value → World → Prop) : Prop :=
  CondV x0 (
    run1 Tryd.prog Z (Instr.buildSlice 42 1 #[(0, (Value.int IntKind.u8 1))]) w fun t4_1 w =>
    Q t4_1 w) (
    run1 Tryd.prog Z (Instr.buildSlice 42 1 #[(0, (Value.int IntKind.u8 0))]) w fun t5_2 w =>
    Q t5_2 w)
noncomputable def f89.code : Code := match Tryd.f89.body with | some c => c | none => .skip
def f89.an : An := (.sq .leaf (.sq (.sq .leaf (.cn (.sq .leaf .leaf) .leaf)) (.sq .leaf .leaf)))
theorem f89.body_eq : Tryd.f89.body = some f89.code := by kernel_rfl
theorem f89.shape (Z : List PanicEntry → World → Prop) (x0 : Value) (w : World) (Q : Value → World → Prop) : vc drawD Tryd.prog 6 Z [] f89.an f89.code (fnQ Tryd.prog 6 Tryd.f89.results Q) (argEnv [x0]) w = f89.sh Z x0 w Q := by kernel_rfl
theorem f89.enters : ∀ f, f ∈ ([] : List Nat) → Enters Tryd.prog f := by
  intro f hf
  cases hf
theorem f89.calls {Z : List PanicEntry → World → Prop} {x0 : Value} {w : World} {Q : Value → World → Prop} (h : f89.sh Z x0 w Q) : CallV Tryd.prog Z 89 #[x0] w Q :=
  calls_of_vcn drawD_sound (Q := Q) (n := 6) (rs := Tryd.f89.results) (an := f89.an) (c := f89.code) (cal := []) (args := [x0]) Tryd.func89 (by kernel_rfl) rfl f89.body_eq follows (Nat.le_of_ble_eq_true (by kernel_rfl)) (enters_of_all f89.enters) ((f89.shape Z x0 w Q).mpr h)

/-! ### 90: lagoon/lagoonref00.mark -/
def f90.sh (Z : List PanicEntry → World → Prop) (x0 : Value) (w : World) (Q : Value → World → Prop) : Prop :=
  CallV Tryd.prog Z 96 #[x0] w fun t4_1 w =>
  run1 Tryd.prog Z (binOp BinOp.add 9 (Value.string { data := #[33] }) t4_1) w fun t5_2 w =>
  Q t5_2 w
noncomputable def f90.code : Code := match Tryd.f90.body with | some c => c | none => .skip
def f90.an : An := (.sq .leaf (.sq .leaf .leaf))
theorem f90.body_eq : Tryd.f90.body = some f90.code := by kernel_rfl
theorem f90.shape (Z : List PanicEntry → World → Prop) (x0 : Value) (w : World) (Q : Value → World → Prop) : vc drawD Tryd.prog 6 Z [96] f90.an f90.code (fnQ Tryd.prog 6 Tryd.f90.results Q) (argEnv [x0]) w = f90.sh Z x0 w Q := by kernel_rfl
theorem f90.enters : ∀ f, f ∈ ([96] : List Nat) → Enters Tryd.prog f := by
  intro f hf
  simp only [List.mem_cons, List.not_mem_nil, or_false] at hf
  rcases hf with rfl
  · exact en96
theorem f90.calls {Z : List PanicEntry → World → Prop} {x0 : Value} {w : World} {Q : Value → World → Prop} (h : f90.sh Z x0 w Q) : CallV Tryd.prog Z 90 #[x0] w Q :=
  calls_of_vcn drawD_sound (Q := Q) (n := 6) (rs := Tryd.f90.results) (an := f90.an) (c := f90.code) (cal := [96]) (args := [x0]) Tryd.func90 (by kernel_rfl) rfl f90.body_eq follows (Nat.le_of_ble_eq_true (by kernel_rfl)) (enters_of_all f90.enters) ((f90.shape Z x0 w Q).mpr h)

/-! ### 91: lagoon/txn.known -/
def f91.sh (Z : List PanicEntry → World → Prop) (x0 : Value) (w : World) (Q : Value → World → Prop) : Prop :=
  run1 Tryd.prog Z (binOp BinOp.geq 31 x0 (Value.int IntKind.i8 1)) w fun t4_1 w =>
  guardW (t4_1) true (fun k => k (x0) w) (fun t6_2 w =>
  guardW (t4_1) true (fun k => run1 Tryd.prog Z (binOp BinOp.leq 31 t6_2 (Value.int IntKind.i8 12)) w k) (fun t7_3 w =>
  run1 Tryd.prog Z (pickV t4_1 t7_3 (Value.bool false)) w fun t8_4 w =>
  Q t8_4 w) w) w
noncomputable def f91.code : Code := match Tryd.f91.body with | some c => c | none => .skip
def f91.an : An := (.sq .leaf (.sq .leaf .leaf))
theorem f91.body_eq : Tryd.f91.body = some f91.code := by kernel_rfl
theorem f91.shape (Z : List PanicEntry → World → Prop) (x0 : Value) (w : World) (Q : Value → World → Prop) : vc drawD Tryd.prog 9 Z [] f91.an f91.code (fnQ Tryd.prog 9 Tryd.f91.results Q) (argEnv [x0]) w = f91.sh Z x0 w Q := by kernel_rfl
theorem f91.enters : ∀ f, f ∈ ([] : List Nat) → Enters Tryd.prog f := by
  intro f hf
  cases hf
theorem f91.calls {Z : List PanicEntry → World → Prop} {x0 : Value} {w : World} {Q : Value → World → Prop} (h : f91.sh Z x0 w Q) : CallV Tryd.prog Z 91 #[x0] w Q :=
  calls_of_vcn drawD_sound (Q := Q) (n := 9) (rs := Tryd.f91.results) (an := f91.an) (c := f91.code) (cal := []) (args := [x0]) Tryd.func91 (by kernel_rfl) rfl f91.body_eq follows (Nat.le_of_ble_eq_true (by kernel_rfl)) (enters_of_all f91.enters) ((f91.shape Z x0 w Q).mpr h)

/-! ### 92: lagoon/txn.within -/
def f92.sh (Z : List PanicEntry → World → Prop) (x0 : Value) (w : World) (Q : Value → World → Prop) : Prop :=
  run1 Tryd.prog Z (Instr.box 47 x0) w fun t1_1 w =>
  run1 Tryd.prog Z (Instr.fieldAt 47 t1_1 0) w fun t7_2 w =>
  run1 Tryd.prog Z (Instr.loadAt 31 t7_2) w fun t8_3 w =>
  run1 Tryd.prog Z (Instr.indexAt 131 (Value.pointer (some ⟨0, 0, none⟩)) t8_3) w fun t9_4 w =>
  run1 Tryd.prog Z (Instr.loadAt 108 t9_4) w fun t10_5 w =>
  run1 Tryd.prog Z (Instr.alloc 108 true (.tuple #[])) w fun t3_6 w =>
  run0 Tryd.prog Z (Instr.storeAt 108 t3_6 t10_5) w fun w =>
  run1 Tryd.prog Z (Instr.makeFunc (Fn.func 97) #[] #[t3_6]) w fun t11_7 w =>
  ∀ j_8 : World → Prop, (∀ w : World, (Env →
      run1 Tryd.prog Z (Instr.fieldAt 47 t1_1 3) w fun t146_9 w =>
      run1 Tryd.prog Z (Instr.loadAt 43 t146_9) w fun t147_10 w =>
      run1 Tryd.prog Z (Builtin.len_ #[43] 3 #[t147_10]) w fun t148_11 w =>
      ∃ J_12 : Nat → Value → World → Prop, (∃ m, J_12 m (Value.int IntKind.i64 0) w) ∧
        ∀ m_12, ∀ t149_13 : Value, ∀ w : World, J_12 m_12 t149_13 w → Env →
          run1 Tryd.prog Z (binOp BinOp.lss 3 t149_13 t148_11) w fun t150_14 w =>
          CondV t150_14 (
            run1 Tryd.prog Z (Instr.indexAt 43 t147_10 t149_13) w fun t151_15 w =>
            run1 Tryd.prog Z (Instr.loadAt 116 t151_15) w fun t152_16 w =>
            run1 Tryd.prog Z (Instr.alloc 116 true (.tuple #[])) w fun t6_17 w =>
            run0 Tryd.prog Z (Instr.storeAt 116 t6_17 t152_16) w fun w =>
            run1 Tryd.prog Z (Instr.fieldAt 116 t6_17 1) w fun t153_18 w =>
            run1 Tryd.prog Z (Instr.loadAt 114 t153_18) w fun t154_19 w =>
            CallV Tryd.prog Z 98 #[t154_19] w fun t155_20 w =>
            run1 Tryd.prog Z (Op.unary UnOp.not t155_20) w fun t156_21 w =>
            CondV t156_21 (
              Q (Value.bool false) w) (
              run1 Tryd.prog Z (binOp BinOp.add 3 t149_13 (Value.int IntKind.i64 1)) w fun t157_22 w =>
              ∃ n_12, n_12 < m_12 ∧ J_12 n_12 t157_22 w)) (
            run1 Tryd.prog Z (Instr.fieldAt 47 t1_1 9) w fun t158_23 w =>
            run1 Tryd.prog Z (Instr.loadAt 44 t158_23) w fun t159_24 w =>
            CallV Tryd.prog Z 99 #[t159_24, (Value.func (Fn.func 100) #[] #[])] w fun t160_25 w =>
            run1 Tryd.prog Z (Op.unary UnOp.not t160_25) w fun t161_26 w =>
            Q t161_26 w)) →
      j_8 w) →
  ∀ j_27 : Value → World → Prop, (∀ t12_28 : Value, ∀ w : World, (Env →
      CondV t12_28 (
        Q (Value.bool false) w) (
        ∀ j_29 : Value → World → Prop, (∀ t47_30 : Value, ∀ w : World, (Env →
            CondV t47_30 (
              Q (Value.bool false) w) (
              ∀ j_31 : Value → World → Prop, (∀ t93_32 : Value, ∀ w : World, (Env →
                  CondV t93_32 (
                    Q (Value.bool false) w) (
                    ∀ j_33 : Value → World → Prop, (∀ t114_34 : Value, ∀ w : World, (Env →
                        CondV t114_34 (
                          Q (Value.bool false) w) (
                          j_8 w)) →
                        j_33 t114_34 w) →
                    run1 Tryd.prog Z (Instr.fieldAt 47 t1_1 7) w fun t115_35 w =>
                    run1 Tryd.prog Z (Instr.loadAt 2 t115_35) w fun t116_36 w =>
                    run1 Tryd.prog Z (binOp BinOp.lss 2 t116_36 (Value.int IntKind.i64 0)) w fun t117_37 w =>
                    CondV t117_37 (
                      j_33 t117_37 w) (
                      run1 Tryd.prog Z (Instr.fieldAt 47 t1_1 0) w fun t118_38 w =>
                      run1 Tryd.prog Z (Instr.loadAt 31 t118_38) w fun t119_39 w =>
                      run1 Tryd.prog Z (eqOp BinOp.eql 31 false true t119_39 (Value.int IntKind.i8 8)) w fun t120_40 w =>
                      guardW (t120_40) true (fun k => run1 Tryd.prog Z (Instr.fieldAt 47 t1_1 7) w k) (fun t122_41 w =>
                      guardW (t120_40) true (fun k => run1 Tryd.prog Z (Instr.loadAt 2 t122_41) w k) (fun t123_42 w =>
                      guardW (t120_40) true (fun k => run1 Tryd.prog Z (eqOp BinOp.eql 2 false true t123_42 (Value.int IntKind.i64 0)) w k) (fun t124_43 w =>
                      run1 Tryd.prog Z (pickV t120_40 t124_43 (Value.bool false)) w fun t125_44 w =>
                      CondV t125_44 (
                        j_33 t125_44 w) (
                        runX Tryd.prog Z (callVal t11_7 #[(Value.int IntKind.u64 64)]) w fun t127_45 w =>
                        guardW (t127_45) true (fun k => run1 Tryd.prog Z (Instr.fieldAt 47 t1_1 8) w k) (fun t129_46 w =>
                        guardW (t127_45) true (fun k => run1 Tryd.prog Z (Instr.loadAt 21 t129_46) w k) (fun t130_47 w =>
                        guardW (t127_45) true (fun k => run1 Tryd.prog Z (binOp BinOp.lss 21 t130_47 (Value.int IntKind.i32 1)) w k) (fun t131_48 w =>
                        guardW (t127_45) true (fun k => k (t131_48) w) (fun t132_49 w =>
                        guardW (t132_49) false (fun k => run1 Tryd.prog Z (Instr.fieldAt 47 t1_1 8) w k) (fun t133_50 w =>
                        guardW (t132_49) false (fun k => run1 Tryd.prog Z (Instr.loadAt 21 t133_50) w k) (fun t134_51 w =>
                        guardW (t132_49) false (fun k => run1 Tryd.prog Z (binOp BinOp.gtr 21 t134_51 (Value.int IntKind.i32 1000)) w k) (fun t135_52 w =>
                        guardW (t127_45) true (fun k => run1 Tryd.prog Z (pickV t132_49 (Value.bool true) t135_52) w k) (fun t136_53 w =>
                        run1 Tryd.prog Z (pickV t127_45 t136_53 (Value.bool false)) w fun t137_54 w =>
                        CondV t137_54 (
                          j_33 t137_54 w) (
                          runX Tryd.prog Z (callVal t11_7 #[(Value.int IntKind.u64 256)]) w fun t139_55 w =>
                          guardW (t139_55) true (fun k => run1 Tryd.prog Z (Instr.fieldAt 47 t1_1 10) w k) (fun t141_56 w =>
                          guardW (t139_55) true (fun k => run1 Tryd.prog Z (Instr.loadAt 45 t141_56) w k) (fun t142_57 w =>
                          guardW (t139_55) true (fun k => run1 Tryd.prog Z (Builtin.len_ #[45] 3 #[t142_57]) w k) (fun t143_58 w =>
                          guardW (t139_55) true (fun k => run1 Tryd.prog Z (eqOp BinOp.eql 3 false true t143_58 (Value.int IntKind.i64 0)) w k) (fun t144_59 w =>
                          run1 Tryd.prog Z (pickV t139_55 t144_59 (Value.bool false)) w fun t145_60 w =>
                          j_33 t145_60 w) w) w) w) w)) w) w) w) w) w) w) w) w)) w) w) w))) →
                  j_31 t93_32 w) →
              run1 Tryd.prog Z (Instr.fieldAt 47 t1_1 1) w fun t94_61 w =>
              run1 Tryd.prog Z (Instr.loadAt 9 t94_61) w fun t95_62 w =>
              run1 Tryd.prog Z (Builtin.len_ #[9] 3 #[t95_62]) w fun t96_63 w =>
              run1 Tryd.prog Z (binOp BinOp.gtr 3 t96_63 (Value.int IntKind.i64 64)) w fun t97_64 w =>
              CondV t97_64 (
                j_31 t97_64 w) (
                run1 Tryd.prog Z (Instr.fieldAt 47 t1_1 2) w fun t98_65 w =>
                run1 Tryd.prog Z (Instr.loadAt 42 t98_65) w fun t99_66 w =>
                run1 Tryd.prog Z (Builtin.len_ #[42] 3 #[t99_66]) w fun t100_67 w =>
                run1 Tryd.prog Z (binOp BinOp.gtr 3 t100_67 (Value.int IntKind.i64 96)) w fun t101_68 w =>
                CondV t101_68 (
                  j_31 t101_68 w) (
                  run1 Tryd.prog Z (Instr.fieldAt 47 t1_1 3) w fun t102_69 w =>
                  run1 Tryd.prog Z (Instr.loadAt 43 t102_69) w fun t103_70 w =>
                  run1 Tryd.prog Z (Builtin.len_ #[43] 3 #[t103_70]) w fun t104_71 w =>
                  run1 Tryd.prog Z (binOp BinOp.gtr 3 t104_71 (Value.int IntKind.i64 4)) w fun t105_72 w =>
                  CondV t105_72 (
                    j_31 t105_72 w) (
                    run1 Tryd.prog Z (Instr.fieldAt 47 t1_1 9) w fun t106_73 w =>
                    run1 Tryd.prog Z (Instr.loadAt 44 t106_73) w fun t107_74 w =>
                    run1 Tryd.prog Z (Builtin.len_ #[44] 3 #[t107_74]) w fun t108_75 w =>
                    run1 Tryd.prog Z (binOp BinOp.gtr 3 t108_75 (Value.int IntKind.i64 4)) w fun t109_76 w =>
                    CondV t109_76 (
                      j_31 t109_76 w) (
                      run1 Tryd.prog Z (Instr.fieldAt 47 t1_1 10) w fun t110_77 w =>
                      run1 Tryd.prog Z (Instr.loadAt 45 t110_77) w fun t111_78 w =>
                      run1 Tryd.prog Z (Builtin.len_ #[45] 3 #[t111_78]) w fun t112_79 w =>
                      run1 Tryd.prog Z (binOp BinOp.gtr 3 t112_79 (Value.int IntKind.i64 8)) w fun t113_80 w =>
                      j_31 t113_80 w)))))) →
            j_29 t47_30 w) →
        runX Tryd.prog Z (callVal t11_7 #[(Value.int IntKind.u64 16)]) w fun t49_81 w =>
        run1 Tryd.prog Z (Op.unary UnOp.not t49_81) w fun t50_82 w =>
        guardW (t50_82) true (fun k => run1 Tryd.prog Z (Instr.fieldAt 47 t1_1 5) w k) (fun t52_83 w =>
        guardW (t50_82) true (fun k => run1 Tryd.prog Z (Instr.loadAt 4 t52_83) w k) (fun t53_84 w =>
        guardW (t50_82) true (fun k => k (t53_84) w) (fun t54_85 w =>
        guardW (t54_85) false (fun k => run1 Tryd.prog Z (Instr.fieldAt 47 t1_1 6) w k) (fun t55_86 w =>
        guardW (t54_85) false (fun k => run1 Tryd.prog Z (Instr.loadAt 4 t55_86) w k) (fun t56_87 w =>
        guardW (t50_82) true (fun k => run1 Tryd.prog Z (pickV t54_85 (Value.bool true) t56_87) w k) (fun t57_88 w =>
        run1 Tryd.prog Z (pickV t50_82 t57_88 (Value.bool false)) w fun t58_89 w =>
        CondV t58_89 (
          j_29 t58_89 w) (
          runX Tryd.prog Z (callVal t11_7 #[(Value.int IntKind.u64 32)]) w fun t60_90 w =>
          run1 Tryd.prog Z (Op.unary UnOp.not t60_90) w fun t61_91 w =>
          guardW (t61_91) true (fun k => run1 Tryd.prog Z (Instr.fieldAt 47 t1_1 7) w k) (fun t63_92 w =>
          guardW (t61_91) true (fun k => run1 Tryd.prog Z (Instr.loadAt 2 t63_92) w k) (fun t64_93 w =>
          guardW (t61_91) true (fun k => run1 Tryd.prog Z (eqOp BinOp.neq 2 false true t64_93 (Value.int IntKind.i64 0)) w k) (fun t65_94 w =>
          run1 Tryd.prog Z (pickV t61_91 t65_94 (Value.bool false)) w fun t66_95 w =>
          CondV t66_95 (
            j_29 t66_95 w) (
            runX Tryd.prog Z (callVal t11_7 #[(Value.int IntKind.u64 64)]) w fun t68_96 w =>
            run1 Tryd.prog Z (Op.unary UnOp.not t68_96) w fun t69_97 w =>
            guardW (t69_97) true (fun k => run1 Tryd.prog Z (Instr.fieldAt 47 t1_1 8) w k) (fun t71_98 w =>
            guardW (t69_97) true (fun k => run1 Tryd.prog Z (Instr.loadAt 21 t71_98) w k) (fun t72_99 w =>
            guardW (t69_97) true (fun k => run1 Tryd.prog Z (eqOp BinOp.neq 21 false true t72_99 (Value.int IntKind.i32 0)) w k) (fun t73_100 w =>
            run1 Tryd.prog Z (pickV t69_97 t73_100 (Value.bool false)) w fun t74_101 w =>
            CondV t74_101 (
              j_29 t74_101 w) (
              runX Tryd.prog Z (callVal t11_7 #[(Value.int IntKind.u64 128)]) w fun t76_102 w =>
              run1 Tryd.prog Z (Op.unary UnOp.not t76_102) w fun t77_103 w =>
              guardW (t77_103) true (fun k => run1 Tryd.prog Z (Instr.fieldAt 47 t1_1 9) w k) (fun t79_104 w =>
              guardW (t77_103) true (fun k => run1 Tryd.prog Z (Instr.loadAt 44 t79_104) w k) (fun t80_105 w =>
              guardW (t77_103) true (fun k => run1 Tryd.prog Z (Builtin.len_ #[44] 3 #[t80_105]) w k) (fun t81_106 w =>
              guardW (t77_103) true (fun k => run1 Tryd.prog Z (binOp BinOp.gtr 3 t81_106 (Value.int IntKind.i64 0)) w k) (fun t82_107 w =>
              run1 Tryd.prog Z (pickV t77_103 t82_107 (Value.bool false)) w fun t83_108 w =>
              CondV t83_108 (
                j_29 t83_108 w) (
                runX Tryd.prog Z (callVal t11_7 #[(Value.int IntKind.u64 256)]) w fun t85_109 w =>
                run1 Tryd.prog Z (Op.unary UnOp.not t85_109) w fun t86_110 w =>
                guardW (t86_110) true (fun k => run1 Tryd.prog Z (Instr.fieldAt 47 t1_1 10) w k) (fun t88_111 w =>
                guardW (t86_110) true (fun k => run1 Tryd.prog Z (Instr.loadAt 45 t88_111) w k) (fun t89_112 w =>
                guardW (t86_110) true (fun k => run1 Tryd.prog Z (Builtin.len_ #[45] 3 #[t89_112]) w k) (fun t90_113 w =>
                guardW (t86_110) true (fun k => run1 Tryd.prog Z (binOp BinOp.gtr 3 t90_113 (Value.int IntKind.i64 0)) w k) (fun t91_114 w =>
                run1 Tryd.prog Z (pickV t86_110 t91_114 (Value.bool false)) w fun t92_115 w =>
                j_29 t92_115 w) w) w) w) w)) w) w) w) w)) w) w) w)) w) w) w)) w) w) w) w) w) w)) →
      j_27 t12_28 w) →
  runX Tryd.prog Z (callVal t11_7 #[(Value.int IntKind.u64 1)]) w fun t14_116 w =>
  run1 Tryd.prog Z (Op.unary UnOp.not t14_116) w fun t15_117 w =>
  guardW (t15_117) true (fun k => run1 Tryd.prog Z (Instr.fieldAt 47 t1_1 1) w k) (fun t17_118 w =>
  guardW (t15_117) true (fun k => run1 Tryd.prog Z (Instr.loadAt 9 t17_118) w k) (fun t18_119 w =>
  guardW (t15_117) true (fun k => run1 Tryd.prog Z (eqOp BinOp.neq 9 false true t18_119 (Value.string { data := #[] })) w k) (fun t19_120 w =>
  run1 Tryd.prog Z (pickV t15_117 t19_120 (Value.bool false)) w fun t20_121 w =>
  CondV t20_121 (
    j_27 t20_121 w) (
    runX Tryd.prog Z (callVal t11_7 #[(Value.int IntKind.u64 2)]) w fun t22_122 w =>
    run1 Tryd.prog Z (Op.unary UnOp.not t22_122) w fun t23_123 w =>
    guardW (t23_123) true (fun k => run1 Tryd.prog Z (Instr.fieldAt 47 t1_1 2) w k) (fun t25_124 w =>
    guardW (t23_123) true (fun k => run1 Tryd.prog Z (Instr.loadAt 42 t25_124) w k) (fun t26_125 w =>
    guardW (t23_123) true (fun k => run1 Tryd.prog Z (Builtin.len_ #[42] 3 #[t26_125]) w k) (fun t27_126 w =>
    guardW (t23_123) true (fun k => run1 Tryd.prog Z (binOp BinOp.gtr 3 t27_126 (Value.int IntKind.i64 0)) w k) (fun t28_127 w =>
    run1 Tryd.prog Z (pickV t23_123 t28_127 (Value.bool false)) w fun t29_128 w =>
    CondV t29_128 (
      j_27 t29_128 w) (
      runX Tryd.prog Z (callVal t11_7 #[(Value.int IntKind.u64 4)]) w fun t31_129 w =>
      run1 Tryd.prog Z (Op.unary UnOp.not t31_129) w fun t32_130 w =>
      guardW (t32_130) true (fun k => run1 Tryd.prog Z (Instr.fieldAt 47 t1_1 3) w k) (fun t34_131 w =>
      guardW (t32_130) true (fun k => run1 Tryd.prog Z (Instr.loadAt 43 t34_131) w k) (fun t35_132 w =>
      guardW (t32_130) true (fun k => run1 Tryd.prog Z (Builtin.len_ #[43] 3 #[t35_132]) w k) (fun t36_133 w =>
      guardW (t32_130) true (fun k => run1 Tryd.prog Z (binOp BinOp.gtr 3 t36_133 (Value.int IntKind.i64 0)) w k) (fun t37_134 w =>
      run1 Tryd.prog Z (pickV t32_130 t37_134 (Value.bool false)) w fun t38_135 w =>
      CondV t38_135 (
        j_27 t38_135 w) (
        runX Tryd.prog Z (callVal t11_7 #[(Value.int IntKind.u64 8)]) w fun t40_136 w =>
        run1 Tryd.prog Z (Op.unary UnOp.not t40_136) w fun t41_137 w =>
        guardW (t41_137) true (fun k => run1 Tryd.prog Z (Instr.fieldAt 47 t1_1 4) w k) (fun t43_138 w =>
        guardW (t41_137) true (fun k => run1 Tryd.prog Z (Instr.loadAt 21 t43_138) w k) (fun t44_139 w =>
        guardW (t41_137) true (fun k => run1 Tryd.prog Z (eqOp BinOp.neq 21 false true t44_139 (Value.int IntKind.i32 0)) w k) (fun t45_140 w =>
        run1 Tryd.prog Z (pickV t41_137 t45_140 (Value.bool false)) w fun t46_141 w =>
        j_27 t46_141 w) w) w) w)) w) w) w) w)) w) w) w) w)) w) w) w
noncomputable def f92.code : Code := match Tryd.f92.body with | some c => c | none => .skip
def f92.an : An := (.sq .leaf (.sq .leaf (.sq .leaf (.sj [] [2, 12, 13, 14, 15, 16, 17, 18, 19, 20, 21, 22, 23, 24, 25, 26, 27, 28, 29, 30, 31, 32, 33, 34, 35, 36, 37, 38, 39, 40, 41, 42, 43, 44, 45, 46, 47, 48, 49, 50, 51, 52, 53, 54, 55, 56, 57, 58, 59, 60, 61, 62, 63, 64, 65, 66, 67, 68, 69, 70, 71, 72, 73, 74, 75, 76, 77, 78, 79, 80, 81, 82, 83, 84, 85, 86, 87, 88, 89, 90, 91, 92, 93, 94, 95, 96, 97, 98, 99, 100, 101, 102, 103, 104, 105, 106, 107, 108, 109, 110, 111, 112, 113, 114, 115, 116, 117, 118, 119, 120, 121, 122, 123, 124, 125, 126, 127, 128, 129, 130, 131, 132, 133, 134, 135, 136, 137, 138, 139, 140, 141, 142, 143, 144, 145] (.bl (.sj [12] [12, 13, 14, 15, 16, 17, 18, 19, 20, 21, 22, 23, 24, 25, 26, 27, 28, 29, 30, 31, 32, 33, 34, 35, 36, 37, 38, 39, 40, 41, 42, 43, 44, 45, 46] (.sq .leaf (.cn .leaf (.sq .leaf (.cn .leaf (.sq .leaf (.cn .leaf .leaf)))))) (.cn (.sq .leaf .leaf) (.sj [47] [47, 48, 49, 50, 51, 52, 53, 54, 55, 56, 57, 58, 59, 60, 61, 62, 63, 64, 65, 66, 67, 68, 69, 70, 71, 72, 73, 74, 75, 76, 77, 78, 79, 80, 81, 82, 83, 84, 85, 86, 87, 88, 89, 90, 91, 92] (.sq .leaf (.cn .leaf (.sq .leaf (.cn .leaf (.sq .leaf (.cn .leaf (.sq .leaf (.cn .leaf .leaf)))))))) (.cn (.sq .leaf .leaf) (.sj [93] [93, 94, 95, 96, 97, 98, 99, 100, 101, 102, 103, 104, 105, 106, 107, 108, 109, 110, 111, 112, 113] (.sq .leaf (.cn .leaf (.sq .leaf (.cn .leaf (.sq .leaf (.cn .leaf (.sq .leaf (.cn .leaf .leaf)))))))) (.cn (.sq .leaf .leaf) (.sj [114] [114, 115, 116, 117, 118, 119, 120, 121, 122, 123, 124, 125, 126, 127, 128, 129, 130, 131, 132, 133, 134, 135, 136, 137, 138, 139, 140, 141, 142, 143, 144, 145] (.sq .leaf (.cn .leaf (.sq .leaf (.cn .leaf (.sq .leaf (.cn .leaf .leaf)))))) (.cn (.sq .leaf .leaf) .leaf))))))))) (.sq (.sq .leaf (.bl (.lp [149] [2, 6, 149, 150, 151, 152, 153, 154, 155, 156, 157] (.sq .leaf (.sq (.cn .leaf .leaf) (.sq (.bl (.sq .leaf (.sq .leaf (.cn (.sq .leaf .leaf) .leaf)))) .leaf)))))) (.sq .leaf .leaf))))))
theorem f92.body_eq : Tryd.f92.body = some f92.code := by kernel_rfl
theorem f92.shape (Z : List PanicEntry → World → Prop) (x0 : Value) (w : World) (Q : Value → World → Prop) : vc drawD Tryd.prog 162 Z [98, 99] f92.an f92.code (fnQ Tryd.prog 162 Tryd.f92.results Q) (argEnv [x0]) w = f92.sh Z x0 w Q := by kernel_rfl
theorem f92.enters : ∀ f, f ∈ ([98, 99] : List Nat) → Enters Tryd.prog f := by
  intro f hf
  simp only [List.mem_cons, List.not_mem_nil, or_false] at hf
  rcases hf with rfl | rfl
  · exact en98
  · exact en99
theorem f92.calls {Z : List PanicEntry → World → Prop} {x0 : Value} {w : World} {Q : Value → World → Prop} (h : f92.sh Z x0 w Q) : CallV Tryd.prog Z 92 #[x0] w Q :=
  calls_of_vcn drawD_sound (Q := Q) (n := 162) (rs := Tryd.f92.results) (an := f92.an) (c := f92.code) (cal := [98, 99]) (args := [x0]) Tryd.func92 (by kernel_rfl) rfl f92.body_eq follows (Nat.le_of_ble_eq_true (by kernel_rfl)) (enters_of_all f92.enters) ((f92.shape Z x0 w Q).mpr h)

/-! ### 93: lagoon/txn.isOp -/
def f93.sh (Z : List PanicEntry → World → Prop) (x0 : Value) (w : World) (Q : Value → World → Prop) : Prop :=
  run1 Tryd.prog Z (Instr.box 47 x0) w fun t1_1 w =>
  run1 Tryd.prog Z (Instr.fieldAt 47 t1_1 0) w fun t3_2 w =>
  run1 Tryd.prog Z (Instr.loadAt 31 t3_2) w fun t4_3 w =>
  run1 Tryd.prog Z (binOp BinOp.geq 31 t4_3 (Value.int IntKind.i8 1)) w fun t5_4 w =>
  guardW (t5_4) true (fun k => run1 Tryd.prog Z (Instr.fieldAt 47 t1_1 0) w k) (fun t7_5 w =>
  guardW (t5_4) true (fun k => run1 Tryd.prog Z (Instr.loadAt 31 t7_5) w k) (fun t8_6 w =>
  guardW (t5_4) true (fun k => run1 Tryd.prog Z (binOp BinOp.leq 31 t8_6 (Value.int IntKind.i8 5)) w k) (fun t9_7 w =>
  run1 Tryd.prog Z (pickV t5_4 t9_7 (Value.bool false)) w fun t10_8 w =>
  guardW (t10_8) true (fun k => run1 Tryd.prog Z (Instr.fieldAt 47 t1_1 7) w k) (fun t12_9 w =>
  guardW (t10_8) true (fun k => run1 Tryd.prog Z (Instr.loadAt 2 t12_9) w k) (fun t13_10 w =>
  guardW (t10_8) true (fun k => run1 Tryd.prog Z (eqOp BinOp.eql 2 false true t13_10 (Value.int IntKind.i64 0)) w k) (fun t14_11 w =>
  run1 Tryd.prog Z (pickV t10_8 t14_11 (Value.bool false)) w fun t15_12 w =>
  guardW (t15_12) true (fun k => run1 Tryd.prog Z (Instr.fieldAt 47 t1_1 9) w k) (fun t17_13 w =>
  guardW (t15_12) true (fun k => run1 Tryd.prog Z (Instr.loadAt 44 t17_13) w k) (fun t18_14 w =>
  guardW (t15_12) true (fun k => run1 Tryd.prog Z (Builtin.len_ #[44] 3 #[t18_14]) w k) (fun t19_15 w =>
  guardW (t15_12) true (fun k => run1 Tryd.prog Z (eqOp BinOp.eql 3 false true t19_15 (Value.int IntKind.i64 0)) w k) (fun t20_16 w =>
  run1 Tryd.prog Z (pickV t15_12 t20_16 (Value.bool false)) w fun t21_17 w =>
  guardW (t21_17) true (fun k => run1 Tryd.prog Z (Instr.loadAt 47 t1_1) w k) (fun t23_18 w =>
  guardW (t21_17) true (fun k => CallV Tryd.prog Z 92 #[t23_18] w k) (fun t24_19 w =>
  run1 Tryd.prog Z (pickV t21_17 t24_19 (Value.bool false)) w fun t25_20 w =>
  Q t25_20 w) w) w) w) w) w) w) w) w) w) w) w) w
noncomputable def f93.code : Code := match Tryd.f93.body with | some c => c | none => .skip
def f93.an : An := (.sq .leaf (.sq .leaf .leaf))
theorem f93.body_eq : Tryd.f93.body = some f93.code := by kernel_rfl
theorem f93.shape (Z : List PanicEntry → World → Prop) (x0 : Value) (w : World) (Q : Value → World → Prop) : vc drawD Tryd.prog 26 Z [92] f93.an f93.code (fnQ Tryd.prog 26 Tryd.f93.results Q) (argEnv [x0]) w = f93.sh Z x0 w Q := by kernel_rfl
theorem f93.enters : ∀ f, f ∈ ([92] : List Nat) → Enters Tryd.prog f := by
  intro f hf
  simp only [List.mem_cons, List.not_mem_nil, or_false] at hf
  rcases hf with rfl
  · exact en92
theorem f93.calls {Z : List PanicEntry → World → Prop} {x0 : Value} {w : World} {Q : Value → World → Prop} (h : f93.sh Z x0 w Q) : CallV Tryd.prog Z 93 #[x0] w Q :=
  calls_of_vcn drawD_sound (Q := Q) (n := 26) (rs := Tryd.f93.results) (an := f93.an) (c := f93.code) (cal := [92]) (args := [x0]) Tryd.func93 (by kernel_rfl) rfl f93.body_eq follows (Nat.le_of_ble_eq_true (by kernel_rfl)) (enters_of_all f93.enters) ((f93.shape Z x0 w Q).mpr h)

/-! ### 94: (*lagoon/pack.Writer).Raw -/
def f94.sh (Z : List PanicEntry → World → Prop) (x0 x1 : Value) (w : World) (Q : Value → World → Prop) : Prop :=
  run1 Tryd.prog Z (eqOp BinOp.neq 77 false true x0 (Value.pointer none)) w fun t5_1 w =>
  CondV t5_1 (
    runX Tryd.prog Z (nilChk x0) w fun t8_2 w =>
    run1 Tryd.prog Z (Instr.fieldAt 79 t8_2 0) w fun t9_3 w =>
    run1 Tryd.prog Z (Instr.loadAt 42 t9_3) w fun t10_4 w =>
    run1 Tryd.prog Z (Builtin.append_ #[42, 42] 42 #[t10_4, x1]) w fun t12_5 w =>
    runX Tryd.prog Z (nilChk x0) w fun t13_6 w =>
    run1 Tryd.prog Z (Instr.fieldAt 79 t13_6 0) w fun t14_7 w =>
    run0 Tryd.prog Z (Instr.storeAt 42 t14_7 t12_5) w fun w =>
    Q (Value.tuple #[]) w) (
    Q (Value.tuple #[]) w)
noncomputable def f94.code : Code := match Tryd.f94.body with | some c => c | none => .skip
def f94.an : An := (.sq .leaf (.cn .leaf .leaf))
theorem f94.body_eq : Tryd.f94.body = some f94.code := by kernel_rfl
theorem f94.shape (Z : List PanicEntry → World → Prop) (x0 x1 : Value) (w : World) (Q : Value → World → Prop) : vc drawD Tryd.prog 15 Z [] f94.an f94.code (fnQ Tryd.prog 15 Tryd.f94.results Q) (argEnv [x0, x1]) w = f94.sh Z x0 x1 w Q := by kernel_rfl
theorem f94.enters : ∀ f, f ∈ ([] : List Nat) → Enters Tryd.prog f := by
  intro f hf
  cases hf
theorem f94.calls {Z : List PanicEntry → World → Prop} {x0 x1 : Value} {w : World} {Q : Value → World → Prop} (h : f94.sh Z x0 x1 w Q) : CallV Tryd.prog Z 94 #[x0, x1] w Q :=
  calls_of_vcn drawD_sound (Q := Q) (n := 15) (rs := Tryd.f94.results) (an := f94.an) (c := f94.code) (cal := []) (args := [x0, x1]) Tryd.func94 (by kernel_rfl) rfl f94.body_eq follows (Nat.le_of_ble_eq_true (by kernel_rfl)) (enters_of_all f94.enters) ((f94.shape Z x0 x1 w Q).mpr h)

/-! ### 95: lagoon/lagoonref04.may -/
def f95.sh (Z : List PanicEntry → World → Prop) (x0 : Value) (w : World) (Q : Value → World → Prop) : Prop :=
  run1 Tryd.prog Z (Instr.box 47 x0) w fun t1_1 w =>
  run1 Tryd.prog Z (Instr.fieldAt 47 t1_1 0) w fun t4_2 w =>
  run1 Tryd.prog Z (Instr.loadAt 31 t4_2) w fun t5_3 w =>
  CallV Tryd.prog Z 84 #[t5_3] w fun t6_4 w =>
  run1 Tryd.prog Z (eqOp BinOp.eql 9 false true t6_4 (Value.string { data := #[] })) w fun t8_5 w =>
  CondV t8_5 (
    Q (Value.bool false) w) (
    run1 Tryd.prog Z (Instr.fieldAt 47 t1_1 1) w fun t9_6 w =>
    run1 Tryd.prog Z (Instr.loadAt 9 t9_6) w fun t10_7 w =>
    run1 Tryd.prog Z (eqOp BinOp.neq 9 false true t10_7 (Value.string { data := #[] })) w fun t11_8 w =>
    guardW (t11_8) true (fun k => k (t6_4) w) (fun t13_9 w =>
    guardW (t11_8) true (fun k => CallV Tryd.prog Z 101 #[t13_9, (Value.int IntKind.u8 112)] w k) (fun t14_10 w =>
    guardW (t11_8) true (fun k => run1 Tryd.prog Z (Op.unary UnOp.not t14_10) w k) (fun t15_11 w =>
    run1 Tryd.prog Z (pickV t11_8 t15_11 (Value.bool false)) w fun t16_12 w =>
    guardW (t16_12) false (fun k => run1 Tryd.prog Z (Instr.fieldAt 47 t1_1 1) w k) (fun t18_13 w =>
    guardW (t16_12) false (fun k => run1 Tryd.prog Z (Instr.loadAt 9 t18_13) w k) (fun t19_14 w =>
    guardW (t16_12) false (fun k => run1 Tryd.prog Z (Builtin.len_ #[9] 3 #[t19_14]) w k) (fun t20_15 w =>
    guardW (t16_12) false (fun k => run1 Tryd.prog Z (binOp BinOp.gtr 3 t20_15 (Value.int IntKind.i64 64)) w k) (fun t21_16 w =>
    run1 Tryd.prog Z (pickV t16_12 (Value.bool true) t21_16) w fun t22_17 w =>
    CondV t22_17 (
      Q (Value.bool false) w) (
      run1 Tryd.prog Z (Instr.fieldAt 47 t1_1 2) w fun t23_18 w =>
      run1 Tryd.prog Z (Instr.loadAt 42 t23_18) w fun t24_19 w =>
      run1 Tryd.prog Z (Builtin.len_ #[42] 3 #[t24_19]) w fun t25_20 w =>
      run1 Tryd.prog Z (eqOp BinOp.neq 3 false true t25_20 (Value.int IntKind.i64 0)) w fun t26_21 w =>
      guardW (t26_21) true (fun k => k (t6_4) w) (fun t28_22 w =>
      guardW (t26_21) true (fun k => CallV Tryd.prog Z 101 #[t28_22, (Value.int IntKind.u8 100)] w k) (fun t29_23 w =>
      guardW (t26_21) true (fun k => run1 Tryd.prog Z (Op.unary UnOp.not t29_23) w k) (fun t30_24 w =>
      run1 Tryd.prog Z (pickV t26_21 t30_24 (Value.bool false)) w fun t31_25 w =>
      guardW (t31_25) false (fun k => run1 Tryd.prog Z (Instr.fieldAt 47 t1_1 2) w k) (fun t33_26 w =>
      guardW (t31_25) false (fun k => run1 Tryd.prog Z (Instr.loadAt 42 t33_26) w k) (fun t34_27 w =>
      guardW (t31_25) false (fun k => run1 Tryd.prog Z (Builtin.len_ #[42] 3 #[t34_27]) w k) (fun t35_28 w =>
      guardW (t31_25) false (fun k => run1 Tryd.prog Z (binOp BinOp.gtr 3 t35_28 (Value.int IntKind.i64 96)) w k) (fun t36_29 w =>
      run1 Tryd.prog Z (pickV t31_25 (Value.bool true) t36_29) w fun t37_30 w =>
      CondV t37_30 (
        Q (Value.bool false) w) (
        run1 Tryd.prog Z (Instr.fieldAt 47 t1_1 3) w fun t38_31 w =>
        run1 Tryd.prog Z (Instr.loadAt 43 t38_31) w fun t39_32 w =>
        run1 Tryd.prog Z (Builtin.len_ #[43] 3 #[t39_32]) w fun t40_33 w =>
        run1 Tryd.prog Z (eqOp BinOp.neq 3 false true t40_33 (Value.int IntKind.i64 0)) w fun t41_34 w =>
        guardW (t41_34) true (fun k => k (t6_4) w) (fun t43_35 w =>
        guardW (t41_34) true (fun k => CallV Tryd.prog Z 101 #[t43_35, (Value.int IntKind.u8 97)] w k) (fun t44_36 w =>
        guardW (t41_34) true (fun k => run1 Tryd.prog Z (Op.unary UnOp.not t44_36) w k) (fun t45_37 w =>
        run1 Tryd.prog Z (pickV t41_34 t45_37 (Value.bool false)) w fun t46_38 w =>
        guardW (t46_38) false (fun k => run1 Tryd.prog Z (Instr.fieldAt 47 t1_1 3) w k) (fun t48_39 w =>
        guardW (t46_38) false (fun k => run1 Tryd.prog Z (Instr.loadAt 43 t48_39) w k) (fun t49_40 w =>
        guardW (t46_38) false (fun k => CallV Tryd.prog Z 102 #[t49_40] w k) (fun t50_41 w =>
        guardW (t46_38) false (fun k => run1 Tryd.prog Z (Op.unary UnOp.not t50_41) w k) (fun t51_42 w =>
        run1 Tryd.prog Z (pickV t46_38 (Value.bool true) t51_42) w fun t52_43 w =>
        CondV t52_43 (
          Q (Value.bool false) w) (
          run1 Tryd.prog Z (Instr.fieldAt 47 t1_1 4) w fun t53_44 w =>
          run1 Tryd.prog Z (Instr.loadAt 21 t53_44) w fun t54_45 w =>
          run1 Tryd.prog Z (eqOp BinOp.neq 21 false true t54_45 (Value.int IntKind.i32 0)) w fun t55_46 w =>
          guardW (t55_46) true (fun k => k (t6_4) w) (fun t57_47 w =>
          guardW (t55_46) true (fun k => CallV Tryd.prog Z 101 #[t57_47, (Value.int IntKind.u8 118)] w k) (fun t58_48 w =>
          guardW (t55_46) true (fun k => run1 Tryd.prog Z (Op.unary UnOp.not t58_48) w k) (fun t59_49 w =>
          run1 Tryd.prog Z (pickV t55_46 t59_49 (Value.bool false)) w fun t60_50 w =>
          CondV t60_50 (
            Q (Value.bool false) w) (
            run1 Tryd.prog Z (Instr.fieldAt 47 t1_1 5) w fun t61_51 w =>
            run1 Tryd.prog Z (Instr.loadAt 4 t61_51) w fun t62_52 w =>
            guardW (t62_52) false (fun k => run1 Tryd.prog Z (Instr.fieldAt 47 t1_1 6) w k) (fun t64_53 w =>
            guardW (t62_52) false (fun k => run1 Tryd.prog Z (Instr.loadAt 4 t64_53) w k) (fun t65_54 w =>
            run1 Tryd.prog Z (pickV t62_52 (Value.bool true) t65_54) w fun t66_55 w =>
            guardW (t66_55) true (fun k => k (t6_4) w) (fun t68_56 w =>
            guardW (t66_55) true (fun k => CallV Tryd.prog Z 101 #[t68_56, (Value.int IntKind.u8 102)] w k) (fun t69_57 w =>
            guardW (t66_55) true (fun k => run1 Tryd.prog Z (Op.unary UnOp.not t69_57) w k) (fun t70_58 w =>
            run1 Tryd.prog Z (pickV t66_55 t70_58 (Value.bool false)) w fun t71_59 w =>
            CondV t71_59 (
              Q (Value.bool false) w) (
              run1 Tryd.prog Z (Instr.fieldAt 47 t1_1 7) w fun t72_60 w =>
              run1 Tryd.prog Z (Instr.loadAt 2 t72_60) w fun t73_61 w =>
              run1 Tryd.prog Z (eqOp BinOp.neq 2 false true t73_61 (Value.int IntKind.i64 0)) w fun t74_62 w =>
              guardW (t74_62) true (fun k => k (t6_4) w) (fun t76_63 w =>
              guardW (t74_62) true (fun k => CallV Tryd.prog Z 101 #[t76_63, (Value.int IntKind.u8 115)] w k) (fun t77_64 w =>
              guardW (t74_62) true (fun k => run1 Tryd.prog Z (Op.unary UnOp.not t77_64) w k) (fun t78_65 w =>
              run1 Tryd.prog Z (pickV t74_62 t78_65 (Value.bool false)) w fun t79_66 w =>
              guardW (t79_66) false (fun k => run1 Tryd.prog Z (Instr.fieldAt 47 t1_1 7) w k) (fun t81_67 w =>
              guardW (t79_66) false (fun k => run1 Tryd.prog Z (Instr.loadAt 2 t81_67) w k) (fun t82_68 w =>
              guardW (t79_66) false (fun k => run1 Tryd.prog Z (binOp BinOp.lss 2 t82_68 (Value.int IntKind.i64 0)) w k) (fun t83_69 w =>
              run1 Tryd.prog Z (pickV t79_66 (Value.bool true) t83_69) w fun t84_70 w =>
              guardW (t84_70) false (fun k => run1 Tryd.prog Z (Instr.fieldAt 47 t1_1 0) w k) (fun t86_71 w =>
              guardW (t84_70) false (fun k => run1 Tryd.prog Z (Instr.loadAt 31 t86_71) w k) (fun t87_72 w =>
              guardW (t84_70) false (fun k => run1 Tryd.prog Z (eqOp BinOp.eql 31 false true t87_72 (Value.int IntKind.i8 8)) w k) (fun t88_73 w =>
              guardW (t84_70) false (fun k => k (t88_73) w) (fun t89_74 w =>
              guardW (t89_74) true (fun k => run1 Tryd.prog Z (Instr.fieldAt 47 t1_1 7) w k) (fun t90_75 w =>
              guardW (t89_74) true (fun k => run1 Tryd.prog Z (Instr.loadAt 2 t90_75) w k) (fun t91_76 w =>
              guardW (t89_74) true (fun k => run1 Tryd.prog Z (binOp BinOp.lss 2 t91_76 (Value.int IntKind.i64 1)) w k) (fun t92_77 w =>
              guardW (t84_70) false (fun k => run1 Tryd.prog Z (pickV t89_74 t92_77 (Value.bool false)) w k) (fun t93_78 w =>
              run1 Tryd.prog Z (pickV t84_70 (Value.bool true) t93_78) w fun t94_79 w =>
              CondV t94_79 (
                Q (Value.bool false) w) (
                CallV Tryd.prog Z 101 #[t6_4, (Value.int IntKind.u8 116)] w fun t96_80 w =>
                guardW (t96_80) true (fun k => run1 Tryd.prog Z (Instr.fieldAt 47 t1_1 8) w k) (fun t98_81 w =>
                guardW (t96_80) true (fun k => run1 Tryd.prog Z (Instr.loadAt 21 t98_81) w k) (fun t99_82 w =>
                guardW (t96_80) true (fun k => run1 Tryd.prog Z (binOp BinOp.lss 21 t99_82 (Value.int IntKind.i32 1)) w k) (fun t100_83 w =>
                guardW (t96_80) true (fun k => k (t100_83) w) (fun t101_84 w =>
                guardW (t101_84) false (fun k => run1 Tryd.prog Z (Instr.fieldAt 47 t1_1 8) w k) (fun t102_85 w =>
                guardW (t101_84) false (fun k => run1 Tryd.prog Z (Instr.loadAt 21 t102_85) w k) (fun t103_86 w =>
                guardW (t101_84) false (fun k => run1 Tryd.prog Z (binOp BinOp.gtr 21 t103_86 (Value.int IntKind.i32 1000)) w k) (fun t104_87 w =>
                guardW (t96_80) true (fun k => run1 Tryd.prog Z (pickV t101_84 (Value.bool true) t104_87) w k) (fun t105_88 w =>
                run1 Tryd.prog Z (pickV t96_80 t105_88 (Value.bool false)) w fun t106_89 w =>
                guardW (t106_89) false (fun k => k (t6_4) w) (fun t108_90 w =>
                guardW (t106_89) false (fun k => CallV Tryd.prog Z 101 #[t108_90, (Value.int IntKind.u8 116)] w k) (fun t109_91 w =>
                guardW (t106_89) false (fun k => run1 Tryd.prog Z (Op.unary UnOp.not t109_91) w k) (fun t110_92 w =>
                guardW (t106_89) false (fun k => k (t110_92) w) (fun t111_93 w =>
                guardW (t111_93) true (fun k => run1 Tryd.prog Z (Instr.fieldAt 47 t1_1 8) w k) (fun t112_94 w =>
                guardW (t111_93) true (fun k => run1 Tryd.prog Z (Instr.loadAt 21 t112_94) w k) (fun t113_95 w =>
                guardW (t111_93) true (fun k => run1 Tryd.prog Z (eqOp BinOp.neq 21 false true t113_95 (Value.int IntKind.i32 0)) w k) (fun t114_96 w =>
                guardW (t106_89) false (fun k => run1 Tryd.prog Z (pickV t111_93 t114_96 (Value.bool false)) w k) (fun t115_97 w =>
                run1 Tryd.prog Z (pickV t106_89 (Value.bool true) t115_97) w fun t116_98 w =>
                CondV t116_98 (
                  Q (Value.bool false) w) (
                  run1 Tryd.prog Z (Instr.fieldAt 47 t1_1 9) w fun t117_99 w =>
                  run1 Tryd.prog Z (Instr.loadAt 44 t117_99) w fun t118_100 w =>
                  run1 Tryd.prog Z (Builtin.len_ #[44] 3 #[t118_100]) w fun t119_101 w =>
                  run1 Tryd.prog Z (eqOp BinOp.neq 3 false true t119_101 (Value.int IntKind.i64 0)) w fun t120_102 w =>
                  guardW (t120_102) true (fun k => k (t6_4) w) (fun t122_103 w =>
                  guardW (t120_102) true (fun k => CallV Tryd.prog Z 101 #[t122_103, (Value.int IntKind.u8 119)] w k) (fun t123_104 w =>
                  guardW (t120_102) true (fun k => run1 Tryd.prog Z (Op.unary UnOp.not t123_104) w k) (fun t124_105 w =>
                  run1 Tryd.prog Z (pickV t120_102 t124_105 (Value.bool false)) w fun t125_106 w =>
                  guardW (t125_106) false (fun k => run1 Tryd.prog Z (Instr.fieldAt 47 t1_1 9) w k) (fun t127_107 w =>
                  guardW (t125_106) false (fun k => run1 Tryd.prog Z (Instr.loadAt 44 t127_107) w k) (fun t128_108 w =>
                  guardW (t125_106) false (fun k => CallV Tryd.prog Z 103 #[t128_108] w k) (fun t129_109 w =>
                  guardW (t125_106) false (fun k => run1 Tryd.prog Z (Op.unary UnOp.not t129_109) w k) (fun t130_110 w =>
                  run1 Tryd.prog Z (pickV t125_106 (Value.bool true) t130_110) w fun t131_111 w =>
                  CondV t131_111 (
                    Q (Value.bool false) w) (
                    CallV Tryd.prog Z 101 #[t6_4, (Value.int IntKind.u8 111)] w fun t133_112 w =>
                    CondV t133_112 (
                      run1 Tryd.prog Z (Instr.fieldAt 47 t1_1 10) w fun t134_113 w =>
                      run1 Tryd.prog Z (Instr.loadAt 45 t134_113) w fun t135_114 w =>
                      run1 Tryd.prog Z (Builtin.len_ #[45] 3 #[t135_114]) w fun t136_115 w =>
                      run1 Tryd.prog Z (binOp BinOp.geq 3 t136_115 (Value.int IntKind.i64 1)) w fun t137_116 w =>
                      guardW (t137_116) true (fun k => run1 Tryd.prog Z (Instr.fieldAt 47 t1_1 10) w k) (fun t139_117 w =>
                      guardW (t137_116) true (fun k => run1 Tryd.prog Z (Instr.loadAt 45 t139_117) w k) (fun t140_118 w =>
                      guardW (t137_116) true (fun k => run1 Tryd.prog Z (Builtin.len_ #[45] 3 #[t140_118]) w k) (fun t141_119 w =>
                      guardW (t137_116) true (fun k => run1 Tryd.prog Z (binOp BinOp.leq 3 t141_119 (Value.int IntKind.i64 8)) w k) (fun t142_120 w =>
                      run1 Tryd.prog Z (pickV t137_116 t142_120 (Value.bool false)) w fun t143_121 w =>
                      Q t143_121 w) w) w) w) w) (
                      run1 Tryd.prog Z (Instr.fieldAt 47 t1_1 10) w fun t144_122 w =>
                      run1 Tryd.prog Z (Instr.loadAt 45 t144_122) w fun t145_123 w =>
                      run1 Tryd.prog Z (Builtin.len_ #[45] 3 #[t145_123]) w fun t146_124 w =>
                      run1 Tryd.prog Z (eqOp BinOp.eql 3 false true t146_124 (Value.int IntKind.i64 0)) w fun t147_125 w =>
                      Q t147_125 w))) w) w) w) w) w) w) w)) w) w) w) w) w) w) w) w) w) w) w) w) w) w) w) w)) w) w) w) w) w) w) w) w) w) w) w) w) w) w)) w) w) w) w) w)) w) w) w)) w) w) w) w) w) w) w)) w) w) w) w) w) w) w)) w) w) w) w) w) w) w)
noncomputable def f95.code : Code := match Tryd.f95.body with | some c => c | none => .skip
def f95.an : An := (.sq .leaf (.sq .leaf (.sq (.sq .leaf (.cn (.sq .leaf .leaf) .leaf)) (.sq (.sq .leaf (.cn (.sq .leaf .leaf) .leaf)) (.sq (.sq .leaf (.cn (.sq .leaf .leaf) .leaf)) (.sq (.sq .leaf (.cn (.sq .leaf .leaf) .leaf)) (.sq (.sq .leaf (.cn (.sq .leaf .leaf) .leaf)) (.sq (.sq .leaf (.cn (.sq .leaf .leaf) .leaf)) (.sq (.sq .leaf (.cn (.sq .leaf .leaf) .leaf)) (.sq (.sq .leaf (.cn (.sq .leaf .leaf) .leaf)) (.sq (.sq .leaf (.cn (.sq .leaf .leaf) .leaf)) (.sq (.sq .leaf (.cn (.sq .leaf .leaf) .leaf)) (.sq .leaf .leaf)))))))))))))
theorem f95.body_eq : Tryd.f95.body = some f95.code := by kernel_rfl
theorem f95.shape (Z : List PanicEntry → World → Prop) (x0 : Value) (w : World) (Q : Value → World → Prop) : vc drawD Tryd.prog 148 Z [84, 101, 102, 103] f95.an f95.code (fnQ Tryd.prog 148 Tryd.f95.results Q) (argEnv [x0]) w = f95.sh Z x0 w Q := by kernel_rfl
theorem f95.enters : ∀ f, f ∈ ([84, 101, 102, 103] : List Nat) → Enters Tryd.prog f := by
  intro f hf
  simp only [List.mem_cons, List.not_mem_nil, or_false] at hf
  rcases hf with rfl | rfl | rfl | rfl
  · exact en84
  · exact en101
  · exact en102
  · exact en103
theorem f95.calls {Z : List PanicEntry → World → Prop} {x0 : Value} {w : World} {Q : Value → World → Prop} (h : f95.sh Z x0 w Q) : CallV Tryd.prog Z 95 #[x0] w Q :=
  calls_of_vcn drawD_sound (Q := Q) (n := 148) (rs := Tryd.f95.results) (an := f95.an) (c := f95.code) (cal := [84, 101, 102, 103]) (args := [x0]) Tryd.func95 (by kernel_rfl) rfl f95.body_eq follows (Nat.le_of_ble_eq_true (by kernel_rfl)) (enters_of_all f95.enters) ((f95.shape Z x0 w Q).mpr h)

/-! ### 96: strconv.Itoa -/
def f96.sh (Z : List PanicEntry → World → Prop) (x0 : Value) (w : World) (Q : Value → World → Prop) : Prop :=
  CallV Tryd.prog Z 104 #[x0] w fun t4_1 w =>
  Q t4_1 w
noncomputable def f96.code : Code := match Tryd.f96.body with | some c => c | none => .skip
def f96.an : An := (.sq .leaf (.sq .leaf .leaf))
theorem f96.body_eq : Tryd.f96.body = some f96.code := by kernel_rfl
theorem f96.shape (Z : List PanicEntry → World → Prop) (x0 : Value) (w : World) (Q : Value → World → Prop) : vc drawD Tryd.prog 5 Z [104] f96.an f96.code (fnQ Tryd.prog 5 Tryd.f96.results Q) (argEnv [x0]) w = f96.sh Z x0 w Q := by kernel_rfl
theorem f96.enters : ∀ f, f ∈ ([104] : List Nat) → Enters Tryd.prog f := by
  intro f hf
  simp only [List.mem_cons, List.not_mem_nil, or_false] at hf
  rcases hf with rfl
  · exact en104
theorem f96.calls {Z : List PanicEntry → World → Prop} {x0 : Value} {w : World} {Q : Value → World → Prop} (h : f96.sh Z x0 w Q) : CallV Tryd.prog Z 96 #[x0] w Q :=
  calls_of_vcn drawD_sound (Q := Q) (n := 5) (rs := Tryd.f96.results) (an := f96.an) (c := f96.code) (cal := [104]) (args := [x0]) Tryd.func96 (by kernel_rfl) rfl f96.body_eq follows (Nat.le_of_ble_eq_true (by kernel_rfl)) (enters_of_all f96.enters) ((f96.shape Z x0 w Q).mpr h)

/-! ### 97: lagoon/txn.within$1 -/
def f97.sh (Z : List PanicEntry → World → Prop) (x0 x1 : Value) (w : World) (Q : Value → World → Prop) : Prop :=
  run1 Tryd.prog Z (Instr.loadAt 108 x1) w fun t4_1 w =>
  run1 Tryd.prog Z (binOp BinOp.and 108 t4_1 x0) w fun t6_2 w =>
  run1 Tryd.prog Z (eqOp BinOp.neq 108 false true t6_2 (Value.int IntKind.u64 0)) w fun t7_3 w =>
  Q t7_3 w
noncomputable def f97.code : Code := match Tryd.f97.body with | some c => c | none => .skip
def f97.an : An := (.sq .leaf (.sq .leaf .leaf))
theorem f97.body_eq : Tryd.f97.body = some f97.code := by kernel_rfl
theorem f97.shape (Z : List PanicEntry → World → Prop) (x0 x1 : Value) (w : World) (Q : Value → World → Prop) : vc drawD Tryd.prog 8 Z [] f97.an f97.code (fnQ Tryd.prog 8 Tryd.f97.results Q) (argEnv [x0, x1]) w = f97.sh Z x0 x1 w Q := by kernel_rfl
theorem f97.enters : ∀ f, f ∈ ([] : List Nat) → Enters Tryd.prog f := by
  intro f hf
  cases hf
theorem f97.calls {Z : List PanicEntry → World → Prop} {x0 x1 : Value} {w : World} {Q : Value → World → Prop} (h : f97.sh Z x0 x1 w Q) : CallV Tryd.prog Z 97 #[x0, x1] w Q :=
  calls_of_vcn drawD_sound (Q := Q) (n := 8) (rs := Tryd.f97.results) (an := f97.an) (c := f97.code) (cal := []) (args := [x0, x1]) Tryd.func97 (by kernel_rfl) rfl f97.body_eq follows (Nat.le_of_ble_eq_true (by kernel_rfl)) (enters_of_all f97.enters) ((f97.shape Z x0 x1 w Q).mpr h)

/-! ### 98: lagoon/txn.idMay -/
def f98.sh (Z : List PanicEntry → World → Prop) (x0 : Value) (w : World) (Q : Value → World → Prop) : Prop :=
  run1 Tryd.prog Z (Instr.box 114 x0) w fun t1_1 w =>
  run1 Tryd.prog Z (Instr.fieldAt 114 t1_1 0) w fun t3_2 w =>
  run1 Tryd.prog Z (Instr.loadAt 9 t3_2) w fun t4_3 w =>
  run1 Tryd.prog Z (Builtin.len_ #[9] 3 #[t4_3]) w fun t5_4 w =>
  run1 Tryd.prog Z (binOp BinOp.leq 3 t5_4 (Value.int IntKind.i64 24)) w fun t6_5 w =>
  guardW (t6_5) true (fun k => run1 Tryd.prog Z (Instr.fieldAt 114 t1_1 1) w k) (fun t8_6 w =>
  guardW (t6_5) true (fun k => run1 Tryd.prog Z (Instr.loadAt 9 t8_6) w k) (fun t9_7 w =>
  guardW (t6_5) true (fun k => run1 Tryd.prog Z (Builtin.len_ #[9] 3 #[t9_7]) w k) (fun t10_8 w =>
  guardW (t6_5) true (fun k => run1 Tryd.prog Z (binOp BinOp.leq 3 t10_8 (Value.int IntKind.i64 24)) w k) (fun t11_9 w =>
  run1 Tryd.prog Z (pickV t6_5 t11_9 (Value.bool false)) w fun t12_10 w =>
  Q t12_10 w) w) w) w) w
noncomputable def f98.code : Code := match Tryd.f98.body with | some c => c | none => .skip
def f98.an : An := (.sq .leaf (.sq .leaf .leaf))
theorem f98.body_eq : Tryd.f98.body = some f98.code := by kernel_rfl
theorem f98.shape (Z : List PanicEntry → World → Prop) (x0 : Value) (w : World) (Q : Value → World → Prop) : vc drawD Tryd.prog 13 Z [] f98.an f98.code (fnQ Tryd.prog 13 Tryd.f98.results Q) (argEnv [x0]) w = f98.sh Z x0 w Q := by kernel_rfl
theorem f98.enters : ∀ f, f ∈ ([] : List Nat) → Enters Tryd.prog f := by
  intro f hf
  cases hf
theorem f98.calls {Z : List PanicEntry → World → Prop} {x0 : Value} {w : World} {Q : Value → World → Prop} (h : f98.sh Z x0 w Q) : CallV Tryd.prog Z 98 #[x0] w Q :=
  calls_of_vcn drawD_sound (Q := Q) (n := 13) (rs := Tryd.f98.results) (an := f98.an) (c := f98.code) (cal := []) (args := [x0]) Tryd.func98 (by kernel_rfl) rfl f98.body_eq follows (Nat.le_of_ble_eq_true (by kernel_rfl)) (enters_of_all f98.enters) ((f98.shape Z x0 w Q).mpr h)

/-! ### 99: slices.ContainsFunc[[]lagoon/api.Id,lagoon/api.Id] -/
def f99.sh (Z : List PanicEntry → World → Prop) (x0 x1 : Value) (w : World) (Q : Value → World → Prop) : Prop :=
  CallV Tryd.prog Z 105 #[x0, x1] w fun t7_1 w =>
  run1 Tryd.prog Z (binOp BinOp.geq 3 t7_1 (Value.int IntKind.i64 0)) w fun t8_2 w =>
  Q t8_2 w
noncomputable def f99.code : Code := match Tryd.f99.body with | some c => c | none => .skip
def f99.an : An := (.sq .leaf (.sq .leaf .leaf))
theorem f99.body_eq : Tryd.f99.body = some f99.code := by kernel_rfl
theorem f99.shape (Z : List PanicEntry → World → Prop) (x0 x1 : Value) (w : World) (Q : Value → World → Prop) : vc drawD Tryd.prog 9 Z [105] f99.an f99.code (fnQ Tryd.prog 9 Tryd.f99.results Q) (argEnv [x0, x1]) w = f99.sh Z x0 x1 w Q := by kernel_rfl
theorem f99.enters : ∀ f, f ∈ ([105] : List Nat) → Enters Tryd.prog f := by
  intro f hf
  simp only [List.mem_cons, List.not_mem_nil, or_false] at hf
  rcases hf with rfl
  · exact en105
theorem f99.calls {Z : List PanicEntry → World → Prop} {x0 x1 : Value} {w : World} {Q : Value → World → Prop} (h : f99.sh Z x0 x1 w Q) : CallV Tryd.prog Z 99 #[x0, x1] w Q :=
  calls_of_vcn drawD_sound (Q := Q) (n := 9) (rs := Tryd.f99.results) (an := f99.an) (c := f99.code) (cal := [105]) (args := [x0, x1]) Tryd.func99 (by kernel_rfl) rfl f99.body_eq follows (Nat.le_of_ble_eq_true (by kernel_rfl)) (enters_of_all f99.enters) ((f99.shape Z x0 x1 w Q).mpr h)

/-! ### 100: lagoon/txn.within$2 -/
def f100.sh (Z : List PanicEntry → World → Prop) (x0 : Value) (w : World) (Q : Value → World → Prop) : Prop :=
  run1 Tryd.prog Z (Instr.box 114 x0) w fun t1_1 w =>
  run1 Tryd.prog Z (Instr.loadAt 114 t1_1) w fun t3_2 w =>
  CallV Tryd.prog Z 98 #[t3_2] w fun t4_3 w =>
  run1 Tryd.prog Z (Op.unary UnOp.not t4_3) w fun t5_4 w =>
  Q t5_4 w
noncomputable def f100.code : Code := match Tryd.f100.body with | some c => c | none => .skip
def f100.an : An := (.sq .leaf (.sq .leaf .leaf))
theorem f100.body_eq : Tryd.f100.body = some f100.code := by kernel_rfl
theorem f100.shape (Z : List PanicEntry → World → Prop) (x0 : Value) (w : World) (Q : Value → World → Prop) : vc drawD Tryd.prog 6 Z [98] f100.an f100.code (fnQ Tryd.prog 6 Tryd.f100.results Q) (argEnv [x0]) w = f100.sh Z x0 w Q := by kernel_rfl
theorem f100.enters : ∀ f, f ∈ ([98] : List Nat) → Enters Tryd.prog f := by
  intro f hf
  simp only [List.mem_cons, List.not_mem_nil, or_false] at hf
  rcases hf with rfl
  · exact en98
theorem f100.calls {Z : List PanicEntry → World → Prop} {x0 : Value} {w : World} {Q : Value → World → Prop} (h : f100.sh Z x0 w Q) : CallV Tryd.prog Z 100 #[x0] w Q :=
  calls_of_vcn drawD_sound (Q := Q) (n := 6) (rs := Tryd.f100.results) (an := f100.an) (c := f100.code) (cal := [98]) (args := [x0]) Tryd.func100 (by kernel_rfl) rfl f100.body_eq follows (Nat.le_of_ble_eq_true (by kernel_rfl)) (enters_of_all f100.enters) ((f100.shape Z x0 w Q).mpr h)

/-! ### 101: lagoon/lagoonref04.has -/
def f101.sh (Z : List PanicEntry → World → Prop) (x0 x1 : Value) (w : World) (Q : Value → World → Prop) : Prop :=
  ∃ J_1 : Nat → Value → World → Prop, (∃ m, J_1 m (Value.int IntKind.i64 0) w) ∧
    ∀ m_1, ∀ t5_2 : Value, ∀ w : World, J_1 m_1 t5_2 w → Env →
      run1 Tryd.prog Z (Builtin.len_ #[9] 3 #[x0]) w fun t8_3 w =>
      run1 Tryd.prog Z (binOp BinOp.lss 3 t5_2 t8_3) w fun t9_4 w =>
      CondV t9_4 (
        run1 Tryd.prog Z (Instr.index 9 x0 t5_2) w fun t14_5 w =>
        run1 Tryd.prog Z (eqOp BinOp.eql 5 false false t14_5 x1) w fun t16_6 w =>
        CondV t16_6 (
          Q (Value.bool true) w) (
          run1 Tryd.prog Z (binOp BinOp.add 3 t5_2 (Value.int IntKind.i64 1)) w fun t11_7 w =>
          ∃ n_1, n_1 < m_1 ∧ J_1 n_1 t11_7 w)) (
        Q (Value.bool false) w)
noncomputable def f101.code : Code := match Tryd.f101.body with | some c => c | none => .skip
def f101.an : An := (.sq .leaf (.sq (.sq .leaf (.bl (.lp [5] [4, 5, 6, 7, 8, 9, 10, 11, 12, 13, 14, 15, 16] (.sq (.sq .leaf (.cn .leaf .leaf)) (.sq (.bl (.sq .leaf (.cn (.sq .leaf .leaf) .leaf))) .leaf))))) (.sq .leaf .leaf)))
theorem f101.body_eq : Tryd.f101.body = some f101.code := by kernel_rfl
theorem f101.shape (Z : List PanicEntry → World → Prop) (x0 x1 : Value) (w : World) (Q : Value → World → Prop) : vc drawD Tryd.prog 17 Z [] f101.an f101.code (fnQ Tryd.prog 17 Tryd.f101.results Q) (argEnv [x0, x1]) w = f101.sh Z x0 x1 w Q := by kernel_rfl
theorem f101.enters : ∀ f, f ∈ ([] : List Nat) → Enters Tryd.prog f := by
  intro f hf
  cases hf
theorem f101.calls {Z : List PanicEntry → World → Prop} {x0 x1 : Value} {w : World} {Q : Value → World → Prop} (h : f101.sh Z x0 x1 w Q) : CallV Tryd.prog Z 101 #[x0, x1] w Q :=
  calls_of_vcn drawD_sound (Q := Q) (n := 17) (rs := Tryd.f101.results) (an := f101.an) (c := f101.code) (cal := []) (args := [x0, x1]) Tryd.func101 (by kernel_rfl) rfl f101.body_eq follows (Nat.le_of_ble_eq_true (by kernel_rfl)) (enters_of_all f101.enters) ((f101.shape Z x0 x1 w Q).mpr h)

/-! ### 102: lagoon/lagoonref04.acl -/
def f102.sh (Z : List PanicEntry → World → Prop) (x0 : Value) (w : World) (Q : Value → World → Prop) : Prop :=
  ∃ J_1 : Nat → Value → World → Prop, (∃ m, J_1 m (Value.int IntKind.i64 0) w) ∧
    ∀ m_1, ∀ t3_2 : Value, ∀ w : World, J_1 m_1 t3_2 w → Env →
      run1 Tryd.prog Z (Builtin.len_ #[43] 3 #[x0]) w fun t6_3 w =>
      run1 Tryd.prog Z (binOp BinOp.lss 3 t3_2 t6_3) w fun t7_4 w =>
      CondV t7_4 (
        run1 Tryd.prog Z (Instr.indexAt 43 x0 t3_2) w fun t12_5 w =>
        run1 Tryd.prog Z (Instr.fieldAt 116 t12_5 1) w fun t13_6 w =>
        run1 Tryd.prog Z (Instr.fieldAt 114 t13_6 0) w fun t14_7 w =>
        run1 Tryd.prog Z (Instr.loadAt 9 t14_7) w fun t15_8 w =>
        run1 Tryd.prog Z (Builtin.len_ #[9] 3 #[t15_8]) w fun t16_9 w =>
        run1 Tryd.prog Z (binOp BinOp.gtr 3 t16_9 (Value.int IntKind.i64 24)) w fun t17_10 w =>
        guardW (t17_10) false (fun k => k (x0) w) (fun t19_11 w =>
        guardW (t17_10) false (fun k => k (t3_2) w) (fun t20_12 w =>
        guardW (t17_10) false (fun k => run1 Tryd.prog Z (Instr.indexAt 43 t19_11 t20_12) w k) (fun t21_13 w =>
        guardW (t17_10) false (fun k => run1 Tryd.prog Z (Instr.fieldAt 116 t21_13 1) w k) (fun t22_14 w =>
        guardW (t17_10) false (fun k => run1 Tryd.prog Z (Instr.fieldAt 114 t22_14 1) w k) (fun t23_15 w =>
        guardW (t17_10) false (fun k => run1 Tryd.prog Z (Instr.loadAt 9 t23_15) w k) (fun t24_16 w =>
        guardW (t17_10) false (fun k => run1 Tryd.prog Z (Builtin.len_ #[9] 3 #[t24_16]) w k) (fun t25_17 w =>
        guardW (t17_10) false (fun k => run1 Tryd.prog Z (binOp BinOp.gtr 3 t25_17 (Value.int IntKind.i64 24)) w k) (fun t26_18 w =>
        run1 Tryd.prog Z (pickV t17_10 (Value.bool true) t26_18) w fun t27_19 w =>
        CondV t27_19 (
          Q (Value.bool false) w) (
          run1 Tryd.prog Z (binOp BinOp.add 3 t3_2 (Value.int IntKind.i64 1)) w fun t9_20 w =>
          ∃ n_1, n_1 < m_1 ∧ J_1 n_1 t9_20 w)) w) w) w) w) w) w) w) w) (
        run1 Tryd.prog Z (Builtin.len_ #[43] 3 #[x0]) w fun t29_21 w =>
        run1 Tryd.prog Z (binOp BinOp.leq 3 t29_21 (Value.int IntKind.i64 4)) w fun t30_22 w =>
        Q t30_22 w)
noncomputable def f102.code : Code := match Tryd.f102.body with | some c => c | none => .skip
def f102.an : An := (.sq .leaf (.sq (.sq .leaf (.bl (.lp [3] [2, 3, 4, 5, 6, 7, 8, 9, 10, 11, 12, 13, 14, 15, 16, 17, 18, 19, 20, 21, 22, 23, 24, 25, 26, 27] (.sq (.sq .leaf (.cn .leaf .leaf)) (.sq (.bl (.sq .leaf (.cn (.sq .leaf .leaf) .leaf))) .leaf))))) (.sq .leaf .leaf)))
theorem f102.body_eq : Tryd.f102.body = some f102.code := by kernel_rfl
theorem f102.shape (Z : List PanicEntry → World → Prop) (x0 : Value) (w : World) (Q : Value → World → Prop) : vc drawD Tryd.prog 31 Z [] f102.an f102.code (fnQ Tryd.prog 31 Tryd.f102.results Q) (argEnv [x0]) w = f102.sh Z x0 w Q := by kernel_rfl
theorem f102.enters : ∀ f, f ∈ ([] : List Nat) → Enters Tryd.prog f := by
  intro f hf
  cases hf
theorem f102.calls {Z : List PanicEntry → World → Prop} {x0 : Value} {w : World} {Q : Value → World → Prop} (h : f102.sh Z x0 w Q) : CallV Tryd.prog Z 102 #[x0] w Q :=
  calls_of_vcn drawD_sound (Q := Q) (n := 31) (rs := Tryd.f102.results) (an := f102.an) (c := f102.code) (cal := []) (args := [x0]) Tryd.func102 (by kernel_rfl) rfl f102.body_eq follows (Nat.le_of_ble_eq_true (by kernel_rfl)) (enters_of_all f102.enters) ((f102.shape Z x0 w Q).mpr h)

/-! ### 103: lagoon/lagoonref04.ids -/
def f103.sh (Z : List PanicEntry → World → Prop) (x0 : Value) (w : World) (Q : Value → World → Prop) : Prop :=
  ∃ J_1 : Nat → Value → World → Prop, (∃ m, J_1 m (Value.int IntKind.i64 0) w) ∧
    ∀ m_1, ∀ t3_2 : Value, ∀ w : World, J_1 m_1 t3_2 w → Env →
      run1 Tryd.prog Z (Builtin.len_ #[44] 3 #[x0]) w fun t6_3 w =>
      run1 Tryd.prog Z (binOp BinOp.lss 3 t3_2 t6_3) w fun t7_4 w =>
      CondV t7_4 (
        run1 Tryd.prog Z (Instr.indexAt 44 x0 t3_2) w fun t12_5 w =>
        run1 Tryd.prog Z (Instr.fieldAt 114 t12_5 0) w fun t13_6 w =>
        run1 Tryd.prog Z (Instr.loadAt 9 t13_6) w fun t14_7 w =>
        run1 Tryd.prog Z (Builtin.len_ #[9] 3 #[t14_7]) w fun t15_8 w =>
        run1 Tryd.prog Z (binOp BinOp.gtr 3 t15_8 (Value.int IntKind.i64 24)) w fun t16_9 w =>
        guardW (t16_9) false (fun k => k (x0) w) (fun t18_10 w =>
        guardW (t16_9) false (fun k => k (t3_2) w) (fun t19_11 w =>
        guardW (t16_9) false (fun k => run1 Tryd.prog Z (Instr.indexAt 44 t18_10 t19_11) w k) (fun t20_12 w =>
        guardW (t16_9) false (fun k => run1 Tryd.prog Z (Instr.fieldAt 114 t20_12 1) w k) (fun t21_13 w =>
        guardW (t16_9) false (fun k => run1 Tryd.prog Z (Instr.loadAt 9 t21_13) w k) (fun t22_14 w =>
        guardW (t16_9) false (fun k => run1 Tryd.prog Z (Builtin.len_ #[9] 3 #[t22_14]) w k) (fun t23_15 w =>
        guardW (t16_9) false (fun k => run1 Tryd.prog Z (binOp BinOp.gtr 3 t23_15 (Value.int IntKind.i64 24)) w k) (fun t24_16 w =>
        run1 Tryd.prog Z (pickV t16_9 (Value.bool true) t24_16) w fun t25_17 w =>
        CondV t25_17 (
          Q (Value.bool false) w) (
          run1 Tryd.prog Z (binOp BinOp.add 3 t3_2 (Value.int IntKind.i64 1)) w fun t9_18 w =>
          ∃ n_1, n_1 < m_1 ∧ J_1 n_1 t9_18 w)) w) w) w) w) w) w) w) (
        run1 Tryd.prog Z (Builtin.len_ #[44] 3 #[x0]) w fun t27_19 w =>
        run1 Tryd.prog Z (binOp BinOp.leq 3 t27_19 (Value.int IntKind.i64 4)) w fun t28_20 w =>
        Q t28_20 w)
noncomputable def f103.code : Code := match Tryd.f103.body with | some c => c | none => .skip
def f103.an : An := (.sq .leaf (.sq (.sq .leaf (.bl (.lp [3] [2, 3, 4, 5, 6, 7, 8, 9, 10, 11, 12, 13, 14, 15, 16, 17, 18, 19, 20, 21, 22, 23, 24, 25] (.sq (.sq .leaf (.cn .leaf .leaf)) (.sq (.bl (.sq .leaf (.cn (.sq .leaf .leaf) .leaf))) .leaf))))) (.sq .leaf .leaf)))
theorem f103.body_eq : Tryd.f103.body = some f103.code := by kernel_rfl
theorem f103.shape (Z : List PanicEntry → World → Prop) (x0 : Value) (w : World) (Q : Value → World → Prop) : vc drawD Tryd.prog 29 Z [] f103.an f103.code (fnQ Tryd.prog 29 Tryd.f103.results Q) (argEnv [x0]) w = f103.sh Z x0 w Q := by kernel_rfl
theorem f103.enters : ∀ f, f ∈ ([] : List Nat) → Enters Tryd.prog f := by
  intro f hf
  cases hf
theorem f103.calls {Z : List PanicEntry → World → Prop} {x0 : Value} {w : World} {Q : Value → World → Prop} (h : f103.sh Z x0 w Q) : CallV Tryd.prog Z 103 #[x0] w Q :=
  calls_of_vcn drawD_sound (Q := Q) (n := 29) (rs := Tryd.f103.results) (an := f103.an) (c := f103.code) (cal := []) (args := [x0]) Tryd.func103 (by kernel_rfl) rfl f103.body_eq follows (Nat.le_of_ble_eq_true (by kernel_rfl)) (enters_of_all f103.enters) ((f103.shape Z x0 w Q).mpr h)

/-! ### 104: internal/strconv.Itoa -/
def f104.sh (Z : List PanicEntry → World → Prop) (x0 : Value) (w : World) (Q : Value → World → Prop) : Prop :=
  CallV Tryd.prog Z 106 #[x0, (Value.int IntKind.i64 10)] w fun t4_1 w =>
  Q t4_1 w
noncomputable def f104.code : Code := match Tryd.f104.body with | some c => c | none => .skip
def f104.an : An := (.sq .leaf (.sq .leaf .leaf))
theorem f104.body_eq : Tryd.f104.body = some f104.code := by kernel_rfl
theorem f104.shape (Z : List PanicEntry → World → Prop) (x0 : Value) (w : World) (Q : Value → World → Prop) : vc drawD Tryd.prog 5 Z [106] f104.an f104.code (fnQ Tryd.prog 5 Tryd.f104.results Q) (argEnv [x0]) w = f104.sh Z x0 w Q := by kernel_rfl
theorem f104.enters : ∀ f, f ∈ ([106] : List Nat) → Enters Tryd.prog f := by
  intro f hf
  simp only [List.mem_cons, List.not_mem_nil, or_false] at hf
  rcases hf with rfl
  · exact en106
theorem f104.calls {Z : List PanicEntry → World → Prop} {x0 : Value} {w : World} {Q : Value → World → Prop} (h : f104.sh Z x0 w Q) : CallV Tryd.prog Z 104 #[x0] w Q :=
  calls_of_vcn drawD_sound (Q := Q) (n := 5) (rs := Tryd.f104.results) (an := f104.an) (c := f104.code) (cal := [106]) (args := [x0]) Tryd.func104 (by kernel_rfl) rfl f104.body_eq follows (Nat.le_of_ble_eq_true (by kernel_rfl)) (enters_of_all f104.enters) ((f104.shape Z x0 w Q).mpr h)

/-! ### 105: slices.IndexFunc[[]lagoon/api.Id,lagoon/api.Id] -/
def f105.sh (Z : List PanicEntry → World → Prop) (x0 x1 : Value) (w : World) (Q : Value → World → Prop) : Prop :=
  run1 Tryd.prog Z (Builtin.len_ #[44] 3 #[x0]) w fun t7_1 w =>
  ∃ J_2 : Nat → Value → World → Prop, (∃ m, J_2 m (Value.int IntKind.i64 0) w) ∧
    ∀ m_2, ∀ t8_3 : Value, ∀ w : World, J_2 m_2 t8_3 w → Env →
      run1 Tryd.prog Z (binOp BinOp.lss 3 t8_3 t7_1) w fun t9_4 w =>
      CondV t9_4 (
        run1 Tryd.prog Z (Instr.indexAt 44 x0 t8_3) w fun t14_5 w =>
        run1 Tryd.prog Z (Instr.loadAt 114 t14_5) w fun t15_6 w =>
        runX Tryd.prog Z (callVal x1 #[t15_6]) w fun t16_7 w =>
        CondV t16_7 (
          Q t8_3 w) (
          run1 Tryd.prog Z (binOp BinOp.add 3 t8_3 (Value.int IntKind.i64 1)) w fun t18_8 w =>
          ∃ n_2, n_2 < m_2 ∧ J_2 n_2 t18_8 w)) (
        Q (Value.int IntKind.i64 (-1)) w)
noncomputable def f105.code : Code := match Tryd.f105.body with | some c => c | none => .skip
def f105.an : An := (.sq .leaf (.sq (.sq .leaf (.bl (.lp [8] [4, 5, 8, 9, 10, 11, 12, 13, 14, 15, 16, 17, 18] (.sq .leaf (.sq (.cn .leaf .leaf) (.sq (.bl (.sq .leaf (.sq .leaf (.cn (.sq .leaf .leaf) .leaf)))) .leaf)))))) (.sq .leaf .leaf)))
theorem f105.body_eq : Tryd.f105.body = some f105.code := by kernel_rfl
theorem f105.shape (Z : List PanicEntry → World → Prop) (x0 x1 : Value) (w : World) (Q : Value → World → Prop) : vc drawD Tryd.prog 19 Z [] f105.an f105.code (fnQ Tryd.prog 19 Tryd.f105.results Q) (argEnv [x0, x1]) w = f105.sh Z x0 x1 w Q := by kernel_rfl
theorem f105.enters : ∀ f, f ∈ ([] : List Nat) → Enters Tryd.prog f := by
  intro f hf
  cases hf
theorem f105.calls {Z : List PanicEntry → World → Prop} {x0 x1 : Value} {w : World} {Q : Value → World → Prop} (h : f105.sh Z x0 x1 w Q) : CallV Tryd.prog Z 105 #[x0, x1] w Q :=
  calls_of_vcn drawD_sound (Q := Q) (n := 19) (rs := Tryd.f105.results) (an := f105.an) (c := f105.code) (cal := []) (args := [x0, x1]) Tryd.func105 (by kernel_rfl) rfl f105.body_eq follows (Nat.le_of_ble_eq_true (by kernel_rfl)) (enters_of_all f105.enters) ((f105.shape Z x0 x1 w Q).mpr h)

/-! ### 106: internal/strconv.FormatInt -/
def f106.sh (Z : List PanicEntry → World → Prop) (x0 x1 : Value) (w : World) (Q : Value → World → Prop) : Prop :=
  run1 Tryd.prog Z (eqOp BinOp.eql 3 false true x1 (Value.int IntKind.i64 10)) w fun t11_1 w =>
  CondV t11_1 (
    run1 Tryd.prog Z (binOp BinOp.leq 2 (Value.int IntKind.i64 0) x0) w fun t13_2 w =>
    guardW (t13_2) true (fun k => k (x0) w) (fun t15_3 w =>
    guardW (t13_2) true (fun k => run1 Tryd.prog Z (binOp BinOp.lss 2 t15_3 (Value.int IntKind.i64 100)) w k) (fun t16_4 w =>
    run1 Tryd.prog Z (pickV t13_2 t16_4 (Value.bool false)) w fun t17_5 w =>
    CondV t17_5 (
      CallV Tryd.prog Z 107 #[x0] w fun t19_6 w =>
      Q t19_6 w) (
      run1 Tryd.prog Z (Instr.alloc 138 true (.tuple #[])) w fun t5_7 w =>
      run1 Tryd.prog Z (convert 2 107 x0) w fun t21_8 w =>
      ∀ j_9 : Value → World → Prop, (∀ t6_10 : Value, ∀ w : World, (Env →
          CallV Tryd.prog Z 108 #[t6_10] w fun t27_11 w =>
          run1 Tryd.prog Z (binOp BinOp.add 3 (Value.int IntKind.i64 1) t27_11) w fun t29_12 w =>
          run1 Tryd.prog Z (Instr.sliceAt 138 t5_7 (some (Value.int IntKind.i64 1)) (some t29_12) none) w fun t30_13 w =>
          CallV Tryd.prog Z 109 #[t30_13, t6_10] w fun t32_14 w =>
          run1 Tryd.prog Z (binOp BinOp.lss 2 x0 (Value.int IntKind.i64 0)) w fun t34_15 w =>
          CondV t34_15 (
            run1 Tryd.prog Z (Instr.indexAt 138 t5_7 (Value.int IntKind.i64 0)) w fun t35_16 w =>
            run0 Tryd.prog Z (Instr.storeAt 5 t35_16 (Value.int IntKind.u8 45)) w fun w =>
            run1 Tryd.prog Z (binOp BinOp.add 3 (Value.int IntKind.i64 1) t27_11) w fun t37_17 w =>
            run1 Tryd.prog Z (Instr.sliceAt 138 t5_7 none (some t37_17) none) w fun t38_18 w =>
            run1 Tryd.prog Z (convert 42 9 t38_18) w fun t39_19 w =>
            Q t39_19 w) (
            run1 Tryd.prog Z (binOp BinOp.add 3 (Value.int IntKind.i64 1) t27_11) w fun t41_20 w =>
            run1 Tryd.prog Z (Instr.sliceAt 138 t5_7 (some (Value.int IntKind.i64 1)) (some t41_20) none) w fun t42_21 w =>
            run1 Tryd.prog Z (convert 42 9 t42_21) w fun t43_22 w =>
            Q t43_22 w)) →
          j_9 t6_10 w) →
      run1 Tryd.prog Z (binOp BinOp.lss 2 x0 (Value.int IntKind.i64 0)) w fun t23_23 w =>
      CondV t23_23 (
        run1 Tryd.prog Z (Op.unary UnOp.neg t21_8) w fun t25_24 w =>
        j_9 t25_24 w) (
        j_9 t21_8 w))) w) w) (
    run1 Tryd.prog Z (convert 2 107 x0) w fun t46_25 w =>
    run1 Tryd.prog Z (binOp BinOp.lss 2 x0 (Value.int IntKind.i64 0)) w fun t49_26 w =>
    CallV Tryd.prog Z 110 #[(Value.slice none 0 0), t46_25, x1, t49_26, (Value.bool false)] w fun t50_27 w =>
    run1 Tryd.prog Z (Instr.extract t50_27 0) w fun t51_28 w =>
    run1 Tryd.prog Z (Instr.extract t50_27 1) w fun t52_29 w =>
    Q t52_29 w)
noncomputable def f106.code : Code := match Tryd.f106.body with | some c => c | none => .skip
def f106.an : An := (.sq .leaf (.sq (.sq .leaf (.cn (.sq (.sq .leaf (.cn (.sq .leaf .leaf) .leaf)) (.sq .leaf (.sq .leaf (.sj [6] [6, 22, 23, 24, 25] (.sq .leaf (.cn .leaf .leaf)) (.sq .leaf (.sq .leaf (.sq (.sq .leaf (.cn (.sq .leaf (.sq .leaf .leaf)) .leaf)) (.sq .leaf .leaf)))))))) .leaf)) (.sq .leaf (.sq .leaf .leaf))))
theorem f106.body_eq : Tryd.f106.body = some f106.code := by kernel_rfl
theorem f106.shape (Z : List PanicEntry → World → Prop) (x0 x1 : Value) (w : World) (Q : Value → World → Prop) : vc drawD Tryd.prog 54 Z [107, 108, 109, 110] f106.an f106.code (fnQ Tryd.prog 54 Tryd.f106.results Q) (argEnv [x0, x1]) w = f106.sh Z x0 x1 w Q := by kernel_rfl
theorem f106.enters : ∀ f, f ∈ ([107, 108, 109, 110] : List Nat) → Enters Tryd.prog f := by
  intro f hf
  simp only [List.mem_cons, List.not_mem_nil, or_false] at hf
  rcases hf with rfl | rfl | rfl | rfl
  · exact en107
  · exact en108
  · exact en109
  · exact en110
theorem f106.calls {Z : List PanicEntry → World → Prop} {x0 x1 : Value} {w : World} {Q : Value → World → Prop} (h : f106.sh Z x0 x1 w Q) : CallV Tryd.prog Z 106 #[x0, x1] w Q :=
  calls_of_vcn drawD_sound (Q := Q) (n := 54) (rs := Tryd.f106.results) (an := f106.an) (c := f106.code) (cal := [107, 108, 109, 110]) (args := [x0, x1]) Tryd.func106 (by kernel_rfl) rfl f106.body_eq follows (Nat.le_of_ble_eq_true (by kernel_rfl)) (enters_of_all f106.enters) ((f106.shape Z x0 x1 w Q).mpr h)

/-! ### 107: internal/strconv.small -/
def f107.sh (Z : List PanicEntry → World → Prop) (x0 : Value) (w : World) (Q : Value → World → Prop) : Prop :=
  run1 Tryd.prog Z (binOp BinOp.lss 3 x0 (Value.int IntKind.i64 10)) w fun t4_1 w =>
  CondV t4_1 (
    run1 Tryd.prog Z (binOp BinOp.add 3 x0 (Value.int IntKind.i64 1)) w fun t7_2 w =>
    run1 Tryd.prog Z (Instr.sliceAt 9 (Value.string { data := #[48, 49, 50, 51, 52, 53, 54, 55, 56, 57, 97, 98, 99, 100, 101, 102, 103, 104, 105, 106, 107, 108, 109, 110, 111, 112, 113, 114, 115, 116, 117, 118, 119, 120, 121, 122] }) (some x0) (some t7_2) none) w fun t8_3 w =>
    Q t8_3 w) (
    run1 Tryd.prog Z (binOp BinOp.mul 3 x0 (Value.int IntKind.i64 2)) w fun t10_4 w =>
    run1 Tryd.prog Z (binOp BinOp.mul 3 x0 (Value.int IntKind.i64 2)) w fun t12_5 w =>
    run1 Tryd.prog Z (binOp BinOp.add 3 t12_5 (Value.int IntKind.i64 2)) w fun t13_6 w =>
    run1 Tryd.prog Z (Instr.sliceAt 9 (Value.string { data := #[48, 48, 48, 49, 48, 50, 48, 51, 48, 52, 48, 53, 48, 54, 48, 55, 48, 56, 48, 57, 49, 48, 49, 49, 49, 50, 49, 51, 49, 52, 49, 53, 49, 54, 49, 55, 49, 56, 49, 57, 50, 48, 50, 49, 50, 50, 50, 51, 50, 52, 50, 53, 50, 54, 50, 55, 50, 56, 50, 57, 51, 48, 51, 49, 51, 50, 51, 51, 51, 52, 51, 53, 51, 54, 51, 55, 51, 56, 51, 57, 52, 48, 52, 49, 52, 50, 52, 51, 52, 52, 52, 53, 52, 54, 52, 55, 52, 56, 52, 57, 53, 48, 53, 49, 53, 50, 53, 51, 53, 52, 53, 53, 53, 54, 53, 55, 53, 56, 53, 57, 54, 48, 54, 49, 54, 50, 54, 51, 54, 52, 54, 53, 54, 54, 54, 55, 54, 56, 54, 57, 55, 48, 55, 49, 55, 50, 55, 51, 55, 52, 55, 53, 55, 54, 55, 55, 55, 56, 55, 57, 56, 48, 56, 49, 56, 50, 56, 51, 56, 52, 56, 53, 56, 54, 56, 55, 56, 56, 56, 57, 57, 48, 57, 49, 57, 50, 57, 51, 57, 52, 57, 53, 57, 54, 57, 55, 57, 56, 57, 57] }) (some t10_4) (some t13_6) none) w fun t14_7 w =>
    Q t14_7 w)
noncomputable def f107.code : Code := match Tryd.f107.body with | some c => c | none => .skip
def f107.an : An := (.sq .leaf (.sq (.sq .leaf (.cn (.sq .leaf .leaf) .leaf)) (.sq .leaf .leaf)))
theorem f107.body_eq : Tryd.f107.body = some f107.code := by kernel_rfl
theorem f107.shape (Z : List PanicEntry → World → Prop) (x0 : Value) (w : World) (Q : Value → World → Prop) : vc drawD Tryd.prog 15 Z [] f107.an f107.code (fnQ Tryd.prog 15 Tryd.f107.results Q) (argEnv [x0]) w = f107.sh Z x0 w Q := by kernel_rfl
theorem f107.enters : ∀ f, f ∈ ([] : List Nat) → Enters Tryd.prog f := by
  intro f hf
  cases hf
theorem f107.calls {Z : List PanicEntry → World → Prop} {x0 : Value} {w : World} {Q : Value → World → Prop} (h : f107.sh Z x0 w Q) : CallV Tryd.prog Z 107 #[x0] w Q :=
  calls_of_vcn drawD_sound (Q := Q) (n := 15) (rs := Tryd.f107.results) (an := f107.an) (c := f107.code) (cal := []) (args := [x0]) Tryd.func107 (by kernel_rfl) rfl f107.body_eq follows (Nat.le_of_ble_eq_true (by kernel_rfl)) (enters_of_all f107.enters) ((f107.shape Z x0 w Q).mpr h)

/-! ### 108: internal/strconv.numDigits -/
def f108.sh (Z : List PanicEntry → World → Prop) (x0 : Value) (w : World) (Q : Value → World → Prop) : Prop :=
  CallV Tryd.prog Z 112 #[x0] w fun t5_1 w =>
  CallV Tryd.prog Z 111 #[t5_1] w fun t6_2 w =>
  run1 Tryd.prog Z (Instr.indexAt 145 (Value.pointer (some ⟨1, 0, none⟩)) t6_2) w fun t10_3 w =>
  run1 Tryd.prog Z (Instr.loadAt 107 t10_3) w fun t11_4 w =>
  run1 Tryd.prog Z (binOp BinOp.geq 107 x0 t11_4) w fun t12_5 w =>
  CallV Tryd.prog Z 113 #[t12_5] w fun t13_6 w =>
  run1 Tryd.prog Z (binOp BinOp.add 3 t6_2 t13_6) w fun t14_7 w =>
  Q t14_7 w
noncomputable def f108.code : Code := match Tryd.f108.body with | some c => c | none => .skip
def f108.an : An := (.sq .leaf (.sq .leaf (.sq .leaf .leaf)))
theorem f108.body_eq : Tryd.f108.body = some f108.code := by kernel_rfl
theorem f108.shape (Z : List PanicEntry → World → Prop) (x0 : Value) (w : World) (Q : Value → World → Prop) : vc drawD Tryd.prog 15 Z [112, 111, 113] f108.an f108.code (fnQ Tryd.prog 15 Tryd.f108.results Q) (argEnv [x0]) w = f108.sh Z x0 w Q := by kernel_rfl
theorem f108.enters : ∀ f, f ∈ ([112, 111, 113] : List Nat) → Enters Tryd.prog f := by
  intro f hf
  simp only [List.mem_cons, List.not_mem_nil, or_false] at hf
  rcases hf with rfl | rfl | rfl
  · exact en112
  · exact en111
  · exact en113
theorem f108.calls {Z : List PanicEntry → World → Prop} {x0 : Value} {w : World} {Q : Value → World → Prop} (h : f108.sh Z x0 w Q) : CallV Tryd.prog Z 108 #[x0] w Q :=
  calls_of_vcn drawD_sound (Q := Q) (n := 15) (rs := Tryd.f108.results) (an := f108.an) (c := f108.code) (cal := [112, 111, 113]) (args := [x0]) Tryd.func108 (by kernel_rfl) rfl f108.body_eq follows (Nat.le_of_ble_eq_true (by kernel_rfl)) (enters_of_all f108.enters) ((f108.shape Z x0 w Q).mpr h)

/-! ### 109: internal/strconv.formatBase10 -/
def f109.sh (Z : List PanicEntry → World → Prop) (x0 x1 : Value) (w : World) (Q : Value → World → Prop) : Prop :=
  run1 Tryd.prog Z (Builtin.len_ #[42] 3 #[x0]) w fun t18_1 w =>
  ∃ J_2 : Nat → Value → Value → World → Prop, (∃ m, J_2 m x1 t18_1 w) ∧
    ∀ m_2, ∀ t1_3 : Value, ∀ t4_4 : Value, ∀ w : World, J_2 m_2 t1_3 t4_4 w → Env →
      run1 Tryd.prog Z (binOp BinOp.geq 3 t4_4 (Value.int IntKind.i64 8)) w fun t20_5 w =>
      CondV t20_5 (
        run1 Tryd.prog Z (binOp BinOp.rem 107 t1_3 (Value.int IntKind.u64 100000000)) w fun t22_6 w =>
        run1 Tryd.prog Z (convert 107 28 t22_6) w fun t23_7 w =>
        run1 Tryd.prog Z (binOp BinOp.quo 107 t1_3 (Value.int IntKind.u64 100000000)) w fun t25_8 w =>
        run1 Tryd.prog Z (binOp BinOp.quo 28 t23_7 (Value.int IntKind.u32 10000)) w fun t27_9 w =>
        run1 Tryd.prog Z (binOp BinOp.rem 28 t23_7 (Value.int IntKind.u32 10000)) w fun t29_10 w =>
        run1 Tryd.prog Z (binOp BinOp.quo 28 t29_10 (Value.int IntKind.u32 100)) w fun t31_11 w =>
        run1 Tryd.prog Z (binOp BinOp.mul 28 t31_11 (Value.int IntKind.u32 2)) w fun t32_12 w =>
        run1 Tryd.prog Z (binOp BinOp.rem 28 t29_10 (Value.int IntKind.u32 100)) w fun t34_13 w =>
        run1 Tryd.prog Z (binOp BinOp.mul 28 t34_13 (Value.int IntKind.u32 2)) w fun t35_14 w =>
        run1 Tryd.prog Z (binOp BinOp.quo 28 t27_9 (Value.int IntKind.u32 100)) w fun t37_15 w =>
        run1 Tryd.prog Z (binOp BinOp.mul 28 t37_15 (Value.int IntKind.u32 2)) w fun t38_16 w =>
        run1 Tryd.prog Z (binOp BinOp.rem 28 t27_9 (Value.int IntKind.u32 100)) w fun t40_17 w =>
        run1 Tryd.prog Z (binOp BinOp.mul 28 t40_17 (Value.int IntKind.u32 2)) w fun t41_18 w =>
        Drawn w fun w =>
        Pure1 Tryd.prog (binOp BinOp.sub 3 t4_4 (Value.int IntKind.i64 1)) fun t44_19 =>
        Pure1 Tryd.prog (binOp BinOp.sub 3 t4_4 (Value.int IntKind.i64 2)) fun t47_20 =>
        Pure1 Tryd.prog (binOp BinOp.add 28 t35_14 (Value.int IntKind.u32 1)) fun t49_21 =>
        Pure1 Tryd.prog (Instr.index 9 (Value.string { data := #[48, 48, 48, 49, 48, 50, 48, 51, 48, 52, 48, 53, 48, 54, 48, 55, 48, 56, 48, 57, 49, 48, 49, 49, 49, 50, 49, 51, 49, 52, 49, 53, 49, 54, 49, 55, 49, 56, 49, 57, 50, 48, 50, 49, 50, 50, 50, 51, 50, 52, 50, 53, 50, 54, 50, 55, 50, 56, 50, 57, 51, 48, 51, 49, 51, 50, 51, 51, 51, 52, 51, 53, 51, 54, 51, 55, 51, 56, 51, 57, 52, 48, 52, 49, 52, 50, 52, 51, 52, 52, 52, 53, 52, 54, 52, 55, 52, 56, 52, 57, 53, 48, 53, 49, 53, 50, 53, 51, 53, 52, 53, 53, 53, 54, 53, 55, 53, 56, 53, 57, 54, 48, 54, 49, 54, 50, 54, 51, 54, 52, 54, 53, 54, 54, 54, 55, 54, 56, 54, 57, 55, 48, 55, 49, 55, 50, 55, 51, 55, 52, 55, 53, 55, 54, 55, 55, 55, 56, 55, 57, 56, 48, 56, 49, 56, 50, 56, 51, 56, 52, 56, 53, 56, 54, 56, 55, 56, 56, 56, 57, 57, 48, 57, 49, 57, 50, 57, 51, 57, 52, 57, 53, 57, 54, 57, 55, 57, 56, 57, 57] }) t49_21) fun t50_22 =>
        Pure1 Tryd.prog (Instr.index 9 (Value.string { data := #[48, 48, 48, 49, 48, 50, 48, 51, 48, 52, 48, 53, 48, 54, 48, 55, 48, 56, 48, 57, 49, 48, 49, 49, 49, 50, 49, 51, 49, 52, 49, 53, 49, 54, 49, 55, 49, 56, 49, 57, 50, 48, 50, 49, 50, 50, 50, 51, 50, 52, 50, 53, 50, 54, 50, 55, 50, 56, 50, 57, 51, 48, 51, 49, 51, 50, 51, 51, 51, 52, 51, 53, 51, 54, 51, 55, 51, 56, 51, 57, 52, 48, 52, 49, 52, 50, 52, 51, 52, 52, 52, 53, 52, 54, 52, 55, 52, 56, 52, 57, 53, 48, 53, 49, 53, 50, 53, 51, 53, 52, 53, 53, 53, 54, 53, 55, 53, 56, 53, 57, 54, 48, 54, 49, 54, 50, 54, 51, 54, 52, 54, 53, 54, 54, 54, 55, 54, 56, 54, 57, 55, 48, 55, 49, 55, 50, 55, 51, 55, 52, 55, 53, 55, 54, 55, 55, 55, 56, 55, 57, 56, 48, 56, 49, 56, 50, 56, 51, 56, 52, 56, 53, 56, 54, 56, 55, 56, 56, 56, 57, 57, 48, 57, 49, 57, 50, 57, 51, 57, 52, 57, 53, 57, 54, 57, 55, 57, 56, 57, 57] }) t35_14) fun t52_23 =>
        Pure1 Tryd.prog (Instr.indexAt 42 x0 t44_19) fun t53_24 =>
        run0 Tryd.prog Z (Instr.storeAt 5 t53_24 t50_22) w fun w =>
        Pure1 Tryd.prog (Instr.indexAt 42 x0 t47_20) fun t54_25 =>
        run0 Tryd.prog Z (Instr.storeAt 5 t54_25 t52_23) w fun w =>
        Drawn w fun w =>
        Pure1 Tryd.prog (binOp BinOp.sub 3 t4_4 (Value.int IntKind.i64 3)) fun t57_26 =>
        Pure1 Tryd.prog (binOp BinOp.sub 3 t4_4 (Value.int IntKind.i64 4)) fun t60_27 =>
        Pure1 Tryd.prog (binOp BinOp.add 28 t32_12 (Value.int IntKind.u32 1)) fun t62_28 =>
        Pure1 Tryd.prog (Instr.index 9 (Value.string { data := #[48, 48, 48, 49, 48, 50, 48, 51, 48, 52, 48, 53, 48, 54, 48, 55, 48, 56, 48, 57, 49, 48, 49, 49, 49, 50, 49, 51, 49, 52, 49, 53, 49, 54, 49, 55, 49, 56, 49, 57, 50, 48, 50, 49, 50, 50, 50, 51, 50, 52, 50, 53, 50, 54, 50, 55, 50, 56, 50, 57, 51, 48, 51, 49, 51, 50, 51, 51, 51, 52, 51, 53, 51, 54, 51, 55, 51, 56, 51, 57, 52, 48, 52, 49, 52, 50, 52, 51, 52, 52, 52, 53, 52, 54, 52, 55, 52, 56, 52, 57, 53, 48, 53, 49, 53, 50, 53, 51, 53, 52, 53, 53, 53, 54, 53, 55, 53, 56, 53, 57, 54, 48, 54, 49, 54, 50, 54, 51, 54, 52, 54, 53, 54, 54, 54, 55, 54, 56, 54, 57, 55, 48, 55, 49, 55, 50, 55, 51, 55, 52, 55, 53, 55, 54, 55, 55, 55, 56, 55, 57, 56, 48, 56, 49, 56, 50, 56, 51, 56, 52, 56, 53, 56, 54, 56, 55, 56, 56, 56, 57, 57, 48, 57, 49, 57, 50, 57, 51, 57, 52, 57, 53, 57, 54, 57, 55, 57, 56, 57, 57] }) t62_28) fun t63_29 =>
        Pure1 Tryd.prog (Instr.index 9 (Value.string { data := #[48, 48, 48, 49, 48, 50, 48, 51, 48, 52, 48, 53, 48, 54, 48, 55, 48, 56, 48, 57, 49, 48, 49, 49, 49, 50, 49, 51, 49, 52, 49, 53, 49, 54, 49, 55, 49, 56, 49, 57, 50, 48, 50, 49, 50, 50, 50, 51, 50, 52, 50, 53, 50, 54, 50, 55, 50, 56, 50, 57, 51, 48, 51, 49, 51, 50, 51, 51, 51, 52, 51, 53, 51, 54, 51, 55, 51, 56, 51, 57, 52, 48, 52, 49, 52, 50, 52, 51, 52, 52, 52, 53, 52, 54, 52, 55, 52, 56, 52, 57, 53, 48, 53, 49, 53, 50, 53, 51, 53, 52, 53, 53, 53, 54, 53, 55, 53, 56, 53, 57, 54, 48, 54, 49, 54, 50, 54, 51, 54, 52, 54, 53, 54, 54, 54, 55, 54, 56, 54, 57, 55, 48, 55, 49, 55, 50, 55, 51, 55, 52, 55, 53, 55, 54, 55, 55, 55, 56, 55, 57, 56, 48, 56, 49, 56, 50, 56, 51, 56, 52, 56, 53, 56, 54, 56, 55, 56, 56, 56, 57, 57, 48, 57, 49, 57, 50, 57, 51, 57, 52, 57, 53, 57, 54, 57, 55, 57, 56, 57, 57] }) t32_12) fun t65_30 =>
        Pure1 Tryd.prog (Instr.indexAt 42 x0 t57_26) fun t66_31 =>
        run0 Tryd.prog Z (Instr.storeAt 5 t66_31 t63_29) w fun w =>
        Pure1 Tryd.prog (Instr.indexAt 42 x0 t60_27) fun t67_32 =>
        run0 Tryd.prog Z (Instr.storeAt 5 t67_32 t65_30) w fun w =>
        Drawn w fun w =>
        Pure1 Tryd.prog (binOp BinOp.sub 3 t4_4 (Value.int IntKind.i64 5)) fun t70_33 =>
        Pure1 Tryd.prog (binOp BinOp.sub 3 t4_4 (Value.int IntKind.i64 6)) fun t73_34 =>
        Pure1 Tryd.prog (binOp BinOp.add 28 t41_18 (Value.int IntKind.u32 1)) fun t75_35 =>
        Pure1 Tryd.prog (Instr.index 9 (Value.string { data := #[48, 48, 48, 49, 48, 50, 48, 51, 48, 52, 48, 53, 48, 54, 48, 55, 48, 56, 48, 57, 49, 48, 49, 49, 49, 50, 49, 51, 49, 52, 49, 53, 49, 54, 49, 55, 49, 56, 49, 57, 50, 48, 50, 49, 50, 50, 50, 51, 50, 52, 50, 53, 50, 54, 50, 55, 50, 56, 50, 57, 51, 48, 51, 49, 51, 50, 51, 51, 51, 52, 51, 53, 51, 54, 51, 55, 51, 56, 51, 57, 52, 48, 52, 49, 52, 50, 52, 51, 52, 52, 52, 53, 52, 54, 52, 55, 52, 56, 52, 57, 53, 48, 53, 49, 53, 50, 53, 51, 53, 52, 53, 53, 53, 54, 53, 55, 53, 56, 53, 57, 54, 48, 54, 49, 54, 50, 54, 51, 54, 52, 54, 53, 54, 54, 54, 55, 54, 56, 54, 57, 55, 48, 55, 49, 55, 50, 55, 51, 55, 52, 55, 53, 55, 54, 55, 55, 55, 56, 55, 57, 56, 48, 56, 49, 56, 50, 56, 51, 56, 52, 56, 53, 56, 54, 56, 55, 56, 56, 56, 57, 57, 48, 57, 49, 57, 50, 57, 51, 57, 52, 57, 53, 57, 54, 57, 55, 57, 56, 57, 57] }) t75_35) fun t76_36 =>
        Pure1 Tryd.prog (Instr.index 9 (Value.string { data := #[48, 48, 48, 49, 48, 50, 48, 51, 48, 52, 48, 53, 48, 54, 48, 55, 48, 56, 48, 57, 49, 48, 49, 49, 49, 50, 49, 51, 49, 52, 49, 53, 49, 54, 49, 55, 49, 56, 49, 57, 50, 48, 50, 49, 50, 50, 50, 51, 50, 52, 50, 53, 50, 54, 50, 55, 50, 56, 50, 57, 51, 48, 51, 49, 51, 50, 51, 51, 51, 52, 51, 53, 51, 54, 51, 55, 51, 56, 51, 57, 52, 48, 52, 49, 52, 50, 52, 51, 52, 52, 52, 53, 52, 54, 52, 55, 52, 56, 52, 57, 53, 48, 53, 49, 53, 50, 53, 51, 53, 52, 53, 53, 53, 54, 53, 55, 53, 56, 53, 57, 54, 48, 54, 49, 54, 50, 54, 51, 54, 52, 54, 53, 54, 54, 54, 55, 54, 56, 54, 57, 55, 48, 55, 49, 55, 50, 55, 51, 55, 52, 55, 53, 55, 54, 55, 55, 55, 56, 55, 57, 56, 48, 56, 49, 56, 50, 56, 51, 56, 52, 56, 53, 56, 54, 56, 55, 56, 56, 56, 57, 57, 48, 57, 49, 57, 50, 57, 51, 57, 52, 57, 53, 57, 54, 57, 55, 57, 56, 57, 57] }) t41_18) fun t78_37 =>
        Pure1 Tryd.prog (Instr.indexAt 42 x0 t70_33) fun t79_38 =>
        run0 Tryd.prog Z (Instr.storeAt 5 t79_38 t76_36) w fun w =>
        Pure1 Tryd.prog (Instr.indexAt 42 x0 t73_34) fun t80_39 =>
        run0 Tryd.prog Z (Instr.storeAt 5 t80_39 t78_37) w fun w =>
        Drawn w fun w =>
        Pure1 Tryd.prog (binOp BinOp.sub 3 t4_4 (Value.int IntKind.i64 7)) fun t83_40 =>
        Pure1 Tryd.prog (binOp BinOp.sub 3 t4_4 (Value.int IntKind.i64 8)) fun t86_41 =>
        Pure1 Tryd.prog (binOp BinOp.add 28 t38_16 (Value.int IntKind.u32 1)) fun t88_42 =>
        Pure1 Tryd.prog (Instr.index 9 (Value.string { data := #[48, 48, 48, 49, 48, 50, 48, 51, 48, 52, 48, 53, 48, 54, 48, 55, 48, 56, 48, 57, 49, 48, 49, 49, 49, 50, 49, 51, 49, 52, 49, 53, 49, 54, 49, 55, 49, 56, 49, 57, 50, 48, 50, 49, 50, 50, 50, 51, 50, 52, 50, 53, 50, 54, 50, 55, 50, 56, 50, 57, 51, 48, 51, 49, 51, 50, 51, 51, 51, 52, 51, 53, 51, 54, 51, 55, 51, 56, 51, 57, 52, 48, 52, 49, 52, 50, 52, 51, 52, 52, 52, 53, 52, 54, 52, 55, 52, 56, 52, 57, 53, 48, 53, 49, 53, 50, 53, 51, 53, 52, 53, 53, 53, 54, 53, 55, 53, 56, 53, 57, 54, 48, 54, 49, 54, 50, 54, 51, 54, 52, 54, 53, 54, 54, 54, 55, 54, 56, 54, 57, 55, 48, 55, 49, 55, 50, 55, 51, 55, 52, 55, 53, 55, 54, 55, 55, 55, 56, 55, 57, 56, 48, 56, 49, 56, 50, 56, 51, 56, 52, 56, 53, 56, 54, 56, 55, 56, 56, 56, 57, 57, 48, 57, 49, 57, 50, 57, 51, 57, 52, 57, 53, 57, 54, 57, 55, 57, 56, 57, 57] }) t88_42) fun t89_43 =>
        Pure1 Tryd.prog (Instr.index 9 (Value.string { data := #[48, 48, 48, 49, 48, 50, 48, 51, 48, 52, 48, 53, 48, 54, 48, 55, 48, 56, 48, 57, 49, 48, 49, 49, 49, 50, 49, 51, 49, 52, 49, 53, 49, 54, 49, 55, 49, 56, 49, 57, 50, 48, 50, 49, 50, 50, 50, 51, 50, 52, 50, 53, 50, 54, 50, 55, 50, 56, 50, 57, 51, 48, 51, 49, 51, 50, 51, 51, 51, 52, 51, 53, 51, 54, 51, 55, 51, 56, 51, 57, 52, 48, 52, 49, 52, 50, 52, 51, 52, 52, 52, 53, 52, 54, 52, 55, 52, 56, 52, 57, 53, 48, 53, 49, 53, 50, 53, 51, 53, 52, 53, 53, 53, 54, 53, 55, 53, 56, 53, 57, 54, 48, 54, 49, 54, 50, 54, 51, 54, 52, 54, 53, 54, 54, 54, 55, 54, 56, 54, 57, 55, 48, 55, 49, 55, 50, 55, 51, 55, 52, 55, 53, 55, 54, 55, 55, 55, 56, 55, 57, 56, 48, 56, 49, 56, 50, 56, 51, 56, 52, 56, 53, 56, 54, 56, 55, 56, 56, 56, 57, 57, 48, 57, 49, 57, 50, 57, 51, 57, 52, 57, 53, 57, 54, 57, 55, 57, 56, 57, 57] }) t38_16) fun t91_44 =>
        Pure1 Tryd.prog (Instr.indexAt 42 x0 t83_40) fun t92_45 =>
        run0 Tryd.prog Z (Instr.storeAt 5 t92_45 t89_43) w fun w =>
        Pure1 Tryd.prog (Instr.indexAt 42 x0 t86_41) fun t93_46 =>
        run0 Tryd.prog Z (Instr.storeAt 5 t93_46 t91_44) w fun w =>
        run1 Tryd.prog Z (binOp BinOp.sub 3 t4_4 (Value.int IntKind.i64 8)) w fun t95_47 w =>
        ∃ n_2, n_2 < m_2 ∧ J_2 n_2 t25_8 t95_47 w) (
        run1 Tryd.prog Z (convert 107 28 t1_3) w fun t97_48 w =>
        ∀ j_49 : Value → Value → World → Prop, (∀ t4_50 : Value, ∀ t12_51 : Value, ∀ w : World, (Env →
            ∀ j_52 : Value → Value → World → Prop, (∀ t4_53 : Value, ∀ t12_54 : Value, ∀ w : World, (Env →
                run1 Tryd.prog Z (binOp BinOp.gtr 3 t4_53 (Value.int IntKind.i64 0)) w fun t161_55 w =>
                CondV t161_55 (
                  run1 Tryd.prog Z (binOp BinOp.add 28 (Value.int IntKind.u32 48) t12_54) w fun t164_56 w =>
                  run1 Tryd.prog Z (convert 28 5 t164_56) w fun t165_57 w =>
                  run1 Tryd.prog Z (Instr.indexAt 42 x0 (Value.int IntKind.i64 0)) w fun t166_58 w =>
                  run0 Tryd.prog Z (Instr.storeAt 5 t166_58 t165_57) w fun w =>
                  Q (Value.tuple #[]) w) (
                  Q (Value.tuple #[]) w)) →
                j_52 t4_53 t12_54 w) →
            run1 Tryd.prog Z (binOp BinOp.geq 3 t4_50 (Value.int IntKind.i64 2)) w fun t139_59 w =>
            CondV t139_59 (
              run1 Tryd.prog Z (binOp BinOp.rem 28 t12_51 (Value.int IntKind.u32 100)) w fun t141_60 w =>
              run1 Tryd.prog Z (binOp BinOp.mul 28 t141_60 (Value.int IntKind.u32 2)) w fun t142_61 w =>
              run1 Tryd.prog Z (binOp BinOp.quo 28 t12_51 (Value.int IntKind.u32 100)) w fun t144_62 w =>
              Drawn w fun w =>
              Pure1 Tryd.prog (binOp BinOp.sub 3 t4_50 (Value.int IntKind.i64 1)) fun t147_63 =>
              Pure1 Tryd.prog (binOp BinOp.sub 3 t4_50 (Value.int IntKind.i64 2)) fun t150_64 =>
              Pure1 Tryd.prog (binOp BinOp.add 28 t142_61 (Value.int IntKind.u32 1)) fun t152_65 =>
              Pure1 Tryd.prog (Instr.index 9 (Value.string { data := #[48, 48, 48, 49, 48, 50, 48, 51, 48, 52, 48, 53, 48, 54, 48, 55, 48, 56, 48, 57, 49, 48, 49, 49, 49, 50, 49, 51, 49, 52, 49, 53, 49, 54, 49, 55, 49, 56, 49, 57, 50, 48, 50, 49, 50, 50, 50, 51, 50, 52, 50, 53, 50, 54, 50, 55, 50, 56, 50, 57, 51, 48, 51, 49, 51, 50, 51, 51, 51, 52, 51, 53, 51, 54, 51, 55, 51, 56, 51, 57, 52, 48, 52, 49, 52, 50, 52, 51, 52, 52, 52, 53, 52, 54, 52, 55, 52, 56, 52, 57, 53, 48, 53, 49, 53, 50, 53, 51, 53, 52, 53, 53, 53, 54, 53, 55, 53, 56, 53, 57, 54, 48, 54, 49, 54, 50, 54, 51, 54, 52, 54, 53, 54, 54, 54, 55, 54, 56, 54, 57, 55, 48, 55, 49, 55, 50, 55, 51, 55, 52, 55, 53, 55, 54, 55, 55, 55, 56, 55, 57, 56, 48, 56, 49, 56, 50, 56, 51, 56, 52, 56, 53, 56, 54, 56, 55, 56, 56, 56, 57, 57, 48, 57, 49, 57, 50, 57, 51, 57, 52, 57, 53, 57, 54, 57, 55, 57, 56, 57, 57] }) t152_65) fun t153_66 =>
              Pure1 Tryd.prog (Instr.index 9 (Value.string { data := #[48, 48, 48, 49, 48, 50, 48, 51, 48, 52, 48, 53, 48, 54, 48, 55, 48, 56, 48, 57, 49, 48, 49, 49, 49, 50, 49, 51, 49, 52, 49, 53, 49, 54, 49, 55, 49, 56, 49, 57, 50, 48, 50, 49, 50, 50, 50, 51, 50, 52, 50, 53, 50, 54, 50, 55, 50, 56, 50, 57, 51, 48, 51, 49, 51, 50, 51, 51, 51, 52, 51, 53, 51, 54, 51, 55, 51, 56, 51, 57, 52, 48, 52, 49, 52, 50, 52, 51, 52, 52, 52, 53, 52, 54, 52, 55, 52, 56, 52, 57, 53, 48, 53, 49, 53, 50, 53, 51, 53, 52, 53, 53, 53, 54, 53, 55, 53, 56, 53, 57, 54, 48, 54, 49, 54, 50, 54, 51, 54, 52, 54, 53, 54, 54, 54, 55, 54, 56, 54, 57, 55, 48, 55, 49, 55, 50, 55, 51, 55, 52, 55, 53, 55, 54, 55, 55, 55, 56, 55, 57, 56, 48, 56, 49, 56, 50, 56, 51, 56, 52, 56, 53, 56, 54, 56, 55, 56, 56, 56, 57, 57, 48, 57, 49, 57, 50, 57, 51, 57, 52, 57, 53, 57, 54, 57, 55, 57, 56, 57, 57] }) t142_61) fun t155_67 =>
              Pure1 Tryd.prog (Instr.indexAt 42 x0 t147_63) fun t156_68 =>
              run0 Tryd.prog Z (Instr.storeAt 5 t156_68 t153_66) w fun w =>
              Pure1 Tryd.prog (Instr.indexAt 42 x0 t150_64) fun t157_69 =>
              run0 Tryd.prog Z (Instr.storeAt 5 t157_69 t155_67) w fun w =>
              run1 Tryd.prog Z (binOp BinOp.sub 3 t4_50 (Value.int IntKind.i64 2)) w fun t159_70 w =>
              j_52 t159_70 t144_62 w) (
              j_52 t4_50 t12_51 w)) →
            j_49 t4_50 t12_51 w) →
        run1 Tryd.prog Z (binOp BinOp.geq 3 t4_4 (Value.int IntKind.i64 4)) w fun t99_71 w =>
        CondV t99_71 (
          run1 Tryd.prog Z (binOp BinOp.rem 28 t97_48 (Value.int IntKind.u32 10000)) w fun t101_72 w =>
          run1 Tryd.prog Z (binOp BinOp.quo 28 t97_48 (Value.int IntKind.u32 10000)) w fun t103_73 w =>
          run1 Tryd.prog Z (binOp BinOp.quo 28 t101_72 (Value.int IntKind.u32 100)) w fun t105_74 w =>
          run1 Tryd.prog Z (binOp BinOp.mul 28 t105_74 (Value.int IntKind.u32 2)) w fun t106_75 w =>
          run1 Tryd.prog Z (binOp BinOp.rem 28 t101_72 (Value.int IntKind.u32 100)) w fun t108_76 w =>
          run1 Tryd.prog Z (binOp BinOp.mul 28 t108_76 (Value.int IntKind.u32 2)) w fun t109_77 w =>
          Drawn w fun w =>
          Pure1 Tryd.prog (binOp BinOp.sub 3 t4_4 (Value.int IntKind.i64 1)) fun t112_78 =>
          Pure1 Tryd.prog (binOp BinOp.sub 3 t4_4 (Value.int IntKind.i64 2)) fun t115_79 =>
          Pure1 Tryd.prog (binOp BinOp.add 28 t109_77 (Value.int IntKind.u32 1)) fun t117_80 =>
          Pure1 Tryd.prog (Instr.index 9 (Value.string { data := #[48, 48, 48, 49, 48, 50, 48, 51, 48, 52, 48, 53, 48, 54, 48, 55, 48, 56, 48, 57, 49, 48, 49, 49, 49, 50, 49, 51, 49, 52, 49, 53, 49, 54, 49, 55, 49, 56, 49, 57, 50, 48, 50, 49, 50, 50, 50, 51, 50, 52, 50, 53, 50, 54, 50, 55, 50, 56, 50, 57, 51, 48, 51, 49, 51, 50, 51, 51, 51, 52, 51, 53, 51, 54, 51, 55, 51, 56, 51, 57, 52, 48, 52, 49, 52, 50, 52, 51, 52, 52, 52, 53, 52, 54, 52, 55, 52, 56, 52, 57, 53, 48, 53, 49, 53, 50, 53, 51, 53, 52, 53, 53, 53, 54, 53, 55, 53, 56, 53, 57, 54, 48, 54, 49, 54, 50, 54, 51, 54, 52, 54, 53, 54, 54, 54, 55, 54, 56, 54, 57, 55, 48, 55, 49, 55, 50, 55, 51, 55, 52, 55, 53, 55, 54, 55, 55, 55, 56, 55, 57, 56, 48, 56, 49, 56, 50, 56, 51, 56, 52, 56, 53, 56, 54, 56, 55, 56, 56, 56, 57, 57, 48, 57, 49, 57, 50, 57, 51, 57, 52, 57, 53, 57, 54, 57, 55, 57, 56, 57, 57] }) t117_80) fun t118_81 =>
          Pure1 Tryd.prog (Instr.index 9 (Value.string { data := #[48, 48, 48, 49, 48, 50, 48, 51, 48, 52, 48, 53, 48, 54, 48, 55, 48, 56, 48, 57, 49, 48, 49, 49, 49, 50, 49, 51, 49, 52, 49, 53, 49, 54, 49, 55, 49, 56, 49, 57, 50, 48, 50, 49, 50, 50, 50, 51, 50, 52, 50, 53, 50, 54, 50, 55, 50, 56, 50, 57, 51, 48, 51, 49, 51, 50, 51, 51, 51, 52, 51, 53, 51, 54, 51, 55, 51, 56, 51, 57, 52, 48, 52, 49, 52, 50, 52, 51, 52, 52, 52, 53, 52, 54, 52, 55, 52, 56, 52, 57, 53, 48, 53, 49, 53, 50, 53, 51, 53, 52, 53, 53, 53, 54, 53, 55, 53, 56, 53, 57, 54, 48, 54, 49, 54, 50, 54, 51, 54, 52, 54, 53, 54, 54, 54, 55, 54, 56, 54, 57, 55, 48, 55, 49, 55, 50, 55, 51, 55, 52, 55, 53, 55, 54, 55, 55, 55, 56, 55, 57, 56, 48, 56, 49, 56, 50, 56, 51, 56, 52, 56, 53, 56, 54, 56, 55, 56, 56, 56, 57, 57, 48, 57, 49, 57, 50, 57, 51, 57, 52, 57, 53, 57, 54, 57, 55, 57, 56, 57, 57] }) t109_77) fun t120_82 =>
          Pure1 Tryd.prog (Instr.indexAt 42 x0 t112_78) fun t121_83 =>
          run0 Tryd.prog Z (Instr.storeAt 5 t121_83 t118_81) w fun w =>
          Pure1 Tryd.prog (Instr.indexAt 42 x0 t115_79) fun t122_84 =>
          run0 Tryd.prog Z (Instr.storeAt 5 t122_84 t120_82) w fun w =>
          Drawn w fun w =>
          Pure1 Tryd.prog (binOp BinOp.sub 3 t4_4 (Value.int IntKind.i64 3)) fun t125_85 =>
          Pure1 Tryd.prog (binOp BinOp.sub 3 t4_4 (Value.int IntKind.i64 4)) fun t128_86 =>
          Pure1 Tryd.prog (binOp BinOp.add 28 t106_75 (Value.int IntKind.u32 1)) fun t130_87 =>
          Pure1 Tryd.prog (Instr.index 9 (Value.string { data := #[48, 48, 48, 49, 48, 50, 48, 51, 48, 52, 48, 53, 48, 54, 48, 55, 48, 56, 48, 57, 49, 48, 49, 49, 49, 50, 49, 51, 49, 52, 49, 53, 49, 54, 49, 55, 49, 56, 49, 57, 50, 48, 50, 49, 50, 50, 50, 51, 50, 52, 50, 53, 50, 54, 50, 55, 50, 56, 50, 57, 51, 48, 51, 49, 51, 50, 51, 51, 51, 52, 51, 53, 51, 54, 51, 55, 51, 56, 51, 57, 52, 48, 52, 49, 52, 50, 52, 51, 52, 52, 52, 53, 52, 54, 52, 55, 52, 56, 52, 57, 53, 48, 53, 49, 53, 50, 53, 51, 53, 52, 53, 53, 53, 54, 53, 55, 53, 56, 53, 57, 54, 48, 54, 49, 54, 50, 54, 51, 54, 52, 54, 53, 54, 54, 54, 55, 54, 56, 54, 57, 55, 48, 55, 49, 55, 50, 55, 51, 55, 52, 55, 53, 55, 54, 55, 55, 55, 56, 55, 57, 56, 48, 56, 49, 56, 50, 56, 51, 56, 52, 56, 53, 56, 54, 56, 55, 56, 56, 56, 57, 57, 48, 57, 49, 57, 50, 57, 51, 57, 52, 57, 53, 57, 54, 57, 55, 57, 56, 57, 57] }) t130_87) fun t131_88 =>
          Pure1 Tryd.prog (Instr.index 9 (Value.string { data := #[48, 48, 48, 49, 48, 50, 48, 51, 48, 52, 48, 53, 48, 54, 48, 55, 48, 56, 48, 57, 49, 48, 49, 49, 49, 50, 49, 51, 49, 52, 49, 53, 49, 54, 49, 55, 49, 56, 49, 57, 50, 48, 50, 49, 50, 50, 50, 51, 50, 52, 50, 53, 50, 54, 50, 55, 50, 56, 50, 57, 51, 48, 51, 49, 51, 50, 51, 51, 51, 52, 51, 53, 51, 54, 51, 55, 51, 56, 51, 57, 52, 48, 52, 49, 52, 50, 52, 51, 52, 52, 52, 53, 52, 54, 52, 55, 52, 56, 52, 57, 53, 48, 53, 49, 53, 50, 53, 51, 53, 52, 53, 53, 53, 54, 53, 55, 53, 56, 53, 57, 54, 48, 54, 49, 54, 50, 54, 51, 54, 52, 54, 53, 54, 54, 54, 55, 54, 56, 54, 57, 55, 48, 55, 49, 55, 50, 55, 51, 55, 52, 55, 53, 55, 54, 55, 55, 55, 56, 55, 57, 56, 48, 56, 49, 56, 50, 56, 51, 56, 52, 56, 53, 56, 54, 56, 55, 56, 56, 56, 57, 57, 48, 57, 49, 57, 50, 57, 51, 57, 52, 57, 53, 57, 54, 57, 55, 57, 56, 57, 57] }) t106_75) fun t133_89 =>
          Pure1 Tryd.prog (Instr.indexAt 42 x0 t125_85) fun t134_90 =>
          run0 Tryd.prog Z (Instr.storeAt 5 t134_90 t131_88) w fun w =>
          Pure1 Tryd.prog (Instr.indexAt 42 x0 t128_86) fun t135_91 =>
          run0 Tryd.prog Z (Instr.storeAt 5 t135_91 t133_89) w fun w =>
          run1 Tryd.prog Z (binOp BinOp.sub 3 t4_4 (Value.int IntKind.i64 4)) w fun t137_92 w =>
          j_49 t137_92 t103_73 w) (
          j_49 t4_4 t97_48 w))
noncomputable def f109.code : Code := match Tryd.f109.body with | some c => c | none => .skip
def f109.an : An := (.sq .leaf (.sq (.bl (.lp [1, 4] [1, 4, 5, 6, 7, 8, 9, 10, 11, 19, 20, 21, 22, 23, 24, 25, 26, 27, 28, 29, 30, 31, 32, 33, 34, 35, 36, 37, 38, 39, 40, 41, 42, 43, 44, 45, 46, 47, 48, 49, 50, 51, 52, 53, 54, 55, 56, 57, 58, 59, 60, 61, 62, 63, 64, 65, 66, 67, 68, 69, 70, 71, 72, 73, 74, 75, 76, 77, 78, 79, 80, 81, 82, 83, 84, 85, 86, 87, 88, 89, 90, 91, 92, 93, 94, 95] (.sq (.sq .leaf (.cn .leaf .leaf)) (.bl (.sq .leaf (.sq .leaf (.sq .leaf (.sq .leaf (.sq .leaf (.sq (.dr (.take 0 false (.take 1 false (.take 2 false (.take 3 false (.take 4 false (.take 5 false (.take 6 false (.take 7 false (.take 8 false (.take 9 false (.take 10 false (.take 11 false (.one 12 (.take 13 false (.one 14 .fin)))))))))))))))) (.sq (.dr (.take 0 false (.take 1 false (.take 2 false (.take 3 false (.take 4 false (.take 5 false (.take 6 false (.take 7 false (.take 8 false (.take 9 false (.take 10 false (.take 11 false (.one 12 (.take 13 false (.one 14 .fin)))))))))))))))) (.sq (.dr (.take 0 false (.take 1 false (.take 2 false (.take 3 false (.take 4 false (.take 5 false (.take 6 false (.take 7 false (.take 8 false (.take 9 false (.take 10 false (.take 11 false (.one 12 (.take 13 false (.one 14 .fin)))))))))))))))) (.sq (.dr (.take 0 false (.take 1 false (.take 2 false (.take 3 false (.take 4 false (.take 5 false (.take 6 false (.take 7 false (.take 8 false (.take 9 false (.take 10 false (.take 11 false (.one 12 (.take 13 false (.one 14 .fin)))))))))))))))) .leaf))))))))))))) (.sq .leaf (.sj [4, 12] [4, 12, 13, 14, 15, 98, 99, 100, 101, 102, 103, 104, 105, 106, 107, 108, 109, 110, 111, 112, 113, 114, 115, 116, 117, 118, 119, 120, 121, 122, 123, 124, 125, 126, 127, 128, 129, 130, 131, 132, 133, 134, 135, 136, 137] (.sq .leaf (.cn (.sq .leaf (.sq .leaf (.sq .leaf (.sq (.dr (.take 0 false (.take 1 false (.take 2 false (.take 3 false (.take 4 false (.take 5 false (.take 6 false (.take 7 false (.take 8 false (.take 9 false (.take 10 false (.take 11 false (.one 12 (.take 13 false (.one 14 .fin)))))))))))))))) (.sq (.dr (.take 0 false (.take 1 false (.take 2 false (.take 3 false (.take 4 false (.take 5 false (.take 6 false (.take 7 false (.take 8 false (.take 9 false (.take 10 false (.take 11 false (.one 12 (.take 13 false (.one 14 .fin)))))))))))))))) .leaf))))) .leaf)) (.sj [4, 12] [4, 12, 16, 138, 139, 140, 141, 142, 143, 144, 145, 146, 147, 148, 149, 150, 151, 152, 153, 154, 155, 156, 157, 158, 159] (.sq .leaf (.cn (.sq .leaf (.sq .leaf (.sq (.dr (.take 0 false (.take 1 false (.take 2 false (.take 3 false (.take 4 false (.take 5 false (.take 6 false (.take 7 false (.take 8 false (.take 9 false (.take 10 false (.take 11 false (.one 12 (.take 13 false (.one 14 .fin)))))))))))))))) .leaf))) .leaf)) (.sq .leaf (.cn .leaf .leaf)))))))
theorem f109.body_eq : Tryd.f109.body = some f109.code := by kernel_rfl
theorem f109.shape (Z : List PanicEntry → World → Prop) (x0 x1 : Value) (w : World) (Q : Value → World → Prop) : vc drawD Tryd.prog 167 Z [] f109.an f109.code (fnQ Tryd.prog 167 Tryd.f109.results Q) (argEnv [x0, x1]) w = f109.sh Z x0 x1 w Q := by kernel_rfl
theorem f109.enters : ∀ f, f ∈ ([] : List Nat) → Enters Tryd.prog f := by
  intro f hf
  cases hf
theorem f109.calls {Z : List PanicEntry → World → Prop} {x0 x1 : Value} {w : World} {Q : Value → World → Prop} (h : f109.sh Z x0 x1 w Q) : CallV Tryd.prog Z 109 #[x0, x1] w Q :=
  calls_of_vcn drawD_sound (Q := Q) (n := 167) (rs := Tryd.f109.results) (an := f109.an) (c := f109.code) (cal := []) (args := [x0, x1]) Tryd.func109 (by kernel_rfl) rfl f109.body_eq follows (Nat.le_of_ble_eq_true (by kernel_rfl)) (enters_of_all f109.enters) ((f109.shape Z x0 x1 w Q).mpr h)

/-! ### 110: internal/strconv.formatBits -/
def f110.sh (Z : List PanicEntry → World → Prop) (x0 x1 x2 x3 x4 : Value) (w : World) (Q : Value → World → Prop) : Prop :=
  ∀ j_1 : World → Prop, (∀ w : World, (Env →
      run1 Tryd.prog Z (Instr.alloc 146 true (.tuple #[])) w fun t12_2 w =>
      ∀ j_3 : Value → World → Prop, (∀ t1_4 : Value, ∀ w : World, (Env →
          ∀ j_5 : Value → World → Prop, (∀ t13_6 : Value, ∀ w : World, (Env →
              ∀ j_7 : Value → World → Prop, (∀ t13_8 : Value, ∀ w : World, (Env →
                  CondV x4 (
                    run1 Tryd.prog Z (Instr.sliceAt 146 t12_2 (some t13_8) none none) w fun t97_9 w =>
                    run1 Tryd.prog Z (Builtin.append_ #[42, 42] 42 #[x0, t97_9]) w fun t98_10 w =>
                    Q (Value.tuple #[t98_10, (Value.string { data := #[] })]) w) (
                    run1 Tryd.prog Z (Instr.sliceAt 146 t12_2 (some t13_8) none none) w fun t100_11 w =>
                    run1 Tryd.prog Z (convert 42 9 t100_11) w fun t101_12 w =>
                    Q (Value.tuple #[(Value.slice none 0 0), t101_12]) w)) →
                  j_7 t13_8 w) →
              CondV x3 (
                run1 Tryd.prog Z (binOp BinOp.sub 3 t13_6 (Value.int IntKind.i64 1)) w fun t91_13 w =>
                run1 Tryd.prog Z (Instr.indexAt 146 t12_2 t91_13) w fun t93_14 w =>
                run0 Tryd.prog Z (Instr.storeAt 5 t93_14 (Value.int IntKind.u8 45)) w fun w =>
                j_7 t91_13 w) (
                j_7 t13_6 w)) →
              j_5 t13_6 w) →
          CallV Tryd.prog Z 114 #[x2] w fun t34_15 w =>
          CondV t34_15 (
            run1 Tryd.prog Z (convert 3 108 x2) w fun t36_16 w =>
            CallV Tryd.prog Z 115 #[t36_16] w fun t37_17 w =>
            run1 Tryd.prog Z (convert 3 108 t37_17) w fun t38_18 w =>
            run1 Tryd.prog Z (convert 3 107 x2) w fun t40_19 w =>
            run1 Tryd.prog Z (convert 3 108 x2) w fun t42_20 w =>
            run1 Tryd.prog Z (binOp BinOp.sub 108 t42_20 (Value.int IntKind.u64 1)) w fun t43_21 w =>
            ∃ J_22 : Nat → Value → Value → World → Prop, (∃ m, J_22 m t1_4 (Value.int IntKind.i64 65) w) ∧
              ∀ m_22, ∀ t1_23 : Value, ∀ t13_24 : Value, ∀ w : World, J_22 m_22 t1_23 t13_24 w → Env →
                run1 Tryd.prog Z (binOp BinOp.geq 107 t1_23 t40_19) w fun t46_25 w =>
                CondV t46_25 (
                  run1 Tryd.prog Z (binOp BinOp.sub 3 t13_24 (Value.int IntKind.i64 1)) w fun t48_26 w =>
                  run1 Tryd.prog Z (binOp BinOp.and 108 t1_23 t43_21) w fun t52_27 w =>
                  run1 Tryd.prog Z (Instr.index 9 (Value.string { data := #[48, 49, 50, 51, 52, 53, 54, 55, 56, 57, 97, 98, 99, 100, 101, 102, 103, 104, 105, 106, 107, 108, 109, 110, 111, 112, 113, 114, 115, 116, 117, 118, 119, 120, 121, 122] }) t52_27) w fun t53_28 w =>
                  run1 Tryd.prog Z (Instr.indexAt 146 t12_2 t48_26) w fun t54_29 w =>
                  run0 Tryd.prog Z (Instr.storeAt 5 t54_29 t53_28) w fun w =>
                  run1 Tryd.prog Z (binOp BinOp.shr 107 t1_23 t38_18) w fun t57_30 w =>
                  ∃ n_22, n_22 < m_22 ∧ J_22 n_22 t57_30 t48_26 w) (
                  run1 Tryd.prog Z (binOp BinOp.sub 3 t13_24 (Value.int IntKind.i64 1)) w fun t59_31 w =>
                  run1 Tryd.prog Z (Instr.index 9 (Value.string { data := #[48, 49, 50, 51, 52, 53, 54, 55, 56, 57, 97, 98, 99, 100, 101, 102, 103, 104, 105, 106, 107, 108, 109, 110, 111, 112, 113, 114, 115, 116, 117, 118, 119, 120, 121, 122] }) t1_23) w fun t62_32 w =>
                  run1 Tryd.prog Z (Instr.indexAt 146 t12_2 t59_31) w fun t63_33 w =>
                  run0 Tryd.prog Z (Instr.storeAt 5 t63_33 t62_32) w fun w =>
                  j_5 t59_31 w)) (
            run1 Tryd.prog Z (convert 3 107 x2) w fun t65_34 w =>
            ∃ J_35 : Nat → Value → Value → World → Prop, (∃ m, J_35 m t1_4 (Value.int IntKind.i64 65) w) ∧
              ∀ m_35, ∀ t1_36 : Value, ∀ t13_37 : Value, ∀ w : World, J_35 m_35 t1_36 t13_37 w → Env →
                run1 Tryd.prog Z (binOp BinOp.geq 107 t1_36 t65_34) w fun t68_38 w =>
                CondV t68_38 (
                  run1 Tryd.prog Z (binOp BinOp.sub 3 t13_37 (Value.int IntKind.i64 1)) w fun t70_39 w =>
                  run1 Tryd.prog Z (binOp BinOp.quo 107 t1_36 t65_34) w fun t73_40 w =>
                  run1 Tryd.prog Z (binOp BinOp.mul 107 t73_40 t65_34) w fun t78_41 w =>
                  run1 Tryd.prog Z (binOp BinOp.sub 107 t1_36 t78_41) w fun t79_42 w =>
                  run1 Tryd.prog Z (Instr.index 9 (Value.string { data := #[48, 49, 50, 51, 52, 53, 54, 55, 56, 57, 97, 98, 99, 100, 101, 102, 103, 104, 105, 106, 107, 108, 109, 110, 111, 112, 113, 114, 115, 116, 117, 118, 119, 120, 121, 122] }) t79_42) w fun t80_43 w =>
                  run1 Tryd.prog Z (Instr.indexAt 146 t12_2 t70_39) w fun t81_44 w =>
                  run0 Tryd.prog Z (Instr.storeAt 5 t81_44 t80_43) w fun w =>
                  ∃ n_35, n_35 < m_35 ∧ J_35 n_35 t73_40 t70_39 w) (
                  run1 Tryd.prog Z (binOp BinOp.sub 3 t13_37 (Value.int IntKind.i64 1)) w fun t84_45 w =>
                  run1 Tryd.prog Z (Instr.index 9 (Value.string { data := #[48, 49, 50, 51, 52, 53, 54, 55, 56, 57, 97, 98, 99, 100, 101, 102, 103, 104, 105, 106, 107, 108, 109, 110, 111, 112, 113, 114, 115, 116, 117, 118, 119, 120, 121, 122] }) t1_36) w fun t87_46 w =>
                  run1 Tryd.prog Z (Instr.indexAt 146 t12_2 t84_45) w fun t88_47 w =>
                  run0 Tryd.prog Z (Instr.storeAt 5 t88_47 t87_46) w fun w =>
                  j_5 t84_45 w))) →
          j_3 t1_4 w) →
      CondV x3 (
        run1 Tryd.prog Z (Op.unary UnOp.neg x1) w fun t32_48 w =>
        j_3 t32_48 w) (
        j_3 x1 w)) →
      j_1 w) →
  run1 Tryd.prog Z (binOp BinOp.lss 3 x2 (Value.int IntKind.i64 2)) w fun t20_49 w =>
  guardW (t20_49) false (fun k => k (x2) w) (fun t22_50 w =>
  guardW (t20_49) false (fun k => run1 Tryd.prog Z (eqOp BinOp.eql 3 false true t22_50 (Value.int IntKind.i64 10)) w k) (fun t23_51 w =>
  run1 Tryd.prog Z (pickV t20_49 (Value.bool true) t23_51) w fun t24_52 w =>
  guardW (t24_52) false (fun k => k (x2) w) (fun t26_53 w =>
  guardW (t24_52) false (fun k => run1 Tryd.prog Z (binOp BinOp.gtr 3 t26_53 (Value.int IntKind.i64 36)) w k) (fun t27_54 w =>
  run1 Tryd.prog Z (pickV t24_52 (Value.bool true) t27_54) w fun t28_55 w =>
  CondV t28_55 (
    run1 Tryd.prog Z (Instr.makeInterface 9 (Value.string { data := #[115, 116, 114, 99, 111, 110, 118, 58, 32, 105, 108, 108, 101, 103, 97, 108, 32, 65, 112, 112, 101, 110, 100, 73, 110, 116, 47, 70, 111, 114, 109, 97, 116, 73, 110, 116, 32, 98, 97, 115, 101] })) w fun t29_56 w =>
    run1 Tryd.prog Z (Instr.panic t29_56) w fun _ w =>
    j_1 w) (
    j_1 w)) w) w) w) w
noncomputable def f110.code : Code := match Tryd.f110.body with | some c => c | none => .skip
def f110.an : An := (.sq .leaf (.sj [] [19, 20, 21, 22, 23, 24, 25, 26, 27, 28, 29] (.sq .leaf (.cn .leaf .leaf)) (.sq .leaf (.sq .leaf (.sj [1] [1, 30, 31, 32] (.sq .leaf (.cn .leaf .leaf)) (.sj [13] [1, 13, 14, 15, 16, 17, 18, 33, 34, 35, 36, 37, 38, 39, 40, 41, 42, 43, 44, 45, 46, 47, 48, 49, 50, 51, 52, 53, 54, 55, 56, 57, 58, 59, 60, 61, 62, 63, 64, 65, 66, 67, 68, 69, 70, 71, 72, 73, 74, 75, 76, 77, 78, 79, 80, 81, 82, 83, 84, 85, 86, 87, 88] (.sq .leaf (.cn (.sq .leaf (.sq .leaf (.sq .leaf (.sq (.bl (.lp [1, 13] [1, 13, 44, 45, 46, 47, 48, 49, 50, 51, 52, 53, 54, 55, 56, 57] (.sq (.sq .leaf (.cn .leaf .leaf)) (.bl (.sq .leaf (.sq .leaf .leaf)))))) (.sq .leaf .leaf))))) (.sq .leaf (.sq (.bl (.lp [1, 13] [1, 13, 18, 66, 67, 68, 69, 70, 71, 72, 73, 74, 75, 76, 77, 78, 79, 80, 81, 82] (.sq (.sq .leaf (.cn .leaf .leaf)) (.bl (.sq .leaf (.sq .leaf (.sq .leaf .leaf))))))) (.sq .leaf .leaf))))) (.sj [13] [13, 89, 90, 91, 92, 93] (.sq .leaf (.cn (.sq .leaf .leaf) .leaf)) (.sq (.sq .leaf (.cn (.sq .leaf .leaf) .leaf)) (.sq .leaf .leaf)))))))))
theorem f110.body_eq : Tryd.f110.body = some f110.code := by kernel_rfl
theorem f110.shape (Z : List PanicEntry → World → Prop) (x0 x1 x2 x3 x4 : Value) (w : World) (Q : Value → World → Prop) : vc drawD Tryd.prog 102 Z [114, 115] f110.an f110.code (fnQ Tryd.prog 102 Tryd.f110.results Q) (argEnv [x0, x1, x2, x3, x4]) w = f110.sh Z x0 x1 x2 x3 x4 w Q := by kernel_rfl
theorem f110.enters : ∀ f, f ∈ ([114, 115] : List Nat) → Enters Tryd.prog f := by
  intro f hf
  simp only [List.mem_cons, List.not_mem_nil, or_false] at hf
  rcases hf with rfl | rfl
  · exact en114
  · exact en115
theorem f110.calls {Z : List PanicEntry → World → Prop} {x0 x1 x2 x3 x4 : Value} {w : World} {Q : Value → World → Prop} (h : f110.sh Z x0 x1 x2 x3 x4 w Q) : CallV Tryd.prog Z 110 #[x0, x1, x2, x3, x4] w Q :=
  calls_of_vcn drawD_sound (Q := Q) (n := 102) (rs := Tryd.f110.results) (an := f110.an) (c := f110.code) (cal := [114, 115]) (args := [x0, x1, x2, x3, x4]) Tryd.func110 (by kernel_rfl) rfl f110.body_eq follows (Nat.le_of_ble_eq_true (by kernel_rfl)) (enters_of_all f110.enters) ((f110.shape Z x0 x1 x2 x3 x4 w Q).mpr h)

/-! ### 111: internal/strconv.log10Pow2 -/
def f111.sh (Z : List PanicEntry → World → Prop) (x0 : Value) (w : World) (Q : Value → World → Prop) : Prop :=
  run1 Tryd.prog Z (binOp BinOp.mul 3 x0 (Value.int IntKind.i64 78913)) w fun t4_1 w =>
  run1 Tryd.prog Z (binOp BinOp.shr 3 t4_1 (Value.int IntKind.u64 18)) w fun t5_2 w =>
  Q t5_2 w
noncomputable def f111.code : Code := match Tryd.f111.body with | some c => c | none => .skip
def f111.an : An := (.sq .leaf (.sq .leaf .leaf))
theorem f111.body_eq : Tryd.f111.body = some f111.code := by kernel_rfl
theorem f111.shape (Z : List PanicEntry → World → Prop) (x0 : Value) (w : World) (Q : Value → World → Prop) : vc drawD Tryd.prog 6 Z [] f111.an f111.code (fnQ Tryd.prog 6 Tryd.f111.results Q) (argEnv [x0]) w = f111.sh Z x0 w Q := by kernel_rfl
theorem f111.enters : ∀ f, f ∈ ([] : List Nat) → Enters Tryd.prog f := by
  intro f hf
  cases hf
theorem f111.calls {Z : List PanicEntry → World → Prop} {x0 : Value} {w : World} {Q : Value → World → Prop} (h : f111.sh Z x0 w Q) : CallV Tryd.prog Z 111 #[x0] w Q :=
  calls_of_vcn drawD_sound (Q := Q) (n := 6) (rs := Tryd.f111.results) (an := f111.an) (c := f111.code) (cal := []) (args := [x0]) Tryd.func111 (by kernel_rfl) rfl f111.body_eq follows (Nat.le_of_ble_eq_true (by kernel_rfl)) (enters_of_all f111.enters) ((f111.shape Z x0 w Q).mpr h)

/-! ### 112: math/bits.Len64 -/
def f112.sh (Z : List PanicEntry → World → Prop) (x0 : Value) (w : World) (Q : Value → World → Prop) : Prop :=
  ∀ j_1 : Value → Value → World → Prop, (∀ t0_2 : Value, ∀ t2_3 : Value, ∀ w : World, (Env →
      ∀ j_4 : Value → Value → World → Prop, (∀ t0_5 : Value, ∀ t2_6 : Value, ∀ w : World, (Env →
          ∀ j_7 : Value → Value → World → Prop, (∀ t0_8 : Value, ∀ t2_9 : Value, ∀ w : World, (Env →
              run1 Tryd.prog Z (convert 107 5 t0_8) w fun t21_10 w =>
              run1 Tryd.prog Z (Instr.index 9 (Value.string { data := #[0, 1, 2, 2, 3, 3, 3, 3, 4, 4, 4, 4, 4, 4, 4, 4, 5, 5, 5, 5, 5, 5, 5, 5, 5, 5, 5, 5, 5, 5, 5, 5, 6, 6, 6, 6, 6, 6, 6, 6, 6, 6, 6, 6, 6, 6, 6, 6, 6, 6, 6, 6, 6, 6, 6, 6, 6, 6, 6, 6, 6, 6, 6, 6, 7, 7, 7, 7, 7, 7, 7, 7, 7, 7, 7, 7, 7, 7, 7, 7, 7, 7, 7, 7, 7, 7, 7, 7, 7, 7, 7, 7, 7, 7, 7, 7, 7, 7, 7, 7, 7, 7, 7, 7, 7, 7, 7, 7, 7, 7, 7, 7, 7, 7, 7, 7, 7, 7, 7, 7, 7, 7, 7, 7, 7, 7, 7, 7, 8, 8, 8, 8, 8, 8, 8, 8, 8, 8, 8, 8, 8, 8, 8, 8, 8, 8, 8, 8, 8, 8, 8, 8, 8, 8, 8, 8, 8, 8, 8, 8, 8, 8, 8, 8, 8, 8, 8, 8, 8, 8, 8, 8, 8, 8, 8, 8, 8, 8, 8, 8, 8, 8, 8, 8, 8, 8, 8, 8, 8, 8, 8, 8, 8, 8, 8, 8, 8, 8, 8, 8, 8, 8, 8, 8, 8, 8, 8, 8, 8, 8, 8, 8, 8, 8, 8, 8, 8, 8, 8, 8, 8, 8, 8, 8, 8, 8, 8, 8, 8, 8, 8, 8, 8, 8, 8, 8, 8, 8, 8, 8, 8, 8, 8, 8, 8, 8, 8, 8, 8, 8, 8, 8, 8, 8, 8, 8] }) t21_10) w fun t22_11 w =>
              run1 Tryd.prog Z (convert 5 3 t22_11) w fun t23_12 w =>
              run1 Tryd.prog Z (binOp BinOp.add 3 t2_9 t23_12) w fun t24_13 w =>
              Q t24_13 w) →
              j_7 t0_8 t2_9 w) →
          run1 Tryd.prog Z (binOp BinOp.geq 107 t0_5 (Value.int IntKind.u64 256)) w fun t14_14 w =>
          CondV t14_14 (
            run1 Tryd.prog Z (binOp BinOp.shr 107 t0_5 (Value.int IntKind.u64 8)) w fun t16_15 w =>
            run1 Tryd.prog Z (binOp BinOp.add 3 t2_6 (Value.int IntKind.i64 8)) w fun t18_16 w =>
            j_7 t16_15 t18_16 w) (
            j_7 t0_5 t2_6 w)) →
          j_4 t0_5 t2_6 w) →
      run1 Tryd.prog Z (binOp BinOp.geq 107 t0_2 (Value.int IntKind.u64 65536)) w fun t8_17 w =>
      CondV t8_17 (
        run1 Tryd.prog Z (binOp BinOp.shr 107 t0_2 (Value.int IntKind.u64 16)) w fun t10_18 w =>
        run1 Tryd.prog Z (binOp BinOp.add 3 t2_3 (Value.int IntKind.i64 16)) w fun t12_19 w =>
        j_4 t10_18 t12_19 w) (
        j_4 t0_2 t2_3 w)) →
      j_1 t0_2 t2_3 w) →
  run1 Tryd.prog Z (binOp BinOp.geq 107 x0 (Value.int IntKind.u64 4294967296)) w fun t4_20 w =>
  CondV t4_20 (
    run1 Tryd.prog Z (binOp BinOp.shr 107 x0 (Value.int IntKind.u64 32)) w fun t6_21 w =>
    j_1 t6_21 (Value.int IntKind.i64 32) w) (
    j_1 x0 (Value.int IntKind.i64 0) w)
noncomputable def f112.code : Code := match Tryd.f112.body with | some c => c | none => .skip
def f112.an : An := (.sq .leaf (.sj [0, 2] [0, 2, 3, 4, 5, 6] (.sq .leaf (.cn (.sq .leaf .leaf) .leaf)) (.sj [0, 2] [0, 2, 7, 8, 9, 10, 11, 12] (.sq .leaf (.cn (.sq .leaf .leaf) .leaf)) (.sj [0, 2] [0, 2, 13, 14, 15, 16, 17, 18] (.sq .leaf (.cn (.sq .leaf .leaf) .leaf)) (.sq .leaf .leaf)))))
theorem f112.body_eq : Tryd.f112.body = some f112.code := by kernel_rfl
theorem f112.shape (Z : List PanicEntry → World → Prop) (x0 : Value) (w : World) (Q : Value → World → Prop) : vc drawD Tryd.prog 25 Z [] f112.an f112.code (fnQ Tryd.prog 25 Tryd.f112.results Q) (argEnv [x0]) w = f112.sh Z x0 w Q := by kernel_rfl
theorem f112.enters : ∀ f, f ∈ ([] : List Nat) → Enters Tryd.prog f := by
  intro f hf
  cases hf
theorem f112.calls {Z : List PanicEntry → World → Prop} {x0 : Value} {w : World} {Q : Value → World → Prop} (h : f112.sh Z x0 w Q) : CallV Tryd.prog Z 112 #[x0] w Q :=
  calls_of_vcn drawD_sound (Q := Q) (n := 25) (rs := Tryd.f112.results) (an := f112.an) (c := f112.code) (cal := []) (args := [x0]) Tryd.func112 (by kernel_rfl) rfl f112.body_eq follows (Nat.le_of_ble_eq_true (by kernel_rfl)) (enters_of_all f112.enters) ((f112.shape Z x0 w Q).mpr h)

/-! ### 113: internal/strconv.bool2[int] -/
def f113.sh (Z : List PanicEntry → World → Prop) (x0 : Value) (w : World) (Q : Value → World → Prop) : Prop :=
  CondV x0 (
    Q (Value.int IntKind.i64 1) w) (
    Q (Value.int IntKind.i64 0) w)
noncomputable def f113.code : Code := match Tryd.f113.body with | some c => c | none => .skip
def f113.an : An := (.sq .leaf (.sq (.sq .leaf (.cn (.sq .leaf .leaf) .leaf)) (.sq .leaf .leaf)))
theorem f113.body_eq : Tryd.f113.body = some f113.code := by kernel_rfl
theorem f113.shape (Z : List PanicEntry → World → Prop) (x0 : Value) (w : World) (Q : Value → World → Prop) : vc drawD Tryd.prog 4 Z [] f113.an f113.code (fnQ Tryd.prog 4 Tryd.f113.results Q) (argEnv [x0]) w = f113.sh Z x0 w Q := by kernel_rfl
theorem f113.enters : ∀ f, f ∈ ([] : List Nat) → Enters Tryd.prog f := by
  intro f hf
  cases hf
theorem f113.calls {Z : List PanicEntry → World → Prop} {x0 : Value} {w : World} {Q : Value → World → Prop} (h : f113.sh Z x0 w Q) : CallV Tryd.prog Z 113 #[x0] w Q :=
  calls_of_vcn drawD_sound (Q := Q) (n := 4) (rs := Tryd.f113.results) (an := f113.an) (c := f113.code) (cal := []) (args := [x0]) Tryd.func113 (by kernel_rfl) rfl f113.body_eq follows (Nat.le_of_ble_eq_true (by kernel_rfl)) (enters_of_all f113.enters) ((f113.shape Z x0 w Q).mpr h)

/-! ### 114: internal/strconv.isPowerOfTwo -/
def f114.sh (Z : List PanicEntry → World → Prop) (x0 : Value) (w : World) (Q : Value → World → Prop) : Prop :=
  run1 Tryd.prog Z (binOp BinOp.sub 3 x0 (Value.int IntKind.i64 1)) w fun t5_1 w =>
  run1 Tryd.prog Z (binOp BinOp.and 3 x0 t5_1) w fun t6_2 w =>
  run1 Tryd.prog Z (eqOp BinOp.eql 3 false true t6_2 (Value.int IntKind.i64 0)) w fun t7_3 w =>
  Q t7_3 w
noncomputable def f114.code : Code := match Tryd.f114.body with | some c => c | none => .skip
def f114.an : An := (.sq .leaf (.sq .leaf .leaf))
theorem f114.body_eq : Tryd.f114.body = some f114.code := by kernel_rfl
theorem f114.shape (Z : List PanicEntry → World → Prop) (x0 : Value) (w : World) (Q : Value → World → Prop) : vc drawD Tryd.prog 8 Z [] f114.an f114.code (fnQ Tryd.prog 8 Tryd.f114.results Q) (argEnv [x0]) w = f114.sh Z x0 w Q := by kernel_rfl
theorem f114.enters : ∀ f, f ∈ ([] : List Nat) → Enters Tryd.prog f := by
  intro f hf
  cases hf
theorem f114.calls {Z : List PanicEntry → World → Prop} {x0 : Value} {w : World} {Q : Value → World → Prop} (h : f114.sh Z x0 w Q) : CallV Tryd.prog Z 114 #[x0] w Q :=
  calls_of_vcn drawD_sound (Q := Q) (n := 8) (rs := Tryd.f114.results) (an := f114.an) (c := f114.code) (cal := []) (args := [x0]) Tryd.func114 (by kernel_rfl) rfl f114.body_eq follows (Nat.le_of_ble_eq_true (by kernel_rfl)) (enters_of_all f114.enters) ((f114.shape Z x0 w Q).mpr h)

/-! ### 115: math/bits.TrailingZeros -/
def f115.sh (Z : List PanicEntry → World → Prop) (x0 : Value) (w : World) (Q : Value → World → Prop) : Prop :=
  CondV (Value.bool false) (
    run1 Tryd.prog Z (convert 108 28 x0) w fun t4_1 w =>
    CallV Tryd.prog Z 116 #[t4_1] w fun t5_2 w =>
    Q t5_2 w) (
    CallV Tryd.prog Z 117 #[x0] w fun t7_3 w =>
    Q t7_3 w)
noncomputable def f115.code : Code := match Tryd.f115.body with | some c => c | none => .skip
def f115.an : An := (.sq .leaf (.sq (.cn (.sq .leaf .leaf) .leaf) (.sq .leaf .leaf)))
theorem f115.body_eq : Tryd.f115.body = some f115.code := by kernel_rfl
theorem f115.shape (Z : List PanicEntry → World → Prop) (x0 : Value) (w : World) (Q : Value → World → Prop) : vc drawD Tryd.prog 8 Z [116, 117] f115.an f115.code (fnQ Tryd.prog 8 Tryd.f115.results Q) (argEnv [x0]) w = f115.sh Z x0 w Q := by kernel_rfl
theorem f115.enters : ∀ f, f ∈ ([116, 117] : List Nat) → Enters Tryd.prog f := by
  intro f hf
  simp only [List.mem_cons, List.not_mem_nil, or_false] at hf
  rcases hf with rfl | rfl
  · exact en116
  · exact en117
theorem f115.calls {Z : List PanicEntry → World → Prop} {x0 : Value} {w : World} {Q : Value → World → Prop} (h : f115.sh Z x0 w Q) : CallV Tryd.prog Z 115 #[x0] w Q :=
  calls_of_vcn drawD_sound (Q := Q) (n := 8) (rs := Tryd.f115.results) (an := f115.an) (c := f115.code) (cal := [116, 117]) (args := [x0]) Tryd.func115 (by kernel_rfl) rfl f115.body_eq follows (Nat.le_of_ble_eq_true (by kernel_rfl)) (enters_of_all f115.enters) ((f115.shape Z x0 w Q).mpr h)

/-! ### 116: math/bits.TrailingZeros32 -/
def f116.sh (Z : List PanicEntry → World → Prop) (x0 : Value) (w : World) (Q : Value → World → Prop) : Prop :=
  run1 Tryd.prog Z (eqOp BinOp.eql 28 false true x0 (Value.int IntKind.u32 0)) w fun t4_1 w =>
  CondV t4_1 (
    Q (Value.int IntKind.i64 32) w) (
    run1 Tryd.prog Z (Op.unary UnOp.neg x0) w fun t7_2 w =>
    run1 Tryd.prog Z (binOp BinOp.and 28 x0 t7_2) w fun t8_3 w =>
    run1 Tryd.prog Z (binOp BinOp.mul 28 t8_3 (Value.int IntKind.u32 125613361)) w fun t9_4 w =>
    run1 Tryd.prog Z (binOp BinOp.shr 28 t9_4 (Value.int IntKind.u64 27)) w fun t10_5 w =>
    run1 Tryd.prog Z (Instr.indexAt 150 (Value.pointer (some ⟨2, 0, none⟩)) t10_5) w fun t11_6 w =>
    run1 Tryd.prog Z (Instr.loadAt 5 t11_6) w fun t12_7 w =>
    run1 Tryd.prog Z (convert 5 3 t12_7) w fun t13_8 w =>
    Q t13_8 w)
noncomputable def f116.code : Code := match Tryd.f116.body with | some c => c | none => .skip
def f116.an : An := (.sq .leaf (.sq (.sq .leaf (.cn (.sq .leaf .leaf) .leaf)) (.sq .leaf .leaf)))
theorem f116.body_eq : Tryd.f116.body = some f116.code := by kernel_rfl
theorem f116.shape (Z : List PanicEntry → World → Prop) (x0 : Value) (w : World) (Q : Value → World → Prop) : vc drawD Tryd.prog 14 Z [] f116.an f116.code (fnQ Tryd.prog 14 Tryd.f116.results Q) (argEnv [x0]) w = f116.sh Z x0 w Q := by kernel_rfl
theorem f116.enters : ∀ f, f ∈ ([] : List Nat) → Enters Tryd.prog f := by
  intro f hf
  cases hf
theorem f116.calls {Z : List PanicEntry → World → Prop} {x0 : Value} {w : World} {Q : Value → World → Prop} (h : f116.sh Z x0 w Q) : CallV Tryd.prog Z 116 #[x0] w Q :=
  calls_of_vcn drawD_sound (Q := Q) (n := 14) (rs := Tryd.f116.results) (an := f116.an) (c := f116.code) (cal := []) (args := [x0]) Tryd.func116 (by kernel_rfl) rfl f116.body_eq follows (Nat.le_of_ble_eq_true (by kernel_rfl)) (enters_of_all f116.enters) ((f116.shape Z x0 w Q).mpr h)

/-! ### 117: math/bits.TrailingZeros64 -/
def f117.sh (Z : List PanicEntry → World → Prop) (x0 : Value) (w : World) (Q : Value → World → Prop) : Prop :=
  run1 Tryd.prog Z (eqOp BinOp.eql 107 false true x0 (Value.int IntKind.u64 0)) w fun t4_1 w =>
  CondV t4_1 (
    Q (Value.int IntKind.i64 64) w) (
    run1 Tryd.prog Z (Op.unary UnOp.neg x0) w fun t7_2 w =>
    run1 Tryd.prog Z (binOp BinOp.and 107 x0 t7_2) w fun t8_3 w =>
    run1 Tryd.prog Z (binOp BinOp.mul 107 t8_3 (Value.int IntKind.u64 285870213051353865)) w fun t9_4 w =>
    run1 Tryd.prog Z (binOp BinOp.shr 107 t9_4 (Value.int IntKind.u64 58)) w fun t10_5 w =>
    run1 Tryd.prog Z (Instr.indexAt 151 (Value.pointer (some ⟨3, 0, none⟩)) t10_5) w fun t11_6 w =>
    run1 Tryd.prog Z (Instr.loadAt 5 t11_6) w fun t12_7 w =>
    run1 Tryd.prog Z (convert 5 3 t12_7) w fun t13_8 w =>
    Q t13_8 w)
noncomputable def f117.code : Code := match Tryd.f117.body with | some c => c | none => .skip
def f117.an : An := (.sq .leaf (.sq (.sq .leaf (.cn (.sq .leaf .leaf) .leaf)) (.sq .leaf .leaf)))
theorem f117.body_eq : Tryd.f117.body = some f117.code := by kernel_rfl
theorem f117.shape (Z : List PanicEntry → World → Prop) (x0 : Value) (w : World) (Q : Value → World → Prop) : vc drawD Tryd.prog 14 Z [] f117.an f117.code (fnQ Tryd.prog 14 Tryd.f117.results Q) (argEnv [x0]) w = f117.sh Z x0 w Q := by kernel_rfl
theorem f117.enters : ∀ f, f ∈ ([] : List Nat) → Enters Tryd.prog f := by
  intro f hf
  cases hf
theorem f117.calls {Z : List PanicEntry → World → Prop} {x0 : Value} {w : World} {Q : Value → World → Prop} (h : f117.sh Z x0 w Q) : CallV Tryd.prog Z 117 #[x0] w Q :=
  calls_of_vcn drawD_sound (Q := Q) (n := 14) (rs := Tryd.f117.results) (an := f117.an) (c := f117.code) (cal := []) (args := [x0]) Tryd.func117 (by kernel_rfl) rfl f117.body_eq follows (Nat.le_of_ble_eq_true (by kernel_rfl)) (enters_of_all f117.enters) ((f117.shape Z x0 w Q).mpr h)

/-! ### 140: gosem.cut.vars -/
def f140.sh (Z : List PanicEntry → World → Prop) (w : World) (Q : Value → World → Prop) : Prop :=
  run1 Tryd.prog Z (Instr.build 150 #[(0, (Value.int IntKind.u8 0)), (1, (Value.int IntKind.u8 1)), (2, (Value.int IntKind.u8 28)), (3, (Value.int IntKind.u8 2)), (4, (Value.int IntKind.u8 29)), (5, (Value.int IntKind.u8 14)), (6, (Value.int IntKind.u8 24)), (7, (Value.int IntKind.u8 3)), (8, (Value.int IntKind.u8 30)), (9, (Value.int IntKind.u8 22)), (10, (Value.int IntKind.u8 20)), (11, (Value.int IntKind.u8 15)), (12, (Value.int IntKind.u8 25)), (13, (Value.int IntKind.u8 17)), (14, (Value.int IntKind.u8 4)), (15, (Value.int IntKind.u8 8)), (16, (Value.int IntKind.u8 31)), (17, (Value.int IntKind.u8 27)), (18, (Value.int IntKind.u8 13)), (19, (Value.int IntKind.u8 23)), (20, (Value.int IntKind.u8 21)), (21, (Value.int IntKind.u8 19)), (22, (Value.int IntKind.u8 16)), (23, (Value.int IntKind.u8 7)), (24, (Value.int IntKind.u8 26)), (25, (Value.int IntKind.u8 12)), (26, (Value.int IntKind.u8 18)), (27, (Value.int IntKind.u8 6)), (28, (Value.int IntKind.u8 11)), (29, (Value.int IntKind.u8 5)), (30, (Value.int IntKind.u8 10)), (31, (Value.int IntKind.u8 9))]) w fun t0_1 w =>
  run0 Tryd.prog Z (Instr.storeAt 150 (Value.pointer (some ⟨2, 0, none⟩)) t0_1) w fun w =>
  run1 Tryd.prog Z (Instr.build 151 #[(0, (Value.int IntKind.u8 0)), (1, (Value.int IntKind.u8 1)), (2, (Value.int IntKind.u8 56)), (3, (Value.int IntKind.u8 2)), (4, (Value.int IntKind.u8 57)), (5, (Value.int IntKind.u8 49)), (6, (Value.int IntKind.u8 28)), (7, (Value.int IntKind.u8 3)), (8, (Value.int IntKind.u8 61)), (9, (Value.int IntKind.u8 58)), (10, (Value.int IntKind.u8 42)), (11, (Value.int IntKind.u8 50)), (12, (Value.int IntKind.u8 38)), (13, (Value.int IntKind.u8 29)), (14, (Value.int IntKind.u8 17)), (15, (Value.int IntKind.u8 4)), (16, (Value.int IntKind.u8 62)), (17, (Value.int IntKind.u8 47)), (18, (Value.int IntKind.u8 59)), (19, (Value.int IntKind.u8 36)), (20, (Value.int IntKind.u8 45)), (21, (Value.int IntKind.u8 43)), (22, (Value.int IntKind.u8 51)), (23, (Value.int IntKind.u8 22)), (24, (Value.int IntKind.u8 53)), (25, (Value.int IntKind.u8 39)), (26, (Value.int IntKind.u8 33)), (27, (Value.int IntKind.u8 30)), (28, (Value.int IntKind.u8 24)), (29, (Value.int IntKind.u8 18)), (30, (Value.int IntKind.u8 12)), (31, (Value.int IntKind.u8 5)), (32, (Value.int IntKind.u8 63)), (33, (Value.int IntKind.u8 55)), (34, (Value.int IntKind.u8 48)), (35, (Value.int IntKind.u8 27)), (36, (Value.int IntKind.u8 60)), (37, (Value.int IntKind.u8 41)), (38, (Value.int IntKind.u8 37)), (39, (Value.int IntKind.u8 16)), (40, (Value.int IntKind.u8 46)), (41, (Value.int IntKind.u8 35)), (42, (Value.int IntKind.u8 44)), (43, (Value.int IntKind.u8 21)), (44, (Value.int IntKind.u8 52)), (45, (Value.int IntKind.u8 32)), (46, (Value.int IntKind.u8 23)), (47, (Value.int IntKind.u8 11)), (48, (Value.int IntKind.u8 54)), (49, (Value.int IntKind.u8 26)), (50, (Value.int IntKind.u8 40)), (51, (Value.int IntKind.u8 15)), (52, (Value.int IntKind.u8 34)), (53, (Value.int IntKind.u8 20)), (54, (Value.int IntKind.u8 31)), (55, (Value.int IntKind.u8 10)), (56, (Value.int IntKind.u8 25)), (57, (Value.int IntKind.u8 14)), (58, (Value.int IntKind.u8 19)), (59, (Value.int IntKind.u8 9)), (60, (Value.int IntKind.u8 13)), (61, (Value.int IntKind.u8 8)), (62, (Value.int IntKind.u8 7)), (63, (Value.int IntKind.u8 6))]) w fun t1_2 w =>
  run0 Tryd.prog Z (Instr.storeAt 151 (Value.pointer (some ⟨3, 0, none⟩)) t1_2) w fun w =>
  run1 Tryd.prog Z (Instr.build 145 #[(0, (Value.int IntKind.u64 1)), (1, (Value.int IntKind.u64 10)), (2, (Value.int IntKind.u64 100)), (3, (Value.int IntKind.u64 1000)), (4, (Value.int IntKind.u64 10000)), (5, (Value.int IntKind.u64 100000)), (6, (Value.int IntKind.u64 1000000)), (7, (Value.int IntKind.u64 10000000)), (8, (Value.int IntKind.u64 100000000)), (9, (Value.int IntKind.u64 1000000000)), (10, (Value.int IntKind.u64 10000000000)), (11, (Value.int IntKind.u64 100000000000)), (12, (Value.int IntKind.u64 1000000000000)), (13, (Value.int IntKind.u64 10000000000000)), (14, (Value.int IntKind.u64 100000000000000)), (15, (Value.int IntKind.u64 1000000000000000)), (16, (Value.int IntKind.u64 10000000000000000)), (17, (Value.int IntKind.u64 100000000000000000)), (18, (Value.int IntKind.u64 1000000000000000000)), (19, (Value.int IntKind.u64 10000000000000000000))]) w fun t2_3 w =>
  run0 Tryd.prog Z (Instr.storeAt 145 (Value.pointer (some ⟨1, 0, none⟩)) t2_3) w fun w =>
  run1 Tryd.prog Z (Instr.build 131 #[(1, (Value.int IntKind.u64 183)), (2, (Value.int IntKind.u64 169)), (3, (Value.int IntKind.u64 171)), (4, (Value.int IntKind.u64 173)), (5, (Value.int IntKind.u64 169)), (6, (Value.int IntKind.u64 416)), (7, (Value.int IntKind.u64 64)), (8, (Value.int IntKind.u64 32)), (9, (Value.int IntKind.u64 161)), (10, (Value.int IntKind.u64 161)), (11, (Value.int IntKind.u64 161)), (12, (Value.int IntKind.u64 161))]) w fun t3_4 w =>
  run0 Tryd.prog Z (Instr.storeAt 131 (Value.pointer (some ⟨0, 0, none⟩)) t3_4) w fun w =>
  Q (Value.tuple #[]) w
noncomputable def f140.code : Code := match Tryd.f140.body with | some c => c | none => .skip
def f140.an : An := (.sq .leaf (.sq .leaf (.sq .leaf .leaf)))
theorem f140.body_eq : Tryd.f140.body = some f140.code := by kernel_rfl
theorem f140.shape (Z : List PanicEntry → World → Prop) (w : World) (Q : Value → World → Prop) : vc drawD Tryd.prog 4 Z [] f140.an f140.code (fnQ Tryd.prog 4 Tryd.f140.results Q) (argEnv []) w = f140.sh Z  w Q := by kernel_rfl
theorem f140.enters : ∀ f, f ∈ ([] : List Nat) → Enters Tryd.prog f := by
  intro f hf
  cases hf
theorem f140.calls {Z : List PanicEntry → World → Prop} {w : World} {Q : Value → World → Prop} (h : f140.sh Z  w Q) : CallV Tryd.prog Z 140 #[] w Q :=
  calls_of_vcn drawD_sound (Q := Q) (n := 4) (rs := Tryd.f140.results) (an := f140.an) (c := f140.code) (cal := []) (args := []) Tryd.func140 (by kernel_rfl) rfl f140.body_eq follows (Nat.le_of_ble_eq_true (by kernel_rfl)) (enters_of_all f140.enters) ((f140.shape Z  w Q).mpr h)

end Go.Proofs.YtoeamecdkimgaaaDoor
