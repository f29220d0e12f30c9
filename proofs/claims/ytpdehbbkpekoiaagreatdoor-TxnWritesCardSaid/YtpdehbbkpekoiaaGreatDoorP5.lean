/- Writers and Readers that are nil; a Writer of any kind; floats. -/
import Derived.Test.YtpdehbbkpekoiaaGreatDoorP4
import Derived.Test.YtpdehbbkpekoiaaGreatDoorF1
import Derived.Test.YtpdehbbkpekoiaaGreatDoorShIns
set_option linter.unusedVariables false
set_option linter.unusedSimpArgs false
namespace Go.Proofs.YtpdehbbkpekoiaaGreatDoor
open Go.Sh
/-- A float's bits in its one form. -/
def bitsOf (b : Nat) : Nat := if dd.order b b = none then 9221120237041090560 else b
section
variable (Z : List PanicEntry → World → Prop) {o w : World} {R : List HProp} {g : Nat} {l k : List UInt8}
/-! ### nil -/
theorem nWhole (v n : Value) : CallV Tryz.prog Z 88 #[.pointer none, v, n] w fun r w' => w' = w := by
  refine f88.calls ?_
  unfold f88.sh
  (try simp only [eqln_79, condT])
theorem nInt32 (v : Int) : CallV Tryz.prog Z 94 #[.pointer none, .int .i32 v] w fun r w' => w' = w := by
  refine f94.calls ?_
  unfold f94.sh
  (try simp only [cv_21_142])
  exact (nWhole Z _ _).mono fun r w1 hw => hw
theorem nInt64 (v : Int) : CallV Tryz.prog Z 31 #[.pointer none, .int .i64 v] w fun r w' => w' = w := by
  refine f31.calls ?_
  unfold f31.sh
  (try simp only [cv_2_142])
  exact (nWhole Z _ _).mono fun r w1 hw => hw
theorem nUint32 (v : Int) : CallV Tryz.prog Z 29 #[.pointer none, .int .u32 v] w fun r w' => w' = w := by
  refine f29.calls ?_
  unfold f29.sh
  (try simp only [cv_22_142])
  exact (nWhole Z _ _).mono fun r w1 hw => hw
theorem nInt8 (v : Int) : CallV Tryz.prog Z 30 #[.pointer none, .int .i8 v] w fun r w' => w' = w := by
  refine f30.calls ?_
  unfold f30.sh
  (try simp only [cv_25_142])
  exact (nWhole Z _ _).mono fun r w1 hw => hw
theorem nBool (b : Bool) : CallV Tryz.prog Z 95 #[.pointer none, .bool b] w fun r w' => w' = w := by
  refine f95.calls ?_
  unfold f95.sh
  intro j hj
  have hj' : ∀ v : Value, j v w := fun v => hj _ w fun _ => (nWhole Z _ _).mono fun r w1 hw => hw
  cases b
  · (try simp only [condF])
    exact hj' _
  · (try simp only [condT])
    exact hj' _
theorem nRaw (x : Value) : CallV Tryz.prog Z 165 #[.pointer none, x] w fun r w' => w' = w := by
  refine f165.calls ?_
  unfold f165.sh
  (try simp only [neqn_79, condF])
theorem nBuffer (x : Value) : CallV Tryz.prog Z 91 #[.pointer none, x] w fun r w' => w' = w := by
  refine f91.calls ?_
  unfold f91.sh
  (try simp only [eqln_79, condT])
theorem nText (x : Value) : CallV Tryz.prog Z 90 #[.pointer none, x] w fun r w' => w' = w := by
  refine f90.calls ?_
  unfold f90.sh
  (try simp only [eqln_79, condT])
theorem nBytes : CallV Tryz.prog Z 33 #[.pointer none] w fun r w' => r = .slice none 0 0 ∧ w' = w := by
  refine f33.calls ?_
  unfold f33.sh
  (try simp only [eqln_79, condT])
  exact ⟨trivial, trivial⟩
theorem qNone : CallV Tryz.prog Z 172 #[.pointer none] w fun r w' => r = .bool true ∧ w' = w := by
  refine f172.calls ?_
  unfold f172.sh
  (try simp only [eqln_123, o_pickT, guardW_tf])
  exact ⟨trivial, trivial⟩
theorem qOpen : CallV Tryz.prog Z 145 #[.pointer none] w fun r w' => r = .bool false ∧ w' = w := by
  refine f145.calls ?_
  unfold f145.sh
  refine (qNone Z).mono fun r w1 ⟨hr, hw⟩ => ?_
  subst hr; subst hw
  (try simp only [o_not, Bool.not_true, o_pickF, guardW_ft])
  exact ⟨trivial, trivial⟩
theorem qMark : CallV Tryz.prog Z 170 #[.pointer none] w fun r w' => r = .slice none 0 0 ∧ w' = w := by
  refine f170.calls ?_
  unfold f170.sh
  refine (qNone Z).mono fun r w1 ⟨hr, hw⟩ => ?_
  subst hr; subst hw
  (try simp only [condT])
  exact ⟨trivial, trivial⟩
theorem qAhead (n : Value) : CallV Tryz.prog Z 168 #[.pointer none, n] w fun r w' => r = .tuple #[.slice none 0 0, .bool false] ∧ w' = w := by
  refine f168.calls ?_
  unfold f168.sh
  refine (qOpen Z).mono fun r w1 ⟨hr, hw⟩ => ?_
  subst hr; subst hw
  (try simp only [o_not, Bool.not_false, condT])
  exact ⟨trivial, trivial⟩
theorem qWhole (n : Value) : CallV Tryz.prog Z 133 #[.pointer none, n] w fun r w' => r = .int .u64 0 ∧ w' = w := by
  refine f133.calls ?_
  unfold f133.sh
  refine (qAhead Z n).mono fun r w1 ⟨hr, hw⟩ => ?_
  subst hr; subst hw
  (try simp only [o_ext2_1, o_not, Bool.not_false, condT, o_ext2_0])
  exact ⟨trivial, trivial⟩
theorem qBool : CallV Tryz.prog Z 141 #[.pointer none] w fun r w' => r = .bool false ∧ w' = w := by
  refine f141.calls ?_
  unfold f141.sh
  refine (qAhead Z _).mono fun r w1 ⟨hr, hw⟩ => ?_
  subst hr; subst hw
  (try simp only [o_ext2_1, o_not, Bool.not_false, condT, o_ext2_0])
  exact ⟨trivial, trivial⟩
theorem qInt8 : CallV Tryz.prog Z 68 #[.pointer none] w fun r w' => r = .int .i8 0 ∧ w' = w := by
  refine f68.calls ?_
  unfold f68.sh
  refine (qWhole Z _).mono fun r w1 ⟨hr, hw⟩ => ?_
  subst hr; subst hw
  (try simp only [cv_142_25])
  exact ⟨rfl, trivial⟩
theorem qInt32 : CallV Tryz.prog Z 140 #[.pointer none] w fun r w' => r = .int .i32 0 ∧ w' = w := by
  refine f140.calls ?_
  unfold f140.sh
  refine (qWhole Z _).mono fun r w1 ⟨hr, hw⟩ => ?_
  subst hr; subst hw
  (try simp only [cv_142_21])
  exact ⟨rfl, trivial⟩
theorem qUint32 : CallV Tryz.prog Z 67 #[.pointer none] w fun r w' => r = .int .u32 0 ∧ w' = w := by
  refine f67.calls ?_
  unfold f67.sh
  refine (qWhole Z _).mono fun r w1 ⟨hr, hw⟩ => ?_
  subst hr; subst hw
  (try simp only [cv_142_22])
  exact ⟨rfl, trivial⟩
theorem qInt64 : CallV Tryz.prog Z 69 #[.pointer none] w fun r w' => r = .int .i64 0 ∧ w' = w := by
  refine f69.calls ?_
  unfold f69.sh
  refine (qWhole Z _).mono fun r w1 ⟨hr, hw⟩ => ?_
  subst hr; subst hw
  (try simp only [cv_142_2])
  exact ⟨rfl, trivial⟩
theorem qSized (n : Value) : CallV Tryz.prog Z 169 #[.pointer none, n] w fun r w' => r = .slice none 0 0 ∧ w' = w := by
  refine f169.calls ?_
  unfold f169.sh
  refine (qMark Z).mono fun r w1 ⟨hr, hw⟩ => ?_
  subst hr; subst hw
  refine (qInt32 Z).mono fun r w1 ⟨hr, hw⟩ => ?_
  subst hr; subst hw
  (try simp only [cv_21_3, o_lss])
  refine (qOpen Z).mono fun r w1 ⟨hr, hw⟩ => ?_
  subst hr; subst hw
  (try simp only [o_not, Bool.not_false, condT])
  exact ⟨trivial, trivial⟩
theorem qText (n : Value) : CallV Tryz.prog Z 136 #[.pointer none, n] w fun r w' => r = .string (str []) ∧ w' = w := by
  refine f136.calls ?_
  unfold f136.sh
  refine (qSized Z n).mono fun r w1 ⟨hr, hw⟩ => ?_
  subst hr; subst hw
  exact r1 (run_toString Tryz.underlying28 Tryz.underlying5 Tryz.underlying9 (l := []) ⟨rfl, by simp [maxLen], .inl ⟨0, rfl, rfl⟩⟩) ⟨rfl, rfl⟩
theorem qBuffer (n : Value) (h : St o w R) : CallV Tryz.prog Z 137 #[.pointer none, n] w fun r w' => St o w' (own 5 1 r 0 (cb []) :: R) := by
  refine f137.calls ?_
  unfold f137.sh
  refine (qSized Z n).mono fun r w1 ⟨hr, hw⟩ => ?_
  subst hr; subst hw
  have hz : Rd w1 1 (.slice none 0 0) 0 (cb []) := ⟨rfl, by simp [maxLen], .inl ⟨0, rfl, rfl⟩⟩
  exact r_append el28 (h.own_nil 5 1) (hz.src Tryz.underlying28 (cb_ones _)) (by omega) (by simp only [maxLen]; omega) fun v' w2 hS => hS
theorem qErr : CallV Tryz.prog Z 146 #[.pointer none] w fun r w' => r = .int .i64 1 ∧ w' = w := by
  refine f146.calls ?_
  unfold f146.sh
  refine (qNone Z).mono fun r w1 ⟨hr, hw⟩ => ?_
  subst hr; subst hw
  (try simp only [condT])
  exact ⟨trivial, trivial⟩
theorem qEnd : CallV Tryz.prog Z 71 #[.pointer none] w fun r w' => r = .int .i64 1 ∧ w' = w := by
  refine f71.calls ?_
  unfold f71.sh
  refine (qOpen Z).mono fun r w1 ⟨hr, hw⟩ => ?_
  subst hr; subst hw
  (try simp only [o_pickF, condF, guardW_ft])
  exact (qErr Z).mono fun r w1 h => h
theorem qFail (e : Value) : CallV Tryz.prog Z 135 #[.pointer none, e] w fun r w' => w' = w := by
  refine f135.calls ?_
  unfold f135.sh
  refine (qOpen Z).mono fun r w1 ⟨hr, hw⟩ => ?_
  subst hr; subst hw
  (try simp only [condF])
end
end Go.Proofs.YtpdehbbkpekoiaaGreatDoor
