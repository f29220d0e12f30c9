/- Writers and Readers that are nil; a Writer of any kind; floats. -/
import Derived.Test.YthobnaagjhooeaaDoorP4
import Derived.Test.YthobnaagjhooeaaDoorF1
import Derived.Test.YthobnaagjhooeaaDoorShIns
set_option linter.unusedVariables false
set_option linter.unusedSimpArgs false
namespace Go.Proofs.YthobnaagjhooeaaDoor
open Go.Sh
/-- A float's bits in its one form. -/
def bitsOf (b : Nat) : Nat := if dd.order b b = none then 9221120237041090560 else b
section
variable (Z : List PanicEntry → World → Prop) {o w : World} {R : List HProp} {g : Nat} {l k : List UInt8}
/-! ### nil -/
theorem nWhole (v n : Value) : CallV Tryd.prog Z 54 #[.pointer none, v, n] w fun r w' => w' = w := by
  refine f54.calls ?_
  unfold f54.sh
  (try simp only [eqln_66, condT])
theorem nInt32 (v : Int) : CallV Tryd.prog Z 20 #[.pointer none, .int .i32 v] w fun r w' => w' = w := by
  refine f20.calls ?_
  unfold f20.sh
  (try simp only [cv_21_102])
  exact (nWhole Z _ _).mono fun r w1 hw => hw
theorem nBytes : CallV Tryd.prog Z 24 #[.pointer none] w fun r w' => r = .slice none 0 0 ∧ w' = w := by
  refine f24.calls ?_
  unfold f24.sh
  (try simp only [eqln_66, condT])
  exact ⟨trivial, trivial⟩
theorem qNone : CallV Tryd.prog Z 32 #[.pointer none] w fun r w' => r = .bool true ∧ w' = w := by
  refine f32.calls ?_
  unfold f32.sh
  (try simp only [eqln_24, o_pickT, guardW_tf])
  exact ⟨trivial, trivial⟩
theorem qOpen : CallV Tryd.prog Z 26 #[.pointer none] w fun r w' => r = .bool false ∧ w' = w := by
  refine f26.calls ?_
  unfold f26.sh
  refine (qNone Z).mono fun r w1 ⟨hr, hw⟩ => ?_
  subst hr; subst hw
  (try simp only [o_not, Bool.not_true, o_pickF, guardW_ft])
  exact ⟨trivial, trivial⟩
theorem qMark : CallV Tryd.prog Z 25 #[.pointer none] w fun r w' => r = .slice none 0 0 ∧ w' = w := by
  refine f25.calls ?_
  unfold f25.sh
  refine (qNone Z).mono fun r w1 ⟨hr, hw⟩ => ?_
  subst hr; subst hw
  (try simp only [condT])
  exact ⟨trivial, trivial⟩
theorem qAhead (n : Value) : CallV Tryd.prog Z 80 #[.pointer none, n] w fun r w' => r = .tuple #[.slice none 0 0, .bool false] ∧ w' = w := by
  refine f80.calls ?_
  unfold f80.sh
  refine (qOpen Z).mono fun r w1 ⟨hr, hw⟩ => ?_
  subst hr; subst hw
  (try simp only [o_not, Bool.not_false, condT])
  exact ⟨trivial, trivial⟩
theorem qWhole (n : Value) : CallV Tryd.prog Z 55 #[.pointer none, n] w fun r w' => r = .int .u64 0 ∧ w' = w := by
  refine f55.calls ?_
  unfold f55.sh
  refine (qAhead Z n).mono fun r w1 ⟨hr, hw⟩ => ?_
  subst hr; subst hw
  (try simp only [o_ext2_1, o_not, Bool.not_false, condT, o_ext2_0])
  exact ⟨trivial, trivial⟩
theorem qInt32 : CallV Tryd.prog Z 21 #[.pointer none] w fun r w' => r = .int .i32 0 ∧ w' = w := by
  refine f21.calls ?_
  unfold f21.sh
  refine (qWhole Z _).mono fun r w1 ⟨hr, hw⟩ => ?_
  subst hr; subst hw
  (try simp only [cv_102_21])
  exact ⟨rfl, trivial⟩
theorem qSized (n : Value) : CallV Tryd.prog Z 56 #[.pointer none, n] w fun r w' => r = .slice none 0 0 ∧ w' = w := by
  refine f56.calls ?_
  unfold f56.sh
  refine (qMark Z).mono fun r w1 ⟨hr, hw⟩ => ?_
  subst hr; subst hw
  refine (qInt32 Z).mono fun r w1 ⟨hr, hw⟩ => ?_
  subst hr; subst hw
  (try simp only [cv_21_3, o_lss])
  refine (qOpen Z).mono fun r w1 ⟨hr, hw⟩ => ?_
  subst hr; subst hw
  (try simp only [o_not, Bool.not_false, condT])
  exact ⟨trivial, trivial⟩
theorem qText (n : Value) : CallV Tryd.prog Z 28 #[.pointer none, n] w fun r w' => r = .string (str []) ∧ w' = w := by
  refine f28.calls ?_
  unfold f28.sh
  refine (qSized Z n).mono fun r w1 ⟨hr, hw⟩ => ?_
  subst hr; subst hw
  exact r1 (run_toString Tryd.underlying22 Tryd.underlying5 Tryd.underlying9 (l := []) ⟨rfl, by simp [maxLen], .inl ⟨0, rfl, rfl⟩⟩) ⟨rfl, rfl⟩
theorem qLeft : CallV Tryd.prog Z 13 #[.pointer none] w fun r w' => r = .int .i64 0 ∧ w' = w := by
  refine f13.calls ?_
  unfold f13.sh
  refine (qMark Z).mono fun r w1 ⟨hr, hw⟩ => ?_
  subst hr; subst hw
  (try simp only [ln_22_3])
  exact ⟨rfl, trivial⟩
theorem qErr : CallV Tryd.prog Z 15 #[.pointer none] w fun r w' => r = .int .i64 1 ∧ w' = w := by
  refine f15.calls ?_
  unfold f15.sh
  refine (qNone Z).mono fun r w1 ⟨hr, hw⟩ => ?_
  subst hr; subst hw
  (try simp only [condT])
  exact ⟨trivial, trivial⟩
theorem qEnd : CallV Tryd.prog Z 16 #[.pointer none] w fun r w' => r = .int .i64 1 ∧ w' = w := by
  refine f16.calls ?_
  unfold f16.sh
  refine (qOpen Z).mono fun r w1 ⟨hr, hw⟩ => ?_
  subst hr; subst hw
  (try simp only [o_pickF, condF, guardW_ft])
  exact (qErr Z).mono fun r w1 h => h
end
end Go.Proofs.YthobnaagjhooeaaDoor
