/- Writers and Readers that are nil; a Writer of any kind; floats. -/
import Derived.Test.YtoeamecdkimgaaaGreatDoorP4
import Derived.Test.YtoeamecdkimgaaaGreatDoorF1
import Derived.Test.YtoeamecdkimgaaaGreatDoorShIns
set_option linter.unusedVariables false
set_option linter.unusedSimpArgs false
namespace Go.Proofs.YtoeamecdkimgaaaGreatDoor
open Go.Sh
/-- A float's bits in its one form. -/
def bitsOf (b : Nat) : Nat := if dd.order b b = none then 9221120237041090560 else b
section
variable (Z : List PanicEntry → World → Prop) {o w : World} {R : List HProp} {g : Nat} {l k : List UInt8}
/-! ### nil -/
theorem nWhole (v n : Value) : CallV Tryz.prog Z 67 #[.pointer none, v, n] w fun r w' => w' = w := by
  refine f67.calls ?_
  unfold f67.sh
  (try simp only [eqln_74, condT])
theorem nInt32 (v : Int) : CallV Tryz.prog Z 73 #[.pointer none, .int .i32 v] w fun r w' => w' = w := by
  refine f73.calls ?_
  unfold f73.sh
  (try simp only [cv_21_105])
  exact (nWhole Z _ _).mono fun r w1 hw => hw
theorem nInt64 (v : Int) : CallV Tryz.prog Z 45 #[.pointer none, .int .i64 v] w fun r w' => w' = w := by
  refine f45.calls ?_
  unfold f45.sh
  (try simp only [cv_2_105])
  exact (nWhole Z _ _).mono fun r w1 hw => hw
theorem nUint32 (v : Int) : CallV Tryz.prog Z 43 #[.pointer none, .int .u32 v] w fun r w' => w' = w := by
  refine f43.calls ?_
  unfold f43.sh
  (try simp only [cv_22_105])
  exact (nWhole Z _ _).mono fun r w1 hw => hw
theorem nInt8 (v : Int) : CallV Tryz.prog Z 44 #[.pointer none, .int .i8 v] w fun r w' => w' = w := by
  refine f44.calls ?_
  unfold f44.sh
  (try simp only [cv_32_105])
  exact (nWhole Z _ _).mono fun r w1 hw => hw
theorem nBool (b : Bool) : CallV Tryz.prog Z 74 #[.pointer none, .bool b] w fun r w' => w' = w := by
  refine f74.calls ?_
  unfold f74.sh
  intro j hj
  have hj' : ∀ v : Value, j v w := fun v => hj _ w fun _ => (nWhole Z _ _).mono fun r w1 hw => hw
  cases b
  · (try simp only [condF])
    exact hj' _
  · (try simp only [condT])
    exact hj' _
theorem nRaw (x : Value) : CallV Tryz.prog Z 90 #[.pointer none, x] w fun r w' => w' = w := by
  refine f90.calls ?_
  unfold f90.sh
  (try simp only [neqn_74, condF])
theorem nBuffer (x : Value) : CallV Tryz.prog Z 70 #[.pointer none, x] w fun r w' => w' = w := by
  refine f70.calls ?_
  unfold f70.sh
  (try simp only [eqln_74, condT])
theorem nText (x : Value) : CallV Tryz.prog Z 69 #[.pointer none, x] w fun r w' => w' = w := by
  refine f69.calls ?_
  unfold f69.sh
  (try simp only [eqln_74, condT])
theorem nBytes : CallV Tryz.prog Z 47 #[.pointer none] w fun r w' => r = .slice none 0 0 ∧ w' = w := by
  refine f47.calls ?_
  unfold f47.sh
  (try simp only [eqln_74, condT])
  exact ⟨trivial, trivial⟩
end
end Go.Proofs.YtoeamecdkimgaaaGreatDoor
