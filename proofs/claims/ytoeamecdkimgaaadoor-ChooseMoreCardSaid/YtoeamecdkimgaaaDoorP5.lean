/- Writers and Readers that are nil; a Writer of any kind; floats. -/
import Derived.Test.YtoeamecdkimgaaaDoorP4
import Derived.Test.YtoeamecdkimgaaaDoorF1
import Derived.Test.YtoeamecdkimgaaaDoorShIns
set_option linter.unusedVariables false
set_option linter.unusedSimpArgs false
namespace Go.Proofs.YtoeamecdkimgaaaDoor
open Go.Sh
/-- A float's bits in its one form. -/
def bitsOf (b : Nat) : Nat := if dd.order b b = none then 9221120237041090560 else b
section
variable (Z : List PanicEntry → World → Prop) {o w : World} {R : List HProp} {g : Nat} {l k : List UInt8}
/-! ### nil -/
theorem nWhole (v n : Value) : CallV Tryd.prog Z 71 #[.pointer none, v, n] w fun r w' => w' = w := by
  refine f71.calls ?_
  unfold f71.sh
  (try simp only [eqln_77, condT])
theorem nInt32 (v : Int) : CallV Tryd.prog Z 77 #[.pointer none, .int .i32 v] w fun r w' => w' = w := by
  refine f77.calls ?_
  unfold f77.sh
  (try simp only [cv_21_107])
  exact (nWhole Z _ _).mono fun r w1 hw => hw
theorem nInt64 (v : Int) : CallV Tryd.prog Z 46 #[.pointer none, .int .i64 v] w fun r w' => w' = w := by
  refine f46.calls ?_
  unfold f46.sh
  (try simp only [cv_2_107])
  exact (nWhole Z _ _).mono fun r w1 hw => hw
theorem nUint32 (v : Int) : CallV Tryd.prog Z 44 #[.pointer none, .int .u32 v] w fun r w' => w' = w := by
  refine f44.calls ?_
  unfold f44.sh
  (try simp only [cv_28_107])
  exact (nWhole Z _ _).mono fun r w1 hw => hw
theorem nInt8 (v : Int) : CallV Tryd.prog Z 45 #[.pointer none, .int .i8 v] w fun r w' => w' = w := by
  refine f45.calls ?_
  unfold f45.sh
  (try simp only [cv_31_107])
  exact (nWhole Z _ _).mono fun r w1 hw => hw
theorem nBool (b : Bool) : CallV Tryd.prog Z 78 #[.pointer none, .bool b] w fun r w' => w' = w := by
  refine f78.calls ?_
  unfold f78.sh
  intro j hj
  have hj' : ∀ v : Value, j v w := fun v => hj _ w fun _ => (nWhole Z _ _).mono fun r w1 hw => hw
  cases b
  · (try simp only [condF])
    exact hj' _
  · (try simp only [condT])
    exact hj' _
theorem nRaw (x : Value) : CallV Tryd.prog Z 94 #[.pointer none, x] w fun r w' => w' = w := by
  refine f94.calls ?_
  unfold f94.sh
  (try simp only [neqn_77, condF])
theorem nBuffer (x : Value) : CallV Tryd.prog Z 74 #[.pointer none, x] w fun r w' => w' = w := by
  refine f74.calls ?_
  unfold f74.sh
  (try simp only [eqln_77, condT])
theorem nText (x : Value) : CallV Tryd.prog Z 73 #[.pointer none, x] w fun r w' => w' = w := by
  refine f73.calls ?_
  unfold f73.sh
  (try simp only [eqln_77, condT])
theorem nBytes : CallV Tryd.prog Z 48 #[.pointer none] w fun r w' => r = .slice none 0 0 ∧ w' = w := by
  refine f48.calls ?_
  unfold f48.sh
  (try simp only [eqln_77, condT])
  exact ⟨trivial, trivial⟩
end
end Go.Proofs.YtoeamecdkimgaaaDoor
