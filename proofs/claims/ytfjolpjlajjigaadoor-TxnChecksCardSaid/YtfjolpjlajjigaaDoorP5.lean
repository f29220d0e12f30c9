/- Writers and Readers that are nil; a Writer of any kind; floats. -/
import Derived.Test.YtfjolpjlajjigaaDoorP4
import Derived.Test.YtfjolpjlajjigaaDoorF1
import Derived.Test.YtfjolpjlajjigaaDoorShIns
set_option linter.unusedVariables false
set_option linter.unusedSimpArgs false
namespace Go.Proofs.YtfjolpjlajjigaaDoor
open Go.Sh
/-- A float's bits in its one form. -/
def bitsOf (b : Nat) : Nat := if dd.order b b = none then 9221120237041090560 else b
section
variable (Z : List PanicEntry → World → Prop) {o w : World} {R : List HProp} {g : Nat} {l k : List UInt8}
/-! ### nil -/
theorem nWhole (v n : Value) : CallV Tryd.prog Z 80 #[.pointer none, v, n] w fun r w' => w' = w := by
  refine f80.calls ?_
  unfold f80.sh
  (try simp only [eqln_74, condT])
theorem nInt32 (v : Int) : CallV Tryd.prog Z 85 #[.pointer none, .int .i32 v] w fun r w' => w' = w := by
  refine f85.calls ?_
  unfold f85.sh
  (try simp only [cv_21_95])
  exact (nWhole Z _ _).mono fun r w1 hw => hw
theorem nInt64 (v : Int) : CallV Tryd.prog Z 48 #[.pointer none, .int .i64 v] w fun r w' => w' = w := by
  refine f48.calls ?_
  unfold f48.sh
  (try simp only [cv_2_95])
  exact (nWhole Z _ _).mono fun r w1 hw => hw
theorem nUint32 (v : Int) : CallV Tryd.prog Z 46 #[.pointer none, .int .u32 v] w fun r w' => w' = w := by
  refine f46.calls ?_
  unfold f46.sh
  (try simp only [cv_24_95])
  exact (nWhole Z _ _).mono fun r w1 hw => hw
theorem nInt8 (v : Int) : CallV Tryd.prog Z 47 #[.pointer none, .int .i8 v] w fun r w' => w' = w := by
  refine f47.calls ?_
  unfold f47.sh
  (try simp only [cv_27_95])
  exact (nWhole Z _ _).mono fun r w1 hw => hw
theorem nBool (b : Bool) : CallV Tryd.prog Z 86 #[.pointer none, .bool b] w fun r w' => w' = w := by
  refine f86.calls ?_
  unfold f86.sh
  intro j hj
  have hj' : ∀ v : Value, j v w := fun v => hj _ w fun _ => (nWhole Z _ _).mono fun r w1 hw => hw
  cases b
  · (try simp only [condF])
    exact hj' _
  · (try simp only [condT])
    exact hj' _
theorem nRaw (x : Value) : CallV Tryd.prog Z 118 #[.pointer none, x] w fun r w' => w' = w := by
  refine f118.calls ?_
  unfold f118.sh
  (try simp only [neqn_74, condF])
theorem nBuffer (x : Value) : CallV Tryd.prog Z 82 #[.pointer none, x] w fun r w' => w' = w := by
  refine f82.calls ?_
  unfold f82.sh
  (try simp only [eqln_74, condT])
theorem nText (x : Value) : CallV Tryd.prog Z 81 #[.pointer none, x] w fun r w' => w' = w := by
  refine f81.calls ?_
  unfold f81.sh
  (try simp only [eqln_74, condT])
theorem nBytes : CallV Tryd.prog Z 50 #[.pointer none] w fun r w' => r = .slice none 0 0 ∧ w' = w := by
  refine f50.calls ?_
  unfold f50.sh
  (try simp only [eqln_74, condT])
  exact ⟨trivial, trivial⟩
theorem qNone : CallV Tryd.prog Z 117 #[.pointer none] w fun r w' => r = .bool true ∧ w' = w := by
  refine f117.calls ?_
  unfold f117.sh
  (try simp only [eqln_65, o_pickT, guardW_tf])
  exact ⟨trivial, trivial⟩
theorem qOpen : CallV Tryd.prog Z 78 #[.pointer none] w fun r w' => r = .bool false ∧ w' = w := by
  refine f78.calls ?_
  unfold f78.sh
  refine (qNone Z).mono fun r w1 ⟨hr, hw⟩ => ?_
  subst hr; subst hw
  (try simp only [o_not, Bool.not_true, o_pickF, guardW_ft])
  exact ⟨trivial, trivial⟩
theorem qMark : CallV Tryd.prog Z 115 #[.pointer none] w fun r w' => r = .slice none 0 0 ∧ w' = w := by
  refine f115.calls ?_
  unfold f115.sh
  refine (qNone Z).mono fun r w1 ⟨hr, hw⟩ => ?_
  subst hr; subst hw
  (try simp only [condT])
  exact ⟨trivial, trivial⟩
theorem qAhead (n : Value) : CallV Tryd.prog Z 113 #[.pointer none, n] w fun r w' => r = .tuple #[.slice none 0 0, .bool false] ∧ w' = w := by
  refine f113.calls ?_
  unfold f113.sh
  refine (qOpen Z).mono fun r w1 ⟨hr, hw⟩ => ?_
  subst hr; subst hw
  (try simp only [o_not, Bool.not_false, condT])
  exact ⟨trivial, trivial⟩
theorem qWhole (n : Value) : CallV Tryd.prog Z 66 #[.pointer none, n] w fun r w' => r = .int .u64 0 ∧ w' = w := by
  refine f66.calls ?_
  unfold f66.sh
  refine (qAhead Z n).mono fun r w1 ⟨hr, hw⟩ => ?_
  subst hr; subst hw
  (try simp only [o_ext2_1, o_not, Bool.not_false, condT, o_ext2_0])
  exact ⟨trivial, trivial⟩
theorem qBool : CallV Tryd.prog Z 74 #[.pointer none] w fun r w' => r = .bool false ∧ w' = w := by
  refine f74.calls ?_
  unfold f74.sh
  refine (qAhead Z _).mono fun r w1 ⟨hr, hw⟩ => ?_
  subst hr; subst hw
  (try simp only [o_ext2_1, o_not, Bool.not_false, condT, o_ext2_0])
  exact ⟨trivial, trivial⟩
theorem qInt8 : CallV Tryd.prog Z 42 #[.pointer none] w fun r w' => r = .int .i8 0 ∧ w' = w := by
  refine f42.calls ?_
  unfold f42.sh
  refine (qWhole Z _).mono fun r w1 ⟨hr, hw⟩ => ?_
  subst hr; subst hw
  (try simp only [cv_95_27])
  exact ⟨rfl, trivial⟩
theorem qInt32 : CallV Tryd.prog Z 73 #[.pointer none] w fun r w' => r = .int .i32 0 ∧ w' = w := by
  refine f73.calls ?_
  unfold f73.sh
  refine (qWhole Z _).mono fun r w1 ⟨hr, hw⟩ => ?_
  subst hr; subst hw
  (try simp only [cv_95_21])
  exact ⟨rfl, trivial⟩
theorem qUint32 : CallV Tryd.prog Z 41 #[.pointer none] w fun r w' => r = .int .u32 0 ∧ w' = w := by
  refine f41.calls ?_
  unfold f41.sh
  refine (qWhole Z _).mono fun r w1 ⟨hr, hw⟩ => ?_
  subst hr; subst hw
  (try simp only [cv_95_24])
  exact ⟨rfl, trivial⟩
theorem qInt64 : CallV Tryd.prog Z 43 #[.pointer none] w fun r w' => r = .int .i64 0 ∧ w' = w := by
  refine f43.calls ?_
  unfold f43.sh
  refine (qWhole Z _).mono fun r w1 ⟨hr, hw⟩ => ?_
  subst hr; subst hw
  (try simp only [cv_95_2])
  exact ⟨rfl, trivial⟩
theorem qSized (n : Value) : CallV Tryd.prog Z 114 #[.pointer none, n] w fun r w' => r = .slice none 0 0 ∧ w' = w := by
  refine f114.calls ?_
  unfold f114.sh
  refine (qMark Z).mono fun r w1 ⟨hr, hw⟩ => ?_
  subst hr; subst hw
  refine (qInt32 Z).mono fun r w1 ⟨hr, hw⟩ => ?_
  subst hr; subst hw
  (try simp only [cv_21_3, o_lss])
  refine (qOpen Z).mono fun r w1 ⟨hr, hw⟩ => ?_
  subst hr; subst hw
  (try simp only [o_not, Bool.not_false, condT])
  exact ⟨trivial, trivial⟩
theorem qText (n : Value) : CallV Tryd.prog Z 69 #[.pointer none, n] w fun r w' => r = .string (str []) ∧ w' = w := by
  refine f69.calls ?_
  unfold f69.sh
  refine (qSized Z n).mono fun r w1 ⟨hr, hw⟩ => ?_
  subst hr; subst hw
  exact r1 (run_toString Tryd.underlying22 Tryd.underlying5 Tryd.underlying9 (l := []) ⟨rfl, by simp [maxLen], .inl ⟨0, rfl, rfl⟩⟩) ⟨rfl, rfl⟩
theorem qBuffer (n : Value) (h : St o w R) : CallV Tryd.prog Z 70 #[.pointer none, n] w fun r w' => St o w' (own 5 1 r 0 (cb []) :: R) := by
  refine f70.calls ?_
  unfold f70.sh
  refine (qSized Z n).mono fun r w1 ⟨hr, hw⟩ => ?_
  subst hr; subst hw
  have hz : Rd w1 1 (.slice none 0 0) 0 (cb []) := ⟨rfl, by simp [maxLen], .inl ⟨0, rfl, rfl⟩⟩
  exact r_append el22 (h.own_nil 5 1) (hz.src Tryd.underlying22 (cb_ones _)) (by omega) (by simp only [maxLen]; omega) fun v' w2 hS => hS
theorem qErr : CallV Tryd.prog Z 79 #[.pointer none] w fun r w' => r = .int .i64 1 ∧ w' = w := by
  refine f79.calls ?_
  unfold f79.sh
  refine (qNone Z).mono fun r w1 ⟨hr, hw⟩ => ?_
  subst hr; subst hw
  (try simp only [condT])
  exact ⟨trivial, trivial⟩
theorem qEnd : CallV Tryd.prog Z 45 #[.pointer none] w fun r w' => r = .int .i64 1 ∧ w' = w := by
  refine f45.calls ?_
  unfold f45.sh
  refine (qOpen Z).mono fun r w1 ⟨hr, hw⟩ => ?_
  subst hr; subst hw
  (try simp only [o_pickF, condF, guardW_ft])
  exact (qErr Z).mono fun r w1 h => h
theorem qFail (e : Value) : CallV Tryd.prog Z 67 #[.pointer none, e] w fun r w' => w' = w := by
  refine f67.calls ?_
  unfold f67.sh
  refine (qOpen Z).mono fun r w1 ⟨hr, hw⟩ => ?_
  subst hr; subst hw
  (try simp only [condF])
end
end Go.Proofs.YtfjolpjlajjigaaDoor
