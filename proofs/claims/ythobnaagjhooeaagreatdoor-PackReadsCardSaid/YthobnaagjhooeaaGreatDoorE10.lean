/- EqFloats of two floats that are one word, or both no numbers. -/
import Derived.Test.YthobnaagjhooeaaGreatDoorE9
set_option linter.unusedVariables false
set_option linter.unusedSimpArgs false
namespace Go.Proofs.YthobnaagjhooeaaGreatDoor
open Go.Sh
section
variable (Z : List PanicEntry → World → Prop) {o w : World} {R : List HProp}
theorem eqFl (c d : Nat) (hc : c < 18446744073709551616) (h : c = d ∨ dd.order c c = none ∧ dd.order d d = none) : CallV Tryz.prog Z 51 #[.float .f64 c, .float .f64 d] w fun r w' => r = .bool true ∧ w' = w := by
  refine f51.calls ?_
  unfold f51.sh
  refine r1 (run_fl_neq _ _ _ _ _ _) ?_
  have hcase : (dd.order c c = none ∧ dd.order d d = none) ∨ (c = d ∧ ∃ s r, c = wd s r ∧ r ≤ 9218868437227405312 ∧ dd.order c c = some .eq) := by
    rcases h with rfl | h
    · rcases fl_cases c hc with h | h
      · exact .inl ⟨h, h⟩
      · exact .inr ⟨rfl, h⟩
    · exact .inl h
  rcases hcase with ⟨hc1, hd1⟩ | ⟨rfl, s, r, hsr, hr, heq⟩
  · rw [hc1]
    simp only [show ((none : Option Ordering) != some .eq) = true by rfl]
    (try simp only [o_pickT, condT, guardW_tf])
    refine r1 (run_fl_neq _ _ _ _ _ _) ?_
    rw [hc1]
    simp only [show ((none : Option Ordering) != some .eq) = true by rfl]
    (try simp only [o_pickT, guardW_true])
    refine r1 (run_fl_neq _ _ _ _ _ _) ?_
    rw [hd1]
    simp only [show ((none : Option Ordering) != some .eq) = true by rfl]
    skip
    exact ⟨by first | rfl | trivial, by first | rfl | trivial⟩
  · rw [heq]
    simp only [show (some Ordering.eq != some .eq) = false by rfl]
    (try simp only [o_pickF, guardW_ff])
    refine r1 (run_fl_neq _ _ _ _ _ _) ?_
    rw [heq]
    simp only [show (some Ordering.eq != some .eq) = false by rfl]
    (try simp only [condF])
    refine r1 (run_fl_eql _ _ _ _ _ _) ?_
    rw [heq]
    simp only [show (some Ordering.eq == some .eq) = true by rfl]
    (try simp only [o_pickT, guardW_true])
    refine r1 (run_fl_neq _ _ _ _ _ _) ?_
    by_cases hz : dd.order c 0 = some .eq
    · rw [hz]
      simp only [show (some Ordering.eq != some .eq) = false by rfl]
      (try simp only [o_pickF, guardW_ff])
      have hdiv : ∃ q, dd.div 4607182418800017408 c = some q ∧ dd.order q q = some .eq := by
        by_cases h0 : r = 0
        · subst h0
          subst hsr
          cases s
          · exact ⟨9218868437227405312, by decide +kernel, by decide +kernel⟩
          · exact ⟨18442240474082181120, by decide +kernel, by decide +kernel⟩
        · exfalso
          have h1 : (dd.order (wd s r) 0 != some .eq) = true := by
            have hzr : dd.read 0 = .number false 0 (-1074 + ((0 : Nat) : Int)) := read_zero false
            by_cases hinf : r = 9218868437227405312
            · subst hinf
              unfold Ieee.Format.order
              rw [read_infw, hzr]
              cases s <;> rfl
            · obtain ⟨V, hf, hrV, hlog⟩ := rung_V r (by omega) (by omega)
              rw [hrV]
              obtain ⟨U, hVU, h0, hU, hrd⟩ := read_Fit s hf (rungOf_lt hf hlog)
              unfold Ieee.Format.order
              rw [hrd, hzr]
              simp only [Ieee.Datum.order, Ieee.signed, Nat.shiftLeft_eq, Bool.false_eq_true, if_false, Nat.zero_mul]
              have hp : 0 < U * 2 ^ (-1074 + ((V.log2 - 52 : Nat) : Int) - min (-1074 + ((V.log2 - 52 : Nat) : Int)) (-1074 + ((0 : Nat) : Int))).toNat := Nat.mul_pos h0 (Nat.pos_of_neZero _)
              cases s with
              | true =>
                simp only [if_true]
                rw [Int.compare_eq_lt.2 (by omega)]
                rfl
              | false =>
                simp only [Bool.false_eq_true, if_false]
                rw [Int.compare_eq_gt.2 (by omega)]
                rfl
          rw [← hsr, hz] at h1
          simp at h1
      obtain ⟨q, hq, hqq⟩ := hdiv
      refine r1 (run_fl_div _ _ _ _ hq _) ?_
      skip
      refine r1 (run_fl_div _ _ _ _ hq _) ?_
      skip
      refine r1 (run_fl_eql _ _ _ _ _ _) ?_
      rw [hqq]
      simp only [show (some Ordering.eq == some .eq) = true by rfl]
      skip
      exact ⟨by first | rfl | trivial, by first | rfl | trivial⟩
    · have e1 : (dd.order c 0 != some .eq) = true := by simpa using hz
      rw [e1]
      (try simp only [o_pickT, guardW_tf])
      exact ⟨by first | rfl | trivial, by first | rfl | trivial⟩
end
end Go.Proofs.YthobnaagjhooeaaGreatDoor
