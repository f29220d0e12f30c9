/- Floats: what the document's Bits asks of them; that it ends. -/
import Derived.Test.YtpdehbbkpekoiaaGreatDoorP1
import Derived.Test.YtpdehbbkpekoiaaGreatDoorShFl
set_option linter.unusedVariables false
set_option linter.unusedSimpArgs false
namespace Go.Proofs.YtpdehbbkpekoiaaGreatDoor
open Go.Sh
theorem cmp_ge (V c : Nat) (h : c ≤ V) : (some (compare V c) == some Ordering.gt || some (compare V c) == some Ordering.eq) = true := by
  rcases Nat.lt_or_eq_of_le h with h | h
  · rw [Nat.compare_eq_gt.2 h]; rfl
  · rw [h, Nat.compare_eq_eq.2 rfl]; rfl
theorem cmp_nge (V c : Nat) (h : ¬ c ≤ V) : (some (compare V c) == some Ordering.gt || some (compare V c) == some Ordering.eq) = false := by
  rw [Nat.compare_eq_lt.2 (by omega)]; rfl
theorem cmp_lt (V c : Nat) (h : V < c) : (some (compare V c) == some Ordering.lt) = true := by rw [Nat.compare_eq_lt.2 h]; rfl
theorem cmp_nlt (V c : Nat) (h : ¬ V < c) : (some (compare V c) == some Ordering.lt) = false := by
  rcases Nat.lt_or_eq_of_le (Nat.le_of_not_lt h) with h | h
  · rw [Nat.compare_eq_gt.2 h]; rfl
  · rw [h, Nat.compare_eq_eq.2 rfl]; rfl
def nanW : Nat := 9221120237041090560
/-- A float that came in: no number; or a sign and a rung up to infinity's. -/
theorem fl_cases (b : Nat) (hb : b < 18446744073709551616) : (dd.order b b = none) ∨ ∃ s r, b = wd s r ∧ r ≤ 9218868437227405312 ∧ dd.order b b = some .eq := by
  obtain ⟨s, r, rfl, hr⟩ := wd_of b hb
  by_cases h : r ≤ 9218868437227405312
  · refine .inr ⟨s, r, rfl, h, ?_⟩
    have hrd := read_wd s r hr
    by_cases h1 : r < 4503599627370496
    · rw [if_pos h1] at hrd; exact order_self_num _ _ _ _ hrd
    · rw [if_neg h1] at hrd
      by_cases h2 : r < 9218868437227405312
      · rw [if_pos h2] at hrd; exact order_self_num _ _ _ _ hrd
      · have : r = 9218868437227405312 := by omega
        rw [if_neg h2, if_pos this] at hrd
        unfold Ieee.Format.order
        rw [hrd]
        simp only [Ieee.Datum.order]
        rw [Nat.compare_eq_eq.2 rfl]
  · refine .inl ?_
    have hrd := read_wd s r hr
    rw [if_neg (by omega), if_neg (by omega), if_neg (by omega)] at hrd
    unfold Ieee.Format.order
    rw [hrd]
    rfl
section
variable (Z : List PanicEntry → World → Prop) {o w : World} {R : List HProp}
end
end Go.Proofs.YtpdehbbkpekoiaaGreatDoor
