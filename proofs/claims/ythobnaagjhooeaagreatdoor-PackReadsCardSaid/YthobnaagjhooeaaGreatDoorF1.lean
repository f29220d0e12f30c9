/- Floats: what the document's Bits asks of them; that it ends. -/
import Derived.Test.YthobnaagjhooeaaGreatDoorP1
import Derived.Test.YthobnaagjhooeaaGreatDoorShFl
set_option linter.unusedVariables false
set_option linter.unusedSimpArgs false
namespace Go.Proofs.YthobnaagjhooeaaGreatDoor
open Go.Sh
theorem fl_cases (b : Nat) (hb : b < 18446744073709551616) : (dd.order b b = none) ∨ ∃ s r, b = wd s r ∧ r ≤ 9218868437227405312 ∧ dd.order b b = some .eq := by
  obtain ⟨s, r, rfl, hr⟩ := wd_of b hb
  by_cases h : r ≤ 9218868437227405312
  · refine .inr ⟨s, r, rfl, h, ?_⟩
    have hrd := read_wd s r hr
    by_cases h1 : r < 4503599627370496
    · rw [if_pos h1] at hrd; exact order_self_num _ _ _ _ hrd
    · rw [if_neg h1] at hrd
      by_cases h2 : r < 9218868437227405312
      · rw [if_pos h2] at hrd; exact order_self_num _ _ _ _ hrd
      · have : r = 9218868437227405312 := by omega
        rw [if_neg h2, if_pos this] at hrd
        unfold Ieee.Format.order
        rw [hrd]
        simp only [Ieee.Datum.order]
        rw [Nat.compare_eq_eq.2 rfl]
  · refine .inl ?_
    have hrd := read_wd s r hr
    rw [if_neg (by omega), if_neg (by omega), if_neg (by omega)] at hrd
    unfold Ieee.Format.order
    rw [hrd]
    rfl
section
variable (Z : List PanicEntry → World → Prop) {o w : World} {R : List HProp}
end
end Go.Proofs.YthobnaagjhooeaaGreatDoor
