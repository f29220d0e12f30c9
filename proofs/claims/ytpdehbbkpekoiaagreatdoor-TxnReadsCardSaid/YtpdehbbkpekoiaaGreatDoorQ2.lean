/- A Bag's lists: put in, held apart. Printed by wip/sh/mkbag.py. -/
import Derived.Test.YtpdehbbkpekoiaaGreatDoorQ1
set_option linter.unusedVariables false
set_option linter.unusedSimpArgs false
namespace Go.Proofs.YtpdehbbkpekoiaaGreatDoor
open Go.Sh
section
variable (Z : List PanicEntry → World → Prop) {o w : World} {R As : List HProp}
theorem nilGrownInts (c : Nat) : CallV Tryz.prog Z 111 #[.slice none 0 0, .int .i64 c] w fun r w' => r = .bool true ∧ w' = w := by
  refine f111.calls ?_
  unfold f111.sh
  refine ⟨fun m x y w' => x = .slice none 0 0 ∧ y = .int .i64 0 ∧ w' = w, ⟨0, rfl, rfl, rfl⟩, ?_⟩
  rintro m _ _ w1 ⟨rfl, rfl, rfl⟩ _
  have z0 : ¬ ((0 : Int) < ((0 : Nat) : Int)) := by decide
  (try simp only [ln_46_3, o_lss, z0, decide_false, condF])
  refine ⟨fun m y w' => y = .int .i64 0 ∧ w' = w1, ⟨0, rfl, rfl⟩, ?_⟩
  rintro m _ w2 ⟨rfl, rfl⟩ _
  (try simp only [o_lss, z0, decide_false, condF])
  exact ⟨by first | rfl | trivial, by first | rfl | trivial⟩
theorem nilApartInts : CallV Tryz.prog Z 45 #[.slice none 0 0] w fun r w' => r = .bool true ∧ w' = w := by
  refine f45.calls ?_
  unfold f45.sh
  have z0 : ¬ ((0 : Int) < ((0 : Nat) : Int)) := by decide
  refine ⟨fun m y w' => y = .int .i64 0 ∧ w' = w, ⟨0, rfl, rfl⟩, ?_⟩
  rintro m _ w1 ⟨rfl, rfl⟩ _
  (try simp only [ln_46_3, o_lss, z0, decide_false, condF])
  refine (nilGrownInts Z 1).mono fun r w3 ⟨hr, hw⟩ => ?_
  subst hr; subst hw
  refine (nilGrownInts Z 24).mono fun r w3 ⟨hr, hw⟩ => ?_
  subst hr; subst hw
  (try simp only [o_pickT, guardW_true])
  exact ⟨by first | rfl | trivial, by first | rfl | trivial⟩
theorem nilGrownTexts (c : Nat) : CallV Tryz.prog Z 112 #[.slice none 0 0, .int .i64 c] w fun r w' => r = .bool true ∧ w' = w := by
  refine f112.calls ?_
  unfold f112.sh
  refine ⟨fun m x y w' => x = .slice none 0 0 ∧ y = .int .i64 0 ∧ w' = w, ⟨0, rfl, rfl, rfl⟩, ?_⟩
  rintro m _ _ w1 ⟨rfl, rfl, rfl⟩ _
  have z0 : ¬ ((0 : Int) < ((0 : Nat) : Int)) := by decide
  (try simp only [ln_47_3, o_lss, z0, decide_false, condF])
  refine ⟨fun m y w' => y = .int .i64 0 ∧ w' = w1, ⟨0, rfl, rfl⟩, ?_⟩
  rintro m _ w2 ⟨rfl, rfl⟩ _
  (try simp only [o_lss, z0, decide_false, condF])
  exact ⟨by first | rfl | trivial, by first | rfl | trivial⟩
theorem nilApartTexts : CallV Tryz.prog Z 46 #[.slice none 0 0] w fun r w' => r = .bool true ∧ w' = w := by
  refine f46.calls ?_
  unfold f46.sh
  have z0 : ¬ ((0 : Int) < ((0 : Nat) : Int)) := by decide
  refine ⟨fun m y w' => y = .int .i64 0 ∧ w' = w, ⟨0, rfl, rfl⟩, ?_⟩
  rintro m _ w1 ⟨rfl, rfl⟩ _
  (try simp only [ln_47_3, o_lss, z0, decide_false, condF])
  refine (nilGrownTexts Z 1).mono fun r w3 ⟨hr, hw⟩ => ?_
  subst hr; subst hw
  refine (nilGrownTexts Z 24).mono fun r w3 ⟨hr, hw⟩ => ?_
  subst hr; subst hw
  (try simp only [o_pickT, guardW_true])
  exact ⟨by first | rfl | trivial, by first | rfl | trivial⟩
theorem nilGrownPieces (c : Nat) : CallV Tryz.prog Z 113 #[.slice none 0 0, .int .i64 c] w fun r w' => r = .bool true ∧ w' = w := by
  refine f113.calls ?_
  unfold f113.sh
  refine ⟨fun m x y w' => x = .slice none 0 0 ∧ y = .int .i64 0 ∧ w' = w, ⟨0, rfl, rfl, rfl⟩, ?_⟩
  rintro m _ _ w1 ⟨rfl, rfl, rfl⟩ _
  have z0 : ¬ ((0 : Int) < ((0 : Nat) : Int)) := by decide
  (try simp only [ln_48_3, o_lss, z0, decide_false, condF])
  refine ⟨fun m y w' => y = .int .i64 0 ∧ w' = w1, ⟨0, rfl, rfl⟩, ?_⟩
  rintro m _ w2 ⟨rfl, rfl⟩ _
  (try simp only [o_lss, z0, decide_false, condF])
  exact ⟨by first | rfl | trivial, by first | rfl | trivial⟩
theorem nilApartPieces : CallV Tryz.prog Z 47 #[.slice none 0 0] w fun r w' => r = .bool true ∧ w' = w := by
  refine f47.calls ?_
  unfold f47.sh
  have z0 : ¬ ((0 : Int) < ((0 : Nat) : Int)) := by decide
  refine ⟨fun m y w' => y = .int .i64 0 ∧ w' = w, ⟨0, rfl, rfl⟩, ?_⟩
  rintro m _ w1 ⟨rfl, rfl⟩ _
  (try simp only [ln_48_3, o_lss, z0, decide_false, condF])
  refine (nilGrownPieces Z 1).mono fun r w3 ⟨hr, hw⟩ => ?_
  subst hr; subst hw
  refine (nilGrownPieces Z 24).mono fun r w3 ⟨hr, hw⟩ => ?_
  subst hr; subst hw
  (try simp only [o_pickT, guardW_true])
  exact ⟨by first | rfl | trivial, by first | rfl | trivial⟩
theorem nilGrownTxns (c : Nat) : CallV Tryz.prog Z 117 #[.slice none 0 0, .int .i64 c] w fun r w' => r = .bool true ∧ w' = w := by
  refine f117.calls ?_
  unfold f117.sh
  refine ⟨fun m x y w' => x = .slice none 0 0 ∧ y = .int .i64 0 ∧ w' = w, ⟨0, rfl, rfl, rfl⟩, ?_⟩
  rintro m _ _ w1 ⟨rfl, rfl, rfl⟩ _
  have z0 : ¬ ((0 : Int) < ((0 : Nat) : Int)) := by decide
  (try simp only [ln_52_3, o_lss, z0, decide_false, condF])
  refine ⟨fun m y w' => y = .int .i64 0 ∧ w' = w1, ⟨0, rfl, rfl⟩, ?_⟩
  rintro m _ w2 ⟨rfl, rfl⟩ _
  (try simp only [o_lss, z0, decide_false, condF])
  exact ⟨by first | rfl | trivial, by first | rfl | trivial⟩
theorem nilApartTxns : CallV Tryz.prog Z 51 #[.slice none 0 0] w fun r w' => r = .bool true ∧ w' = w := by
  refine f51.calls ?_
  unfold f51.sh
  have z0 : ¬ ((0 : Int) < ((0 : Nat) : Int)) := by decide
  refine ⟨fun m y w' => y = .int .i64 0 ∧ w' = w, ⟨0, rfl, rfl⟩, ?_⟩
  rintro m _ w1 ⟨rfl, rfl⟩ _
  (try simp only [ln_52_3, o_lss, z0, decide_false, condF])
  refine (nilGrownTxns Z 1).mono fun r w3 ⟨hr, hw⟩ => ?_
  subst hr; subst hw
  refine (nilGrownTxns Z 24).mono fun r w3 ⟨hr, hw⟩ => ?_
  subst hr; subst hw
  (try simp only [o_pickT, guardW_true])
  exact ⟨by first | rfl | trivial, by first | rfl | trivial⟩
theorem nilGrownResults (c : Nat) : CallV Tryz.prog Z 118 #[.slice none 0 0, .int .i64 c] w fun r w' => r = .bool true ∧ w' = w := by
  refine f118.calls ?_
  unfold f118.sh
  refine ⟨fun m x y w' => x = .slice none 0 0 ∧ y = .int .i64 0 ∧ w' = w, ⟨0, rfl, rfl, rfl⟩, ?_⟩
  rintro m _ _ w1 ⟨rfl, rfl, rfl⟩ _
  have z0 : ¬ ((0 : Int) < ((0 : Nat) : Int)) := by decide
  (try simp only [ln_53_3, o_lss, z0, decide_false, condF])
  refine ⟨fun m y w' => y = .int .i64 0 ∧ w' = w1, ⟨0, rfl, rfl⟩, ?_⟩
  rintro m _ w2 ⟨rfl, rfl⟩ _
  (try simp only [o_lss, z0, decide_false, condF])
  exact ⟨by first | rfl | trivial, by first | rfl | trivial⟩
theorem nilApartResults : CallV Tryz.prog Z 52 #[.slice none 0 0] w fun r w' => r = .bool true ∧ w' = w := by
  refine f52.calls ?_
  unfold f52.sh
  have z0 : ¬ ((0 : Int) < ((0 : Nat) : Int)) := by decide
  refine ⟨fun m y w' => y = .int .i64 0 ∧ w' = w, ⟨0, rfl, rfl⟩, ?_⟩
  rintro m _ w1 ⟨rfl, rfl⟩ _
  (try simp only [ln_53_3, o_lss, z0, decide_false, condF])
  refine (nilGrownResults Z 1).mono fun r w3 ⟨hr, hw⟩ => ?_
  subst hr; subst hw
  refine (nilGrownResults Z 24).mono fun r w3 ⟨hr, hw⟩ => ?_
  subst hr; subst hw
  (try simp only [o_pickT, guardW_true])
  exact ⟨by first | rfl | trivial, by first | rfl | trivial⟩
theorem nilGrownNodes (c : Nat) : CallV Tryz.prog Z 119 #[.slice none 0 0, .int .i64 c] w fun r w' => r = .bool true ∧ w' = w := by
  refine f119.calls ?_
  unfold f119.sh
  refine ⟨fun m x y w' => x = .slice none 0 0 ∧ y = .int .i64 0 ∧ w' = w, ⟨0, rfl, rfl, rfl⟩, ?_⟩
  rintro m _ _ w1 ⟨rfl, rfl, rfl⟩ _
  have z0 : ¬ ((0 : Int) < ((0 : Nat) : Int)) := by decide
  (try simp only [ln_54_3, o_lss, z0, decide_false, condF])
  refine ⟨fun m y w' => y = .int .i64 0 ∧ w' = w1, ⟨0, rfl, rfl⟩, ?_⟩
  rintro m _ w2 ⟨rfl, rfl⟩ _
  (try simp only [o_lss, z0, decide_false, condF])
  exact ⟨by first | rfl | trivial, by first | rfl | trivial⟩
theorem nilApartNodes : CallV Tryz.prog Z 53 #[.slice none 0 0] w fun r w' => r = .bool true ∧ w' = w := by
  refine f53.calls ?_
  unfold f53.sh
  have z0 : ¬ ((0 : Int) < ((0 : Nat) : Int)) := by decide
  refine ⟨fun m y w' => y = .int .i64 0 ∧ w' = w, ⟨0, rfl, rfl⟩, ?_⟩
  rintro m _ w1 ⟨rfl, rfl⟩ _
  (try simp only [ln_54_3, o_lss, z0, decide_false, condF])
  refine (nilGrownNodes Z 1).mono fun r w3 ⟨hr, hw⟩ => ?_
  subst hr; subst hw
  refine (nilGrownNodes Z 24).mono fun r w3 ⟨hr, hw⟩ => ?_
  subst hr; subst hw
  (try simp only [o_pickT, guardW_true])
  exact ⟨by first | rfl | trivial, by first | rfl | trivial⟩
theorem nilGrownSessions (c : Nat) : CallV Tryz.prog Z 120 #[.slice none 0 0, .int .i64 c] w fun r w' => r = .bool true ∧ w' = w := by
  refine f120.calls ?_
  unfold f120.sh
  refine ⟨fun m x y w' => x = .slice none 0 0 ∧ y = .int .i64 0 ∧ w' = w, ⟨0, rfl, rfl, rfl⟩, ?_⟩
  rintro m _ _ w1 ⟨rfl, rfl, rfl⟩ _
  have z0 : ¬ ((0 : Int) < ((0 : Nat) : Int)) := by decide
  (try simp only [ln_55_3, o_lss, z0, decide_false, condF])
  refine ⟨fun m y w' => y = .int .i64 0 ∧ w' = w1, ⟨0, rfl, rfl⟩, ?_⟩
  rintro m _ w2 ⟨rfl, rfl⟩ _
  (try simp only [o_lss, z0, decide_false, condF])
  exact ⟨by first | rfl | trivial, by first | rfl | trivial⟩
theorem nilApartSessions : CallV Tryz.prog Z 54 #[.slice none 0 0] w fun r w' => r = .bool true ∧ w' = w := by
  refine f54.calls ?_
  unfold f54.sh
  have z0 : ¬ ((0 : Int) < ((0 : Nat) : Int)) := by decide
  refine ⟨fun m y w' => y = .int .i64 0 ∧ w' = w, ⟨0, rfl, rfl⟩, ?_⟩
  rintro m _ w1 ⟨rfl, rfl⟩ _
  (try simp only [ln_55_3, o_lss, z0, decide_false, condF])
  refine (nilGrownSessions Z 1).mono fun r w3 ⟨hr, hw⟩ => ?_
  subst hr; subst hw
  refine (nilGrownSessions Z 24).mono fun r w3 ⟨hr, hw⟩ => ?_
  subst hr; subst hw
  (try simp only [o_pickT, guardW_true])
  exact ⟨by first | rfl | trivial, by first | rfl | trivial⟩
theorem nilGrownChanges (c : Nat) : CallV Tryz.prog Z 121 #[.slice none 0 0, .int .i64 c] w fun r w' => r = .bool true ∧ w' = w := by
  refine f121.calls ?_
  unfold f121.sh
  refine ⟨fun m x y w' => x = .slice none 0 0 ∧ y = .int .i64 0 ∧ w' = w, ⟨0, rfl, rfl, rfl⟩, ?_⟩
  rintro m _ _ w1 ⟨rfl, rfl, rfl⟩ _
  have z0 : ¬ ((0 : Int) < ((0 : Nat) : Int)) := by decide
  (try simp only [ln_56_3, o_lss, z0, decide_false, condF])
  refine ⟨fun m y w' => y = .int .i64 0 ∧ w' = w1, ⟨0, rfl, rfl⟩, ?_⟩
  rintro m _ w2 ⟨rfl, rfl⟩ _
  (try simp only [o_lss, z0, decide_false, condF])
  exact ⟨by first | rfl | trivial, by first | rfl | trivial⟩
theorem nilApartChanges : CallV Tryz.prog Z 55 #[.slice none 0 0] w fun r w' => r = .bool true ∧ w' = w := by
  refine f55.calls ?_
  unfold f55.sh
  have z0 : ¬ ((0 : Int) < ((0 : Nat) : Int)) := by decide
  refine ⟨fun m y w' => y = .int .i64 0 ∧ w' = w, ⟨0, rfl, rfl⟩, ?_⟩
  rintro m _ w1 ⟨rfl, rfl⟩ _
  (try simp only [ln_56_3, o_lss, z0, decide_false, condF])
  refine (nilGrownChanges Z 1).mono fun r w3 ⟨hr, hw⟩ => ?_
  subst hr; subst hw
  refine (nilGrownChanges Z 24).mono fun r w3 ⟨hr, hw⟩ => ?_
  subst hr; subst hw
  (try simp only [o_pickT, guardW_true])
  exact ⟨by first | rfl | trivial, by first | rfl | trivial⟩
theorem nilGrownFiles (c : Nat) : CallV Tryz.prog Z 122 #[.slice none 0 0, .int .i64 c] w fun r w' => r = .bool true ∧ w' = w := by
  refine f122.calls ?_
  unfold f122.sh
  refine ⟨fun m x y w' => x = .slice none 0 0 ∧ y = .int .i64 0 ∧ w' = w, ⟨0, rfl, rfl, rfl⟩, ?_⟩
  rintro m _ _ w1 ⟨rfl, rfl, rfl⟩ _
  have z0 : ¬ ((0 : Int) < ((0 : Nat) : Int)) := by decide
  (try simp only [ln_57_3, o_lss, z0, decide_false, condF])
  refine ⟨fun m y w' => y = .int .i64 0 ∧ w' = w1, ⟨0, rfl, rfl⟩, ?_⟩
  rintro m _ w2 ⟨rfl, rfl⟩ _
  (try simp only [o_lss, z0, decide_false, condF])
  exact ⟨by first | rfl | trivial, by first | rfl | trivial⟩
theorem nilApartFiles : CallV Tryz.prog Z 56 #[.slice none 0 0] w fun r w' => r = .bool true ∧ w' = w := by
  refine f56.calls ?_
  unfold f56.sh
  have z0 : ¬ ((0 : Int) < ((0 : Nat) : Int)) := by decide
  refine ⟨fun m y w' => y = .int .i64 0 ∧ w' = w, ⟨0, rfl, rfl⟩, ?_⟩
  rintro m _ w1 ⟨rfl, rfl⟩ _
  (try simp only [ln_57_3, o_lss, z0, decide_false, condF])
  refine (nilGrownFiles Z 1).mono fun r w3 ⟨hr, hw⟩ => ?_
  subst hr; subst hw
  refine (nilGrownFiles Z 24).mono fun r w3 ⟨hr, hw⟩ => ?_
  subst hr; subst hw
  (try simp only [o_pickT, guardW_true])
  exact ⟨by first | rfl | trivial, by first | rfl | trivial⟩
theorem nilGrownPackets (c : Nat) : CallV Tryz.prog Z 123 #[.slice none 0 0, .int .i64 c] w fun r w' => r = .bool true ∧ w' = w := by
  refine f123.calls ?_
  unfold f123.sh
  refine ⟨fun m x y w' => x = .slice none 0 0 ∧ y = .int .i64 0 ∧ w' = w, ⟨0, rfl, rfl, rfl⟩, ?_⟩
  rintro m _ _ w1 ⟨rfl, rfl, rfl⟩ _
  have z0 : ¬ ((0 : Int) < ((0 : Nat) : Int)) := by decide
  (try simp only [ln_58_3, o_lss, z0, decide_false, condF])
  refine ⟨fun m y w' => y = .int .i64 0 ∧ w' = w1, ⟨0, rfl, rfl⟩, ?_⟩
  rintro m _ w2 ⟨rfl, rfl⟩ _
  (try simp only [o_lss, z0, decide_false, condF])
  exact ⟨by first | rfl | trivial, by first | rfl | trivial⟩
theorem nilApartPackets : CallV Tryz.prog Z 57 #[.slice none 0 0] w fun r w' => r = .bool true ∧ w' = w := by
  refine f57.calls ?_
  unfold f57.sh
  have z0 : ¬ ((0 : Int) < ((0 : Nat) : Int)) := by decide
  refine ⟨fun m y w' => y = .int .i64 0 ∧ w' = w, ⟨0, rfl, rfl⟩, ?_⟩
  rintro m _ w1 ⟨rfl, rfl⟩ _
  (try simp only [ln_58_3, o_lss, z0, decide_false, condF])
  refine (nilGrownPackets Z 1).mono fun r w3 ⟨hr, hw⟩ => ?_
  subst hr; subst hw
  refine (nilGrownPackets Z 24).mono fun r w3 ⟨hr, hw⟩ => ?_
  subst hr; subst hw
  (try simp only [o_pickT, guardW_true])
  exact ⟨by first | rfl | trivial, by first | rfl | trivial⟩
theorem nilGrownMessages (c : Nat) : CallV Tryz.prog Z 124 #[.slice none 0 0, .int .i64 c] w fun r w' => r = .bool true ∧ w' = w := by
  refine f124.calls ?_
  unfold f124.sh
  refine ⟨fun m x y w' => x = .slice none 0 0 ∧ y = .int .i64 0 ∧ w' = w, ⟨0, rfl, rfl, rfl⟩, ?_⟩
  rintro m _ _ w1 ⟨rfl, rfl, rfl⟩ _
  have z0 : ¬ ((0 : Int) < ((0 : Nat) : Int)) := by decide
  (try simp only [ln_59_3, o_lss, z0, decide_false, condF])
  refine ⟨fun m y w' => y = .int .i64 0 ∧ w' = w1, ⟨0, rfl, rfl⟩, ?_⟩
  rintro m _ w2 ⟨rfl, rfl⟩ _
  (try simp only [o_lss, z0, decide_false, condF])
  exact ⟨by first | rfl | trivial, by first | rfl | trivial⟩
theorem nilApartMessages : CallV Tryz.prog Z 58 #[.slice none 0 0] w fun r w' => r = .bool true ∧ w' = w := by
  refine f58.calls ?_
  unfold f58.sh
  have z0 : ¬ ((0 : Int) < ((0 : Nat) : Int)) := by decide
  refine ⟨fun m y w' => y = .int .i64 0 ∧ w' = w, ⟨0, rfl, rfl⟩, ?_⟩
  rintro m _ w1 ⟨rfl, rfl⟩ _
  (try simp only [ln_59_3, o_lss, z0, decide_false, condF])
  refine (nilGrownMessages Z 1).mono fun r w3 ⟨hr, hw⟩ => ?_
  subst hr; subst hw
  refine (nilGrownMessages Z 24).mono fun r w3 ⟨hr, hw⟩ => ?_
  subst hr; subst hw
  (try simp only [o_pickT, guardW_true])
  exact ⟨by first | rfl | trivial, by first | rfl | trivial⟩
theorem nilGrownWatches (c : Nat) : CallV Tryz.prog Z 125 #[.slice none 0 0, .int .i64 c] w fun r w' => r = .bool true ∧ w' = w := by
  refine f125.calls ?_
  unfold f125.sh
  refine ⟨fun m x y w' => x = .slice none 0 0 ∧ y = .int .i64 0 ∧ w' = w, ⟨0, rfl, rfl, rfl⟩, ?_⟩
  rintro m _ _ w1 ⟨rfl, rfl, rfl⟩ _
  have z0 : ¬ ((0 : Int) < ((0 : Nat) : Int)) := by decide
  (try simp only [ln_60_3, o_lss, z0, decide_false, condF])
  refine ⟨fun m y w' => y = .int .i64 0 ∧ w' = w1, ⟨0, rfl, rfl⟩, ?_⟩
  rintro m _ w2 ⟨rfl, rfl⟩ _
  (try simp only [o_lss, z0, decide_false, condF])
  exact ⟨by first | rfl | trivial, by first | rfl | trivial⟩
theorem nilApartWatches : CallV Tryz.prog Z 59 #[.slice none 0 0] w fun r w' => r = .bool true ∧ w' = w := by
  refine f59.calls ?_
  unfold f59.sh
  have z0 : ¬ ((0 : Int) < ((0 : Nat) : Int)) := by decide
  refine ⟨fun m y w' => y = .int .i64 0 ∧ w' = w, ⟨0, rfl, rfl⟩, ?_⟩
  rintro m _ w1 ⟨rfl, rfl⟩ _
  (try simp only [ln_60_3, o_lss, z0, decide_false, condF])
  refine (nilGrownWatches Z 1).mono fun r w3 ⟨hr, hw⟩ => ?_
  subst hr; subst hw
  refine (nilGrownWatches Z 24).mono fun r w3 ⟨hr, hw⟩ => ?_
  subst hr; subst hw
  (try simp only [o_pickT, guardW_true])
  exact ⟨by first | rfl | trivial, by first | rfl | trivial⟩
theorem nilGrownFired (c : Nat) : CallV Tryz.prog Z 126 #[.slice none 0 0, .int .i64 c] w fun r w' => r = .bool true ∧ w' = w := by
  refine f126.calls ?_
  unfold f126.sh
  refine ⟨fun m x y w' => x = .slice none 0 0 ∧ y = .int .i64 0 ∧ w' = w, ⟨0, rfl, rfl, rfl⟩, ?_⟩
  rintro m _ _ w1 ⟨rfl, rfl, rfl⟩ _
  have z0 : ¬ ((0 : Int) < ((0 : Nat) : Int)) := by decide
  (try simp only [ln_61_3, o_lss, z0, decide_false, condF])
  refine ⟨fun m y w' => y = .int .i64 0 ∧ w' = w1, ⟨0, rfl, rfl⟩, ?_⟩
  rintro m _ w2 ⟨rfl, rfl⟩ _
  (try simp only [o_lss, z0, decide_false, condF])
  exact ⟨by first | rfl | trivial, by first | rfl | trivial⟩
theorem nilApartFired : CallV Tryz.prog Z 60 #[.slice none 0 0] w fun r w' => r = .bool true ∧ w' = w := by
  refine f60.calls ?_
  unfold f60.sh
  have z0 : ¬ ((0 : Int) < ((0 : Nat) : Int)) := by decide
  refine ⟨fun m y w' => y = .int .i64 0 ∧ w' = w, ⟨0, rfl, rfl⟩, ?_⟩
  rintro m _ w1 ⟨rfl, rfl⟩ _
  (try simp only [ln_61_3, o_lss, z0, decide_false, condF])
  refine (nilGrownFired Z 1).mono fun r w3 ⟨hr, hw⟩ => ?_
  subst hr; subst hw
  refine (nilGrownFired Z 24).mono fun r w3 ⟨hr, hw⟩ => ?_
  subst hr; subst hw
  (try simp only [o_pickT, guardW_true])
  exact ⟨by first | rfl | trivial, by first | rfl | trivial⟩
theorem nilGrownFacts (c : Nat) : CallV Tryz.prog Z 127 #[.slice none 0 0, .int .i64 c] w fun r w' => r = .bool true ∧ w' = w := by
  refine f127.calls ?_
  unfold f127.sh
  refine ⟨fun m x y w' => x = .slice none 0 0 ∧ y = .int .i64 0 ∧ w' = w, ⟨0, rfl, rfl, rfl⟩, ?_⟩
  rintro m _ _ w1 ⟨rfl, rfl, rfl⟩ _
  have z0 : ¬ ((0 : Int) < ((0 : Nat) : Int)) := by decide
  (try simp only [ln_62_3, o_lss, z0, decide_false, condF])
  refine ⟨fun m y w' => y = .int .i64 0 ∧ w' = w1, ⟨0, rfl, rfl⟩, ?_⟩
  rintro m _ w2 ⟨rfl, rfl⟩ _
  (try simp only [o_lss, z0, decide_false, condF])
  exact ⟨by first | rfl | trivial, by first | rfl | trivial⟩
theorem nilApartFacts : CallV Tryz.prog Z 61 #[.slice none 0 0] w fun r w' => r = .bool true ∧ w' = w := by
  refine f61.calls ?_
  unfold f61.sh
  have z0 : ¬ ((0 : Int) < ((0 : Nat) : Int)) := by decide
  refine ⟨fun m y w' => y = .int .i64 0 ∧ w' = w, ⟨0, rfl, rfl⟩, ?_⟩
  rintro m _ w1 ⟨rfl, rfl⟩ _
  (try simp only [ln_62_3, o_lss, z0, decide_false, condF])
  refine (nilGrownFacts Z 1).mono fun r w3 ⟨hr, hw⟩ => ?_
  subst hr; subst hw
  refine (nilGrownFacts Z 24).mono fun r w3 ⟨hr, hw⟩ => ?_
  subst hr; subst hw
  (try simp only [o_pickT, guardW_true])
  exact ⟨by first | rfl | trivial, by first | rfl | trivial⟩
theorem nilGrownSends (c : Nat) : CallV Tryz.prog Z 128 #[.slice none 0 0, .int .i64 c] w fun r w' => r = .bool true ∧ w' = w := by
  refine f128.calls ?_
  unfold f128.sh
  refine ⟨fun m x y w' => x = .slice none 0 0 ∧ y = .int .i64 0 ∧ w' = w, ⟨0, rfl, rfl, rfl⟩, ?_⟩
  rintro m _ _ w1 ⟨rfl, rfl, rfl⟩ _
  have z0 : ¬ ((0 : Int) < ((0 : Nat) : Int)) := by decide
  (try simp only [ln_63_3, o_lss, z0, decide_false, condF])
  refine ⟨fun m y w' => y = .int .i64 0 ∧ w' = w1, ⟨0, rfl, rfl⟩, ?_⟩
  rintro m _ w2 ⟨rfl, rfl⟩ _
  (try simp only [o_lss, z0, decide_false, condF])
  exact ⟨by first | rfl | trivial, by first | rfl | trivial⟩
theorem nilApartSends : CallV Tryz.prog Z 62 #[.slice none 0 0] w fun r w' => r = .bool true ∧ w' = w := by
  refine f62.calls ?_
  unfold f62.sh
  have z0 : ¬ ((0 : Int) < ((0 : Nat) : Int)) := by decide
  refine ⟨fun m y w' => y = .int .i64 0 ∧ w' = w, ⟨0, rfl, rfl⟩, ?_⟩
  rintro m _ w1 ⟨rfl, rfl⟩ _
  (try simp only [ln_63_3, o_lss, z0, decide_false, condF])
  refine (nilGrownSends Z 1).mono fun r w3 ⟨hr, hw⟩ => ?_
  subst hr; subst hw
  refine (nilGrownSends Z 24).mono fun r w3 ⟨hr, hw⟩ => ?_
  subst hr; subst hw
  (try simp only [o_pickT, guardW_true])
  exact ⟨by first | rfl | trivial, by first | rfl | trivial⟩
theorem nilGrownEvents (c : Nat) : CallV Tryz.prog Z 129 #[.slice none 0 0, .int .i64 c] w fun r w' => r = .bool true ∧ w' = w := by
  refine f129.calls ?_
  unfold f129.sh
  refine ⟨fun m x y w' => x = .slice none 0 0 ∧ y = .int .i64 0 ∧ w' = w, ⟨0, rfl, rfl, rfl⟩, ?_⟩
  rintro m _ _ w1 ⟨rfl, rfl, rfl⟩ _
  have z0 : ¬ ((0 : Int) < ((0 : Nat) : Int)) := by decide
  (try simp only [ln_64_3, o_lss, z0, decide_false, condF])
  refine ⟨fun m y w' => y = .int .i64 0 ∧ w' = w1, ⟨0, rfl, rfl⟩, ?_⟩
  rintro m _ w2 ⟨rfl, rfl⟩ _
  (try simp only [o_lss, z0, decide_false, condF])
  exact ⟨by first | rfl | trivial, by first | rfl | trivial⟩
theorem nilApartEvents : CallV Tryz.prog Z 63 #[.slice none 0 0] w fun r w' => r = .bool true ∧ w' = w := by
  refine f63.calls ?_
  unfold f63.sh
  have z0 : ¬ ((0 : Int) < ((0 : Nat) : Int)) := by decide
  refine ⟨fun m y w' => y = .int .i64 0 ∧ w' = w, ⟨0, rfl, rfl⟩, ?_⟩
  rintro m _ w1 ⟨rfl, rfl⟩ _
  (try simp only [ln_64_3, o_lss, z0, decide_false, condF])
  refine (nilGrownEvents Z 1).mono fun r w3 ⟨hr, hw⟩ => ?_
  subst hr; subst hw
  refine (nilGrownEvents Z 24).mono fun r w3 ⟨hr, hw⟩ => ?_
  subst hr; subst hw
  (try simp only [o_pickT, guardW_true])
  exact ⟨by first | rfl | trivial, by first | rfl | trivial⟩
theorem nilGrownFactss (c : Nat) : CallV Tryz.prog Z 130 #[.slice none 0 0, .int .i64 c] w fun r w' => r = .bool true ∧ w' = w := by
  refine f130.calls ?_
  unfold f130.sh
  refine ⟨fun m x y w' => x = .slice none 0 0 ∧ y = .int .i64 0 ∧ w' = w, ⟨0, rfl, rfl, rfl⟩, ?_⟩
  rintro m _ _ w1 ⟨rfl, rfl, rfl⟩ _
  have z0 : ¬ ((0 : Int) < ((0 : Nat) : Int)) := by decide
  (try simp only [ln_65_3, o_lss, z0, decide_false, condF])
  refine ⟨fun m y w' => y = .int .i64 0 ∧ w' = w1, ⟨0, rfl, rfl⟩, ?_⟩
  rintro m _ w2 ⟨rfl, rfl⟩ _
  (try simp only [o_lss, z0, decide_false, condF])
  exact ⟨by first | rfl | trivial, by first | rfl | trivial⟩
theorem nilApartFactss : CallV Tryz.prog Z 64 #[.slice none 0 0] w fun r w' => r = .bool true ∧ w' = w := by
  refine f64.calls ?_
  unfold f64.sh
  have z0 : ¬ ((0 : Int) < ((0 : Nat) : Int)) := by decide
  refine ⟨fun m y w' => y = .int .i64 0 ∧ w' = w, ⟨0, rfl, rfl⟩, ?_⟩
  rintro m _ w1 ⟨rfl, rfl⟩ _
  (try simp only [ln_65_3, o_lss, z0, decide_false, condF])
  refine (nilGrownFactss Z 1).mono fun r w3 ⟨hr, hw⟩ => ?_
  subst hr; subst hw
  refine (nilGrownFactss Z 24).mono fun r w3 ⟨hr, hw⟩ => ?_
  subst hr; subst hw
  (try simp only [o_pickT, guardW_true])
  exact ⟨by first | rfl | trivial, by first | rfl | trivial⟩
end
def bagP (g : Nat) (b0 b1 b2 b3 : List Value) : HProp := fun h => ∃ (v0 v1 v2 v3 : Value), (b0.length ≤ 600 ∧ b1.length ≤ 600 ∧ b2.length ≤ 600 ∧ b3.length ≤ 600) ∧ sep (blk g 67 [v0, .slice none 0 0, .slice none 0 0, .slice none 0 0, v1, v2, v3, .slice none 0 0, .slice none 0 0, .slice none 0 0, .slice none 0 0, .slice none 0 0, .slice none 0 0, .slice none 0 0, .slice none 0 0, .slice none 0 0, .slice none 0 0, .slice none 0 0, .slice none 0 0, .slice none 0 0, .slice none 0 0]) (satH [own 28 1 v0 b0.length b0, own 30 1 v1 b1.length b1, own 29 1 v2 b2.length b2, own 31 1 v3 b3.length b3]) h
section
variable (Z : List PanicEntry → World → Prop) {o w : World} {R As : List HProp} {g : Nat} {b0 b1 b2 b3 : List Value}
theorem bagP.open (h : St o w (bagP g b0 b1 b2 b3 :: R)) : ∃ (v0 v1 v2 v3 : Value), (b0.length ≤ 600 ∧ b1.length ≤ 600 ∧ b2.length ≤ 600 ∧ b3.length ≤ 600) ∧ St o w (blk g 67 [v0, .slice none 0 0, .slice none 0 0, .slice none 0 0, v1, v2, v3, .slice none 0 0, .slice none 0 0, .slice none 0 0, .slice none 0 0, .slice none 0 0, .slice none 0 0, .slice none 0 0, .slice none 0 0, .slice none 0 0, .slice none 0 0, .slice none 0 0, .slice none 0 0, .slice none 0 0, .slice none 0 0] :: own 28 1 v0 b0.length b0 :: own 30 1 v1 b1.length b1 :: own 29 1 v2 b2.length b2 :: own 31 1 v3 b3.length b3 :: R) := by
  obtain ⟨v0, h⟩ := h.ex
  obtain ⟨v1, h⟩ := h.ex
  obtain ⟨v2, h⟩ := h.ex
  obtain ⟨v3, h⟩ := h.ex
  obtain ⟨hl, h⟩ := h.pure
  have h := h.sep.swap.all
  refine ⟨v0, v1, v2, v3, hl, h.pick 4⟩
theorem bagP.shut {v0 v1 v2 v3 : Value} (hl : b0.length ≤ 600 ∧ b1.length ≤ 600 ∧ b2.length ≤ 600 ∧ b3.length ≤ 600) (h : St o w (blk g 67 [v0, .slice none 0 0, .slice none 0 0, .slice none 0 0, v1, v2, v3, .slice none 0 0, .slice none 0 0, .slice none 0 0, .slice none 0 0, .slice none 0 0, .slice none 0 0, .slice none 0 0, .slice none 0 0, .slice none 0 0, .slice none 0 0, .slice none 0 0, .slice none 0 0, .slice none 0 0, .slice none 0 0] :: own 28 1 v0 b0.length b0 :: own 30 1 v1 b1.length b1 :: own 29 1 v2 b2.length b2 :: own 31 1 v3 b3.length b3 :: R)) : St o w (bagP g b0 b1 b2 b3 :: R) := by
  have h : St o w (satH [own 28 1 v0 b0.length b0, own 30 1 v1 b1.length b1, own 29 1 v2 b2.length b2, own 31 1 v3 b3.length b3] :: blk g 67 [v0, .slice none 0 0, .slice none 0 0, .slice none 0 0, v1, v2, v3, .slice none 0 0, .slice none 0 0, .slice none 0 0, .slice none 0 0, .slice none 0 0, .slice none 0 0, .slice none 0 0, .slice none 0 0, .slice none 0 0, .slice none 0 0, .slice none 0 0, .slice none 0 0, .slice none 0 0, .slice none 0 0] :: R) := St.all_intro (h.put 4)
  have h := h.swap.sep_intro.pure_intro hl
  exact h.mono fun _ hx => ⟨v0, v1, v2, v3, hx⟩
theorem bag_new (h : St o w (blk g 67 [.slice none 0 0, .slice none 0 0, .slice none 0 0, .slice none 0 0, .slice none 0 0, .slice none 0 0, .slice none 0 0, .slice none 0 0, .slice none 0 0, .slice none 0 0, .slice none 0 0, .slice none 0 0, .slice none 0 0, .slice none 0 0, .slice none 0 0, .slice none 0 0, .slice none 0 0, .slice none 0 0, .slice none 0 0, .slice none 0 0, .slice none 0 0] :: R)) : St o w (bagP g [] [] [] [] :: R) := by
  refine bagP.shut (v0 := .slice none 0 0) (v1 := .slice none 0 0) (v2 := .slice none 0 0) (v3 := .slice none 0 0) (by simp) ?_
  have h := h
  have h := h.own_nil 31 1
  have h := h.own_nil 29 1
  have h := h.own_nil 30 1
  have h := h.own_nil 28 1
  exact h.pick 4
theorem bagPushBytes {l : Value} (hl1 : l.oneCell' = true) {Q : World → Prop} (h : St o w (bagP g b0 b1 b2 b3 :: R)) (hq : ∀ b' w', b' = (if b0.length < 600 then b0 ++ [l] else b0) → St o w' (bagP g b' b1 b2 b3 :: R) → Q w') :
    runX Tryz.prog Z (nilChk (.pointer (some ⟨g, 0, none⟩))) w fun t5 w => run1 Tryz.prog Z (Instr.fieldAt 67 t5 0) w fun t6 w => run1 Tryz.prog Z (Instr.loadAt 45 t6) w fun t7 w => run1 Tryz.prog Z (Builtin.len_ #[45] 3 #[t7]) w fun t8 w => run1 Tryz.prog Z (binOp BinOp.lss 3 t8 (Value.int IntKind.i64 600)) w fun t9 w =>
      CondV t9 (runX Tryz.prog Z (nilChk (.pointer (some ⟨g, 0, none⟩))) w fun t12 w => run1 Tryz.prog Z (Instr.fieldAt 67 t12 0) w fun t13 w => run1 Tryz.prog Z (Instr.loadAt 45 t13) w fun t14 w => run1 Tryz.prog Z (Instr.buildSlice 45 1 #[(0, l)]) w fun t16 w => run1 Tryz.prog Z (Builtin.append_ #[45, 45] 45 #[t14, t16]) w fun t17 w => runX Tryz.prog Z (nilChk (.pointer (some ⟨g, 0, none⟩))) w fun t18 w => run1 Tryz.prog Z (Instr.fieldAt 67 t18 0) w fun t19 w => run0 Tryz.prog Z (Instr.storeAt 45 t19 t17) w Q) (Q w) := by
  obtain ⟨v0, v1, v2, v3, ⟨h0, h1, h2, h3⟩, hS⟩ := bagP.open h
  (try simp only [o_chk, fa_67_0, Nat.add_zero])
  refine r_load one45 (hS.at m0 0 rfl) ?_
  refine r1 ((hS.own_rd m1).len sl45 _ rfl _ _) ?_
  by_cases hlt : (b0.length : Int) < 600
  · (try simp only [o_lss, hlt, decide_true, condT])
    refine r_load one45 (hS.at m0 0 rfl) ?_
    refine r_push el45 (hS.pick 1) l hl1 (by omega) (by simp only [maxLen]; omega) fun v' w1 hS => ?_
    have hv' : v'.oneCell' = true := by obtain ⟨_, _, e⟩ := hS.own_form; rw [e]; rfl
    skip
    refine r_store (hS.pick 1) one45 (show 0 < 21 by omega) hv' fun w2 hS => ?_
    have hlen : (b0 ++ [l]).length = b0.length + 1 := by simp
    rw [← hlen] at hS
    exact hq _ _ (by rw [if_pos (by omega)]) (bagP.shut (v0 := v') ⟨(by omega), h1, h2, h3⟩ (hS.swap.put 1))
  · (try simp only [o_lss, hlt, decide_false, condF])
    exact hq _ _ (by rw [if_neg (by omega)]) (bagP.shut ⟨h0, h1, h2, h3⟩ hS)
theorem bagPushIds {l : Value} (hl1 : l.oneCell' = true) {Q : World → Prop} (h : St o w (bagP g b0 b1 b2 b3 :: R)) (hq : ∀ b' w', b' = (if b1.length < 600 then b1 ++ [l] else b1) → St o w' (bagP g b0 b' b2 b3 :: R) → Q w') :
    runX Tryz.prog Z (nilChk (.pointer (some ⟨g, 0, none⟩))) w fun t5 w => run1 Tryz.prog Z (Instr.fieldAt 67 t5 4) w fun t6 w => run1 Tryz.prog Z (Instr.loadAt 49 t6) w fun t7 w => run1 Tryz.prog Z (Builtin.len_ #[49] 3 #[t7]) w fun t8 w => run1 Tryz.prog Z (binOp BinOp.lss 3 t8 (Value.int IntKind.i64 600)) w fun t9 w =>
      CondV t9 (runX Tryz.prog Z (nilChk (.pointer (some ⟨g, 0, none⟩))) w fun t12 w => run1 Tryz.prog Z (Instr.fieldAt 67 t12 4) w fun t13 w => run1 Tryz.prog Z (Instr.loadAt 49 t13) w fun t14 w => run1 Tryz.prog Z (Instr.buildSlice 49 1 #[(0, l)]) w fun t16 w => run1 Tryz.prog Z (Builtin.append_ #[49, 49] 49 #[t14, t16]) w fun t17 w => runX Tryz.prog Z (nilChk (.pointer (some ⟨g, 0, none⟩))) w fun t18 w => run1 Tryz.prog Z (Instr.fieldAt 67 t18 4) w fun t19 w => run0 Tryz.prog Z (Instr.storeAt 49 t19 t17) w Q) (Q w) := by
  obtain ⟨v0, v1, v2, v3, ⟨h0, h1, h2, h3⟩, hS⟩ := bagP.open h
  (try simp only [o_chk, fa_67_4, Nat.zero_add])
  refine r_load one49 (hS.at m0 4 rfl) ?_
  refine r1 ((hS.own_rd m2).len sl49 _ rfl _ _) ?_
  by_cases hlt : (b1.length : Int) < 600
  · (try simp only [o_lss, hlt, decide_true, condT])
    refine r_load one49 (hS.at m0 4 rfl) ?_
    refine r_push el49 (hS.pick 2) l hl1 (by omega) (by simp only [maxLen]; omega) fun v' w1 hS => ?_
    have hv' : v'.oneCell' = true := by obtain ⟨_, _, e⟩ := hS.own_form; rw [e]; rfl
    skip
    refine r_store (hS.pick 1) one49 (show 4 < 21 by omega) hv' fun w2 hS => ?_
    have hlen : (b1 ++ [l]).length = b1.length + 1 := by simp
    rw [← hlen] at hS
    exact hq _ _ (by rw [if_pos (by omega)]) (bagP.shut (v1 := v') ⟨h0, (by omega), h2, h3⟩ (hS.swap.put 2))
  · (try simp only [o_lss, hlt, decide_false, condF])
    exact hq _ _ (by rw [if_neg (by omega)]) (bagP.shut ⟨h0, h1, h2, h3⟩ hS)
theorem bagPushAcl {l : Value} (hl1 : l.oneCell' = true) {Q : World → Prop} (h : St o w (bagP g b0 b1 b2 b3 :: R)) (hq : ∀ b' w', b' = (if b2.length < 600 then b2 ++ [l] else b2) → St o w' (bagP g b0 b1 b' b3 :: R) → Q w') :
    runX Tryz.prog Z (nilChk (.pointer (some ⟨g, 0, none⟩))) w fun t5 w => run1 Tryz.prog Z (Instr.fieldAt 67 t5 5) w fun t6 w => run1 Tryz.prog Z (Instr.loadAt 50 t6) w fun t7 w => run1 Tryz.prog Z (Builtin.len_ #[50] 3 #[t7]) w fun t8 w => run1 Tryz.prog Z (binOp BinOp.lss 3 t8 (Value.int IntKind.i64 600)) w fun t9 w =>
      CondV t9 (runX Tryz.prog Z (nilChk (.pointer (some ⟨g, 0, none⟩))) w fun t12 w => run1 Tryz.prog Z (Instr.fieldAt 67 t12 5) w fun t13 w => run1 Tryz.prog Z (Instr.loadAt 50 t13) w fun t14 w => run1 Tryz.prog Z (Instr.buildSlice 50 1 #[(0, l)]) w fun t16 w => run1 Tryz.prog Z (Builtin.append_ #[50, 50] 50 #[t14, t16]) w fun t17 w => runX Tryz.prog Z (nilChk (.pointer (some ⟨g, 0, none⟩))) w fun t18 w => run1 Tryz.prog Z (Instr.fieldAt 67 t18 5) w fun t19 w => run0 Tryz.prog Z (Instr.storeAt 50 t19 t17) w Q) (Q w) := by
  obtain ⟨v0, v1, v2, v3, ⟨h0, h1, h2, h3⟩, hS⟩ := bagP.open h
  (try simp only [o_chk, fa_67_5, Nat.zero_add])
  refine r_load one50 (hS.at m0 5 rfl) ?_
  refine r1 ((hS.own_rd m3).len sl50 _ rfl _ _) ?_
  by_cases hlt : (b2.length : Int) < 600
  · (try simp only [o_lss, hlt, decide_true, condT])
    refine r_load one50 (hS.at m0 5 rfl) ?_
    refine r_push el50 (hS.pick 3) l hl1 (by omega) (by simp only [maxLen]; omega) fun v' w1 hS => ?_
    have hv' : v'.oneCell' = true := by obtain ⟨_, _, e⟩ := hS.own_form; rw [e]; rfl
    skip
    refine r_store (hS.pick 1) one50 (show 5 < 21 by omega) hv' fun w2 hS => ?_
    have hlen : (b2 ++ [l]).length = b2.length + 1 := by simp
    rw [← hlen] at hS
    exact hq _ _ (by rw [if_pos (by omega)]) (bagP.shut (v2 := v') ⟨h0, h1, (by omega), h3⟩ (hS.swap.put 3))
  · (try simp only [o_lss, hlt, decide_false, condF])
    exact hq _ _ (by rw [if_neg (by omega)]) (bagP.shut ⟨h0, h1, h2, h3⟩ hS)
theorem bagPushRequests {l : Value} (hl1 : l.oneCell' = true) {Q : World → Prop} (h : St o w (bagP g b0 b1 b2 b3 :: R)) (hq : ∀ b' w', b' = (if b3.length < 600 then b3 ++ [l] else b3) → St o w' (bagP g b0 b1 b2 b' :: R) → Q w') :
    runX Tryz.prog Z (nilChk (.pointer (some ⟨g, 0, none⟩))) w fun t5 w => run1 Tryz.prog Z (Instr.fieldAt 67 t5 6) w fun t6 w => run1 Tryz.prog Z (Instr.loadAt 51 t6) w fun t7 w => run1 Tryz.prog Z (Builtin.len_ #[51] 3 #[t7]) w fun t8 w => run1 Tryz.prog Z (binOp BinOp.lss 3 t8 (Value.int IntKind.i64 600)) w fun t9 w =>
      CondV t9 (runX Tryz.prog Z (nilChk (.pointer (some ⟨g, 0, none⟩))) w fun t12 w => run1 Tryz.prog Z (Instr.fieldAt 67 t12 6) w fun t13 w => run1 Tryz.prog Z (Instr.loadAt 51 t13) w fun t14 w => run1 Tryz.prog Z (Instr.buildSlice 51 1 #[(0, l)]) w fun t16 w => run1 Tryz.prog Z (Builtin.append_ #[51, 51] 51 #[t14, t16]) w fun t17 w => runX Tryz.prog Z (nilChk (.pointer (some ⟨g, 0, none⟩))) w fun t18 w => run1 Tryz.prog Z (Instr.fieldAt 67 t18 6) w fun t19 w => run0 Tryz.prog Z (Instr.storeAt 51 t19 t17) w Q) (Q w) := by
  obtain ⟨v0, v1, v2, v3, ⟨h0, h1, h2, h3⟩, hS⟩ := bagP.open h
  (try simp only [o_chk, fa_67_6, Nat.zero_add])
  refine r_load one51 (hS.at m0 6 rfl) ?_
  refine r1 ((hS.own_rd m4).len sl51 _ rfl _ _) ?_
  by_cases hlt : (b3.length : Int) < 600
  · (try simp only [o_lss, hlt, decide_true, condT])
    refine r_load one51 (hS.at m0 6 rfl) ?_
    refine r_push el51 (hS.pick 4) l hl1 (by omega) (by simp only [maxLen]; omega) fun v' w1 hS => ?_
    have hv' : v'.oneCell' = true := by obtain ⟨_, _, e⟩ := hS.own_form; rw [e]; rfl
    skip
    refine r_store (hS.pick 1) one51 (show 6 < 21 by omega) hv' fun w2 hS => ?_
    have hlen : (b3 ++ [l]).length = b3.length + 1 := by simp
    rw [← hlen] at hS
    exact hq _ _ (by rw [if_pos (by omega)]) (bagP.shut (v3 := v') ⟨h0, h1, h2, (by omega)⟩ (hS.swap.put 4))
  · (try simp only [o_lss, hlt, decide_false, condF])
    exact hq _ _ (by rw [if_neg (by omega)]) (bagP.shut ⟨h0, h1, h2, h3⟩ hS)
theorem bagAddBytes {l : Value} (hl1 : l.oneCell' = true) (h : St o w (bagP g b0 b1 b2 b3 :: R)) : CallV Tryz.prog Z 14 #[.pointer (some ⟨g, 0, none⟩), l] w fun r w' => ∃ b', b' = (if b0.length < 600 then b0 ++ [l] else b0) ∧ St o w' (bagP g b' b1 b2 b3 :: R) := by
  refine f14.calls ?_
  unfold f14.sh
  exact bagPushBytes Z hl1 h fun b' w' hb hS => ⟨b', hb, hS⟩
theorem bagAddIds {l : Value} (hl1 : l.oneCell' = true) (h : St o w (bagP g b0 b1 b2 b3 :: R)) : CallV Tryz.prog Z 79 #[.pointer (some ⟨g, 0, none⟩), l] w fun r w' => ∃ b', b' = (if b1.length < 600 then b1 ++ [l] else b1) ∧ St o w' (bagP g b0 b' b2 b3 :: R) := by
  refine f79.calls ?_
  unfold f79.sh
  exact bagPushIds Z hl1 h fun b' w' hb hS => ⟨b', hb, hS⟩
theorem bagAddAcl {l : Value} (hl1 : l.oneCell' = true) (h : St o w (bagP g b0 b1 b2 b3 :: R)) : CallV Tryz.prog Z 78 #[.pointer (some ⟨g, 0, none⟩), l] w fun r w' => ∃ b', b' = (if b2.length < 600 then b2 ++ [l] else b2) ∧ St o w' (bagP g b0 b1 b' b3 :: R) := by
  refine f78.calls ?_
  unfold f78.sh
  exact bagPushAcl Z hl1 h fun b' w' hb hS => ⟨b', hb, hS⟩
set_option maxRecDepth 100000 in
theorem bagApart {es0 es1 es2 es3 : List (Value × Nat)} (hT : Tab o) (ho : old o ∈ R) (h : St o w (bagP g (es0.map Prod.fst) (es1.map Prod.fst) (es2.map Prod.fst) (es3.map Prod.fst) :: rowsX 5 1 1 es0 :: rowsX 120 2 32 es1 :: rowsX 122 3 40 es2 :: rowsX 33 11 144 es3 :: R)) :
    CallV Tryz.prog Z 15 #[.pointer (some ⟨g, 0, none⟩)] w fun r w' => r = .bool true ∧ St o w' (bagP g (es0.map Prod.fst) (es1.map Prod.fst) (es2.map Prod.fst) (es3.map Prod.fst) :: rowsX 5 1 1 es0 :: rowsX 120 2 32 es1 :: rowsX 122 3 40 es2 :: rowsX 33 11 144 es3 :: R) := by
  obtain ⟨v0, v1, v2, v3, ⟨h0, h1, h2, h3⟩, hS⟩ := bagP.open h
  simp only [List.length_map] at hS h0 h1 h2 h3
  refine f15.calls ?_
  unfold f15.sh
  (try simp only [o_chk, fa_67_20, Nat.zero_add, fa_67_19, fa_67_18, fa_67_17, fa_67_16, fa_67_15, fa_67_14, fa_67_13, fa_67_12, fa_67_11, fa_67_10, fa_67_9, fa_67_8, fa_67_7, fa_67_6, fa_67_5, fa_67_4, fa_67_3, fa_67_2, fa_67_1, fa_67_0, Nat.add_zero])
  refine r_load one45 (hS.at m0 0 rfl) ?_
  refine (apartBytes Z h0 hT (by simp [ho]) (fun w hw => hw.own_rd m1) (hS.pick 5)).mono fun r w1 ⟨hr, hS⟩ => ?_
  subst hr
  have hS := hS.put 5
  (try simp only [o_pickT, guardW_true])
  refine r_load one46 (hS.at m0 1 rfl) ?_
  refine (nilApartInts Z).mono fun r w1 ⟨hr, hw⟩ => ?_
  subst hr; subst hw
  (try simp only [o_pickT, guardW_true])
  refine r_load one47 (hS.at m0 2 rfl) ?_
  refine (nilApartTexts Z).mono fun r w1 ⟨hr, hw⟩ => ?_
  subst hr; subst hw
  (try simp only [o_pickT, guardW_true])
  refine r_load one48 (hS.at m0 3 rfl) ?_
  refine (nilApartPieces Z).mono fun r w1 ⟨hr, hw⟩ => ?_
  subst hr; subst hw
  (try simp only [o_pickT, guardW_true])
  refine r_load one49 (hS.at m0 4 rfl) ?_
  refine (apartIds Z h1 hT (by simp [ho]) (fun w hw => hw.own_rd m2) (hS.pick 6)).mono fun r w1 ⟨hr, hS⟩ => ?_
  subst hr
  have hS := hS.put 6
  (try simp only [o_pickT, guardW_true])
  refine r_load one50 (hS.at m0 5 rfl) ?_
  refine (apartAcl Z h2 hT (by simp [ho]) (fun w hw => hw.own_rd m3) (hS.pick 7)).mono fun r w1 ⟨hr, hS⟩ => ?_
  subst hr
  have hS := hS.put 7
  (try simp only [o_pickT, guardW_true])
  refine r_load one51 (hS.at m0 6 rfl) ?_
  refine (apartRequests Z h3 hT (by simp [ho]) (fun w hw => hw.own_rd m4) (hS.pick 8)).mono fun r w1 ⟨hr, hS⟩ => ?_
  subst hr
  have hS := hS.put 8
  (try simp only [o_pickT, guardW_true])
  refine r_load one52 (hS.at m0 7 rfl) ?_
  refine (nilApartTxns Z).mono fun r w1 ⟨hr, hw⟩ => ?_
  subst hr; subst hw
  (try simp only [o_pickT, guardW_true])
  refine r_load one53 (hS.at m0 8 rfl) ?_
  refine (nilApartResults Z).mono fun r w1 ⟨hr, hw⟩ => ?_
  subst hr; subst hw
  (try simp only [o_pickT, guardW_true])
  refine r_load one54 (hS.at m0 9 rfl) ?_
  refine (nilApartNodes Z).mono fun r w1 ⟨hr, hw⟩ => ?_
  subst hr; subst hw
  (try simp only [o_pickT, guardW_true])
  refine r_load one55 (hS.at m0 10 rfl) ?_
  refine (nilApartSessions Z).mono fun r w1 ⟨hr, hw⟩ => ?_
  subst hr; subst hw
  (try simp only [o_pickT, guardW_true])
  refine r_load one56 (hS.at m0 11 rfl) ?_
  refine (nilApartChanges Z).mono fun r w1 ⟨hr, hw⟩ => ?_
  subst hr; subst hw
  (try simp only [o_pickT, guardW_true])
  refine r_load one57 (hS.at m0 12 rfl) ?_
  refine (nilApartFiles Z).mono fun r w1 ⟨hr, hw⟩ => ?_
  subst hr; subst hw
  (try simp only [o_pickT, guardW_true])
  refine r_load one58 (hS.at m0 13 rfl) ?_
  refine (nilApartPackets Z).mono fun r w1 ⟨hr, hw⟩ => ?_
  subst hr; subst hw
  (try simp only [o_pickT, guardW_true])
  refine r_load one59 (hS.at m0 14 rfl) ?_
  refine (nilApartMessages Z).mono fun r w1 ⟨hr, hw⟩ => ?_
  subst hr; subst hw
  (try simp only [o_pickT, guardW_true])
  refine r_load one60 (hS.at m0 15 rfl) ?_
  refine (nilApartWatches Z).mono fun r w1 ⟨hr, hw⟩ => ?_
  subst hr; subst hw
  (try simp only [o_pickT, guardW_true])
  refine r_load one61 (hS.at m0 16 rfl) ?_
  refine (nilApartFired Z).mono fun r w1 ⟨hr, hw⟩ => ?_
  subst hr; subst hw
  (try simp only [o_pickT, guardW_true])
  refine r_load one62 (hS.at m0 17 rfl) ?_
  refine (nilApartFacts Z).mono fun r w1 ⟨hr, hw⟩ => ?_
  subst hr; subst hw
  (try simp only [o_pickT, guardW_true])
  refine r_load one63 (hS.at m0 18 rfl) ?_
  refine (nilApartSends Z).mono fun r w1 ⟨hr, hw⟩ => ?_
  subst hr; subst hw
  (try simp only [o_pickT, guardW_true])
  refine r_load one64 (hS.at m0 19 rfl) ?_
  refine (nilApartEvents Z).mono fun r w1 ⟨hr, hw⟩ => ?_
  subst hr; subst hw
  (try simp only [o_pickT, guardW_true])
  refine r_load one65 (hS.at m0 20 rfl) ?_
  refine (nilApartFactss Z).mono fun r w1 ⟨hr, hw⟩ => ?_
  subst hr; subst hw
  (try simp only [])
  refine ⟨by first | rfl | trivial, bagP.shut (v0 := v0) (v1 := v1) (v2 := v2) (v3 := v3) (by simp only [List.length_map]; exact ⟨h0, h1, h2, h3⟩) (by simp only [List.length_map]; exact hS)⟩
end
end Go.Proofs.YtpdehbbkpekoiaaGreatDoor
