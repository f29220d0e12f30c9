/- A Bag's lists: put in, held apart. Printed by wip/sh/mkbag.py. -/
import Derived.Test.YthobnaagjhooeaaGreatDoorQ3
set_option linter.unusedVariables false
set_option linter.unusedSimpArgs false
namespace Go.Proofs.YthobnaagjhooeaaGreatDoor
open Go.Sh
section
variable (Z : List PanicEntry → World → Prop) {o w : World} {R As : List HProp}
theorem nilGrownInts (c : Nat) : CallV Tryz.prog Z 84 #[.slice none 0 0, .int .i64 c] w fun r w' => r = .bool true ∧ w' = w := by
  refine f84.calls ?_
  unfold f84.sh
  refine ⟨fun m x y w' => x = .slice none 0 0 ∧ y = .int .i64 0 ∧ w' = w, ⟨0, rfl, rfl, rfl⟩, ?_⟩
  rintro m _ _ w1 ⟨rfl, rfl, rfl⟩ _
  have z0 : ¬ ((0 : Int) < ((0 : Nat) : Int)) := by decide
  (try simp only [ln_52_3, o_lss, z0, decide_false, condF])
  refine ⟨fun m y w' => y = .int .i64 0 ∧ w' = w1, ⟨0, rfl, rfl⟩, ?_⟩
  rintro m _ w2 ⟨rfl, rfl⟩ _
  (try simp only [o_lss, z0, decide_false, condF])
  exact ⟨by first | rfl | trivial, by first | rfl | trivial⟩
theorem nilApartInts : CallV Tryz.prog Z 56 #[.slice none 0 0] w fun r w' => r = .bool true ∧ w' = w := by
  refine f56.calls ?_
  unfold f56.sh
  have z0 : ¬ ((0 : Int) < ((0 : Nat) : Int)) := by decide
  refine ⟨fun m y w' => y = .int .i64 0 ∧ w' = w, ⟨0, rfl, rfl⟩, ?_⟩
  rintro m _ w1 ⟨rfl, rfl⟩ _
  (try simp only [ln_52_3, o_lss, z0, decide_false, condF])
  refine (nilGrownInts Z 1).mono fun r w3 ⟨hr, hw⟩ => ?_
  subst hr; subst hw
  refine (nilGrownInts Z 24).mono fun r w3 ⟨hr, hw⟩ => ?_
  subst hr; subst hw
  (try simp only [o_pickT, guardW_true])
  exact ⟨by first | rfl | trivial, by first | rfl | trivial⟩
theorem nilGrownTexts (c : Nat) : CallV Tryz.prog Z 86 #[.slice none 0 0, .int .i64 c] w fun r w' => r = .bool true ∧ w' = w := by
  refine f86.calls ?_
  unfold f86.sh
  refine ⟨fun m x y w' => x = .slice none 0 0 ∧ y = .int .i64 0 ∧ w' = w, ⟨0, rfl, rfl, rfl⟩, ?_⟩
  rintro m _ _ w1 ⟨rfl, rfl, rfl⟩ _
  have z0 : ¬ ((0 : Int) < ((0 : Nat) : Int)) := by decide
  (try simp only [ln_53_3, o_lss, z0, decide_false, condF])
  refine ⟨fun m y w' => y = .int .i64 0 ∧ w' = w1, ⟨0, rfl, rfl⟩, ?_⟩
  rintro m _ w2 ⟨rfl, rfl⟩ _
  (try simp only [o_lss, z0, decide_false, condF])
  exact ⟨by first | rfl | trivial, by first | rfl | trivial⟩
theorem nilApartTexts : CallV Tryz.prog Z 57 #[.slice none 0 0] w fun r w' => r = .bool true ∧ w' = w := by
  refine f57.calls ?_
  unfold f57.sh
  have z0 : ¬ ((0 : Int) < ((0 : Nat) : Int)) := by decide
  refine ⟨fun m y w' => y = .int .i64 0 ∧ w' = w, ⟨0, rfl, rfl⟩, ?_⟩
  rintro m _ w1 ⟨rfl, rfl⟩ _
  (try simp only [ln_53_3, o_lss, z0, decide_false, condF])
  refine (nilGrownTexts Z 1).mono fun r w3 ⟨hr, hw⟩ => ?_
  subst hr; subst hw
  refine (nilGrownTexts Z 24).mono fun r w3 ⟨hr, hw⟩ => ?_
  subst hr; subst hw
  (try simp only [o_pickT, guardW_true])
  exact ⟨by first | rfl | trivial, by first | rfl | trivial⟩
theorem nilGrownIds (c : Nat) : CallV Tryz.prog Z 88 #[.slice none 0 0, .int .i64 c] w fun r w' => r = .bool true ∧ w' = w := by
  refine f88.calls ?_
  unfold f88.sh
  refine ⟨fun m x y w' => x = .slice none 0 0 ∧ y = .int .i64 0 ∧ w' = w, ⟨0, rfl, rfl, rfl⟩, ?_⟩
  rintro m _ _ w1 ⟨rfl, rfl, rfl⟩ _
  have z0 : ¬ ((0 : Int) < ((0 : Nat) : Int)) := by decide
  (try simp only [ln_55_3, o_lss, z0, decide_false, condF])
  refine ⟨fun m y w' => y = .int .i64 0 ∧ w' = w1, ⟨0, rfl, rfl⟩, ?_⟩
  rintro m _ w2 ⟨rfl, rfl⟩ _
  (try simp only [o_lss, z0, decide_false, condF])
  exact ⟨by first | rfl | trivial, by first | rfl | trivial⟩
theorem nilApartIds : CallV Tryz.prog Z 59 #[.slice none 0 0] w fun r w' => r = .bool true ∧ w' = w := by
  refine f59.calls ?_
  unfold f59.sh
  have z0 : ¬ ((0 : Int) < ((0 : Nat) : Int)) := by decide
  refine ⟨fun m y w' => y = .int .i64 0 ∧ w' = w, ⟨0, rfl, rfl⟩, ?_⟩
  rintro m _ w1 ⟨rfl, rfl⟩ _
  (try simp only [ln_55_3, o_lss, z0, decide_false, condF])
  refine (nilGrownIds Z 1).mono fun r w3 ⟨hr, hw⟩ => ?_
  subst hr; subst hw
  refine (nilGrownIds Z 24).mono fun r w3 ⟨hr, hw⟩ => ?_
  subst hr; subst hw
  (try simp only [o_pickT, guardW_true])
  exact ⟨by first | rfl | trivial, by first | rfl | trivial⟩
theorem nilGrownAcl (c : Nat) : CallV Tryz.prog Z 89 #[.slice none 0 0, .int .i64 c] w fun r w' => r = .bool true ∧ w' = w := by
  refine f89.calls ?_
  unfold f89.sh
  refine ⟨fun m x y w' => x = .slice none 0 0 ∧ y = .int .i64 0 ∧ w' = w, ⟨0, rfl, rfl, rfl⟩, ?_⟩
  rintro m _ _ w1 ⟨rfl, rfl, rfl⟩ _
  have z0 : ¬ ((0 : Int) < ((0 : Nat) : Int)) := by decide
  (try simp only [ln_56_3, o_lss, z0, decide_false, condF])
  refine ⟨fun m y w' => y = .int .i64 0 ∧ w' = w1, ⟨0, rfl, rfl⟩, ?_⟩
  rintro m _ w2 ⟨rfl, rfl⟩ _
  (try simp only [o_lss, z0, decide_false, condF])
  exact ⟨by first | rfl | trivial, by first | rfl | trivial⟩
theorem nilApartAcl : CallV Tryz.prog Z 60 #[.slice none 0 0] w fun r w' => r = .bool true ∧ w' = w := by
  refine f60.calls ?_
  unfold f60.sh
  have z0 : ¬ ((0 : Int) < ((0 : Nat) : Int)) := by decide
  refine ⟨fun m y w' => y = .int .i64 0 ∧ w' = w, ⟨0, rfl, rfl⟩, ?_⟩
  rintro m _ w1 ⟨rfl, rfl⟩ _
  (try simp only [ln_56_3, o_lss, z0, decide_false, condF])
  refine (nilGrownAcl Z 1).mono fun r w3 ⟨hr, hw⟩ => ?_
  subst hr; subst hw
  refine (nilGrownAcl Z 24).mono fun r w3 ⟨hr, hw⟩ => ?_
  subst hr; subst hw
  (try simp only [o_pickT, guardW_true])
  exact ⟨by first | rfl | trivial, by first | rfl | trivial⟩
theorem nilGrownRequests (c : Nat) : CallV Tryz.prog Z 90 #[.slice none 0 0, .int .i64 c] w fun r w' => r = .bool true ∧ w' = w := by
  refine f90.calls ?_
  unfold f90.sh
  refine ⟨fun m x y w' => x = .slice none 0 0 ∧ y = .int .i64 0 ∧ w' = w, ⟨0, rfl, rfl, rfl⟩, ?_⟩
  rintro m _ _ w1 ⟨rfl, rfl, rfl⟩ _
  have z0 : ¬ ((0 : Int) < ((0 : Nat) : Int)) := by decide
  (try simp only [ln_57_3, o_lss, z0, decide_false, condF])
  refine ⟨fun m y w' => y = .int .i64 0 ∧ w' = w1, ⟨0, rfl, rfl⟩, ?_⟩
  rintro m _ w2 ⟨rfl, rfl⟩ _
  (try simp only [o_lss, z0, decide_false, condF])
  exact ⟨by first | rfl | trivial, by first | rfl | trivial⟩
theorem nilApartRequests : CallV Tryz.prog Z 61 #[.slice none 0 0] w fun r w' => r = .bool true ∧ w' = w := by
  refine f61.calls ?_
  unfold f61.sh
  have z0 : ¬ ((0 : Int) < ((0 : Nat) : Int)) := by decide
  refine ⟨fun m y w' => y = .int .i64 0 ∧ w' = w, ⟨0, rfl, rfl⟩, ?_⟩
  rintro m _ w1 ⟨rfl, rfl⟩ _
  (try simp only [ln_57_3, o_lss, z0, decide_false, condF])
  refine (nilGrownRequests Z 1).mono fun r w3 ⟨hr, hw⟩ => ?_
  subst hr; subst hw
  refine (nilGrownRequests Z 24).mono fun r w3 ⟨hr, hw⟩ => ?_
  subst hr; subst hw
  (try simp only [o_pickT, guardW_true])
  exact ⟨by first | rfl | trivial, by first | rfl | trivial⟩
theorem nilGrownTxns (c : Nat) : CallV Tryz.prog Z 91 #[.slice none 0 0, .int .i64 c] w fun r w' => r = .bool true ∧ w' = w := by
  refine f91.calls ?_
  unfold f91.sh
  refine ⟨fun m x y w' => x = .slice none 0 0 ∧ y = .int .i64 0 ∧ w' = w, ⟨0, rfl, rfl, rfl⟩, ?_⟩
  rintro m _ _ w1 ⟨rfl, rfl, rfl⟩ _
  have z0 : ¬ ((0 : Int) < ((0 : Nat) : Int)) := by decide
  (try simp only [ln_58_3, o_lss, z0, decide_false, condF])
  refine ⟨fun m y w' => y = .int .i64 0 ∧ w' = w1, ⟨0, rfl, rfl⟩, ?_⟩
  rintro m _ w2 ⟨rfl, rfl⟩ _
  (try simp only [o_lss, z0, decide_false, condF])
  exact ⟨by first | rfl | trivial, by first | rfl | trivial⟩
theorem nilApartTxns : CallV Tryz.prog Z 62 #[.slice none 0 0] w fun r w' => r = .bool true ∧ w' = w := by
  refine f62.calls ?_
  unfold f62.sh
  have z0 : ¬ ((0 : Int) < ((0 : Nat) : Int)) := by decide
  refine ⟨fun m y w' => y = .int .i64 0 ∧ w' = w, ⟨0, rfl, rfl⟩, ?_⟩
  rintro m _ w1 ⟨rfl, rfl⟩ _
  (try simp only [ln_58_3, o_lss, z0, decide_false, condF])
  refine (nilGrownTxns Z 1).mono fun r w3 ⟨hr, hw⟩ => ?_
  subst hr; subst hw
  refine (nilGrownTxns Z 24).mono fun r w3 ⟨hr, hw⟩ => ?_
  subst hr; subst hw
  (try simp only [o_pickT, guardW_true])
  exact ⟨by first | rfl | trivial, by first | rfl | trivial⟩
theorem nilGrownResults (c : Nat) : CallV Tryz.prog Z 92 #[.slice none 0 0, .int .i64 c] w fun r w' => r = .bool true ∧ w' = w := by
  refine f92.calls ?_
  unfold f92.sh
  refine ⟨fun m x y w' => x = .slice none 0 0 ∧ y = .int .i64 0 ∧ w' = w, ⟨0, rfl, rfl, rfl⟩, ?_⟩
  rintro m _ _ w1 ⟨rfl, rfl, rfl⟩ _
  have z0 : ¬ ((0 : Int) < ((0 : Nat) : Int)) := by decide
  (try simp only [ln_59_3, o_lss, z0, decide_false, condF])
  refine ⟨fun m y w' => y = .int .i64 0 ∧ w' = w1, ⟨0, rfl, rfl⟩, ?_⟩
  rintro m _ w2 ⟨rfl, rfl⟩ _
  (try simp only [o_lss, z0, decide_false, condF])
  exact ⟨by first | rfl | trivial, by first | rfl | trivial⟩
theorem nilApartResults : CallV Tryz.prog Z 63 #[.slice none 0 0] w fun r w' => r = .bool true ∧ w' = w := by
  refine f63.calls ?_
  unfold f63.sh
  have z0 : ¬ ((0 : Int) < ((0 : Nat) : Int)) := by decide
  refine ⟨fun m y w' => y = .int .i64 0 ∧ w' = w, ⟨0, rfl, rfl⟩, ?_⟩
  rintro m _ w1 ⟨rfl, rfl⟩ _
  (try simp only [ln_59_3, o_lss, z0, decide_false, condF])
  refine (nilGrownResults Z 1).mono fun r w3 ⟨hr, hw⟩ => ?_
  subst hr; subst hw
  refine (nilGrownResults Z 24).mono fun r w3 ⟨hr, hw⟩ => ?_
  subst hr; subst hw
  (try simp only [o_pickT, guardW_true])
  exact ⟨by first | rfl | trivial, by first | rfl | trivial⟩
theorem nilGrownNodes (c : Nat) : CallV Tryz.prog Z 93 #[.slice none 0 0, .int .i64 c] w fun r w' => r = .bool true ∧ w' = w := by
  refine f93.calls ?_
  unfold f93.sh
  refine ⟨fun m x y w' => x = .slice none 0 0 ∧ y = .int .i64 0 ∧ w' = w, ⟨0, rfl, rfl, rfl⟩, ?_⟩
  rintro m _ _ w1 ⟨rfl, rfl, rfl⟩ _
  have z0 : ¬ ((0 : Int) < ((0 : Nat) : Int)) := by decide
  (try simp only [ln_60_3, o_lss, z0, decide_false, condF])
  refine ⟨fun m y w' => y = .int .i64 0 ∧ w' = w1, ⟨0, rfl, rfl⟩, ?_⟩
  rintro m _ w2 ⟨rfl, rfl⟩ _
  (try simp only [o_lss, z0, decide_false, condF])
  exact ⟨by first | rfl | trivial, by first | rfl | trivial⟩
theorem nilApartNodes : CallV Tryz.prog Z 64 #[.slice none 0 0] w fun r w' => r = .bool true ∧ w' = w := by
  refine f64.calls ?_
  unfold f64.sh
  have z0 : ¬ ((0 : Int) < ((0 : Nat) : Int)) := by decide
  refine ⟨fun m y w' => y = .int .i64 0 ∧ w' = w, ⟨0, rfl, rfl⟩, ?_⟩
  rintro m _ w1 ⟨rfl, rfl⟩ _
  (try simp only [ln_60_3, o_lss, z0, decide_false, condF])
  refine (nilGrownNodes Z 1).mono fun r w3 ⟨hr, hw⟩ => ?_
  subst hr; subst hw
  refine (nilGrownNodes Z 24).mono fun r w3 ⟨hr, hw⟩ => ?_
  subst hr; subst hw
  (try simp only [o_pickT, guardW_true])
  exact ⟨by first | rfl | trivial, by first | rfl | trivial⟩
theorem nilGrownSessions (c : Nat) : CallV Tryz.prog Z 94 #[.slice none 0 0, .int .i64 c] w fun r w' => r = .bool true ∧ w' = w := by
  refine f94.calls ?_
  unfold f94.sh
  refine ⟨fun m x y w' => x = .slice none 0 0 ∧ y = .int .i64 0 ∧ w' = w, ⟨0, rfl, rfl, rfl⟩, ?_⟩
  rintro m _ _ w1 ⟨rfl, rfl, rfl⟩ _
  have z0 : ¬ ((0 : Int) < ((0 : Nat) : Int)) := by decide
  (try simp only [ln_61_3, o_lss, z0, decide_false, condF])
  refine ⟨fun m y w' => y = .int .i64 0 ∧ w' = w1, ⟨0, rfl, rfl⟩, ?_⟩
  rintro m _ w2 ⟨rfl, rfl⟩ _
  (try simp only [o_lss, z0, decide_false, condF])
  exact ⟨by first | rfl | trivial, by first | rfl | trivial⟩
theorem nilApartSessions : CallV Tryz.prog Z 65 #[.slice none 0 0] w fun r w' => r = .bool true ∧ w' = w := by
  refine f65.calls ?_
  unfold f65.sh
  have z0 : ¬ ((0 : Int) < ((0 : Nat) : Int)) := by decide
  refine ⟨fun m y w' => y = .int .i64 0 ∧ w' = w, ⟨0, rfl, rfl⟩, ?_⟩
  rintro m _ w1 ⟨rfl, rfl⟩ _
  (try simp only [ln_61_3, o_lss, z0, decide_false, condF])
  refine (nilGrownSessions Z 1).mono fun r w3 ⟨hr, hw⟩ => ?_
  subst hr; subst hw
  refine (nilGrownSessions Z 24).mono fun r w3 ⟨hr, hw⟩ => ?_
  subst hr; subst hw
  (try simp only [o_pickT, guardW_true])
  exact ⟨by first | rfl | trivial, by first | rfl | trivial⟩
theorem nilGrownChanges (c : Nat) : CallV Tryz.prog Z 95 #[.slice none 0 0, .int .i64 c] w fun r w' => r = .bool true ∧ w' = w := by
  refine f95.calls ?_
  unfold f95.sh
  refine ⟨fun m x y w' => x = .slice none 0 0 ∧ y = .int .i64 0 ∧ w' = w, ⟨0, rfl, rfl, rfl⟩, ?_⟩
  rintro m _ _ w1 ⟨rfl, rfl, rfl⟩ _
  have z0 : ¬ ((0 : Int) < ((0 : Nat) : Int)) := by decide
  (try simp only [ln_62_3, o_lss, z0, decide_false, condF])
  refine ⟨fun m y w' => y = .int .i64 0 ∧ w' = w1, ⟨0, rfl, rfl⟩, ?_⟩
  rintro m _ w2 ⟨rfl, rfl⟩ _
  (try simp only [o_lss, z0, decide_false, condF])
  exact ⟨by first | rfl | trivial, by first | rfl | trivial⟩
theorem nilApartChanges : CallV Tryz.prog Z 66 #[.slice none 0 0] w fun r w' => r = .bool true ∧ w' = w := by
  refine f66.calls ?_
  unfold f66.sh
  have z0 : ¬ ((0 : Int) < ((0 : Nat) : Int)) := by decide
  refine ⟨fun m y w' => y = .int .i64 0 ∧ w' = w, ⟨0, rfl, rfl⟩, ?_⟩
  rintro m _ w1 ⟨rfl, rfl⟩ _
  (try simp only [ln_62_3, o_lss, z0, decide_false, condF])
  refine (nilGrownChanges Z 1).mono fun r w3 ⟨hr, hw⟩ => ?_
  subst hr; subst hw
  refine (nilGrownChanges Z 24).mono fun r w3 ⟨hr, hw⟩ => ?_
  subst hr; subst hw
  (try simp only [o_pickT, guardW_true])
  exact ⟨by first | rfl | trivial, by first | rfl | trivial⟩
theorem nilGrownFiles (c : Nat) : CallV Tryz.prog Z 96 #[.slice none 0 0, .int .i64 c] w fun r w' => r = .bool true ∧ w' = w := by
  refine f96.calls ?_
  unfold f96.sh
  refine ⟨fun m x y w' => x = .slice none 0 0 ∧ y = .int .i64 0 ∧ w' = w, ⟨0, rfl, rfl, rfl⟩, ?_⟩
  rintro m _ _ w1 ⟨rfl, rfl, rfl⟩ _
  have z0 : ¬ ((0 : Int) < ((0 : Nat) : Int)) := by decide
  (try simp only [ln_63_3, o_lss, z0, decide_false, condF])
  refine ⟨fun m y w' => y = .int .i64 0 ∧ w' = w1, ⟨0, rfl, rfl⟩, ?_⟩
  rintro m _ w2 ⟨rfl, rfl⟩ _
  (try simp only [o_lss, z0, decide_false, condF])
  exact ⟨by first | rfl | trivial, by first | rfl | trivial⟩
theorem nilApartFiles : CallV Tryz.prog Z 67 #[.slice none 0 0] w fun r w' => r = .bool true ∧ w' = w := by
  refine f67.calls ?_
  unfold f67.sh
  have z0 : ¬ ((0 : Int) < ((0 : Nat) : Int)) := by decide
  refine ⟨fun m y w' => y = .int .i64 0 ∧ w' = w, ⟨0, rfl, rfl⟩, ?_⟩
  rintro m _ w1 ⟨rfl, rfl⟩ _
  (try simp only [ln_63_3, o_lss, z0, decide_false, condF])
  refine (nilGrownFiles Z 1).mono fun r w3 ⟨hr, hw⟩ => ?_
  subst hr; subst hw
  refine (nilGrownFiles Z 24).mono fun r w3 ⟨hr, hw⟩ => ?_
  subst hr; subst hw
  (try simp only [o_pickT, guardW_true])
  exact ⟨by first | rfl | trivial, by first | rfl | trivial⟩
theorem nilGrownPackets (c : Nat) : CallV Tryz.prog Z 97 #[.slice none 0 0, .int .i64 c] w fun r w' => r = .bool true ∧ w' = w := by
  refine f97.calls ?_
  unfold f97.sh
  refine ⟨fun m x y w' => x = .slice none 0 0 ∧ y = .int .i64 0 ∧ w' = w, ⟨0, rfl, rfl, rfl⟩, ?_⟩
  rintro m _ _ w1 ⟨rfl, rfl, rfl⟩ _
  have z0 : ¬ ((0 : Int) < ((0 : Nat) : Int)) := by decide
  (try simp only [ln_64_3, o_lss, z0, decide_false, condF])
  refine ⟨fun m y w' => y = .int .i64 0 ∧ w' = w1, ⟨0, rfl, rfl⟩, ?_⟩
  rintro m _ w2 ⟨rfl, rfl⟩ _
  (try simp only [o_lss, z0, decide_false, condF])
  exact ⟨by first | rfl | trivial, by first | rfl | trivial⟩
theorem nilApartPackets : CallV Tryz.prog Z 68 #[.slice none 0 0] w fun r w' => r = .bool true ∧ w' = w := by
  refine f68.calls ?_
  unfold f68.sh
  have z0 : ¬ ((0 : Int) < ((0 : Nat) : Int)) := by decide
  refine ⟨fun m y w' => y = .int .i64 0 ∧ w' = w, ⟨0, rfl, rfl⟩, ?_⟩
  rintro m _ w1 ⟨rfl, rfl⟩ _
  (try simp only [ln_64_3, o_lss, z0, decide_false, condF])
  refine (nilGrownPackets Z 1).mono fun r w3 ⟨hr, hw⟩ => ?_
  subst hr; subst hw
  refine (nilGrownPackets Z 24).mono fun r w3 ⟨hr, hw⟩ => ?_
  subst hr; subst hw
  (try simp only [o_pickT, guardW_true])
  exact ⟨by first | rfl | trivial, by first | rfl | trivial⟩
theorem nilGrownMessages (c : Nat) : CallV Tryz.prog Z 98 #[.slice none 0 0, .int .i64 c] w fun r w' => r = .bool true ∧ w' = w := by
  refine f98.calls ?_
  unfold f98.sh
  refine ⟨fun m x y w' => x = .slice none 0 0 ∧ y = .int .i64 0 ∧ w' = w, ⟨0, rfl, rfl, rfl⟩, ?_⟩
  rintro m _ _ w1 ⟨rfl, rfl, rfl⟩ _
  have z0 : ¬ ((0 : Int) < ((0 : Nat) : Int)) := by decide
  (try simp only [ln_65_3, o_lss, z0, decide_false, condF])
  refine ⟨fun m y w' => y = .int .i64 0 ∧ w' = w1, ⟨0, rfl, rfl⟩, ?_⟩
  rintro m _ w2 ⟨rfl, rfl⟩ _
  (try simp only [o_lss, z0, decide_false, condF])
  exact ⟨by first | rfl | trivial, by first | rfl | trivial⟩
theorem nilApartMessages : CallV Tryz.prog Z 69 #[.slice none 0 0] w fun r w' => r = .bool true ∧ w' = w := by
  refine f69.calls ?_
  unfold f69.sh
  have z0 : ¬ ((0 : Int) < ((0 : Nat) : Int)) := by decide
  refine ⟨fun m y w' => y = .int .i64 0 ∧ w' = w, ⟨0, rfl, rfl⟩, ?_⟩
  rintro m _ w1 ⟨rfl, rfl⟩ _
  (try simp only [ln_65_3, o_lss, z0, decide_false, condF])
  refine (nilGrownMessages Z 1).mono fun r w3 ⟨hr, hw⟩ => ?_
  subst hr; subst hw
  refine (nilGrownMessages Z 24).mono fun r w3 ⟨hr, hw⟩ => ?_
  subst hr; subst hw
  (try simp only [o_pickT, guardW_true])
  exact ⟨by first | rfl | trivial, by first | rfl | trivial⟩
theorem nilGrownWatches (c : Nat) : CallV Tryz.prog Z 99 #[.slice none 0 0, .int .i64 c] w fun r w' => r = .bool true ∧ w' = w := by
  refine f99.calls ?_
  unfold f99.sh
  refine ⟨fun m x y w' => x = .slice none 0 0 ∧ y = .int .i64 0 ∧ w' = w, ⟨0, rfl, rfl, rfl⟩, ?_⟩
  rintro m _ _ w1 ⟨rfl, rfl, rfl⟩ _
  have z0 : ¬ ((0 : Int) < ((0 : Nat) : Int)) := by decide
  (try simp only [ln_66_3, o_lss, z0, decide_false, condF])
  refine ⟨fun m y w' => y = .int .i64 0 ∧ w' = w1, ⟨0, rfl, rfl⟩, ?_⟩
  rintro m _ w2 ⟨rfl, rfl⟩ _
  (try simp only [o_lss, z0, decide_false, condF])
  exact ⟨by first | rfl | trivial, by first | rfl | trivial⟩
theorem nilApartWatches : CallV Tryz.prog Z 70 #[.slice none 0 0] w fun r w' => r = .bool true ∧ w' = w := by
  refine f70.calls ?_
  unfold f70.sh
  have z0 : ¬ ((0 : Int) < ((0 : Nat) : Int)) := by decide
  refine ⟨fun m y w' => y = .int .i64 0 ∧ w' = w, ⟨0, rfl, rfl⟩, ?_⟩
  rintro m _ w1 ⟨rfl, rfl⟩ _
  (try simp only [ln_66_3, o_lss, z0, decide_false, condF])
  refine (nilGrownWatches Z 1).mono fun r w3 ⟨hr, hw⟩ => ?_
  subst hr; subst hw
  refine (nilGrownWatches Z 24).mono fun r w3 ⟨hr, hw⟩ => ?_
  subst hr; subst hw
  (try simp only [o_pickT, guardW_true])
  exact ⟨by first | rfl | trivial, by first | rfl | trivial⟩
theorem nilGrownFired (c : Nat) : CallV Tryz.prog Z 100 #[.slice none 0 0, .int .i64 c] w fun r w' => r = .bool true ∧ w' = w := by
  refine f100.calls ?_
  unfold f100.sh
  refine ⟨fun m x y w' => x = .slice none 0 0 ∧ y = .int .i64 0 ∧ w' = w, ⟨0, rfl, rfl, rfl⟩, ?_⟩
  rintro m _ _ w1 ⟨rfl, rfl, rfl⟩ _
  have z0 : ¬ ((0 : Int) < ((0 : Nat) : Int)) := by decide
  (try simp only [ln_67_3, o_lss, z0, decide_false, condF])
  refine ⟨fun m y w' => y = .int .i64 0 ∧ w' = w1, ⟨0, rfl, rfl⟩, ?_⟩
  rintro m _ w2 ⟨rfl, rfl⟩ _
  (try simp only [o_lss, z0, decide_false, condF])
  exact ⟨by first | rfl | trivial, by first | rfl | trivial⟩
theorem nilApartFired : CallV Tryz.prog Z 71 #[.slice none 0 0] w fun r w' => r = .bool true ∧ w' = w := by
  refine f71.calls ?_
  unfold f71.sh
  have z0 : ¬ ((0 : Int) < ((0 : Nat) : Int)) := by decide
  refine ⟨fun m y w' => y = .int .i64 0 ∧ w' = w, ⟨0, rfl, rfl⟩, ?_⟩
  rintro m _ w1 ⟨rfl, rfl⟩ _
  (try simp only [ln_67_3, o_lss, z0, decide_false, condF])
  refine (nilGrownFired Z 1).mono fun r w3 ⟨hr, hw⟩ => ?_
  subst hr; subst hw
  refine (nilGrownFired Z 24).mono fun r w3 ⟨hr, hw⟩ => ?_
  subst hr; subst hw
  (try simp only [o_pickT, guardW_true])
  exact ⟨by first | rfl | trivial, by first | rfl | trivial⟩
theorem nilGrownFacts (c : Nat) : CallV Tryz.prog Z 101 #[.slice none 0 0, .int .i64 c] w fun r w' => r = .bool true ∧ w' = w := by
  refine f101.calls ?_
  unfold f101.sh
  refine ⟨fun m x y w' => x = .slice none 0 0 ∧ y = .int .i64 0 ∧ w' = w, ⟨0, rfl, rfl, rfl⟩, ?_⟩
  rintro m _ _ w1 ⟨rfl, rfl, rfl⟩ _
  have z0 : ¬ ((0 : Int) < ((0 : Nat) : Int)) := by decide
  (try simp only [ln_68_3, o_lss, z0, decide_false, condF])
  refine ⟨fun m y w' => y = .int .i64 0 ∧ w' = w1, ⟨0, rfl, rfl⟩, ?_⟩
  rintro m _ w2 ⟨rfl, rfl⟩ _
  (try simp only [o_lss, z0, decide_false, condF])
  exact ⟨by first | rfl | trivial, by first | rfl | trivial⟩
theorem nilApartFacts : CallV Tryz.prog Z 72 #[.slice none 0 0] w fun r w' => r = .bool true ∧ w' = w := by
  refine f72.calls ?_
  unfold f72.sh
  have z0 : ¬ ((0 : Int) < ((0 : Nat) : Int)) := by decide
  refine ⟨fun m y w' => y = .int .i64 0 ∧ w' = w, ⟨0, rfl, rfl⟩, ?_⟩
  rintro m _ w1 ⟨rfl, rfl⟩ _
  (try simp only [ln_68_3, o_lss, z0, decide_false, condF])
  refine (nilGrownFacts Z 1).mono fun r w3 ⟨hr, hw⟩ => ?_
  subst hr; subst hw
  refine (nilGrownFacts Z 24).mono fun r w3 ⟨hr, hw⟩ => ?_
  subst hr; subst hw
  (try simp only [o_pickT, guardW_true])
  exact ⟨by first | rfl | trivial, by first | rfl | trivial⟩
theorem nilGrownSends (c : Nat) : CallV Tryz.prog Z 102 #[.slice none 0 0, .int .i64 c] w fun r w' => r = .bool true ∧ w' = w := by
  refine f102.calls ?_
  unfold f102.sh
  refine ⟨fun m x y w' => x = .slice none 0 0 ∧ y = .int .i64 0 ∧ w' = w, ⟨0, rfl, rfl, rfl⟩, ?_⟩
  rintro m _ _ w1 ⟨rfl, rfl, rfl⟩ _
  have z0 : ¬ ((0 : Int) < ((0 : Nat) : Int)) := by decide
  (try simp only [ln_69_3, o_lss, z0, decide_false, condF])
  refine ⟨fun m y w' => y = .int .i64 0 ∧ w' = w1, ⟨0, rfl, rfl⟩, ?_⟩
  rintro m _ w2 ⟨rfl, rfl⟩ _
  (try simp only [o_lss, z0, decide_false, condF])
  exact ⟨by first | rfl | trivial, by first | rfl | trivial⟩
theorem nilApartSends : CallV Tryz.prog Z 73 #[.slice none 0 0] w fun r w' => r = .bool true ∧ w' = w := by
  refine f73.calls ?_
  unfold f73.sh
  have z0 : ¬ ((0 : Int) < ((0 : Nat) : Int)) := by decide
  refine ⟨fun m y w' => y = .int .i64 0 ∧ w' = w, ⟨0, rfl, rfl⟩, ?_⟩
  rintro m _ w1 ⟨rfl, rfl⟩ _
  (try simp only [ln_69_3, o_lss, z0, decide_false, condF])
  refine (nilGrownSends Z 1).mono fun r w3 ⟨hr, hw⟩ => ?_
  subst hr; subst hw
  refine (nilGrownSends Z 24).mono fun r w3 ⟨hr, hw⟩ => ?_
  subst hr; subst hw
  (try simp only [o_pickT, guardW_true])
  exact ⟨by first | rfl | trivial, by first | rfl | trivial⟩
theorem nilGrownEvents (c : Nat) : CallV Tryz.prog Z 103 #[.slice none 0 0, .int .i64 c] w fun r w' => r = .bool true ∧ w' = w := by
  refine f103.calls ?_
  unfold f103.sh
  refine ⟨fun m x y w' => x = .slice none 0 0 ∧ y = .int .i64 0 ∧ w' = w, ⟨0, rfl, rfl, rfl⟩, ?_⟩
  rintro m _ _ w1 ⟨rfl, rfl, rfl⟩ _
  have z0 : ¬ ((0 : Int) < ((0 : Nat) : Int)) := by decide
  (try simp only [ln_70_3, o_lss, z0, decide_false, condF])
  refine ⟨fun m y w' => y = .int .i64 0 ∧ w' = w1, ⟨0, rfl, rfl⟩, ?_⟩
  rintro m _ w2 ⟨rfl, rfl⟩ _
  (try simp only [o_lss, z0, decide_false, condF])
  exact ⟨by first | rfl | trivial, by first | rfl | trivial⟩
theorem nilApartEvents : CallV Tryz.prog Z 74 #[.slice none 0 0] w fun r w' => r = .bool true ∧ w' = w := by
  refine f74.calls ?_
  unfold f74.sh
  have z0 : ¬ ((0 : Int) < ((0 : Nat) : Int)) := by decide
  refine ⟨fun m y w' => y = .int .i64 0 ∧ w' = w, ⟨0, rfl, rfl⟩, ?_⟩
  rintro m _ w1 ⟨rfl, rfl⟩ _
  (try simp only [ln_70_3, o_lss, z0, decide_false, condF])
  refine (nilGrownEvents Z 1).mono fun r w3 ⟨hr, hw⟩ => ?_
  subst hr; subst hw
  refine (nilGrownEvents Z 24).mono fun r w3 ⟨hr, hw⟩ => ?_
  subst hr; subst hw
  (try simp only [o_pickT, guardW_true])
  exact ⟨by first | rfl | trivial, by first | rfl | trivial⟩
theorem nilGrownFactss (c : Nat) : CallV Tryz.prog Z 104 #[.slice none 0 0, .int .i64 c] w fun r w' => r = .bool true ∧ w' = w := by
  refine f104.calls ?_
  unfold f104.sh
  refine ⟨fun m x y w' => x = .slice none 0 0 ∧ y = .int .i64 0 ∧ w' = w, ⟨0, rfl, rfl, rfl⟩, ?_⟩
  rintro m _ _ w1 ⟨rfl, rfl, rfl⟩ _
  have z0 : ¬ ((0 : Int) < ((0 : Nat) : Int)) := by decide
  (try simp only [ln_71_3, o_lss, z0, decide_false, condF])
  refine ⟨fun m y w' => y = .int .i64 0 ∧ w' = w1, ⟨0, rfl, rfl⟩, ?_⟩
  rintro m _ w2 ⟨rfl, rfl⟩ _
  (try simp only [o_lss, z0, decide_false, condF])
  exact ⟨by first | rfl | trivial, by first | rfl | trivial⟩
theorem nilApartFactss : CallV Tryz.prog Z 75 #[.slice none 0 0] w fun r w' => r = .bool true ∧ w' = w := by
  refine f75.calls ?_
  unfold f75.sh
  have z0 : ¬ ((0 : Int) < ((0 : Nat) : Int)) := by decide
  refine ⟨fun m y w' => y = .int .i64 0 ∧ w' = w, ⟨0, rfl, rfl⟩, ?_⟩
  rintro m _ w1 ⟨rfl, rfl⟩ _
  (try simp only [ln_71_3, o_lss, z0, decide_false, condF])
  refine (nilGrownFactss Z 1).mono fun r w3 ⟨hr, hw⟩ => ?_
  subst hr; subst hw
  refine (nilGrownFactss Z 24).mono fun r w3 ⟨hr, hw⟩ => ?_
  subst hr; subst hw
  (try simp only [o_pickT, guardW_true])
  exact ⟨by first | rfl | trivial, by first | rfl | trivial⟩
end
def bagP (g : Nat) (b0 b1 : List Value) : HProp := fun h => ∃ (v0 v1 : Value), (b0.length ≤ 600 ∧ b1.length ≤ 600) ∧ sep (blk g 73 [v0, .slice none 0 0, .slice none 0 0, v1, .slice none 0 0, .slice none 0 0, .slice none 0 0, .slice none 0 0, .slice none 0 0, .slice none 0 0, .slice none 0 0, .slice none 0 0, .slice none 0 0, .slice none 0 0, .slice none 0 0, .slice none 0 0, .slice none 0 0, .slice none 0 0, .slice none 0 0, .slice none 0 0, .slice none 0 0]) (satH [own 22 1 v0 b0.length b0, own 51 1 v1 b1.length b1]) h
section
variable (Z : List PanicEntry → World → Prop) {o w : World} {R As : List HProp} {g : Nat} {b0 b1 : List Value}
theorem bagP.open (h : St o w (bagP g b0 b1 :: R)) : ∃ (v0 v1 : Value), (b0.length ≤ 600 ∧ b1.length ≤ 600) ∧ St o w (blk g 73 [v0, .slice none 0 0, .slice none 0 0, v1, .slice none 0 0, .slice none 0 0, .slice none 0 0, .slice none 0 0, .slice none 0 0, .slice none 0 0, .slice none 0 0, .slice none 0 0, .slice none 0 0, .slice none 0 0, .slice none 0 0, .slice none 0 0, .slice none 0 0, .slice none 0 0, .slice none 0 0, .slice none 0 0, .slice none 0 0] :: own 22 1 v0 b0.length b0 :: own 51 1 v1 b1.length b1 :: R) := by
  obtain ⟨v0, h⟩ := h.ex
  obtain ⟨v1, h⟩ := h.ex
  obtain ⟨hl, h⟩ := h.pure
  have h := h.sep.swap.all
  refine ⟨v0, v1, hl, h.pick 2⟩
theorem bagP.shut {v0 v1 : Value} (hl : b0.length ≤ 600 ∧ b1.length ≤ 600) (h : St o w (blk g 73 [v0, .slice none 0 0, .slice none 0 0, v1, .slice none 0 0, .slice none 0 0, .slice none 0 0, .slice none 0 0, .slice none 0 0, .slice none 0 0, .slice none 0 0, .slice none 0 0, .slice none 0 0, .slice none 0 0, .slice none 0 0, .slice none 0 0, .slice none 0 0, .slice none 0 0, .slice none 0 0, .slice none 0 0, .slice none 0 0] :: own 22 1 v0 b0.length b0 :: own 51 1 v1 b1.length b1 :: R)) : St o w (bagP g b0 b1 :: R) := by
  have h : St o w (satH [own 22 1 v0 b0.length b0, own 51 1 v1 b1.length b1] :: blk g 73 [v0, .slice none 0 0, .slice none 0 0, v1, .slice none 0 0, .slice none 0 0, .slice none 0 0, .slice none 0 0, .slice none 0 0, .slice none 0 0, .slice none 0 0, .slice none 0 0, .slice none 0 0, .slice none 0 0, .slice none 0 0, .slice none 0 0, .slice none 0 0, .slice none 0 0, .slice none 0 0, .slice none 0 0, .slice none 0 0] :: R) := St.all_intro (h.put 2)
  have h := h.swap.sep_intro.pure_intro hl
  exact h.mono fun _ hx => ⟨v0, v1, hx⟩
theorem bag_new (h : St o w (blk g 73 [.slice none 0 0, .slice none 0 0, .slice none 0 0, .slice none 0 0, .slice none 0 0, .slice none 0 0, .slice none 0 0, .slice none 0 0, .slice none 0 0, .slice none 0 0, .slice none 0 0, .slice none 0 0, .slice none 0 0, .slice none 0 0, .slice none 0 0, .slice none 0 0, .slice none 0 0, .slice none 0 0, .slice none 0 0, .slice none 0 0, .slice none 0 0] :: R)) : St o w (bagP g [] [] :: R) := by
  refine bagP.shut (v0 := .slice none 0 0) (v1 := .slice none 0 0) (by simp) ?_
  have h := h
  have h := h.own_nil 51 1
  have h := h.own_nil 22 1
  exact h.pick 2
theorem bagPushBytes {l : Value} (hl1 : l.oneCell' = true) {Q : World → Prop} (h : St o w (bagP g b0 b1 :: R)) (hq : ∀ b' w', b' = (if b0.length < 600 then b0 ++ [l] else b0) → St o w' (bagP g b' b1 :: R) → Q w') :
    runX Tryz.prog Z (nilChk (.pointer (some ⟨g, 0, none⟩))) w fun t5 w => run1 Tryz.prog Z (Instr.fieldAt 73 t5 0) w fun t6 w => run1 Tryz.prog Z (Instr.loadAt 51 t6) w fun t7 w => run1 Tryz.prog Z (Builtin.len_ #[51] 3 #[t7]) w fun t8 w => run1 Tryz.prog Z (binOp BinOp.lss 3 t8 (Value.int IntKind.i64 600)) w fun t9 w =>
      CondV t9 (runX Tryz.prog Z (nilChk (.pointer (some ⟨g, 0, none⟩))) w fun t12 w => run1 Tryz.prog Z (Instr.fieldAt 73 t12 0) w fun t13 w => run1 Tryz.prog Z (Instr.loadAt 51 t13) w fun t14 w => run1 Tryz.prog Z (Instr.buildSlice 51 1 #[(0, l)]) w fun t16 w => run1 Tryz.prog Z (Builtin.append_ #[51, 51] 51 #[t14, t16]) w fun t17 w => runX Tryz.prog Z (nilChk (.pointer (some ⟨g, 0, none⟩))) w fun t18 w => run1 Tryz.prog Z (Instr.fieldAt 73 t18 0) w fun t19 w => run0 Tryz.prog Z (Instr.storeAt 51 t19 t17) w Q) (Q w) := by
  obtain ⟨v0, v1, ⟨h0, h1⟩, hS⟩ := bagP.open h
  (try simp only [o_chk, fa_73_0, Nat.add_zero])
  refine r_load one51 (hS.at m0 0 rfl) ?_
  refine r1 ((hS.own_rd m1).len sl51 _ rfl _ _) ?_
  by_cases hlt : (b0.length : Int) < 600
  · (try simp only [o_lss, hlt, decide_true, condT])
    refine r_load one51 (hS.at m0 0 rfl) ?_
    refine r_push el51 (hS.pick 1) l hl1 (by omega) (by simp only [maxLen]; omega) fun v' w1 hS => ?_
    have hv' : v'.oneCell' = true := by obtain ⟨_, _, e⟩ := hS.own_form; rw [e]; rfl
    skip
    refine r_store (hS.pick 1) one51 (show 0 < 21 by omega) hv' fun w2 hS => ?_
    have hlen : (b0 ++ [l]).length = b0.length + 1 := by simp
    rw [← hlen] at hS
    exact hq _ _ (by rw [if_pos (by omega)]) (bagP.shut (v0 := v') ⟨(by omega), h1⟩ (hS.swap.put 1))
  · (try simp only [o_lss, hlt, decide_false, condF])
    exact hq _ _ (by rw [if_neg (by omega)]) (bagP.shut ⟨h0, h1⟩ hS)
theorem bagPushPieces {l : Value} (hl1 : l.oneCell' = true) {Q : World → Prop} (h : St o w (bagP g b0 b1 :: R)) (hq : ∀ b' w', b' = (if b1.length < 600 then b1 ++ [l] else b1) → St o w' (bagP g b0 b' :: R) → Q w') :
    runX Tryz.prog Z (nilChk (.pointer (some ⟨g, 0, none⟩))) w fun t5 w => run1 Tryz.prog Z (Instr.fieldAt 73 t5 3) w fun t6 w => run1 Tryz.prog Z (Instr.loadAt 54 t6) w fun t7 w => run1 Tryz.prog Z (Builtin.len_ #[54] 3 #[t7]) w fun t8 w => run1 Tryz.prog Z (binOp BinOp.lss 3 t8 (Value.int IntKind.i64 600)) w fun t9 w =>
      CondV t9 (runX Tryz.prog Z (nilChk (.pointer (some ⟨g, 0, none⟩))) w fun t12 w => run1 Tryz.prog Z (Instr.fieldAt 73 t12 3) w fun t13 w => run1 Tryz.prog Z (Instr.loadAt 54 t13) w fun t14 w => run1 Tryz.prog Z (Instr.buildSlice 54 1 #[(0, l)]) w fun t16 w => run1 Tryz.prog Z (Builtin.append_ #[54, 54] 54 #[t14, t16]) w fun t17 w => runX Tryz.prog Z (nilChk (.pointer (some ⟨g, 0, none⟩))) w fun t18 w => run1 Tryz.prog Z (Instr.fieldAt 73 t18 3) w fun t19 w => run0 Tryz.prog Z (Instr.storeAt 54 t19 t17) w Q) (Q w) := by
  obtain ⟨v0, v1, ⟨h0, h1⟩, hS⟩ := bagP.open h
  (try simp only [o_chk, fa_73_3, Nat.zero_add])
  refine r_load one54 (hS.at m0 3 rfl) ?_
  refine r1 ((hS.own_rd m2).len sl54 _ rfl _ _) ?_
  by_cases hlt : (b1.length : Int) < 600
  · (try simp only [o_lss, hlt, decide_true, condT])
    refine r_load one54 (hS.at m0 3 rfl) ?_
    refine r_push el54 (hS.pick 2) l hl1 (by omega) (by simp only [maxLen]; omega) fun v' w1 hS => ?_
    have hv' : v'.oneCell' = true := by obtain ⟨_, _, e⟩ := hS.own_form; rw [e]; rfl
    skip
    refine r_store (hS.pick 1) one54 (show 3 < 21 by omega) hv' fun w2 hS => ?_
    have hlen : (b1 ++ [l]).length = b1.length + 1 := by simp
    rw [← hlen] at hS
    exact hq _ _ (by rw [if_pos (by omega)]) (bagP.shut (v1 := v') ⟨h0, (by omega)⟩ (hS.swap.put 2))
  · (try simp only [o_lss, hlt, decide_false, condF])
    exact hq _ _ (by rw [if_neg (by omega)]) (bagP.shut ⟨h0, h1⟩ hS)
theorem bagAddBytes {l : Value} (hl1 : l.oneCell' = true) (h : St o w (bagP g b0 b1 :: R)) : CallV Tryz.prog Z 54 #[.pointer (some ⟨g, 0, none⟩), l] w fun r w' => ∃ b', b' = (if b0.length < 600 then b0 ++ [l] else b0) ∧ St o w' (bagP g b' b1 :: R) := by
  refine f54.calls ?_
  unfold f54.sh
  exact bagPushBytes Z hl1 h fun b' w' hb hS => ⟨b', hb, hS⟩
theorem bagAddPieces {l : Value} {m : Nat} {xs : List Value} (hl1 : l.oneCell' = true) (hm : b0.length + m ≤ 600) (hx : Ent o R fun w => Rd w 1 l m xs) (hone : ∀ x ∈ xs, x.oneCell' = true) (h : St o w (bagP g b0 [] :: R)) :
    CallV Tryz.prog Z 26 #[.pointer (some ⟨g, 0, none⟩), l] w fun r w' => St o w' (bagP g (b0 ++ xs) [l] :: R) := by
  obtain ⟨al, cl, rfl⟩ := (hx w h.drop).form
  have hxl : xs.length = m := by have := (hx w h.drop).1; omega
  refine f26.calls ?_
  unfold f26.sh
  intro j hj
  have HJ : ∀ w', St o w' (bagP g b0 [.slice al m cl] :: R) → j w' := by
    intro w0 hS
    refine hj w0 fun _ => ?_
    clear hj
    refine ⟨fun k y w' => ∃ i : Nat, y = .int .i64 i ∧ k + i = m ∧ St o w' (bagP g (b0 ++ xs.take i) [.slice al m cl] :: R), ⟨m, 0, rfl, rfl, by simpa using hS⟩, ?_⟩
    clear hS
    rintro k _ w1 ⟨i, rfl, hi, hS⟩ _
    by_cases hlt : (i : Int) < (m : Int)
    · have hil : i < m := by omega
      have h6 : (i : Int) < 600 := by omega
      (try simp only [o_add, ln_51_3, o_lss, hlt, decide_true, o_pickT, guardW_true, h6, condT])
      obtain ⟨b, q, hp, hc⟩ := (hx w1 hS.drop).adr el51 .i64 i hil
      have hP : w1.cell? ⟨b, q, none⟩ = some xs[i] := hc w1 (hx w1 hS.drop) 0 xs[i] (by rw [at_one]; exact List.getElem?_eq_getElem (by omega))
      refine r1 (hp _) (r_load one22 hP ?_)
      refine (bagAddBytes Z (hone _ (List.getElem_mem _)) hS).mono fun r w2 ⟨b', hb, hS⟩ => ?_
      have hb' : b' = b0 ++ xs.take (i + 1) := by rw [hb, if_pos (by simp only [List.length_append, List.length_take]; omega), List.append_assoc, ← List.take_succ_eq_append_getElem (by omega)]
      subst hb'
      skip
      rw [wr_i64 (x := (i : Int) + 1) (by omega) (by omega)]
      exact ⟨k - 1, by omega, i + 1, rfl, by omega, hS⟩
    · have him : i = m := by omega
      subst him
      rw [List.take_of_length_le (by omega)] at hS
      (try simp only [o_add, ln_51_3, o_lss, hlt, decide_false, o_pickF, condF, guardW_ft])
      exact hS
  refine bagPushPieces Z hl1 h fun b' w' hb hS => HJ _ ?_
  have hb' : b' = [.slice al m cl] := by rw [hb]; rfl
  subst hb'
  exact hS
set_option maxRecDepth 100000 in
theorem bagApart {es0 : List (Value × Nat)} {pv : Value} {pn : Nat} {pxs : List Value} (hpn : pn ≤ 600) (hT : Tab o) (ho : old o ∈ R) (h : St o w (bagP g (es0.map Prod.fst) [pv] :: rowsX 5 1 1 es0 :: own 22 1 pv pn pxs :: R)) :
    CallV Tryz.prog Z 27 #[.pointer (some ⟨g, 0, none⟩)] w fun r w' => r = .bool true ∧ St o w' R := by
  obtain ⟨v0, v1, ⟨h0, h1⟩, hS⟩ := bagP.open h
  simp only [List.length_map] at hS h0 h1
  refine f27.calls ?_
  unfold f27.sh
  (try simp only [o_chk, fa_73_20, Nat.zero_add, fa_73_19, fa_73_18, fa_73_17, fa_73_16, fa_73_15, fa_73_14, fa_73_13, fa_73_12, fa_73_11, fa_73_10, fa_73_9, fa_73_8, fa_73_7, fa_73_6, fa_73_5, fa_73_4, fa_73_3, fa_73_2, fa_73_1, fa_73_0, Nat.add_zero])
  refine r_load one51 (hS.at m0 0 rfl) ?_
  refine (apartBytes Z h0 hT (by simp [ho]) (fun w hw => hw.own_rd m1) (hS.pick 3)).mono fun r w1 ⟨hr, hS⟩ => ?_
  subst hr
  have hS := hS.put 3
  (try simp only [o_pickT, guardW_true])
  refine r_load one52 (hS.at m0 1 rfl) ?_
  refine (nilApartInts Z).mono fun r w1 ⟨hr, hw⟩ => ?_
  subst hr; subst hw
  (try simp only [o_pickT, guardW_true])
  refine r_load one53 (hS.at m0 2 rfl) ?_
  refine (nilApartTexts Z).mono fun r w1 ⟨hr, hw⟩ => ?_
  subst hr; subst hw
  (try simp only [o_pickT, guardW_true])
  refine r_load one54 (hS.at m0 3 rfl) ?_
  refine (apartPieces Z hpn hT (by simp [ho]) (fun w hw => hw.own_rd m2) (hS.pick 4)).mono fun r w1 ⟨hr, hS⟩ => ?_
  subst hr
  (try simp only [o_pickT, guardW_true])
  refine r_load one55 (hS.at m0 4 rfl) ?_
  refine (nilApartIds Z).mono fun r w1 ⟨hr, hw⟩ => ?_
  subst hr; subst hw
  (try simp only [o_pickT, guardW_true])
  refine r_load one56 (hS.at m0 5 rfl) ?_
  refine (nilApartAcl Z).mono fun r w1 ⟨hr, hw⟩ => ?_
  subst hr; subst hw
  (try simp only [o_pickT, guardW_true])
  refine r_load one57 (hS.at m0 6 rfl) ?_
  refine (nilApartRequests Z).mono fun r w1 ⟨hr, hw⟩ => ?_
  subst hr; subst hw
  (try simp only [o_pickT, guardW_true])
  refine r_load one58 (hS.at m0 7 rfl) ?_
  refine (nilApartTxns Z).mono fun r w1 ⟨hr, hw⟩ => ?_
  subst hr; subst hw
  (try simp only [o_pickT, guardW_true])
  refine r_load one59 (hS.at m0 8 rfl) ?_
  refine (nilApartResults Z).mono fun r w1 ⟨hr, hw⟩ => ?_
  subst hr; subst hw
  (try simp only [o_pickT, guardW_true])
  refine r_load one60 (hS.at m0 9 rfl) ?_
  refine (nilApartNodes Z).mono fun r w1 ⟨hr, hw⟩ => ?_
  subst hr; subst hw
  (try simp only [o_pickT, guardW_true])
  refine r_load one61 (hS.at m0 10 rfl) ?_
  refine (nilApartSessions Z).mono fun r w1 ⟨hr, hw⟩ => ?_
  subst hr; subst hw
  (try simp only [o_pickT, guardW_true])
  refine r_load one62 (hS.at m0 11 rfl) ?_
  refine (nilApartChanges Z).mono fun r w1 ⟨hr, hw⟩ => ?_
  subst hr; subst hw
  (try simp only [o_pickT, guardW_true])
  refine r_load one63 (hS.at m0 12 rfl) ?_
  refine (nilApartFiles Z).mono fun r w1 ⟨hr, hw⟩ => ?_
  subst hr; subst hw
  (try simp only [o_pickT, guardW_true])
  refine r_load one64 (hS.at m0 13 rfl) ?_
  refine (nilApartPackets Z).mono fun r w1 ⟨hr, hw⟩ => ?_
  subst hr; subst hw
  (try simp only [o_pickT, guardW_true])
  refine r_load one65 (hS.at m0 14 rfl) ?_
  refine (nilApartMessages Z).mono fun r w1 ⟨hr, hw⟩ => ?_
  subst hr; subst hw
  (try simp only [o_pickT, guardW_true])
  refine r_load one66 (hS.at m0 15 rfl) ?_
  refine (nilApartWatches Z).mono fun r w1 ⟨hr, hw⟩ => ?_
  subst hr; subst hw
  (try simp only [o_pickT, guardW_true])
  refine r_load one67 (hS.at m0 16 rfl) ?_
  refine (nilApartFired Z).mono fun r w1 ⟨hr, hw⟩ => ?_
  subst hr; subst hw
  (try simp only [o_pickT, guardW_true])
  refine r_load one68 (hS.at m0 17 rfl) ?_
  refine (nilApartFacts Z).mono fun r w1 ⟨hr, hw⟩ => ?_
  subst hr; subst hw
  (try simp only [o_pickT, guardW_true])
  refine r_load one69 (hS.at m0 18 rfl) ?_
  refine (nilApartSends Z).mono fun r w1 ⟨hr, hw⟩ => ?_
  subst hr; subst hw
  (try simp only [o_pickT, guardW_true])
  refine r_load one70 (hS.at m0 19 rfl) ?_
  refine (nilApartEvents Z).mono fun r w1 ⟨hr, hw⟩ => ?_
  subst hr; subst hw
  (try simp only [o_pickT, guardW_true])
  refine r_load one71 (hS.at m0 20 rfl) ?_
  refine (nilApartFactss Z).mono fun r w1 ⟨hr, hw⟩ => ?_
  subst hr; subst hw
  (try simp only [])
  exact ⟨by first | rfl | trivial, hS.drop.drop.drop.drop⟩
end
end Go.Proofs.YthobnaagjhooeaaGreatDoor
