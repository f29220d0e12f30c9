
/- A Bag's lists: put in, held apart. Printed by wip/sh/mkbag.py. -/
import Derived.Test.YtcbbaiglcgemmaaGreatDoorQ1
set_option linter.unusedVariables false
set_option linter.unusedSimpArgs false
namespace Go.Proofs.YtcbbaiglcgemmaaGreatDoor
open Go.Sh
section
variable (Z : List PanicEntry → World → Prop) {o w : World} {R As : List HProp}
theorem nilGrownInts (c : Nat) : CallV Tryz.prog Z 69 #[.slice none 0 0, .int .i64 c] w fun r w' => r = .bool true ∧ w' = w := by
  refine f69.calls ?_
  unfold f69.sh
  refine ⟨fun m x y w' => x = .slice none 0 0 ∧ y = .int .i64 0 ∧ w' = w, ⟨0, rfl, rfl, rfl⟩, ?_⟩
  rintro m _ _ w1 ⟨rfl, rfl, rfl⟩ _
  have z0 : ¬ ((0 : Int) < ((0 : Nat) : Int)) := by decide
  (try simp only [o_sub, o_add, ln_34_3, o_lss, z0, decide_false, condF])
  refine ⟨fun m y w' => y = .int .i64 0 ∧ w' = w1, ⟨0, rfl, rfl⟩, ?_⟩
  rintro m _ w2 ⟨rfl, rfl⟩ _
  (try simp only [o_add, o_lss, z0, decide_false, condF])
  exact ⟨by first | rfl | trivial, by first | rfl | trivial⟩
theorem nilApartInts : CallV Tryz.prog Z 40 #[.slice none 0 0] w fun r w' => r = .bool true ∧ w' = w := by
  refine f40.calls ?_
  unfold f40.sh
  have z0 : ¬ ((0 : Int) < ((0 : Nat) : Int)) := by decide
  refine ⟨fun m y w' => y = .int .i64 0 ∧ w' = w, ⟨0, rfl, rfl⟩, ?_⟩
  rintro m _ w1 ⟨rfl, rfl⟩ _
  (try simp only [o_sub, o_add, ln_34_3, o_lss, z0, decide_false, condF])
  refine (nilGrownInts Z 1).mono fun r w3 ⟨hr, hw⟩ => ?_
  subst hr; subst hw
  refine (nilGrownInts Z 24).mono fun r w3 ⟨hr, hw⟩ => ?_
  subst hr; subst hw
  (try simp only [o_pickT, guardW_true])
  exact ⟨by first | rfl | trivial, by first | rfl | trivial⟩
theorem nilGrownPieces (c : Nat) : CallV Tryz.prog Z 72 #[.slice none 0 0, .int .i64 c] w fun r w' => r = .bool true ∧ w' = w := by
  refine f72.calls ?_
  unfold f72.sh
  refine ⟨fun m x y w' => x = .slice none 0 0 ∧ y = .int .i64 0 ∧ w' = w, ⟨0, rfl, rfl, rfl⟩, ?_⟩
  rintro m _ _ w1 ⟨rfl, rfl, rfl⟩ _
  have z0 : ¬ ((0 : Int) < ((0 : Nat) : Int)) := by decide
  (try simp only [o_sub, o_add, ln_36_3, o_lss, z0, decide_false, condF])
  refine ⟨fun m y w' => y = .int .i64 0 ∧ w' = w1, ⟨0, rfl, rfl⟩, ?_⟩
  rintro m _ w2 ⟨rfl, rfl⟩ _
  (try simp only [o_add, o_lss, z0, decide_false, condF])
  exact ⟨by first | rfl | trivial, by first | rfl | trivial⟩
theorem nilApartPieces : CallV Tryz.prog Z 42 #[.slice none 0 0] w fun r w' => r = .bool true ∧ w' = w := by
  refine f42.calls ?_
  unfold f42.sh
  have z0 : ¬ ((0 : Int) < ((0 : Nat) : Int)) := by decide
  refine ⟨fun m y w' => y = .int .i64 0 ∧ w' = w, ⟨0, rfl, rfl⟩, ?_⟩
  rintro m _ w1 ⟨rfl, rfl⟩ _
  (try simp only [o_subp, o_add, ln_36_3, o_lss, z0, decide_false, condF])
  refine (nilGrownPieces Z 1).mono fun r w3 ⟨hr, hw⟩ => ?_
  subst hr; subst hw
  refine (nilGrownPieces Z 24).mono fun r w3 ⟨hr, hw⟩ => ?_
  subst hr; subst hw
  (try simp only [o_pickT, guardW_true])
  exact ⟨by first | rfl | trivial, by first | rfl | trivial⟩
theorem nilGrownIds (c : Nat) : CallV Tryz.prog Z 73 #[.slice none 0 0, .int .i64 c] w fun r w' => r = .bool true ∧ w' = w := by
  refine f73.calls ?_
  unfold f73.sh
  refine ⟨fun m x y w' => x = .slice none 0 0 ∧ y = .int .i64 0 ∧ w' = w, ⟨0, rfl, rfl, rfl⟩, ?_⟩
  rintro m _ _ w1 ⟨rfl, rfl, rfl⟩ _
  have z0 : ¬ ((0 : Int) < ((0 : Nat) : Int)) := by decide
  (try simp only [o_sub, o_add, ln_37_3, o_lss, z0, decide_false, condF])
  refine ⟨fun m y w' => y = .int .i64 0 ∧ w' = w1, ⟨0, rfl, rfl⟩, ?_⟩
  rintro m _ w2 ⟨rfl, rfl⟩ _
  (try simp only [o_add, o_lss, z0, decide_false, condF])
  exact ⟨by first | rfl | trivial, by first | rfl | trivial⟩
theorem nilApartIds : CallV Tryz.prog Z 43 #[.slice none 0 0] w fun r w' => r = .bool true ∧ w' = w := by
  refine f43.calls ?_
  unfold f43.sh
  have z0 : ¬ ((0 : Int) < ((0 : Nat) : Int)) := by decide
  refine ⟨fun m y w' => y = .int .i64 0 ∧ w' = w, ⟨0, rfl, rfl⟩, ?_⟩
  rintro m _ w1 ⟨rfl, rfl⟩ _
  (try simp only [o_subp, o_add, ln_37_3, o_lss, z0, decide_false, condF])
  refine (nilGrownIds Z 1).mono fun r w3 ⟨hr, hw⟩ => ?_
  subst hr; subst hw
  refine (nilGrownIds Z 24).mono fun r w3 ⟨hr, hw⟩ => ?_
  subst hr; subst hw
  (try simp only [o_pickT, guardW_true])
  exact ⟨by first | rfl | trivial, by first | rfl | trivial⟩
theorem nilGrownAcl (c : Nat) : CallV Tryz.prog Z 74 #[.slice none 0 0, .int .i64 c] w fun r w' => r = .bool true ∧ w' = w := by
  refine f74.calls ?_
  unfold f74.sh
  refine ⟨fun m x y w' => x = .slice none 0 0 ∧ y = .int .i64 0 ∧ w' = w, ⟨0, rfl, rfl, rfl⟩, ?_⟩
  rintro m _ _ w1 ⟨rfl, rfl, rfl⟩ _
  have z0 : ¬ ((0 : Int) < ((0 : Nat) : Int)) := by decide
  (try simp only [o_sub, o_add, ln_38_3, o_lss, z0, decide_false, condF])
  refine ⟨fun m y w' => y = .int .i64 0 ∧ w' = w1, ⟨0, rfl, rfl⟩, ?_⟩
  rintro m _ w2 ⟨rfl, rfl⟩ _
  (try simp only [o_add, o_lss, z0, decide_false, condF])
  exact ⟨by first | rfl | trivial, by first | rfl | trivial⟩
theorem nilApartAcl : CallV Tryz.prog Z 44 #[.slice none 0 0] w fun r w' => r = .bool true ∧ w' = w := by
  refine f44.calls ?_
  unfold f44.sh
  have z0 : ¬ ((0 : Int) < ((0 : Nat) : Int)) := by decide
  refine ⟨fun m y w' => y = .int .i64 0 ∧ w' = w, ⟨0, rfl, rfl⟩, ?_⟩
  rintro m _ w1 ⟨rfl, rfl⟩ _
  (try simp only [o_subp, o_add, ln_38_3, o_lss, z0, decide_false, condF])
  refine (nilGrownAcl Z 1).mono fun r w3 ⟨hr, hw⟩ => ?_
  subst hr; subst hw
  refine (nilGrownAcl Z 24).mono fun r w3 ⟨hr, hw⟩ => ?_
  subst hr; subst hw
  (try simp only [o_pickT, guardW_true])
  exact ⟨by first | rfl | trivial, by first | rfl | trivial⟩
theorem nilGrownRequests (c : Nat) : CallV Tryz.prog Z 75 #[.slice none 0 0, .int .i64 c] w fun r w' => r = .bool true ∧ w' = w := by
  refine f75.calls ?_
  unfold f75.sh
  refine ⟨fun m x y w' => x = .slice none 0 0 ∧ y = .int .i64 0 ∧ w' = w, ⟨0, rfl, rfl, rfl⟩, ?_⟩
  rintro m _ _ w1 ⟨rfl, rfl, rfl⟩ _
  have z0 : ¬ ((0 : Int) < ((0 : Nat) : Int)) := by decide
  (try simp only [o_sub, o_add, ln_39_3, o_lss, z0, decide_false, condF])
  refine ⟨fun m y w' => y = .int .i64 0 ∧ w' = w1, ⟨0, rfl, rfl⟩, ?_⟩
  rintro m _ w2 ⟨rfl, rfl⟩ _
  (try simp only [o_add, o_lss, z0, decide_false, condF])
  exact ⟨by first | rfl | trivial, by first | rfl | trivial⟩
theorem nilApartRequests : CallV Tryz.prog Z 45 #[.slice none 0 0] w fun r w' => r = .bool true ∧ w' = w := by
  refine f45.calls ?_
  unfold f45.sh
  have z0 : ¬ ((0 : Int) < ((0 : Nat) : Int)) := by decide
  refine ⟨fun m y w' => y = .int .i64 0 ∧ w' = w, ⟨0, rfl, rfl⟩, ?_⟩
  rintro m _ w1 ⟨rfl, rfl⟩ _
  (try simp only [o_sub, o_add, ln_39_3, o_lss, z0, decide_false, condF])
  refine (nilGrownRequests Z 1).mono fun r w3 ⟨hr, hw⟩ => ?_
  subst hr; subst hw
  refine (nilGrownRequests Z 24).mono fun r w3 ⟨hr, hw⟩ => ?_
  subst hr; subst hw
  (try simp only [o_pickT, guardW_true])
  exact ⟨by first | rfl | trivial, by first | rfl | trivial⟩
theorem nilGrownTxns (c : Nat) : CallV Tryz.prog Z 76 #[.slice none 0 0, .int .i64 c] w fun r w' => r = .bool true ∧ w' = w := by
  refine f76.calls ?_
  unfold f76.sh
  refine ⟨fun m x y w' => x = .slice none 0 0 ∧ y = .int .i64 0 ∧ w' = w, ⟨0, rfl, rfl, rfl⟩, ?_⟩
  rintro m _ _ w1 ⟨rfl, rfl, rfl⟩ _
  have z0 : ¬ ((0 : Int) < ((0 : Nat) : Int)) := by decide
  (try simp only [o_sub, o_add, ln_40_3, o_lss, z0, decide_false, condF])
  refine ⟨fun m y w' => y = .int .i64 0 ∧ w' = w1, ⟨0, rfl, rfl⟩, ?_⟩
  rintro m _ w2 ⟨rfl, rfl⟩ _
  (try simp only [o_add, o_lss, z0, decide_false, condF])
  exact ⟨by first | rfl | trivial, by first | rfl | trivial⟩
theorem nilApartTxns : CallV Tryz.prog Z 46 #[.slice none 0 0] w fun r w' => r = .bool true ∧ w' = w := by
  refine f46.calls ?_
  unfold f46.sh
  have z0 : ¬ ((0 : Int) < ((0 : Nat) : Int)) := by decide
  refine ⟨fun m y w' => y = .int .i64 0 ∧ w' = w, ⟨0, rfl, rfl⟩, ?_⟩
  rintro m _ w1 ⟨rfl, rfl⟩ _
  (try simp only [o_sub, o_add, ln_40_3, o_lss, z0, decide_false, condF])
  refine (nilGrownTxns Z 1).mono fun r w3 ⟨hr, hw⟩ => ?_
  subst hr; subst hw
  refine (nilGrownTxns Z 24).mono fun r w3 ⟨hr, hw⟩ => ?_
  subst hr; subst hw
  (try simp only [o_pickT, guardW_true])
  exact ⟨by first | rfl | trivial, by first | rfl | trivial⟩
theorem nilGrownResults (c : Nat) : CallV Tryz.prog Z 77 #[.slice none 0 0, .int .i64 c] w fun r w' => r = .bool true ∧ w' = w := by
  refine f77.calls ?_
  unfold f77.sh
  refine ⟨fun m x y w' => x = .slice none 0 0 ∧ y = .int .i64 0 ∧ w' = w, ⟨0, rfl, rfl, rfl⟩, ?_⟩
  rintro m _ _ w1 ⟨rfl, rfl, rfl⟩ _
  have z0 : ¬ ((0 : Int) < ((0 : Nat) : Int)) := by decide
  (try simp only [o_sub, o_add, ln_41_3, o_lss, z0, decide_false, condF])
  refine ⟨fun m y w' => y = .int .i64 0 ∧ w' = w1, ⟨0, rfl, rfl⟩, ?_⟩
  rintro m _ w2 ⟨rfl, rfl⟩ _
  (try simp only [o_add, o_lss, z0, decide_false, condF])
  exact ⟨by first | rfl | trivial, by first | rfl | trivial⟩
theorem nilApartResults : CallV Tryz.prog Z 47 #[.slice none 0 0] w fun r w' => r = .bool true ∧ w' = w := by
  refine f47.calls ?_
  unfold f47.sh
  have z0 : ¬ ((0 : Int) < ((0 : Nat) : Int)) := by decide
  refine ⟨fun m y w' => y = .int .i64 0 ∧ w' = w, ⟨0, rfl, rfl⟩, ?_⟩
  rintro m _ w1 ⟨rfl, rfl⟩ _
  (try simp only [o_sub, o_add, ln_41_3, o_lss, z0, decide_false, condF])
  refine (nilGrownResults Z 1).mono fun r w3 ⟨hr, hw⟩ => ?_
  subst hr; subst hw
  refine (nilGrownResults Z 24).mono fun r w3 ⟨hr, hw⟩ => ?_
  subst hr; subst hw
  (try simp only [o_pickT, guardW_true])
  exact ⟨by first | rfl | trivial, by first | rfl | trivial⟩
theorem nilGrownNodes (c : Nat) : CallV Tryz.prog Z 78 #[.slice none 0 0, .int .i64 c] w fun r w' => r = .bool true ∧ w' = w := by
  refine f78.calls ?_
  unfold f78.sh
  refine ⟨fun m x y w' => x = .slice none 0 0 ∧ y = .int .i64 0 ∧ w' = w, ⟨0, rfl, rfl, rfl⟩, ?_⟩
  rintro m _ _ w1 ⟨rfl, rfl, rfl⟩ _
  have z0 : ¬ ((0 : Int) < ((0 : Nat) : Int)) := by decide
  (try simp only [o_sub, o_add, ln_42_3, o_lss, z0, decide_false, condF])
  refine ⟨fun m y w' => y = .int .i64 0 ∧ w' = w1, ⟨0, rfl, rfl⟩, ?_⟩
  rintro m _ w2 ⟨rfl, rfl⟩ _
  (try simp only [o_add, o_lss, z0, decide_false, condF])
  exact ⟨by first | rfl | trivial, by first | rfl | trivial⟩
theorem nilApartNodes : CallV Tryz.prog Z 48 #[.slice none 0 0] w fun r w' => r = .bool true ∧ w' = w := by
  refine f48.calls ?_
  unfold f48.sh
  have z0 : ¬ ((0 : Int) < ((0 : Nat) : Int)) := by decide
  refine ⟨fun m y w' => y = .int .i64 0 ∧ w' = w, ⟨0, rfl, rfl⟩, ?_⟩
  rintro m _ w1 ⟨rfl, rfl⟩ _
  (try simp only [o_subp, o_add, ln_42_3, o_lss, z0, decide_false, condF])
  refine (nilGrownNodes Z 1).mono fun r w3 ⟨hr, hw⟩ => ?_
  subst hr; subst hw
  refine (nilGrownNodes Z 24).mono fun r w3 ⟨hr, hw⟩ => ?_
  subst hr; subst hw
  (try simp only [o_pickT, guardW_true])
  exact ⟨by first | rfl | trivial, by first | rfl | trivial⟩
theorem nilGrownSessions (c : Nat) : CallV Tryz.prog Z 79 #[.slice none 0 0, .int .i64 c] w fun r w' => r = .bool true ∧ w' = w := by
  refine f79.calls ?_
  unfold f79.sh
  refine ⟨fun m x y w' => x = .slice none 0 0 ∧ y = .int .i64 0 ∧ w' = w, ⟨0, rfl, rfl, rfl⟩, ?_⟩
  rintro m _ _ w1 ⟨rfl, rfl, rfl⟩ _
  have z0 : ¬ ((0 : Int) < ((0 : Nat) : Int)) := by decide
  (try simp only [o_sub, o_add, ln_43_3, o_lss, z0, decide_false, condF])
  refine ⟨fun m y w' => y = .int .i64 0 ∧ w' = w1, ⟨0, rfl, rfl⟩, ?_⟩
  rintro m _ w2 ⟨rfl, rfl⟩ _
  (try simp only [o_add, o_lss, z0, decide_false, condF])
  exact ⟨by first | rfl | trivial, by first | rfl | trivial⟩
theorem nilApartSessions : CallV Tryz.prog Z 49 #[.slice none 0 0] w fun r w' => r = .bool true ∧ w' = w := by
  refine f49.calls ?_
  unfold f49.sh
  have z0 : ¬ ((0 : Int) < ((0 : Nat) : Int)) := by decide
  refine ⟨fun m y w' => y = .int .i64 0 ∧ w' = w, ⟨0, rfl, rfl⟩, ?_⟩
  rintro m _ w1 ⟨rfl, rfl⟩ _
  (try simp only [o_sub, o_add, ln_43_3, o_lss, z0, decide_false, condF])
  refine (nilGrownSessions Z 1).mono fun r w3 ⟨hr, hw⟩ => ?_
  subst hr; subst hw
  refine (nilGrownSessions Z 24).mono fun r w3 ⟨hr, hw⟩ => ?_
  subst hr; subst hw
  (try simp only [o_pickT, guardW_true])
  exact ⟨by first | rfl | trivial, by first | rfl | trivial⟩
theorem nilGrownChanges (c : Nat) : CallV Tryz.prog Z 80 #[.slice none 0 0, .int .i64 c] w fun r w' => r = .bool true ∧ w' = w := by
  refine f80.calls ?_
  unfold f80.sh
  refine ⟨fun m x y w' => x = .slice none 0 0 ∧ y = .int .i64 0 ∧ w' = w, ⟨0, rfl, rfl, rfl⟩, ?_⟩
  rintro m _ _ w1 ⟨rfl, rfl, rfl⟩ _
  have z0 : ¬ ((0 : Int) < ((0 : Nat) : Int)) := by decide
  (try simp only [o_sub, o_add, ln_44_3, o_lss, z0, decide_false, condF])
  refine ⟨fun m y w' => y = .int .i64 0 ∧ w' = w1, ⟨0, rfl, rfl⟩, ?_⟩
  rintro m _ w2 ⟨rfl, rfl⟩ _
  (try simp only [o_add, o_lss, z0, decide_false, condF])
  exact ⟨by first | rfl | trivial, by first | rfl | trivial⟩
theorem nilApartChanges : CallV Tryz.prog Z 50 #[.slice none 0 0] w fun r w' => r = .bool true ∧ w' = w := by
  refine f50.calls ?_
  unfold f50.sh
  have z0 : ¬ ((0 : Int) < ((0 : Nat) : Int)) := by decide
  refine ⟨fun m y w' => y = .int .i64 0 ∧ w' = w, ⟨0, rfl, rfl⟩, ?_⟩
  rintro m _ w1 ⟨rfl, rfl⟩ _
  (try simp only [o_subp, o_add, ln_44_3, o_lss, z0, decide_false, condF])
  refine (nilGrownChanges Z 1).mono fun r w3 ⟨hr, hw⟩ => ?_
  subst hr; subst hw
  refine (nilGrownChanges Z 24).mono fun r w3 ⟨hr, hw⟩ => ?_
  subst hr; subst hw
  (try simp only [o_pickT, guardW_true])
  exact ⟨by first | rfl | trivial, by first | rfl | trivial⟩
theorem nilGrownPackets (c : Nat) : CallV Tryz.prog Z 82 #[.slice none 0 0, .int .i64 c] w fun r w' => r = .bool true ∧ w' = w := by
  refine f82.calls ?_
  unfold f82.sh
  refine ⟨fun m x y w' => x = .slice none 0 0 ∧ y = .int .i64 0 ∧ w' = w, ⟨0, rfl, rfl, rfl⟩, ?_⟩
  rintro m _ _ w1 ⟨rfl, rfl, rfl⟩ _
  have z0 : ¬ ((0 : Int) < ((0 : Nat) : Int)) := by decide
  (try simp only [o_sub, o_add, ln_46_3, o_lss, z0, decide_false, condF])
  refine ⟨fun m y w' => y = .int .i64 0 ∧ w' = w1, ⟨0, rfl, rfl⟩, ?_⟩
  rintro m _ w2 ⟨rfl, rfl⟩ _
  (try simp only [o_add, o_lss, z0, decide_false, condF])
  exact ⟨by first | rfl | trivial, by first | rfl | trivial⟩
theorem nilApartPackets : CallV Tryz.prog Z 52 #[.slice none 0 0] w fun r w' => r = .bool true ∧ w' = w := by
  refine f52.calls ?_
  unfold f52.sh
  have z0 : ¬ ((0 : Int) < ((0 : Nat) : Int)) := by decide
  refine ⟨fun m y w' => y = .int .i64 0 ∧ w' = w, ⟨0, rfl, rfl⟩, ?_⟩
  rintro m _ w1 ⟨rfl, rfl⟩ _
  (try simp only [o_sub, o_add, ln_46_3, o_lss, z0, decide_false, condF])
  refine (nilGrownPackets Z 1).mono fun r w3 ⟨hr, hw⟩ => ?_
  subst hr; subst hw
  refine (nilGrownPackets Z 24).mono fun r w3 ⟨hr, hw⟩ => ?_
  subst hr; subst hw
  (try simp only [o_pickT, guardW_true])
  exact ⟨by first | rfl | trivial, by first | rfl | trivial⟩
theorem nilGrownMessages (c : Nat) : CallV Tryz.prog Z 83 #[.slice none 0 0, .int .i64 c] w fun r w' => r = .bool true ∧ w' = w := by
  refine f83.calls ?_
  unfold f83.sh
  refine ⟨fun m x y w' => x = .slice none 0 0 ∧ y = .int .i64 0 ∧ w' = w, ⟨0, rfl, rfl, rfl⟩, ?_⟩
  rintro m _ _ w1 ⟨rfl, rfl, rfl⟩ _
  have z0 : ¬ ((0 : Int) < ((0 : Nat) : Int)) := by decide
  (try simp only [o_sub, o_add, ln_47_3, o_lss, z0, decide_false, condF])
  refine ⟨fun m y w' => y = .int .i64 0 ∧ w' = w1, ⟨0, rfl, rfl⟩, ?_⟩
  rintro m _ w2 ⟨rfl, rfl⟩ _
  (try simp only [o_add, o_lss, z0, decide_false, condF])
  exact ⟨by first | rfl | trivial, by first | rfl | trivial⟩
theorem nilApartMessages : CallV Tryz.prog Z 53 #[.slice none 0 0] w fun r w' => r = .bool true ∧ w' = w := by
  refine f53.calls ?_
  unfold f53.sh
  have z0 : ¬ ((0 : Int) < ((0 : Nat) : Int)) := by decide
  refine ⟨fun m y w' => y = .int .i64 0 ∧ w' = w, ⟨0, rfl, rfl⟩, ?_⟩
  rintro m _ w1 ⟨rfl, rfl⟩ _
  (try simp only [o_subp, o_add, ln_47_3, o_lss, z0, decide_false, condF])
  refine (nilGrownMessages Z 1).mono fun r w3 ⟨hr, hw⟩ => ?_
  subst hr; subst hw
  refine (nilGrownMessages Z 24).mono fun r w3 ⟨hr, hw⟩ => ?_
  subst hr; subst hw
  (try simp only [o_pickT, guardW_true])
  exact ⟨by first | rfl | trivial, by first | rfl | trivial⟩
theorem nilGrownWatches (c : Nat) : CallV Tryz.prog Z 84 #[.slice none 0 0, .int .i64 c] w fun r w' => r = .bool true ∧ w' = w := by
  refine f84.calls ?_
  unfold f84.sh
  refine ⟨fun m x y w' => x = .slice none 0 0 ∧ y = .int .i64 0 ∧ w' = w, ⟨0, rfl, rfl, rfl⟩, ?_⟩
  rintro m _ _ w1 ⟨rfl, rfl, rfl⟩ _
  have z0 : ¬ ((0 : Int) < ((0 : Nat) : Int)) := by decide
  (try simp only [o_sub, o_add, ln_48_3, o_lss, z0, decide_false, condF])
  refine ⟨fun m y w' => y = .int .i64 0 ∧ w' = w1, ⟨0, rfl, rfl⟩, ?_⟩
  rintro m _ w2 ⟨rfl, rfl⟩ _
  (try simp only [o_add, o_lss, z0, decide_false, condF])
  exact ⟨by first | rfl | trivial, by first | rfl | trivial⟩
theorem nilApartWatches : CallV Tryz.prog Z 54 #[.slice none 0 0] w fun r w' => r = .bool true ∧ w' = w := by
  refine f54.calls ?_
  unfold f54.sh
  have z0 : ¬ ((0 : Int) < ((0 : Nat) : Int)) := by decide
  refine ⟨fun m y w' => y = .int .i64 0 ∧ w' = w, ⟨0, rfl, rfl⟩, ?_⟩
  rintro m _ w1 ⟨rfl, rfl⟩ _
  (try simp only [o_sub, o_add, ln_48_3, o_lss, z0, decide_false, condF])
  refine (nilGrownWatches Z 1).mono fun r w3 ⟨hr, hw⟩ => ?_
  subst hr; subst hw
  refine (nilGrownWatches Z 24).mono fun r w3 ⟨hr, hw⟩ => ?_
  subst hr; subst hw
  (try simp only [o_pickT, guardW_true])
  exact ⟨by first | rfl | trivial, by first | rfl | trivial⟩
theorem nilGrownFired (c : Nat) : CallV Tryz.prog Z 85 #[.slice none 0 0, .int .i64 c] w fun r w' => r = .bool true ∧ w' = w := by
  refine f85.calls ?_
  unfold f85.sh
  refine ⟨fun m x y w' => x = .slice none 0 0 ∧ y = .int .i64 0 ∧ w' = w, ⟨0, rfl, rfl, rfl⟩, ?_⟩
  rintro m _ _ w1 ⟨rfl, rfl, rfl⟩ _
  have z0 : ¬ ((0 : Int) < ((0 : Nat) : Int)) := by decide
  (try simp only [o_sub, o_add, ln_49_3, o_lss, z0, decide_false, condF])
  refine ⟨fun m y w' => y = .int .i64 0 ∧ w' = w1, ⟨0, rfl, rfl⟩, ?_⟩
  rintro m _ w2 ⟨rfl, rfl⟩ _
  (try simp only [o_add, o_lss, z0, decide_false, condF])
  exact ⟨by first | rfl | trivial, by first | rfl | trivial⟩
theorem nilApartFired : CallV Tryz.prog Z 55 #[.slice none 0 0] w fun r w' => r = .bool true ∧ w' = w := by
  refine f55.calls ?_
  unfold f55.sh
  have z0 : ¬ ((0 : Int) < ((0 : Nat) : Int)) := by decide
  refine ⟨fun m y w' => y = .int .i64 0 ∧ w' = w, ⟨0, rfl, rfl⟩, ?_⟩
  rintro m _ w1 ⟨rfl, rfl⟩ _
  (try simp only [o_sub, o_add, ln_49_3, o_lss, z0, decide_false, condF])
  refine (nilGrownFired Z 1).mono fun r w3 ⟨hr, hw⟩ => ?_
  subst hr; subst hw
  refine (nilGrownFired Z 24).mono fun r w3 ⟨hr, hw⟩ => ?_
  subst hr; subst hw
  (try simp only [o_pickT, guardW_true])
  exact ⟨by first | rfl | trivial, by first | rfl | trivial⟩
theorem nilGrownFacts (c : Nat) : CallV Tryz.prog Z 86 #[.slice none 0 0, .int .i64 c] w fun r w' => r = .bool true ∧ w' = w := by
  refine f86.calls ?_
  unfold f86.sh
  refine ⟨fun m x y w' => x = .slice none 0 0 ∧ y = .int .i64 0 ∧ w' = w, ⟨0, rfl, rfl, rfl⟩, ?_⟩
  rintro m _ _ w1 ⟨rfl, rfl, rfl⟩ _
  have z0 : ¬ ((0 : Int) < ((0 : Nat) : Int)) := by decide
  (try simp only [o_sub, o_add, ln_50_3, o_lss, z0, decide_false, condF])
  refine ⟨fun m y w' => y = .int .i64 0 ∧ w' = w1, ⟨0, rfl, rfl⟩, ?_⟩
  rintro m _ w2 ⟨rfl, rfl⟩ _
  (try simp only [o_add, o_lss, z0, decide_false, condF])
  exact ⟨by first | rfl | trivial, by first | rfl | trivial⟩
theorem nilApartFacts : CallV Tryz.prog Z 56 #[.slice none 0 0] w fun r w' => r = .bool true ∧ w' = w := by
  refine f56.calls ?_
  unfold f56.sh
  have z0 : ¬ ((0 : Int) < ((0 : Nat) : Int)) := by decide
  refine ⟨fun m y w' => y = .int .i64 0 ∧ w' = w, ⟨0, rfl, rfl⟩, ?_⟩
  rintro m _ w1 ⟨rfl, rfl⟩ _
  (try simp only [o_sub, o_add, ln_50_3, o_lss, z0, decide_false, condF])
  refine (nilGrownFacts Z 1).mono fun r w3 ⟨hr, hw⟩ => ?_
  subst hr; subst hw
  refine (nilGrownFacts Z 24).mono fun r w3 ⟨hr, hw⟩ => ?_
  subst hr; subst hw
  (try simp only [o_pickT, guardW_true])
  exact ⟨by first | rfl | trivial, by first | rfl | trivial⟩
theorem nilGrownSends (c : Nat) : CallV Tryz.prog Z 87 #[.slice none 0 0, .int .i64 c] w fun r w' => r = .bool true ∧ w' = w := by
  refine f87.calls ?_
  unfold f87.sh
  refine ⟨fun m x y w' => x = .slice none 0 0 ∧ y = .int .i64 0 ∧ w' = w, ⟨0, rfl, rfl, rfl⟩, ?_⟩
  rintro m _ _ w1 ⟨rfl, rfl, rfl⟩ _
  have z0 : ¬ ((0 : Int) < ((0 : Nat) : Int)) := by decide
  (try simp only [o_sub, o_add, ln_51_3, o_lss, z0, decide_false, condF])
  refine ⟨fun m y w' => y = .int .i64 0 ∧ w' = w1, ⟨0, rfl, rfl⟩, ?_⟩
  rintro m _ w2 ⟨rfl, rfl⟩ _
  (try simp only [o_add, o_lss, z0, decide_false, condF])
  exact ⟨by first | rfl | trivial, by first | rfl | trivial⟩
theorem nilApartSends : CallV Tryz.prog Z 57 #[.slice none 0 0] w fun r w' => r = .bool true ∧ w' = w := by
  refine f57.calls ?_
  unfold f57.sh
  have z0 : ¬ ((0 : Int) < ((0 : Nat) : Int)) := by decide
  refine ⟨fun m y w' => y = .int .i64 0 ∧ w' = w, ⟨0, rfl, rfl⟩, ?_⟩
  rintro m _ w1 ⟨rfl, rfl⟩ _
  (try simp only [o_subp, o_add, ln_51_3, o_lss, z0, decide_false, condF])
  refine (nilGrownSends Z 1).mono fun r w3 ⟨hr, hw⟩ => ?_
  subst hr; subst hw
  refine (nilGrownSends Z 24).mono fun r w3 ⟨hr, hw⟩ => ?_
  subst hr; subst hw
  (try simp only [o_pickT, guardW_true])
  exact ⟨by first | rfl | trivial, by first | rfl | trivial⟩
theorem nilGrownEvents (c : Nat) : CallV Tryz.prog Z 88 #[.slice none 0 0, .int .i64 c] w fun r w' => r = .bool true ∧ w' = w := by
  refine f88.calls ?_
  unfold f88.sh
  refine ⟨fun m x y w' => x = .slice none 0 0 ∧ y = .int .i64 0 ∧ w' = w, ⟨0, rfl, rfl, rfl⟩, ?_⟩
  rintro m _ _ w1 ⟨rfl, rfl, rfl⟩ _
  have z0 : ¬ ((0 : Int) < ((0 : Nat) : Int)) := by decide
  (try simp only [o_sub, o_add, ln_52_3, o_lss, z0, decide_false, condF])
  refine ⟨fun m y w' => y = .int .i64 0 ∧ w' = w1, ⟨0, rfl, rfl⟩, ?_⟩
  rintro m _ w2 ⟨rfl, rfl⟩ _
  (try simp only [o_add, o_lss, z0, decide_false, condF])
  exact ⟨by first | rfl | trivial, by first | rfl | trivial⟩
theorem nilApartEvents : CallV Tryz.prog Z 58 #[.slice none 0 0] w fun r w' => r = .bool true ∧ w' = w := by
  refine f58.calls ?_
  unfold f58.sh
  have z0 : ¬ ((0 : Int) < ((0 : Nat) : Int)) := by decide
  refine ⟨fun m y w' => y = .int .i64 0 ∧ w' = w, ⟨0, rfl, rfl⟩, ?_⟩
  rintro m _ w1 ⟨rfl, rfl⟩ _
  (try simp only [o_sub, o_add, ln_52_3, o_lss, z0, decide_false, condF])
  refine (nilGrownEvents Z 1).mono fun r w3 ⟨hr, hw⟩ => ?_
  subst hr; subst hw
  refine (nilGrownEvents Z 24).mono fun r w3 ⟨hr, hw⟩ => ?_
  subst hr; subst hw
  (try simp only [o_pickT, guardW_true])
  exact ⟨by first | rfl | trivial, by first | rfl | trivial⟩
theorem nilGrownFactss (c : Nat) : CallV Tryz.prog Z 89 #[.slice none 0 0, .int .i64 c] w fun r w' => r = .bool true ∧ w' = w := by
  refine f89.calls ?_
  unfold f89.sh
  refine ⟨fun m x y w' => x = .slice none 0 0 ∧ y = .int .i64 0 ∧ w' = w, ⟨0, rfl, rfl, rfl⟩, ?_⟩
  rintro m _ _ w1 ⟨rfl, rfl, rfl⟩ _
  have z0 : ¬ ((0 : Int) < ((0 : Nat) : Int)) := by decide
  (try simp only [o_sub, o_add, ln_53_3, o_lss, z0, decide_false, condF])
  refine ⟨fun m y w' => y = .int .i64 0 ∧ w' = w1, ⟨0, rfl, rfl⟩, ?_⟩
  rintro m _ w2 ⟨rfl, rfl⟩ _
  (try simp only [o_add, o_lss, z0, decide_false, condF])
  exact ⟨by first | rfl | trivial, by first | rfl | trivial⟩
theorem nilApartFactss : CallV Tryz.prog Z 59 #[.slice none 0 0] w fun r w' => r = .bool true ∧ w' = w := by
  refine f59.calls ?_
  unfold f59.sh
  have z0 : ¬ ((0 : Int) < ((0 : Nat) : Int)) := by decide
  refine ⟨fun m y w' => y = .int .i64 0 ∧ w' = w, ⟨0, rfl, rfl⟩, ?_⟩
  rintro m _ w1 ⟨rfl, rfl⟩ _
  (try simp only [o_sub, o_add, ln_53_3, o_lss, z0, decide_false, condF])
  refine (nilGrownFactss Z 1).mono fun r w3 ⟨hr, hw⟩ => ?_
  subst hr; subst hw
  refine (nilGrownFactss Z 24).mono fun r w3 ⟨hr, hw⟩ => ?_
  subst hr; subst hw
  (try simp only [o_pickT, guardW_true])
  exact ⟨by first | rfl | trivial, by first | rfl | trivial⟩
end
def bagP (g : Nat) (b0 b1 b2 : List Value) : HProp := fun h => ∃ (v0 v1 v2 : Value), (b0.length ≤ 600 ∧ b1.length ≤ 600 ∧ b2.length ≤ 600) ∧ sep (blk g 55 [v0, .slice none 0 0, v1, .slice none 0 0, .slice none 0 0, .slice none 0 0, .slice none 0 0, .slice none 0 0, .slice none 0 0, .slice none 0 0, .slice none 0 0, .slice none 0 0, v2, .slice none 0 0, .slice none 0 0, .slice none 0 0, .slice none 0 0, .slice none 0 0, .slice none 0 0, .slice none 0 0, .slice none 0 0]) (satH [own 58 1 v0 b0.length b0, own 56 1 v1 b1.length b1, own 22 1 v2 b2.length b2]) h
section
variable (Z : List PanicEntry → World → Prop) {o w : World} {R As : List HProp} {g : Nat} {b0 b1 b2 : List Value}
theorem bagP.open (h : St o w (bagP g b0 b1 b2 :: R)) : ∃ (v0 v1 v2 : Value), (b0.length ≤ 600 ∧ b1.length ≤ 600 ∧ b2.length ≤ 600) ∧ St o w (blk g 55 [v0, .slice none 0 0, v1, .slice none 0 0, .slice none 0 0, .slice none 0 0, .slice none 0 0, .slice none 0 0, .slice none 0 0, .slice none 0 0, .slice none 0 0, .slice none 0 0, v2, .slice none 0 0, .slice none 0 0, .slice none 0 0, .slice none 0 0, .slice none 0 0, .slice none 0 0, .slice none 0 0, .slice none 0 0] :: own 58 1 v0 b0.length b0 :: own 56 1 v1 b1.length b1 :: own 22 1 v2 b2.length b2 :: R) := by
  obtain ⟨v0, h⟩ := h.ex
  obtain ⟨v1, h⟩ := h.ex
  obtain ⟨v2, h⟩ := h.ex
  obtain ⟨hl, h⟩ := h.pure
  have h := h.sep.swap.all
  refine ⟨v0, v1, v2, hl, h.pick 3⟩
theorem bagP.shut {v0 v1 v2 : Value} (hl : b0.length ≤ 600 ∧ b1.length ≤ 600 ∧ b2.length ≤ 600) (h : St o w (blk g 55 [v0, .slice none 0 0, v1, .slice none 0 0, .slice none 0 0, .slice none 0 0, .slice none 0 0, .slice none 0 0, .slice none 0 0, .slice none 0 0, .slice none 0 0, .slice none 0 0, v2, .slice none 0 0, .slice none 0 0, .slice none 0 0, .slice none 0 0, .slice none 0 0, .slice none 0 0, .slice none 0 0, .slice none 0 0] :: own 58 1 v0 b0.length b0 :: own 56 1 v1 b1.length b1 :: own 22 1 v2 b2.length b2 :: R)) : St o w (bagP g b0 b1 b2 :: R) := by
  have h : St o w (satH [own 58 1 v0 b0.length b0, own 56 1 v1 b1.length b1, own 22 1 v2 b2.length b2] :: blk g 55 [v0, .slice none 0 0, v1, .slice none 0 0, .slice none 0 0, .slice none 0 0, .slice none 0 0, .slice none 0 0, .slice none 0 0, .slice none 0 0, .slice none 0 0, .slice none 0 0, v2, .slice none 0 0, .slice none 0 0, .slice none 0 0, .slice none 0 0, .slice none 0 0, .slice none 0 0, .slice none 0 0, .slice none 0 0] :: R) := St.all_intro (h.put 3)
  have h := h.swap.sep_intro.pure_intro hl
  exact h.mono fun _ hx => ⟨v0, v1, v2, hx⟩
theorem bag_new (h : St o w (blk g 55 [.slice none 0 0, .slice none 0 0, .slice none 0 0, .slice none 0 0, .slice none 0 0, .slice none 0 0, .slice none 0 0, .slice none 0 0, .slice none 0 0, .slice none 0 0, .slice none 0 0, .slice none 0 0, .slice none 0 0, .slice none 0 0, .slice none 0 0, .slice none 0 0, .slice none 0 0, .slice none 0 0, .slice none 0 0, .slice none 0 0, .slice none 0 0] :: R)) : St o w (bagP g [] [] [] :: R) := by
  refine bagP.shut (v0 := .slice none 0 0) (v1 := .slice none 0 0) (v2 := .slice none 0 0) (by simp) ?_
  have h := h
  have h := h.own_nil 22 1
  have h := h.own_nil 56 1
  have h := h.own_nil 58 1
  exact h.pick 3
theorem bagPushBytes {l : Value} (hl1 : l.oneCell' = true) {Q : World → Prop} (h : St o w (bagP g b0 b1 b2 :: R)) (hq : ∀ b' w', b' = (if b0.length < 600 then b0 ++ [l] else b0) → St o w' (bagP g b' b1 b2 :: R) → Q w') :
    runX Tryz.prog Z (nilChk (.pointer (some ⟨g, 0, none⟩))) w fun t5 w => run1 Tryz.prog Z (Instr.fieldAt 55 t5 0) w fun t6 w => run1 Tryz.prog Z (Instr.loadAt 33 t6) w fun t7 w => run1 Tryz.prog Z (Builtin.len_ #[33] 3 #[t7]) w fun t8 w => run1 Tryz.prog Z (binOp BinOp.lss 3 t8 (Value.int IntKind.i64 600)) w fun t9 w =>
      CondV t9 (runX Tryz.prog Z (nilChk (.pointer (some ⟨g, 0, none⟩))) w fun t12 w => run1 Tryz.prog Z (Instr.fieldAt 55 t12 0) w fun t13 w => run1 Tryz.prog Z (Instr.loadAt 33 t13) w fun t14 w => run1 Tryz.prog Z (Instr.buildSlice 33 1 #[(0, l)]) w fun t16 w => run1 Tryz.prog Z (Builtin.append_ #[33, 33] 33 #[t14, t16]) w fun t17 w => runX Tryz.prog Z (nilChk (.pointer (some ⟨g, 0, none⟩))) w fun t18 w => run1 Tryz.prog Z (Instr.fieldAt 55 t18 0) w fun t19 w => run0 Tryz.prog Z (Instr.storeAt 33 t19 t17) w Q) (Q w) := by
  obtain ⟨v0, v1, v2, ⟨h0, h1, h2⟩, hS⟩ := bagP.open h
  (try simp only [o_chk, fa_55_0, Nat.add_zero])
  refine r_load one33 (hS.at m0 0 rfl) ?_
  refine r1 ((hS.own_rd m1).len sl33 _ rfl _ _) ?_
  by_cases hlt : (b0.length : Int) < 600
  · (try simp only [o_lss, hlt, decide_true, condT])
    refine r_load one33 (hS.at m0 0 rfl) ?_
    refine r_push el33 (hS.pick 1) l hl1 (by omega) (by simp only [maxLen]; omega) fun v' w1 hS => ?_
    have hv' : v'.oneCell' = true := by obtain ⟨_, _, e⟩ := hS.own_form; rw [e]; rfl
    skip
    refine r_store (hS.pick 1) one33 (show 0 < 21 by omega) hv' fun w2 hS => ?_
    have hlen : (b0 ++ [l]).length = b0.length + 1 := by simp
    rw [← hlen] at hS
    exact hq _ _ (by rw [if_pos (by omega)]) (bagP.shut (v0 := v') ⟨(by omega), h1, h2⟩ (hS.swap.put 1))
  · (try simp only [o_lss, hlt, decide_false, condF])
    exact hq _ _ (by rw [if_neg (by omega)]) (bagP.shut ⟨h0, h1, h2⟩ hS)
theorem bagPushTexts {l : Value} (hl1 : l.oneCell' = true) {Q : World → Prop} (h : St o w (bagP g b0 b1 b2 :: R)) (hq : ∀ b' w', b' = (if b1.length < 600 then b1 ++ [l] else b1) → St o w' (bagP g b0 b' b2 :: R) → Q w') :
    runX Tryz.prog Z (nilChk (.pointer (some ⟨g, 0, none⟩))) w fun t5 w => run1 Tryz.prog Z (Instr.fieldAt 55 t5 2) w fun t6 w => run1 Tryz.prog Z (Instr.loadAt 35 t6) w fun t7 w => run1 Tryz.prog Z (Builtin.len_ #[35] 3 #[t7]) w fun t8 w => run1 Tryz.prog Z (binOp BinOp.lss 3 t8 (Value.int IntKind.i64 600)) w fun t9 w =>
      CondV t9 (runX Tryz.prog Z (nilChk (.pointer (some ⟨g, 0, none⟩))) w fun t12 w => run1 Tryz.prog Z (Instr.fieldAt 55 t12 2) w fun t13 w => run1 Tryz.prog Z (Instr.loadAt 35 t13) w fun t14 w => run1 Tryz.prog Z (Instr.buildSlice 35 1 #[(0, l)]) w fun t16 w => run1 Tryz.prog Z (Builtin.append_ #[35, 35] 35 #[t14, t16]) w fun t17 w => runX Tryz.prog Z (nilChk (.pointer (some ⟨g, 0, none⟩))) w fun t18 w => run1 Tryz.prog Z (Instr.fieldAt 55 t18 2) w fun t19 w => run0 Tryz.prog Z (Instr.storeAt 35 t19 t17) w Q) (Q w) := by
  obtain ⟨v0, v1, v2, ⟨h0, h1, h2⟩, hS⟩ := bagP.open h
  (try simp only [o_chk, fa_55_2, Nat.zero_add])
  refine r_load one35 (hS.at m0 2 rfl) ?_
  refine r1 ((hS.own_rd m2).len sl35 _ rfl _ _) ?_
  by_cases hlt : (b1.length : Int) < 600
  · (try simp only [o_lss, hlt, decide_true, condT])
    refine r_load one35 (hS.at m0 2 rfl) ?_
    refine r_push el35 (hS.pick 2) l hl1 (by omega) (by simp only [maxLen]; omega) fun v' w1 hS => ?_
    have hv' : v'.oneCell' = true := by obtain ⟨_, _, e⟩ := hS.own_form; rw [e]; rfl
    skip
    refine r_store (hS.pick 1) one35 (show 2 < 21 by omega) hv' fun w2 hS => ?_
    have hlen : (b1 ++ [l]).length = b1.length + 1 := by simp
    rw [← hlen] at hS
    exact hq _ _ (by rw [if_pos (by omega)]) (bagP.shut (v1 := v') ⟨h0, (by omega), h2⟩ (hS.swap.put 2))
  · (try simp only [o_lss, hlt, decide_false, condF])
    exact hq _ _ (by rw [if_neg (by omega)]) (bagP.shut ⟨h0, h1, h2⟩ hS)
theorem bagPushFiles {l : Value} (hl1 : l.oneCell' = true) {Q : World → Prop} (h : St o w (bagP g b0 b1 b2 :: R)) (hq : ∀ b' w', b' = (if b2.length < 600 then b2 ++ [l] else b2) → St o w' (bagP g b0 b1 b' :: R) → Q w') :
    runX Tryz.prog Z (nilChk (.pointer (some ⟨g, 0, none⟩))) w fun t5 w => run1 Tryz.prog Z (Instr.fieldAt 55 t5 12) w fun t6 w => run1 Tryz.prog Z (Instr.loadAt 45 t6) w fun t7 w => run1 Tryz.prog Z (Builtin.len_ #[45] 3 #[t7]) w fun t8 w => run1 Tryz.prog Z (binOp BinOp.lss 3 t8 (Value.int IntKind.i64 600)) w fun t9 w =>
      CondV t9 (runX Tryz.prog Z (nilChk (.pointer (some ⟨g, 0, none⟩))) w fun t12 w => run1 Tryz.prog Z (Instr.fieldAt 55 t12 12) w fun t13 w => run1 Tryz.prog Z (Instr.loadAt 45 t13) w fun t14 w => run1 Tryz.prog Z (Instr.buildSlice 45 1 #[(0, l)]) w fun t16 w => run1 Tryz.prog Z (Builtin.append_ #[45, 45] 45 #[t14, t16]) w fun t17 w => runX Tryz.prog Z (nilChk (.pointer (some ⟨g, 0, none⟩))) w fun t18 w => run1 Tryz.prog Z (Instr.fieldAt 55 t18 12) w fun t19 w => run0 Tryz.prog Z (Instr.storeAt 45 t19 t17) w Q) (Q w) := by
  obtain ⟨v0, v1, v2, ⟨h0, h1, h2⟩, hS⟩ := bagP.open h
  (try simp only [o_chk, fa_55_12, Nat.zero_add])
  refine r_load one45 (hS.at m0 12 rfl) ?_
  refine r1 ((hS.own_rd m3).len sl45 _ rfl _ _) ?_
  by_cases hlt : (b2.length : Int) < 600
  · (try simp only [o_lss, hlt, decide_true, condT])
    refine r_load one45 (hS.at m0 12 rfl) ?_
    refine r_push el45 (hS.pick 3) l hl1 (by omega) (by simp only [maxLen]; omega) fun v' w1 hS => ?_
    have hv' : v'.oneCell' = true := by obtain ⟨_, _, e⟩ := hS.own_form; rw [e]; rfl
    skip
    refine r_store (hS.pick 1) one45 (show 12 < 21 by omega) hv' fun w2 hS => ?_
    have hlen : (b2 ++ [l]).length = b2.length + 1 := by simp
    rw [← hlen] at hS
    exact hq _ _ (by rw [if_pos (by omega)]) (bagP.shut (v2 := v') ⟨h0, h1, (by omega)⟩ (hS.swap.put 3))
  · (try simp only [o_lss, hlt, decide_false, condF])
    exact hq _ _ (by rw [if_neg (by omega)]) (bagP.shut ⟨h0, h1, h2⟩ hS)
theorem bagAddBytes {l : Value} (hl1 : l.oneCell' = true) (h : St o w (bagP g b0 b1 b2 :: R)) : CallV Tryz.prog Z 10 #[.pointer (some ⟨g, 0, none⟩), l] w fun r w' => ∃ b', b' = (if b0.length < 600 then b0 ++ [l] else b0) ∧ St o w' (bagP g b' b1 b2 :: R) := by
  refine f10.calls ?_
  unfold f10.sh
  exact bagPushBytes Z hl1 h fun b' w' hb hS => ⟨b', hb, hS⟩
theorem bagAddTexts {l : Value} (hl1 : l.oneCell' = true) (h : St o w (bagP g b0 b1 b2 :: R)) : CallV Tryz.prog Z 11 #[.pointer (some ⟨g, 0, none⟩), l] w fun r w' => ∃ b', b' = (if b1.length < 600 then b1 ++ [l] else b1) ∧ St o w' (bagP g b0 b' b2 :: R) := by
  refine f11.calls ?_
  unfold f11.sh
  exact bagPushTexts Z hl1 h fun b' w' hb hS => ⟨b', hb, hS⟩
set_option maxRecDepth 100000 in
theorem bagApart {es0 es1 es2 : List (Value × Nat)} (hT : Tab o) (ho : old o ∈ R) (h : St o w (bagP g (es0.map Prod.fst) (es1.map Prod.fst) (es2.map Prod.fst) :: rowsX 5 1 1 es0 :: rowsX 9 1 16 es1 :: rowsX 71 3 48 es2 :: R)) :
    CallV Tryz.prog Z 15 #[.pointer (some ⟨g, 0, none⟩)] w fun r w' => r = .bool true ∧ St o w' (bagP g (es0.map Prod.fst) (es1.map Prod.fst) (es2.map Prod.fst) :: rowsX 5 1 1 es0 :: rowsX 9 1 16 es1 :: rowsX 71 3 48 es2 :: R) := by
  obtain ⟨v0, v1, v2, ⟨h0, h1, h2⟩, hS⟩ := bagP.open h
  simp only [List.length_map] at hS h0 h1 h2
  refine f15.calls ?_
  unfold f15.sh
  (try simp only [o_chk, fa_55_20, Nat.zero_add, fa_55_19, fa_55_18, fa_55_17, fa_55_16, fa_55_15, fa_55_14, fa_55_13, fa_55_12, fa_55_11, fa_55_10, fa_55_9, fa_55_8, fa_55_7, fa_55_6, fa_55_5, fa_55_4, fa_55_3, fa_55_2, fa_55_1, fa_55_0, Nat.add_zero])
  refine r_load one33 (hS.at m0 0 rfl) ?_
  refine (apartBytes Z h0 hT (by simp [ho]) (fun w hw => hw.own_rd m1) (hS.pick 4)).mono fun r w1 ⟨hr, hS⟩ => ?_
  subst hr
  have hS := hS.put 4
  (try simp only [o_pickT, guardW_true])
  refine r_load one34 (hS.at m0 1 rfl) ?_
  refine (nilApartInts Z).mono fun r w1 ⟨hr, hw⟩ => ?_
  subst hr; subst hw
  (try simp only [o_pickT, guardW_true])
  refine r_load one35 (hS.at m0 2 rfl) ?_
  refine (apartTexts Z h1 hT (by simp [ho]) (fun w hw => hw.own_rd m2) (hS.pick 5)).mono fun r w1 ⟨hr, hS⟩ => ?_
  subst hr
  have hS := hS.put 5
  (try simp only [o_pickT, guardW_true])
  refine r_load one36 (hS.at m0 3 rfl) ?_
  refine (nilApartPieces Z).mono fun r w1 ⟨hr, hw⟩ => ?_
  subst hr; subst hw
  (try simp only [o_pickT, guardW_true])
  refine r_load one37 (hS.at m0 4 rfl) ?_
  refine (nilApartIds Z).mono fun r w1 ⟨hr, hw⟩ => ?_
  subst hr; subst hw
  (try simp only [o_pickT, guardW_true])
  refine r_load one38 (hS.at m0 5 rfl) ?_
  refine (nilApartAcl Z).mono fun r w1 ⟨hr, hw⟩ => ?_
  subst hr; subst hw
  (try simp only [o_pickT, guardW_true])
  refine r_load one39 (hS.at m0 6 rfl) ?_
  refine (nilApartRequests Z).mono fun r w1 ⟨hr, hw⟩ => ?_
  subst hr; subst hw
  (try simp only [o_pickT, guardW_true])
  refine r_load one40 (hS.at m0 7 rfl) ?_
  refine (nilApartTxns Z).mono fun r w1 ⟨hr, hw⟩ => ?_
  subst hr; subst hw
  (try simp only [o_pickT, guardW_true])
  refine r_load one41 (hS.at m0 8 rfl) ?_
  refine (nilApartResults Z).mono fun r w1 ⟨hr, hw⟩ => ?_
  subst hr; subst hw
  (try simp only [o_pickT, guardW_true])
  refine r_load one42 (hS.at m0 9 rfl) ?_
  refine (nilApartNodes Z).mono fun r w1 ⟨hr, hw⟩ => ?_
  subst hr; subst hw
  (try simp only [o_pickT, guardW_true])
  refine r_load one43 (hS.at m0 10 rfl) ?_
  refine (nilApartSessions Z).mono fun r w1 ⟨hr, hw⟩ => ?_
  subst hr; subst hw
  (try simp only [o_pickT, guardW_true])
  refine r_load one44 (hS.at m0 11 rfl) ?_
  refine (nilApartChanges Z).mono fun r w1 ⟨hr, hw⟩ => ?_
  subst hr; subst hw
  (try simp only [o_pickT, guardW_true])
  refine r_load one45 (hS.at m0 12 rfl) ?_
  refine (apartFiles Z h2 hT (by simp [ho]) (fun w hw => hw.own_rd m3) (hS.pick 6)).mono fun r w1 ⟨hr, hS⟩ => ?_
  subst hr
  have hS := hS.put 6
  (try simp only [o_pickT, guardW_true])
  refine r_load one46 (hS.at m0 13 rfl) ?_
  refine (nilApartPackets Z).mono fun r w1 ⟨hr, hw⟩ => ?_
  subst hr; subst hw
  (try simp only [o_pickT, guardW_true])
  refine r_load one47 (hS.at m0 14 rfl) ?_
  refine (nilApartMessages Z).mono fun r w1 ⟨hr, hw⟩ => ?_
  subst hr; subst hw
  (try simp only [o_pickT, guardW_true])
  refine r_load one48 (hS.at m0 15 rfl) ?_
  refine (nilApartWatches Z).mono fun r w1 ⟨hr, hw⟩ => ?_
  subst hr; subst hw
  (try simp only [o_pickT, guardW_true])
  refine r_load one49 (hS.at m0 16 rfl) ?_
  refine (nilApartFired Z).mono fun r w1 ⟨hr, hw⟩ => ?_
  subst hr; subst hw
  (try simp only [o_pickT, guardW_true])
  refine r_load one50 (hS.at m0 17 rfl) ?_
  refine (nilApartFacts Z).mono fun r w1 ⟨hr, hw⟩ => ?_
  subst hr; subst hw
  (try simp only [o_pickT, guardW_true])
  refine r_load one51 (hS.at m0 18 rfl) ?_
  refine (nilApartSends Z).mono fun r w1 ⟨hr, hw⟩ => ?_
  subst hr; subst hw
  (try simp only [o_pickT, guardW_true])
  refine r_load one52 (hS.at m0 19 rfl) ?_
  refine (nilApartEvents Z).mono fun r w1 ⟨hr, hw⟩ => ?_
  subst hr; subst hw
  (try simp only [o_pickT, guardW_true])
  refine r_load one53 (hS.at m0 20 rfl) ?_
  refine (nilApartFactss Z).mono fun r w1 ⟨hr, hw⟩ => ?_
  subst hr; subst hw
  (try simp only [])
  refine ⟨by first | rfl | trivial, bagP.shut (v0 := v0) (v1 := v1) (v2 := v2) (by simp only [List.length_map]; exact ⟨h0, h1, h2⟩) (by simp only [List.length_map]; exact hS)⟩
end
end Go.Proofs.YtcbbaiglcgemmaaGreatDoor
