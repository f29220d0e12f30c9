/- A Bag's lists: put in, held apart. Printed by wip/sh/mkbag.py. -/
import Derived.Test.YthobnaagjhooeaaDoorQ1
set_option linter.unusedVariables false
set_option linter.unusedSimpArgs false
namespace Go.Proofs.YthobnaagjhooeaaDoor
open Go.Sh
section
variable (Z : List PanicEntry → World → Prop) {o w : World} {R As : List HProp}
theorem nilGrownBytes (d c : Nat) : CallV Tryd.prog Z 58 #[.slice none 0 0, .int .i64 d, .int .i64 c] w fun r w' => r = .bool true ∧ w' = w := by
  refine f58.calls ?_
  unfold f58.sh
  refine ⟨fun m x y w' => x = .slice none 0 0 ∧ y = .int .i64 0 ∧ w' = w, ⟨0, rfl, rfl, rfl⟩, ?_⟩
  rintro m _ _ w1 ⟨rfl, rfl, rfl⟩ _
  have z0 : ¬ ((0 : Int) < ((0 : Nat) : Int)) := by decide
  (try simp only [o_add, ln_41_3, o_lss, z0, decide_false, condF])
  refine ⟨fun m y w' => y = .int .i64 0 ∧ w' = w1, ⟨0, rfl, rfl⟩, ?_⟩
  rintro m _ w2 ⟨rfl, rfl⟩ _
  (try simp only [o_add, o_lss, z0, decide_false, condF])
  exact ⟨by first | rfl | trivial, by first | rfl | trivial⟩
theorem nilApartBytes : CallV Tryd.prog Z 33 #[.slice none 0 0] w fun r w' => r = .bool true ∧ w' = w := by
  refine f33.calls ?_
  unfold f33.sh
  have z0 : ¬ ((0 : Int) < ((0 : Nat) : Int)) := by decide
  refine ⟨fun m y w' => (y = .int .i64 1 ∧ m = 1 ∨ y = .int .i64 100 ∧ m = 0) ∧ w' = w, ⟨1, .inl ⟨rfl, rfl⟩, rfl⟩, ?_⟩
  rintro m _ w1 ⟨⟨rfl, hm⟩ | ⟨rfl, hm⟩, rfl⟩ _
  · have z1 : ((1 : Int) == 1) = true := rfl
    (try simp only [o_mul, ln_41_3, o_eql, z1, o_pickT, condT, guardW_tf])
    refine ⟨fun m y w' => y = .int .i64 0 ∧ w' = w1, ⟨0, rfl, rfl⟩, ?_⟩
    rintro m2 _ w2 ⟨rfl, rfl⟩ _
    (try simp only [o_add, o_lss, z0, decide_false, condF])
    refine (nilGrownBytes Z 1 1).mono fun r w3 ⟨hr, hw⟩ => ?_
    subst hr; subst hw
    (try simp only [o_pickT, guardW_true])
    refine (nilGrownBytes Z 1 64).mono fun r w3 ⟨hr, hw⟩ => ?_
    subst hr; subst hw
    (try simp only [o_not, Bool.not_true, condF])
    rw [wr_i64 (x := (1 : Int) * 100) (by omega) (by omega)]
    exact ⟨0, by omega, .inr ⟨by first | rfl | trivial, by first | rfl | trivial⟩, by first | rfl | trivial⟩
  · have z1 : ((100 : Int) == 1) = false := rfl
    have z2 : ¬ ((100 : Int) ≤ ((0 : Nat) : Int)) := by decide
    (try simp only [o_mul, ln_41_3, o_eql, z1, o_pickF, guardW_ff, o_leq, z2, decide_false, condF])
    exact ⟨by first | rfl | trivial, by first | rfl | trivial⟩
theorem nilGrownInts (c : Nat) : CallV Tryd.prog Z 59 #[.slice none 0 0, .int .i64 c] w fun r w' => r = .bool true ∧ w' = w := by
  refine f59.calls ?_
  unfold f59.sh
  refine ⟨fun m x y w' => x = .slice none 0 0 ∧ y = .int .i64 0 ∧ w' = w, ⟨0, rfl, rfl, rfl⟩, ?_⟩
  rintro m _ _ w1 ⟨rfl, rfl, rfl⟩ _
  have z0 : ¬ ((0 : Int) < ((0 : Nat) : Int)) := by decide
  (try simp only [o_sub, o_add, ln_42_3, o_lss, z0, decide_false, condF])
  refine ⟨fun m y w' => y = .int .i64 0 ∧ w' = w1, ⟨0, rfl, rfl⟩, ?_⟩
  rintro m _ w2 ⟨rfl, rfl⟩ _
  (try simp only [o_add, o_lss, z0, decide_false, condF])
  exact ⟨by first | rfl | trivial, by first | rfl | trivial⟩
theorem nilApartInts : CallV Tryd.prog Z 34 #[.slice none 0 0] w fun r w' => r = .bool true ∧ w' = w := by
  refine f34.calls ?_
  unfold f34.sh
  have z0 : ¬ ((0 : Int) < ((0 : Nat) : Int)) := by decide
  refine ⟨fun m y w' => y = .int .i64 0 ∧ w' = w, ⟨0, rfl, rfl⟩, ?_⟩
  rintro m _ w1 ⟨rfl, rfl⟩ _
  (try simp only [o_sub, o_add, ln_42_3, o_lss, z0, decide_false, condF])
  refine (nilGrownInts Z 1).mono fun r w3 ⟨hr, hw⟩ => ?_
  subst hr; subst hw
  refine (nilGrownInts Z 24).mono fun r w3 ⟨hr, hw⟩ => ?_
  subst hr; subst hw
  (try simp only [o_pickT, guardW_true])
  exact ⟨by first | rfl | trivial, by first | rfl | trivial⟩
theorem nilGrownPieces (c : Nat) : CallV Tryd.prog Z 62 #[.slice none 0 0, .int .i64 c] w fun r w' => r = .bool true ∧ w' = w := by
  refine f62.calls ?_
  unfold f62.sh
  refine ⟨fun m x y w' => x = .slice none 0 0 ∧ y = .int .i64 0 ∧ w' = w, ⟨0, rfl, rfl, rfl⟩, ?_⟩
  rintro m _ _ w1 ⟨rfl, rfl, rfl⟩ _
  have z0 : ¬ ((0 : Int) < ((0 : Nat) : Int)) := by decide
  (try simp only [o_sub, o_add, ln_44_3, o_lss, z0, decide_false, condF])
  refine ⟨fun m y w' => y = .int .i64 0 ∧ w' = w1, ⟨0, rfl, rfl⟩, ?_⟩
  rintro m _ w2 ⟨rfl, rfl⟩ _
  (try simp only [o_add, o_lss, z0, decide_false, condF])
  exact ⟨by first | rfl | trivial, by first | rfl | trivial⟩
theorem nilApartPieces : CallV Tryd.prog Z 36 #[.slice none 0 0] w fun r w' => r = .bool true ∧ w' = w := by
  refine f36.calls ?_
  unfold f36.sh
  have z0 : ¬ ((0 : Int) < ((0 : Nat) : Int)) := by decide
  refine ⟨fun m y w' => y = .int .i64 0 ∧ w' = w, ⟨0, rfl, rfl⟩, ?_⟩
  rintro m _ w1 ⟨rfl, rfl⟩ _
  (try simp only [o_subp, o_add, ln_44_3, o_lss, z0, decide_false, condF])
  refine (nilGrownPieces Z 1).mono fun r w3 ⟨hr, hw⟩ => ?_
  subst hr; subst hw
  refine (nilGrownPieces Z 24).mono fun r w3 ⟨hr, hw⟩ => ?_
  subst hr; subst hw
  (try simp only [o_pickT, guardW_true])
  exact ⟨by first | rfl | trivial, by first | rfl | trivial⟩
theorem nilGrownIds (c : Nat) : CallV Tryd.prog Z 63 #[.slice none 0 0, .int .i64 c] w fun r w' => r = .bool true ∧ w' = w := by
  refine f63.calls ?_
  unfold f63.sh
  refine ⟨fun m x y w' => x = .slice none 0 0 ∧ y = .int .i64 0 ∧ w' = w, ⟨0, rfl, rfl, rfl⟩, ?_⟩
  rintro m _ _ w1 ⟨rfl, rfl, rfl⟩ _
  have z0 : ¬ ((0 : Int) < ((0 : Nat) : Int)) := by decide
  (try simp only [o_sub, o_add, ln_45_3, o_lss, z0, decide_false, condF])
  refine ⟨fun m y w' => y = .int .i64 0 ∧ w' = w1, ⟨0, rfl, rfl⟩, ?_⟩
  rintro m _ w2 ⟨rfl, rfl⟩ _
  (try simp only [o_add, o_lss, z0, decide_false, condF])
  exact ⟨by first | rfl | trivial, by first | rfl | trivial⟩
theorem nilApartIds : CallV Tryd.prog Z 37 #[.slice none 0 0] w fun r w' => r = .bool true ∧ w' = w := by
  refine f37.calls ?_
  unfold f37.sh
  have z0 : ¬ ((0 : Int) < ((0 : Nat) : Int)) := by decide
  refine ⟨fun m y w' => y = .int .i64 0 ∧ w' = w, ⟨0, rfl, rfl⟩, ?_⟩
  rintro m _ w1 ⟨rfl, rfl⟩ _
  (try simp only [o_subp, o_add, ln_45_3, o_lss, z0, decide_false, condF])
  refine (nilGrownIds Z 1).mono fun r w3 ⟨hr, hw⟩ => ?_
  subst hr; subst hw
  refine (nilGrownIds Z 24).mono fun r w3 ⟨hr, hw⟩ => ?_
  subst hr; subst hw
  (try simp only [o_pickT, guardW_true])
  exact ⟨by first | rfl | trivial, by first | rfl | trivial⟩
theorem nilGrownAcl (c : Nat) : CallV Tryd.prog Z 64 #[.slice none 0 0, .int .i64 c] w fun r w' => r = .bool true ∧ w' = w := by
  refine f64.calls ?_
  unfold f64.sh
  refine ⟨fun m x y w' => x = .slice none 0 0 ∧ y = .int .i64 0 ∧ w' = w, ⟨0, rfl, rfl, rfl⟩, ?_⟩
  rintro m _ _ w1 ⟨rfl, rfl, rfl⟩ _
  have z0 : ¬ ((0 : Int) < ((0 : Nat) : Int)) := by decide
  (try simp only [o_sub, o_add, ln_46_3, o_lss, z0, decide_false, condF])
  refine ⟨fun m y w' => y = .int .i64 0 ∧ w' = w1, ⟨0, rfl, rfl⟩, ?_⟩
  rintro m _ w2 ⟨rfl, rfl⟩ _
  (try simp only [o_add, o_lss, z0, decide_false, condF])
  exact ⟨by first | rfl | trivial, by first | rfl | trivial⟩
theorem nilApartAcl : CallV Tryd.prog Z 38 #[.slice none 0 0] w fun r w' => r = .bool true ∧ w' = w := by
  refine f38.calls ?_
  unfold f38.sh
  have z0 : ¬ ((0 : Int) < ((0 : Nat) : Int)) := by decide
  refine ⟨fun m y w' => y = .int .i64 0 ∧ w' = w, ⟨0, rfl, rfl⟩, ?_⟩
  rintro m _ w1 ⟨rfl, rfl⟩ _
  (try simp only [o_subp, o_add, ln_46_3, o_lss, z0, decide_false, condF])
  refine (nilGrownAcl Z 1).mono fun r w3 ⟨hr, hw⟩ => ?_
  subst hr; subst hw
  refine (nilGrownAcl Z 24).mono fun r w3 ⟨hr, hw⟩ => ?_
  subst hr; subst hw
  (try simp only [o_pickT, guardW_true])
  exact ⟨by first | rfl | trivial, by first | rfl | trivial⟩
theorem nilGrownRequests (c : Nat) : CallV Tryd.prog Z 65 #[.slice none 0 0, .int .i64 c] w fun r w' => r = .bool true ∧ w' = w := by
  refine f65.calls ?_
  unfold f65.sh
  refine ⟨fun m x y w' => x = .slice none 0 0 ∧ y = .int .i64 0 ∧ w' = w, ⟨0, rfl, rfl, rfl⟩, ?_⟩
  rintro m _ _ w1 ⟨rfl, rfl, rfl⟩ _
  have z0 : ¬ ((0 : Int) < ((0 : Nat) : Int)) := by decide
  (try simp only [o_sub, o_add, ln_47_3, o_lss, z0, decide_false, condF])
  refine ⟨fun m y w' => y = .int .i64 0 ∧ w' = w1, ⟨0, rfl, rfl⟩, ?_⟩
  rintro m _ w2 ⟨rfl, rfl⟩ _
  (try simp only [o_add, o_lss, z0, decide_false, condF])
  exact ⟨by first | rfl | trivial, by first | rfl | trivial⟩
theorem nilApartRequests : CallV Tryd.prog Z 39 #[.slice none 0 0] w fun r w' => r = .bool true ∧ w' = w := by
  refine f39.calls ?_
  unfold f39.sh
  have z0 : ¬ ((0 : Int) < ((0 : Nat) : Int)) := by decide
  refine ⟨fun m y w' => y = .int .i64 0 ∧ w' = w, ⟨0, rfl, rfl⟩, ?_⟩
  rintro m _ w1 ⟨rfl, rfl⟩ _
  (try simp only [o_sub, o_add, ln_47_3, o_lss, z0, decide_false, condF])
  refine (nilGrownRequests Z 1).mono fun r w3 ⟨hr, hw⟩ => ?_
  subst hr; subst hw
  refine (nilGrownRequests Z 24).mono fun r w3 ⟨hr, hw⟩ => ?_
  subst hr; subst hw
  (try simp only [o_pickT, guardW_true])
  exact ⟨by first | rfl | trivial, by first | rfl | trivial⟩
theorem nilGrownTxns (c : Nat) : CallV Tryd.prog Z 66 #[.slice none 0 0, .int .i64 c] w fun r w' => r = .bool true ∧ w' = w := by
  refine f66.calls ?_
  unfold f66.sh
  refine ⟨fun m x y w' => x = .slice none 0 0 ∧ y = .int .i64 0 ∧ w' = w, ⟨0, rfl, rfl, rfl⟩, ?_⟩
  rintro m _ _ w1 ⟨rfl, rfl, rfl⟩ _
  have z0 : ¬ ((0 : Int) < ((0 : Nat) : Int)) := by decide
  (try simp only [o_sub, o_add, ln_48_3, o_lss, z0, decide_false, condF])
  refine ⟨fun m y w' => y = .int .i64 0 ∧ w' = w1, ⟨0, rfl, rfl⟩, ?_⟩
  rintro m _ w2 ⟨rfl, rfl⟩ _
  (try simp only [o_add, o_lss, z0, decide_false, condF])
  exact ⟨by first | rfl | trivial, by first | rfl | trivial⟩
theorem nilApartTxns : CallV Tryd.prog Z 40 #[.slice none 0 0] w fun r w' => r = .bool true ∧ w' = w := by
  refine f40.calls ?_
  unfold f40.sh
  have z0 : ¬ ((0 : Int) < ((0 : Nat) : Int)) := by decide
  refine ⟨fun m y w' => y = .int .i64 0 ∧ w' = w, ⟨0, rfl, rfl⟩, ?_⟩
  rintro m _ w1 ⟨rfl, rfl⟩ _
  (try simp only [o_sub, o_add, ln_48_3, o_lss, z0, decide_false, condF])
  refine (nilGrownTxns Z 1).mono fun r w3 ⟨hr, hw⟩ => ?_
  subst hr; subst hw
  refine (nilGrownTxns Z 24).mono fun r w3 ⟨hr, hw⟩ => ?_
  subst hr; subst hw
  (try simp only [o_pickT, guardW_true])
  exact ⟨by first | rfl | trivial, by first | rfl | trivial⟩
theorem nilGrownResults (c : Nat) : CallV Tryd.prog Z 67 #[.slice none 0 0, .int .i64 c] w fun r w' => r = .bool true ∧ w' = w := by
  refine f67.calls ?_
  unfold f67.sh
  refine ⟨fun m x y w' => x = .slice none 0 0 ∧ y = .int .i64 0 ∧ w' = w, ⟨0, rfl, rfl, rfl⟩, ?_⟩
  rintro m _ _ w1 ⟨rfl, rfl, rfl⟩ _
  have z0 : ¬ ((0 : Int) < ((0 : Nat) : Int)) := by decide
  (try simp only [o_sub, o_add, ln_49_3, o_lss, z0, decide_false, condF])
  refine ⟨fun m y w' => y = .int .i64 0 ∧ w' = w1, ⟨0, rfl, rfl⟩, ?_⟩
  rintro m _ w2 ⟨rfl, rfl⟩ _
  (try simp only [o_add, o_lss, z0, decide_false, condF])
  exact ⟨by first | rfl | trivial, by first | rfl | trivial⟩
theorem nilApartResults : CallV Tryd.prog Z 41 #[.slice none 0 0] w fun r w' => r = .bool true ∧ w' = w := by
  refine f41.calls ?_
  unfold f41.sh
  have z0 : ¬ ((0 : Int) < ((0 : Nat) : Int)) := by decide
  refine ⟨fun m y w' => y = .int .i64 0 ∧ w' = w, ⟨0, rfl, rfl⟩, ?_⟩
  rintro m _ w1 ⟨rfl, rfl⟩ _
  (try simp only [o_sub, o_add, ln_49_3, o_lss, z0, decide_false, condF])
  refine (nilGrownResults Z 1).mono fun r w3 ⟨hr, hw⟩ => ?_
  subst hr; subst hw
  refine (nilGrownResults Z 24).mono fun r w3 ⟨hr, hw⟩ => ?_
  subst hr; subst hw
  (try simp only [o_pickT, guardW_true])
  exact ⟨by first | rfl | trivial, by first | rfl | trivial⟩
theorem nilGrownNodes (c : Nat) : CallV Tryd.prog Z 68 #[.slice none 0 0, .int .i64 c] w fun r w' => r = .bool true ∧ w' = w := by
  refine f68.calls ?_
  unfold f68.sh
  refine ⟨fun m x y w' => x = .slice none 0 0 ∧ y = .int .i64 0 ∧ w' = w, ⟨0, rfl, rfl, rfl⟩, ?_⟩
  rintro m _ _ w1 ⟨rfl, rfl, rfl⟩ _
  have z0 : ¬ ((0 : Int) < ((0 : Nat) : Int)) := by decide
  (try simp only [o_sub, o_add, ln_50_3, o_lss, z0, decide_false, condF])
  refine ⟨fun m y w' => y = .int .i64 0 ∧ w' = w1, ⟨0, rfl, rfl⟩, ?_⟩
  rintro m _ w2 ⟨rfl, rfl⟩ _
  (try simp only [o_add, o_lss, z0, decide_false, condF])
  exact ⟨by first | rfl | trivial, by first | rfl | trivial⟩
theorem nilApartNodes : CallV Tryd.prog Z 42 #[.slice none 0 0] w fun r w' => r = .bool true ∧ w' = w := by
  refine f42.calls ?_
  unfold f42.sh
  have z0 : ¬ ((0 : Int) < ((0 : Nat) : Int)) := by decide
  refine ⟨fun m y w' => y = .int .i64 0 ∧ w' = w, ⟨0, rfl, rfl⟩, ?_⟩
  rintro m _ w1 ⟨rfl, rfl⟩ _
  (try simp only [o_subp, o_add, ln_50_3, o_lss, z0, decide_false, condF])
  refine (nilGrownNodes Z 1).mono fun r w3 ⟨hr, hw⟩ => ?_
  subst hr; subst hw
  refine (nilGrownNodes Z 24).mono fun r w3 ⟨hr, hw⟩ => ?_
  subst hr; subst hw
  (try simp only [o_pickT, guardW_true])
  exact ⟨by first | rfl | trivial, by first | rfl | trivial⟩
theorem nilGrownSessions (c : Nat) : CallV Tryd.prog Z 69 #[.slice none 0 0, .int .i64 c] w fun r w' => r = .bool true ∧ w' = w := by
  refine f69.calls ?_
  unfold f69.sh
  refine ⟨fun m x y w' => x = .slice none 0 0 ∧ y = .int .i64 0 ∧ w' = w, ⟨0, rfl, rfl, rfl⟩, ?_⟩
  rintro m _ _ w1 ⟨rfl, rfl, rfl⟩ _
  have z0 : ¬ ((0 : Int) < ((0 : Nat) : Int)) := by decide
  (try simp only [o_sub, o_add, ln_51_3, o_lss, z0, decide_false, condF])
  refine ⟨fun m y w' => y = .int .i64 0 ∧ w' = w1, ⟨0, rfl, rfl⟩, ?_⟩
  rintro m _ w2 ⟨rfl, rfl⟩ _
  (try simp only [o_add, o_lss, z0, decide_false, condF])
  exact ⟨by first | rfl | trivial, by first | rfl | trivial⟩
theorem nilApartSessions : CallV Tryd.prog Z 43 #[.slice none 0 0] w fun r w' => r = .bool true ∧ w' = w := by
  refine f43.calls ?_
  unfold f43.sh
  have z0 : ¬ ((0 : Int) < ((0 : Nat) : Int)) := by decide
  refine ⟨fun m y w' => y = .int .i64 0 ∧ w' = w, ⟨0, rfl, rfl⟩, ?_⟩
  rintro m _ w1 ⟨rfl, rfl⟩ _
  (try simp only [o_sub, o_add, ln_51_3, o_lss, z0, decide_false, condF])
  refine (nilGrownSessions Z 1).mono fun r w3 ⟨hr, hw⟩ => ?_
  subst hr; subst hw
  refine (nilGrownSessions Z 24).mono fun r w3 ⟨hr, hw⟩ => ?_
  subst hr; subst hw
  (try simp only [o_pickT, guardW_true])
  exact ⟨by first | rfl | trivial, by first | rfl | trivial⟩
theorem nilGrownChanges (c : Nat) : CallV Tryd.prog Z 70 #[.slice none 0 0, .int .i64 c] w fun r w' => r = .bool true ∧ w' = w := by
  refine f70.calls ?_
  unfold f70.sh
  refine ⟨fun m x y w' => x = .slice none 0 0 ∧ y = .int .i64 0 ∧ w' = w, ⟨0, rfl, rfl, rfl⟩, ?_⟩
  rintro m _ _ w1 ⟨rfl, rfl, rfl⟩ _
  have z0 : ¬ ((0 : Int) < ((0 : Nat) : Int)) := by decide
  (try simp only [o_sub, o_add, ln_52_3, o_lss, z0, decide_false, condF])
  refine ⟨fun m y w' => y = .int .i64 0 ∧ w' = w1, ⟨0, rfl, rfl⟩, ?_⟩
  rintro m _ w2 ⟨rfl, rfl⟩ _
  (try simp only [o_add, o_lss, z0, decide_false, condF])
  exact ⟨by first | rfl | trivial, by first | rfl | trivial⟩
theorem nilApartChanges : CallV Tryd.prog Z 44 #[.slice none 0 0] w fun r w' => r = .bool true ∧ w' = w := by
  refine f44.calls ?_
  unfold f44.sh
  have z0 : ¬ ((0 : Int) < ((0 : Nat) : Int)) := by decide
  refine ⟨fun m y w' => y = .int .i64 0 ∧ w' = w, ⟨0, rfl, rfl⟩, ?_⟩
  rintro m _ w1 ⟨rfl, rfl⟩ _
  (try simp only [o_subp, o_add, ln_52_3, o_lss, z0, decide_false, condF])
  refine (nilGrownChanges Z 1).mono fun r w3 ⟨hr, hw⟩ => ?_
  subst hr; subst hw
  refine (nilGrownChanges Z 24).mono fun r w3 ⟨hr, hw⟩ => ?_
  subst hr; subst hw
  (try simp only [o_pickT, guardW_true])
  exact ⟨by first | rfl | trivial, by first | rfl | trivial⟩
theorem nilGrownFiles (c : Nat) : CallV Tryd.prog Z 71 #[.slice none 0 0, .int .i64 c] w fun r w' => r = .bool true ∧ w' = w := by
  refine f71.calls ?_
  unfold f71.sh
  refine ⟨fun m x y w' => x = .slice none 0 0 ∧ y = .int .i64 0 ∧ w' = w, ⟨0, rfl, rfl, rfl⟩, ?_⟩
  rintro m _ _ w1 ⟨rfl, rfl, rfl⟩ _
  have z0 : ¬ ((0 : Int) < ((0 : Nat) : Int)) := by decide
  (try simp only [o_sub, o_add, ln_53_3, o_lss, z0, decide_false, condF])
  refine ⟨fun m y w' => y = .int .i64 0 ∧ w' = w1, ⟨0, rfl, rfl⟩, ?_⟩
  rintro m _ w2 ⟨rfl, rfl⟩ _
  (try simp only [o_add, o_lss, z0, decide_false, condF])
  exact ⟨by first | rfl | trivial, by first | rfl | trivial⟩
theorem nilApartFiles : CallV Tryd.prog Z 45 #[.slice none 0 0] w fun r w' => r = .bool true ∧ w' = w := by
  refine f45.calls ?_
  unfold f45.sh
  have z0 : ¬ ((0 : Int) < ((0 : Nat) : Int)) := by decide
  refine ⟨fun m y w' => y = .int .i64 0 ∧ w' = w, ⟨0, rfl, rfl⟩, ?_⟩
  rintro m _ w1 ⟨rfl, rfl⟩ _
  (try simp only [o_subp, o_add, ln_53_3, o_lss, z0, decide_false, condF])
  refine (nilGrownFiles Z 1).mono fun r w3 ⟨hr, hw⟩ => ?_
  subst hr; subst hw
  refine (nilGrownFiles Z 24).mono fun r w3 ⟨hr, hw⟩ => ?_
  subst hr; subst hw
  (try simp only [o_pickT, guardW_true])
  exact ⟨by first | rfl | trivial, by first | rfl | trivial⟩
theorem nilGrownPackets (c : Nat) : CallV Tryd.prog Z 72 #[.slice none 0 0, .int .i64 c] w fun r w' => r = .bool true ∧ w' = w := by
  refine f72.calls ?_
  unfold f72.sh
  refine ⟨fun m x y w' => x = .slice none 0 0 ∧ y = .int .i64 0 ∧ w' = w, ⟨0, rfl, rfl, rfl⟩, ?_⟩
  rintro m _ _ w1 ⟨rfl, rfl, rfl⟩ _
  have z0 : ¬ ((0 : Int) < ((0 : Nat) : Int)) := by decide
  (try simp only [o_sub, o_add, ln_54_3, o_lss, z0, decide_false, condF])
  refine ⟨fun m y w' => y = .int .i64 0 ∧ w' = w1, ⟨0, rfl, rfl⟩, ?_⟩
  rintro m _ w2 ⟨rfl, rfl⟩ _
  (try simp only [o_add, o_lss, z0, decide_false, condF])
  exact ⟨by first | rfl | trivial, by first | rfl | trivial⟩
theorem nilApartPackets : CallV Tryd.prog Z 46 #[.slice none 0 0] w fun r w' => r = .bool true ∧ w' = w := by
  refine f46.calls ?_
  unfold f46.sh
  have z0 : ¬ ((0 : Int) < ((0 : Nat) : Int)) := by decide
  refine ⟨fun m y w' => y = .int .i64 0 ∧ w' = w, ⟨0, rfl, rfl⟩, ?_⟩
  rintro m _ w1 ⟨rfl, rfl⟩ _
  (try simp only [o_sub, o_add, ln_54_3, o_lss, z0, decide_false, condF])
  refine (nilGrownPackets Z 1).mono fun r w3 ⟨hr, hw⟩ => ?_
  subst hr; subst hw
  refine (nilGrownPackets Z 24).mono fun r w3 ⟨hr, hw⟩ => ?_
  subst hr; subst hw
  (try simp only [o_pickT, guardW_true])
  exact ⟨by first | rfl | trivial, by first | rfl | trivial⟩
theorem nilGrownMessages (c : Nat) : CallV Tryd.prog Z 73 #[.slice none 0 0, .int .i64 c] w fun r w' => r = .bool true ∧ w' = w := by
  refine f73.calls ?_
  unfold f73.sh
  refine ⟨fun m x y w' => x = .slice none 0 0 ∧ y = .int .i64 0 ∧ w' = w, ⟨0, rfl, rfl, rfl⟩, ?_⟩
  rintro m _ _ w1 ⟨rfl, rfl, rfl⟩ _
  have z0 : ¬ ((0 : Int) < ((0 : Nat) : Int)) := by decide
  (try simp only [o_sub, o_add, ln_55_3, o_lss, z0, decide_false, condF])
  refine ⟨fun m y w' => y = .int .i64 0 ∧ w' = w1, ⟨0, rfl, rfl⟩, ?_⟩
  rintro m _ w2 ⟨rfl, rfl⟩ _
  (try simp only [o_add, o_lss, z0, decide_false, condF])
  exact ⟨by first | rfl | trivial, by first | rfl | trivial⟩
theorem nilApartMessages : CallV Tryd.prog Z 47 #[.slice none 0 0] w fun r w' => r = .bool true ∧ w' = w := by
  refine f47.calls ?_
  unfold f47.sh
  have z0 : ¬ ((0 : Int) < ((0 : Nat) : Int)) := by decide
  refine ⟨fun m y w' => y = .int .i64 0 ∧ w' = w, ⟨0, rfl, rfl⟩, ?_⟩
  rintro m _ w1 ⟨rfl, rfl⟩ _
  (try simp only [o_subp, o_add, ln_55_3, o_lss, z0, decide_false, condF])
  refine (nilGrownMessages Z 1).mono fun r w3 ⟨hr, hw⟩ => ?_
  subst hr; subst hw
  refine (nilGrownMessages Z 24).mono fun r w3 ⟨hr, hw⟩ => ?_
  subst hr; subst hw
  (try simp only [o_pickT, guardW_true])
  exact ⟨by first | rfl | trivial, by first | rfl | trivial⟩
theorem nilGrownWatches (c : Nat) : CallV Tryd.prog Z 74 #[.slice none 0 0, .int .i64 c] w fun r w' => r = .bool true ∧ w' = w := by
  refine f74.calls ?_
  unfold f74.sh
  refine ⟨fun m x y w' => x = .slice none 0 0 ∧ y = .int .i64 0 ∧ w' = w, ⟨0, rfl, rfl, rfl⟩, ?_⟩
  rintro m _ _ w1 ⟨rfl, rfl, rfl⟩ _
  have z0 : ¬ ((0 : Int) < ((0 : Nat) : Int)) := by decide
  (try simp only [o_sub, o_add, ln_56_3, o_lss, z0, decide_false, condF])
  refine ⟨fun m y w' => y = .int .i64 0 ∧ w' = w1, ⟨0, rfl, rfl⟩, ?_⟩
  rintro m _ w2 ⟨rfl, rfl⟩ _
  (try simp only [o_add, o_lss, z0, decide_false, condF])
  exact ⟨by first | rfl | trivial, by first | rfl | trivial⟩
theorem nilApartWatches : CallV Tryd.prog Z 48 #[.slice none 0 0] w fun r w' => r = .bool true ∧ w' = w := by
  refine f48.calls ?_
  unfold f48.sh
  have z0 : ¬ ((0 : Int) < ((0 : Nat) : Int)) := by decide
  refine ⟨fun m y w' => y = .int .i64 0 ∧ w' = w, ⟨0, rfl, rfl⟩, ?_⟩
  rintro m _ w1 ⟨rfl, rfl⟩ _
  (try simp only [o_sub, o_add, ln_56_3, o_lss, z0, decide_false, condF])
  refine (nilGrownWatches Z 1).mono fun r w3 ⟨hr, hw⟩ => ?_
  subst hr; subst hw
  refine (nilGrownWatches Z 24).mono fun r w3 ⟨hr, hw⟩ => ?_
  subst hr; subst hw
  (try simp only [o_pickT, guardW_true])
  exact ⟨by first | rfl | trivial, by first | rfl | trivial⟩
theorem nilGrownFired (c : Nat) : CallV Tryd.prog Z 75 #[.slice none 0 0, .int .i64 c] w fun r w' => r = .bool true ∧ w' = w := by
  refine f75.calls ?_
  unfold f75.sh
  refine ⟨fun m x y w' => x = .slice none 0 0 ∧ y = .int .i64 0 ∧ w' = w, ⟨0, rfl, rfl, rfl⟩, ?_⟩
  rintro m _ _ w1 ⟨rfl, rfl, rfl⟩ _
  have z0 : ¬ ((0 : Int) < ((0 : Nat) : Int)) := by decide
  (try simp only [o_sub, o_add, ln_57_3, o_lss, z0, decide_false, condF])
  refine ⟨fun m y w' => y = .int .i64 0 ∧ w' = w1, ⟨0, rfl, rfl⟩, ?_⟩
  rintro m _ w2 ⟨rfl, rfl⟩ _
  (try simp only [o_add, o_lss, z0, decide_false, condF])
  exact ⟨by first | rfl | trivial, by first | rfl | trivial⟩
theorem nilApartFired : CallV Tryd.prog Z 49 #[.slice none 0 0] w fun r w' => r = .bool true ∧ w' = w := by
  refine f49.calls ?_
  unfold f49.sh
  have z0 : ¬ ((0 : Int) < ((0 : Nat) : Int)) := by decide
  refine ⟨fun m y w' => y = .int .i64 0 ∧ w' = w, ⟨0, rfl, rfl⟩, ?_⟩
  rintro m _ w1 ⟨rfl, rfl⟩ _
  (try simp only [o_sub, o_add, ln_57_3, o_lss, z0, decide_false, condF])
  refine (nilGrownFired Z 1).mono fun r w3 ⟨hr, hw⟩ => ?_
  subst hr; subst hw
  refine (nilGrownFired Z 24).mono fun r w3 ⟨hr, hw⟩ => ?_
  subst hr; subst hw
  (try simp only [o_pickT, guardW_true])
  exact ⟨by first | rfl | trivial, by first | rfl | trivial⟩
theorem nilGrownFacts (c : Nat) : CallV Tryd.prog Z 76 #[.slice none 0 0, .int .i64 c] w fun r w' => r = .bool true ∧ w' = w := by
  refine f76.calls ?_
  unfold f76.sh
  refine ⟨fun m x y w' => x = .slice none 0 0 ∧ y = .int .i64 0 ∧ w' = w, ⟨0, rfl, rfl, rfl⟩, ?_⟩
  rintro m _ _ w1 ⟨rfl, rfl, rfl⟩ _
  have z0 : ¬ ((0 : Int) < ((0 : Nat) : Int)) := by decide
  (try simp only [o_sub, o_add, ln_58_3, o_lss, z0, decide_false, condF])
  refine ⟨fun m y w' => y = .int .i64 0 ∧ w' = w1, ⟨0, rfl, rfl⟩, ?_⟩
  rintro m _ w2 ⟨rfl, rfl⟩ _
  (try simp only [o_add, o_lss, z0, decide_false, condF])
  exact ⟨by first | rfl | trivial, by first | rfl | trivial⟩
theorem nilApartFacts : CallV Tryd.prog Z 50 #[.slice none 0 0] w fun r w' => r = .bool true ∧ w' = w := by
  refine f50.calls ?_
  unfold f50.sh
  have z0 : ¬ ((0 : Int) < ((0 : Nat) : Int)) := by decide
  refine ⟨fun m y w' => y = .int .i64 0 ∧ w' = w, ⟨0, rfl, rfl⟩, ?_⟩
  rintro m _ w1 ⟨rfl, rfl⟩ _
  (try simp only [o_sub, o_add, ln_58_3, o_lss, z0, decide_false, condF])
  refine (nilGrownFacts Z 1).mono fun r w3 ⟨hr, hw⟩ => ?_
  subst hr; subst hw
  refine (nilGrownFacts Z 24).mono fun r w3 ⟨hr, hw⟩ => ?_
  subst hr; subst hw
  (try simp only [o_pickT, guardW_true])
  exact ⟨by first | rfl | trivial, by first | rfl | trivial⟩
theorem nilGrownSends (c : Nat) : CallV Tryd.prog Z 77 #[.slice none 0 0, .int .i64 c] w fun r w' => r = .bool true ∧ w' = w := by
  refine f77.calls ?_
  unfold f77.sh
  refine ⟨fun m x y w' => x = .slice none 0 0 ∧ y = .int .i64 0 ∧ w' = w, ⟨0, rfl, rfl, rfl⟩, ?_⟩
  rintro m _ _ w1 ⟨rfl, rfl, rfl⟩ _
  have z0 : ¬ ((0 : Int) < ((0 : Nat) : Int)) := by decide
  (try simp only [o_sub, o_add, ln_59_3, o_lss, z0, decide_false, condF])
  refine ⟨fun m y w' => y = .int .i64 0 ∧ w' = w1, ⟨0, rfl, rfl⟩, ?_⟩
  rintro m _ w2 ⟨rfl, rfl⟩ _
  (try simp only [o_add, o_lss, z0, decide_false, condF])
  exact ⟨by first | rfl | trivial, by first | rfl | trivial⟩
theorem nilApartSends : CallV Tryd.prog Z 51 #[.slice none 0 0] w fun r w' => r = .bool true ∧ w' = w := by
  refine f51.calls ?_
  unfold f51.sh
  have z0 : ¬ ((0 : Int) < ((0 : Nat) : Int)) := by decide
  refine ⟨fun m y w' => y = .int .i64 0 ∧ w' = w, ⟨0, rfl, rfl⟩, ?_⟩
  rintro m _ w1 ⟨rfl, rfl⟩ _
  (try simp only [o_subp, o_add, ln_59_3, o_lss, z0, decide_false, condF])
  refine (nilGrownSends Z 1).mono fun r w3 ⟨hr, hw⟩ => ?_
  subst hr; subst hw
  refine (nilGrownSends Z 24).mono fun r w3 ⟨hr, hw⟩ => ?_
  subst hr; subst hw
  (try simp only [o_pickT, guardW_true])
  exact ⟨by first | rfl | trivial, by first | rfl | trivial⟩
theorem nilGrownEvents (c : Nat) : CallV Tryd.prog Z 78 #[.slice none 0 0, .int .i64 c] w fun r w' => r = .bool true ∧ w' = w := by
  refine f78.calls ?_
  unfold f78.sh
  refine ⟨fun m x y w' => x = .slice none 0 0 ∧ y = .int .i64 0 ∧ w' = w, ⟨0, rfl, rfl, rfl⟩, ?_⟩
  rintro m _ _ w1 ⟨rfl, rfl, rfl⟩ _
  have z0 : ¬ ((0 : Int) < ((0 : Nat) : Int)) := by decide
  (try simp only [o_sub, o_add, ln_60_3, o_lss, z0, decide_false, condF])
  refine ⟨fun m y w' => y = .int .i64 0 ∧ w' = w1, ⟨0, rfl, rfl⟩, ?_⟩
  rintro m _ w2 ⟨rfl, rfl⟩ _
  (try simp only [o_add, o_lss, z0, decide_false, condF])
  exact ⟨by first | rfl | trivial, by first | rfl | trivial⟩
theorem nilApartEvents : CallV Tryd.prog Z 52 #[.slice none 0 0] w fun r w' => r = .bool true ∧ w' = w := by
  refine f52.calls ?_
  unfold f52.sh
  have z0 : ¬ ((0 : Int) < ((0 : Nat) : Int)) := by decide
  refine ⟨fun m y w' => y = .int .i64 0 ∧ w' = w, ⟨0, rfl, rfl⟩, ?_⟩
  rintro m _ w1 ⟨rfl, rfl⟩ _
  (try simp only [o_sub, o_add, ln_60_3, o_lss, z0, decide_false, condF])
  refine (nilGrownEvents Z 1).mono fun r w3 ⟨hr, hw⟩ => ?_
  subst hr; subst hw
  refine (nilGrownEvents Z 24).mono fun r w3 ⟨hr, hw⟩ => ?_
  subst hr; subst hw
  (try simp only [o_pickT, guardW_true])
  exact ⟨by first | rfl | trivial, by first | rfl | trivial⟩
theorem nilGrownFactss (c : Nat) : CallV Tryd.prog Z 79 #[.slice none 0 0, .int .i64 c] w fun r w' => r = .bool true ∧ w' = w := by
  refine f79.calls ?_
  unfold f79.sh
  refine ⟨fun m x y w' => x = .slice none 0 0 ∧ y = .int .i64 0 ∧ w' = w, ⟨0, rfl, rfl, rfl⟩, ?_⟩
  rintro m _ _ w1 ⟨rfl, rfl, rfl⟩ _
  have z0 : ¬ ((0 : Int) < ((0 : Nat) : Int)) := by decide
  (try simp only [o_sub, o_add, ln_61_3, o_lss, z0, decide_false, condF])
  refine ⟨fun m y w' => y = .int .i64 0 ∧ w' = w1, ⟨0, rfl, rfl⟩, ?_⟩
  rintro m _ w2 ⟨rfl, rfl⟩ _
  (try simp only [o_add, o_lss, z0, decide_false, condF])
  exact ⟨by first | rfl | trivial, by first | rfl | trivial⟩
theorem nilApartFactss : CallV Tryd.prog Z 53 #[.slice none 0 0] w fun r w' => r = .bool true ∧ w' = w := by
  refine f53.calls ?_
  unfold f53.sh
  have z0 : ¬ ((0 : Int) < ((0 : Nat) : Int)) := by decide
  refine ⟨fun m y w' => y = .int .i64 0 ∧ w' = w, ⟨0, rfl, rfl⟩, ?_⟩
  rintro m _ w1 ⟨rfl, rfl⟩ _
  (try simp only [o_sub, o_add, ln_61_3, o_lss, z0, decide_false, condF])
  refine (nilGrownFactss Z 1).mono fun r w3 ⟨hr, hw⟩ => ?_
  subst hr; subst hw
  refine (nilGrownFactss Z 24).mono fun r w3 ⟨hr, hw⟩ => ?_
  subst hr; subst hw
  (try simp only [o_pickT, guardW_true])
  exact ⟨by first | rfl | trivial, by first | rfl | trivial⟩
end
def bagP (g : Nat) (b0 : List Value) : HProp := fun h => ∃ (v0 : Value), (b0.length ≤ 600) ∧ sep (blk g 63 [.slice none 0 0, .slice none 0 0, v0, .slice none 0 0, .slice none 0 0, .slice none 0 0, .slice none 0 0, .slice none 0 0, .slice none 0 0, .slice none 0 0, .slice none 0 0, .slice none 0 0, .slice none 0 0, .slice none 0 0, .slice none 0 0, .slice none 0 0, .slice none 0 0, .slice none 0 0, .slice none 0 0, .slice none 0 0, .slice none 0 0]) (satH [own 27 1 v0 b0.length b0]) h
section
variable (Z : List PanicEntry → World → Prop) {o w : World} {R As : List HProp} {g : Nat} {b0 : List Value}
theorem bagP.open (h : St o w (bagP g b0 :: R)) : ∃ (v0 : Value), (b0.length ≤ 600) ∧ St o w (blk g 63 [.slice none 0 0, .slice none 0 0, v0, .slice none 0 0, .slice none 0 0, .slice none 0 0, .slice none 0 0, .slice none 0 0, .slice none 0 0, .slice none 0 0, .slice none 0 0, .slice none 0 0, .slice none 0 0, .slice none 0 0, .slice none 0 0, .slice none 0 0, .slice none 0 0, .slice none 0 0, .slice none 0 0, .slice none 0 0, .slice none 0 0] :: own 27 1 v0 b0.length b0 :: R) := by
  obtain ⟨v0, h⟩ := h.ex
  obtain ⟨hl, h⟩ := h.pure
  have h := h.sep.swap.all
  refine ⟨v0, hl, h.pick 1⟩
theorem bagP.shut {v0 : Value} (hl : b0.length ≤ 600) (h : St o w (blk g 63 [.slice none 0 0, .slice none 0 0, v0, .slice none 0 0, .slice none 0 0, .slice none 0 0, .slice none 0 0, .slice none 0 0, .slice none 0 0, .slice none 0 0, .slice none 0 0, .slice none 0 0, .slice none 0 0, .slice none 0 0, .slice none 0 0, .slice none 0 0, .slice none 0 0, .slice none 0 0, .slice none 0 0, .slice none 0 0, .slice none 0 0] :: own 27 1 v0 b0.length b0 :: R)) : St o w (bagP g b0 :: R) := by
  have h : St o w (satH [own 27 1 v0 b0.length b0] :: blk g 63 [.slice none 0 0, .slice none 0 0, v0, .slice none 0 0, .slice none 0 0, .slice none 0 0, .slice none 0 0, .slice none 0 0, .slice none 0 0, .slice none 0 0, .slice none 0 0, .slice none 0 0, .slice none 0 0, .slice none 0 0, .slice none 0 0, .slice none 0 0, .slice none 0 0, .slice none 0 0, .slice none 0 0, .slice none 0 0, .slice none 0 0] :: R) := St.all_intro (h.put 1)
  have h := h.swap.sep_intro.pure_intro hl
  exact h.mono fun _ hx => ⟨v0, hx⟩
theorem bag_new (h : St o w (blk g 63 [.slice none 0 0, .slice none 0 0, .slice none 0 0, .slice none 0 0, .slice none 0 0, .slice none 0 0, .slice none 0 0, .slice none 0 0, .slice none 0 0, .slice none 0 0, .slice none 0 0, .slice none 0 0, .slice none 0 0, .slice none 0 0, .slice none 0 0, .slice none 0 0, .slice none 0 0, .slice none 0 0, .slice none 0 0, .slice none 0 0, .slice none 0 0] :: R)) : St o w (bagP g [] :: R) := by
  refine bagP.shut (v0 := .slice none 0 0) (by simp) ?_
  have h := h
  have h := h.own_nil 27 1
  exact h.pick 1
theorem bagPushTexts {l : Value} (hl1 : l.oneCell' = true) {Q : World → Prop} (h : St o w (bagP g b0 :: R)) (hq : ∀ b' w', b' = (if b0.length < 600 then b0 ++ [l] else b0) → St o w' (bagP g b' :: R) → Q w') :
    runX Tryd.prog Z (nilChk (.pointer (some ⟨g, 0, none⟩))) w fun t5 w => run1 Tryd.prog Z (Instr.fieldAt 63 t5 2) w fun t6 w => run1 Tryd.prog Z (Instr.loadAt 43 t6) w fun t7 w => run1 Tryd.prog Z (Builtin.len_ #[43] 3 #[t7]) w fun t8 w => run1 Tryd.prog Z (binOp BinOp.lss 3 t8 (Value.int IntKind.i64 600)) w fun t9 w =>
      CondV t9 (runX Tryd.prog Z (nilChk (.pointer (some ⟨g, 0, none⟩))) w fun t12 w => run1 Tryd.prog Z (Instr.fieldAt 63 t12 2) w fun t13 w => run1 Tryd.prog Z (Instr.loadAt 43 t13) w fun t14 w => run1 Tryd.prog Z (Instr.buildSlice 43 1 #[(0, l)]) w fun t16 w => run1 Tryd.prog Z (Builtin.append_ #[43, 43] 43 #[t14, t16]) w fun t17 w => runX Tryd.prog Z (nilChk (.pointer (some ⟨g, 0, none⟩))) w fun t18 w => run1 Tryd.prog Z (Instr.fieldAt 63 t18 2) w fun t19 w => run0 Tryd.prog Z (Instr.storeAt 43 t19 t17) w Q) (Q w) := by
  obtain ⟨v0, h0, hS⟩ := bagP.open h
  (try simp only [o_chk, fa_63_2, Nat.zero_add])
  refine r_load one43 (hS.at m0 2 rfl) ?_
  refine r1 ((hS.own_rd m1).len sl43 _ rfl _ _) ?_
  by_cases hlt : (b0.length : Int) < 600
  · (try simp only [o_lss, hlt, decide_true, condT])
    refine r_load one43 (hS.at m0 2 rfl) ?_
    refine r_push el43 (hS.pick 1) l hl1 (by omega) (by simp only [maxLen]; omega) fun v' w1 hS => ?_
    have hv' : v'.oneCell' = true := by obtain ⟨_, _, e⟩ := hS.own_form; rw [e]; rfl
    skip
    refine r_store (hS.pick 1) one43 (show 2 < 21 by omega) hv' fun w2 hS => ?_
    have hlen : (b0 ++ [l]).length = b0.length + 1 := by simp
    rw [← hlen] at hS
    exact hq _ _ (by rw [if_pos (by omega)]) (bagP.shut (v0 := v') (by omega) (hS.swap.put 1))
  · (try simp only [o_lss, hlt, decide_false, condF])
    exact hq _ _ (by rw [if_neg (by omega)]) (bagP.shut h0 hS)
theorem bagAddTexts {l : Value} (hl1 : l.oneCell' = true) (h : St o w (bagP g b0 :: R)) : CallV Tryd.prog Z 18 #[.pointer (some ⟨g, 0, none⟩), l] w fun r w' => ∃ b', b' = (if b0.length < 600 then b0 ++ [l] else b0) ∧ St o w' (bagP g b' :: R) := by
  refine f18.calls ?_
  unfold f18.sh
  exact bagPushTexts Z hl1 h fun b' w' hb hS => ⟨b', hb, hS⟩
set_option maxRecDepth 100000 in
theorem bagApart {es0 : List (Value × Nat)} (hT : Tab o) (ho : old o ∈ R) (h : St o w (bagP g (es0.map Prod.fst) :: rowsX 9 1 16 es0 :: R)) :
    CallV Tryd.prog Z 19 #[.pointer (some ⟨g, 0, none⟩)] w fun r w' => r = .bool true ∧ St o w' (bagP g (es0.map Prod.fst) :: rowsX 9 1 16 es0 :: R) := by
  obtain ⟨v0, h0, hS⟩ := bagP.open h
  simp only [List.length_map] at hS h0
  refine f19.calls ?_
  unfold f19.sh
  (try simp only [o_chk, fa_63_20, Nat.zero_add, fa_63_19, fa_63_18, fa_63_17, fa_63_16, fa_63_15, fa_63_14, fa_63_13, fa_63_12, fa_63_11, fa_63_10, fa_63_9, fa_63_8, fa_63_7, fa_63_6, fa_63_5, fa_63_4, fa_63_3, fa_63_2, fa_63_1, fa_63_0, Nat.add_zero])
  refine r_load one41 (hS.at m0 0 rfl) ?_
  refine (nilApartBytes Z).mono fun r w1 ⟨hr, hw⟩ => ?_
  subst hr; subst hw
  (try simp only [o_pickT, guardW_true])
  refine r_load one42 (hS.at m0 1 rfl) ?_
  refine (nilApartInts Z).mono fun r w1 ⟨hr, hw⟩ => ?_
  subst hr; subst hw
  (try simp only [o_pickT, guardW_true])
  refine r_load one43 (hS.at m0 2 rfl) ?_
  refine (apartTexts Z h0 hT (by simp [ho]) (fun w hw => hw.own_rd m1) (hS.pick 2)).mono fun r w1 ⟨hr, hS⟩ => ?_
  subst hr
  have hS := hS.put 2
  (try simp only [o_pickT, guardW_true])
  refine r_load one44 (hS.at m0 3 rfl) ?_
  refine (nilApartPieces Z).mono fun r w1 ⟨hr, hw⟩ => ?_
  subst hr; subst hw
  (try simp only [o_pickT, guardW_true])
  refine r_load one45 (hS.at m0 4 rfl) ?_
  refine (nilApartIds Z).mono fun r w1 ⟨hr, hw⟩ => ?_
  subst hr; subst hw
  (try simp only [o_pickT, guardW_true])
  refine r_load one46 (hS.at m0 5 rfl) ?_
  refine (nilApartAcl Z).mono fun r w1 ⟨hr, hw⟩ => ?_
  subst hr; subst hw
  (try simp only [o_pickT, guardW_true])
  refine r_load one47 (hS.at m0 6 rfl) ?_
  refine (nilApartRequests Z).mono fun r w1 ⟨hr, hw⟩ => ?_
  subst hr; subst hw
  (try simp only [o_pickT, guardW_true])
  refine r_load one48 (hS.at m0 7 rfl) ?_
  refine (nilApartTxns Z).mono fun r w1 ⟨hr, hw⟩ => ?_
  subst hr; subst hw
  (try simp only [o_pickT, guardW_true])
  refine r_load one49 (hS.at m0 8 rfl) ?_
  refine (nilApartResults Z).mono fun r w1 ⟨hr, hw⟩ => ?_
  subst hr; subst hw
  (try simp only [o_pickT, guardW_true])
  refine r_load one50 (hS.at m0 9 rfl) ?_
  refine (nilApartNodes Z).mono fun r w1 ⟨hr, hw⟩ => ?_
  subst hr; subst hw
  (try simp only [o_pickT, guardW_true])
  refine r_load one51 (hS.at m0 10 rfl) ?_
  refine (nilApartSessions Z).mono fun r w1 ⟨hr, hw⟩ => ?_
  subst hr; subst hw
  (try simp only [o_pickT, guardW_true])
  refine r_load one52 (hS.at m0 11 rfl) ?_
  refine (nilApartChanges Z).mono fun r w1 ⟨hr, hw⟩ => ?_
  subst hr; subst hw
  (try simp only [o_pickT, guardW_true])
  refine r_load one53 (hS.at m0 12 rfl) ?_
  refine (nilApartFiles Z).mono fun r w1 ⟨hr, hw⟩ => ?_
  subst hr; subst hw
  (try simp only [o_pickT, guardW_true])
  refine r_load one54 (hS.at m0 13 rfl) ?_
  refine (nilApartPackets Z).mono fun r w1 ⟨hr, hw⟩ => ?_
  subst hr; subst hw
  (try simp only [o_pickT, guardW_true])
  refine r_load one55 (hS.at m0 14 rfl) ?_
  refine (nilApartMessages Z).mono fun r w1 ⟨hr, hw⟩ => ?_
  subst hr; subst hw
  (try simp only [o_pickT, guardW_true])
  refine r_load one56 (hS.at m0 15 rfl) ?_
  refine (nilApartWatches Z).mono fun r w1 ⟨hr, hw⟩ => ?_
  subst hr; subst hw
  (try simp only [o_pickT, guardW_true])
  refine r_load one57 (hS.at m0 16 rfl) ?_
  refine (nilApartFired Z).mono fun r w1 ⟨hr, hw⟩ => ?_
  subst hr; subst hw
  (try simp only [o_pickT, guardW_true])
  refine r_load one58 (hS.at m0 17 rfl) ?_
  refine (nilApartFacts Z).mono fun r w1 ⟨hr, hw⟩ => ?_
  subst hr; subst hw
  (try simp only [o_pickT, guardW_true])
  refine r_load one59 (hS.at m0 18 rfl) ?_
  refine (nilApartSends Z).mono fun r w1 ⟨hr, hw⟩ => ?_
  subst hr; subst hw
  (try simp only [o_pickT, guardW_true])
  refine r_load one60 (hS.at m0 19 rfl) ?_
  refine (nilApartEvents Z).mono fun r w1 ⟨hr, hw⟩ => ?_
  subst hr; subst hw
  (try simp only [o_pickT, guardW_true])
  refine r_load one61 (hS.at m0 20 rfl) ?_
  refine (nilApartFactss Z).mono fun r w1 ⟨hr, hw⟩ => ?_
  subst hr; subst hw
  (try simp only [])
  refine ⟨by first | rfl | trivial, bagP.shut (v0 := v0) (by simp only [List.length_map]; exact h0) (by simp only [List.length_map]; exact hS)⟩
end
end Go.Proofs.YthobnaagjhooeaaDoor
