/- A Bag's lists: put in, held apart. Printed by wip/sh/mkbag.py. -/
import Derived.Test.YtfijkedmbaghmaaGreatDoorQ1
set_option linter.unusedVariables false
set_option linter.unusedSimpArgs false
namespace Go.Proofs.YtfijkedmbaghmaaGreatDoor
open Go.Sh
open Tryz renaming prog → π
section
variable (Z:PZ) {o w:World} {R As:List HProp}
theorem nilGrownInts (c:Nat):CallV π Z 142 #[.slice none 0 0,.int .i64 c] w fun r w'=>r=.bool true∧w'=w:=by
 refine f142.calls ?_
 unfold f142.sh
 refine ⟨fun m x y w'=>x=.slice none 0 0∧y=.int .i64 0∧w'=w,⟨0,rfl,rfl,rfl⟩,?_⟩
 rintro m _ _ w1 ⟨rfl,rfl,rfl⟩ _
 have z0:¬ ((0:Int) < ((0:Nat):Int)):=by decide
 (try simp only [ln_51_3,o_lss,z0,decide_false,condF])
 refine ⟨fun m y w'=>y=.int .i64 0∧w'=w1,⟨0,rfl,rfl⟩,?_⟩
 rintro m _ w2 ⟨rfl,rfl⟩ _
 (try simp only [o_lss,z0,decide_false,condF])
 exact ⟨by first | rfl | trivial,by first | rfl | trivial⟩
theorem nilApartInts:CallV π Z 49 #[.slice none 0 0] w fun r w'=>r=.bool true∧w'=w:=by
 refine f49.calls ?_
 unfold f49.sh
 have z0:¬ ((0:Int) < ((0:Nat):Int)):=by decide
 refine ⟨fun m y w'=>y=.int .i64 0∧w'=w,⟨0,rfl,rfl⟩,?_⟩
 rintro m _ w1 ⟨rfl,rfl⟩ _
 (try simp only [ln_51_3,o_lss,z0,decide_false,condF])
 refine (nilGrownInts Z 1).mono fun r w3 ⟨hr,hw⟩=>?_
 subst hr; subst hw
 refine (nilGrownInts Z 24).mono fun r w3 ⟨hr,hw⟩=>?_
 subst hr; subst hw
 (try simp only [o_pickT,guardW_true])
 exact ⟨by first | rfl | trivial,by first | rfl | trivial⟩
theorem nilGrownTexts (c:Nat):CallV π Z 144 #[.slice none 0 0,.int .i64 c] w fun r w'=>r=.bool true∧w'=w:=by
 refine f144.calls ?_
 unfold f144.sh
 refine ⟨fun m x y w'=>x=.slice none 0 0∧y=.int .i64 0∧w'=w,⟨0,rfl,rfl,rfl⟩,?_⟩
 rintro m _ _ w1 ⟨rfl,rfl,rfl⟩ _
 have z0:¬ ((0:Int) < ((0:Nat):Int)):=by decide
 (try simp only [ln_52_3,o_lss,z0,decide_false,condF])
 refine ⟨fun m y w'=>y=.int .i64 0∧w'=w1,⟨0,rfl,rfl⟩,?_⟩
 rintro m _ w2 ⟨rfl,rfl⟩ _
 (try simp only [o_lss,z0,decide_false,condF])
 exact ⟨by first | rfl | trivial,by first | rfl | trivial⟩
theorem nilApartTexts:CallV π Z 50 #[.slice none 0 0] w fun r w'=>r=.bool true∧w'=w:=by
 refine f50.calls ?_
 unfold f50.sh
 have z0:¬ ((0:Int) < ((0:Nat):Int)):=by decide
 refine ⟨fun m y w'=>y=.int .i64 0∧w'=w,⟨0,rfl,rfl⟩,?_⟩
 rintro m _ w1 ⟨rfl,rfl⟩ _
 (try simp only [ln_52_3,o_lss,z0,decide_false,condF])
 refine (nilGrownTexts Z 1).mono fun r w3 ⟨hr,hw⟩=>?_
 subst hr; subst hw
 refine (nilGrownTexts Z 24).mono fun r w3 ⟨hr,hw⟩=>?_
 subst hr; subst hw
 (try simp only [o_pickT,guardW_true])
 exact ⟨by first | rfl | trivial,by first | rfl | trivial⟩
theorem nilGrownPieces (c:Nat):CallV π Z 145 #[.slice none 0 0,.int .i64 c] w fun r w'=>r=.bool true∧w'=w:=by
 refine f145.calls ?_
 unfold f145.sh
 refine ⟨fun m x y w'=>x=.slice none 0 0∧y=.int .i64 0∧w'=w,⟨0,rfl,rfl,rfl⟩,?_⟩
 rintro m _ _ w1 ⟨rfl,rfl,rfl⟩ _
 have z0:¬ ((0:Int) < ((0:Nat):Int)):=by decide
 (try simp only [ln_53_3,o_lss,z0,decide_false,condF])
 refine ⟨fun m y w'=>y=.int .i64 0∧w'=w1,⟨0,rfl,rfl⟩,?_⟩
 rintro m _ w2 ⟨rfl,rfl⟩ _
 (try simp only [o_lss,z0,decide_false,condF])
 exact ⟨by first | rfl | trivial,by first | rfl | trivial⟩
theorem nilApartPieces:CallV π Z 51 #[.slice none 0 0] w fun r w'=>r=.bool true∧w'=w:=by
 refine f51.calls ?_
 unfold f51.sh
 have z0:¬ ((0:Int) < ((0:Nat):Int)):=by decide
 refine ⟨fun m y w'=>y=.int .i64 0∧w'=w,⟨0,rfl,rfl⟩,?_⟩
 rintro m _ w1 ⟨rfl,rfl⟩ _
 (try simp only [ln_53_3,o_lss,z0,decide_false,condF])
 refine (nilGrownPieces Z 1).mono fun r w3 ⟨hr,hw⟩=>?_
 subst hr; subst hw
 refine (nilGrownPieces Z 24).mono fun r w3 ⟨hr,hw⟩=>?_
 subst hr; subst hw
 (try simp only [o_pickT,guardW_true])
 exact ⟨by first | rfl | trivial,by first | rfl | trivial⟩
theorem nilGrownTxns (c:Nat):CallV π Z 149 #[.slice none 0 0,.int .i64 c] w fun r w'=>r=.bool true∧w'=w:=by
 refine f149.calls ?_
 unfold f149.sh
 refine ⟨fun m x y w'=>x=.slice none 0 0∧y=.int .i64 0∧w'=w,⟨0,rfl,rfl,rfl⟩,?_⟩
 rintro m _ _ w1 ⟨rfl,rfl,rfl⟩ _
 have z0:¬ ((0:Int) < ((0:Nat):Int)):=by decide
 (try simp only [ln_57_3,o_lss,z0,decide_false,condF])
 refine ⟨fun m y w'=>y=.int .i64 0∧w'=w1,⟨0,rfl,rfl⟩,?_⟩
 rintro m _ w2 ⟨rfl,rfl⟩ _
 (try simp only [o_lss,z0,decide_false,condF])
 exact ⟨by first | rfl | trivial,by first | rfl | trivial⟩
theorem nilApartTxns:CallV π Z 55 #[.slice none 0 0] w fun r w'=>r=.bool true∧w'=w:=by
 refine f55.calls ?_
 unfold f55.sh
 have z0:¬ ((0:Int) < ((0:Nat):Int)):=by decide
 refine ⟨fun m y w'=>y=.int .i64 0∧w'=w,⟨0,rfl,rfl⟩,?_⟩
 rintro m _ w1 ⟨rfl,rfl⟩ _
 (try simp only [ln_57_3,o_lss,z0,decide_false,condF])
 refine (nilGrownTxns Z 1).mono fun r w3 ⟨hr,hw⟩=>?_
 subst hr; subst hw
 refine (nilGrownTxns Z 24).mono fun r w3 ⟨hr,hw⟩=>?_
 subst hr; subst hw
 (try simp only [o_pickT,guardW_true])
 exact ⟨by first | rfl | trivial,by first | rfl | trivial⟩
theorem nilGrownResults (c:Nat):CallV π Z 150 #[.slice none 0 0,.int .i64 c] w fun r w'=>r=.bool true∧w'=w:=by
 refine f150.calls ?_
 unfold f150.sh
 refine ⟨fun m x y w'=>x=.slice none 0 0∧y=.int .i64 0∧w'=w,⟨0,rfl,rfl,rfl⟩,?_⟩
 rintro m _ _ w1 ⟨rfl,rfl,rfl⟩ _
 have z0:¬ ((0:Int) < ((0:Nat):Int)):=by decide
 (try simp only [ln_58_3,o_lss,z0,decide_false,condF])
 refine ⟨fun m y w'=>y=.int .i64 0∧w'=w1,⟨0,rfl,rfl⟩,?_⟩
 rintro m _ w2 ⟨rfl,rfl⟩ _
 (try simp only [o_lss,z0,decide_false,condF])
 exact ⟨by first | rfl | trivial,by first | rfl | trivial⟩
theorem nilApartResults:CallV π Z 56 #[.slice none 0 0] w fun r w'=>r=.bool true∧w'=w:=by
 refine f56.calls ?_
 unfold f56.sh
 have z0:¬ ((0:Int) < ((0:Nat):Int)):=by decide
 refine ⟨fun m y w'=>y=.int .i64 0∧w'=w,⟨0,rfl,rfl⟩,?_⟩
 rintro m _ w1 ⟨rfl,rfl⟩ _
 (try simp only [ln_58_3,o_lss,z0,decide_false,condF])
 refine (nilGrownResults Z 1).mono fun r w3 ⟨hr,hw⟩=>?_
 subst hr; subst hw
 refine (nilGrownResults Z 24).mono fun r w3 ⟨hr,hw⟩=>?_
 subst hr; subst hw
 (try simp only [o_pickT,guardW_true])
 exact ⟨by first | rfl | trivial,by first | rfl | trivial⟩
theorem nilGrownNodes (c:Nat):CallV π Z 151 #[.slice none 0 0,.int .i64 c] w fun r w'=>r=.bool true∧w'=w:=by
 refine f151.calls ?_
 unfold f151.sh
 refine ⟨fun m x y w'=>x=.slice none 0 0∧y=.int .i64 0∧w'=w,⟨0,rfl,rfl,rfl⟩,?_⟩
 rintro m _ _ w1 ⟨rfl,rfl,rfl⟩ _
 have z0:¬ ((0:Int) < ((0:Nat):Int)):=by decide
 (try simp only [ln_59_3,o_lss,z0,decide_false,condF])
 refine ⟨fun m y w'=>y=.int .i64 0∧w'=w1,⟨0,rfl,rfl⟩,?_⟩
 rintro m _ w2 ⟨rfl,rfl⟩ _
 (try simp only [o_lss,z0,decide_false,condF])
 exact ⟨by first | rfl | trivial,by first | rfl | trivial⟩
theorem nilApartNodes:CallV π Z 57 #[.slice none 0 0] w fun r w'=>r=.bool true∧w'=w:=by
 refine f57.calls ?_
 unfold f57.sh
 have z0:¬ ((0:Int) < ((0:Nat):Int)):=by decide
 refine ⟨fun m y w'=>y=.int .i64 0∧w'=w,⟨0,rfl,rfl⟩,?_⟩
 rintro m _ w1 ⟨rfl,rfl⟩ _
 (try simp only [ln_59_3,o_lss,z0,decide_false,condF])
 refine (nilGrownNodes Z 1).mono fun r w3 ⟨hr,hw⟩=>?_
 subst hr; subst hw
 refine (nilGrownNodes Z 24).mono fun r w3 ⟨hr,hw⟩=>?_
 subst hr; subst hw
 (try simp only [o_pickT,guardW_true])
 exact ⟨by first | rfl | trivial,by first | rfl | trivial⟩
theorem nilGrownSessions (c:Nat):CallV π Z 152 #[.slice none 0 0,.int .i64 c] w fun r w'=>r=.bool true∧w'=w:=by
 refine f152.calls ?_
 unfold f152.sh
 refine ⟨fun m x y w'=>x=.slice none 0 0∧y=.int .i64 0∧w'=w,⟨0,rfl,rfl,rfl⟩,?_⟩
 rintro m _ _ w1 ⟨rfl,rfl,rfl⟩ _
 have z0:¬ ((0:Int) < ((0:Nat):Int)):=by decide
 (try simp only [ln_60_3,o_lss,z0,decide_false,condF])
 refine ⟨fun m y w'=>y=.int .i64 0∧w'=w1,⟨0,rfl,rfl⟩,?_⟩
 rintro m _ w2 ⟨rfl,rfl⟩ _
 (try simp only [o_lss,z0,decide_false,condF])
 exact ⟨by first | rfl | trivial,by first | rfl | trivial⟩
theorem nilApartSessions:CallV π Z 58 #[.slice none 0 0] w fun r w'=>r=.bool true∧w'=w:=by
 refine f58.calls ?_
 unfold f58.sh
 have z0:¬ ((0:Int) < ((0:Nat):Int)):=by decide
 refine ⟨fun m y w'=>y=.int .i64 0∧w'=w,⟨0,rfl,rfl⟩,?_⟩
 rintro m _ w1 ⟨rfl,rfl⟩ _
 (try simp only [ln_60_3,o_lss,z0,decide_false,condF])
 refine (nilGrownSessions Z 1).mono fun r w3 ⟨hr,hw⟩=>?_
 subst hr; subst hw
 refine (nilGrownSessions Z 24).mono fun r w3 ⟨hr,hw⟩=>?_
 subst hr; subst hw
 (try simp only [o_pickT,guardW_true])
 exact ⟨by first | rfl | trivial,by first | rfl | trivial⟩
theorem nilGrownChanges (c:Nat):CallV π Z 153 #[.slice none 0 0,.int .i64 c] w fun r w'=>r=.bool true∧w'=w:=by
 refine f153.calls ?_
 unfold f153.sh
 refine ⟨fun m x y w'=>x=.slice none 0 0∧y=.int .i64 0∧w'=w,⟨0,rfl,rfl,rfl⟩,?_⟩
 rintro m _ _ w1 ⟨rfl,rfl,rfl⟩ _
 have z0:¬ ((0:Int) < ((0:Nat):Int)):=by decide
 (try simp only [ln_61_3,o_lss,z0,decide_false,condF])
 refine ⟨fun m y w'=>y=.int .i64 0∧w'=w1,⟨0,rfl,rfl⟩,?_⟩
 rintro m _ w2 ⟨rfl,rfl⟩ _
 (try simp only [o_lss,z0,decide_false,condF])
 exact ⟨by first | rfl | trivial,by first | rfl | trivial⟩
theorem nilApartChanges:CallV π Z 59 #[.slice none 0 0] w fun r w'=>r=.bool true∧w'=w:=by
 refine f59.calls ?_
 unfold f59.sh
 have z0:¬ ((0:Int) < ((0:Nat):Int)):=by decide
 refine ⟨fun m y w'=>y=.int .i64 0∧w'=w,⟨0,rfl,rfl⟩,?_⟩
 rintro m _ w1 ⟨rfl,rfl⟩ _
 (try simp only [ln_61_3,o_lss,z0,decide_false,condF])
 refine (nilGrownChanges Z 1).mono fun r w3 ⟨hr,hw⟩=>?_
 subst hr; subst hw
 refine (nilGrownChanges Z 24).mono fun r w3 ⟨hr,hw⟩=>?_
 subst hr; subst hw
 (try simp only [o_pickT,guardW_true])
 exact ⟨by first | rfl | trivial,by first | rfl | trivial⟩
theorem nilGrownFiles (c:Nat):CallV π Z 154 #[.slice none 0 0,.int .i64 c] w fun r w'=>r=.bool true∧w'=w:=by
 refine f154.calls ?_
 unfold f154.sh
 refine ⟨fun m x y w'=>x=.slice none 0 0∧y=.int .i64 0∧w'=w,⟨0,rfl,rfl,rfl⟩,?_⟩
 rintro m _ _ w1 ⟨rfl,rfl,rfl⟩ _
 have z0:¬ ((0:Int) < ((0:Nat):Int)):=by decide
 (try simp only [ln_62_3,o_lss,z0,decide_false,condF])
 refine ⟨fun m y w'=>y=.int .i64 0∧w'=w1,⟨0,rfl,rfl⟩,?_⟩
 rintro m _ w2 ⟨rfl,rfl⟩ _
 (try simp only [o_lss,z0,decide_false,condF])
 exact ⟨by first | rfl | trivial,by first | rfl | trivial⟩
theorem nilApartFiles:CallV π Z 60 #[.slice none 0 0] w fun r w'=>r=.bool true∧w'=w:=by
 refine f60.calls ?_
 unfold f60.sh
 have z0:¬ ((0:Int) < ((0:Nat):Int)):=by decide
 refine ⟨fun m y w'=>y=.int .i64 0∧w'=w,⟨0,rfl,rfl⟩,?_⟩
 rintro m _ w1 ⟨rfl,rfl⟩ _
 (try simp only [ln_62_3,o_lss,z0,decide_false,condF])
 refine (nilGrownFiles Z 1).mono fun r w3 ⟨hr,hw⟩=>?_
 subst hr; subst hw
 refine (nilGrownFiles Z 24).mono fun r w3 ⟨hr,hw⟩=>?_
 subst hr; subst hw
 (try simp only [o_pickT,guardW_true])
 exact ⟨by first | rfl | trivial,by first | rfl | trivial⟩
theorem nilGrownPackets (c:Nat):CallV π Z 155 #[.slice none 0 0,.int .i64 c] w fun r w'=>r=.bool true∧w'=w:=by
 refine f155.calls ?_
 unfold f155.sh
 refine ⟨fun m x y w'=>x=.slice none 0 0∧y=.int .i64 0∧w'=w,⟨0,rfl,rfl,rfl⟩,?_⟩
 rintro m _ _ w1 ⟨rfl,rfl,rfl⟩ _
 have z0:¬ ((0:Int) < ((0:Nat):Int)):=by decide
 (try simp only [ln_63_3,o_lss,z0,decide_false,condF])
 refine ⟨fun m y w'=>y=.int .i64 0∧w'=w1,⟨0,rfl,rfl⟩,?_⟩
 rintro m _ w2 ⟨rfl,rfl⟩ _
 (try simp only [o_lss,z0,decide_false,condF])
 exact ⟨by first | rfl | trivial,by first | rfl | trivial⟩
theorem nilApartPackets:CallV π Z 61 #[.slice none 0 0] w fun r w'=>r=.bool true∧w'=w:=by
 refine f61.calls ?_
 unfold f61.sh
 have z0:¬ ((0:Int) < ((0:Nat):Int)):=by decide
 refine ⟨fun m y w'=>y=.int .i64 0∧w'=w,⟨0,rfl,rfl⟩,?_⟩
 rintro m _ w1 ⟨rfl,rfl⟩ _
 (try simp only [ln_63_3,o_lss,z0,decide_false,condF])
 refine (nilGrownPackets Z 1).mono fun r w3 ⟨hr,hw⟩=>?_
 subst hr; subst hw
 refine (nilGrownPackets Z 24).mono fun r w3 ⟨hr,hw⟩=>?_
 subst hr; subst hw
 (try simp only [o_pickT,guardW_true])
 exact ⟨by first | rfl | trivial,by first | rfl | trivial⟩
theorem nilGrownMessages (c:Nat):CallV π Z 156 #[.slice none 0 0,.int .i64 c] w fun r w'=>r=.bool true∧w'=w:=by
 refine f156.calls ?_
 unfold f156.sh
 refine ⟨fun m x y w'=>x=.slice none 0 0∧y=.int .i64 0∧w'=w,⟨0,rfl,rfl,rfl⟩,?_⟩
 rintro m _ _ w1 ⟨rfl,rfl,rfl⟩ _
 have z0:¬ ((0:Int) < ((0:Nat):Int)):=by decide
 (try simp only [ln_64_3,o_lss,z0,decide_false,condF])
 refine ⟨fun m y w'=>y=.int .i64 0∧w'=w1,⟨0,rfl,rfl⟩,?_⟩
 rintro m _ w2 ⟨rfl,rfl⟩ _
 (try simp only [o_lss,z0,decide_false,condF])
 exact ⟨by first | rfl | trivial,by first | rfl | trivial⟩
theorem nilApartMessages:CallV π Z 62 #[.slice none 0 0] w fun r w'=>r=.bool true∧w'=w:=by
 refine f62.calls ?_
 unfold f62.sh
 have z0:¬ ((0:Int) < ((0:Nat):Int)):=by decide
 refine ⟨fun m y w'=>y=.int .i64 0∧w'=w,⟨0,rfl,rfl⟩,?_⟩
 rintro m _ w1 ⟨rfl,rfl⟩ _
 (try simp only [ln_64_3,o_lss,z0,decide_false,condF])
 refine (nilGrownMessages Z 1).mono fun r w3 ⟨hr,hw⟩=>?_
 subst hr; subst hw
 refine (nilGrownMessages Z 24).mono fun r w3 ⟨hr,hw⟩=>?_
 subst hr; subst hw
 (try simp only [o_pickT,guardW_true])
 exact ⟨by first | rfl | trivial,by first | rfl | trivial⟩
theorem nilGrownWatches (c:Nat):CallV π Z 157 #[.slice none 0 0,.int .i64 c] w fun r w'=>r=.bool true∧w'=w:=by
 refine f157.calls ?_
 unfold f157.sh
 refine ⟨fun m x y w'=>x=.slice none 0 0∧y=.int .i64 0∧w'=w,⟨0,rfl,rfl,rfl⟩,?_⟩
 rintro m _ _ w1 ⟨rfl,rfl,rfl⟩ _
 have z0:¬ ((0:Int) < ((0:Nat):Int)):=by decide
 (try simp only [ln_65_3,o_lss,z0,decide_false,condF])
 refine ⟨fun m y w'=>y=.int .i64 0∧w'=w1,⟨0,rfl,rfl⟩,?_⟩
 rintro m _ w2 ⟨rfl,rfl⟩ _
 (try simp only [o_lss,z0,decide_false,condF])
 exact ⟨by first | rfl | trivial,by first | rfl | trivial⟩
theorem nilApartWatches:CallV π Z 63 #[.slice none 0 0] w fun r w'=>r=.bool true∧w'=w:=by
 refine f63.calls ?_
 unfold f63.sh
 have z0:¬ ((0:Int) < ((0:Nat):Int)):=by decide
 refine ⟨fun m y w'=>y=.int .i64 0∧w'=w,⟨0,rfl,rfl⟩,?_⟩
 rintro m _ w1 ⟨rfl,rfl⟩ _
 (try simp only [ln_65_3,o_lss,z0,decide_false,condF])
 refine (nilGrownWatches Z 1).mono fun r w3 ⟨hr,hw⟩=>?_
 subst hr; subst hw
 refine (nilGrownWatches Z 24).mono fun r w3 ⟨hr,hw⟩=>?_
 subst hr; subst hw
 (try simp only [o_pickT,guardW_true])
 exact ⟨by first | rfl | trivial,by first | rfl | trivial⟩
theorem nilGrownFired (c:Nat):CallV π Z 158 #[.slice none 0 0,.int .i64 c] w fun r w'=>r=.bool true∧w'=w:=by
 refine f158.calls ?_
 unfold f158.sh
 refine ⟨fun m x y w'=>x=.slice none 0 0∧y=.int .i64 0∧w'=w,⟨0,rfl,rfl,rfl⟩,?_⟩
 rintro m _ _ w1 ⟨rfl,rfl,rfl⟩ _
 have z0:¬ ((0:Int) < ((0:Nat):Int)):=by decide
 (try simp only [ln_66_3,o_lss,z0,decide_false,condF])
 refine ⟨fun m y w'=>y=.int .i64 0∧w'=w1,⟨0,rfl,rfl⟩,?_⟩
 rintro m _ w2 ⟨rfl,rfl⟩ _
 (try simp only [o_lss,z0,decide_false,condF])
 exact ⟨by first | rfl | trivial,by first | rfl | trivial⟩
theorem nilApartFired:CallV π Z 64 #[.slice none 0 0] w fun r w'=>r=.bool true∧w'=w:=by
 refine f64.calls ?_
 unfold f64.sh
 have z0:¬ ((0:Int) < ((0:Nat):Int)):=by decide
 refine ⟨fun m y w'=>y=.int .i64 0∧w'=w,⟨0,rfl,rfl⟩,?_⟩
 rintro m _ w1 ⟨rfl,rfl⟩ _
 (try simp only [ln_66_3,o_lss,z0,decide_false,condF])
 refine (nilGrownFired Z 1).mono fun r w3 ⟨hr,hw⟩=>?_
 subst hr; subst hw
 refine (nilGrownFired Z 24).mono fun r w3 ⟨hr,hw⟩=>?_
 subst hr; subst hw
 (try simp only [o_pickT,guardW_true])
 exact ⟨by first | rfl | trivial,by first | rfl | trivial⟩
theorem nilGrownFacts (c:Nat):CallV π Z 159 #[.slice none 0 0,.int .i64 c] w fun r w'=>r=.bool true∧w'=w:=by
 refine f159.calls ?_
 unfold f159.sh
 refine ⟨fun m x y w'=>x=.slice none 0 0∧y=.int .i64 0∧w'=w,⟨0,rfl,rfl,rfl⟩,?_⟩
 rintro m _ _ w1 ⟨rfl,rfl,rfl⟩ _
 have z0:¬ ((0:Int) < ((0:Nat):Int)):=by decide
 (try simp only [ln_67_3,o_lss,z0,decide_false,condF])
 refine ⟨fun m y w'=>y=.int .i64 0∧w'=w1,⟨0,rfl,rfl⟩,?_⟩
 rintro m _ w2 ⟨rfl,rfl⟩ _
 (try simp only [o_lss,z0,decide_false,condF])
 exact ⟨by first | rfl | trivial,by first | rfl | trivial⟩
theorem nilApartFacts:CallV π Z 65 #[.slice none 0 0] w fun r w'=>r=.bool true∧w'=w:=by
 refine f65.calls ?_
 unfold f65.sh
 have z0:¬ ((0:Int) < ((0:Nat):Int)):=by decide
 refine ⟨fun m y w'=>y=.int .i64 0∧w'=w,⟨0,rfl,rfl⟩,?_⟩
 rintro m _ w1 ⟨rfl,rfl⟩ _
 (try simp only [ln_67_3,o_lss,z0,decide_false,condF])
 refine (nilGrownFacts Z 1).mono fun r w3 ⟨hr,hw⟩=>?_
 subst hr; subst hw
 refine (nilGrownFacts Z 24).mono fun r w3 ⟨hr,hw⟩=>?_
 subst hr; subst hw
 (try simp only [o_pickT,guardW_true])
 exact ⟨by first | rfl | trivial,by first | rfl | trivial⟩
theorem nilGrownSends (c:Nat):CallV π Z 160 #[.slice none 0 0,.int .i64 c] w fun r w'=>r=.bool true∧w'=w:=by
 refine f160.calls ?_
 unfold f160.sh
 refine ⟨fun m x y w'=>x=.slice none 0 0∧y=.int .i64 0∧w'=w,⟨0,rfl,rfl,rfl⟩,?_⟩
 rintro m _ _ w1 ⟨rfl,rfl,rfl⟩ _
 have z0:¬ ((0:Int) < ((0:Nat):Int)):=by decide
 (try simp only [ln_68_3,o_lss,z0,decide_false,condF])
 refine ⟨fun m y w'=>y=.int .i64 0∧w'=w1,⟨0,rfl,rfl⟩,?_⟩
 rintro m _ w2 ⟨rfl,rfl⟩ _
 (try simp only [o_lss,z0,decide_false,condF])
 exact ⟨by first | rfl | trivial,by first | rfl | trivial⟩
theorem nilApartSends:CallV π Z 66 #[.slice none 0 0] w fun r w'=>r=.bool true∧w'=w:=by
 refine f66.calls ?_
 unfold f66.sh
 have z0:¬ ((0:Int) < ((0:Nat):Int)):=by decide
 refine ⟨fun m y w'=>y=.int .i64 0∧w'=w,⟨0,rfl,rfl⟩,?_⟩
 rintro m _ w1 ⟨rfl,rfl⟩ _
 (try simp only [ln_68_3,o_lss,z0,decide_false,condF])
 refine (nilGrownSends Z 1).mono fun r w3 ⟨hr,hw⟩=>?_
 subst hr; subst hw
 refine (nilGrownSends Z 24).mono fun r w3 ⟨hr,hw⟩=>?_
 subst hr; subst hw
 (try simp only [o_pickT,guardW_true])
 exact ⟨by first | rfl | trivial,by first | rfl | trivial⟩
theorem nilGrownEvents (c:Nat):CallV π Z 161 #[.slice none 0 0,.int .i64 c] w fun r w'=>r=.bool true∧w'=w:=by
 refine f161.calls ?_
 unfold f161.sh
 refine ⟨fun m x y w'=>x=.slice none 0 0∧y=.int .i64 0∧w'=w,⟨0,rfl,rfl,rfl⟩,?_⟩
 rintro m _ _ w1 ⟨rfl,rfl,rfl⟩ _
 have z0:¬ ((0:Int) < ((0:Nat):Int)):=by decide
 (try simp only [ln_69_3,o_lss,z0,decide_false,condF])
 refine ⟨fun m y w'=>y=.int .i64 0∧w'=w1,⟨0,rfl,rfl⟩,?_⟩
 rintro m _ w2 ⟨rfl,rfl⟩ _
 (try simp only [o_lss,z0,decide_false,condF])
 exact ⟨by first | rfl | trivial,by first | rfl | trivial⟩
theorem nilApartEvents:CallV π Z 67 #[.slice none 0 0] w fun r w'=>r=.bool true∧w'=w:=by
 refine f67.calls ?_
 unfold f67.sh
 have z0:¬ ((0:Int) < ((0:Nat):Int)):=by decide
 refine ⟨fun m y w'=>y=.int .i64 0∧w'=w,⟨0,rfl,rfl⟩,?_⟩
 rintro m _ w1 ⟨rfl,rfl⟩ _
 (try simp only [ln_69_3,o_lss,z0,decide_false,condF])
 refine (nilGrownEvents Z 1).mono fun r w3 ⟨hr,hw⟩=>?_
 subst hr; subst hw
 refine (nilGrownEvents Z 24).mono fun r w3 ⟨hr,hw⟩=>?_
 subst hr; subst hw
 (try simp only [o_pickT,guardW_true])
 exact ⟨by first | rfl | trivial,by first | rfl | trivial⟩
theorem nilGrownFactss (c:Nat):CallV π Z 162 #[.slice none 0 0,.int .i64 c] w fun r w'=>r=.bool true∧w'=w:=by
 refine f162.calls ?_
 unfold f162.sh
 refine ⟨fun m x y w'=>x=.slice none 0 0∧y=.int .i64 0∧w'=w,⟨0,rfl,rfl,rfl⟩,?_⟩
 rintro m _ _ w1 ⟨rfl,rfl,rfl⟩ _
 have z0:¬ ((0:Int) < ((0:Nat):Int)):=by decide
 (try simp only [ln_70_3,o_lss,z0,decide_false,condF])
 refine ⟨fun m y w'=>y=.int .i64 0∧w'=w1,⟨0,rfl,rfl⟩,?_⟩
 rintro m _ w2 ⟨rfl,rfl⟩ _
 (try simp only [o_lss,z0,decide_false,condF])
 exact ⟨by first | rfl | trivial,by first | rfl | trivial⟩
theorem nilApartFactss:CallV π Z 68 #[.slice none 0 0] w fun r w'=>r=.bool true∧w'=w:=by
 refine f68.calls ?_
 unfold f68.sh
 have z0:¬ ((0:Int) < ((0:Nat):Int)):=by decide
 refine ⟨fun m y w'=>y=.int .i64 0∧w'=w,⟨0,rfl,rfl⟩,?_⟩
 rintro m _ w1 ⟨rfl,rfl⟩ _
 (try simp only [ln_70_3,o_lss,z0,decide_false,condF])
 refine (nilGrownFactss Z 1).mono fun r w3 ⟨hr,hw⟩=>?_
 subst hr; subst hw
 refine (nilGrownFactss Z 24).mono fun r w3 ⟨hr,hw⟩=>?_
 subst hr; subst hw
 (try simp only [o_pickT,guardW_true])
 exact ⟨by first | rfl | trivial,by first | rfl | trivial⟩
end
def bagP (g:Nat) (b0 b1 b2 b3:List Value):HProp:=fun h=>∃(v0 v1 v2 v3:Value),(b0.length≤600∧b1.length≤600∧b2.length≤600∧b3.length≤600)∧sep (blk g 72 [v0,.slice none 0 0,.slice none 0 0,.slice none 0 0,v1,v2,v3,.slice none 0 0,.slice none 0 0,.slice none 0 0,.slice none 0 0,.slice none 0 0,.slice none 0 0,.slice none 0 0,.slice none 0 0,.slice none 0 0,.slice none 0 0,.slice none 0 0,.slice none 0 0,.slice none 0 0,.slice none 0 0]) (satH [own 30 1 v0 b0.length b0,own 32 1 v1 b1.length b1,own 31 1 v2 b2.length b2,own 33 1 v3 b3.length b3]) h
section
variable (Z:PZ) {o w:World} {R As:List HProp} {g:Nat} {b0 b1 b2 b3:List Value}
theorem bagP.open (h:St o w (bagP g b0 b1 b2 b3::R)):∃(v0 v1 v2 v3:Value),(b0.length≤600∧b1.length≤600∧b2.length≤600∧b3.length≤600)∧St o w (blk g 72 [v0,.slice none 0 0,.slice none 0 0,.slice none 0 0,v1,v2,v3,.slice none 0 0,.slice none 0 0,.slice none 0 0,.slice none 0 0,.slice none 0 0,.slice none 0 0,.slice none 0 0,.slice none 0 0,.slice none 0 0,.slice none 0 0,.slice none 0 0,.slice none 0 0,.slice none 0 0,.slice none 0 0]::own 30 1 v0 b0.length b0::own 32 1 v1 b1.length b1::own 31 1 v2 b2.length b2::own 33 1 v3 b3.length b3::R):=by
 obtain ⟨v0,h⟩:=h.ex
 obtain ⟨v1,h⟩:=h.ex
 obtain ⟨v2,h⟩:=h.ex
 obtain ⟨v3,h⟩:=h.ex
 obtain ⟨hl,h⟩:=h.pure
 have h:=h.sep.swap.all
 refine ⟨v0,v1,v2,v3,hl,h.pick 4⟩
theorem bagP.shut {v0 v1 v2 v3:Value} (hl:b0.length≤600∧b1.length≤600∧b2.length≤600∧b3.length≤600) (h:St o w (blk g 72 [v0,.slice none 0 0,.slice none 0 0,.slice none 0 0,v1,v2,v3,.slice none 0 0,.slice none 0 0,.slice none 0 0,.slice none 0 0,.slice none 0 0,.slice none 0 0,.slice none 0 0,.slice none 0 0,.slice none 0 0,.slice none 0 0,.slice none 0 0,.slice none 0 0,.slice none 0 0,.slice none 0 0]::own 30 1 v0 b0.length b0::own 32 1 v1 b1.length b1::own 31 1 v2 b2.length b2::own 33 1 v3 b3.length b3::R)):St o w (bagP g b0 b1 b2 b3::R):=by
 have h:St o w (satH [own 30 1 v0 b0.length b0,own 32 1 v1 b1.length b1,own 31 1 v2 b2.length b2,own 33 1 v3 b3.length b3]::blk g 72 [v0,.slice none 0 0,.slice none 0 0,.slice none 0 0,v1,v2,v3,.slice none 0 0,.slice none 0 0,.slice none 0 0,.slice none 0 0,.slice none 0 0,.slice none 0 0,.slice none 0 0,.slice none 0 0,.slice none 0 0,.slice none 0 0,.slice none 0 0,.slice none 0 0,.slice none 0 0,.slice none 0 0]::R):=St.all_intro (h.put 4)
 have h:=h.swap.sep_intro.pure_intro hl
 exact h.mono fun _ hx=>⟨v0,v1,v2,v3,hx⟩
theorem bag_new (h:St o w (blk g 72 [.slice none 0 0,.slice none 0 0,.slice none 0 0,.slice none 0 0,.slice none 0 0,.slice none 0 0,.slice none 0 0,.slice none 0 0,.slice none 0 0,.slice none 0 0,.slice none 0 0,.slice none 0 0,.slice none 0 0,.slice none 0 0,.slice none 0 0,.slice none 0 0,.slice none 0 0,.slice none 0 0,.slice none 0 0,.slice none 0 0,.slice none 0 0]::R)):St o w (bagP g [] [] [] []::R):=by
 refine bagP.shut (v0:=.slice none 0 0) (v1:=.slice none 0 0) (v2:=.slice none 0 0) (v3:=.slice none 0 0) (by simp) ?_
 have h:=h
 have h:=h.own_nil 33 1
 have h:=h.own_nil 31 1
 have h:=h.own_nil 32 1
 have h:=h.own_nil 30 1
 exact h.pick 4
theorem bagPushBytes {l:Value} (hl1:l.oneCell'=true) {Q:World→Prop} (h:St o w (bagP g b0 b1 b2 b3::R)) (hq:∀b' w',b'=(if b0.length < 600 then b0++[l] else b0)→St o w' (bagP g b' b1 b2 b3::R)→Q w') :
  runX π Z (nilChk (.pointer (some ⟨g,0,none⟩))) w fun t5 w=>rN π Z (Instr.fieldAt 72 t5 0) w fun t6 w=>rN π Z (Instr.loadAt 50 t6) w fun t7 w=>rN π Z (Builtin.len_ #[50] 3 #[t7]) w fun t8 w=>rN π Z (binOp BinOp.lss 3 t8 (Value.int IntKind.i64 600)) w fun t9 w=>
   cV t9 (runX π Z (nilChk (.pointer (some ⟨g,0,none⟩))) w fun t12 w=>rN π Z (Instr.fieldAt 72 t12 0) w fun t13 w=>rN π Z (Instr.loadAt 50 t13) w fun t14 w=>rN π Z (Instr.buildSlice 50 1 #[(0,l)]) w fun t16 w=>rN π Z (Builtin.append_ #[50,50] 50 #[t14,t16]) w fun t17 w=>runX π Z (nilChk (.pointer (some ⟨g,0,none⟩))) w fun t18 w=>rN π Z (Instr.fieldAt 72 t18 0) w fun t19 w=>rO π Z (Instr.storeAt 50 t19 t17) w Q) (Q w):=by
 obtain ⟨v0,v1,v2,v3,⟨h0,h1,h2,h3⟩,hS⟩:=bagP.open h
 (try simp only [o_chk,fa_72_0,Nat.add_zero])
 refine r_load one50 (hS.at m0 0 rfl) ?_
 refine r1 ((hS.own_rd m1).len sl50 _ rfl _ _) ?_
 by_cases hlt:(b0.length:Int) < 600
 ·(try simp only [o_lss,hlt,decide_true,condT])
  refine r_load one50 (hS.at m0 0 rfl) ?_
  refine r_push el50 (hS.pick 1) l hl1 (by omega) (by simp only [maxLen]; omega) fun v' w1 hS=>?_
  have hv':v'.oneCell'=true:=by obtain ⟨_,_,e⟩:=hS.own_form; rw [e]; rfl
  skip
  refine r_store (hS.pick 1) one50 (show 0 < 21 by omega) hv' fun w2 hS=>?_
  have hlen:(b0++[l]).length=b0.length+1:=by simp
  rw [← hlen] at hS
  exact hq _ _ (by rw [if_pos (by omega)]) (bagP.shut (v0:=v') ⟨(by omega),h1,h2,h3⟩ (hS.swap.put 1))
 ·(try simp only [o_lss,hlt,decide_false,condF])
  exact hq _ _ (by rw [if_neg (by omega)]) (bagP.shut ⟨h0,h1,h2,h3⟩ hS)
theorem bagPushIds {l:Value} (hl1:l.oneCell'=true) {Q:World→Prop} (h:St o w (bagP g b0 b1 b2 b3::R)) (hq:∀b' w',b'=(if b1.length < 600 then b1++[l] else b1)→St o w' (bagP g b0 b' b2 b3::R)→Q w') :
  runX π Z (nilChk (.pointer (some ⟨g,0,none⟩))) w fun t5 w=>rN π Z (Instr.fieldAt 72 t5 4) w fun t6 w=>rN π Z (Instr.loadAt 54 t6) w fun t7 w=>rN π Z (Builtin.len_ #[54] 3 #[t7]) w fun t8 w=>rN π Z (binOp BinOp.lss 3 t8 (Value.int IntKind.i64 600)) w fun t9 w=>
   cV t9 (runX π Z (nilChk (.pointer (some ⟨g,0,none⟩))) w fun t12 w=>rN π Z (Instr.fieldAt 72 t12 4) w fun t13 w=>rN π Z (Instr.loadAt 54 t13) w fun t14 w=>rN π Z (Instr.buildSlice 54 1 #[(0,l)]) w fun t16 w=>rN π Z (Builtin.append_ #[54,54] 54 #[t14,t16]) w fun t17 w=>runX π Z (nilChk (.pointer (some ⟨g,0,none⟩))) w fun t18 w=>rN π Z (Instr.fieldAt 72 t18 4) w fun t19 w=>rO π Z (Instr.storeAt 54 t19 t17) w Q) (Q w):=by
 obtain ⟨v0,v1,v2,v3,⟨h0,h1,h2,h3⟩,hS⟩:=bagP.open h
 (try simp only [o_chk,fa_72_4,Nat.zero_add])
 refine r_load one54 (hS.at m0 4 rfl) ?_
 refine r1 ((hS.own_rd m2).len sl54 _ rfl _ _) ?_
 by_cases hlt:(b1.length:Int) < 600
 ·(try simp only [o_lss,hlt,decide_true,condT])
  refine r_load one54 (hS.at m0 4 rfl) ?_
  refine r_push el54 (hS.pick 2) l hl1 (by omega) (by simp only [maxLen]; omega) fun v' w1 hS=>?_
  have hv':v'.oneCell'=true:=by obtain ⟨_,_,e⟩:=hS.own_form; rw [e]; rfl
  skip
  refine r_store (hS.pick 1) one54 (show 4 < 21 by omega) hv' fun w2 hS=>?_
  have hlen:(b1++[l]).length=b1.length+1:=by simp
  rw [← hlen] at hS
  exact hq _ _ (by rw [if_pos (by omega)]) (bagP.shut (v1:=v') ⟨h0,(by omega),h2,h3⟩ (hS.swap.put 2))
 ·(try simp only [o_lss,hlt,decide_false,condF])
  exact hq _ _ (by rw [if_neg (by omega)]) (bagP.shut ⟨h0,h1,h2,h3⟩ hS)
theorem bagPushAcl {l:Value} (hl1:l.oneCell'=true) {Q:World→Prop} (h:St o w (bagP g b0 b1 b2 b3::R)) (hq:∀b' w',b'=(if b2.length < 600 then b2++[l] else b2)→St o w' (bagP g b0 b1 b' b3::R)→Q w') :
  runX π Z (nilChk (.pointer (some ⟨g,0,none⟩))) w fun t5 w=>rN π Z (Instr.fieldAt 72 t5 5) w fun t6 w=>rN π Z (Instr.loadAt 55 t6) w fun t7 w=>rN π Z (Builtin.len_ #[55] 3 #[t7]) w fun t8 w=>rN π Z (binOp BinOp.lss 3 t8 (Value.int IntKind.i64 600)) w fun t9 w=>
   cV t9 (runX π Z (nilChk (.pointer (some ⟨g,0,none⟩))) w fun t12 w=>rN π Z (Instr.fieldAt 72 t12 5) w fun t13 w=>rN π Z (Instr.loadAt 55 t13) w fun t14 w=>rN π Z (Instr.buildSlice 55 1 #[(0,l)]) w fun t16 w=>rN π Z (Builtin.append_ #[55,55] 55 #[t14,t16]) w fun t17 w=>runX π Z (nilChk (.pointer (some ⟨g,0,none⟩))) w fun t18 w=>rN π Z (Instr.fieldAt 72 t18 5) w fun t19 w=>rO π Z (Instr.storeAt 55 t19 t17) w Q) (Q w):=by
 obtain ⟨v0,v1,v2,v3,⟨h0,h1,h2,h3⟩,hS⟩:=bagP.open h
 (try simp only [o_chk,fa_72_5,Nat.zero_add])
 refine r_load one55 (hS.at m0 5 rfl) ?_
 refine r1 ((hS.own_rd m3).len sl55 _ rfl _ _) ?_
 by_cases hlt:(b2.length:Int) < 600
 ·(try simp only [o_lss,hlt,decide_true,condT])
  refine r_load one55 (hS.at m0 5 rfl) ?_
  refine r_push el55 (hS.pick 3) l hl1 (by omega) (by simp only [maxLen]; omega) fun v' w1 hS=>?_
  have hv':v'.oneCell'=true:=by obtain ⟨_,_,e⟩:=hS.own_form; rw [e]; rfl
  skip
  refine r_store (hS.pick 1) one55 (show 5 < 21 by omega) hv' fun w2 hS=>?_
  have hlen:(b2++[l]).length=b2.length+1:=by simp
  rw [← hlen] at hS
  exact hq _ _ (by rw [if_pos (by omega)]) (bagP.shut (v2:=v') ⟨h0,h1,(by omega),h3⟩ (hS.swap.put 3))
 ·(try simp only [o_lss,hlt,decide_false,condF])
  exact hq _ _ (by rw [if_neg (by omega)]) (bagP.shut ⟨h0,h1,h2,h3⟩ hS)
theorem bagPushRequests {l:Value} (hl1:l.oneCell'=true) {Q:World→Prop} (h:St o w (bagP g b0 b1 b2 b3::R)) (hq:∀b' w',b'=(if b3.length < 600 then b3++[l] else b3)→St o w' (bagP g b0 b1 b2 b'::R)→Q w') :
  runX π Z (nilChk (.pointer (some ⟨g,0,none⟩))) w fun t5 w=>rN π Z (Instr.fieldAt 72 t5 6) w fun t6 w=>rN π Z (Instr.loadAt 56 t6) w fun t7 w=>rN π Z (Builtin.len_ #[56] 3 #[t7]) w fun t8 w=>rN π Z (binOp BinOp.lss 3 t8 (Value.int IntKind.i64 600)) w fun t9 w=>
   cV t9 (runX π Z (nilChk (.pointer (some ⟨g,0,none⟩))) w fun t12 w=>rN π Z (Instr.fieldAt 72 t12 6) w fun t13 w=>rN π Z (Instr.loadAt 56 t13) w fun t14 w=>rN π Z (Instr.buildSlice 56 1 #[(0,l)]) w fun t16 w=>rN π Z (Builtin.append_ #[56,56] 56 #[t14,t16]) w fun t17 w=>runX π Z (nilChk (.pointer (some ⟨g,0,none⟩))) w fun t18 w=>rN π Z (Instr.fieldAt 72 t18 6) w fun t19 w=>rO π Z (Instr.storeAt 56 t19 t17) w Q) (Q w):=by
 obtain ⟨v0,v1,v2,v3,⟨h0,h1,h2,h3⟩,hS⟩:=bagP.open h
 (try simp only [o_chk,fa_72_6,Nat.zero_add])
 refine r_load one56 (hS.at m0 6 rfl) ?_
 refine r1 ((hS.own_rd m4).len sl56 _ rfl _ _) ?_
 by_cases hlt:(b3.length:Int) < 600
 ·(try simp only [o_lss,hlt,decide_true,condT])
  refine r_load one56 (hS.at m0 6 rfl) ?_
  refine r_push el56 (hS.pick 4) l hl1 (by omega) (by simp only [maxLen]; omega) fun v' w1 hS=>?_
  have hv':v'.oneCell'=true:=by obtain ⟨_,_,e⟩:=hS.own_form; rw [e]; rfl
  skip
  refine r_store (hS.pick 1) one56 (show 6 < 21 by omega) hv' fun w2 hS=>?_
  have hlen:(b3++[l]).length=b3.length+1:=by simp
  rw [← hlen] at hS
  exact hq _ _ (by rw [if_pos (by omega)]) (bagP.shut (v3:=v') ⟨h0,h1,h2,(by omega)⟩ (hS.swap.put 4))
 ·(try simp only [o_lss,hlt,decide_false,condF])
  exact hq _ _ (by rw [if_neg (by omega)]) (bagP.shut ⟨h0,h1,h2,h3⟩ hS)
theorem bagAddBytes {l:Value} (hl1:l.oneCell'=true) (h:St o w (bagP g b0 b1 b2 b3::R)):CallV π Z 18 #[.pointer (some ⟨g,0,none⟩),l] w fun r w'=>∃b',b'=(if b0.length < 600 then b0++[l] else b0)∧St o w' (bagP g b' b1 b2 b3::R):=by
 refine f18.calls ?_
 unfold f18.sh
 exact bagPushBytes Z hl1 h fun b' w' hb hS=>⟨b',hb,hS⟩
theorem bagAddIds {l:Value} (hl1:l.oneCell'=true) (h:St o w (bagP g b0 b1 b2 b3::R)):CallV π Z 139 #[.pointer (some ⟨g,0,none⟩),l] w fun r w'=>∃b',b'=(if b1.length < 600 then b1++[l] else b1)∧St o w' (bagP g b0 b' b2 b3::R):=by
 refine f139.calls ?_
 unfold f139.sh
 exact bagPushIds Z hl1 h fun b' w' hb hS=>⟨b',hb,hS⟩
theorem bagAddAcl {l:Value} (hl1:l.oneCell'=true) (h:St o w (bagP g b0 b1 b2 b3::R)):CallV π Z 138 #[.pointer (some ⟨g,0,none⟩),l] w fun r w'=>∃b',b'=(if b2.length < 600 then b2++[l] else b2)∧St o w' (bagP g b0 b1 b' b3::R):=by
 refine f138.calls ?_
 unfold f138.sh
 exact bagPushAcl Z hl1 h fun b' w' hb hS=>⟨b',hb,hS⟩
set_option maxRecDepth 100000 in
theorem bagApart {es0 es1 es2 es3:List (Value × Nat)} (hT:Tab o) (ho:old o ∈ R) (h:St o w (bagP g (es0.map Prod.fst) (es1.map Prod.fst) (es2.map Prod.fst) (es3.map Prod.fst)::rowsX 5 1 1 es0::rowsX 175 2 32 es1::rowsX 178 3 40 es2::rowsX 35 11 144 es3::R)) :
  CallV π Z 20 #[.pointer (some ⟨g,0,none⟩)] w fun r w'=>r=.bool true∧St o w' (bagP g (es0.map Prod.fst) (es1.map Prod.fst) (es2.map Prod.fst) (es3.map Prod.fst)::rowsX 5 1 1 es0::rowsX 175 2 32 es1::rowsX 178 3 40 es2::rowsX 35 11 144 es3::R):=by
 obtain ⟨v0,v1,v2,v3,⟨h0,h1,h2,h3⟩,hS⟩:=bagP.open h
 simp only [List.length_map] at hS h0 h1 h2 h3
 refine f20.calls ?_
 unfold f20.sh
 (try simp only [o_chk,fa_72_20,Nat.zero_add,fa_72_19,fa_72_18,fa_72_17,fa_72_16,fa_72_15,fa_72_14,fa_72_13,fa_72_12,fa_72_11,fa_72_10,fa_72_9,fa_72_8,fa_72_7,fa_72_6,fa_72_5,fa_72_4,fa_72_3,fa_72_2,fa_72_1,fa_72_0,Nat.add_zero])
 refine r_load one50 (hS.at m0 0 rfl) ?_
 refine (apartBytes Z h0 hT (by simp [ho]) (fun w hw=>hw.own_rd m1) (hS.pick 5)).mono fun r w1 ⟨hr,hS⟩=>?_
 subst hr
 have hS:=hS.put 5
 (try simp only [o_pickT,guardW_true])
 refine r_load one51 (hS.at m0 1 rfl) ?_
 refine (nilApartInts Z).mono fun r w1 ⟨hr,hw⟩=>?_
 subst hr; subst hw
 (try simp only [o_pickT,guardW_true])
 refine r_load one52 (hS.at m0 2 rfl) ?_
 refine (nilApartTexts Z).mono fun r w1 ⟨hr,hw⟩=>?_
 subst hr; subst hw
 (try simp only [o_pickT,guardW_true])
 refine r_load one53 (hS.at m0 3 rfl) ?_
 refine (nilApartPieces Z).mono fun r w1 ⟨hr,hw⟩=>?_
 subst hr; subst hw
 (try simp only [o_pickT,guardW_true])
 refine r_load one54 (hS.at m0 4 rfl) ?_
 refine (apartIds Z h1 hT (by simp [ho]) (fun w hw=>hw.own_rd m2) (hS.pick 6)).mono fun r w1 ⟨hr,hS⟩=>?_
 subst hr
 have hS:=hS.put 6
 (try simp only [o_pickT,guardW_true])
 refine r_load one55 (hS.at m0 5 rfl) ?_
 refine (apartAcl Z h2 hT (by simp [ho]) (fun w hw=>hw.own_rd m3) (hS.pick 7)).mono fun r w1 ⟨hr,hS⟩=>?_
 subst hr
 have hS:=hS.put 7
 (try simp only [o_pickT,guardW_true])
 refine r_load one56 (hS.at m0 6 rfl) ?_
 refine (apartRequests Z h3 hT (by simp [ho]) (fun w hw=>hw.own_rd m4) (hS.pick 8)).mono fun r w1 ⟨hr,hS⟩=>?_
 subst hr
 have hS:=hS.put 8
 (try simp only [o_pickT,guardW_true])
 refine r_load one57 (hS.at m0 7 rfl) ?_
 refine (nilApartTxns Z).mono fun r w1 ⟨hr,hw⟩=>?_
 subst hr; subst hw
 (try simp only [o_pickT,guardW_true])
 refine r_load one58 (hS.at m0 8 rfl) ?_
 refine (nilApartResults Z).mono fun r w1 ⟨hr,hw⟩=>?_
 subst hr; subst hw
 (try simp only [o_pickT,guardW_true])
 refine r_load one59 (hS.at m0 9 rfl) ?_
 refine (nilApartNodes Z).mono fun r w1 ⟨hr,hw⟩=>?_
 subst hr; subst hw
 (try simp only [o_pickT,guardW_true])
 refine r_load one60 (hS.at m0 10 rfl) ?_
 refine (nilApartSessions Z).mono fun r w1 ⟨hr,hw⟩=>?_
 subst hr; subst hw
 (try simp only [o_pickT,guardW_true])
 refine r_load one61 (hS.at m0 11 rfl) ?_
 refine (nilApartChanges Z).mono fun r w1 ⟨hr,hw⟩=>?_
 subst hr; subst hw
 (try simp only [o_pickT,guardW_true])
 refine r_load one62 (hS.at m0 12 rfl) ?_
 refine (nilApartFiles Z).mono fun r w1 ⟨hr,hw⟩=>?_
 subst hr; subst hw
 (try simp only [o_pickT,guardW_true])
 refine r_load one63 (hS.at m0 13 rfl) ?_
 refine (nilApartPackets Z).mono fun r w1 ⟨hr,hw⟩=>?_
 subst hr; subst hw
 (try simp only [o_pickT,guardW_true])
 refine r_load one64 (hS.at m0 14 rfl) ?_
 refine (nilApartMessages Z).mono fun r w1 ⟨hr,hw⟩=>?_
 subst hr; subst hw
 (try simp only [o_pickT,guardW_true])
 refine r_load one65 (hS.at m0 15 rfl) ?_
 refine (nilApartWatches Z).mono fun r w1 ⟨hr,hw⟩=>?_
 subst hr; subst hw
 (try simp only [o_pickT,guardW_true])
 refine r_load one66 (hS.at m0 16 rfl) ?_
 refine (nilApartFired Z).mono fun r w1 ⟨hr,hw⟩=>?_
 subst hr; subst hw
 (try simp only [o_pickT,guardW_true])
 refine r_load one67 (hS.at m0 17 rfl) ?_
 refine (nilApartFacts Z).mono fun r w1 ⟨hr,hw⟩=>?_
 subst hr; subst hw
 (try simp only [o_pickT,guardW_true])
 refine r_load one68 (hS.at m0 18 rfl) ?_
 refine (nilApartSends Z).mono fun r w1 ⟨hr,hw⟩=>?_
 subst hr; subst hw
 (try simp only [o_pickT,guardW_true])
 refine r_load one69 (hS.at m0 19 rfl) ?_
 refine (nilApartEvents Z).mono fun r w1 ⟨hr,hw⟩=>?_
 subst hr; subst hw
 (try simp only [o_pickT,guardW_true])
 refine r_load one70 (hS.at m0 20 rfl) ?_
 refine (nilApartFactss Z).mono fun r w1 ⟨hr,hw⟩=>?_
 subst hr; subst hw
 (try simp only [])
 refine ⟨by first | rfl | trivial,bagP.shut (v0:=v0) (v1:=v1) (v2:=v2) (v3:=v3) (by simp only [List.length_map]; exact ⟨h0,h1,h2,h3⟩) (by simp only [List.length_map]; exact hS)⟩
end
