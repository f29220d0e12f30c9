/- Bytes spoilt. -/
import Derived.Test.YthobnaagjhooeaaGreatDoorE11
set_option linter.unusedVariables false
set_option linter.unusedSimpArgs false
namespace Go.Proofs.YthobnaagjhooeaaGreatDoor
open Go.Sh
section
variable (Z : List PanicEntry → World → Prop) {o w : World} {R : List HProp}
theorem spoilC {x : Value} {n : Nat} {l : List Value} (hl : n ≤ 140737488355328) (h : St o w (own 5 1 x n l :: R)) : CallV Tryz.prog Z 21 #[x] w fun r w' => ∃ l', St o w' (own 5 1 x n l' :: R) := by
  obtain ⟨a, c, rfl⟩ := (h.own_rd m0).form
  refine f21.calls ?_
  unfold f21.sh
  refine ⟨fun m y w' => ∃ (i : Nat) (l' : List Value), y = .int .i64 i ∧ m + i = n ∧ St o w' (own 5 1 (.slice a n c) n l' :: R), ⟨n, 0, l, rfl, rfl, h⟩, ?_⟩
  clear h
  rintro m _ w1 ⟨i, l', rfl, hi, hS⟩ _
  by_cases hlt : (i : Int) < (n : Int)
  · have hil : i < n := by omega
    (try simp only [o_add, ln_22_3, o_lss, hlt, decide_true, condT])
    refine r1 (run_rem _ _ _ _ _ _ (by decide)) ?_
    (try simp only [o_add, cv_3_5])
    obtain ⟨b, q, hp, hc⟩ := (hS.own_rd m0).adr el22 .i64 i hil
    refine r1 (hp _) ?_
    refine r_store_ix hS el22 one5 .i64 i hil (hp _) rfl fun w5 hS => ?_
    skip
    rw [wr_i64 (x := (i : Int) + 1) (by omega) (by omega)]
    exact ⟨m - 1, by omega, i + 1, _, rfl, by omega, hS⟩
  · (try simp only [o_add, ln_22_3, o_lss, hlt, decide_false, condF])
    exact ⟨l', hS⟩
end
end Go.Proofs.YthobnaagjhooeaaGreatDoor
