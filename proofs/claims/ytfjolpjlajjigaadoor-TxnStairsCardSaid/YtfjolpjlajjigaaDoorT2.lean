/- The order of zxids. -/
import Derived.Test.YtfjolpjlajjigaaDoorT1
set_option linter.unusedVariables false
set_option linter.unusedSimpArgs false
namespace Go.Proofs.YtfjolpjlajjigaaDoor
open Go.Sh
def cmpI (a b : Int) : Int := if a < b then -1 else if b < a then 1 else 0
def cmpZ (e n e' n' : Int) : Int := if cmpI e e' = 0 then cmpI n n' else cmpI e e'
section
variable (Z : List PanicEntry → World → Prop) {o w : World} {R As : List HProp}
theorem isNaN (x : Int) : CallV Tryd.prog Z 99 #[.int .u32 x] w fun r w' => r = .bool false ∧ w' = w := by
  refine f99.calls ?_
  unfold f99.sh
  (try simp only [o_neq, bne_self_eq_false])
  exact ⟨trivial, trivial⟩
theorem cmpCompare (a b : Int) : CallV Tryd.prog Z 56 #[.int .u32 a, .int .u32 b] w fun r w' => r = .int .i64 (cmpI a b) ∧ w' = w := by
  refine f56.calls ?_
  unfold f56.sh
  refine (isNaN Z a).mono fun r w1 ⟨hr, hw⟩ => ?_
  subst hr; subst hw
  refine (isNaN Z b).mono fun r w1 ⟨hr, hw⟩ => ?_
  subst hr; subst hw
  (try simp only [condF, o_gtr, cond_decide, o_lss])
  exact ⟨fun h => ⟨by rw [cmpI, if_pos h], trivial⟩, fun h => ⟨fun h2 => ⟨by rw [cmpI, if_neg h, if_pos h2], trivial⟩, fun h2 => ⟨by rw [cmpI, if_neg h, if_neg h2], trivial⟩⟩⟩
theorem cmpOr {v : Value} (a b : Int) (h : St o w (own 3 1 v 2 [.int .i64 a, .int .i64 b] :: R)) : CallV Tryd.prog Z 55 #[v] w fun r w' => r = .int .i64 (if a = 0 then b else a) ∧ w' = w := by
  have hrd := h.own_rd m0
  obtain ⟨va, vc, rfl⟩ := hrd.form
  refine f55.calls ?_
  unfold f55.sh
  (try simp only [ln_127_3])
  refine ⟨fun m y w' => ∃ i : Nat, y = .int .i64 i ∧ m + i = 2 ∧ (1 ≤ i → a = 0) ∧ (2 ≤ i → b = 0) ∧ w' = w, ⟨2, 0, rfl, rfl, by omega, by omega, rfl⟩, ?_⟩
  rintro m _ _ ⟨i, rfl, hi, ha, hb, rfl⟩ _
  by_cases hlt : (i : Int) < ((2 : Nat) : Int)
  · obtain ⟨p, q, hp, hc, _⟩ := hrd.ix el127 .i64 i (by omega)
    obtain ⟨u, hu, hul⟩ : ∃ u : Int, ([Value.int .i64 a, .int .i64 b])[i]? = some (.int .i64 u) ∧ ((i = 0 ∧ u = a) ∨ (i = 1 ∧ u = b)) := by
      rcases i with _ | _ | i
      · exact ⟨a, rfl, .inl ⟨rfl, rfl⟩⟩
      · exact ⟨b, rfl, .inr ⟨rfl, rfl⟩⟩
      · omega
    have hc0 := hc 0 (.int .i64 u) (by rw [Nat.mul_one, List.getElem?_take_of_lt (by omega), List.getElem?_drop, Nat.add_zero]; exact hu)
    rw [Nat.add_zero] at hc0
    (try simp only [o_add, o_lss, hlt, decide_true, condT])
    refine r1 (hp _) (r_load one3 hc0 ?_)
    by_cases hz : u = 0
    · subst hz
      (try simp only [o_neq, bne_self_eq_false, condF])
      rw [wr_i64 (x := (i : Int) + 1) (by omega) (by omega)]
      exact ⟨m - 1, by omega, i + 1, by first | rfl | trivial, by omega, by omega, by omega, by first | rfl | trivial⟩
    · have hz' : (u != 0) = true := by simpa using hz
      (try simp only [o_neq, hz', condT])
      refine ⟨?_, by first | rfl | trivial⟩
      rcases hul with ⟨rfl, rfl⟩ | ⟨rfl, rfl⟩
      · rw [if_neg hz]
      · rw [if_pos (ha (by omega))]
  · (try simp only [o_add, o_lss, hlt, decide_false, condF])
    refine ⟨?_, by first | rfl | trivial⟩
    rw [if_pos (ha (by omega)), hb (by omega)]
theorem txnCompare {e n e' n' : Int} (h : St o w R) : CallV Tryd.prog Z 22 #[.agg (zx e n).toArray, .agg (zx e' n').toArray] w fun r w' => r = .int .i64 (cmpZ e n e' n') ∧ St o w' R := by
  refine f22.calls ?_
  unfold f22.sh
  refine r_box _ _ h fun g w1 hS => ?_
  refine r_box _ _ hS fun g2 w2 hS => ?_
  have hS : St o w2 (blk g2 26 (zx e' n') :: blk g 26 (zx e n) :: R) := hS
  refine ⟨fun w3 hd => ?_⟩
  have hS := hS.drew hd
  (try simp only [fa_26_1p, Nat.zero_add, fa_26_0p, Nat.add_zero])
  refine rr_load one24 (hS.at m1 0 rfl) ?_
  skip
  refine rr_load one24 (hS.at m0 0 rfl) ?_
  skip
  refine rr_load one24 (hS.at m1 1 rfl) ?_
  skip
  refine rr_load one24 (hS.at m0 1 rfl) ?_
  refine (cmpCompare Z e e').mono fun r w4 ⟨hr, hw⟩ => ?_
  subst hr; subst hw
  refine rs_load one24 (hS.at m0 1 rfl) (rs_load one24 (hS.at m1 1 rfl) ?_)
  refine (cmpCompare Z n n').mono fun r w4 ⟨hr, hw⟩ => ?_
  subst hr; subst hw
  refine r_slice el127 hS 2 _ [.int .i64 (cmpI e e'), .int .i64 (cmpI n n')] rfl (by omega) (by omega) (by intro u hu; simp at hu; rcases hu with rfl | rfl <;> rfl) rfl fun g3 w5 hS => ?_
  refine (cmpOr Z _ _ hS).mono fun r w6 ⟨hr, hw⟩ => ?_
  subst hr; subst hw
  exact ⟨rfl, hS.drop.drop.drop⟩
end
end Go.Proofs.YtfjolpjlajjigaaDoor
