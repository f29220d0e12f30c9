/- The order of zxids, the document's. -/
import Derived.Test.YtfjolpjlajjigaaDoorT2
import Derived.Laws.StructEq
import Derived.ChangeKeysEq
set_option linter.unusedVariables false
set_option linter.unusedSimpArgs false
namespace Go.Proofs.YtfjolpjlajjigaaDoor
open Go.Sh
theorem eqZx (e n e' n' : Int) (w : World) : (eqOp .eql 26 false false (.agg (zx e n).toArray) (.agg (zx e' n').toArray)).run Tryd.prog w = .ok (.bool ((e == e') && (n == n'))) w := by
  have hg : Tryd.prog.eqGuardType Tryd.prog.depth 26 = false := by kernel_rfl
  have hu : Tryd.prog.underlying 26 = some (.struct (Tryd.prog.fieldsOf 26)) := by kernel_rfl
  have hs : Tryd.prog.stoodInHeld 26 = false := by kernel_rfl
  have hk : Tryd.prog.plainKey 24 = true := by kernel_rfl
  have p0 : ∀ (a b : Int) (w : World), (part 24 (zx a b).toArray 0).run Tryd.prog w = .ok (.int .u32 a) w := fun a b w => run_part_plain w hk rfl
  have p1 : ∀ (a b : Int) (w : World), (part 24 (zx a b).toArray 1).run Tryd.prog w = .ok (.int .u32 b) w := fun a b w => run_part_plain w hk rfl
  unfold eqOp
  simp only [Sem.run_bind, run_eqGuard_agg _ _ _ _ _ _ _ hg, Result.andThen_ok, run_eql_struct, run_equalIn_agg _ _ _ _ _ hu hs]
  simp [Program.fieldsOf, Tryd.underlying26, Op.eqFields, p0, p1, run_equalIn_int _ _ _ _ _ _ _ Tryd.underlying24]
  by_cases h1 : e = e' <;> by_cases h2 : n = n' <;> simp [h1, h2]
section
variable (Z : List PanicEntry → World → Prop) {o w : World} {R As : List HProp}
theorem refCompare {e n e' n' : Int} (h : St o w R) : CallV Tryd.prog Z 30 #[.agg (zx e n).toArray, .agg (zx e' n').toArray] w fun r w' => r = .int .i64 (cmpZ e n e' n') ∧ St o w' R := by
  refine f30.calls ?_
  unfold f30.sh
  refine r_box _ _ h fun g w1 hS => ?_
  refine r_box _ _ hS fun g2 w2 hS => ?_
  have hS : St o w2 (blk g2 26 (zx e' n') :: blk g 26 (zx e n) :: R) := hS
  have last : ∀ c : Int, (e = e' ∧ n = n' → c = 0) → (¬ (e = e' ∧ n = n') → c = 1) → run1 Tryd.prog Z (Instr.loadAt 26 (.pointer (some ⟨g, 0, none⟩))) w2 fun x w => run1 Tryd.prog Z (Instr.loadAt 26 (.pointer (some ⟨g2, 0, none⟩))) w fun y w => run1 Tryd.prog Z (eqOp .eql 26 false false x y) w fun b w => CondV b (Value.int .i64 0 = .int .i64 c ∧ St o w R) (Value.int .i64 1 = .int .i64 c ∧ St o w R) := fun c h0 h1 => by
    refine r_loadN ag26 (xs := zx e n) rfl (hS.cells_at m1 0 (whole_at _)) ?_
    refine r_loadN ag26 (xs := zx e' n') rfl (hS.cells_at m0 0 (whole_at _)) ?_
    refine r1 (eqZx e n e' n' w2) ?_
    by_cases hh : e = e' ∧ n = n'
    · obtain ⟨rfl, rfl⟩ := hh
      simp only [beq_self_eq_true, Bool.and_self]
      (try simp only [condT])
      exact ⟨by rw [h0 ⟨rfl, rfl⟩], hS.drop.drop⟩
    · have hb : ((e == e') && (n == n')) = false := by
        rw [Bool.and_eq_false_iff]
        by_cases h : e = e'
        · exact .inr (by simpa using fun h2 => hh ⟨h, h2⟩)
        · exact .inl (by simpa using h)
      rw [hb]
      (try simp only [condF])
      exact ⟨by rw [h1 hh], hS.drop.drop⟩
  (try simp only [fa_26_0, Nat.add_zero, fa_26_1, Nat.zero_add])
  refine r_load one24 (hS.at m1 0 rfl) ?_
  skip
  refine r_load one24 (hS.at m0 0 rfl) ?_
  by_cases h1 : e < e'
  · (try simp only [o_lss, h1, decide_true, o_pickT, condT, guardW_tf, guardW_u])
    exact ⟨by simp [cmpZ, cmpI, h1], hS.drop.drop⟩
  (try simp only [o_lss, h1, decide_false, o_pickF, guardW_ff])
  refine r_load one24 (hS.at m1 0 rfl) ?_
  skip
  refine r_load one24 (hS.at m0 0 rfl) ?_
  by_cases h2 : e = e'
  · subst h2
    (try simp only [o_eql, beq_self_eq_true, o_pickT, guardW_true])
    refine r_load one24 (hS.at m1 1 rfl) ?_
    skip
    refine r_load one24 (hS.at m0 1 rfl) ?_
    by_cases h3 : n < n'
    · (try simp only [o_lss, h3, decide_true, condT])
      exact ⟨by simp [cmpZ, cmpI, h3], hS.drop.drop⟩
    (try simp only [o_lss, h3, decide_false, condF])
    exact last _ (fun ⟨_, h⟩ => by subst h; simp [cmpZ, cmpI]) (fun hh => by
      have : n' < n := by have : ¬ n = n' := fun h => hh ⟨rfl, h⟩; omega
      simp [cmpZ, cmpI, this, h3])
  · have h2' : (e == e') = false := by simpa using h2
    (try simp only [o_eql, h2', o_pickF, condF, guardW_ft])
    exact last _ (fun ⟨h, _⟩ => absurd h h2) (fun _ => by
      have : e' < e := by omega
      simp [cmpZ, cmpI, this, h1])
end
end Go.Proofs.YtfjolpjlajjigaaDoor
