/- The table names; known, fields. -/
import Derived.Test.YtfjolpjlajjigaaDoorT3
import Derived.Lib.AppendIntMem
set_option linter.unusedVariables false
set_option linter.unusedSimpArgs false
namespace Go.Proofs.YtfjolpjlajjigaaDoor
open Go.Sh
def namesTab : List Int := [0, 183, 169, 171, 173, 169, 416, 64, 32, 161, 161, 161, 161]
def Names (o : World) : Prop := Lib.TabIs Tryd.prog o "lagoon/txn.names" .u64 namesTab
/-- What a kind names, as bits. -/
def nm (k : Nat) : Nat := (namesTab.getD k 0).toNat
theorem nm_int (k : Nat) (hk : k ≤ 12) : namesTab.getD k 0 = (nm k : Int) := by
  obtain rfl | rfl | rfl | rfl | rfl | rfl | rfl | rfl | rfl | rfl | rfl | rfl | rfl : k = 0 ∨ k = 1 ∨ k = 2 ∨ k = 3 ∨ k = 4 ∨ k = 5 ∨ k = 6 ∨ k = 7 ∨ k = 8 ∨ k = 9 ∨ k = 10 ∨ k = 11 ∨ k = 12 := by omega
  all_goals rfl
section
variable (Z : List PanicEntry → World → Prop) {o w : World} {R As : List HProp}
theorem nameAt (hN : Names o) (hS : St o w As) (ho : old o ∈ As) (k : Nat) (hk : k ≤ 12) : w.cell? ⟨0, k, none⟩ = some (.int .u64 (nm k)) := by
  have h : Lib.TabIs Tryd.prog w "lagoon/txn.names" .u64 namesTab := Lib.tabBelow_of_tabIs hN w (hS.below ho)
  rw [← nm_int k hk]
  exact h.cell (by kernel_rfl) k (by simp [namesTab]; omega)
theorem run_nameIx (kd : Int) (h : 0 ≤ kd ∧ kd ≤ 12) (w : World) : (Instr.indexAt 130 (.pointer (some ⟨0, 0, none⟩)) (.int .i8 kd)).run Tryd.prog w = .ok (.pointer (some ⟨0, kd.toNat, none⟩)) w := by
  have hl : Tryd.prog.arrayLen 130 = 13 := by kernel_rfl
  have he : Tryd.prog.elem 130 = 85 := by kernel_rfl
  have hs : (sizeOf 85).run Tryd.prog w = .ok 1 w := by kernel_rfl
  rw [run_indexAt_array _ _ _ _ _ (by kernel_rfl), hl, he, hs, if_pos ⟨h.1, by omega⟩]
  simp [Result.andThen, Addr.add]
  intro h0
  omega
theorem known (kd : Int) : CallV Tryd.prog Z 58 #[.int .i8 kd] w fun r w' => r = .bool (decide (1 ≤ kd ∧ kd ≤ 12)) ∧ w' = w := by
  refine f58.calls ?_
  unfold f58.sh
  by_cases h1 : 1 ≤ kd
  · by_cases h2 : kd ≤ 12
    · (try simp only [h1, h2, o_geq, decide_true, o_pickT, guardW_true, o_leq])
      exact ⟨by simp [h1, h2], trivial⟩
    · (try simp only [h1, h2, o_geq, decide_true, o_pickT, guardW_true, o_leq, decide_false])
      exact ⟨by simp [h2], trivial⟩
  · (try simp only [h1, o_geq, decide_false, o_pickF, guardW_ft])
    exact ⟨by simp [h1], trivial⟩
end
end Go.Proofs.YtfjolpjlajjigaaDoor
