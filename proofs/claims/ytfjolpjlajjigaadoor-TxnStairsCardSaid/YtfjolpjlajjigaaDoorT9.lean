/- Transactions; Check. -/
import Derived.Test.YtfjolpjlajjigaaDoorT8
set_option linter.unusedVariables false
set_option linter.unusedSimpArgs false
namespace Go.Proofs.YtfjolpjlajjigaaDoor
open Go.Sh
/-- A transaction as it lies. -/
structure Tx where
  e : Int
  n : Int
  sv : Int
  bo : Int
  nu : Int
  q : Rq
def orC (sv bo nu : Int) : List Value := [.int .i8 sv, .int .u32 bo, .int .i64 nu]
def Tx.cells (t : Tx) : List Value := zx t.e t.n ++ (orC t.sv t.bo t.nu ++ t.q.cells)
theorem Tx.cells_len (t : Tx) : t.cells.length = 16 := rfl
def prop (e n : Int) : Bool := (decide (1 ≤ e) && decide (e ≤ 2147483647)) && decide (1 ≤ n)
def chkT (t : Tx) : Bool := (decide (t.e = 0 ∧ t.n = 0) || prop t.e t.n) && ((decide (0 ≤ t.sv) && (decide (t.sv < 7) && decide (0 ≤ t.nu))) && (decide (t.q.f.kd ≤ 8) && chkQ t.q))
theorem neqZx (e n e' n' : Int) (w : World) : (eqOp .neq 26 false false (.agg (zx e n).toArray) (.agg (zx e' n').toArray)).run Tryd.prog w = .ok (.bool (!((e == e') && (n == n')))) w := by
  have hg : Tryd.prog.eqGuardType Tryd.prog.depth 26 = false := by kernel_rfl
  have hu : Tryd.prog.underlying 26 = some (.struct (Tryd.prog.fieldsOf 26)) := by kernel_rfl
  have hs : Tryd.prog.stoodInHeld 26 = false := by kernel_rfl
  have hk : Tryd.prog.plainKey 24 = true := by kernel_rfl
  have p0 : ∀ (a b : Int) (w : World), (part 24 (zx a b).toArray 0).run Tryd.prog w = .ok (.int .u32 a) w := fun a b w => run_part_plain w hk rfl
  have p1 : ∀ (a b : Int) (w : World), (part 24 (zx a b).toArray 1).run Tryd.prog w = .ok (.int .u32 b) w := fun a b w => run_part_plain w hk rfl
  unfold eqOp
  simp only [Sem.run_bind, run_eqGuard_agg _ _ _ _ _ _ _ hg, Result.andThen_ok, run_neq_struct, run_equalIn_agg _ _ _ _ _ hu hs]
  simp [Program.fieldsOf, Tryd.underlying26, Op.eqFields, p0, p1, run_equalIn_int _ _ _ _ _ _ _ Tryd.underlying24]
  by_cases h1 : e = e' <;> by_cases h2 : n = n' <;> simp [h1, h2]
section
variable (Z : List PanicEntry → World → Prop) {o w : World} {R As : List HProp}
theorem propW (e n : Int) {gz : Nat} {K : Value → World → Prop} (hS : St o w (blk gz 26 (zx e n) :: R)) (hk : K (.bool (prop e n)) w) :
    run1 Tryd.prog Z (Instr.loadAt 24 (.pointer (some ⟨gz, 0, none⟩))) w fun t8 w => run1 Tryd.prog Z (binOp .geq 24 t8 (.int .u32 1)) w fun t9 w =>
      guardW t9 true (fun k => k (.pointer (some ⟨gz, 0, none⟩)) w) (fun t11 w => guardW t9 true (fun k => run1 Tryd.prog Z (Instr.loadAt 24 t11) w k) (fun t12 w =>
      guardW t9 true (fun k => run1 Tryd.prog Z (binOp .leq 24 t12 (.int .u32 2147483647)) w k) (fun t13 w => run1 Tryd.prog Z (pickV t9 t13 (.bool false)) w fun t14 w =>
      guardW t14 true (fun k => k (.pointer (some ⟨gz, 1, none⟩)) w) (fun t16 w => guardW t14 true (fun k => run1 Tryd.prog Z (Instr.loadAt 24 t16) w k) (fun t17 w =>
      guardW t14 true (fun k => run1 Tryd.prog Z (binOp .geq 24 t17 (.int .u32 1)) w k) (fun t18 w => run1 Tryd.prog Z (pickV t14 t18 (.bool false)) w fun t19 w => K t19 w) w) w) w) w) w) w := by
  refine r_load one24 (hS.at m0 0 rfl) ?_
  (try simp only [o_geq])
  by_cases h1 : 1 ≤ e
  · (try simp only [h1, decide_true, o_pickT, guardW_true])
    refine r_load one24 (hS.at m0 0 rfl) ?_
    (try simp only [o_leq])
    by_cases h2 : e ≤ 2147483647
    · (try simp only [h2, decide_true, o_pickT, guardW_true])
      refine r_load one24 (hS.at m0 1 rfl) ?_
      (try simp only [o_geq])
      simpa [prop, h1, h2] using hk
    · (try simp only [h2, decide_false, o_pickF, guardW_ft])
      simpa [prop, h2] using hk
  · (try simp only [h1, decide_false, o_pickF, guardW_ft])
    simpa [prop, h1] using hk
theorem chkTx (t : Tx) (hN : Names o) (ho : old o ∈ R) (hx : Ent o R fun w => RdQ w t.q) (h : St o w R) :
    CallV Tryd.prog Z 17 #[.agg t.cells.toArray] w fun r w' => r = .int .i64 (if chkT t then 0 else 40) ∧ St o w' R := by
  refine f17.calls ?_
  unfold f17.sh
  refine r_box _ _ h fun g w1 hS => ?_
  have hS : St o w1 (blk g 36 t.cells :: R) := hS
  have hx' : Ent o (blk g 36 t.cells :: R) fun w => RdQ w t.q := fun w hw => hx w hw.drop
  (try simp only [fa_36_1, Nat.zero_add, fa_36_2, fa_34_0, Nat.add_zero, fa_29_0, fa_36_0])
  refine r_loadN ag26 (xs := zx t.e t.n) rfl (hS.cells_at m0 0 (by rintro (_ | _ | j) v hv <;> first | exact hv | simp [zx] at hv)) ?_
  refine r_alloc hS ze26 fun gz w2 hS => ?_
  have hS : St o w2 (blk gz 26 (zx 0 0) :: _) := hS
  refine r_storeN hS ag26 (xs := zx t.e t.n) rfl (by simp [zx]) (zx_ones _ _) fun w3 hS => ?_
  rw [setL_all _ _ (by rfl)] at hS
  (try simp only [fa_26_0, Nat.add_zero, fa_26_1, Nat.zero_add])
  refine propW Z t.e t.n hS ?_
  refine r_loadN ag26 (xs := zx t.e t.n) rfl (hS.cells_at m0 0 (whole_at _)) ?_
  refine r_build (cells := (zx 0 0).toArray) (by kernel_rfl) ?_
  refine r1 (neqZx t.e t.n 0 0 _) ?_
  have hq : ((t.e == 0) && (t.n == 0)) = decide (t.e = 0 ∧ t.n = 0) := by
    by_cases h1 : t.e = 0 <;> by_cases h2 : t.n = 0 <;> simp [h1, h2]
  rw [hq]
  have bad : chkT t = false → (Value.int .i64 40 = Value.int .i64 (if chkT t then 0 else 40) ∧ St o w3 R) := fun hc => ⟨by simp [hc], hS.drop.drop⟩
  apply via1 (c := !(decide (t.e = 0 ∧ t.n = 0) || prop t.e t.n))
  · intro post
    cases hz : decide (t.e = 0 ∧ t.n = 0) with
    | true =>
      (try simp only [Bool.not_true, o_pickF, condF, guardW_ft])
      exact post (by rw [hz]; rfl)
    | false =>
      (try simp only [Bool.not_false, o_pickT, guardW_true, o_not, cond_not])
      refine cond_or (fun hc => post (by rw [hz, hc]; rfl)) fun hc => bad ?_
      unfold chkT
      rw [hz, hc]
      rfl
  intro h1
  have h1 : (decide (t.e = 0 ∧ t.n = 0) || prop t.e t.n) = true := by rw [Bool.not_eq_eq_eq_not] at h1; exact h1
  refine r_load one27 (hS.at m1 2 rfl) ?_
  (try simp only [o_lss])
  by_cases h2 : t.sv < 0
  · (try simp only [h2, decide_true, o_pickT, condT, guardW_tf])
    exact bad (by simp [chkT, show ¬ 0 ≤ t.sv by omega])
  have h2' : 0 ≤ t.sv := by omega
  (try simp only [h2, decide_false, o_pickF, guardW_ff, fa_29_0, Nat.add_zero])
  refine r_load one27 (hS.at m1 2 rfl) ?_
  (try simp only [o_geq])
  by_cases h3 : 7 ≤ t.sv
  · (try simp only [h3, decide_true, o_pickT, condT, guardW_tf])
    exact bad (by simp [chkT, show ¬ t.sv < 7 by omega])
  have h3' : t.sv < 7 := by omega
  (try simp only [h3, decide_false, o_pickF, guardW_ff, fa_29_2])
  refine r_load one2 (hS.at m1 4 rfl) ?_
  (try simp only [o_lss, cond_decide])
  refine ⟨fun h4 => bad (by simp [chkT, show ¬ 0 ≤ t.nu by omega]), fun h4 => ?_⟩
  have h4' : 0 ≤ t.nu := by omega
  refine r_load one27 (hS.at m1 5 rfl) ?_
  (try simp only [o_gtr, cond_decide])
  refine ⟨fun h5 => bad (by simp [chkT, show ¬ t.q.f.kd ≤ 8 by omega]), fun h5 => ?_⟩
  have h5' : t.q.f.kd ≤ 8 := by omega
  refine r_loadN ag34 (xs := t.q.cells) rfl (hS.cells_at m1 5 (fun j v hv => by rw [Nat.add_comm]; exact hv)) ?_
  refine (chkR Z t.q hN (List.mem_cons_of_mem _ (List.mem_cons_of_mem _ ho)) (fun w hw => hx' w hw.drop) hS).mono fun r w4 ⟨hr, hS⟩ => ?_
  subst hr
  skip
  exact ⟨by unfold chkT; rw [h1]; simp [h2', h3', h4', h5'], hS.drop.drop⟩
end
end Go.Proofs.YtfjolpjlajjigaaDoor
