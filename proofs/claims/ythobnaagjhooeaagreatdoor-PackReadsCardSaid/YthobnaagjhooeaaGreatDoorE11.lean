/- Two told things that are the same; bytes spoilt. -/
import Derived.Test.YthobnaagjhooeaaGreatDoorE10
import Derived.ChangeKeysEq
set_option linter.unusedVariables false
set_option linter.unusedSimpArgs false
namespace Go.Proofs.YthobnaagjhooeaaGreatDoor
open Go.Sh
theorem eqE2 (a b : Int) (w : World) : (eqOp .eql 74 false false (.agg #[.int .i64 a, .int .i64 b]) (.agg #[.int .i64 a, .int .i64 b])).run Tryz.prog w = .ok (.bool true) w := by
  have hg : Tryz.prog.eqGuardType Tryz.prog.depth 74 = false := by kernel_rfl
  have hk : Tryz.prog.plainKey 47 = true := by kernel_rfl
  have hu : Tryz.prog.underlying 74 = some (.array 2 47) := by kernel_rfl
  obtain ⟨i, hi⟩ : ∃ i, Tryz.prog.info? 47 = some i := Option.isSome_iff_exists.1 (by kernel_rfl)
  have hcs : Tryz.prog.cellsOf 47 = 1 := by kernel_rfl
  have p0 : ∀ (w : World), (part 47 #[.int .i64 a, .int .i64 b] 0).run Tryz.prog w = .ok (.int .i64 a) w := fun w => run_part_plain w hk rfl
  have p1 : ∀ (w : World), (part 47 #[.int .i64 a, .int .i64 b] 1).run Tryz.prog w = .ok (.int .i64 b) w := fun w => run_part_plain w hk rfl
  unfold eqOp
  simp only [Sem.run_bind, run_eqGuard_agg _ _ _ _ _ _ _ hg, Result.andThen_ok, run_eql_struct]
  have he := run_equalIn_array (P := Tryz.prog) w 9999 #[.int .i64 a, .int .i64 b] #[.int .i64 a, .int .i64 b] hu hi
  rw [hcs] at he
  have he : (Op.equalIn 10000 74 (.agg #[.int .i64 a, .int .i64 b]) (.agg #[.int .i64 a, .int .i64 b])).run Tryz.prog w = _ := he
  rw [he]
  have hr : List.range 2 = [0, 1] := rfl
  rw [hr]
  have p0' : ∀ (w : World), (part 47 #[.int .i64 a, .int .i64 b] (0 * 1)).run Tryz.prog w = .ok (.int .i64 a) w := p0
  have p1' : ∀ (w : World), (part 47 #[.int .i64 a, .int .i64 b] (1 * 1)).run Tryz.prog w = .ok (.int .i64 b) w := p1
  simp only [Op.eqItems, Sem.run_bind, p0', p1', Result.andThen_ok, run_equalIn_int _ _ _ _ _ _ _ Tryz.underlying47]
  simp [p1', Sem.run_bind, run_equalIn_int _ _ _ _ _ _ _ Tryz.underlying47]
section
variable (Z : List PanicEntry → World → Prop) {o w : World} {R : List HProp}
set_option maxRecDepth 100000 in
theorem sameC (t : Tl) (c d : Nat) (x y : Value) (hc : c < 18446744073709551616) (hf : c = d ∨ dd.order c c = none ∧ dd.order d d = none) (hx : Ent o R fun w => Rd w 1 x t.b.length (cb t.b)) (hy : Ent o R fun w => Rd w 1 y t.b.length (cb t.b)) (h : St o w R) :
    CallV Tryz.prog Z 20 #[.agg (t.cells c x).toArray, .agg (t.cells d y).toArray] w fun r w' => r = .bool true ∧ St o w' R := by
  refine f20.calls ?_
  unfold f20.sh
  refine r_box _ _ h fun g1 w1 hS => ?_
  refine r_box _ _ hS fun g2 w2 hS => ?_
  have hS : St o w2 (blk g2 76 (t.cells d y) :: blk g1 76 (t.cells c x) :: R) := hS
  have hbn : ∀ e : Int, (e == e) = true := fun e => by simp
  have hbb : ∀ e : Bool, (e == e) = true := fun e => by simp
  (try simp only [fa_76_1, Nat.zero_add, fa_76_2, fa_76_3, fa_76_4, fa_76_5, fa_76_0, Nat.add_zero])
  refine r_load one4 (hS.at m1 0 rfl) ?_
  refine r_load one4 (hS.at m0 0 rfl) ?_
  (try simp only [eqlb_4, hbb, o_pickT, guardW_true])
  refine r_load one2 (hS.at m1 1 rfl) ?_
  skip
  refine r_load one2 (hS.at m0 1 rfl) ?_
  (try simp only [o_eql, hbn, o_pickT, guardW_true])
  refine r_load one44 (hS.at m1 2 rfl) ?_
  skip
  refine r_load one44 (hS.at m0 2 rfl) ?_
  skip
  refine (eqFl Z c d hc hf).mono fun r w3 ⟨hr, hw⟩ => ?_
  subst hr; subst hw
  (try simp only [o_pickT, guardW_true])
  refine r_load one9 (hS.at m1 3 rfl) ?_
  skip
  refine r_load one9 (hS.at m0 3 rfl) ?_
  (try simp only [os_eql, beq_self_eq_true, o_pickT, guardW_true])
  refine r_load one22 (hS.at m1 4 rfl) ?_
  skip
  refine r_load one22 (hS.at m0 4 rfl) ?_
  skip
  refine (eqBytes Z (hx _ hS.drop.drop) (hy _ hS.drop.drop)).mono fun r w3 ⟨hr, hd⟩ => ?_
  subst hr
  have hS := hS.drew hd
  rw [decide_eq_true rfl]
  (try simp only [o_pickT, guardW_true])
  refine r_loadN ag74 (xs := [.int .i64 t.e0, .int .i64 t.e1]) rfl (hS.cells_at m1 5 (fun j v hv => by rw [Nat.add_comm]; exact hv)) ?_
  refine r_loadN ag74 (xs := [.int .i64 t.e0, .int .i64 t.e1]) rfl (hS.cells_at m0 5 (fun j v hv => by rw [Nat.add_comm]; exact hv)) ?_
  refine r1 (eqE2 _ _ _) ?_
  exact ⟨by first | rfl | trivial, hS.drop.drop⟩
end
end Go.Proofs.YthobnaagjhooeaaGreatDoor
