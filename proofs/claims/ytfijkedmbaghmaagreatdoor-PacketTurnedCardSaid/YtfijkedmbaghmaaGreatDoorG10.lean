/- EqPacket. Printed by wip/sh/mkG10.py. -/
import Derived.Test.YtfijkedmbaghmaaGreatDoorG9
set_option linter.unusedVariables false
set_option linter.unusedSimpArgs false
namespace Go.Proofs.YtfijkedmbaghmaaGreatDoor
open Go.Sh
theorem neqConn (e n e' n' : Int) (w : World) : (eqOp .neq 25 false false (.agg (zx e n).toArray) (.agg (zx e' n').toArray)).run Tryz.prog w = .ok (.bool (!((e == e') && (n == n')))) w := by
  have hg : Tryz.prog.eqGuardType Tryz.prog.depth 25 = false := by kernel_rfl
  have hu : Tryz.prog.underlying 25 = some (.struct (Tryz.prog.fieldsOf 25)) := by kernel_rfl
  have hs : Tryz.prog.stoodInHeld 25 = false := by kernel_rfl
  have hk : Tryz.prog.plainKey 23 = true := by kernel_rfl
  have p0 : ∀ (a b : Int) (w : World), (part 23 (zx a b).toArray 0).run Tryz.prog w = .ok (.int .u32 a) w := fun a b w => run_part_plain w hk rfl
  have p1 : ∀ (a b : Int) (w : World), (part 23 (zx a b).toArray 1).run Tryz.prog w = .ok (.int .u32 b) w := fun a b w => run_part_plain w hk rfl
  unfold eqOp
  simp only [Sem.run_bind, run_eqGuard_agg _ _ _ _ _ _ _ hg, Result.andThen_ok, run_neq_struct, run_equalIn_agg _ _ _ _ _ hu hs]
  simp [Program.fieldsOf, Tryz.underlying25, Op.eqFields, p0, p1, run_equalIn_int _ _ _ _ _ _ _ Tryz.underlying23]
  by_cases h1 : e = e' <;> by_cases h2 : n = n' <;> simp [h1, h2]
section
variable (Z : List PanicEntry → World → Prop) {o w : World} {R As : List HProp} {g : Nat} {p : Pk}
set_option maxRecDepth 100000 in
theorem eqP (a c : Pk) (hx : Ent o R fun w => RdP w a) (hy : Ent o R fun w => RdP w c) (h : St o w R) : CallV Tryz.prog Z 15 #[.agg a.cells.toArray, .agg c.cells.toArray] w fun r w' => (∃ b, r = .bool b ∧ (b = true ↔ sameP a c)) ∧ St o w' R := by
  refine f15.calls ?_
  unfold f15.sh
  refine r_box _ _ h fun g1 w1 hS => ?_
  have hS : St o w1 (blk g1 39 a.cells :: R) := hS
  refine r_box _ _ hS fun g2 w2 hS => ?_
  have hS : St o w2 (blk g2 39 c.cells :: blk g1 39 a.cells :: R) := hS
  have no : ∀ {w : World}, ¬ sameP a c → St o w (blk g2 39 c.cells :: blk g1 39 a.cells :: R) → (∃ b, Value.bool false = .bool b ∧ (b = true ↔ sameP a c)) ∧ St o w R := fun hn hS => ⟨⟨false, rfl, by simp [hn]⟩, hS.drop.drop⟩
  (try simp only [fa_39_1, Nat.zero_add, fa_39_2, fa_39_3, fa_39_4, fa_39_5, fa_39_6, fa_39_7, fa_39_9, fa_39_12, fa_39_10, fa_39_11, fa_39_8, fa_39_0, Nat.add_zero])
  refine r_load one22 (hS.at m1 0 rfl) ?_
  skip
  refine r_load one22 (hS.at m0 0 rfl) ?_
  refine r1 (run_neq_int _ _ _ _ _ _ _ _) ?_
  cases hkd : (a.kd != c.kd) with
  | true =>
    (try simp only [o_pickT, condT, guardW_tf])
    exact no (fun hs => by have h1 : a.kd = c.kd := hs.1; rw [h1] at hkd; simp at hkd) hS
  | false =>
  have hkd : a.kd = c.kd := by simpa using hkd
  (try simp only [o_pickF, guardW_ff])
  refine r_loadN ag25 (xs := zx a.cb a.ct) rfl (hS.cells_at m1 1 (pk_two ⟨rfl, rfl⟩)) ?_
  skip
  refine r_loadN ag25 (xs := zx c.cb c.ct) rfl (hS.cells_at m0 1 (pk_two ⟨rfl, rfl⟩)) ?_
  refine r1 (neqConn _ _ _ _ _) ?_
  cases hf0 : ((a.cb == c.cb) && (a.ct == c.ct)) with
  | false =>
    simp only [Bool.not_false]
    (try simp only [o_pickT, condT, guardW_tf])
    exact no (fun hs => by have h := hs.2 0 (by omega); have h1 : a.cb = c.cb := h.1; have h2 : a.ct = c.ct := h.2; rw [h1, h2] at hf0; simp at hf0) hS
  | true =>
  have hf0 : sameF a c 0 := by simp at hf0; exact hf0
  simp only [Bool.not_true]
  (try simp only [o_pickF, guardW_ff])
  refine r_loadN ag25 (xs := zx a.lb a.lt) rfl (hS.cells_at m1 3 (pk_two ⟨rfl, rfl⟩)) ?_
  skip
  refine r_loadN ag25 (xs := zx c.lb c.lt) rfl (hS.cells_at m0 3 (pk_two ⟨rfl, rfl⟩)) ?_
  refine r1 (neqConn _ _ _ _ _) ?_
  cases hf1 : ((a.lb == c.lb) && (a.lt == c.lt)) with
  | false =>
    simp only [Bool.not_false]
    (try simp only [o_pickT, condT, guardW_tf])
    exact no (fun hs => by have h := hs.2 1 (by omega); have h1 : a.lb = c.lb := h.1; have h2 : a.lt = c.lt := h.2; rw [h1, h2] at hf1; simp at hf1) hS
  | true =>
  have hf1 : sameF a c 1 := by simp at hf1; exact hf1
  simp only [Bool.not_true]
  (try simp only [o_pickF, guardW_ff])
  refine r_load one2 (hS.at m1 5 rfl) ?_
  skip
  refine r_load one2 (hS.at m0 5 rfl) ?_
  refine r1 (run_neq_int _ _ _ _ _ _ _ _) ?_
  cases hpl : (a.pl != c.pl) with
  | true =>
    (try simp only [o_pickT, condT, guardW_tf])
    exact no (fun hs => by have h1 : a.pl = c.pl := hs.2 2 (by omega); rw [h1] at hpl; simp at hpl) hS
  | false =>
  have hpl : a.pl = c.pl := by simpa using hpl
  (try simp only [o_pickF, guardW_ff])
  refine r_load one23 (hS.at m1 6 rfl) ?_
  skip
  refine r_load one23 (hS.at m0 6 rfl) ?_
  refine r1 (run_neq_int _ _ _ _ _ _ _ _) ?_
  cases hep : (a.ep != c.ep) with
  | true =>
    (try simp only [o_pickT, condT, guardW_tf])
    exact no (fun hs => by have h1 : a.ep = c.ep := hs.2 3 (by omega); rw [h1] at hep; simp at hep) hS
  | false =>
  have hep : a.ep = c.ep := by simpa using hep
  (try simp only [o_pickF, guardW_ff])
  refine r_load one23 (hS.at m1 7 rfl) ?_
  skip
  refine r_load one23 (hS.at m0 7 rfl) ?_
  refine r1 (run_neq_int _ _ _ _ _ _ _ _) ?_
  cases hcu : (a.cu != c.cu) with
  | true =>
    (try simp only [o_pickT, condT, guardW_tf])
    exact no (fun hs => by have h1 : a.cu = c.cu := hs.2 4 (by omega); rw [h1] at hcu; simp at hcu) hS
  | false =>
  have hcu : a.cu = c.cu := by simpa using hcu
  (try simp only [o_pickF, guardW_ff])
  refine r_loadN ag27 (xs := zx a.ze a.zn) rfl (hS.cells_at m1 8 (pk_two ⟨rfl, rfl⟩)) ?_
  skip
  refine r_loadN ag27 (xs := zx c.ze c.zn) rfl (hS.cells_at m0 8 (pk_two ⟨rfl, rfl⟩)) ?_
  refine r1 (neqZx _ _ _ _ _) ?_
  cases hf5 : ((a.ze == c.ze) && (a.zn == c.zn)) with
  | false =>
    simp only [Bool.not_false]
    (try simp only [o_pickT, condT, guardW_tf])
    exact no (fun hs => by have h := hs.2 5 (by omega); have h1 : a.ze = c.ze := h.1; have h2 : a.zn = c.zn := h.2; rw [h1, h2] at hf5; simp at hf5) hS
  | true =>
  have hf5 : sameF a c 5 := by simp at hf5; exact hf5
  simp only [Bool.not_true]
  (try simp only [o_pickF, guardW_ff])
  refine r_loadN ag27 (xs := zx a.ve a.vn) rfl (hS.cells_at m1 10 (pk_two ⟨rfl, rfl⟩)) ?_
  skip
  refine r_loadN ag27 (xs := zx c.ve c.vn) rfl (hS.cells_at m0 10 (pk_two ⟨rfl, rfl⟩)) ?_
  refine r1 (neqZx _ _ _ _ _) ?_
  cases hf6 : ((a.ve == c.ve) && (a.vn == c.vn)) with
  | false =>
    simp only [Bool.not_false]
    (try simp only [condT])
    exact no (fun hs => by have h := hs.2 6 (by omega); have h1 : a.ve = c.ve := h.1; have h2 : a.vn = c.vn := h.2; rw [h1, h2] at hf6; simp at hf6) hS
  | true =>
  have hf6 : sameF a c 6 := by simp at hf6; exact hf6
  simp only [Bool.not_true]
  (try simp only [condF])
  refine r_load one4 (hS.at m1 12 rfl) ?_
  skip
  refine r_load one4 (hS.at m0 12 rfl) ?_
  refine r1 (run_eql_boolV (by kernel_rfl) _ _ _ _ _) ?_
  cases hco : (a.co == c.co) with
  | false =>
    (try simp only [o_pickF, guardW_ft])
    exact no (fun hs => by have h1 : a.co = c.co := hs.2 7 (by omega); rw [h1] at hco; simp at hco) hS
  | true =>
  have hco : a.co = c.co := by simpa using hco
  (try simp only [o_pickT, guardW_true])
  refine r_load one4 (hS.at m1 13 rfl) ?_
  skip
  refine r_load one4 (hS.at m0 13 rfl) ?_
  refine r1 (run_eql_boolV (by kernel_rfl) _ _ _ _ _) ?_
  cases hfi : (a.fi == c.fi) with
  | false =>
    (try simp only [o_pickF, guardW_ft])
    exact no (fun hs => by have h1 : a.fi = c.fi := hs.2 8 (by omega); rw [h1] at hfi; simp at hfi) hS
  | true =>
  have hfi : a.fi = c.fi := by simpa using hfi
  (try simp only [o_pickT, guardW_true])
  refine r_load one2 (hS.at m1 31 rfl) ?_
  skip
  refine r_load one2 (hS.at m0 31 rfl) ?_
  refine r1 (run_eql_int _ _ _ _ _ _ _ _) ?_
  cases hse : (a.se == c.se) with
  | false =>
    (try simp only [o_pickF, guardW_ft])
    exact no (fun hs => by have h1 : a.se = c.se := hs.2 11 (by omega); rw [h1] at hse; simp at hse) hS
  | true =>
  have hse : a.se = c.se := by simpa using hse
  (try simp only [o_pickT, guardW_true])
  refine r_loadN ag37 (xs := a.t.cells) (Tx.cells_len _) (hS.cells_at m1 14 (pk_tx a)) ?_
  skip
  refine r_loadN ag37 (xs := c.t.cells) (Tx.cells_len _) (hS.cells_at m0 14 (pk_tx c)) ?_
  refine (eqT Z a.t c.t (fun w hw => (hx w hw.drop.drop).t) (fun w hw => (hy w hw.drop.drop).t) hS).mono fun r w8 ⟨⟨b, hr, hb⟩, hS⟩ => ?_
  subst hr
  cases b with
  | false =>
    (try simp only [o_pickF, guardW_ft])
    exact no (fun hs => by have := hb.2 (hs.2 9 (by omega)); cases this) hS
  | true =>
  have ht : sameF a c 9 := hb.1 rfl
  (try simp only [o_pickT, guardW_true])
  refine r_load one30 (hS.at m1 30 rfl) ?_
  skip
  refine r_load one30 (hS.at m0 30 rfl) ?_
  refine (eqBytes Z (hx _ hS.drop.drop).b (hy _ hS.drop.drop).b).mono fun r w9 ⟨hr, hd⟩ => ?_
  subst hr
  have hS := hS.drew hd
  skip
  refine ⟨⟨_, rfl, ?_⟩, hS.drop.drop⟩
  rw [decide_eq_true_eq]
  constructor
  · intro hbb
    refine ⟨hkd, fun i hi => ?_⟩
    obtain rfl | rfl | rfl | rfl | rfl | rfl | rfl | rfl | rfl | rfl | rfl | rfl := lt12 hi <;> assumption
  · intro hs
    exact hs.2 10 (by omega)
end
end Go.Proofs.YtfijkedmbaghmaaGreatDoor
