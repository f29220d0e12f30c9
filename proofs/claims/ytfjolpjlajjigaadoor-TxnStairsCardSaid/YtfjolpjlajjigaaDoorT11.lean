/- EqRequest, EqTxn of the document. -/
import Derived.Test.YtfjolpjlajjigaaDoorT10
set_option linter.unusedVariables false
set_option linter.unusedSimpArgs false
namespace Go.Proofs.YtfjolpjlajjigaaDoor
open Go.Sh
section
variable (Z : List PanicEntry → World → Prop) {o w : World} {R As : List HProp}
theorem eqQ (q : Rq) : ∀ (c : Rq) {w : World} {R : List HProp}, (Ent o R fun w => RdQ w q) → (Ent o R fun w => RdQ w c) → St o w R →
    CallV Tryd.prog Z 54 #[.agg q.cells.toArray, .agg c.cells.toArray] w fun r w' => (∃ b, r = .bool b ∧ (b = true ↔ q.st = c.st)) ∧ St o w' R := by
  induction q using Rq.ind with | h q ih => ?_
  intro c w R hx hy h
  refine f54.calls ?_
  unfold f54.sh
  refine r_box _ _ h fun g1 w1 hS => ?_
  refine r_box _ _ hS fun g2 w2 hS => ?_
  have hS : St o w2 (blk g2 34 c.cells :: blk g1 34 q.cells :: R) := hS
  have hx' : Ent o (blk g2 34 c.cells :: blk g1 34 q.cells :: R) fun w => RdQ w q := fun w hw => hx w hw.drop.drop
  have hy' : Ent o (blk g2 34 c.cells :: blk g1 34 q.cells :: R) fun w => RdQ w c := fun w hw => hy w hw.drop.drop
  obtain ⟨a1, c1, e1⟩ := (hx' w2 hS).row.form
  obtain ⟨a2, c2, e2⟩ := (hy' w2 hS).row.form
  have hle := (hx' w2 hS).row.2.1
  simp only [maxLen] at hle
  have bad : ∀ {w' : World}, ¬ (q.f = c.f ∧ q.ops.map Rq.st = c.ops.map Rq.st) → St o w' (blk g2 34 c.cells :: blk g1 34 q.cells :: R) → ((∃ b, Value.bool false = .bool b ∧ (b = true ↔ q.st = c.st)) ∧ St o w' R) :=
    fun hne hS => ⟨⟨_, rfl, ⟨fun h => (by cases h), fun e => absurd ((st_iff _ _).1 e) hne⟩⟩, hS.drop.drop⟩
  (try simp only [fa_34_1, Nat.zero_add, fa_34_4, fa_34_5, fa_34_6, fa_34_7, fa_34_8, fa_34_3, fa_34_9, fa_34_10, fa_34_10p, fa_34_2, fa_34_0, Nat.add_zero])
  refine r_load one27 (hS.at m1 0 rfl) (r_load one27 (hS.at m0 0 rfl) ?_)
  refine r1 (run_neq_int _ _ _ _ _ _ _ _) ?_
  by_cases hk : q.f.kd = c.f.kd
  case neg =>
    rw [show (q.f.kd != c.f.kd) = true by simp [hk]]
    (try simp only [o_pickT, condT, guardW_tf])
    exact bad (fun e => hk (by rw [e.1])) hS
  rw [show (q.f.kd != c.f.kd) = false by simp [hk]]
  (try simp only [o_pickF, guardW_ff])
  refine r_load one9 (hS.at m1 1 rfl) (r_load one9 (hS.at m0 1 rfl) ?_)
  refine r1 (run_neq_strS _ _ _ _ _ _) ?_
  by_cases hp : q.f.path = c.f.path
  case neg =>
    rw [decide_eq_false hp]
    (try simp only [Bool.not_false, o_pickT, condT, guardW_tf])
    exact bad (fun e => hp (by rw [e.1])) hS
  rw [decide_eq_true hp]
  (try simp only [Bool.not_true, o_pickF, guardW_ff])
  refine r_load one21 (hS.at m1 4 rfl) (r_load one21 (hS.at m0 4 rfl) ?_)
  refine r1 (run_neq_int _ _ _ _ _ _ _ _) ?_
  by_cases hv : q.f.ver = c.f.ver
  case neg =>
    rw [show (q.f.ver != c.f.ver) = true by simp [hv]]
    (try simp only [o_pickT, condT, guardW_tf])
    exact bad (fun e => hv (by rw [e.1])) hS
  rw [show (q.f.ver != c.f.ver) = false by simp [hv]]
  (try simp only [o_pickF, guardW_ff])
  refine r_load one4 (hS.at m1 5 rfl) (r_load one4 (hS.at m0 5 rfl) ?_)
  refine r1 (run_neq_boolV bo4 _ _ _ _ _) ?_
  by_cases he : q.f.eph = c.f.eph
  case neg =>
    rw [show (q.f.eph != c.f.eph) = true by simp [he]]
    (try simp only [o_pickT, condT, guardW_tf])
    exact bad (fun e => he (by rw [e.1])) hS
  rw [show (q.f.eph != c.f.eph) = false by simp [he]]
  (try simp only [o_pickF, guardW_ff])
  refine r_load one4 (hS.at m1 6 rfl) (r_load one4 (hS.at m0 6 rfl) ?_)
  refine r1 (run_neq_boolV bo4 _ _ _ _ _) ?_
  by_cases hq : q.f.seq = c.f.seq
  case neg =>
    rw [show (q.f.seq != c.f.seq) = true by simp [hq]]
    (try simp only [o_pickT, condT, guardW_tf])
    exact bad (fun e => hq (by rw [e.1])) hS
  rw [show (q.f.seq != c.f.seq) = false by simp [hq]]
  (try simp only [o_pickF, guardW_ff])
  refine r_load one2 (hS.at m1 7 rfl) (r_load one2 (hS.at m0 7 rfl) ?_)
  refine r1 (run_neq_int _ _ _ _ _ _ _ _) ?_
  by_cases hs : q.f.ses = c.f.ses
  case neg =>
    rw [show (q.f.ses != c.f.ses) = true by simp [hs]]
    (try simp only [o_pickT, condT, guardW_tf])
    exact bad (fun e => hs (by rw [e.1])) hS
  rw [show (q.f.ses != c.f.ses) = false by simp [hs]]
  (try simp only [o_pickF, guardW_ff])
  refine r_load one21 (hS.at m1 8 rfl) (r_load one21 (hS.at m0 8 rfl) ?_)
  refine r1 (run_neq_int _ _ _ _ _ _ _ _) ?_
  by_cases ht : q.f.tmo = c.f.tmo
  case neg =>
    rw [show (q.f.tmo != c.f.tmo) = true by simp [ht]]
    (try simp only [condT])
    exact bad (fun e => ht (by rw [e.1])) hS
  rw [show (q.f.tmo != c.f.tmo) = false by simp [ht]]
  (try simp only [condF])
  refine r_load one22 (hS.at m1 2 rfl) (r_load one22 (hS.at m0 2 rfl) ?_)
  refine (eqBytes Z (hx' _ hS).flat.data (hy' _ hS).flat.data).mono fun r w3 ⟨hr, hd⟩ => ?_
  subst hr
  have hS := hS.drew hd
  by_cases hdd : q.f.data = c.f.data
  case neg =>
    rw [decide_eq_false hdd]
    (try simp only [o_not, Bool.not_false, o_pickT, condT, guardW_tf])
    exact bad (fun e => hdd (by rw [e.1])) hS
  rw [decide_eq_true hdd]
  (try simp only [o_not, Bool.not_true, o_pickF, guardW_ff])
  refine r_load one30 (hS.at m1 3 rfl) (r_load one30 (hS.at m0 3 rfl) ?_)
  refine (eqAcl Z (hx' _ hS).flat.acl (hy' _ hS).flat.acl).mono fun r w4 ⟨⟨ba, hr, hba⟩, hd⟩ => ?_
  subst hr
  have hS := hS.drew hd
  cases ba with
  | false =>
    (try simp only [o_not, Bool.not_false, o_pickT, condT, guardW_tf])
    exact bad (fun e => (by have := hba.2 (by rw [e.1]); cases this)) hS
  | true =>
  have hac := hba.1 rfl
  (try simp only [o_not, Bool.not_true, o_pickF, guardW_ff])
  refine r_load one31 (hS.at m1 9 rfl) (r_load one31 (hS.at m0 9 rfl) ?_)
  refine (eqIds Z (hx' _ hS).flat.who (hy' _ hS).flat.who).mono fun r w5 ⟨⟨bw, hr, hbw⟩, hd⟩ => ?_
  subst hr
  have hS := hS.drew hd
  cases bw with
  | false =>
    (try simp only [o_not, Bool.not_false, o_pickT, condT, guardW_tf])
    exact bad (fun e => (by have := hbw.2 (by rw [e.1]); cases this)) hS
  | true =>
  have hwh := hbw.1 rfl
  have hff : q.f = c.f := by
    generalize q.f = x at *
    generalize c.f = y at *
    cases x; cases y
    simp_all
  (try simp only [o_not, Bool.not_true, o_pickF, guardW_ff])
  refine r_load one32 (hS.at m1 10 (congrArg some e1)) ?_
  (try simp only [ln_32_3])
  refine r_load one32 (hS.at m0 10 (congrArg some e2)) ?_
  (try simp only [ln_32_3, o_neq, cond_bne])
  refine ⟨fun hne => bad (fun e => hne (by have := congrArg List.length e.2; simp at this; omega)) hS, fun hle2 => ?_⟩
  have hll : q.ops.length = c.ops.length := by omega
  refine ⟨fun m y w' => ∃ i : Nat, y = .int .i64 i ∧ m + i = q.ops.length ∧ (q.ops.map Rq.st).take i = (c.ops.map Rq.st).take i ∧ St o w' (blk g2 34 c.cells :: blk g1 34 q.cells :: R), ⟨q.ops.length, 0, rfl, rfl, rfl, hS⟩, ?_⟩
  clear hS
  rintro m _ w6 ⟨i, rfl, hi, ht2, hS⟩ _
  refine r_load one32 (hS.at m1 10 (congrArg some e1)) ?_
  (try simp only [o_add, ln_32_3, o_lss, cond_decide])
  refine ⟨fun hlt => ⟨fun w7 hd => ?_⟩, fun hge => ?_⟩
  · have hi1 : i < q.ops.length := by omega
    have hi2 : i < c.ops.length := by omega
    have hS := hS.drew hd
    have hr1 := (hx' w7 hS).rowR
    have hr2 := (hy' w7 hS).rowR
    rw [e1] at hr1
    rw [e2] at hr2
    obtain ⟨b1, p1, cs, hp1, _, hcv, hpc1⟩ := hr1.ix el32 .i64 i hi1
    subst hcv
    obtain ⟨b2, p2, cs, hp2, _, hcv, hpc2⟩ := hr2.ix el32 .i64 i hi2
    subst hcv
    refine rr_load one32 (hS.at m1 10 (congrArg some e1)) (rp hp1 (rr_loadN ag34 (xs := q.ops[i].cells) rfl (fun j u hu => by rw [add_addr]; exact hpc1 j u hu) ?_))
    skip
    refine rr_load one32 (hS.at m0 10 (congrArg some e2)) (rp hp2 (rr_loadN ag34 (xs := c.ops[i].cells) rfl (fun j u hu => by rw [add_addr]; exact hpc2 j u hu) ?_))
    refine (ih q.ops[i] (List.getElem_mem hi1) c.ops[i] (fun w hw => (hx' w hw).all _ (List.getElem_mem hi1)) (fun w hw => (hy' w hw).all _ (List.getElem_mem hi2)) hS).mono fun r w8 ⟨⟨b, hr, hb⟩, hS⟩ => ?_
    subst hr
    refine rs_load one32 (hS.at m0 10 (congrArg some e2)) (rs_load one32 (hS.at m1 10 (congrArg some e1)) ?_)
    cases b with
    | false =>
      (try simp only [o_notp, Bool.not_false, condT])
      refine bad (fun e => ?_) hS
      have h1 := congrArg (fun l => l[i]?) e.2
      simp only [List.getElem?_map, List.getElem?_eq_getElem hi1, List.getElem?_eq_getElem hi2, Option.map_some, Option.some.injEq] at h1
      have := hb.2 h1
      cases this
    | true =>
      (try simp only [o_notp, Bool.not_true, condF])
      rw [wr_i64 (x := (i : Int) + 1) (by omega) (by omega)]
      refine ⟨m - 1, by omega, i + 1, rfl, by omega, take_more (by simpa using hi1) (by simpa using hi2) ht2 (by simpa using hb.1 rfl), hS⟩
  · obtain rfl : i = q.ops.length := by omega
    have t1 := List.take_length (l := q.ops.map Rq.st)
    have t2 := List.take_length (l := c.ops.map Rq.st)
    rw [List.length_map] at t1 t2
    rw [t1, hll, t2] at ht2
    exact ⟨⟨_, rfl, ⟨fun _ => (st_iff _ _).2 ⟨hff, ht2⟩, fun _ => rfl⟩⟩, hS.drop.drop⟩
end
end Go.Proofs.YtfjolpjlajjigaaDoor
