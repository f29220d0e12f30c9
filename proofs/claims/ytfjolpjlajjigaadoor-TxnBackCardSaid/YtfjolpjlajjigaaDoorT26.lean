/- Same of package txn. -/
import Derived.Test.YtfjolpjlajjigaaDoorT25
set_option linter.unusedVariables false
set_option linter.unusedSimpArgs false
namespace Go.Proofs.YtfjolpjlajjigaaDoor
open Go.Sh
section
variable (Z : List PanicEntry → World → Prop) {o w : World} {R As : List HProp}
theorem sameBytes {x y : Value} {l k : List UInt8} (hx : Rd w 1 x l.length (cb l)) (hy : Rd w 1 y k.length (cb k)) :
    CallV Tryd.prog Z 93 #[x, y] w fun r w' => r = .bool (decide (l = k)) ∧ w' = w := by
  refine f93.calls ?_
  unfold f93.sh
  refine r1 (run_toString Tryd.underlying22 Tryd.underlying5 Tryd.underlying9 (l := l) hx) ?_
  refine r1 (run_toString Tryd.underlying22 Tryd.underlying5 Tryd.underlying9 (l := k) hy) ?_
  exact r1 (run_eql_strS _ _ _ _ _ _) ⟨rfl, rfl⟩
theorem sameAcl {x y : Value} {l k : List En} (hx : Rd w 3 x l.length (l.map enC).flatten) (hy : Rd w 3 y k.length (k.map enC).flatten) :
    CallV Tryd.prog Z 94 #[x, y] w fun r w' => (∃ b, r = .bool b ∧ (b = true ↔ l = k)) ∧ Drew w w' := by
  obtain ⟨a, c, rfl⟩ := hx.form
  obtain ⟨b, d, rfl⟩ := hy.form
  have hlx := hx.2.1
  simp only [maxLen] at hlx
  refine f94.calls ?_
  unfold f94.sh
  (try simp only [ln_30_3, o_neq, cond_bne])
  refine ⟨fun hne => ⟨⟨_, rfl, ⟨fun h => (by cases h), fun e => absurd (by rw [e]) hne⟩⟩, Drew.refl _⟩, fun he => ?_⟩
  have he' : l.length = k.length := by omega
  refine ⟨fun m y w' => ∃ i : Nat, y = .int .i64 i ∧ m + i = l.length ∧ l.take i = k.take i ∧ Drew w w', ⟨l.length, 0, rfl, rfl, rfl, Drew.refl _⟩, ?_⟩
  rintro m _ w1 ⟨i, rfl, hi, ht, hd⟩ _
  (try simp only [o_add, o_lss, cond_decide])
  refine ⟨fun hlt => ⟨fun w2 hd2 => ?_⟩, fun hge => ?_⟩
  · have hi1 : i < l.length := by omega
    have hi2 : i < k.length := by omega
    obtain ⟨b1, p, cs, hp, _, hcv, hpc⟩ := (rowR_rd (c := enC) (fun x => rfl) (hx.drew (hd.trans hd2)) rfl).ix el30 .i64 i hi1
    subst hcv
    obtain ⟨b2, q, cs, hq, _, hcv, hqc⟩ := (rowR_rd (c := enC) (fun x => rfl) (hy.drew (hd.trans hd2)) rfl).ix el30 .i64 i hi2
    subst hcv
    refine rp hp (rr_loadN ag105 (xs := enC l[i]) rfl (fun j u hu => by rw [add_addr]; exact hpc j u hu) (rp hq (rr_loadN ag105 (xs := enC k[i]) rfl (fun j u hu => by rw [add_addr]; exact hqc j u hu) ?_)))
    refine rp (fun w => neqEn l[i] k[i] w) ?_
    rw [show (decide (l[i].perms = k[i].perms ∧ l[i].who.sch = k[i].who.sch ∧ l[i].who.nam = k[i].who.nam)) = decide (l[i].perms = k[i].perms ∧ l[i].who.sch = k[i].who.sch ∧ l[i].who.nam = k[i].who.nam) from rfl]
    by_cases hen : l[i].perms = k[i].perms ∧ l[i].who.sch = k[i].who.sch ∧ l[i].who.nam = k[i].who.nam
    · rw [decide_eq_true hen]
      (try simp only [Bool.not_true, condF])
      rw [wr_i64 (x := (i : Int) + 1) (by omega) (by omega)]
      exact ⟨m - 1, by omega, i + 1, rfl, by omega, take_more hi1 hi2 ht ((en_iff _ _).2 hen), hd.trans hd2⟩
    · rw [decide_eq_false hen]
      (try simp only [Bool.not_false, condT])
      exact ⟨⟨_, rfl, ⟨fun h => (by cases h), fun e => absurd ((en_iff _ _).1 (by subst e; rfl)) hen⟩⟩, hd.trans hd2⟩
  · obtain rfl : i = l.length := by omega
    rw [List.take_length, he', List.take_length] at ht
    exact ⟨⟨_, rfl, ⟨fun _ => ht, fun _ => rfl⟩⟩, hd⟩
theorem sameIds {x y : Value} {l k : List Idd} (hx : Rd w 2 x l.length (l.map idC).flatten) (hy : Rd w 2 y k.length (k.map idC).flatten) :
    CallV Tryd.prog Z 95 #[x, y] w fun r w' => (∃ b, r = .bool b ∧ (b = true ↔ l = k)) ∧ Drew w w' := by
  obtain ⟨a, c, rfl⟩ := hx.form
  obtain ⟨b, d, rfl⟩ := hy.form
  have hlx := hx.2.1
  simp only [maxLen] at hlx
  refine f95.calls ?_
  unfold f95.sh
  (try simp only [ln_31_3, o_neq, cond_bne])
  refine ⟨fun hne => ⟨⟨_, rfl, ⟨fun h => (by cases h), fun e => absurd (by rw [e]) hne⟩⟩, Drew.refl _⟩, fun he => ?_⟩
  have he' : l.length = k.length := by omega
  refine ⟨fun m y w' => ∃ i : Nat, y = .int .i64 i ∧ m + i = l.length ∧ l.take i = k.take i ∧ Drew w w', ⟨l.length, 0, rfl, rfl, rfl, Drew.refl _⟩, ?_⟩
  rintro m _ w1 ⟨i, rfl, hi, ht, hd⟩ _
  (try simp only [o_add, o_lss, cond_decide])
  refine ⟨fun hlt => ⟨fun w2 hd2 => ?_⟩, fun hge => ?_⟩
  · have hi1 : i < l.length := by omega
    have hi2 : i < k.length := by omega
    obtain ⟨b1, p, cs, hp, _, hcv, hpc⟩ := (rowR_rd (c := idC) (fun x => rfl) (hx.drew (hd.trans hd2)) rfl).ix el31 .i64 i hi1
    subst hcv
    obtain ⟨b2, q, cs, hq, _, hcv, hqc⟩ := (rowR_rd (c := idC) (fun x => rfl) (hy.drew (hd.trans hd2)) rfl).ix el31 .i64 i hi2
    subst hcv
    refine rp hp (rr_loadN ag103 (xs := idC l[i]) rfl (fun j u hu => by rw [add_addr]; exact hpc j u hu) (rp hq (rr_loadN ag103 (xs := idC k[i]) rfl (fun j u hu => by rw [add_addr]; exact hqc j u hu) ?_)))
    refine rp (fun w => neqId l[i] k[i] w) ?_
    by_cases hen : l[i].sch = k[i].sch ∧ l[i].nam = k[i].nam
    · rw [decide_eq_true hen]
      (try simp only [Bool.not_true, condF])
      rw [wr_i64 (x := (i : Int) + 1) (by omega) (by omega)]
      exact ⟨m - 1, by omega, i + 1, rfl, by omega, take_more hi1 hi2 ht ((idd_iff _ _).2 hen), hd.trans hd2⟩
    · rw [decide_eq_false hen]
      (try simp only [Bool.not_false, condT])
      exact ⟨⟨_, rfl, ⟨fun h => (by cases h), fun e => absurd ((idd_iff _ _).1 (by subst e; rfl)) hen⟩⟩, hd.trans hd2⟩
  · obtain rfl : i = l.length := by omega
    rw [List.take_length, he', List.take_length] at ht
    exact ⟨⟨_, rfl, ⟨fun _ => ht, fun _ => rfl⟩⟩, hd⟩
theorem sameQ (q : Rq) : ∀ (c : Rq) {w : World} {R : List HProp}, (Ent o R fun w => RdQ w q) → (Ent o R fun w => RdQ w c) → St o w R →
    CallV Tryd.prog Z 53 #[.agg q.cells.toArray, .agg c.cells.toArray] w fun r w' => (∃ b, r = .bool b ∧ (b = true ↔ q.st = c.st)) ∧ St o w' R := by
  induction q using Rq.ind with | h q ih => ?_
  intro c w R hx hy h
  refine f53.calls ?_
  unfold f53.sh
  refine r_box _ _ h fun g1 w1 hS => ?_
  refine r_box _ _ hS fun g2 w2 hS => ?_
  have hS : St o w2 (blk g2 34 c.cells :: blk g1 34 q.cells :: R) := hS
  have hx' : Ent o (blk g2 34 c.cells :: blk g1 34 q.cells :: R) fun w => RdQ w q := fun w hw => hx w hw.drop.drop
  have hy' : Ent o (blk g2 34 c.cells :: blk g1 34 q.cells :: R) fun w => RdQ w c := fun w hw => hy w hw.drop.drop
  obtain ⟨a1, c1, e1⟩ := (hx' w2 hS).row.form
  obtain ⟨a2, c2, e2⟩ := (hy' w2 hS).row.form
  have hle := (hx' w2 hS).row.2.1
  simp only [maxLen] at hle
  have bad : ∀ {w' : World}, ¬ (q.f = c.f ∧ q.ops.map Rq.st = c.ops.map Rq.st) → St o w' (blk g2 34 c.cells :: blk g1 34 q.cells :: R) → ((∃ b, Value.bool false = .bool b ∧ (b = true ↔ q.st = c.st)) ∧ St o w' R) :=
    fun hne hS => ⟨⟨_, rfl, ⟨fun h => (by cases h), fun e => absurd ((st_iff _ _).1 e) hne⟩⟩, hS.drop.drop⟩
  have rows : ∀ {w' : World} {R' : List HProp}, (Ent o R' fun w => RdQ w q) → (Ent o R' fun w => RdQ w c) → St o w' R' → CallV Tryd.prog Z 96 #[q.vo, c.vo, .func (.func 53) #[] #[]] w' fun r w2 => (∃ b, r = .bool b ∧ (b = true ↔ q.ops.map Rq.st = c.ops.map Rq.st)) ∧ St o w2 R' := by
    intro w' R' hx hy h
    rw [e1, e2]
    refine f96.calls ?_
    unfold f96.sh
    (try simp only [ln_32_3, o_neq, cond_bne])
    refine ⟨fun hne => ⟨⟨_, rfl, ⟨fun h => (by cases h), fun e => absurd (by have := congrArg List.length e; simp at this; omega) hne⟩⟩, h⟩, fun he => ?_⟩
    have hll : q.ops.length = c.ops.length := by omega
    refine ⟨fun m y w' => ∃ i : Nat, y = .int .i64 i ∧ m + i = q.ops.length ∧ (q.ops.map Rq.st).take i = (c.ops.map Rq.st).take i ∧ St o w' R', ⟨q.ops.length, 0, rfl, rfl, rfl, h⟩, ?_⟩
    clear h
    rintro m _ w6 ⟨i, rfl, hi, ht2, hS⟩ _
    by_cases hlt : (i : Int) < (q.ops.length : Int)
    · have hi1 : i < q.ops.length := by omega
      have hi2 : i < c.ops.length := by omega
      have hr1 := (hx w6 hS).rowR
      rw [e1] at hr1
      obtain ⟨b1, p1, cs, hp1, _, hcv, hpc1⟩ := hr1.ix el32 .i64 i hi1
      subst hcv
      (try simp only [o_add, o_lss, hlt, decide_true, condT])
      refine r1 (hp1 _) (r_loadN ag34 (xs := q.ops[i].cells) rfl (fun j u hu => by rw [add_addr]; exact hpc1 j u hu) ?_)
      have ho1 := ((hx w6 hS).all _ (List.getElem_mem hi1)).ones
      refine r_alloc hS ze34 fun ge w7 hS => ?_
      refine r_storeN hS ag34 (xs := q.ops[i].cells) rfl (show 0 + 11 ≤ 11 from Nat.le_refl _) ho1 fun w8 hS => ?_
      rw [setL_all _ _ (by rfl)] at hS
      have hr2 := (hy w8 hS.drop).rowR
      rw [e2] at hr2
      obtain ⟨b2, p2, cs, hp2, _, hcv, hpc2⟩ := hr2.ix el32 .i64 i hi2
      subst hcv
      refine r1 (hp2 _) (r_loadN ag34 (xs := c.ops[i].cells) rfl (fun j u hu => by rw [add_addr]; exact hpc2 j u hu) ?_)
      have ho2 := ((hy w8 hS.drop).all _ (List.getElem_mem hi2)).ones
      refine r_alloc hS ze34 fun gf w9 hS => ?_
      refine r_storeN hS ag34 (xs := c.ops[i].cells) rfl (show 0 + 11 ≤ 11 from Nat.le_refl _) ho2 fun w10 hS => ?_
      rw [setL_all _ _ (by rfl)] at hS
      refine r_loadN ag34 (xs := q.ops[i].cells) rfl (hS.cells_at m1 0 (whole_at _)) ?_
      refine r_loadN ag34 (xs := c.ops[i].cells) rfl (hS.cells_at m0 0 (whole_at _)) ?_
      refine r_callVal en53 (l1 := []) (l2 := [_, _]) (l3 := []) rfl rfl rfl ?_
      refine (ih q.ops[i] (List.getElem_mem hi1) c.ops[i] (fun w hw => (hx w hw.drop.drop).all _ (List.getElem_mem hi1)) (fun w hw => (hy w hw.drop.drop).all _ (List.getElem_mem hi2)) hS).mono fun r w11 ⟨⟨b, hr, hb⟩, hS⟩ => ?_
      subst hr
      cases b with
      | false =>
        (try simp only [o_not, Bool.not_false, condT])
        refine ⟨⟨_, rfl, ⟨fun h => (by cases h), fun e => ?_⟩⟩, hS.drop.drop⟩
        have h1 := congrArg (fun l => l[i]?) e
        simp only [List.getElem?_map, List.getElem?_eq_getElem hi1, List.getElem?_eq_getElem hi2, Option.map_some, Option.some.injEq] at h1
        exact hb.2 h1
      | true =>
        (try simp only [o_not, Bool.not_true, condF])
        rw [wr_i64 (x := (i : Int) + 1) (by omega) (by omega)]
        exact ⟨m - 1, by omega, i + 1, rfl, by omega, take_more (by simpa using hi1) (by simpa using hi2) ht2 (by simpa using hb.1 rfl), hS.drop.drop⟩
    · obtain rfl : i = q.ops.length := by omega
      have t1 := List.take_length (l := q.ops.map Rq.st)
      have t2 := List.take_length (l := c.ops.map Rq.st)
      rw [List.length_map] at t1 t2
      rw [t1, hll, t2] at ht2
      (try simp only [o_add, o_lss, hlt, decide_false, condF])
      exact ⟨⟨_, rfl, ⟨fun _ => ht2, fun _ => rfl⟩⟩, hS⟩
  (try simp only [fa_34_1, Nat.zero_add, fa_34_2, fa_34_3, fa_34_4, fa_34_5, fa_34_6, fa_34_7, fa_34_8, fa_34_9, fa_34_10, fa_34_0, Nat.add_zero])
  refine r_load one27 (hS.at m1 0 rfl) (r_load one27 (hS.at m0 0 rfl) ?_)
  refine r1 (run_eql_int _ _ _ _ _ _ _ _) ?_
  by_cases hkd : q.f.kd = c.f.kd
  case neg =>
    rw [show (q.f.kd == c.f.kd) = false by simp [hkd]]
    (try simp only [o_pickF, guardW_ft])
    exact bad (fun e => hkd (by rw [e.1])) hS
  rw [show (q.f.kd == c.f.kd) = true by simp [hkd]]
  (try simp only [o_pickT, guardW_true])
  refine r_load one9 (hS.at m1 1 rfl) (r_load one9 (hS.at m0 1 rfl) ?_)
  refine r1 (run_eql_strS _ _ _ _ _ _) ?_
  by_cases hpath : q.f.path = c.f.path
  case neg =>
    rw [decide_eq_false hpath]
    (try simp only [o_pickF, guardW_ft])
    exact bad (fun e => hpath (by rw [e.1])) hS
  rw [decide_eq_true hpath]
  (try simp only [o_pickT, guardW_true])
  refine r_load one22 (hS.at m1 2 rfl) (r_load one22 (hS.at m0 2 rfl) ?_)
  refine (sameBytes Z (hx' _ hS).flat.data (hy' _ hS).flat.data).mono fun r w3 ⟨hr, hw⟩ => ?_
  subst hr; subst hw
  by_cases hdd : q.f.data = c.f.data
  case neg =>
    rw [decide_eq_false hdd]
    (try simp only [o_pickF, guardW_ft])
    exact bad (fun e => hdd (by rw [e.1])) hS
  rw [decide_eq_true hdd]
  (try simp only [o_pickT, guardW_true])
  refine r_load one30 (hS.at m1 3 rfl) (r_load one30 (hS.at m0 3 rfl) ?_)
  refine (sameAcl Z (hx' _ hS).flat.acl (hy' _ hS).flat.acl).mono fun r w4 ⟨⟨ba, hr, hba⟩, hd⟩ => ?_
  subst hr
  have hS := hS.drew hd
  cases ba with
  | false =>
    (try simp only [o_pickF, guardW_ft])
    exact bad (fun e => (by have := hba.2 (by rw [e.1]); cases this)) hS
  | true =>
  have hac := hba.1 rfl
  (try simp only [o_pickT, guardW_true])
  refine r_load one21 (hS.at m1 4 rfl) (r_load one21 (hS.at m0 4 rfl) ?_)
  refine r1 (run_eql_int _ _ _ _ _ _ _ _) ?_
  by_cases hver : q.f.ver = c.f.ver
  case neg =>
    rw [show (q.f.ver == c.f.ver) = false by simp [hver]]
    (try simp only [o_pickF, guardW_ft])
    exact bad (fun e => hver (by rw [e.1])) hS
  rw [show (q.f.ver == c.f.ver) = true by simp [hver]]
  (try simp only [o_pickT, guardW_true])
  refine r_load one4 (hS.at m1 5 rfl) (r_load one4 (hS.at m0 5 rfl) ?_)
  refine r1 (run_eql_boolV bo4 _ _ _ _ _) ?_
  by_cases heph : q.f.eph = c.f.eph
  case neg =>
    rw [show (q.f.eph == c.f.eph) = false by simp [heph]]
    (try simp only [o_pickF, guardW_ft])
    exact bad (fun e => heph (by rw [e.1])) hS
  rw [show (q.f.eph == c.f.eph) = true by simp [heph]]
  (try simp only [o_pickT, guardW_true])
  refine r_load one4 (hS.at m1 6 rfl) (r_load one4 (hS.at m0 6 rfl) ?_)
  refine r1 (run_eql_boolV bo4 _ _ _ _ _) ?_
  by_cases hseq : q.f.seq = c.f.seq
  case neg =>
    rw [show (q.f.seq == c.f.seq) = false by simp [hseq]]
    (try simp only [o_pickF, guardW_ft])
    exact bad (fun e => hseq (by rw [e.1])) hS
  rw [show (q.f.seq == c.f.seq) = true by simp [hseq]]
  (try simp only [o_pickT, guardW_true])
  refine r_load one2 (hS.at m1 7 rfl) (r_load one2 (hS.at m0 7 rfl) ?_)
  refine r1 (run_eql_int _ _ _ _ _ _ _ _) ?_
  by_cases hses : q.f.ses = c.f.ses
  case neg =>
    rw [show (q.f.ses == c.f.ses) = false by simp [hses]]
    (try simp only [o_pickF, guardW_ft])
    exact bad (fun e => hses (by rw [e.1])) hS
  rw [show (q.f.ses == c.f.ses) = true by simp [hses]]
  (try simp only [o_pickT, guardW_true])
  refine r_load one21 (hS.at m1 8 rfl) (r_load one21 (hS.at m0 8 rfl) ?_)
  refine r1 (run_eql_int _ _ _ _ _ _ _ _) ?_
  by_cases htmo : q.f.tmo = c.f.tmo
  case neg =>
    rw [show (q.f.tmo == c.f.tmo) = false by simp [htmo]]
    (try simp only [o_pickF, guardW_ft])
    exact bad (fun e => htmo (by rw [e.1])) hS
  rw [show (q.f.tmo == c.f.tmo) = true by simp [htmo]]
  (try simp only [o_pickT, guardW_true])
  refine r_load one31 (hS.at m1 9 rfl) (r_load one31 (hS.at m0 9 rfl) ?_)
  refine (sameIds Z (hx' _ hS).flat.who (hy' _ hS).flat.who).mono fun r w5 ⟨⟨bw, hr, hbw⟩, hd⟩ => ?_
  subst hr
  have hS := hS.drew hd
  cases bw with
  | false =>
    (try simp only [o_pickF, guardW_ft])
    exact bad (fun e => (by have := hbw.2 (by rw [e.1]); cases this)) hS
  | true =>
  have hwh := hbw.1 rfl
  have hff : q.f = c.f := by
    generalize q.f = x at *
    generalize c.f = y at *
    cases x; cases y
    simp_all
  (try simp only [o_pickT, guardW_true])
  refine r_load one32 (hS.at m1 10 rfl) (r_load one32 (hS.at m0 10 rfl) ?_)
  refine (rows hx' hy' hS).mono fun r w6 ⟨⟨b, hr, hb⟩, hS⟩ => ?_
  subst hr
  skip
  exact ⟨⟨b, rfl, hb.trans ⟨fun h => (st_iff _ _).2 ⟨hff, h⟩, fun h => ((st_iff _ _).1 h).2⟩⟩, hS.drop.drop⟩
theorem sameT (a c : Tx) (hx : Ent o R fun w => RdQ w a.q) (hy : Ent o R fun w => RdQ w c.q) (h : St o w R) :
    CallV Tryd.prog Z 18 #[.agg a.cells.toArray, .agg c.cells.toArray] w fun r w' => (∃ b, r = .bool b ∧ (b = true ↔ a.hd = c.hd ∧ a.q.st = c.q.st)) ∧ St o w' R := by
  refine f18.calls ?_
  unfold f18.sh
  refine r_box _ _ h fun g1 w1 hS => ?_
  refine r_box _ _ hS fun g2 w2 hS => ?_
  have hS : St o w2 (blk g2 36 c.cells :: blk g1 36 a.cells :: R) := hS
  have bad : ∀ {w' : World}, ¬ (a.hd = c.hd ∧ a.q.st = c.q.st) → St o w' (blk g2 36 c.cells :: blk g1 36 a.cells :: R) → ((∃ b, Value.bool false = .bool b ∧ (b = true ↔ a.hd = c.hd ∧ a.q.st = c.q.st)) ∧ St o w' R) :=
    fun hne hS => ⟨⟨_, rfl, ⟨fun h => (by cases h), fun e => absurd e hne⟩⟩, hS.drop.drop⟩
  (try simp only [fa_36_1, Nat.zero_add, fa_36_2, fa_36_0, Nat.add_zero])
  refine r_loadN ag26 (xs := zx a.e a.n) rfl (hS.cells_at m1 0 (zx_at a)) ?_
  refine r_loadN ag26 (xs := zx c.e c.n) rfl (hS.cells_at m0 0 (zx_at c)) ?_
  refine r1 (eqZx a.e a.n c.e c.n _) ?_
  by_cases hz : a.e = c.e ∧ a.n = c.n
  case neg =>
    have e : ((a.e == c.e) && (a.n == c.n)) = false := by
      by_cases h1 : a.e = c.e <;> by_cases h2 : a.n = c.n <;> simp [h1, h2]
      exact hz ⟨h1, h2⟩
    rw [e]
    (try simp only [o_pickF, guardW_ft])
    exact bad (fun h => hz ⟨congrArg Hd.e h.1, congrArg Hd.n h.1⟩) hS
  have e : ((a.e == c.e) && (a.n == c.n)) = true := by simp [hz.1, hz.2]
  rw [e]
  (try simp only [o_pickT, guardW_true])
  refine r_loadN ag29 (xs := orC a.sv a.bo a.nu) rfl (hS.cells_at m1 2 (or_at a)) ?_
  refine r_loadN ag29 (xs := orC c.sv c.bo c.nu) rfl (hS.cells_at m0 2 (or_at c)) ?_
  refine r1 (eqOr a.sv a.bo a.nu c.sv c.bo c.nu _) ?_
  by_cases ho : a.sv = c.sv ∧ a.bo = c.bo ∧ a.nu = c.nu
  case neg =>
    rw [decide_eq_false ho]
    (try simp only [o_pickF, guardW_ft])
    exact bad (fun h => ho ⟨congrArg Hd.sv h.1, congrArg Hd.bo h.1, congrArg Hd.nu h.1⟩) hS
  rw [decide_eq_true ho]
  (try simp only [o_pickT, guardW_true])
  refine r_loadN ag34 (xs := a.q.cells) rfl (hS.cells_at m1 5 (rq_at a)) ?_
  refine r_loadN ag34 (xs := c.q.cells) rfl (hS.cells_at m0 5 (rq_at c)) ?_
  refine (sameQ Z a.q c.q (fun w hw => hx w hw.drop.drop) (fun w hw => hy w hw.drop.drop) hS).mono fun r w3 ⟨⟨b, hr, hb⟩, hS⟩ => ?_
  subst hr
  skip
  refine ⟨⟨b, rfl, hb.trans ⟨fun h => ⟨?_, h⟩, fun h => h.2⟩⟩, hS.drop.drop⟩
  show (⟨a.e, a.n, a.sv, a.bo, a.nu⟩ : Hd) = ⟨c.e, c.n, c.sv, c.bo, c.nu⟩
  rw [hz.1, hz.2, ho.1, ho.2.1, ho.2.2]
end
end Go.Proofs.YtfjolpjlajjigaaDoor
