/- Large; copies. -/
import Derived.Test.YtfjolpjlajjigaaDoorT22
set_option linter.unusedVariables false
set_option linter.unusedSimpArgs false
namespace Go.Proofs.YtfjolpjlajjigaaDoor
open Go.Sh
theorem flatC_take {α : Type} (c : α → List Value) (l : List α) (i : Nat) (hi : i < l.length) : ((l.take (i + 1)).map c).flatten = ((l.take i).map c).flatten ++ c l[i] := by
  rw [List.take_succ_eq_append_getElem hi, List.map_append, List.flatten_append]; simp
section
variable (Z : List PanicEntry → World → Prop) {o w : World} {R As : List HProp}
theorem partsC (q : Rq) : ∀ (n : Int) {w : World} {R : List HProp}, (Ent o R fun w => RdQ w q) → St o w R → CallV Tryd.prog Z 90 #[.agg q.cells.toArray, .int .i64 n] w fun r w' => (∃ k : Int, r = .int .i64 k) ∧ St o w' R := by
  induction q using Rq.ind with | h q ih => ?_
  intro n w R hx h
  obtain ⟨ad, cd, ed⟩ := (hx w h).flat.data.form
  obtain ⟨aa, ca, ea⟩ := (hx w h).flat.acl.form
  obtain ⟨aw, cw, ew⟩ := (hx w h).flat.who.form
  obtain ⟨ao, co, eo⟩ := (hx w h).row.form
  have hle := (hx w h).row.2.1
  simp only [maxLen] at hle
  refine f90.calls ?_
  unfold f90.sh
  refine r_box _ _ h fun g w1 hS => ?_
  have hS : St o w1 (blk g 34 q.cells :: R) := hS
  (try simp only [fa_34_10, Nat.zero_add, fa_34_9, fa_34_3, fa_34_2, o_add])
  refine r_load one22 (hS.at m0 2 (congrArg some ed)) ?_
  (try simp only [ln_22_3, o_add])
  refine r_load one30 (hS.at m0 3 (congrArg some ea)) ?_
  (try simp only [ln_30_3, o_add])
  refine r_load one31 (hS.at m0 9 (congrArg some ew)) ?_
  (try simp only [ln_31_3, o_add])
  refine ⟨fun m a y w' => ∃ (i : Nat) (k : Int), a = .int .i64 k ∧ y = .int .i64 i ∧ m + i = q.ops.length ∧ St o w' (blk g 34 q.cells :: R), ⟨q.ops.length, 0, _, rfl, rfl, rfl, hS⟩, ?_⟩
  clear hS
  rintro m _ _ w2 ⟨i, k, rfl, rfl, hi, hS⟩ _
  refine r_load one32 (hS.at m0 10 (congrArg some eo)) ?_
  (try simp only [o_add, ln_32_3, o_lss])
  by_cases hlt : (i : Int) < (q.ops.length : Int)
  · have hil : i < q.ops.length := by omega
    (try simp only [hlt, decide_true, o_pickT, guardW_true, o_leq, cond_decide])
    refine ⟨fun hk => ?_, fun hk => ⟨⟨_, rfl⟩, hS.drop⟩⟩
    have hrow := (hx w2 hS.drop).rowR
    rw [eo] at hrow
    obtain ⟨b, p, cs, hp, _, hcv, hc⟩ := hrow.ix el32 .i64 i hil
    subst hcv
    refine r_load one32 (hS.at m0 10 (congrArg some eo)) ?_
    refine r1 (hp _) (r_loadN ag34 (xs := q.ops[i].cells) rfl (fun j u hu => by rw [add_addr]; exact hc j u hu) ?_)
    refine (ih q.ops[i] (List.getElem_mem hil) k (fun w hw => (hx w hw.drop).all _ (List.getElem_mem hil)) hS).mono fun r w3 ⟨⟨k2, hr⟩, hS⟩ => ?_
    subst hr
    skip
    rw [wr_i64 (x := (i : Int) + 1) (by omega) (by omega)]
    exact ⟨m - 1, by omega, i + 1, k2, rfl, rfl, by omega, hS⟩
  · (try simp only [hlt, decide_false, o_pickF, condF, guardW_ft])
    exact ⟨⟨_, rfl⟩, hS.drop⟩
theorem partsQ (q : Rq) (hx : Ent o R fun w => RdQ w q) (h : St o w R) : CallV Tryd.prog Z 51 #[.agg q.cells.toArray] w fun r w' => (∃ k : Int, r = .int .i64 k) ∧ St o w' R := by
  refine f51.calls ?_
  unfold f51.sh
  refine r_box _ _ h fun g w1 hS => ?_
  have hS : St o w1 (blk g 34 q.cells :: R) := hS
  refine r_loadN ag34 (xs := q.cells) rfl (hS.cells_at m0 0 (whole_at _)) ?_
  exact (partsC Z q 0 (fun w hw => hx w hw.drop) hS).mono fun r w2 ⟨h1, hS⟩ => ⟨h1, hS.drop⟩
theorem largeC (q : Rq) (hx : Ent o R fun w => RdQ w q) (h : St o w R) : CallV Tryd.prog Z 15 #[.agg q.cells.toArray] w fun r w' => (∃ b : Bool, r = .bool b) ∧ St o w' R := by
  refine f15.calls ?_
  unfold f15.sh
  refine r_box _ _ h fun g w1 hS => ?_
  have hS : St o w1 (blk g 34 q.cells :: R) := hS
  refine r_loadN ag34 (xs := q.cells) rfl (hS.cells_at m0 0 (whole_at _)) ?_
  refine (partsQ Z q (fun w hw => hx w hw.drop) hS).mono fun r w2 ⟨⟨k, hr⟩, hS⟩ => ?_
  subst hr
  (try simp only [o_gtr])
  exact ⟨⟨_, rfl⟩, hS.drop⟩
theorem copyAcl {x : Value} {l : List En} (h : St o w R) (hx : Ent o R fun w => Rd w 3 x l.length (l.map enC).flatten) (hl : l.length * 40 ≤ 140737488351232) :
    CallV Tryd.prog Z 91 #[x] w fun r w' => St o w' (own 105 3 r l.length (l.map enC).flatten :: R) := by
  obtain ⟨a, c, rfl⟩ := (hx w h).form
  refine f91.calls ?_
  unfold f91.sh
  (try simp only [ln_30_3])
  refine ⟨fun m v y w' => ∃ i : Nat, y = .int .i64 i ∧ m + i = l.length ∧ St o w' (own 105 3 v i ((l.take i).map enC).flatten :: R), ⟨l.length, 0, rfl, rfl, by simpa using h.own_nil 105 3⟩, ?_⟩
  rintro m v _ w1 ⟨i, rfl, hi, hS⟩ _
  by_cases hlt : (i : Int) < (l.length : Int)
  · have hil : i < l.length := by omega
    obtain ⟨b, p, cs, hp, _, hcv, hc⟩ := (rowR_rd (c := enC) (fun x => rfl) (hx w1 hS.drop) rfl).ix el30 .i64 i hil
    subst hcv
    (try simp only [o_add, o_lss, hlt, decide_true, condT])
    refine r1 (hp _) (r_loadN ag105 (xs := enC l[i]) rfl (fun j u hu => by rw [add_addr]; exact hc j u hu) ?_)
    refine r_pushN el30 hS (enC l[i]) rfl (enB_ones _) (by omega) (by omega) (by simp only [maxLen]; omega) fun v' w2 hS => ?_
    skip
    rw [wr_i64 (x := (i : Int) + 1) (by omega) (by omega)]
    refine ⟨m - 1, by omega, i + 1, rfl, by omega, ?_⟩
    rw [flatC_take _ _ _ hil]
    exact hS
  · obtain rfl : i = l.length := by omega
    rw [List.take_length] at hS
    (try simp only [o_add, o_lss, hlt, decide_false, condF])
    exact hS
theorem copyIds {x : Value} {l : List Idd} (h : St o w R) (hx : Ent o R fun w => Rd w 2 x l.length (l.map idC).flatten) (hl : l.length * 32 ≤ 140737488351232) :
    CallV Tryd.prog Z 92 #[x] w fun r w' => St o w' (own 103 2 r l.length (l.map idC).flatten :: R) := by
  obtain ⟨a, c, rfl⟩ := (hx w h).form
  refine f92.calls ?_
  unfold f92.sh
  (try simp only [ln_31_3])
  refine ⟨fun m v y w' => ∃ i : Nat, y = .int .i64 i ∧ m + i = l.length ∧ St o w' (own 103 2 v i ((l.take i).map idC).flatten :: R), ⟨l.length, 0, rfl, rfl, by simpa using h.own_nil 103 2⟩, ?_⟩
  rintro m v _ w1 ⟨i, rfl, hi, hS⟩ _
  by_cases hlt : (i : Int) < (l.length : Int)
  · have hil : i < l.length := by omega
    obtain ⟨b, p, cs, hp, _, hcv, hc⟩ := (rowR_rd (c := idC) (fun x => rfl) (hx w1 hS.drop) rfl).ix el31 .i64 i hil
    subst hcv
    (try simp only [o_add, o_lss, hlt, decide_true, condT])
    refine r1 (hp _) (r_loadN ag103 (xs := idC l[i]) rfl (fun j u hu => by rw [add_addr]; exact hc j u hu) ?_)
    refine r_pushN el31 hS (idC l[i]) rfl (idB_ones _) (by omega) (by omega) (by simp only [maxLen]; omega) fun v' w2 hS => ?_
    skip
    rw [wr_i64 (x := (i : Int) + 1) (by omega) (by omega)]
    refine ⟨m - 1, by omega, i + 1, rfl, by omega, ?_⟩
    rw [flatC_take _ _ _ hil]
    exact hS
  · obtain rfl : i = l.length := by omega
    rw [List.take_length] at hS
    (try simp only [o_add, o_lss, hlt, decide_false, condF])
    exact hS
theorem copyQ (q : Rq) (hw : WfQ q) : ∀ {w : World} {R : List HProp}, (Ent o R fun w => RdQ w q) → St o w R → CallV Tryd.prog Z 52 #[.agg q.cells.toArray] w fun r w' => ∃ q', r = .agg q'.cells.toArray ∧ q'.st = q.st ∧ St o w' (OwQ q' :: R) := by
  induction q using Rq.ind with | h q ih => ?_
  intro w R hx h
  refine f52.calls ?_
  unfold f52.sh
  refine r_box _ _ h fun g1 w1 hS => ?_
  refine r_alloc hS ze34 fun g2 w2 hS => ?_
  have hS : St o w2 (blk g2 34 (rqC zf (.slice none 0 0) (.slice none 0 0) (.slice none 0 0) (.slice none 0 0)) :: blk g1 34 q.cells :: R) := hS
  refine r_loadN ag34 (xs := q.cells) rfl (hS.cells_at m1 0 (whole_at _)) ?_
  have hq := (hx w2 hS.drop.drop).ones
  refine r_alloc hS ze34 fun g3 w3 hS => ?_
  refine r_storeN hS ag34 (xs := q.cells) rfl (show 0 + 11 ≤ 11 from Nat.le_refl _) hq fun w4 hS => ?_
  rw [setL_all _ _ (by rfl)] at hS
  (try simp only [fa_34_10p, Nat.zero_add, fa_34_10, fa_34_9, fa_34_3, fa_34_2])
  refine r_load one22 (hS.at m2 2 rfl) ?_
  refine (copyBytes Z (l := q.f.data) hS (fun w hS => (hx w hS.drop.drop.drop).flat.data) (by have := hw.flat.data; omega)).mono fun vd w5 hS => ?_
  have h1 := St.own_one hS
  refine r_store hS.swap one22 (by simp [Rq.cells, rqC]) h1 fun w6 hS => ?_
  refine r_load one30 (hS.at m3 3 rfl) ?_
  refine (copyAcl Z (l := q.f.acl) hS (fun w hS => (hx w hS.drop.drop.drop.drop).flat.acl) hw.flat.acl.1).mono fun va w7 hS => ?_
  have h2 := St.own_one hS
  refine r_store hS.swap one30 (by simp [Rq.cells, rqC]) h2 fun w8 hS => ?_
  refine r_load one31 (hS.at m4 9 rfl) ?_
  refine (copyIds Z (l := q.f.who) hS (fun w hS => (hx w hS.drop.drop.drop.drop.drop).flat.who) hw.flat.who.1).mono fun vw w9 hS => ?_
  have h3 := St.own_one hS
  refine r_store hS.swap one31 (by simp [Rq.cells, rqC]) h3 fun w10 hS => ?_
  refine r_store hS one32 (by simp [Rq.cells, rqC]) rfl fun w11 hS => ?_
  have hS : St o w11 (blk g3 34 (rqC q.f vd va vw (.slice none 0 0)) :: own 103 2 vw q.f.who.length (q.f.who.map idC).flatten :: own 105 3 va q.f.acl.length (q.f.acl.map enC).flatten :: own 5 1 vd q.f.data.length (cb q.f.data) :: blk g2 34 (rqC zf (.slice none 0 0) (.slice none 0 0) (.slice none 0 0) (.slice none 0 0)) :: blk g1 34 q.cells :: R) := hS
  have hS : St o w11 (OwF q.f vd va vw :: blk g3 34 (rqC q.f vd va vw (.slice none 0 0)) :: blk g2 34 (rqC zf (.slice none 0 0) (.slice none 0 0) (.slice none 0 0) (.slice none 0 0)) :: blk g1 34 q.cells :: R) := by
    have a2 : St o w11 (own 105 3 va q.f.acl.length (q.f.acl.map enC).flatten :: own 103 2 vw q.f.who.length (q.f.who.map idC).flatten :: _) := ((hS.pick 1).pick 2)
    exact ((a2.sep_intro).pick 2).sep_intro
  obtain ⟨ao, co, eo⟩ := (hx w11 hS.drop.drop.drop.drop).row.form
  have hle := (hx w11 hS.drop.drop.drop.drop).row.2.1
  simp only [maxLen] at hle
  have hwl := hw.len
  have hone3 : ∀ v : Value, v.oneCell' = true → ones (rqC q.f vd va vw v) := fun v hv => rqC_ones h1 h2 h3 hv
  skip
  refine ⟨fun m y w' => ∃ (i : Nat) (xs : List Rq) (v : Value), y = .int .i64 i ∧ m + i = q.ops.length ∧ xs.length = i ∧ xs.map Rq.st = (q.ops.take i).map Rq.st ∧
      St o w' (own 34 11 v i (xs.map Rq.cells).flatten :: satH (xs.map OwQ) :: OwF q.f vd va vw :: blk g3 34 (rqC q.f vd va vw v) :: blk g2 34 (rqC zf (.slice none 0 0) (.slice none 0 0) (.slice none 0 0) (.slice none 0 0)) :: blk g1 34 q.cells :: R),
    ⟨q.ops.length, 0, [], .slice none 0 0, rfl, rfl, rfl, rfl, (hS.emp.mono fun _ _ => (trivial : satH (([] : List Rq).map OwQ) _)).own_nil 34 11⟩, ?_⟩
  clear hS
  rintro m _ w12 ⟨i, xs, v, rfl, hi, hxl, hst, hS⟩ _
  refine r_load one32 (hS.at m5 10 (congrArg some eo)) ?_
  (try simp only [o_add, ln_32_3, o_lss, cond_decide])
  refine ⟨fun hlt => ⟨fun w13 hd => ?_⟩, fun hlt => ?_⟩
  · have hil : i < q.ops.length := by omega
    have hmem : q.ops[i] ∈ q.ops := List.getElem_mem hil
    have hS := hS.drew hd
    have hrow := (hx w13 hS.drop.drop.drop.drop.drop.drop).rowR
    rw [eo] at hrow
    obtain ⟨b, p, cs, hp, _, hcv, hc⟩ := hrow.ix el32 .i64 i hil
    subst hcv
    refine rr_load one32 (hS.at m3 10 rfl) ?_
    refine rr_load one32 (hS.at m5 10 (congrArg some eo)) ?_
    refine rp hp (rr_loadN ag34 (xs := q.ops[i].cells) rfl (fun j u hu => by rw [add_addr]; exact hc j u hu) ?_)
    refine (ih q.ops[i] hmem (hw.all _ hmem) (fun w hw => (hx w hw.drop.drop.drop.drop.drop.drop).all _ hmem) hS).mono fun r w14 ⟨x', hr, hxst, hS⟩ => ?_
    subst hr
    refine rs_load one32 (hS.at m6 10 (congrArg some eo)) (rs_load one32 (hS.at m4 10 rfl) ?_)
    have hxo := (OwQ.rd _ hS).ones
    refine r_sliceN el32 hS 1 _ [x'.cells] rfl (by omega) (by omega) (by omega) (by simp [Rq.cells_len]) rfl fun gb w15 hS => ?_
    have e1 : [x'.cells].flatten = x'.cells := by simp
    rw [e1] at hS
    refine rs_load one32 (hS.at m7 10 (congrArg some eo)) (rs_load one32 (hS.at m5 10 rfl) ?_)
    have hsrc := (hS.own_rd m0).src Tryd.underlying32 hxo
    refine r_append el32 (hS.pick 2) hsrc (by omega) (by simp only [maxLen]; omega) fun v' w16 hS => ?_
    have hone := St.own_one hS
    refine rs_load one32 (hS.at m7 10 (congrArg some eo)) ?_
    skip
    refine r_store (hS.pick 5) one32 (by simp [rqC]) hone fun w17 hS => ?_
    rw [wr_i64 (x := (i : Int) + 1) (by omega) (by omega)]
    refine ⟨m - 1, by omega, i + 1, xs ++ [x'], v', rfl, by omega, by simp [hxl], ?_, ?_⟩
    · rw [List.take_succ_eq_append_getElem hil, List.map_append, List.map_append, hst]
      simp [hxst]
    · have e2 : ((xs ++ [x']).map Rq.cells).flatten = (xs.map Rq.cells).flatten ++ x'.cells := by simp
      have e3 : (xs ++ [x']).map OwQ = xs.map OwQ ++ [OwQ x'] := by simp
      rw [e2, e3]
      have b1 := (hS.pick 2).drop
      exact (((((b1.pick 2).pick 3).all_snoc).pick 2).pick 3).put 2
  · obtain rfl : i = q.ops.length := by omega
    rw [List.take_length] at hst
    have hone := St.own_one hS
    refine r_loadN ag34 (xs := rqC q.f vd va vw v) rfl (hS.cells_at m3 0 (whole_at _)) ?_
    refine r_storeN (hS.pick 4) ag34 (xs := rqC q.f vd va vw v) rfl (show 0 + 11 ≤ 11 from Nat.le_refl _) (hone3 v hone) fun w13 hS => ?_
    rw [setL_all _ _ (by rfl)] at hS
    refine r_resN ag34 (xs := rqC q.f vd va vw v) rfl (hS.cells_at m0 0 (whole_at _)) ?_
    refine ⟨.mk q.f vd va vw v xs, rfl, (st_iff _ _).2 ⟨rfl, hst⟩, ?_⟩
    rw [OwQ_eq]
    have b1 := hS.drop.sep_intro.swap.sep_intro.swap.drop.swap.drop
    rw [← hxl] at b1
    exact b1
theorem copyT (t : Tx) (hw : WfQ t.q) (hx : Ent o R fun w => RdQ w t.q) (h : St o w R) : CallV Tryd.prog Z 16 #[.agg t.cells.toArray] w fun r w' => ∃ t' : Tx, r = .agg t'.cells.toArray ∧ t'.hd = t.hd ∧ t'.q.st = t.q.st ∧ St o w' (OwQ t'.q :: R) := by
  refine f16.calls ?_
  unfold f16.sh
  refine r_box _ _ h fun g1 w1 hS => ?_
  refine r_alloc hS ze36 fun g2 w2 hS => ?_
  have hS : St o w2 (blk g2 36 zTx :: blk g1 36 t.cells :: R) := hS
  (try simp only [fa_36_2, Nat.zero_add])
  refine r_loadN ag34 (xs := t.q.cells) rfl (hS.cells_at m1 5 (rq_at t)) ?_
  refine (copyQ Z t.q hw (fun w hw => hx w hw.drop.drop) hS).mono fun r w3 ⟨q', hr, hst, hS⟩ => ?_
  subst hr
  have hqo := (OwQ.rd _ hS).ones
  refine r_storeN (hS.pick 2) ag34 (xs := q'.cells) rfl (show 5 + 11 ≤ 16 from Nat.le_refl _) hqo fun w4 hS => ?_
  have hS : St o w4 (blk g1 36 (Tx.cells ⟨t.e, t.n, t.sv, t.bo, t.nu, q'⟩) :: OwQ q' :: blk g2 36 zTx :: R) := hS
  refine r_loadN ag36 (xs := Tx.cells ⟨t.e, t.n, t.sv, t.bo, t.nu, q'⟩) rfl (hS.cells_at m0 0 (whole_at _)) ?_
  refine r_storeN (hS.pick 2) ag36 (xs := Tx.cells ⟨t.e, t.n, t.sv, t.bo, t.nu, q'⟩) rfl (show 0 + 16 ≤ 16 from Nat.le_refl _) (txC_ones hqo) fun w5 hS => ?_
  rw [setL_all _ _ (by rfl)] at hS
  refine r_resN ag36 (xs := Tx.cells ⟨t.e, t.n, t.sv, t.bo, t.nu, q'⟩) rfl (hS.cells_at m0 0 (whole_at _)) ?_
  exact ⟨⟨t.e, t.n, t.sv, t.bo, t.nu, q'⟩, rfl, rfl, hst, hS.drop.drop⟩
end
end Go.Proofs.YtfjolpjlajjigaaDoor
