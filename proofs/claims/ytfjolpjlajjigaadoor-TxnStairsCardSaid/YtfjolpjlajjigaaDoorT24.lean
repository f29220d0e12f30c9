/- Lists of transactions: LargeTxns, CopyTxns, Rises. -/
import Derived.Test.YtfjolpjlajjigaaDoorT23
set_option linter.unusedVariables false
set_option linter.unusedSimpArgs false
namespace Go.Proofs.YtfjolpjlajjigaaDoor
open Go.Sh
def RdT (w : World) (v : Value) (ts : List Tx) : Prop := Rd w 16 v ts.length (ts.map Tx.cells).flatten ∧ ∀ t ∈ ts, RdQ w t.q
def WfT (ts : List Tx) : Prop := ts.length * 168 ≤ 140737488351232 ∧ ∀ t ∈ ts, wfH t.hd ∧ WfQ t.q
def OwT (ts : List Tx) : HProp := satH (ts.map fun t => OwQ t.q)
theorem OwT.rd {o w : World} {R : List HProp} {v : Value} {ts : List Tx} (h : St o w (own 36 16 v ts.length (ts.map Tx.cells).flatten :: OwT ts :: R)) : RdT w v ts := by
  refine ⟨h.own_rd m0, fun t ht => ?_⟩
  obtain ⟨As, Bs, e⟩ := List.append_of_mem ht
  have h3 := h.swap
  unfold OwT at h3
  rw [e, List.map_append, List.map_cons] at h3
  exact OwQ.rd _ h3.all_out
def ls (e n e' n' : Int) : Prop := e * 4294967296 + n < e' * 4294967296 + n'
instance (e n e' n' : Int) : Decidable (ls e n e' n') := by unfold ls; infer_instance
theorem ls_cmp {e n e' n' : Int} (hn : u32r n) (hn' : u32r n') : decide (cmpZ e n e' n' < 0) = decide (ls e n e' n') := by
  have h := (cmpZ_pack (e := e) (e' := e') hn hn').1
  have h := eq_of_beq h
  rw [← h]; rfl
/-- Do zxids rise, from one on? -/
def rises (e n : Int) : List (Int × Int) → Bool
  | [] => true
  | z :: l => decide (ls e n z.1 z.2) && rises z.1 z.2 l
def zxs (ts : List Tx) : List (Int × Int) := ts.map fun t => (t.e, t.n)
section
variable (Z : List PanicEntry → World → Prop) {o w : World} {R As : List HProp}
theorem largeTs {v : Value} {ts : List Tx} (hx : Ent o R fun w => RdT w v ts) (h : St o w R) : CallV Tryd.prog Z 23 #[v] w fun r w' => (∃ b : Bool, r = .bool b) ∧ St o w' R := by
  obtain ⟨a, c, rfl⟩ := (hx w h).1.form
  have hle := (hx w h).1.2.1
  simp only [maxLen] at hle
  refine f23.calls ?_
  unfold f23.sh
  (try simp only [ln_56_3])
  refine ⟨fun m k y w' => ∃ (i : Nat) (n : Int), k = .int .i64 n ∧ y = .int .i64 i ∧ m + i = ts.length ∧ St o w' R, ⟨ts.length, 0, 0, rfl, rfl, rfl, h⟩, ?_⟩
  rintro m _ _ w2 ⟨i, n, rfl, rfl, hi, hS⟩ _
  by_cases hlt : (i : Int) < (ts.length : Int)
  · have hil : i < ts.length := by omega
    have hmem : ts[i] ∈ ts := List.getElem_mem hil
    (try simp only [o_add, o_gtr, o_lss, hlt, decide_true, o_pickT, guardW_true, o_leq, cond_decide])
    refine ⟨fun hk => ?_, fun hk => ⟨⟨_, rfl⟩, hS⟩⟩
    obtain ⟨b, p, cs, hp, _, hcv, hc⟩ := (rowR_rd (c := Tx.cells) (fun x => rfl) (hx w2 hS).1 rfl).ix el56 .i64 i hil
    subst hcv
    refine r1 (hp _) ?_
    (try simp only [fa_36_2])
    refine r_loadN ag34 (xs := ts[i].q.cells) rfl (fun j u hu => by rw [add_addr, Nat.add_assoc]; exact hc _ u (rq_at _ j u hu)) ?_
    refine (largeC Z ts[i].q (fun w hw => (hx w hw).2 _ hmem) hS).mono fun r w3 ⟨⟨bb, hr⟩, hS⟩ => ?_
    subst hr
    refine cond_or (fun _ => ⟨⟨_, rfl⟩, hS⟩) fun _ => ?_
    obtain ⟨b, p, cs, hp, _, hcv, hc⟩ := (rowR_rd (c := Tx.cells) (fun x => rfl) (hx w3 hS).1 rfl).ix el56 .i64 i hil
    subst hcv
    skip
    refine r1 (hp _) ?_
    (try simp only [fa_36_2])
    refine r_loadN ag34 (xs := ts[i].q.cells) rfl (fun j u hu => by rw [add_addr, Nat.add_assoc]; exact hc _ u (rq_at _ j u hu)) ?_
    refine (partsQ Z ts[i].q (fun w hw => (hx w hw).2 _ hmem) hS).mono fun r w4 ⟨⟨k2, hr⟩, hS⟩ => ?_
    subst hr
    (try simp only [o_add])
    rw [wr_i64 (x := (i : Int) + 1) (by omega) (by omega)]
    exact ⟨m - 1, by omega, i + 1, _, rfl, rfl, by omega, hS⟩
  · (try simp only [o_add, o_gtr, o_lss, hlt, decide_false, o_pickF, condF, guardW_ft])
    exact ⟨⟨_, rfl⟩, hS⟩
theorem copyTs {v : Value} {ts : List Tx} (hw : WfT ts) (hx : Ent o R fun w => RdT w v ts) (h : St o w R) : CallV Tryd.prog Z 25 #[v] w fun r w' => ∃ ts' : List Tx, ts'.map Tx.hd = ts.map Tx.hd ∧ ts'.map (fun t => t.q.st) = ts.map (fun t => t.q.st) ∧
    St o w' (own 36 16 r ts'.length (ts'.map Tx.cells).flatten :: OwT ts' :: R) := by
  obtain ⟨a, c, rfl⟩ := (hx w h).1.form
  have hle := (hx w h).1.2.1
  simp only [maxLen] at hle
  have hwl := hw.1
  refine f25.calls ?_
  unfold f25.sh
  (try simp only [ln_56_3])
  refine ⟨fun m v y w' => ∃ (i : Nat) (xs : List Tx), y = .int .i64 i ∧ m + i = ts.length ∧ xs.length = i ∧ xs.map Tx.hd = (ts.take i).map Tx.hd ∧ xs.map (fun t => t.q.st) = (ts.take i).map (fun t => t.q.st) ∧
      St o w' (own 36 16 v i (xs.map Tx.cells).flatten :: OwT xs :: R),
    ⟨ts.length, 0, [], rfl, rfl, rfl, rfl, rfl, (h.emp.mono fun _ _ => (trivial : OwT [] _)).own_nil 36 16⟩, ?_⟩
  clear h
  rintro m v _ w2 ⟨i, xs, rfl, hi, hxl, hhd, hst, hS⟩ _
  by_cases hlt : (i : Int) < (ts.length : Int)
  · have hil : i < ts.length := by omega
    have hmem : ts[i] ∈ ts := List.getElem_mem hil
    obtain ⟨b, p, cs, hp, _, hcv, hc⟩ := (rowR_rd (c := Tx.cells) (fun x => rfl) (hx w2 hS.drop.drop).1 rfl).ix el56 .i64 i hil
    subst hcv
    (try simp only [o_add, o_lss, hlt, decide_true, condT])
    refine r1 (hp _) (r_loadN ag36 (xs := ts[i].cells) rfl (fun j u hu => by rw [add_addr]; exact hc j u hu) ?_)
    refine (copyT Z ts[i] (hw.2 _ hmem).2 (fun w hw => (hx w hw.drop.drop).2 _ hmem) hS).mono fun r w3 ⟨t', hr, h1, h2, hS⟩ => ?_
    subst hr
    have hxo := txC_ones (OwQ.rd _ hS).ones
    refine r_pushN el56 hS.swap t'.cells rfl hxo (by omega) (by omega) (by simp only [maxLen]; omega) fun v' w4 hS => ?_
    skip
    rw [wr_i64 (x := (i : Int) + 1) (by omega) (by omega)]
    refine ⟨m - 1, by omega, i + 1, xs ++ [t'], rfl, by omega, by simp [hxl], ?_, ?_, ?_⟩
    · rw [List.take_succ_eq_append_getElem hil, List.map_append, List.map_append, hhd]; simp [h1]
    · rw [List.take_succ_eq_append_getElem hil, List.map_append, List.map_append, hst]; simp [h2]
    · have e2 : ((xs ++ [t']).map Tx.cells).flatten = (xs.map Tx.cells).flatten ++ t'.cells := by simp
      have e3 : OwT (xs ++ [t']) = satH (xs.map (fun t => OwQ t.q) ++ [OwQ t'.q]) := by simp [OwT]
      rw [e2, e3]
      exact (((hS.pick 1).pick 2).all_snoc).swap
  · obtain rfl : i = ts.length := by omega
    rw [List.take_length] at hhd hst
    (try simp only [o_add, o_lss, hlt, decide_false, condF])
    exact ⟨xs, hhd, hst, by rw [hxl]; exact hS⟩
theorem risesC {v : Value} {ts : List Tx} {e n : Int} (hn : u32r n) (hns : ∀ t ∈ ts, u32r t.n) (hx : Ent o R fun w => RdT w v ts) (h : St o w R) : CallV Tryd.prog Z 24 #[.agg (zx e n).toArray, v] w fun r w' => r = .bool (rises e n (zxs ts)) ∧ St o w' R := by
  obtain ⟨a, c, rfl⟩ := (hx w h).1.form
  have hle := (hx w h).1.2.1
  simp only [maxLen] at hle
  refine f24.calls ?_
  unfold f24.sh
  refine r_box _ _ h fun g w1 hS => ?_
  have hS : St o w1 (blk g 26 (zx e n) :: R) := hS
  (try simp only [ln_56_3])
  refine ⟨fun m y w' => ∃ (i : Nat) (pe pn : Int), y = .int .i64 i ∧ m + i = ts.length ∧ u32r pn ∧ rises e n (zxs ts) = rises pe pn (zxs (ts.drop i)) ∧ St o w' (blk g 26 (zx pe pn) :: R), ⟨ts.length, 0, e, n, rfl, rfl, hn, rfl, hS⟩, ?_⟩
  clear hS
  rintro m _ w2 ⟨i, pe, pn, rfl, hi, hpn, hri, hS⟩ _
  by_cases hlt : (i : Int) < (ts.length : Int)
  · have hil : i < ts.length := by omega
    have hmem : ts[i] ∈ ts := List.getElem_mem hil
    obtain ⟨b, p, cs, hp, _, hcv, hc⟩ := (rowR_rd (c := Tx.cells) (fun x => rfl) (hx w2 hS.drop).1 rfl).ix el56 .i64 i hil
    subst hcv
    rw [List.drop_eq_getElem_cons hil] at hri
    have hri : rises e n (zxs ts) = (decide (ls pe pn ts[i].e ts[i].n) && rises ts[i].e ts[i].n (zxs (ts.drop (i + 1)))) := hri
    (try simp only [o_add, o_lss, hlt, decide_true, condT])
    refine r1 (hp _) (r_loadN ag36 (xs := ts[i].cells) rfl (fun j u hu => by rw [add_addr]; exact hc j u hu) ?_)
    have hq := txC_ones ((hx w2 hS.drop).2 _ hmem).ones
    refine r_alloc hS ze36 fun ge w5 hS => ?_
    refine r_storeN hS ag36 (xs := ts[i].cells) rfl (show 0 + 16 ≤ 16 from Nat.le_refl _) hq fun w6 hS => ?_
    rw [setL_all _ _ (by rfl)] at hS
    refine r_loadN ag26 (xs := zx pe pn) rfl (hS.cells_at m1 0 (whole_at _)) ?_
    (try simp only [fa_36_0, Nat.add_zero])
    refine r_loadN ag26 (xs := zx ts[i].e ts[i].n) rfl (hS.cells_at m0 0 (zx_at _)) ?_
    refine (txnCompare Z hS).mono fun r w7 ⟨hr, hS⟩ => ?_
    subst hr
    have hcmp := ls_cmp (e := pe) (n := pn) (e' := ts[i].e) (n' := ts[i].n) hpn (hns _ hmem)
    by_cases hl : cmpZ pe pn ts[i].e ts[i].n < 0
    · have hl' : ls pe pn ts[i].e ts[i].n := by rw [decide_eq_true hl] at hcmp; exact of_decide_eq_true hcmp.symm
      have hge : ¬ (0 : Int) ≤ cmpZ pe pn ts[i].e ts[i].n := by omega
      (try simp only [o_geq, hge, decide_false, condF])
      refine r_loadN ag26 (xs := zx ts[i].e ts[i].n) rfl (hS.cells_at m0 0 (zx_at _)) ?_
      refine r_storeN hS.swap ag26 (xs := zx ts[i].e ts[i].n) rfl (show 0 + 2 ≤ 2 from Nat.le_refl _) (zx_ones _ _) fun w8 hS => ?_
      rw [setL_all _ _ (by rfl)] at hS
      rw [wr_i64 (x := (i : Int) + 1) (by omega) (by omega)]
      refine ⟨m - 1, by omega, i + 1, ts[i].e, ts[i].n, rfl, by omega, hns _ hmem, ?_, hS.swap.drop⟩
      rw [hri, decide_eq_true hl', Bool.true_and]
    · have hl' : ¬ ls pe pn ts[i].e ts[i].n := by rw [decide_eq_false hl] at hcmp; exact of_decide_eq_false hcmp.symm
      have hge : (0 : Int) ≤ cmpZ pe pn ts[i].e ts[i].n := by omega
      (try simp only [o_geq, hge, decide_true, condT])
      exact ⟨by rw [hri, decide_eq_false hl']; rfl, hS.drop.drop⟩
  · obtain rfl : i = ts.length := by omega
    rw [List.drop_length] at hri
    (try simp only [o_add, o_lss, hlt, decide_false, condF])
    exact ⟨by rw [hri]; rfl, hS.drop⟩
end
end Go.Proofs.YtfjolpjlajjigaaDoor
