/- TxnChecks: the walk. -/
import Derived.Test.YtoeamecdkimgaaaDoorT33
set_option linter.unusedVariables false
set_option linter.unusedSimpArgs false
namespace Go.Proofs.YtoeamecdkimgaaaDoor
open Go.Sh
section
variable (Z : List PanicEntry → World → Prop) {o w : World} {R As : List HProp}
end
end Go.Proofs.YtoeamecdkimgaaaDoor

/- Lists of transactions with marks behind; TxnRises. -/
set_option linter.unusedVariables false
set_option linter.unusedSimpArgs false
namespace Go.Proofs.YtoeamecdkimgaaaDoor
open Go.Sh
def txM (i : Nat) : Tx := ⟨0, 0, 0, 0, -3000000 - (i : Int), .mk zf (.slice none 0 0) (.slice none 0 0) (.slice none 0 0) (.slice none 0 0) []⟩
def txK (t : Tx) : Hd × Qt := (t.hd, t.q.st)
def wdT (t : Tx) : HProp := WdQ t.q
theorem txK_hd {a b : List Tx} (h : a.map txK = b.map txK) : a.map Tx.hd = b.map Tx.hd := by
  have e : ∀ l : List Tx, l.map Tx.hd = (l.map txK).map Prod.fst := fun l => by rw [List.map_map]; rfl
  rw [e, e, h]
theorem txK_wf {a b : List Tx} (h : a.map txK = b.map txK) (hb : ∀ x ∈ b, WfQ x.q) : ∀ x ∈ a, WfQ x.q := by
  intro x hx
  have h1 : txK x ∈ b.map txK := by rw [← h]; exact List.mem_map_of_mem hx
  obtain ⟨y, hy, e⟩ := List.mem_map.1 h1
  exact WfQ_st _ _ (congrArg Prod.snd e) (hb y hy)
theorem wdTs_rd {o w : World} {R : List HProp} {g : Nat} {l : List Tx} (hl : l.length ≤ maxLen) (hwf : ∀ x ∈ l, WfQ x.q) (h : St o w (blk g 49 ((wide txM l).map Tx.cells).flatten :: satH (l.map wdT) :: R)) : RdT w (wv g l.length) l := by
  refine ⟨wide_rd Tx.cells_len hl h, fun t ht => ?_⟩
  obtain ⟨As, Bs, e⟩ := List.append_of_mem ht
  have h3 := h.swap
  rw [e, List.map_append, List.map_cons] at h3
  exact WdQ.rd _ (hwf t ht) h3.all_out
section
variable (Z : List PanicEntry → World → Prop) {o w : World} {R As : List HProp}
theorem wideTs {v : Value} (l : List Tx) (hT : Tab o) (hwl : l.length * 168 ≤ 140737488351232) (hwf : ∀ x ∈ l, WfQ x.q) (ho : old o ∈ R)
    (hx : Ent o R fun w => RdT w v l) (h : St o w R) :
    CallV Tryd.prog Z 18 #[v] w fun r w' => ∃ g l', r = wv g l.length ∧ l'.length = l.length ∧ l'.map txK = l.map txK ∧ St o w' (blk g 49 ((wide txM l').map Tx.cells).flatten :: satH (l'.map wdT) :: R) := by
  obtain ⟨a, c, rfl⟩ := (hx w h).1.form
  refine f18.calls ?_
  unfold f18.sh
  (try simp only [ln_22_3, o_add])
  rw [wr_i64 (x := (l.length : Int) + 64) (by omega) (by omega), show ((l.length : Int) + 64) = ((l.length + 64 : Nat) : Int) by omega]
  refine r_make el22 h .i64 .i64 (l.length + 64) (by omega) (by simp only [maxLen]; omega) fun g w1 hS1 => ?_
  (try simp only [ln_22_3])
  refine ⟨fun m y w' => ∃ (i : Nat) (xs : List Tx) (rest : List Value), y = .int .i64 i ∧ m + i = l.length + 64 ∧ xs.length = min i l.length ∧ xs.map txK = (l.take i).map txK ∧ rest.length = (l.length + 64 - i) * 16 ∧
      St o w' (own 49 16 (.slice (some ⟨g, 0, none⟩) (l.length + 64) (l.length + 64)) (l.length + 64) (((xs ++ (List.range (i - l.length)).map fun j => txM (l.length + j)).map Tx.cells).flatten ++ rest) :: satH (xs.map wdT) :: R),
    ⟨l.length + 64, 0, [], ?rest, rfl, rfl, by simp, rfl, ?len, ?st⟩, ?_⟩
  case st =>
    have e0 : (0 - l.length) = 0 := by omega
    rw [e0]
    exact (hS1.emp.mono fun _ _ => (trivial : satH (([] : List Tx).map wdT) _)).swap
  case len =>
    rw [Array.length_toList, size_madeCells]
    rfl
  clear hS1
  rintro m _ w2 ⟨i, xs, rest, rfl, hi, hxl, hst, hrl, hS⟩ _
  obtain ⟨info, hinfo, hsz, _, _⟩ := el22.info
  by_cases hlt : (i : Int) < ((l.length + 64 : Nat) : Int)
  · (try simp only [o_add, o_sub, o_lss, cond_decide, hlt, decide_true, condT])
    intro j hj
    have hpl : ((xs ++ (List.range (i - l.length)).map fun j => txM (l.length + j)).map Tx.cells).flatten.length = i * 16 := by
      rw [len_flatten_of (sz := 16) (fun d hd => by obtain ⟨y, _, rfl⟩ := List.mem_map.1 hd; rfl), List.length_map, List.length_append, List.length_map, List.length_range, hxl]
      have : min i l.length + (i - l.length) = i := by omega
      rw [this]
    have hge : 16 ≤ rest.length := by
      rw [hrl, show l.length + 64 - i = (l.length + 64 - (i + 1)) + 1 by omega, Nat.add_mul]
      omega
    have hrl2 : (rest.drop 16).length = (l.length + 64 - (i + 1)) * 16 := by
      rw [List.length_drop, hrl, show l.length + 64 - i = (l.length + 64 - (i + 1)) + 1 by omega, Nat.add_mul]
      omega
    have hset : ∀ us : List Value, us.length = 16 → setL (((xs ++ (List.range (i - l.length)).map fun j => txM (l.length + j)).map Tx.cells).flatten ++ rest) (i * 16) us = ((xs ++ (List.range (i - l.length)).map fun j => txM (l.length + j)).map Tx.cells).flatten ++ (us ++ rest.drop 16) := by
      intro us hus
      have h2 := setL_mid ((xs ++ (List.range (i - l.length)).map fun j => txM (l.length + j)).map Tx.cells).flatten (rest.take 16) us (rest.drop 16) (by rw [List.length_take, Nat.min_eq_left hge]; exact hus)
      rw [List.take_append_drop, hpl] at h2
      exact h2
    have hix : ∀ w : World, (Instr.indexAt 22 (.slice (some ⟨g, 0, none⟩) (l.length + 64) (l.length + 64)) (.int .i64 i)).run Tryd.prog w = .ok (.pointer (some ⟨g, 0 + (i : Int).toNat * info.size, none⟩)) w := fun w => run_indexAt Tryd.underlying22 hinfo g 0 (l.length + 64) (l.length + 64) .i64 i (by omega) (by omega) w
    refine ⟨fun hin => ?_, fun hin => ?_⟩
    · have hil : i < l.length := by omega
      have hmem : l[i] ∈ l := List.getElem_mem hil
      obtain ⟨b, p, cs, hp, _, hcv, hc⟩ := (rowR_rd Tx.cells_len (hx w2 hS.drop.drop).1 rfl).ix el22 .i64 i hil
      subst hcv
      refine r1 (hp _) (r_loadN ag49 (xs := l[i].cells) rfl (fun j u hu => by rw [add_addr]; exact hc j u hu) ?_)
      refine (wideT Z hT (List.mem_cons_of_mem _ (List.mem_cons_of_mem _ ho)) l[i] (hwf _ hmem) (fun w hw => (hx w hw.drop.drop).2 _ hmem) hS).mono fun r w3 ⟨q', hr, hqh, hqs, hS⟩ => ?_
      subst hr
      have hqo := txC_ones (WdQ.rd q'.q (WfQ_st _ _ hqs.symm (hwf _ hmem)) hS).ones
      have hqs : txK q' = txK l[i] := by unfold txK; rw [hqh, hqs]
      refine r1 (hix _) ?_
      refine r_store_ixN hS.swap el22 ag49 .i64 i (by omega) (hix _) (us := q'.cells) rfl hqo fun w4 hS => hj w4 fun _ => ?_
      rw [wr_i64 (x := (i : Int) + 1) (by omega) (by omega)]
      refine ⟨m - 1, by omega, i + 1, xs ++ [q'], rest.drop 16, rfl, by omega, by rw [List.length_append, hxl]; simp only [List.length_singleton]; omega, ?_, hrl2, ?_⟩
      · rw [List.take_succ_eq_append_getElem hil, List.map_append, List.map_append, hst]
        simp [hqs]
      · rw [hset _ rfl] at hS
        have e0 : i - l.length = 0 := by omega
        have e1 : i + 1 - l.length = 0 := by omega
        rw [e0] at hS
        rw [e1]
        have e2 : (((xs ++ [q']) ++ (List.range 0).map fun j => txM (l.length + j)).map Tx.cells).flatten ++ rest.drop 16 = ((xs ++ (List.range 0).map fun j => txM (l.length + j)).map Tx.cells).flatten ++ (q'.cells ++ rest.drop 16) := by simp
        have e3 : (xs ++ [q']).map wdT = xs.map wdT ++ [wdT q'] := by simp
        rw [e2, e3]
        exact (((hS.pick 1).pick 2).all_snoc).swap
    · rw [wr_i64 (x := -3000000 - (i : Int)) (by omega) (by omega)]
      generalize hs : -3000000 - (i : Int) = s
      refine r_build (cells := (orC 0 0 s).toArray) (by kernel_rfl) ?_
      refine r_build (cells := (zx 0 0 ++ (orC 0 0 s ++ rqC zf (.slice none 0 0) (.slice none 0 0) (.slice none 0 0) (.slice none 0 0))).toArray) (by kernel_rfl) ?_
      subst hs
      refine r1 (hix _) ?_
      refine r_store_ixN hS el22 ag49 .i64 i (by omega) (hix _) (us := (txM i).cells) rfl (txC_ones (rqC_ones rfl rfl rfl rfl)) fun w4 hS => hj w4 fun _ => ?_
      rw [wr_i64 (x := (i : Int) + 1) (by omega) (by omega)]
      refine ⟨m - 1, by omega, i + 1, xs, rest.drop 16, rfl, by omega, by rw [hxl]; omega, ?_, hrl2, ?_⟩
      · rw [hst, List.take_of_length_le (by omega), List.take_of_length_le (by omega)]
      · rw [hset _ rfl] at hS
        have e1 : i + 1 - l.length = (i - l.length) + 1 := by omega
        have e4 : l.length + (i - l.length) = i := by omega
        have e2 : ((xs ++ (List.range (i + 1 - l.length)).map fun j => txM (l.length + j)).map Tx.cells).flatten ++ rest.drop 16 = ((xs ++ (List.range (i - l.length)).map fun j => txM (l.length + j)).map Tx.cells).flatten ++ ((txM i).cells ++ rest.drop 16) := by
          rw [e1, List.range_succ]
          simp [e4]
        rw [e2]
        exact hS
  · obtain rfl : i = l.length + 64 := by omega
    (try simp only [o_add, o_sub, o_lss, cond_decide, hlt, decide_false, condF])
    refine r1 (run_slice_to el22 _ _ _ .i64 _ (by omega) (by omega) _) ?_
    simp only [Int.toNat_natCast]
    have hr0 : rest = [] := List.eq_nil_of_length_eq_zero (by rw [hrl, Nat.sub_self, Nat.zero_mul])
    have hxl2 : xs.length = l.length := by rw [hxl]; omega
    have e1 : xs ++ (List.range (l.length + 64 - l.length)).map (fun j => txM (l.length + j)) = wide txM xs := by
      unfold wide
      rw [hxl2, Nat.add_sub_cancel_left]
    rw [hr0, List.append_nil, e1] at hS
    rw [List.take_of_length_le (by omega)] at hst
    exact ⟨g, xs, rfl, hxl2, hst, own_whole hS⟩
theorem spareTs (hT : Tab o) {g : Nat} (l : List Tx) (hwl : l.length * 168 ≤ 140737488351232) (hwf : ∀ x ∈ l, WfQ x.q) (ho : old o ∈ R)
    (h : St o w (blk g 49 ((wide txM l).map Tx.cells).flatten :: satH (l.map wdT) :: R)) :
    CallV Tryd.prog Z 23 #[wv g l.length] w fun r w' => r = .bool true ∧ St o w' (blk g 49 ((wide txM l).map Tx.cells).flatten :: satH (l.map wdT) :: R) := by
  unfold wv
  refine f23.calls ?_
  unfold f23.sh
  (try simp only [ln_22_3, o_add])
  rw [wr_i64 (x := (l.length : Int) + 64) (by omega) (by omega)]
  refine r1 (run_slice_to el22 _ _ _ .i64 _ (by omega) (by omega) _) ?_
  rw [show ((l.length : Int) + 64).toNat = l.length + 64 by omega]
  (try simp only [ln_22_3])
  obtain ⟨info, hinfo, hsz, _, _⟩ := el22.info
  refine ⟨fun m y w' => ∃ i : Nat, y = .int .i64 i ∧ m + i = l.length + 64 ∧ l.length ≤ i ∧ St o w' (blk g 49 ((wide txM l).map Tx.cells).flatten :: satH (l.map wdT) :: R), ⟨64, l.length, rfl, by omega, by omega, h⟩, ?_⟩
  clear h
  rintro m _ w1 ⟨i, rfl, hi, hli, hS⟩ _
  by_cases hlt : (i : Int) < ((l.length + 64 : Nat) : Int)
  · (try simp only [o_add, o_sub, o_lss, hlt, decide_true, condT])
    refine r1 (run_indexAt Tryd.underlying22 hinfo g 0 (l.length + 64) (l.length + 64) .i64 i (by omega) (by omega) _) ?_
    rw [hsz]
    simp only [Nat.zero_add, Int.toNat_natCast]
    (try simp only [fa_49_1, fa_41_2])
    refine r_load one2 (v := .int .i64 (-3000000 - (i : Int))) (hS.at m0 _ (flatM_at (c := Tx.cells) (sz := 16) Tx.cells_len _ i 4 (txM i) _ (wide_hi _ _ _ hli (by omega)) rfl)) ?_
    rw [wr_i64 (x := -3000000 - (i : Int)) (by omega) (by omega)]
    (try simp only [o_eql, beq_self_eq_true, o_not, Bool.not_true, condF])
    rw [wr_i64 (x := (i : Int) + 1) (by omega) (by omega)]
    exact ⟨m - 1, by omega, i + 1, rfl, by omega, by omega, hS⟩
  · (try simp only [o_add, o_sub, o_lss, hlt, decide_false, condF])
    refine ⟨fun m y w' => ∃ i : Nat, y = .int .i64 i ∧ m + i = l.length ∧ St o w' (blk g 49 ((wide txM l).map Tx.cells).flatten :: satH (l.map wdT) :: R), ⟨l.length, 0, rfl, by omega, hS⟩, ?_⟩
    clear hS hlt hli hi
    rintro m2 _ w2 ⟨i2, rfl, hi, hS⟩ _
    by_cases hlt : (i2 : Int) < (l.length : Int)
    · have hil : i2 < l.length := by omega
      have hmem : l[i2] ∈ l := List.getElem_mem hil
      (try simp only [o_add, o_lss, hlt, decide_true, condT])
      refine r1 (run_indexAt Tryd.underlying22 hinfo g 0 l.length (l.length + 64) .i64 i2 (by omega) (by omega) _) ?_
      rw [hsz]
      simp only [Nat.zero_add, Int.toNat_natCast]
      (try simp only [fa_49_2])
      refine r_loadN ag47 (xs := l[i2].q.cells) rfl (hS.cells_at m0 (i2 * 16 + 5) fun j v hv => by rw [Nat.add_assoc]; exact flatM_at (c := Tx.cells) (sz := 16) Tx.cells_len _ i2 (5 + j) l[i2] _ (wide_lo _ _ _ hil) (rq_at _ j v hv)) ?_
      obtain ⟨As, Bs, e⟩ := List.append_of_mem hmem
      have e2 : l.map wdT = As.map wdT ++ wdT l[i2] :: Bs.map wdT := by
        conv => lhs; rw [e]
        rw [List.map_append, List.map_cons]
      rw [e2] at hS
      refine (spareQ Z hT l[i2].q (hwf _ hmem) (List.mem_cons_of_mem _ (List.mem_cons_of_mem _ ho)) hS.swap.all_out).mono fun r w3 ⟨hr, hS⟩ => ?_
      have hS : St o w3 (wdT l[i2] :: satH (As.map wdT ++ Bs.map wdT) :: blk g 49 ((wide txM l).map Tx.cells).flatten :: R) := hS
      have hS := hS.all_in.swap
      rw [← e2] at hS
      subst hr
      (try simp only [o_not, Bool.not_true, condF])
      rw [wr_i64 (x := (i2 : Int) + 1) (by omega) (by omega)]
      exact ⟨m2 - 1, by omega, i2 + 1, rfl, by omega, hS⟩
    · (try simp only [o_add, o_lss, hlt, decide_false, condF])
      exact ⟨by first | rfl | trivial, hS⟩
theorem eqTs {v v2 : Value} {l k : List Tx} (hx : Ent o R fun w => RdT w v l) (hy : Ent o R fun w => RdT w v2 k) (h : St o w R) :
    CallV Tryd.prog Z 15 #[v, v2] w fun r w' => (∃ b, r = .bool b ∧ (b = true ↔ l.map txK = k.map txK)) ∧ St o w' R := by
  obtain ⟨a, c, rfl⟩ := (hx w h).1.form
  obtain ⟨b, d, rfl⟩ := (hy w h).1.form
  have hlx := (hx w h).1.2.1
  simp only [maxLen] at hlx
  refine f15.calls ?_
  unfold f15.sh
  (try simp only [ln_22_3, o_neq, cond_bne])
  refine ⟨fun hne => ⟨⟨_, rfl, ⟨fun h => (by cases h), fun e => absurd (by have := congrArg List.length e; simp at this; omega) hne⟩⟩, h⟩, fun he => ?_⟩
  have he' : l.length = k.length := by omega
  refine ⟨fun m y w' => ∃ i : Nat, y = .int .i64 i ∧ m + i = l.length ∧ (l.map txK).take i = (k.map txK).take i ∧ St o w' R, ⟨l.length, 0, rfl, rfl, rfl, h⟩, ?_⟩
  clear h
  rintro m _ w1 ⟨i, rfl, hi, ht, hS⟩ _
  by_cases hlt : (i : Int) < (l.length : Int)
  · have hi1 : i < l.length := by omega
    have hi2 : i < k.length := by omega
    (try simp only [o_add, o_lss, hlt, decide_true, condT])
    refine ⟨fun w2 hd => ?_⟩
    have hS := hS.drew hd
    obtain ⟨b1, p, cs, hp, _, hcv, hpc⟩ := (rowR_rd (c := Tx.cells) (fun x => rfl) (hx w2 hS).1 rfl).ix el22 .i64 i hi1
    subst hcv
    obtain ⟨b2, q, cs, hq, _, hcv, hqc⟩ := (rowR_rd (c := Tx.cells) (fun x => rfl) (hy w2 hS).1 rfl).ix el22 .i64 i hi2
    subst hcv
    refine rp hp (rr_loadN ag49 (xs := l[i].cells) rfl (fun j u hu => by rw [add_addr]; exact hpc j u hu) (rp hq (rr_loadN ag49 (xs := k[i].cells) rfl (fun j u hu => by rw [add_addr]; exact hqc j u hu) ?_)))
    refine (eqT Z l[i] k[i] (fun w hw => (hx w hw).2 _ (List.getElem_mem hi1)) (fun w hw => (hy w hw).2 _ (List.getElem_mem hi2)) hS).mono fun r w3 ⟨⟨bb, hr, hb⟩, hS⟩ => ?_
    subst hr
    cases bb with
    | false =>
      (try simp only [o_notp, Bool.not_false, condT])
      refine ⟨⟨_, rfl, ⟨fun h => (by cases h), fun e => ?_⟩⟩, hS⟩
      have h1 := congrArg (fun l => l[i]?) e
      simp only [List.getElem?_map, List.getElem?_eq_getElem hi1, List.getElem?_eq_getElem hi2, Option.map_some, Option.some.injEq] at h1
      exact hb.2 ⟨congrArg Prod.fst h1, congrArg Prod.snd h1⟩
    | true =>
      (try simp only [o_notp, Bool.not_true, condF])
      rw [wr_i64 (x := (i : Int) + 1) (by omega) (by omega)]
      refine ⟨m - 1, by omega, i + 1, rfl, by omega, take_more (by simpa using hi1) (by simpa using hi2) ht ?_, hS⟩
      obtain ⟨h1, h2⟩ := hb.1 rfl
      simp only [List.getElem_map]
      unfold txK
      rw [h1, h2]
  · obtain rfl : i = l.length := by omega
    have t1 := List.take_length (l := l.map txK)
    have t2 := List.take_length (l := k.map txK)
    rw [List.length_map] at t1 t2
    rw [t1, he', t2] at ht
    (try simp only [o_add, o_lss, hlt, decide_false, condF])
    exact ⟨⟨_, rfl, ⟨fun _ => ht, fun _ => rfl⟩⟩, hS⟩
theorem cmpZ_ne {e n e' n' : Int} (hn : u32r n) (hn' : u32r n') : (cmpZ e n e' n' != -1) = !decide (ls e n e' n') := by
  rw [← ls_cmp hn hn']
  have h := (cmpZ_pack (e := e) (e' := e') hn hn').2.2.2
  by_cases h1 : cmpZ e n e' n' < 0
  · have : cmpZ e n e' n' = -1 := by omega
    rw [this]; rfl
  · rw [decide_eq_false h1]
    simp only [Bool.not_false, bne_iff_ne]
    omega
end
end Go.Proofs.YtoeamecdkimgaaaDoor

/- TxnRises: the walk. -/
set_option linter.unusedVariables false
set_option linter.unusedSimpArgs false
namespace Go.Proofs.YtoeamecdkimgaaaDoor
open Go.Sh
section
variable (Z : List PanicEntry → World → Prop) {o w : World} {R As : List HProp}
end
end Go.Proofs.YtoeamecdkimgaaaDoor
