/- TxnStairs: the walk. -/
import Derived.Test.YtfjolpjlajjigaaDoorT24
set_option linter.unusedVariables false
set_option linter.unusedSimpArgs false
namespace Go.Proofs.YtfjolpjlajjigaaDoor
open Go.Sh
theorem cell_old {o o' w : World} {As : List HProp} (hS : St o' w As) (hm : old o ∈ As) {a : Addr} {v : Value} (h : o.cell? a = some v) : w.cell? a = some v := by
  have hb : a.block < o.heap.size := by
    unfold World.cell? at h
    cases hh : o.heap[a.block]? with
    | none => rw [hh] at h; simp at h
    | some x => exact lt_of_heap hh
  have e := hS.mem_old hm hb
  unfold World.cell? at h ⊢
  rw [e]; exact h
theorem rises_cut : ∀ (l : List (Int × Int)) (e n : Int), rises e n l = true → ∀ (i : Nat) (hi : i < l.length), ls e n l[i].1 l[i].2 ∧ rises l[i].1 l[i].2 (l.drop (i + 1)) = true ∧ rises e n (l.take i) = true
  | [], _, _, _, i, hi => by simp at hi
  | z :: l, e, n, h, i, hi => by
    simp only [rises, Bool.and_eq_true, decide_eq_true_eq] at h
    cases i with
    | zero => exact ⟨h.1, h.2, rfl⟩
    | succ i =>
      obtain ⟨h1, h2, h3⟩ := rises_cut l z.1 z.2 h.2 i (by simpa using hi)
      refine ⟨?_, h2, ?_⟩
      · have h4 := h.1
        simp only [List.getElem_cons_succ]
        unfold ls at *
        omega
      · simp only [List.take_succ_cons, rises, Bool.and_eq_true, decide_eq_true_eq]
        exact ⟨h.1, h3⟩
theorem rd_takeN {α : Type} {w : World} {sz : Nat} {C : α → List Value} (hC : ∀ x, (C x).length = sz) {a : Option Addr} {c : Nat} {l : List α} (h : Rd w sz (.slice a l.length c) l.length (l.map C).flatten) (k : Nat) (hk : k ≤ l.length) : Rd w sz (.slice a k c) (l.take k).length ((l.take k).map C).flatten := by
  obtain ⟨h1, h2, h3⟩ := h
  have hl : (l.take k).length = k := by rw [List.length_take]; omega
  have e : (l.map C).flatten = ((l.take k).map C).flatten ++ ((l.drop k).map C).flatten := by
    rw [← List.flatten_append, ← List.map_append, List.take_append_drop]
  have hfl : ((l.take k).map C).flatten.length = k * sz := by
    rw [len_flatten_of (sz := sz) (fun c hc => by obtain ⟨x, _, rfl⟩ := List.mem_map.1 hc; exact hC x), List.length_map, hl]
  refine ⟨by rw [hfl, hl], by omega, ?_⟩
  rcases h3 with ⟨c', hq, hn⟩ | ⟨a', c', hq, hc⟩
  · injection hq with q1 q2 q3
    subst q1
    exact .inl ⟨c, by rw [show k = 0 by omega], by omega⟩
  · injection hq with q1 q2 q3
    subst q1
    refine .inr ⟨a', c, by rw [hl], fun j u hu => hc j u ?_⟩
    rw [e, List.getElem?_append_left (List.getElem?_eq_some_iff.1 hu).1]
    exact hu
theorem rd_dropN {α : Type} {w : World} {sz : Nat} {C : α → List Value} (hC : ∀ x, (C x).length = sz) {a : Option Addr} {c : Nat} {l : List α} (hnc : l.length ≤ c) (h : Rd w sz (.slice a l.length c) l.length (l.map C).flatten) (k : Nat) (hk : k ≤ l.length) : Rd w sz (.slice (if c = k then a else a.map (·.add (k * sz))) (l.length - k) (c - k)) (l.drop k).length ((l.drop k).map C).flatten := by
  obtain ⟨h1, h2, h3⟩ := h
  have hl : (l.drop k).length = l.length - k := List.length_drop
  have e : (l.map C).flatten = ((l.take k).map C).flatten ++ ((l.drop k).map C).flatten := by
    rw [← List.flatten_append, ← List.map_append, List.take_append_drop]
  have hfl : ((l.drop k).map C).flatten.length = (l.length - k) * sz := by
    rw [len_flatten_of (sz := sz) (fun c hc => by obtain ⟨x, _, rfl⟩ := List.mem_map.1 hc; exact hC x), List.length_map, hl]
  have hft : ((l.take k).map C).flatten.length = k * sz := by
    rw [len_flatten_of (sz := sz) (fun c hc => by obtain ⟨x, _, rfl⟩ := List.mem_map.1 hc; exact hC x), List.length_map, List.length_take, Nat.min_eq_left hk]
  refine ⟨by rw [hfl, hl], by omega, ?_⟩
  rcases h3 with ⟨c', hq, hn⟩ | ⟨a', c', hq, hc⟩
  · injection hq with q1 q2 q3
    subst q1
    refine .inl ⟨c - k, ?_, by omega⟩
    rw [show l.length - k = 0 by omega]
    simp
  · injection hq with q1 q2 q3
    subst q1
    by_cases he : k = l.length
    · have hx0 : ((l.drop k).map C).flatten = [] := List.eq_nil_of_length_eq_zero (by rw [hfl, he, Nat.sub_self, Nat.zero_mul])
      by_cases hck : c = k
      · rw [if_pos hck]
        exact .inr ⟨a', c - k, by rw [hl], fun j u hu => by rw [hx0] at hu; simp at hu⟩
      · rw [if_neg hck]
        exact .inr ⟨_, c - k, by rw [hl]; rfl, fun j u hu => by rw [hx0] at hu; simp at hu⟩
    · by_cases hck : c = k
      · omega
      · rw [if_neg hck]
        refine .inr ⟨a'.add (k * sz), c - k, by rw [hl]; rfl, fun j u hu => ?_⟩
        rw [addr_add2]
        refine hc _ u ?_
        rw [e, List.getElem?_append_right (by omega), hft, Nat.add_sub_cancel_left]
        exact hu
theorem RdT.take {w : World} {a : Option Addr} {c : Nat} {ts : List Tx} (h : RdT w (.slice a ts.length c) ts) (k : Nat) (hk : k ≤ ts.length) : RdT w (.slice a k c) (ts.take k) :=
  ⟨rd_takeN Tx.cells_len h.1 k hk, fun t ht => h.2 t (List.mem_of_mem_take ht)⟩
theorem RdT.drop {w : World} {a : Option Addr} {c : Nat} {ts : List Tx} (hnc : ts.length ≤ c) (h : RdT w (.slice a ts.length c) ts) (k : Nat) (hk : k ≤ ts.length) : RdT w (.slice (if c = k then a else a.map (·.add (k * 16))) (ts.length - k) (c - k)) (ts.drop k) :=
  ⟨rd_dropN Tx.cells_len hnc h.1 k hk, fun t ht => h.2 t (List.mem_of_mem_drop ht)⟩
theorem RdT.of_old {o o' w : World} {As : List HProp} {v : Value} {ts : List Tx} (h : RdT o v ts) (hS : St o' w As) (hm : old o ∈ As) : RdT w v ts := ⟨h.1.of_old hS hm, fun t ht => RdQ.of_old _ (h.2 t ht) hS hm⟩
theorem WfT.take {ts : List Tx} (h : WfT ts) (k : Nat) : WfT (ts.take k) := ⟨by have := h.1; rw [List.length_take]; omega, fun t ht => h.2 t (List.mem_of_mem_take ht)⟩
theorem WfT.drop {ts : List Tx} (h : WfT ts) (k : Nat) : WfT (ts.drop k) := ⟨by have := h.1; rw [List.length_drop]; omega, fun t ht => h.2 t (List.mem_of_mem_drop ht)⟩
theorem zxs_hd {a b : List Tx} (h : a.map Tx.hd = b.map Tx.hd) : zxs a = zxs b := by
  have e : ∀ l : List Tx, zxs l = (l.map Tx.hd).map fun h => (h.e, h.n) := fun l => by rw [List.map_map]; rfl
  rw [e, e, h]
theorem ns_hd {a b : List Tx} (h : a.map Tx.hd = b.map Tx.hd) (hb : ∀ t ∈ b, u32r t.n) : ∀ t ∈ a, u32r t.n := by
  intro t ht
  have h1 : t.hd ∈ b.map Tx.hd := by rw [← h]; exact List.mem_map_of_mem ht
  obtain ⟨t', h2, h3⟩ := List.mem_map.1 h1
  have h4 : t'.n = t.n := congrArg Hd.n h3
  rw [← h4]
  exact hb t' h2
theorem WfT.ns {ts : List Tx} (h : WfT ts) : ∀ t ∈ ts, u32r t.n := fun t ht => hok_le (h.2 t ht).1 (show 1 < 5 by omega)
theorem WfT.es {ts : List Tx} (h : WfT ts) : ∀ t ∈ ts, u32r t.e := fun t ht => hok_le (h.2 t ht).1 (show 0 < 5 by omega)
section
variable (Z : List PanicEntry → World → Prop) {o w : World} {R As : List HProp}
theorem stairs {ax : Option Addr} {cx : Nat} {ts : List Tx} (e n at_ : Int) (he : u32r e) (hn : u32r n) (hr : -9223372036854775808 ≤ at_ ∧ at_ ≤ 9223372036854775807) (hcap : ts.length ≤ cx) (hw : WfT ts) (hx : RdT w (.slice ax ts.length cx) ts) (hN : Names w) :
    CallV Tryd.prog Z 6 #[.agg (zx e n).toArray, .slice ax ts.length cx, .int .i64 at_] w fun r w' => r = .bool true ∧ St w w' [old w] := by
  have hle := hx.1.2.1
  simp only [maxLen] at hle
  refine f6.calls ?_
  unfold f6.sh
  refine r_box _ _ (St.start w) fun g1 w1 hS => ?_
  have hS : St w w1 (blk g1 26 (zx e n) :: [old w]) := hS
  refine (worksC Z hN m1 hS).mono fun r w2 ⟨hr, hS⟩ => ?_
  subst hr
  refine (largeTs Z (fun w' hw' => hx.of_old hw' m1) hS).mono fun r w3 ⟨⟨b, hr⟩, hS⟩ => ?_
  subst hr
  refine cond_or (fun _ => ⟨rfl, hS.drop⟩) fun _ => ?_
  refine ⟨fun w4 hd => ?_⟩
  have hS := hS.drew hd
  refine rr_loadN ag26 (xs := zx e n) rfl (hS.cells_at m0 0 (whole_at _)) ?_
  refine (copyTs Z hw (fun w' hw' => hx.of_old hw' m1) hS).mono fun v1 w5 ⟨t1, hh1, _, hS⟩ => ?_
  refine rs_loadN ag26 (xs := zx e n) rfl (hS.cells_at m2 0 (whole_at _)) ?_
  refine (risesC Z (ts := t1) hn (ns_hd hh1 hw.ns) (fun w' hw' => OwT.rd hw') hS).mono fun r w6 ⟨hr, hS⟩ => ?_
  subst hr
  rw [zxs_hd hh1]
  cases hri : rises e n (zxs ts) with
  | false =>
    (try simp only [o_pickT, guardW_true, o_addp, o_not, Bool.not_false, condT, guardW_tf])
    exact ⟨by first | rfl | trivial, hS.drop.drop.drop⟩
  | true =>
  (try simp only [o_pickT, guardW_true, o_addp, o_not, Bool.not_true, o_pickF, guardW_ff, o_lss])
  by_cases c1 : at_ < 0
  · (try simp only [c1, decide_true, o_pickT, condT, guardW_tf])
    exact ⟨by first | rfl | trivial, hS.drop.drop.drop⟩
  by_cases c2 : (ts.length : Int) ≤ at_
  · (try simp only [c1, decide_false, o_pickF, guardW_ff, ln_56_3, o_geq, c2, decide_true, condT])
    exact ⟨by first | rfl | trivial, hS.drop.drop.drop⟩
  (try simp only [c1, decide_false, o_pickF, guardW_ff, ln_56_3, o_geq, c2, condF])
  obtain ⟨k, rfl⟩ : ∃ k : Nat, at_ = k := ⟨at_.toNat, by omega⟩
  have hk : k < ts.length := by omega
  have hmem : ts[k] ∈ ts := List.getElem_mem hk
  obtain ⟨k1, k2, k3⟩ := rises_cut _ _ _ hri k (by simpa [zxs] using hk)
  have hzk : (zxs ts)[k]'(by simpa [zxs] using hk) = (ts[k].e, ts[k].n) := by simp [zxs]
  rw [hzk] at k1 k2
  have hzd : (zxs ts).drop (k + 1) = zxs (ts.drop (k + 1)) := by simp [zxs, List.map_drop]
  have hzt : (zxs ts).take k = zxs (ts.take k) := by simp [zxs, List.map_take]
  rw [hzd] at k2
  rw [hzt] at k3
  refine ⟨fun w7 hd => ?_⟩
  have hS := hS.drew hd
  obtain ⟨bb, p, cs, hp, _, hcv, hc⟩ := (rowR_rd (c := Tx.cells) (fun x => rfl) hx.1 rfl).ix el56 .i64 k hk
  subst hcv
  have hcz : ∀ {w' : World} {As : List HProp}, St w w' As → old w ∈ As → ∀ j v, (zx ts[k].e ts[k].n)[j]? = some v → w'.cell? ((⟨bb, p, none⟩ : Addr).add j) = some v := fun hS hm j v hv => by
    rw [add_addr]
    have h1 := hc j v (by have := zx_at ts[k] j v hv; rwa [Nat.zero_add] at this)
    exact cell_old hS hm h1
  have hcz0 : ∀ {w' : World} {As : List HProp}, St w w' As → old w ∈ As → ∀ j v, (zx ts[k].e ts[k].n)[j]? = some v → w'.cell? ((⟨bb, p + 0, none⟩ : Addr).add j) = some v := hcz
  refine rp hp ?_
  (try simp only [fa_36_0p, Nat.add_zero])
  refine rr_loadN ag26 (xs := zx ts[k].e ts[k].n) rfl (hcz hS m3) ?_
  rw [wr_i64 (x := (k : Int) + 1) (by omega) (by omega)]
  refine rp (fun w => run_slice_from el56 _ _ _ .i64 ((k : Int) + 1) (by omega) (by omega) w) ?_
  rw [show ((k : Int) + 1).toNat = k + 1 by omega]
  have hd1 : ∀ {w' : World} {As : List HProp}, St w w' As → old w ∈ As → RdT w' _ (ts.drop (k + 1)) := fun hS hm => (hx.of_old hS hm).drop hcap (k + 1) (by omega)
  refine (copyTs Z (hw.drop (k + 1)) (fun w' hw' => hd1 hw' m3) hS).mono fun v2 w8 ⟨t2, hh2, _, hS⟩ => ?_
  refine rs_loadN ag26 (xs := zx ts[k].e ts[k].n) rfl (hcz hS m5) ?_
  refine (risesC Z (ts := t2) (hw.ns _ hmem) (ns_hd hh2 (hw.drop (k + 1)).ns) (fun w' hw' => OwT.rd hw') hS).mono fun r w9 ⟨hr, hS⟩ => ?_
  subst hr
  rw [zxs_hd hh2, k2]
  refine ⟨fun w10 hd => ?_⟩
  have hS := hS.drew hd
  refine rr_loadN ag26 (xs := zx e n) rfl (hS.cells_at m4 0 (whole_at _)) ?_
  refine rp (fun w => run_slice_to el56 _ _ _ .i64 (k : Int) (by omega) (by omega) w) ?_
  simp only [Int.toNat_natCast]
  have hd2 : ∀ {w' : World} {As : List HProp}, St w w' As → old w ∈ As → RdT w' (.slice ax k cx) (ts.take k) := fun hS hm => (hx.of_old hS hm).take k (by omega)
  refine (copyTs Z (hw.take k) (fun w' hw' => hd2 hw' m5) hS).mono fun v3 w11 ⟨t3, hh3, _, hS⟩ => ?_
  refine rs_loadN ag26 (xs := zx e n) rfl (hS.cells_at m6 0 (whole_at _)) ?_
  refine (risesC Z (ts := t3) hn (ns_hd hh3 (hw.take k).ns) (fun w' hw' => OwT.rd hw') hS).mono fun r w12 ⟨hr, hS⟩ => ?_
  subst hr
  rw [zxs_hd hh3, k3]
  refine r_loadN ag26 (xs := zx e n) rfl (hS.cells_at m6 0 (whole_at _)) ?_
  refine (txnPack Z he hn hS).mono fun r w13 ⟨hr, hS⟩ => ?_
  rw [packV_eq] at hr
  subst hr
  (try simp only [o_pickT, guardW_true, o_ext2_1, o_neq, o_ext2_0])
  refine r1 (hp _) ?_
  (try simp only [fa_36_0, Nat.add_zero])
  refine r_loadN ag26 (xs := zx ts[k].e ts[k].n) rfl (hcz hS m7) ?_
  refine (txnPack Z (hw.es _ hmem) (hw.ns _ hmem) hS).mono fun r w14 ⟨hr, hS⟩ => ?_
  rw [packV_eq] at hr
  subst hr
  have z0 : ((0 : Int) != 0) = false := rfl
  have z1 : ((1 : Int) != 0) = true := rfl
  (try simp only [o_ext2_1, o_ext2_0])
  by_cases h1 : 2147483647 < e
  · have e1 : pkE e = 1 := if_pos h1
    rw [e1]
    (try simp only [z1, o_pickT, guardW_tf])
    exact ⟨by first | rfl | trivial, hS.drop.drop.drop.drop.drop.drop.drop⟩
  have e1 : pkE e = 0 := if_neg h1
  rw [e1]
  by_cases h2 : 2147483647 < ts[k].e
  · have e2 : pkE ts[k].e = 1 := if_pos h2
    rw [e2]
    (try simp only [z0, o_pickF, guardW_ff, o_neq, z1, o_pickT, guardW_tf])
    exact ⟨by first | rfl | trivial, hS.drop.drop.drop.drop.drop.drop.drop⟩
  have e2 : pkE ts[k].e = 0 := if_neg h2
  rw [e2]
  have hp1 : pkN e n = e * 4294967296 + n := if_neg h1
  have hp2 : pkN ts[k].e ts[k].n = ts[k].e * 4294967296 + ts[k].n := if_neg h2
  rw [hp1, hp2]
  have hlt : e * 4294967296 + n < ts[k].e * 4294967296 + ts[k].n := k1
  (try simp only [z0, o_pickF, guardW_ff, o_neq, o_lss, hlt, decide_true])
  exact ⟨by first | rfl | trivial | simp, hS.drop.drop.drop.drop.drop.drop.drop⟩
end
def TxsC (w : World) (cs : List Value) : Prop := TxsO w cs ∧ ∃ a n c, cs = [.slice a n c] ∧ n ≤ c
theorem opn_TxsC (w : World) : Opn Tryd.prog w 56 (TxsC w) := Opn.and (opn_TxsO w) (opn_cap Tryd.underlying56)
theorem txsC_open {w : World} {x : Value} (h : TxsC w [x]) : ∃ a c ts, x = .slice a (List.length ts) c ∧ ts.length ≤ c ∧ WfT ts ∧ RdT w (.slice a ts.length c) ts := by
  obtain ⟨⟨v, hv, l, hl, hok, hx⟩, a, n, c, hv2, hnc⟩ := h
  injection hv with hv; subst hv
  injection hv2 with hv2; subst hv2
  obtain ⟨a2, c2, e⟩ := hx.form
  injection e with e1 e2 e3
  subst e2
  exact ⟨a, c, l, rfl, hnc, ⟨hl, fun t ht => ⟨(hok t ht).1, (hok t ht).2.2⟩⟩, hx, fun t ht => (hok t ht).2.1⟩
end Go.Proofs.YtfjolpjlajjigaaDoor
