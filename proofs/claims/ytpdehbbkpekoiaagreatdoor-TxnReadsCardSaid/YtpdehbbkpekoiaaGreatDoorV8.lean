/- A request's lists are written over where they lie. -/
import Derived.Test.YtpdehbbkpekoiaaGreatDoorT38
import Derived.Test.YtpdehbbkpekoiaaGreatDoorQ2
import Derived.Test.YtpdehbbkpekoiaaGreatDoorV7
set_option linter.unusedVariables false
set_option linter.unusedSimpArgs false
namespace Go.Proofs.YtpdehbbkpekoiaaGreatDoor
open Go.Sh
theorem run_wv (P : Program) {t e : TypeId} {sz bt : Nat} {z : Value} (hel : El P t e sz bt z) (g n i : Nat) (hi : i < n) (w : World) : (Instr.indexAt t (wv g n) (.int .i64 i)).run P w = .ok (.pointer (some ⟨g, i * sz, none⟩)) w := by
  obtain ⟨info, hinfo, hs, _, _⟩ := hel.info
  have := run_indexAt hel.ht hinfo g 0 n (n + 64) .i64 (i : Int) (by omega) (by omega) w
  rw [hs, Nat.zero_add, Int.toNat_natCast] at this
  exact this
section
variable (Z : List PanicEntry → World → Prop) {o w : World} {R : List HProp}
end
end Go.Proofs.YtpdehbbkpekoiaaGreatDoor

/- A request's lists are put into a Bag. -/
set_option linter.unusedVariables false
set_option linter.unusedSimpArgs false
namespace Go.Proofs.YtpdehbbkpekoiaaGreatDoor
open Go.Sh
def newR (n0 n1 n2 n3 : List (Value × Nat)) : HProp := satH [rowsX 5 1 1 n0, rowsX 120 2 32 n1, rowsX 122 3 40 n2, rowsX 33 11 144 n3]
section
variable {o w : World} {R : List HProp} {n0 n1 n2 n3 k0 k1 k2 k3 : List (Value × Nat)}
theorem newR.open (h : St o w (newR n0 n1 n2 n3 :: R)) : St o w (rowsX 5 1 1 n0 :: rowsX 120 2 32 n1 :: rowsX 122 3 40 n2 :: rowsX 33 11 144 n3 :: R) := h.all
theorem newR.shut (h : St o w (rowsX 5 1 1 n0 :: rowsX 120 2 32 n1 :: rowsX 122 3 40 n2 :: rowsX 33 11 144 n3 :: R)) : St o w (newR n0 n1 n2 n3 :: R) := St.all_intro h
theorem newR.none (h : St o w R) : St o w (newR [] [] [] [] :: R) := newR.shut (rows_empty (rows_empty (rows_empty (rows_empty h))))
theorem newR.join (h : St o w (newR n0 n1 n2 n3 :: newR k0 k1 k2 k3 :: R)) : St o w (newR (n0 ++ k0) (n1 ++ k1) (n2 ++ k2) (n3 ++ k3) :: R) := by
  have a := newR.open ((newR.open h).pick 4)
  -- k0 k1 k2 k3 n0 n1 n2 n3
  have a := (rows_join (a.pick 4)).put 6
  -- k1 k2 k3 n1 n2 n3 j0
  have a := (rows_join (a.pick 3)).put 5
  -- k2 k3 n2 n3 j0 j1
  have a := (rows_join (a.pick 2)).put 4
  -- k3 n3 j0 j1 j2
  have a := (rows_join (a.pick 1)).put 3
  exact newR.shut a
theorem add_row {e : TypeId} {sz bt n : Nat} {l : Value} {xs b b' : List Value} (hb : b' = if b.length < 600 then b ++ [l] else b) (hbd : n * bt ≤ 140737488351232) (h : St o w (own e sz l n xs :: R)) : ∃ nn : List (Value × Nat), b' = b ++ nn.map Prod.fst ∧ St o w (rowsX e sz bt nn :: R) := by
  by_cases hl : b.length < 600
  · rw [if_pos hl] at hb
    exact ⟨[(l, n)], hb, rows_cons (p := (l, n)) hbd ((rows_empty h).swap)⟩
  · rw [if_neg hl] at hb
    exact ⟨[], by rw [hb]; simp, rows_empty h.drop⟩
end
section
variable (Z : List PanicEntry → World → Prop) {o w : World} {R : List HProp} {g : Nat} {b0 b1 b2 b3 : List Value}
def AddsQ (g : Nat) (o : World) (q : Rq) : Prop := ∀ {w : World} {R : List HProp} {b0 b1 b2 b3 : List Value}, St o w (bagP g b0 b1 b2 b3 :: OwQ q :: R) → CallV Tryz.prog Z 22 #[.pointer (some ⟨g, 0, none⟩), .agg q.cells.toArray] w fun r w' =>
    ∃ n0 n1 n2 n3 : List (Value × Nat), St o w' (bagP g (b0 ++ n0.map Prod.fst) (b1 ++ n1.map Prod.fst) (b2 ++ n2.map Prod.fst) (b3 ++ n3.map Prod.fst) :: newR n0 n1 n2 n3 :: R)
set_option maxRecDepth 100000 in
theorem addReqs {v : Value} (l : List Rq) (hwl : l.length * 144 ≤ 140737488351232) (ih : ∀ x ∈ l, AddsQ Z g o x) (h : St o w (bagP g b0 b1 b2 b3 :: own 33 11 v l.length (l.map Rq.cells).flatten :: satH (l.map OwQ) :: R)) :
    CallV Tryz.prog Z 80 #[.pointer (some ⟨g, 0, none⟩), v] w fun r w' =>
      ∃ n0 n1 n2 n3 : List (Value × Nat), St o w' (bagP g (b0 ++ n0.map Prod.fst) (b1 ++ n1.map Prod.fst) (b2 ++ n2.map Prod.fst) (b3 ++ n3.map Prod.fst) :: newR n0 n1 n2 n3 :: R) := by
  obtain ⟨a, c, rfl⟩ := (h.own_rd m1).form
  refine f80.calls ?_
  unfold f80.sh
  intro j hj
  refine bagPushRequests Z rfl h fun b' w1 hb hS => ?_
  refine hj w1 fun _ => ?_
  clear hj h
  refine ⟨fun m y w' => ∃ (i : Nat) (n0 n1 n2 n3 : List (Value × Nat)), y = .int .i64 i ∧ m + i = l.length ∧ St o w' (bagP g (b0 ++ n0.map Prod.fst) (b1 ++ n1.map Prod.fst) (b2 ++ n2.map Prod.fst) (b' ++ n3.map Prod.fst) :: newR n0 n1 n2 n3 :: own 33 11 (.slice a l.length c) l.length (l.map Rq.cells).flatten :: satH ((l.drop i).map OwQ) :: R),
    ⟨l.length, 0, [], [], [], [], rfl, rfl, ?_⟩, ?_⟩
  · simp only [List.map_nil, List.append_nil, List.drop_zero]
    exact (newR.none hS).swap
  clear hS
  rintro m _ w2 ⟨i, n0, n1, n2, n3, rfl, hi, hS⟩ _
  have fin : ∃ n0 n1 n2 n3 : List (Value × Nat), St o w2 (bagP g (b0 ++ n0.map Prod.fst) (b1 ++ n1.map Prod.fst) (b2 ++ n2.map Prod.fst) (b3 ++ n3.map Prod.fst) :: newR n0 n1 n2 n3 :: R) := by
    have hS := (hS.pick 3).drop
    by_cases hl : b3.length < 600
    · rw [if_pos hl] at hb
      have a1 := newR.open (hS.swap)
      -- r0 r1 r2 r3 bag own R
      have a2 := rows_cons (bt := 144) (p := (.slice a l.length c, l.length)) hwl ((a1.pick 3).pick 5)
      refine ⟨n0, n1, n2, (.slice a l.length c, l.length) :: n3, ?_⟩
      rw [hb] at a2
      have e : b3 ++ ((Value.slice a l.length c, l.length) :: n3).map Prod.fst = (b3 ++ [.slice a l.length c]) ++ n3.map Prod.fst := by simp
      rw [e]
      exact (newR.shut (a2.put 3)).swap
    · rw [if_neg hl] at hb
      rw [hb] at hS
      exact ⟨n0, n1, n2, n3, (hS.pick 2).drop⟩
  by_cases hlt : (i : Int) < (l.length : Int)
  · by_cases h6 : (i : Int) < 600
    · have hil : i < l.length := by omega
      have hmem : l[i] ∈ l := List.getElem_mem hil
      (try simp only [o_add, ln_31_3, o_lss, hlt, decide_true, o_pickT, guardW_true, h6, condT])
      clear fin
      obtain ⟨b, p, cs, hp, _, hcv, hc⟩ := (rowR_rd (c := Rq.cells) Rq.cells_len (hS.own_rd m2) rfl).ix el31 .i64 i hil
      subst hcv
      refine r1 (hp _) (r_loadN ag33 (xs := l[i].cells) rfl (fun j u hu => by rw [add_addr]; exact hc j u hu) ?_)
      have hS := hS.pick 3
      rw [List.drop_eq_getElem_cons hil, List.map_cons] at hS
      have hS := (hS.all_cons).pick 2
      refine (ih l[i] hmem hS).mono fun r w3 ⟨k0, k1, k2, k3, hS⟩ => ?_
      -- bag :: newR k :: satH :: newR n :: own :: R
      have hS := newR.join ((hS.pick 1).pick 3)
      -- newR (n ++ k) :: bag :: satH :: own :: R
      skip
      rw [wr_i64 (x := (i : Int) + 1) (by omega) (by omega)]
      refine ⟨m - 1, by omega, i + 1, n0 ++ k0, n1 ++ k1, n2 ++ k2, n3 ++ k3, rfl, by omega, ?_⟩
      simp only [List.map_append, ← List.append_assoc]
      skip
      exact (hS.swap).pick 3 |>.put 2 |>.pick 0
    · (try simp only [o_add, ln_31_3, o_lss, hlt, decide_true, o_pickT, guardW_true, h6, decide_false, condF])
      exact fin
  · (try simp only [o_add, ln_31_3, o_lss, hlt, decide_false, o_pickF, condF, guardW_ft])
    exact fin
theorem addReq (q : Rq) (hw : WfQ q) : AddsQ Z g o q := by
  induction q using Rq.ind with | h q ih => ?_
  intro w R b0 b1 b2 b3 h
  have hf := hw.flat
  have hwl := hw.len
  refine f22.calls ?_
  unfold f22.sh
  have h := h.swap
  rw [OwQ_eq] at h
  have hd := h.sep.sep
  have h2 := hd.swap.sep
  -- acl :: ids :: bytes :: sep ops :: bag :: R
  have h3 := (h2.pick 3).sep
  -- ops :: satH :: acl :: ids :: bytes :: bag :: R
  have o0 := St.own_one h3
  have o1 := St.own_one (h3.pick 2)
  have o2 := St.own_one (h3.pick 3)
  have o3 := St.own_one (h3.pick 4)
  refine r_box _ _ h3 fun gx w1 hS => ?_
  have hS : St o w1 (blk gx 33 q.cells :: _) := hS
  (try simp only [fa_33_10, Nat.zero_add, fa_33_9, fa_33_3, fa_33_2])
  refine r_load one28 (hS.at m0 2 rfl) ?_
  -- blk :: ops :: satH :: acl :: ids :: bytes :: bag :: R
  refine (bagAddBytes Z o3 (hS.pick 6)).mono fun r w2 ⟨c0, hc0, hS⟩ => ?_
  obtain ⟨n0, e0, hS⟩ := add_row (bt := 1) hc0 (by have := hf.data; omega) (hS.pick 6)
  subst e0
  -- rows0 :: bag :: blk :: ops :: satH :: acl :: ids :: R
  skip
  refine r_load one29 (hS.at m2 3 rfl) ?_
  refine (bagAddAcl Z o1 (hS.pick 1)).mono fun r w3 ⟨c2, hc2, hS⟩ => ?_
  obtain ⟨n2, e2, hS⟩ := add_row (bt := 40) hc2 (by exact hf.acl.1) (hS.pick 5)
  subst e2
  -- rows2 :: bag :: rows0 :: blk :: ops :: satH :: ids :: R
  skip
  refine r_load one30 (hS.at m3 9 rfl) ?_
  refine (bagAddIds Z o2 (hS.pick 1)).mono fun r w4 ⟨c1, hc1, hS⟩ => ?_
  obtain ⟨n1, e1, hS⟩ := add_row (bt := 32) hc1 (by exact hf.who.1) (hS.pick 6)
  subst e1
  -- rows1 :: bag :: rows2 :: rows0 :: blk :: ops :: satH :: R
  skip
  refine r_load one31 (hS.at m4 10 rfl) ?_
  have hS := ((hS.pick 6).pick 6).pick 3
  -- bag :: ops :: satH :: rows1 :: rows2 :: rows0 :: blk :: R
  refine (addReqs Z q.ops hwl (fun x hx => ih x hx (hw.all x hx)) hS).mono fun r w5 ⟨k0, k1, k2, k3, hS⟩ => ?_
  -- bag :: newR k :: rows1 :: rows2 :: rows0 :: blk :: R
  have a := rows_empty (e := 33) (sz := 11) (bt := 144) hS
  -- rows3 :: bag :: newR :: rows1 :: rows2 :: rows0 :: blk
  have a := ((a.pick 4).pick 4).pick 5
  -- rows0 rows1 rows2 rows3 bag newR blk
  have a := newR.shut a
  have a := newR.join (a.pick 2 |>.swap)
  refine ⟨n0 ++ k0, n1 ++ k1, n2 ++ k2, [] ++ k3, ?_⟩
  simp only [List.map_append, ← List.append_assoc] at a ⊢
  simp only [List.nil_append, List.map_nil, List.append_nil] at a ⊢
  exact (a.pick 2).drop.swap
end
end Go.Proofs.YtpdehbbkpekoiaaGreatDoor

/- TxnReads: the walk. -/
set_option linter.unusedVariables false
set_option linter.unusedSimpArgs false
namespace Go.Proofs.YtpdehbbkpekoiaaGreatDoor
open Go.Sh
theorem okc_path {inner : Bool} {f : Fl} (h : okc inner f 0) : f.path.length ≤ 140737488351232 := by
  have h : if bi inner f 0 then okL 64 f.path else f.path = [] := h
  split at h
  · have := h.1; omega
  · rw [h]; simp
theorem okc_data {inner : Bool} {f : Fl} (h : okc inner f 1) : f.data.length ≤ 140737488351232 := by
  have h : if bi inner f 1 then okL 96 f.data else f.data = [] := h
  split at h
  · have := h.1; omega
  · rw [h]; simp
theorem okId_wf {x : Idd} (h : okId x) : wfId x := by
  have h1 := h.1.1
  have h2 := h.2.1
  exact ⟨by omega, by omega⟩
theorem okTo_wf {inner : Bool} {f : Fl} (h : okTo inner f 8) : WfF f := by
  have hk := okTo_kd h
  refine ⟨by omega, okc_path (okTo_le h (by omega)), okc_data (okTo_le h (by omega)), ?_, ?_, ?_, ?_, ?_⟩
  · have h2 : if bi inner f 2 then f.acl.length ≤ 4 ∧ ∀ x ∈ f.acl, okEn x else f.acl = [] := okTo_le h (show 2 < 8 by omega)
    split at h2
    · exact ⟨by omega, fun x hx => ⟨(h2.2 x hx).1, okId_wf (h2.2 x hx).2⟩⟩
    · rw [h2]; simp
  · have h2 : if bi inner f 3 then -2147483648 ≤ f.ver ∧ f.ver ≤ 2147483647 else f.ver = 0 := okTo_le h (show 3 < 8 by omega)
    split at h2
    · exact h2
    · omega
  · have h2 : if bi inner f 5 then -9223372036854775808 ≤ f.ses ∧ f.ses ≤ 9223372036854775807 else f.ses = 0 := okTo_le h (show 5 < 8 by omega)
    split at h2
    · exact h2
    · omega
  · have h2 : if bi inner f 6 then -2147483648 ≤ f.tmo ∧ f.tmo ≤ 2147483647 else f.tmo = 0 := okTo_le h (show 6 < 8 by omega)
    split at h2
    · exact h2
    · omega
  · have h2 : if bi inner f 7 then f.who.length ≤ 4 ∧ ∀ x ∈ f.who, okId x else f.who = [] := okTo_le h (show 7 < 8 by omega)
    split at h2
    · exact ⟨by omega, fun x hx => okId_wf (h2.2 x hx)⟩
    · rw [h2]; simp
theorem okR_wf {q : Rq} (h : okR false q) : WfQ q := by
  have h2 := h.2
  refine .mk q (okTo_wf h.1) ?_ fun x hx => ?_
  · split at h2
    · omega
    · rw [h2]; simp
  · split at h2
    · have h3 := h2.2 x hx
      exact .mk x (okTo_wf h3.1) (by rw [h3.2]; simp) (fun y hy => by rw [h3.2] at hy; cases hy)
    · rw [h2] at hx; cases hx
def qz : Rq := .mk zf (.slice none 0 0) (.slice none 0 0) (.slice none 0 0) (.slice none 0 0) []
def tz : Tx := ⟨0, 0, 0, 0, 0, qz⟩
theorem qz_wf : WfQ qz := .mk _ ⟨by decide, by decide, by decide, ⟨by decide, fun x hx => by cases hx⟩, by decide, by decide, by decide, ⟨by decide, fun x hx => by cases hx⟩⟩ (by decide) (fun x hx => by cases hx)
def Rds (l : List UInt8) (t : Tx) (e : Int) : Prop := (okT t ∧ chkT t = true ∧ l = txB t ∧ (∀ y, okT y → Has l 0 (txB y) → y.hd = t.hd ∧ keyQ y.q = keyQ t.q) ∧ e = 0) ∨ ((∀ y, okT y → chkT y = true → l ≠ txB y) ∧ t = tz ∧ e = 40)
theorem Rds.wf {l : List UInt8} {t : Tx} {e : Int} (h : Rds l t e) : WfQ t.q := by
  rcases h with ⟨h, _⟩ | ⟨_, rfl, _⟩
  · exact okR_wf h.2
  · exact qz_wf
theorem Rds.same {l : List UInt8} {t u : Tx} {e f : Int} (h : Rds l t e) (k : Rds l u f) : e = f ∧ t.hd = u.hd ∧ t.q.st = u.q.st := by
  rcases h with ⟨h1, h2, h3, h4, rfl⟩ | ⟨h1, rfl, rfl⟩
  · rcases k with ⟨k1, k2, k3, k4, rfl⟩ | ⟨k1, rfl, rfl⟩
    · obtain ⟨a, b⟩ := h4 u k1 ⟨[], by rw [List.append_nil]; exact k3⟩
      exact ⟨rfl, a.symm, (st_of_key k1.2 h1.2 b).symm⟩
    · exact absurd h3 (k1 t h1 h2)
  · rcases k with ⟨k1, k2, k3, k4, rfl⟩ | ⟨k1, rfl, rfl⟩
    · exact absurd k3 (h1 u k1 k2)
    · exact ⟨rfl, rfl, rfl⟩
section
variable (Z : List PanicEntry → World → Prop) {o w : World} {R As : List HProp}
theorem tz_own (h : St o w R) : St o w (OwQ tz.q :: R) := by
  show St o w (OwQ qz :: R)
  rw [OwQ_eq]
  have h1 := (h.emp.mono fun _ _ => (trivial : satH (([] : List Rq).map OwQ) _)).own_nil 33 11
  exact (OwF.plain 0 h1.sep_intro).sep_intro
theorem readX {x : Value} {n : Nat} {l : List UInt8} (hN : Names o) (ho : old o ∈ R) (hx : Ent o R fun w => Rd w 1 x n (cb l)) (hl : l.length ≤ 140737488355328) (h : St o w R) :
    CallV Tryz.prog Z 19 #[x] w fun r w' => ∃ t e, r = .tuple #[.agg t.cells.toArray, .int .i64 e] ∧ Rds l t e ∧ St o w' (OwQ t.q :: R) :=
  (readC Z hN ho hx hl h).mono fun r w' hq => by
    rcases hq with ⟨t, h1, h2, h3, h4, hr, hS⟩ | ⟨h1, hr, hS⟩
    · exact ⟨t, 0, hr, .inl ⟨h1, h2, h3, h4, rfl⟩, hS⟩
    · exact ⟨tz, 40, hr, .inr ⟨h1, rfl, rfl⟩, tz_own hS⟩
theorem readY {x : Value} {n : Nat} {l : List UInt8} (hx : Ent o R fun w => Rd w 1 x n (cb l)) (hl : l.length ≤ 140737488355328) (h : St o w R) :
    CallV Tryz.prog Z 20 #[x] w fun r w' => ∃ t e, r = .tuple #[.agg t.cells.toArray, .int .i64 e] ∧ Rds l t e ∧ St o w' (OwQ t.q :: R) :=
  (readR Z hx hl h).mono fun r w' hq => by
    rcases hq with ⟨t, h1, h2, h3, h4, hr, hS⟩ | ⟨h1, hr, hS⟩
    · exact ⟨t, 0, hr, .inl ⟨h1, h2, h3, h4, rfl⟩, hS⟩
    · exact ⟨tz, 40, hr, .inr ⟨h1, rfl, rfl⟩, tz_own hS⟩
set_option maxRecDepth 100000 in
theorem readsW {ax : Option Addr} {cx : Nat} {l : List UInt8} (n : Int) (m : UInt8) (hr0 : -9223372036854775808 ≤ n ∧ n ≤ 9223372036854775807) (hx : Rd w 1 (.slice ax l.length cx) l.length (cb l)) (hN : Names w) (hT : Tab w) :
    CallV Tryz.prog Z 4 #[.slice ax l.length cx, .int .i64 n, .int .u8 (m.toNat : Int)] w fun r w' => r = .bool true ∧ St w w' [old w] := by
  refine f4.calls ?_
  unfold f4.sh
  refine (worksC Z hN m0 (St.start w)).mono fun r w1 ⟨hr, hS⟩ => ?_
  subst hr
  (try simp only [o_geq, o_not, Bool.not_true, o_pickF, guardW_ff, ln_28_3, o_gtr, cond_decide])
  refine ⟨fun _ => ⟨by first | rfl | trivial, hS⟩, fun hbig => ?_⟩
  have hll : l.length ≤ 67108864 := by omega
  refine (wideBytes Z hS (Ent.old hx m0) (by omega)).mono fun r w2 ⟨gi, hr, hS⟩ => ?_
  subst hr
  -- in old
  refine (readX Z (x := .slice (some ⟨gi, 0, none⟩) l.length (l.length + 64)) (n := l.length) (l := l) hN m1 (fun w hw => blk_rd hw m0 rfl (by omega)) (by omega) hS).mono fun r w3 ⟨t, et, hr, ht, hS⟩ => ?_
  subst hr
  (try simp only [ln_28_3, o_ext2_1, o_ext2_0])
  refine r_alloc hS ze35 fun gt w4 hS => ?_
  have hto := (OwQ.rd _ hS.drop).ones
  refine r_storeN hS ag35 (xs := t.cells) rfl (show 0 + 16 ≤ 16 from Nat.le_refl _) (txC_ones hto) fun w5 hS => ?_
  rw [setL_all _ _ (by rfl)] at hS
  -- gt Ot in old
  refine (readX Z (x := .slice (some ⟨gi, 0, none⟩) l.length (l.length + 64)) (n := l.length) (l := l) hN m3 (fun w hw => blk_rd hw m2 rfl (by omega)) (by omega) hS).mono fun r w6 ⟨u, eu, hr, hu, hS⟩ => ?_
  subst hr
  (try simp only [fa_35_2, Nat.zero_add, o_ext2_1, o_ext2_0])
  refine r_alloc hS ze35 fun gu w7 hS => ?_
  have huo := (OwQ.rd _ hS.drop).ones
  refine r_storeN hS ag35 (xs := u.cells) rfl (show 0 + 16 ≤ 16 from Nat.le_refl _) (txC_ones huo) fun w8 hS => ?_
  rw [setL_all _ _ (by rfl)] at hS
  -- gu Ou gt Ot in old
  refine (readY Z (n := l.length) (l := l) (fun w hw => hx.of_old hw m5) (by omega) hS).mono fun r w9 ⟨v, ev, hr, hv, hS⟩ => ?_
  subst hr
  (try simp only [fa_35_2, Nat.zero_add, o_ext2_1, o_ext2_0])
  refine r_alloc hS ze35 fun gv w10 hS => ?_
  have hvo := (OwQ.rd _ hS.drop).ones
  refine r_storeN hS ag35 (xs := v.cells) rfl (show 0 + 16 ≤ 16 from Nat.le_refl _) (txC_ones hvo) fun w11 hS => ?_
  rw [setL_all _ _ (by rfl)] at hS
  -- gv Ov gu Ou gt Ot in old
  refine (eqBytes Z (blk_rd hS m6 rfl (by omega)) (hx.of_old hS m7)).mono fun r w12 ⟨hr, hd⟩ => ?_
  subst hr
  have hS := hS.drew hd
  rw [decide_eq_true rfl]
  (try simp only [o_pickT, guardW_true])
  refine (spareBytes Z rfl (by omega) (hS.mem_blk m6)).mono fun r w13 ⟨hr, hw⟩ => ?_
  subst hr; subst hw
  (try simp only [o_not, Bool.not_true, o_pickF, guardW_ff])
  obtain ⟨e1, a1, b1⟩ := ht.same hv
  obtain ⟨e2, a2, b2⟩ := hu.same hv
  subst e1; subst e2
  refine r_loadN ag35 (xs := t.cells) rfl (hS.cells_at m4 0 (whole_at _)) ?_
  refine r_loadN ag35 (xs := v.cells) rfl (hS.cells_at m0 0 (whole_at _)) ?_
  refine (eqT Z t v (fun w1 hw1 => OwQ.rd _ (hw1.pick 5)) (fun w1 hw1 => OwQ.rd _ hw1.drop) hS).mono fun r w14 ⟨⟨c1, hr, hc1⟩, hS⟩ => ?_
  subst hr
  have hc1 : c1 = true := hc1.2 ⟨a1, b1⟩
  subst hc1
  (try simp only [o_pickT, guardW_true])
  refine r_loadN ag35 (xs := u.cells) rfl (hS.cells_at m2 0 (whole_at _)) ?_
  skip
  refine r_loadN ag35 (xs := v.cells) rfl (hS.cells_at m0 0 (whole_at _)) ?_
  skip
  refine (eqT Z u v (fun w1 hw1 => OwQ.rd _ (hw1.pick 3)) (fun w1 hw1 => OwQ.rd _ hw1.drop) hS).mono fun r w15 ⟨⟨c2, hr, hc2⟩, hS⟩ => ?_
  subst hr
  have hc2 : c2 = true := hc2.2 ⟨a2, b2⟩
  subst hc2
  have hbn : ∀ e : Int, (e != e) = false := fun e => by simp
  (try simp only [o_not, Bool.not_true, o_pickF, guardW_ff, o_neq, hbn, condF])
  refine r_build (cells := (List.replicate 21 (.slice none 0 0)).toArray) (by kernel_rfl) ?_
  refine r_box _ _ hS fun gB w16 hS => ?_
  have hS := bag_new hS
  skip
  -- bag gv Ov gu Ou gt Ot in old
  refine r_loadN ag33 (xs := t.q.cells) rfl (hS.cells_at m5 5 (rq_at t)) ?_
  refine (addReq Z t.q ht.wf ((hS.pick 6).swap)).mono fun r w17 ⟨n0, n1, n2, n3, hS⟩ => ?_
  rw [List.nil_append, List.nil_append, List.nil_append, List.nil_append] at hS
  have hS := (hS.pick 6).drop
  -- bag new gv Ov gu Ou in old
  have hS := (newR.open hS.swap).pick 4
  refine (bagApart Z hT (by simp) hS).mono fun r w18 ⟨hr, hS⟩ => ?_
  subst hr
  have hS := (newR.shut (hS.put 4)).swap
  (try simp only [o_pickT, guardW_true])
  refine r_loadN ag35 (xs := u.cells) rfl (hS.cells_at m4 0 (whole_at _)) ?_
  refine r_loadN ag35 (xs := v.cells) rfl (hS.cells_at m2 0 (whole_at _)) ?_
  refine (eqT Z u v (fun w1 hw1 => OwQ.rd _ (hw1.pick 5)) (fun w1 hw1 => OwQ.rd _ (hw1.pick 3)) hS).mono fun r w19 ⟨⟨c3, hr, hc3⟩, hS⟩ => ?_
  subst hr
  have hc3 : c3 = true := hc3.2 ⟨a2, b2⟩
  subst hc3
  intro j hj
  have HJ : ∀ (w' : World) (k : List UInt8), k.length = l.length → St w w' (bagP gB (n0.map Prod.fst) (n1.map Prod.fst) (n2.map Prod.fst) (n3.map Prod.fst) :: newR n0 n1 n2 n3 :: blk gv 35 v.cells :: OwQ v.q :: blk gu 35 u.cells :: OwQ u.q :: blk gi 5 (cb (k ++ marks l.length)) :: [old w]) → j w' := by
    clear hS
    intro w' k hk hS
    refine hj w' fun _ => ?_
    clear hj
    refine (copyBytes Z (x := .slice (some ⟨gi, 0, none⟩) l.length (l.length + 64)) (n := l.length) (l := k) hS (fun w hw => blk_rd hw m6 hk.symm (by omega)) (by omega)).mono fun r w20 hS => ?_
    -- turn bag new gv Ov gu Ou in old
    refine (readX Z (x := .slice (some ⟨gi, 0, none⟩) l.length (l.length + 64)) (n := l.length) (l := k) hN m8 (fun w hw => blk_rd hw m7 hk.symm (by omega)) (by omega) hS).mono fun r2 w21 ⟨y, ey, hr, hy, hS⟩ => ?_
    subst hr
    (try simp only [o_pickT, guardW_true, o_ext2_1, o_ext2_0])
    refine r_alloc hS ze35 fun gy w22 hS => ?_
    have hyo := (OwQ.rd _ hS.drop).ones
    refine r_storeN hS ag35 (xs := y.cells) rfl (show 0 + 16 ≤ 16 from Nat.le_refl _) (txC_ones hyo) fun w23 hS => ?_
    rw [setL_all _ _ (by rfl)] at hS
    -- gy Oy turn bag new gv Ov gu Ou in old
    refine (readY Z (x := r) (n := k.length) (l := k) (fun w hw => hw.own_rd m2) (by omega) hS).mono fun r2 w24 ⟨z, ez, hr, hz, hS⟩ => ?_
    subst hr
    (try simp only [fa_35_2, Nat.zero_add, o_ext2_1, o_ext2_0])
    refine r_alloc hS ze35 fun gz w25 hS => ?_
    have hzo := (OwQ.rd _ hS.drop).ones
    refine r_storeN hS ag35 (xs := z.cells) rfl (show 0 + 16 ≤ 16 from Nat.le_refl _) (txC_ones hzo) fun w26 hS => ?_
    rw [setL_all _ _ (by rfl)] at hS
    -- gz Oz gy Oy turn bag new gv Ov gu Ou in old
    obtain ⟨e3, a3, b3⟩ := hy.same hz
    subst e3
    refine r_loadN ag35 (xs := y.cells) rfl (hS.cells_at m2 0 (whole_at _)) ?_
    refine r_loadN ag35 (xs := z.cells) rfl (hS.cells_at m0 0 (whole_at _)) ?_
    refine (eqT Z y z (fun w1 hw1 => OwQ.rd _ (hw1.pick 3)) (fun w1 hw1 => OwQ.rd _ hw1.drop) hS).mono fun r2 w27 ⟨⟨c4, hr, hc4⟩, hS⟩ => ?_
    subst hr
    have hc4 : c4 = true := hc4.2 ⟨a3, b3⟩
    subst hc4
    refine ⟨fun m y' w' => ∃ (i : Nat) (k : List UInt8), y' = .int .i64 i ∧ m + i = l.length ∧ k.length = l.length ∧ St w w' (blk gi 5 (cb (k ++ marks l.length)) :: blk gz 35 z.cells :: OwQ z.q :: blk gy 35 y.cells :: OwQ y.q :: bagP gB (n0.map Prod.fst) (n1.map Prod.fst) (n2.map Prod.fst) (n3.map Prod.fst) :: newR n0 n1 n2 n3 :: blk gv 35 v.cells :: OwQ v.q :: blk gu 35 u.cells :: OwQ u.q :: [old w]),
      ⟨l.length, 0, k, rfl, rfl, hk, ((hS.pick 11).pick 5).drop⟩, ?_⟩
    clear hS hk
    rintro m' _ w28 ⟨i, k, rfl, hi, hk, hS⟩ _
    by_cases hlt : (i : Int) < (l.length : Int)
    · have hil : i < l.length := by omega
      (try simp only [o_add, o_pickT, guardW_true, o_eql, beq_self_eq_true, o_lss, hlt, decide_true, condT])
      refine r1 (run_wv _ el28 gi _ i hil _) ?_
      rw [Nat.mul_one]
      refine r_store hS one5 (by rw [cb_length, List.length_append]; omega) rfl fun w29 hS => ?_
      have hcs : (cb (k ++ marks l.length)).set i (.int .u8 7) = cb (k.set i 7 ++ marks l.length) := by
        have := cb_set (k ++ marks l.length) i 7
        rw [List.set_append_left _ _ (by omega)] at this
        exact this
      rw [hcs] at hS
      skip
      rw [wr_i64 (x := (i : Int) + 1) (by omega) (by omega)]
      exact ⟨m' - 1, by omega, i + 1, k.set i 7, rfl, by omega, by rw [List.length_set]; exact hk, hS⟩
    (try simp only [o_add, o_pickT, guardW_true, o_eql, beq_self_eq_true, o_lss, hlt, decide_false, condF])
    -- in gz Oz gy Oy bag new gv Ov gu Ou old
    refine r_loadN ag35 (xs := y.cells) rfl (hS.cells_at m3 0 (whole_at _)) ?_
    refine r_loadN ag35 (xs := z.cells) rfl (hS.cells_at m1 0 (whole_at _)) ?_
    refine (eqT Z y z (fun w1 hw1 => OwQ.rd _ (hw1.pick 4)) (fun w1 hw1 => OwQ.rd _ (hw1.pick 2)) hS).mono fun r2 w29 ⟨⟨c5, hr, hc5⟩, hS⟩ => ?_
    subst hr
    have hc5 : c5 = true := hc5.2 ⟨a3, b3⟩
    subst hc5
    (try simp only [o_pickT, guardW_true])
    refine r_loadN ag35 (xs := u.cells) rfl (hS.cells_at (.tail _ m8) 0 (whole_at _)) ?_
    skip
    refine r_loadN ag35 (xs := v.cells) rfl (hS.cells_at m7 0 (whole_at _)) ?_
    skip
    refine (eqT Z u v (fun w1 hw1 => OwQ.rd _ (hw1.pick 10)) (fun w1 hw1 => OwQ.rd _ (hw1.pick 8)) hS).mono fun r2 w30 ⟨⟨c6, hr, hc6⟩, hS⟩ => ?_
    subst hr
    have hc6 : c6 = true := hc6.2 ⟨a2, b2⟩
    subst hc6
    (try simp only [o_pickT, guardW_true])
    refine r_loadN ag33 (xs := u.q.cells) rfl (hS.cells_at (.tail _ m8) 5 (rq_at u)) ?_
    refine (addReq Z u.q hu.wf ((hS.pick 10).pick 6)).mono fun r2 w31 ⟨k0, k1, k2, k3, hS⟩ => ?_
    -- bag newk in gz Oz gy Oy newn gv Ov gu old
    skip
    refine r_loadN ag33 (xs := y.q.cells) rfl (hS.cells_at m5 5 (rq_at y)) ?_
    refine (addReq Z y.q hy.wf ((hS.pick 6).swap)).mono fun r2 w32 ⟨l0, l1, l2, l3, hS⟩ => ?_
    -- bag newl newk in gz Oz gy newn gv Ov gu old
    have hS := newR.join ((hS.pick 7).pick 3).swap
    have hS := newR.join (hS.pick 2).swap
    rw [← List.map_append, ← List.map_append, ← List.map_append, ← List.map_append, ← List.map_append, ← List.map_append, ← List.map_append, ← List.map_append] at hS
    have hS := (newR.open hS).pick 4
    have hbe : ∀ e : Int, (e == e) = true := fun e => by simp
    skip
    refine (bagApart Z hT (by simp) hS).mono fun r2 w33 ⟨hr, hS⟩ => ?_
    subst hr
    (try simp only [])
    exact ⟨by first | rfl | trivial | simp, hS.drop.drop.drop.drop.drop.drop.drop.drop.drop.drop.drop.drop⟩
  clear hj
  skip
  by_cases h0 : (0 : Int) ≤ n
  case neg =>
    (try simp only [h0, decide_false, o_pickF, condF, guardW_ft])
    exact HJ _ l rfl hS
  by_cases h1 : n < (l.length : Int)
  case neg =>
    (try simp only [h0, decide_true, o_pickT, guardW_true, ln_28_3, o_lss, h1, decide_false, condF])
    exact HJ _ l rfl hS
  obtain ⟨i, rfl⟩ : ∃ i : Nat, n = i := ⟨n.toNat, by omega⟩
  have hil : i < l.length := by omega
  (try simp only [h0, decide_true, o_pickT, guardW_true, ln_28_3, o_lss, h1, condT])
  refine r1 (run_wv _ el28 gi _ i hil _) ?_
  rw [Nat.mul_one]
  refine r_load one5 (v := .int .u8 (l[i].toNat : Int)) (hS.at m6 i (by rw [cb_append, List.getElem?_append_left (by rw [cb_length]; omega), cb_at hil])) ?_
  refine r1 (run_xor _ _ _ _ _ _) ?_
  refine r1 (run_wv _ el28 gi _ i hil _) ?_
  rw [Nat.mul_one]
  obtain ⟨b, hb⟩ := u8_some ((BitVec.ofInt IntKind.u8.bits (l[i].toNat : Int) ^^^ BitVec.ofInt IntKind.u8.bits (m.toNat : Int)).toNat : Int)
  rw [hb]
  refine r_store (hS.pick 6) one5 (by rw [cb_length, List.length_append]; omega) rfl fun w20 hS => ?_
  rw [cb_set, List.set_append_left _ _ (by omega)] at hS
  exact HJ _ (l.set i b) (by rw [List.length_set]) (hS.put 6)
end
end Go.Proofs.YtpdehbbkpekoiaaGreatDoor
