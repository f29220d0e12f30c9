/- Chapter 14: the document's Way; ChooseWays: the walk. -/
import Derived.Test.YtoeamecdkimgaaaDoorH4
set_option linter.unusedVariables false
set_option linter.unusedSimpArgs false
namespace Go.Proofs.YtoeamecdkimgaaaDoor
open Go.Sh
theorem eqCh (c : Int × Int × Int × Bool) (w : World) : (eqOp .eql 33 false false (.agg (chC c).toArray) (.agg (chC c).toArray)).run Tryd.prog w = .ok (.bool true) w ∧ (eqOp .neq 33 false false (.agg (chC c).toArray) (.agg (chC c).toArray)).run Tryd.prog w = .ok (.bool false) w := by
  have hg : Tryd.prog.eqGuardType Tryd.prog.depth 33 = false := by kernel_rfl
  have hu : Tryd.prog.underlying 33 = some (.struct (Tryd.prog.fieldsOf 33)) := by kernel_rfl
  have hs : Tryd.prog.stoodInHeld 33 = false := by kernel_rfl
  have hgz : Tryd.prog.eqGuardType Tryd.prog.depth 30 = false := by kernel_rfl
  have huz : Tryd.prog.underlying 30 = some (.struct (Tryd.prog.fieldsOf 30)) := by kernel_rfl
  have hsz : Tryd.prog.stoodInHeld 30 = false := by kernel_rfl
  have k8 : Tryd.prog.plainKey 31 = true := by kernel_rfl
  have kb : Tryd.prog.plainKey 4 = true := by kernel_rfl
  have k32 : Tryd.prog.plainKey 28 = true := by kernel_rfl
  have hz : ∀ w, (sizeOf 30).run Tryd.prog w = .ok 2 w := fun w => by kernel_rfl
  have q0 : ∀ (a b : Int) (w : World), (part 28 (zx a b).toArray 0).run Tryd.prog w = .ok (.int .u32 a) w := fun a b w => run_part_plain w k32 rfl
  have q1 : ∀ (a b : Int) (w : World), (part 28 (zx a b).toArray 1).run Tryd.prog w = .ok (.int .u32 b) w := fun a b w => run_part_plain w k32 rfl
  have inZ : ∀ (a b : Int) (d : Nat) (w : World), (Op.equalIn (d + 2) 30 (.agg (zx a b).toArray) (.agg (zx a b).toArray)).run Tryd.prog w = .ok true w := fun a b d w => by
    rw [run_equalIn_agg _ _ _ _ _ huz hsz]
    simp [Program.fieldsOf, Tryd.underlying30, Op.eqFields, q0, q1, run_equalIn_int _ _ _ _ _ _ _ Tryd.underlying28]
  have p0 : ∀ (w : World), (part 31 (chC c).toArray 0).run Tryd.prog w = .ok (.int .i8 c.1) w := fun w => run_part_plain w k8 rfl
  have p1 : ∀ (w : World), (part 30 (chC c).toArray 1).run Tryd.prog w = .ok (.agg (zx c.2.1 c.2.2.1).toArray) w := fun w => by
    unfold part
    simp only [Sem.run_bind, run_isAgg ag30, Result.andThen_ok, if_true, hz]
    simp [chC, zx]
  have p2 : ∀ (w : World), (part 4 (chC c).toArray 3).run Tryd.prog w = .ok (.bool c.2.2.2) w := fun w => run_part_plain w kb rfl
  constructor
  · unfold eqOp
    simp only [Sem.run_bind, run_eqGuard_agg _ _ _ _ _ _ _ hg, Result.andThen_ok, run_eql_struct, run_equalIn_agg _ _ _ _ _ hu hs]
    simp [Program.fieldsOf, Tryd.underlying33, Op.eqFields, p0, p1, p2, run_equalIn_int _ _ _ _ _ _ _ Tryd.underlying31, run_equalIn_bool _ _ _ _ _ Tryd.underlying4, inZ, hz]
  · unfold eqOp
    simp only [Sem.run_bind, run_eqGuard_agg _ _ _ _ _ _ _ hg, Result.andThen_ok, run_neq_struct, run_equalIn_agg _ _ _ _ _ hu hs]
    simp [Program.fieldsOf, Tryd.underlying33, Op.eqFields, p0, p1, p2, run_equalIn_int _ _ _ _ _ _ _ Tryd.underlying31, run_equalIn_bool _ _ _ _ _ Tryd.underlying4, inZ, hz]
/-- What Way is asked, as it lies. -/
def csC (pe pn se sn : Int) (v : Value) (cached image : Int) (f : Nat) : List Value := zx pe pn ++ (zx se sn ++ [v, .int .i64 cached, .int .i64 image, .float .f64 f])
theorem csC_ones {pe pn se sn : Int} {v : Value} {cached image : Int} {f : Nat} (hv : v.oneCell' = true) : ones (csC pe pn se sn v cached image f) := by
  intro u hu
  simp [csC, zx] at hu
  rcases hu with rfl | rfl | rfl | rfl | rfl | rfl | rfl | rfl
  all_goals first | exact hv | rfl
section
variable (Z : List PanicEntry → World → Prop) {o w : World} {R : List HProp}
theorem lawRises14 {v : Value} {ts : List Tx} {e n : Int} (hn : u32r n) (hns : ∀ t ∈ ts, u32r t.n) (hx : Ent o R fun w => RdT w v ts) (h : St o w R) : CallV Tryd.prog Z 11 #[.agg (zx e n).toArray, v] w fun r w' => r = .bool (rises e n (zxs ts)) ∧ St o w' R := by
  obtain ⟨a, c, rfl⟩ := (hx w h).1.form
  have hle := (hx w h).1.2.1
  simp only [maxLen] at hle
  refine f11.calls ?_
  unfold f11.sh
  refine r_box _ _ h fun g w1 hS => ?_
  have hS : St o w1 (blk g 30 (zx e n) :: R) := hS
  refine ⟨fun m y w' => ∃ (i : Nat) (pe pn : Int), y = .int .i64 i ∧ m + i = ts.length ∧ u32r pn ∧ rises e n (zxs ts) = rises pe pn (zxs (ts.drop i)) ∧ St o w' (blk g 30 (zx pe pn) :: R), ⟨ts.length, 0, e, n, rfl, rfl, hn, rfl, hS⟩, ?_⟩
  clear hS
  rintro m _ w2 ⟨i, pe, pn, rfl, hi, hpn, hri, hS⟩ _
  by_cases hlt : (i : Int) < (ts.length : Int)
  · have hil : i < ts.length := by omega
    have hmem : ts[i] ∈ ts := List.getElem_mem hil
    rw [List.drop_eq_getElem_cons hil] at hri
    have hri : rises e n (zxs ts) = (decide (ls pe pn ts[i].e ts[i].n) && rises ts[i].e ts[i].n (zxs (ts.drop (i + 1)))) := hri
    (try simp only [o_add, ln_22_3, o_lss, hlt, decide_true, condT])
    refine ⟨fun w5 hd => ?_⟩
    have hS := hS.drew hd
    obtain ⟨b, p, cs, hp, _, hcv, hc⟩ := (rowR_rd (c := Tx.cells) (fun x => rfl) (hx w5 hS.drop).1 rfl).ix el22 .i64 i hil
    subst hcv
    refine rr_loadN ag30 (xs := zx pe pn) rfl (hS.cells_at m0 0 (whole_at _)) ?_
    refine rp hp ?_
    (try simp only [fa_49_0p, Nat.add_zero])
    refine rr_loadN ag30 (xs := zx ts[i].e ts[i].n) rfl (fun j u hu => by rw [add_addr]; exact hc j u (by have := zx_at ts[i] j u hu; rwa [Nat.zero_add] at this)) ?_
    refine (refCompare Z hS).mono fun r w6 ⟨hr, hS⟩ => ?_
    subst hr
    have hcmp := ls_cmp (e := pe) (n := pn) (e' := ts[i].e) (n' := ts[i].n) hpn (hns _ hmem)
    (try simp only [o_geqp, cond_decide])
    refine ⟨fun hge => ?_, fun hge => ?_⟩
    · rw [decide_eq_false (by omega)] at hcmp
      exact ⟨by rw [hri, ← hcmp]; rfl, hS.drop⟩
    · rw [decide_eq_true (by omega)] at hcmp
      obtain ⟨b, p, cs, hp, _, hcv, hc⟩ := (rowR_rd (c := Tx.cells) (fun x => rfl) (hx w6 hS.drop).1 rfl).ix el22 .i64 i hil
      subst hcv
      refine r1 (hp _) ?_
      (try simp only [fa_49_0, Nat.add_zero])
      refine r_loadN ag30 (xs := zx ts[i].e ts[i].n) rfl (fun j u hu => by rw [add_addr]; exact hc j u (by have := zx_at ts[i] j u hu; rwa [Nat.zero_add] at this)) ?_
      refine r_storeN hS ag30 (xs := zx ts[i].e ts[i].n) rfl (show 0 + 2 ≤ 2 from Nat.le_refl _) (zx_ones _ _) fun w8 hS => ?_
      rw [setL_all _ _ (by rfl)] at hS
      rw [wr_i64 (x := (i : Int) + 1) (by omega) (by omega)]
      refine ⟨m - 1, by omega, i + 1, ts[i].e, ts[i].n, rfl, by omega, hns _ hmem, ?_, hS⟩
      rw [hri, ← hcmp, Bool.true_and]
  · obtain rfl : i = ts.length := by omega
    (try simp only [o_add, ln_22_3, o_lss, hlt, decide_false, condF])
    rw [List.drop_length] at hri
    exact ⟨by rw [hri]; rfl, hS.drop⟩
theorem askC {ax : Option Addr} {cx : Nat} {ts : List Tx} {pe pn se sn cached image : Int} {f : Nat} (hpe : u32r pe) (hpn : u32r pn) (hse : u32r se) (hsn : u32r sn) (hcap : ts.length ≤ cx) (hN : Names o) (ho : old o ∈ R) (hw : WfT ts)
    (hx : Ent o R fun w => RdT w (.slice ax ts.length cx) ts) (h : St o w R) :
    CallV Tryd.prog Z 16 #[.agg (csC pe pn se sn (.slice ax ts.length cx) cached image f).toArray] w fun r w' => r = wayT (wayR pe pn se sn ts cached image f) ∧ St o w' R := by
  refine f16.calls ?_
  unfold f16.sh
  refine r_box _ _ h fun gx w1 hS => ?_
  have hS : St o w1 (blk gx 54 (csC pe pn se sn (.slice ax ts.length cx) cached image f) :: R) := hS
  refine r_alloc hS ze33 fun gr w3 hS => ?_
  have hS : St o w3 (blk gr 33 (chC (0, 0, 0, false)) :: blk gx 54 (csC pe pn se sn (.slice ax ts.length cx) cached image f) :: R) := hS
  (try simp only [fa_54_5, Nat.zero_add, fa_54_4, fa_54_3, fa_54_2, fa_54_1, fa_54_0, Nat.add_zero])
  refine r_loadN ag30 (xs := zx pe pn) rfl (hS.cells_at m1 0 (fun j u hu => by rw [Nat.zero_add, csC, List.getElem?_append_left (List.getElem?_eq_some_iff.1 hu).1]; exact hu)) ?_
  refine r_loadN ag30 (xs := zx se sn) rfl (hS.cells_at m1 2 (fun j u hu => by rw [csC, List.getElem?_append_right (by simp [zx])]; rw [show 2 + j - (zx pe pn).length = j by simp [zx]]; rw [List.getElem?_append_left (List.getElem?_eq_some_iff.1 hu).1]; exact hu)) ?_
  refine r_load one22 (hS.at m1 4 rfl) ?_
  skip
  refine r_load one3 (hS.at m1 5 rfl) ?_
  skip
  refine r_load one3 (hS.at m1 6 rfl) ?_
  skip
  refine r_load one23 (hS.at m1 7 rfl) ?_
  refine (wayC Z hpe hpn hse hsn hcap hN (List.mem_cons_of_mem _ (List.mem_cons_of_mem _ ho)) hw (fun w hw => hx w hw.drop.drop) hS).mono fun r w2 ⟨hr, hS⟩ => ?_
  subst hr
  generalize wayR pe pn se sn ts cached image f = q
  unfold wayT
  (try simp only [o_ext2_1, o_ext2_0])
  refine finW Z _ rfl hS fun w' hS => ?_
  exact ⟨by first | rfl | trivial, hS.drop⟩
end
end Go.Proofs.YtoeamecdkimgaaaDoor

/- Chapter 14: the document's Way. -/
set_option linter.unusedVariables false
set_option linter.unusedSimpArgs false
namespace Go.Proofs.YtoeamecdkimgaaaDoor
open Go.Sh
section
variable (Z : List PanicEntry → World → Prop) {o w : World} {R : List HProp}
theorem chainNU {w : World} {K : Value → World → Prop} (b u : Bool) (hk : K (.bool (!b && !u)) w) : guardW (.bool (!b)) true (fun k => k (.bool u) w) (fun t82 w => guardW (.bool (!b)) true (fun k => run1 Tryd.prog Z (Op.unary .not t82) w k) (fun t83 w => run1 Tryd.prog Z (pickV (.bool (!b)) t83 (.bool false)) w fun t84 w => K t84 w) w) w := by
  cases b <;> cases u
  all_goals (try simp only [Bool.not_false, o_pickT, guardW_true, o_not, Bool.not_true, o_pickF, guardW_ft])
  all_goals exact hk
end
end Go.Proofs.YtoeamecdkimgaaaDoor

/- Chapter 14: ChooseWays: the walk. -/
set_option linter.unusedVariables false
set_option linter.unusedSimpArgs false
namespace Go.Proofs.YtoeamecdkimgaaaDoor
open Go.Sh
theorem wayR_key {a b : List Tx} (h : a.map txK = b.map txK) (pe pn se sn cached image : Int) (f : Nat) : wayR pe pn se sn a cached image f = wayR pe pn se sn b cached image f := by
  have h1 : zxs a = zxs b := zxs_hd (txK_hd h)
  have h2 : a.length = b.length := by have := congrArg List.length h; simpa using this
  have h3 : ∀ k, szTs (a.drop k) = szTs (b.drop k) := fun k => szTs_key (by rw [List.map_drop, List.map_drop, h])
  unfold wayR
  rw [h1, h2, h3]
theorem own_cap {o w : World} {R : List HProp} {e sz n : Nat} {v : Value} {xs : List Value} (h : St o w (own e sz v n xs :: R)) : ∃ a c, v = .slice a n c ∧ n ≤ c := by
  obtain ⟨_, ⟨rfl, rfl, _⟩ | ⟨g, cap, rest, rfl, h1, _⟩⟩ := h.own_open
  · exact ⟨_, _, rfl, Nat.le_refl _⟩
  · exact ⟨_, _, rfl, h1⟩
/-- The same but for its zxid. -/
def newZ (t : Tx) (e n : Int) : Tx := ⟨e, n, t.sv, t.bo, t.nu, t.q⟩
theorem setL_zx (A B : List Tx) (t : Tx) (e n : Int) : setL (((A ++ t :: B).map Tx.cells).flatten) (A.length * 16) (zx e n) = ((A ++ newZ t e n :: B).map Tx.cells).flatten := by
  have h := setL_mid (A.map Tx.cells).flatten (zx t.e t.n) (zx e n) ((orC t.sv t.bo t.nu ++ t.q.cells) ++ (B.map Tx.cells).flatten) rfl
  have hl : (A.map Tx.cells).flatten.length = A.length * 16 := by
    rw [len_flatten_of (sz := 16) (fun c hc => by obtain ⟨x, _, rfl⟩ := List.mem_map.1 hc; exact Tx.cells_len x), List.length_map]
  rw [hl] at h
  have e1 : ((A ++ t :: B).map Tx.cells).flatten = (A.map Tx.cells).flatten ++ (zx t.e t.n ++ ((orC t.sv t.bo t.nu ++ t.q.cells) ++ (B.map Tx.cells).flatten)) := by simp [Tx.cells]
  have e2 : ((A ++ newZ t e n :: B).map Tx.cells).flatten = (A.map Tx.cells).flatten ++ (zx e n ++ ((orC t.sv t.bo t.nu ++ t.q.cells) ++ (B.map Tx.cells).flatten)) := by simp [Tx.cells, newZ]
  rw [e1, e2, h]
theorem wdT_q (l : List Tx) : l.map wdT = (l.map Tx.q).map WdQ := by rw [List.map_map]; rfl
theorem newZ_wf {t : Tx} {e n : Int} (h : wfH t.hd) (he : 0 ≤ e ∧ e ≤ 4294967295) (hn : u32r n) : wfH (newZ t e n).hd := by
  have h2 := hok_le h (show 2 < 5 by omega)
  have h3 := hok_le h (show 3 < 5 by omega)
  have h4 := hok_le h (show 4 < 5 by omega)
  exact ⟨⟨⟨⟨⟨trivial, he⟩, hn⟩, h2⟩, h3⟩, h4⟩
theorem txK_of : ∀ {a b : List Tx}, a.map Tx.hd = b.map Tx.hd → a.map (fun t => t.q.st) = b.map (fun t => t.q.st) → a.map txK = b.map txK
  | [], [], _, _ => rfl
  | [], _ :: _, h, _ => by simp at h
  | _ :: _, [], h, _ => by simp at h
  | x :: a, y :: b, h, k => by
    simp only [List.map_cons, List.cons.injEq] at h k ⊢
    exact ⟨Prod.ext h.1 k.1, txK_of h.2 k.2⟩
section
variable (Z : List PanicEntry → World → Prop) {o w : World} {R : List HProp}
end
end Go.Proofs.YtoeamecdkimgaaaDoor

/- Chapter 14: what Way is asked, as it came in. -/
set_option linter.unusedVariables false
set_option linter.unusedSimpArgs false
namespace Go.Proofs.YtoeamecdkimgaaaDoor
open Go.Sh
def TxsV (w : World) (v : Value) : Prop := ∃ a c ts, v = .slice a (List.length ts) c ∧ ts.length ≤ c ∧ WfT ts ∧ RdT w (.slice a ts.length c) ts
theorem txsV_of {w : World} {cs : List Value} (h : TxsC w cs) : ∃ v, cs = [v] ∧ TxsV w v := by
  obtain ⟨⟨v, rfl, l, hl, hwf, hr⟩, a, n, c, hv, hnc⟩ := h
  injection hv with hv
  subst hv
  exact ⟨_, rfl, txsC_open ⟨⟨_, rfl, l, hl, hwf, hr⟩, a, n, c, rfl, hnc⟩⟩
def CaseO (w : World) (cs : List Value) : Prop := ∃ pe pn se sn v cached image f, cs = csC pe pn se sn v cached image f ∧ (u32r pe ∧ u32r pn ∧ u32r se ∧ u32r sn) ∧ TxsV w v ∧ (-9223372036854775808 ≤ cached ∧ cached ≤ 9223372036854775807) ∧ (-9223372036854775808 ≤ image ∧ image ≤ 9223372036854775807) ∧ f < 18446744073709551616
theorem opn_CaseO (w : World) : Opn Tryd.prog w 54 (CaseO w) := (opn_struct Tryd.underlying54 [(2, ZxO w), (2, ZxO w), (1, TxsC w), (1, IntO w), (1, IntO w), (1, FltO w)] (by kernel_rfl) (by kernel_rfl)
  ⟨by kernel_rfl, opn_ZxO w, by kernel_rfl, opn_ZxO w, by kernel_rfl, opn_TxsC w, by kernel_rfl, opn_IntO w, by kernel_rfl, opn_IntO w, by kernel_rfl, opn_FltO w, trivial⟩).mono (by
    rintro cs ⟨_, _, rfl, _, ⟨pe, pn, rfl, hpe, hpn⟩, _, _, rfl, _, ⟨se, sn, rfl, hse, hsn⟩, _, _, rfl, _, hts, _, _, rfl, _, ⟨ca, rfl, hca⟩, _, _, rfl, _, ⟨im, rfl, him⟩, _, _, rfl, _, ⟨f, rfl, hf⟩, h4⟩
    simp only [Cut] at h4
    subst h4
    obtain ⟨v, rfl, hv⟩ := txsV_of hts
    exact ⟨pe, pn, se, sn, v, ca, im, f, rfl, ⟨hpe, hpn, hse, hsn⟩, hv, hca, him, hf⟩)
end Go.Proofs.YtoeamecdkimgaaaDoor

/- Chapter 14: last, upTo, agree of the statements. -/
set_option linter.unusedVariables false
set_option linter.unusedSimpArgs false
namespace Go.Proofs.YtoeamecdkimgaaaDoor
open Go.Sh
/-- Those up to a zxid. -/
def upT (ze zn : Int) (ts : List Tx) : List Tx := ts.filter fun t => !decide (ls ze zn t.e t.n)
theorem upT_take (ts : List Tx) (i : Nat) (hi : i < ts.length) (ze zn : Int) : upT ze zn (ts.take (i + 1)) = upT ze zn (ts.take i) ++ if ls ze zn ts[i].e ts[i].n then [] else [ts[i]] := by
  unfold upT
  rw [List.take_succ_eq_append_getElem hi, List.filter_append]
  congr 1
  by_cases h : ls ze zn ts[i].e ts[i].n <;> simp [h]
theorem upT_le (ze zn : Int) (ts : List Tx) : (upT ze zn ts).length ≤ ts.length := List.length_filter_le _ _
theorem upT_sub {ze zn : Int} {ts : List Tx} : ∀ t ∈ upT ze zn ts, t ∈ ts := fun t h => (List.mem_filter.1 h).1
theorem cells_ones {w : World} {v : Value} {ts : List Tx} (hx : RdT w v ts) : ones (ts.map Tx.cells).flatten := by
  intro u hu
  obtain ⟨l, hl, hul⟩ := List.mem_flatten.1 hu
  obtain ⟨t, ht, rfl⟩ := List.mem_map.1 hl
  exact txC_ones (hx.2 t ht).ones u hul
section
variable (Z : List PanicEntry → World → Prop) {o w : World} {R : List HProp}
theorem lastC {v : Value} {ts : List Tx} {se sn : Int} (hx : Ent o R fun w => RdT w v ts) (h : St o w R) :
    CallV Tryd.prog Z 10 #[.agg (zx se sn).toArray, v] w fun r w' => r = .agg (zx (frm se sn (zxs ts) ts.length).1 (frm se sn (zxs ts) ts.length).2).toArray ∧ St o w' R := by
  obtain ⟨a, c, rfl⟩ := (hx w h).1.form
  have hle := (hx w h).1.2.1
  simp only [maxLen] at hle
  refine f10.calls ?_
  unfold f10.sh
  refine r_box _ _ h fun gx w1 hS => ?_
  have hS : St o w1 (blk gx 30 (zx se sn) :: R) := hS
  refine r_alloc hS ze30 fun gr w2 hS => ?_
  have hS : St o w2 (blk gr 30 (zx 0 0) :: blk gx 30 (zx se sn) :: R) := hS
  (try simp only [ln_22_3, o_sub, o_gtr, cond_decide])
  refine ⟨fun hlt => ?_, fun hlt => ?_⟩
  · have hil : ts.length - 1 < ts.length := by omega
    have hz : frm se sn (zxs ts) ts.length = (ts[ts.length - 1].e, ts[ts.length - 1].n) := by
      unfold frm
      rw [if_neg (by omega), List.getD_eq_getElem?_getD, List.getElem?_eq_getElem (by rw [zxs_len]; omega), zxs_at]
      rfl
    rw [wr_i64 (x := (ts.length : Int) - 1) (by omega) (by omega), show ((ts.length : Int) - 1) = ((ts.length - 1 : Nat) : Int) by omega]
    obtain ⟨b, p, cs, hp, _, hcv, hc⟩ := (rowR_rd (c := Tx.cells) (fun x => rfl) (hx w2 hS.drop.drop).1 rfl).ix el22 .i64 (ts.length - 1) hil
    subst hcv
    refine r1 (hp _) ?_
    (try simp only [fa_49_0, Nat.add_zero])
    refine r_loadN ag30 (xs := zx ts[ts.length - 1].e ts[ts.length - 1].n) rfl (fun j u hu => by rw [add_addr]; exact hc j u (by have := zx_at ts[ts.length - 1] j u hu; rwa [Nat.zero_add] at this)) ?_
    refine r_storeN hS ag30 (xs := zx ts[ts.length - 1].e ts[ts.length - 1].n) rfl (show 0 + 2 ≤ 2 by omega) (zx_ones _ _) fun w3 hS => ?_
    rw [setL_all _ _ (by rfl)] at hS
    refine r_resN ag30 (xs := zx ts[ts.length - 1].e ts[ts.length - 1].n) rfl (hS.cells_at m0 0 (whole_at _)) ?_
    rw [hz]
    exact ⟨rfl, hS.drop.drop⟩
  · have hz : frm se sn (zxs ts) ts.length = (se, sn) := by
      unfold frm
      rw [if_pos (by omega)]
    refine r_loadN ag30 (xs := zx se sn) rfl (hS.cells_at m1 0 (whole_at _)) ?_
    refine r_storeN hS ag30 (xs := zx se sn) rfl (show 0 + 2 ≤ 2 by omega) (zx_ones _ _) fun w3 hS => ?_
    rw [setL_all _ _ (by rfl)] at hS
    refine r_resN ag30 (xs := zx se sn) rfl (hS.cells_at m0 0 (whole_at _)) ?_
    rw [hz]
    exact ⟨rfl, hS.drop.drop⟩
theorem upToC {v : Value} {ts : List Tx} {ze zn : Int} (hzn : u32r zn) (hw : WfT ts) (hx : Ent o R fun w => RdT w v ts) (h : St o w R) :
    CallV Tryd.prog Z 13 #[v, .agg (zx ze zn).toArray] w fun r w' => St o w' (own 49 16 r (upT ze zn ts).length ((upT ze zn ts).map Tx.cells).flatten :: R) := by
  obtain ⟨a, c, rfl⟩ := (hx w h).1.form
  have hle := hw.1
  have hns := hw.ns
  refine f13.calls ?_
  unfold f13.sh
  refine r_box _ _ h fun gx w1 hS => ?_
  have hS : St o w1 (blk gx 30 (zx ze zn) :: R) := hS
  refine ⟨fun m x y w' => ∃ (i : Nat), y = .int .i64 i ∧ m + i = ts.length ∧ St o w' (own 49 16 x (upT ze zn (ts.take i)).length ((upT ze zn (ts.take i)).map Tx.cells).flatten :: blk gx 30 (zx ze zn) :: R), ⟨ts.length, 0, rfl, rfl, hS.own_nil _ _⟩, ?_⟩
  clear hS h
  rintro m x _ w2 ⟨i, rfl, hi, hS⟩ _
  by_cases hlt : (i : Int) < (ts.length : Int)
  · have hil : i < ts.length := by omega
    have hmem : ts[i] ∈ ts := List.getElem_mem hil
    have hup := upT_take ts i hil ze zn
    have hul := upT_le ze zn (ts.take i)
    rw [List.length_take] at hul
    (try simp only [o_add, ln_22_3, o_lss, hlt, decide_true, condT])
    intro j hj
    have HJ : ∀ (v' : Value) (w' : World), St o w' (own 49 16 v' (upT ze zn (ts.take (i + 1))).length ((upT ze zn (ts.take (i + 1))).map Tx.cells).flatten :: blk gx 30 (zx ze zn) :: R) → j v' w' := by
      intro v' w' hS
      refine hj _ w' fun _ => ?_
      skip
      rw [wr_i64 (x := (i : Int) + 1) (by omega) (by omega)]
      exact ⟨m - 1, by omega, i + 1, rfl, by omega, hS⟩
    clear hj
    refine ⟨fun w9 hd => ?_⟩
    have hS := hS.drew hd
    obtain ⟨b, p, cs, hp, _, hcv, hc⟩ := (rowR_rd (c := Tx.cells) (fun x => rfl) (hx w9 hS.drop.drop).1 rfl).ix el22 .i64 i hil
    subst hcv
    refine rp hp ?_
    (try simp only [fa_49_0p, Nat.add_zero])
    refine rr_loadN ag30 (xs := zx ts[i].e ts[i].n) rfl (fun j u hu => by rw [add_addr]; exact hc j u (by have := zx_at ts[i] j u hu; rwa [Nat.zero_add] at this)) ?_
    refine rr_loadN ag30 (xs := zx ze zn) rfl (hS.cells_at m1 0 (whole_at _)) ?_
    refine (refCompare Z hS).mono fun r w10 ⟨hr10, hS⟩ => ?_
    subst hr10
    have hcmp := cmp_le0 (e := ts[i].e) (n := ts[i].n) (e' := ze) (n' := zn) (hns _ hmem) hzn
    (try simp only [o_leqp, cond_decide])
    refine ⟨fun hge => ?_, fun hge => ?_⟩
    · rw [if_neg (hcmp.1 hge)] at hup
      obtain ⟨b, p, cs, hp, _, hcv, hc⟩ := (rowR_rd (c := Tx.cells) (fun x => rfl) (hx w10 hS.drop.drop).1 rfl).ix el22 .i64 i hil
      subst hcv
      refine r1 (hp _) (r_loadN ag49 (xs := ts[i].cells) rfl (fun j u hu => by rw [add_addr]; exact hc j u hu) ?_)
      have hq := txC_ones ((hx w10 hS.drop.drop).2 _ hmem).ones
      refine r_pushN el22 hS ts[i].cells (Tx.cells_len _) hq (by omega) (by omega) (by simp only [maxLen]; omega) fun v' w' hS => ?_
      refine HJ v' w' ?_
      rw [hup, List.length_append, List.map_append, List.flatten_append]
      simpa using hS
    · rw [if_pos (by
        by_cases hh : ls ze zn ts[i].e ts[i].n
        · exact hh
        · exact absurd (hcmp.2 hh) hge), List.append_nil] at hup
      refine HJ _ _ ?_
      rw [hup]
      exact hS
  · obtain rfl : i = ts.length := by omega
    (try simp only [o_add, ln_22_3, o_lss, hlt, decide_false, condF])
    rw [List.take_length] at hS
    exact hS.swap.drop
/-- The same up to each zxid that stands in both. -/
def Agree (a b : List Tx) : Prop := ∀ (i : Nat) (hi : i < a.length) (k : Nat) (hk : k < b.length), (a[i].e, a[i].n) = (b[k].e, b[k].n) → (a.take (i + 1)).map txK = (b.take (k + 1)).map txK
theorem agreeC {av bv : Option Addr} {ac bc : Nat} {a b : List Tx} (hac : a.length ≤ ac) (hbc : b.length ≤ bc) (hx : Ent o R fun w => RdT w (.slice av a.length ac) a) (hy : Ent o R fun w => RdT w (.slice bv b.length bc) b) (h : St o w R) :
    CallV Tryd.prog Z 12 #[.slice av a.length ac, .slice bv b.length bc] w fun r w' => (∃ x, r = .bool x ∧ (x = true → Agree a b)) ∧ St o w' R := by
  have hle := (hx w h).1.2.1
  have hle2 := (hy w h).1.2.1
  simp only [maxLen] at hle hle2
  refine f12.calls ?_
  unfold f12.sh
  refine ⟨fun m x w' => ∃ (i : Nat), x = .int .i64 i ∧ m + i = a.length ∧ (∀ (i' : Nat) (hi : i' < a.length) (k : Nat) (hk : k < b.length), i' < i → (a[i'].e, a[i'].n) = (b[k].e, b[k].n) → (a.take (i' + 1)).map txK = (b.take (k + 1)).map txK) ∧ St o w' R, ⟨a.length, 0, rfl, rfl, fun _ _ _ _ h => by omega, h⟩, ?_⟩
  clear h
  rintro m _ w1 ⟨i, rfl, hi, hag, hS⟩ _
  by_cases hlt : (i : Int) < (a.length : Int)
  · have hil : i < a.length := by omega
    (try simp only [o_add, ln_22_3, o_lss, hlt, decide_true, condT])
    refine ⟨fun m2 x w' => ∃ (k : Nat), x = .int .i64 k ∧ m2 + k = b.length ∧ (∀ (k' : Nat) (hk : k' < b.length), k' < k → (a[i].e, a[i].n) = (b[k'].e, b[k'].n) → (a.take (i + 1)).map txK = (b.take (k' + 1)).map txK) ∧ St o w' R, ⟨b.length, 0, rfl, rfl, fun _ _ h => by omega, hS⟩, ?_⟩
    clear hS
    rintro m2 _ w2 ⟨k, rfl, hk, hag2, hS⟩ _
    by_cases hlt2 : (k : Int) < (b.length : Int)
    · have hkl : k < b.length := by omega
      (try simp only [o_add, o_lss, hlt2, decide_true, condT])
      refine ⟨fun w9 hd => ?_⟩
      have hS := hS.drew hd
      obtain ⟨b1, p1, cs, hp, _, hcv, hc⟩ := (rowR_rd (c := Tx.cells) (fun x => rfl) (hx w9 hS).1 rfl).ix el22 .i64 i hil
      subst hcv
      refine rp hp ?_
      (try simp only [fa_49_0p, Nat.add_zero])
      refine rr_loadN ag30 (xs := zx a[i].e a[i].n) rfl (fun j u hu => by rw [add_addr]; exact hc j u (by have := zx_at a[i] j u hu; rwa [Nat.zero_add] at this)) ?_
      obtain ⟨b2, p2, cs2, hp2, _, hcv2, hc2⟩ := (rowR_rd (c := Tx.cells) (fun x => rfl) (hy w9 hS).1 rfl).ix el22 .i64 k hkl
      subst hcv2
      refine rp hp2 ?_
      (try simp only [fa_49_0p, Nat.add_zero])
      refine rr_loadN ag30 (xs := zx b[k].e b[k].n) rfl (fun j u hu => by rw [add_addr]; exact hc2 j u (by have := zx_at b[k] j u hu; rwa [Nat.zero_add] at this)) ?_
      refine rp (eqZx _ _ _ _) ?_
      cases hb : (a[i].e == b[k].e && a[i].n == b[k].n) with
      | false =>
        (try simp only [o_pickFp, condF, guardV_ft, guardW_ft])
        refine rs_loadN ag30 (xs := zx b[k].e b[k].n) rfl (fun j u hu => by rw [add_addr]; exact hc2 j u (by have := zx_at b[k] j u hu; rwa [Nat.zero_add] at this)) (rs_loadN ag30 (xs := zx a[i].e a[i].n) rfl (fun j u hu => by rw [add_addr]; exact hc j u (by have := zx_at a[i] j u hu; rwa [Nat.zero_add] at this)) ?_)
        skip
        rw [wr_i64 (x := (k : Int) + 1) (by omega) (by omega)]
        refine ⟨m2 - 1, by omega, k + 1, rfl, by omega, fun k' hk' hlt e => ?_, hS⟩
        rcases Nat.eq_or_lt_of_le (show k' ≤ k by omega) with rfl | h2
        · injection e with e1 e2
          rw [e1, e2] at hb
          simp at hb
        · exact hag2 k' hk' h2 e
      | true =>
        (try simp only [o_pickTp, guardV_true, guardW_true, o_addp])
        rw [wr_i64 (x := (i : Int) + 1) (by omega) (by omega), wr_i64 (x := (k : Int) + 1) (by omega) (by omega)]
        refine rp (fun w => run_slice_to el22 av a.length ac .i64 ((i : Int) + 1) (by omega) (by omega) w) ?_
        refine rp (fun w => run_slice_to el22 bv b.length bc .i64 ((k : Int) + 1) (by omega) (by omega) w) ?_
        rw [show ((i : Int) + 1).toNat = i + 1 by omega, show ((k : Int) + 1).toNat = k + 1 by omega]
        refine (eqTs Z (fun w hw => RdT.take (hx w hw) (i + 1) (by omega)) (fun w hw => RdT.take (hy w hw) (k + 1) (by omega)) hS).mono fun r w10 ⟨⟨x, hr, hxx⟩, hS⟩ => ?_
        subst hr
        obtain ⟨b1', p1', cs, hp', _, hcv, hc'⟩ := (rowR_rd (c := Tx.cells) (fun x => rfl) (hx w10 hS).1 rfl).ix el22 .i64 i hil
        subst hcv
        obtain ⟨b2', p2', cs2, hp2', _, hcv2, hc2'⟩ := (rowR_rd (c := Tx.cells) (fun x => rfl) (hy w10 hS).1 rfl).ix el22 .i64 k hkl
        subst hcv2
        have e1 := (hp w10).symm.trans (hp' w10)
        have e2 := (hp2 w10).symm.trans (hp2' w10)
        injection e1 with e1; injection e1 with e1; injection e1 with e1; injection e1 with e1 e1'
        injection e2 with e2; injection e2 with e2; injection e2 with e2; injection e2 with e2 e2'
        subst e1; subst e1'; subst e2; subst e2'
        refine rs_loadN ag30 (xs := zx b[k].e b[k].n) rfl (fun j u hu => by rw [add_addr]; exact hc2' j u (by have := zx_at b[k] j u hu; rwa [Nat.zero_add] at this)) (rs_loadN ag30 (xs := zx a[i].e a[i].n) rfl (fun j u hu => by rw [add_addr]; exact hc' j u (by have := zx_at a[i] j u hu; rwa [Nat.zero_add] at this)) ?_)
        cases x with
        | false =>
          (try simp only [o_notp, Bool.not_false, condT])
          exact ⟨⟨_, rfl, fun h => by cases h⟩, hS⟩
        | true =>
          (try simp only [o_notp, Bool.not_true, condF])
          refine ⟨m2 - 1, by omega, k + 1, rfl, by omega, fun k' hk' hlt e => ?_, hS⟩
          rcases Nat.eq_or_lt_of_le (show k' ≤ k by omega) with rfl | h2
          · have := hxx.1 rfl
            exact this
          · exact hag2 k' hk' h2 e
    · obtain rfl : k = b.length := by omega
      (try simp only [o_add, o_lss, hlt2, decide_false, condF])
      rw [wr_i64 (x := (i : Int) + 1) (by omega) (by omega)]
      refine ⟨m - 1, by omega, i + 1, rfl, by omega, fun i' hi' k hk hlt e => ?_, hS⟩
      rcases Nat.eq_or_lt_of_le (show i' ≤ i by omega) with rfl | h2
      · exact hag2 k hk hk e
      · exact hag i' hi' k hk h2 e
  · obtain rfl : i = a.length := by omega
    (try simp only [o_add, ln_22_3, o_lss, hlt, decide_false, condF])
    exact ⟨⟨_, rfl, fun _ i hi k hk e => hag i hi k hk hi e⟩, hS⟩
end
end Go.Proofs.YtoeamecdkimgaaaDoor

/- Chapter 14: ChooseRight: the plain law. -/
set_option linter.unusedVariables false
set_option linter.unusedSimpArgs false
namespace Go.Proofs.YtoeamecdkimgaaaDoor
open Go.Sh
theorem rises_mem : ∀ {zs : List (Int × Int)} {e n : Int}, rises e n zs = true → ∀ z ∈ zs, ls e n z.1 z.2
  | z :: zs, e, n, h, x, hx => by
    simp only [rises, Bool.and_eq_true, decide_eq_true_eq] at h
    rcases List.mem_cons.1 hx with rfl | hx
    · exact h.1
    · exact ls_trans h.1 (rises_mem h.2 x hx)
theorem upT_rises : ∀ {ts : List Tx} {e n : Int} (ze zn : Int), rises e n (zxs ts) = true → upT ze zn ts = ts.take (cntN ze zn (zxs ts))
  | [], _, _, _, _, _ => rfl
  | t :: ts, e, n, ze, zn, h => by
    have h' : rises e n ((t.e, t.n) :: zxs ts) = true := h
    simp only [rises, Bool.and_eq_true, decide_eq_true_eq] at h'
    have ih := upT_rises ze zn h'.2
    have hc : zxs (t :: ts) = (t.e, t.n) :: zxs ts := rfl
    rw [hc]
    unfold upT cntN at *
    rw [List.takeWhile_cons]
    by_cases hl : ls ze zn t.e t.n
    · rw [List.filter_eq_nil_iff.2 (fun x hx => by
        rcases List.mem_cons.1 hx with rfl | hx
        · simp [hl]
        · have : (x.e, x.n) ∈ zxs ts := List.mem_map.2 ⟨x, hx, rfl⟩
          have := ls_trans hl (rises_mem h'.2 _ this)
          simp [this])]
      simp [hl]
    · simp [hl, ih]
theorem frm_succ {zs : List (Int × Int)} {se sn : Int} {k : Nat} (h : k < zs.length) : frm se sn zs (k + 1) = zs[k] := by
  unfold frm
  rw [if_neg (by omega), List.getD_eq_getElem?_getD, Nat.add_sub_cancel, List.getElem?_eq_getElem h]
  rfl
theorem ls_irr {e n : Int} : ¬ ls e n e n := by unfold ls; omega
theorem cnt_frm {zs : List (Int × Int)} {se sn : Int} (h : rises se sn zs = true) (k : Nat) (hk : k ≤ zs.length) : cntN (frm se sn zs k).1 (frm se sn zs k).2 zs = k := by
  refine cntN_of zs _ _ k hk (fun i hi hik => ?_) (fun hi => ?_)
  · obtain ⟨j, rfl⟩ : ∃ j, k = j + 1 := ⟨k - 1, by omega⟩
    rw [frm_succ (by omega)]
    rcases Nat.eq_or_lt_of_le (show i ≤ j by omega) with rfl | h2
    · exact ls_irr
    · exact fun hc => ls_irr (ls_trans hc (rises_lt h i j (by omega) h2))
  · cases k with
    | zero => exact rises_mem h _ (List.getElem_mem hi)
    | succ j =>
      rw [frm_succ (by omega)]
      exact rises_lt h j (j + 1) hi (by omega)
theorem frm_inj {zs : List (Int × Int)} {se sn : Int} (h : rises se sn zs = true) {k j : Nat} (hk : k ≤ zs.length) (hj : j ≤ zs.length) (e : frm se sn zs k = frm se sn zs j) : k = j := by
  rw [← cnt_frm h k hk, ← cnt_frm h j hj, e]
theorem frm_0 (se sn : Int) (zs : List (Int × Int)) : frm se sn zs 0 = (se, sn) := rfl
theorem way_ok {pe pn : Int} {L : List Tx} {cached image : Int} {f : Nat} (hr : rises 0 0 (zxs L) = true) (h1 : 0 ≤ cached) (h2 : cached ≤ L.length) (h3 : 0 ≤ image) :
    (wayR pe pn 0 0 L cached image f).2 = 0 ∧ ((wayR pe pn 0 0 L cached image f).1.1 ≠ 4 → ∃ near, (wayR pe pn 0 0 L cached image f).1 = (if frm 0 0 (zxs L) (cntN pe pn (zxs L)) = (pe, pn) then 1 else if cntN pe pn (zxs L) < L.length then 3 else 2, (frm 0 0 (zxs L) (cntN pe pn (zxs L))).1, (frm 0 0 (zxs L) (cntN pe pn (zxs L))).2, near)) := by
  unfold wayR
  rw [if_pos ⟨hr, h1, h2, h3⟩]
  split
  · exact ⟨rfl, fun h => absurd rfl h⟩
  · split
    · exact ⟨rfl, fun h => absurd rfl h⟩
    · exact ⟨rfl, fun _ => ⟨_, rfl⟩⟩
/-- The stage's theorem, in plain words. -/
theorem right_law {L G ts' : List Tx} {n kG : Nat} {pe pn : Int} (hL : rises 0 0 (zxs L) = true) (hG : rises 0 0 (zxs G) = true) (hag : Agree L G) (hn : n ≤ L.length) (hk : kG ≤ G.length) (hz : frm 0 0 (zxs L) n = frm 0 0 (zxs G) kG)
    (hp : (pe, pn) = frm 0 0 (zxs G) G.length) (hts : ts'.map txK = (G.take kG).map txK) :
    (ts' ++ L.drop n).map txK = L.map txK ∧ (frm 0 0 (zxs L) n = (pe, pn) ↔ kG = G.length) := by
  have hlL := zxs_len L
  have hlG := zxs_len G
  constructor
  · have key : (G.take kG).map txK = (L.take n).map txK := by
      by_cases h0 : n = 0
      · subst h0
        rw [frm_0] at hz
        have : kG = 0 := frm_inj hG (by omega) (by omega) (by rw [← hz, frm_0])
        rw [this]; rfl
      · have hk0 : kG ≠ 0 := by
          intro e
          subst e
          rw [frm_0] at hz
          exact h0 (frm_inj hL (by omega) (by omega) (by rw [hz, frm_0]))
        obtain ⟨i, rfl⟩ : ∃ i, n = i + 1 := ⟨n - 1, by omega⟩
        obtain ⟨k, rfl⟩ : ∃ k, kG = k + 1 := ⟨kG - 1, by omega⟩
        rw [frm_succ (by omega), frm_succ (by omega), zxs_at, zxs_at] at hz
        exact (hag i (by omega) k (by omega) hz).symm
    rw [List.map_append, hts, key, ← List.map_append, List.take_append_drop]
  · rw [hz, hp]
    exact ⟨fun e => frm_inj hG (by omega) (by omega) e, fun e => by rw [e]⟩
def prC (v1 v2 : Value) (cached image : Int) (f : Nat) : List Value := [v1, v2, .int .i64 cached, .int .i64 image, .float .f64 f]
def PairO (w : World) (cs : List Value) : Prop := ∃ v1 v2 cached image f, cs = prC v1 v2 cached image f ∧ TxsV w v1 ∧ TxsV w v2 ∧ (-9223372036854775808 ≤ cached ∧ cached ≤ 9223372036854775807) ∧ (-9223372036854775808 ≤ image ∧ image ≤ 9223372036854775807) ∧ f < 18446744073709551616
theorem opn_PairO (w : World) : Opn Tryd.prog w 25 (PairO w) := (opn_struct Tryd.underlying25 [(1, TxsC w), (1, TxsC w), (1, IntO w), (1, IntO w), (1, FltO w)] (by kernel_rfl) (by kernel_rfl)
  ⟨by kernel_rfl, opn_TxsC w, by kernel_rfl, opn_TxsC w, by kernel_rfl, opn_IntO w, by kernel_rfl, opn_IntO w, by kernel_rfl, opn_FltO w, trivial⟩).mono (by
    rintro cs ⟨_, _, rfl, _, hts, _, _, rfl, _, hts2, _, _, rfl, _, ⟨ca, rfl, hca⟩, _, _, rfl, _, ⟨im, rfl, him⟩, _, _, rfl, _, ⟨f, rfl, hf⟩, h4⟩
    simp only [Cut] at h4
    subst h4
    obtain ⟨v, rfl, hv⟩ := txsV_of hts
    obtain ⟨v2, rfl, hv2⟩ := txsV_of hts2
    exact ⟨v, v2, ca, im, f, rfl, hv, hv2, hca, him, hf⟩)
end Go.Proofs.YtoeamecdkimgaaaDoor

/- Chapter 14: ChooseRight: the walk. -/
set_option linter.unusedVariables false
set_option linter.unusedSimpArgs false
namespace Go.Proofs.YtoeamecdkimgaaaDoor
open Go.Sh
theorem viaK {p : Nat → World → Prop} {K : Nat → World → Prop} {G : Prop} (h : (∀ g w, p g w → K g w) → G) (t : ∀ g w, p g w → K g w) : G := h t
theorem frm_u32 {ts : List Tx} (hw : WfT ts) (k : Nat) : u32r (frm 0 0 (zxs ts) k).1 ∧ u32r (frm 0 0 (zxs ts) k).2 := by
  have z0 : u32r 0 := by unfold u32r; omega
  unfold frm
  split
  · exact ⟨z0, z0⟩
  · rw [List.getD_eq_getElem?_getD]
    cases h : (zxs ts)[k - 1]? with
    | none => exact ⟨z0, z0⟩
    | some x =>
      obtain ⟨hk, e⟩ := List.getElem?_eq_some_iff.1 h
      rw [zxs_at] at e
      have hm : ts[k - 1]'(by rwa [zxs_len] at hk) ∈ ts := List.getElem_mem _
      rw [← e]
      exact ⟨hw.es _ hm, hw.ns _ hm⟩
theorem OwT.q {o w : World} {R : List HProp} {ts : List Tx} (h : St o w (OwT ts :: R)) : ∀ t ∈ ts, RdQ w t.q := fun t ht => by
  obtain ⟨As, Bs, e⟩ := List.append_of_mem ht
  unfold OwT at h
  rw [e, List.map_append, List.map_cons] at h
  exact OwQ.rd _ h.all_out
section
variable (Z : List PanicEntry → World → Prop) {o w : World} {R : List HProp}
set_option maxRecDepth 100000 in
theorem rightW {al ag : Option Addr} {cl cg : Nat} {L G : List Tx} {cached image : Int} {f : Nat} (hcl : L.length ≤ cl) (hcg : G.length ≤ cg) (hwL : WfT L) (hwG : WfT G) (hx : RdT w (.slice al L.length cl) L) (hy : RdT w (.slice ag G.length cg) G) (hN : Names w) :
    CallV Tryd.prog Z 3 #[.agg (prC (.slice al L.length cl) (.slice ag G.length cg) cached image f).toArray] w fun r w' => r = .bool true ∧ St w w' [old w] := by
  have hle := hx.1.2.1
  have hle2 := hy.1.2.1
  simp only [maxLen] at hle hle2
  have z0 : u32r 0 := by unfold u32r; omega
  have hlL := zxs_len L
  have hlG := zxs_len G
  refine f3.calls ?_
  unfold f3.sh
  refine r_box _ _ (St.start w) fun gx w1 hS => ?_
  obtain ⟨P, hP⟩ : ∃ P, P = prC (.slice al L.length cl) (.slice ag G.length cg) cached image f := ⟨_, rfl⟩
  have hS : St w w1 (blk gx 25 P :: [old w]) := by rw [hP]; exact hS
  have p0 : P[0]? = some (.slice al L.length cl) := by rw [hP]; rfl
  have p1 : P[1]? = some (.slice ag G.length cg) := by rw [hP]; rfl
  have p2 : P[2]? = some (.int .i64 cached) := by rw [hP]; rfl
  have p3 : P[3]? = some (.int .i64 image) := by rw [hP]; rfl
  have p4 : P[4]? = some (.float .f64 f) := by rw [hP]; rfl
  clear hP
  (try simp only [fa_25_1, Nat.zero_add, fa_25_2, fa_25_0, Nat.add_zero, fa_25_3, fa_25_1p, fa_25_0p, fa_25_4p, fa_25_3p, fa_25_2p])
  refine r_load one22 (hS.at m0 0 p0) ?_
  refine (largeTs Z (fun w' hw' => hx.of_old hw' m1) hS).mono fun r w2 ⟨⟨b, hr⟩, hS⟩ => ?_
  subst hr
  cases b with
  | true =>
    (try simp only [o_pickT, condT, guardW_tf])
    exact ⟨by first | rfl | trivial, hS.drop⟩
  | false =>
  (try simp only [o_pickF, guardW_ff])
  refine r_load one22 (hS.at m0 1 p1) ?_
  refine (largeTs Z (fun w' hw' => hy.of_old hw' m1) hS).mono fun r w3 ⟨⟨b, hr⟩, hS⟩ => ?_
  subst hr
  skip
  refine cond_or (fun _ => ⟨by first | rfl | trivial, hS.drop⟩) fun _ => ?_
  refine (livesC Z hN m1 hS).mono fun r w4 ⟨hr, hS⟩ => ?_
  subst hr
  refine r_build (cells := (zx 0 0).toArray) (by kernel_rfl) ?_
  refine r_alloc hS ze30 fun g4 w5 hS => ?_
  refine r_storeN hS ag30 (xs := zx 0 0) rfl (show 0 + 2 ≤ 2 by omega) (zx_ones _ _) fun w6 hS => ?_
  rw [setL_all _ _ (by rfl)] at hS
  refine ⟨fun w7 hd => ?_⟩
  have hS := hS.drew hd
  refine rr_loadN ag30 (xs := zx 0 0) rfl (hS.cells_at m0 0 (whole_at _)) ?_
  (try simp only [o_not, Bool.not_true, o_pickF, guardW_ff])
  refine rr_load one22 (hS.at m1 1 p1) ?_
  refine rr_loadN ag30 (xs := zx 0 0) rfl (hS.cells_at m0 0 (whole_at _)) ?_
  skip
  refine rr_load one22 (hS.at m1 0 p0) ?_
  skip
  refine rr_load one3 (hS.at m1 2 p2) ?_
  skip
  refine rr_load one3 (hS.at m1 3 p3) ?_
  skip
  refine rr_load one23 (hS.at m1 4 p4) ?_
  have hup := frm_u32 hwG G.length
  obtain ⟨pe, pn, hpp⟩ : ∃ pe pn, frm 0 0 (zxs G) G.length = (pe, pn) := ⟨_, _, rfl⟩
  rw [hpp] at hup
  obtain ⟨c, e, hce⟩ : ∃ c e, wayR pe pn 0 0 L cached image f = (c, e) := ⟨_, _, rfl⟩
  apply viaK (p := fun gc w' => St w w' (blk gc 33 (chC c) :: blk g4 30 (zx 0 0) :: blk gx 25 P :: [old w]))
  · intro post
    constructor
    · refine (lastC Z (se := 0) (sn := 0) (fun w' hw' => hy.of_old hw' m2) hS).mono fun r w8 ⟨hr, hS⟩ => ?_
      rw [hpp] at hr
      subst hr
      refine (rs_load one23 (hS.at m1 4 p4) (rs_load one3 (hS.at m1 3 p3) (rs_load one3 (hS.at m1 2 p2) (rs_load one22 (hS.at m1 0 p0) (rs_loadN ag30 (xs := zx 0 0) rfl (hS.cells_at m0 0 (whole_at _)) ?_)))))
      constructor
      · refine (wayC Z (ts := L) hup.1 hup.2 z0 z0 hcl hN m2 hwL (fun w' hw' => hx.of_old hw' m2) hS).mono fun r w9 ⟨hr, hS⟩ => ?_
        subst hr
        rw [hce]
        unfold wayT
        (try simp only [o_ext2_1p, o_neq, cond_bne, o_ext2_0p])
        refine r_alloc hS ze33 fun gc w10 hS => ?_
        refine r_storeN hS ag33 (xs := chC c) rfl (show 0 + 4 ≤ 4 from Nat.le_refl _) (chC_ones _) fun w11 hS => ?_
        rw [setL_all _ _ (by rfl)] at hS
        (try simp only [fa_33_1p, Nat.zero_add, fa_33_0, Nat.add_zero, fa_33_1])
        exact post gc w11 hS
      · refine r_alloc hS ze33 fun gc w10 hS => ?_
        refine (rs_load one23 (hS.at m2 4 p4) (rs_load one3 (hS.at m2 3 p3) (rs_load one3 (hS.at m2 2 p2) (rs_load one22 (hS.at m2 0 p0) (rs_loadN ag30 (xs := zx 0 0) rfl (hS.cells_at m1 0 (whole_at _)) ?_)))))
        refine (wayC Z (ts := L) hup.1 hup.2 z0 z0 hcl hN m3 hwL (fun w' hw' => hx.of_old hw' m3) hS).mono fun r w9 ⟨hr, hS⟩ => ?_
        subst hr
        rw [hce]
        unfold wayT
        (try simp only [fa_33_1p, Nat.zero_add, fa_33_0, Nat.add_zero, fa_33_1, o_ext2_1p, o_neq, cond_bne, o_ext2_0p])
        refine r_storeN hS ag33 (xs := chC c) rfl (show 0 + 4 ≤ 4 from Nat.le_refl _) (chC_ones _) fun w11 hS => ?_
        rw [setL_all _ _ (by rfl)] at hS
        skip
        exact post gc w11 hS
    · refine r_alloc hS ze33 fun gc w10 hS => ?_
      refine (rs_load one23 (hS.at m2 4 p4) (rs_load one3 (hS.at m2 3 p3) (rs_load one3 (hS.at m2 2 p2) (rs_load one22 (hS.at m2 0 p0) (rs_loadN ag30 (xs := zx 0 0) rfl (hS.cells_at m1 0 (whole_at _)) (rs_load one22 (hS.at m2 1 p1) (rs_loadN ag30 (xs := zx 0 0) rfl (hS.cells_at m1 0 (whole_at _)) ?_)))))))
      refine (lastC Z (se := 0) (sn := 0) (fun w' hw' => hy.of_old hw' m3) hS).mono fun r w8 ⟨hr, hS⟩ => ?_
      rw [hpp] at hr
      subst hr
      refine (rs_load one23 (hS.at m2 4 p4) (rs_load one3 (hS.at m2 3 p3) (rs_load one3 (hS.at m2 2 p2) (rs_load one22 (hS.at m2 0 p0) (rs_loadN ag30 (xs := zx 0 0) rfl (hS.cells_at m1 0 (whole_at _)) ?_)))))
      refine (wayC Z (ts := L) hup.1 hup.2 z0 z0 hcl hN m3 hwL (fun w' hw' => hx.of_old hw' m3) hS).mono fun r w9 ⟨hr, hS⟩ => ?_
      subst hr
      rw [hce]
      unfold wayT
      (try simp only [fa_33_1p, Nat.zero_add, fa_33_0, Nat.add_zero, fa_33_1, o_ext2_1p, o_neq, cond_bne, o_ext2_0p])
      refine r_storeN hS ag33 (xs := chC c) rfl (show 0 + 4 ≤ 4 from Nat.le_refl _) (chC_ones _) fun w11 hS => ?_
      rw [setL_all _ _ (by rfl)] at hS
      skip
      exact post gc w11 hS
  intro gc w9 hS
  refine r_loadN ag30 (xs := zx 0 0) rfl (hS.cells_at m1 0 (whole_at _)) ?_
  skip
  refine r_load one22 (hS.at m2 0 p0) ?_
  refine (lawRises14 Z z0 hwL.ns (fun w' hw' => hx.of_old hw' m3) hS).mono fun r w10 ⟨hr, hS⟩ => ?_
  subst hr
  apply via3 (p := fun w' => (rises 0 0 (zxs L) = true ∧ rises 0 0 (zxs G) = true ∧ 0 ≤ cached ∧ cached ≤ L.length ∧ 0 ≤ image) ∧ St w w' (blk gc 33 (chC c) :: blk g4 30 (zx 0 0) :: blk gx 25 P :: [old w]))
  · intro post
    cases hrL : rises 0 0 (zxs L) with
    | false =>
      (try simp only [o_pickF, o_not, Bool.not_false, condT, guardW_ft])
      exact ⟨by first | rfl | trivial, hS.drop.drop.drop⟩
    | true =>
      (try simp only [o_pickT, guardW_true])
      refine r_loadN ag30 (xs := zx 0 0) rfl (hS.cells_at m1 0 (whole_at _)) ?_
      skip
      refine r_load one22 (hS.at m2 1 p1) ?_
      refine (lawRises14 Z z0 hwG.ns (fun w' hw' => hy.of_old hw' m3) hS).mono fun r w11 ⟨hr, hS⟩ => ?_
      subst hr
      cases hrG : rises 0 0 (zxs G) with
      | false =>
        (try simp only [o_pickF, o_not, Bool.not_false, condT, guardW_ft])
        exact ⟨by first | rfl | trivial, hS.drop.drop.drop⟩
      | true =>
        (try simp only [o_pickT, guardW_true])
        refine r_load one3 (hS.at m2 2 p2) ?_
        by_cases h1 : 0 ≤ cached
        case neg =>
          (try simp only [o_geq, h1, decide_false, o_pickF, o_not, Bool.not_false, condT, guardW_ft])
          exact ⟨by first | rfl | trivial, hS.drop.drop.drop⟩
        (try simp only [o_geq, h1, decide_true, o_pickT, guardW_true])
        refine r_load one3 (hS.at m2 2 p2) ?_
        skip
        refine r_load one22 (hS.at m2 0 p0) ?_
        by_cases h2 : cached ≤ (L.length : Int)
        case neg =>
          (try simp only [ln_22_3, o_leq, h2, decide_false, o_pickF, o_not, Bool.not_false, condT, guardW_ft])
          exact ⟨by first | rfl | trivial, hS.drop.drop.drop⟩
        (try simp only [ln_22_3, o_leq, h2, decide_true, o_pickT, guardW_true])
        refine r_load one3 (hS.at m2 3 p3) ?_
        by_cases h3 : 0 ≤ image
        case neg =>
          (try simp only [o_geq, h3, decide_false, o_not, Bool.not_false, condT])
          exact ⟨by first | rfl | trivial, hS.drop.drop.drop⟩
        (try simp only [o_geq, h3, decide_true, o_not, Bool.not_true, condF])
        exact post _ ⟨⟨hrL, hrG, h1, h2, h3⟩, hS⟩
  rintro w11 ⟨⟨hrL, hrG, h1, h2, h3⟩, hS⟩
  have hok := way_ok (pe := pe) (pn := pn) (f := f) hrL h1 h2 h3
  rw [hce] at hok
  obtain ⟨he, hok⟩ := hok
  have he : e = 0 := he
  subst he
  (try simp only [])
  refine ⟨fun h => absurd rfl h, fun _ => ?_⟩
  refine r_load one31 (hS.at m0 0 rfl) ?_
  refine r1 (run_eql_int _ _ _ _ _ _ _ _) ?_
  by_cases h4 : c.1 = 4
  · rw [show (c.1 == 4) = true by simp [h4]]
    (try simp only [o_pickT, condT, guardW_tf])
    exact ⟨by first | rfl | trivial, hS.drop.drop.drop⟩
  rw [show (c.1 == 4) = false by simp [h4]]
  obtain ⟨near, hc⟩ := hok h4
  have hc : c = _ := hc
  have hnle : cntN pe pn (zxs L) ≤ L.length := by have := cntN_le pe pn (zxs L); omega
  generalize hn : cntN pe pn (zxs L) = n at *
  have hzu := frm_u32 hwL n
  obtain ⟨ze, zn, hz⟩ : ∃ ze zn, frm 0 0 (zxs L) n = (ze, zn) := ⟨_, _, rfl⟩
  rw [hz] at hc hzu
  (try simp only [o_pickF, guardW_ff])
  refine r_load one22 (hS.at m2 0 p0) ?_
  skip
  refine r_load one22 (hS.at m2 1 p1) ?_
  refine (agreeC Z hcl hcg (fun w' hw' => hx.of_old hw' m3) (fun w' hw' => hy.of_old hw' m3) hS).mono fun r w12 ⟨⟨x, hr, hag⟩, hS⟩ => ?_
  subst hr
  cases x with
  | false =>
    (try simp only [o_not, Bool.not_false, condT])
    exact ⟨by first | rfl | trivial, hS.drop.drop.drop⟩
  | true =>
  have hag := hag rfl
  (try simp only [o_not, Bool.not_true, condF])
  have hS : St w w12 (blk gc 33 (chC (c.1, ze, zn, near)) :: blk g4 30 (zx 0 0) :: blk gx 25 P :: [old w]) := by
    have e : chC c = chC (c.1, ze, zn, near) := by rw [hc]
    rw [← e]; exact hS
  refine r_loadN ag30 (xs := zx ze zn) rfl (hS.cells_at m0 1 (ch_at (c.1, ze, zn, near))) ?_
  refine r_loadN ag30 (xs := zx 0 0) rfl (hS.cells_at m1 0 (whole_at _)) ?_
  refine r1 (eqZx _ _ _ _ _) ?_
  refine ⟨fun m x y w' => ∃ (i : Nat) (b : Bool), x = .bool b ∧ y = .int .i64 i ∧ m + i = G.length ∧ (b = true → ∃ k, k ≤ G.length ∧ (ze, zn) = frm 0 0 (zxs G) k) ∧ St w w' (blk gc 33 (chC (c.1, ze, zn, near)) :: blk g4 30 (zx 0 0) :: blk gx 25 P :: [old w]),
    ⟨G.length, 0, _, rfl, rfl, rfl, fun h => ⟨0, by omega, by
      simp only [Bool.and_eq_true, beq_iff_eq] at h
      rw [frm_0, h.1, h.2]⟩, hS⟩, ?_⟩
  clear hS
  rintro m _ _ w13 ⟨i, b, rfl, rfl, hi, hb, hS⟩ _
  refine r_load one22 (hS.at m2 1 p1) ?_
  by_cases hlt : (i : Int) < (G.length : Int)
  · have hil : i < G.length := by omega
    (try simp only [o_add, o_not, cond_not, ln_22_3, o_lss, hlt, decide_true, condT])
    refine ⟨fun w14 hd => ?_⟩
    have hS := hS.drew hd
    cases b with
    | true =>
      (try simp only [o_pickTp, guardV_tf])
      rw [wr_i64 (x := (i : Int) + 1) (by omega) (by omega)]
      exact ⟨m - 1, by omega, i + 1, true, rfl, rfl, by omega, hb, hS⟩
    | false =>
      (try simp only [o_pickFp, guardV_ff])
      refine rr_load one22 (hS.at m2 1 p1) ?_
      obtain ⟨b1, p1', cs, hp, _, hcv, hcc⟩ := (rowR_rd (c := Tx.cells) (fun x => rfl) (hy.of_old hS m3).1 rfl).ix el22 .i64 i hil
      subst hcv
      skip
      refine rp hp ?_
      (try simp only [fa_49_0p, Nat.add_zero])
      refine rr_loadN ag30 (xs := zx G[i].e G[i].n) rfl (fun j u hu => by rw [add_addr]; exact hcc j u (by have := zx_at G[i] j u hu; rwa [Nat.zero_add] at this)) ?_
      skip
      refine rr_loadN ag30 (xs := zx ze zn) rfl (hS.cells_at m0 1 (ch_at (c.1, ze, zn, near))) ?_
      refine rp (eqZx _ _ _ _) ?_
      skip
      rw [wr_i64 (x := (i : Int) + 1) (by omega) (by omega)]
      refine ⟨m - 1, by omega, i + 1, _, rfl, rfl, by omega, fun h => ⟨i + 1, by omega, ?_⟩, hS⟩
      simp only [Bool.and_eq_true, beq_iff_eq] at h
      rw [frm_succ (by omega), zxs_at, h.1, h.2]
  have hil : i = G.length := by omega
  (try simp only [o_add, o_not, cond_not, ln_22_3, o_lss, hlt, decide_false, condF])
  cases b with
  | false =>
    (try simp only [condF])
    exact ⟨by first | rfl | trivial, hS.drop.drop.drop⟩
  | true =>
  obtain ⟨kG, hkG, hzG⟩ := hb rfl
  clear hb hil hlt hi
  (try simp only [condT])
  have hupG : upT ze zn G = G.take kG := by
    have h := upT_rises ze zn hrG
    have h2 := cnt_frm hrG kG (by omega)
    rw [← hzG] at h2
    rw [h, h2]
  have hupL : upT ze zn L = L.take n := by
    have h := upT_rises ze zn hrL
    have h2 := cnt_frm hrL n (by omega)
    rw [hz] at h2
    rw [h, h2]
  have hlaw : ∀ ts' : List Tx, ts'.map txK = (G.take kG).map txK → (ts' ++ L.drop n).map txK = L.map txK ∧ ((ze, zn) = (pe, pn) ↔ kG = G.length) := fun ts' h => by
    have := right_law (pe := pe) (pn := pn) hrL hrG hag hnle hkG (hz.trans hzG) hpp.symm h
    rw [hz] at this
    exact this
  refine r_load one22 (hS.at m2 1 p1) ?_
  skip
  refine r_loadN ag30 (xs := zx ze zn) rfl (hS.cells_at m0 1 (ch_at (c.1, ze, zn, near))) ?_
  refine (upToC Z hzu.2 hwG (fun w' hw' => hy.of_old hw' m3) hS).mono fun r w14 hS => ?_
  rw [hupG] at hS
  have hlk : (G.take kG).length = kG := by rw [List.length_take]; omega
  rw [hlk] at hS
  obtain ⟨ah, ch, rfl⟩ := hS.own_form
  (try simp only [ln_22_3])
  refine r_load one22 (hS.at m3 1 p1) ?_
  (try simp only [ln_22_3, o_lss, cond_decide])
  refine ⟨fun w15 hd => ?_⟩
  have hS := hS.drew hd
  refine rr_load one22 (hS.at m3 0 p0) ?_
  skip
  refine rr_load one22 (hS.at m3 0 p0) ?_
  skip
  refine rr_loadN ag30 (xs := zx ze zn) rfl (hS.cells_at m1 1 (ch_at (c.1, ze, zn, near))) ?_
  refine (upToC Z hzu.2 hwL (fun w' hw' => hx.of_old hw' m4) hS).mono fun r w16 hS => ?_
  rw [hupL] at hS
  have hln : (L.take n).length = n := by rw [List.length_take]; omega
  rw [hln] at hS
  obtain ⟨ah2, ch2, rfl⟩ := hS.own_form
  refine rs_load one22 (hS.at m4 0 p0) ?_
  (try simp only [ln_22_3p])
  refine rp (fun w => run_slice_from el22 al L.length cl .i64 (n : Int) (by omega) (by omega) w) ?_
  rw [Int.toNat_natCast]
  refine (copyTs Z (hwG.take kG) (fun w' hw' => ⟨by rw [hlk]; exact hw'.own_rd m1, fun t ht => (hy.of_old hw' m5).2 t (List.mem_of_mem_take ht)⟩) hS).mono fun r w17 ⟨ts', hhd, hst, hS⟩ => ?_
  have hk2 : ts'.map txK = (G.take kG).map txK := txK_of hhd hst
  obtain ⟨hmap, hiff⟩ := hlaw ts' hk2
  have hlen : ts'.length + (L.drop n).length = L.length := by
    have := congrArg List.length hmap
    simpa using this
  have hwl := hwL.1
  have hdr := RdT.drop hcl (hx.of_old hS (by simp)) n (by omega)
  refine r_append el22 hS (hdr.1.src Tryd.underlying22 (cells_ones hdr)) (by omega) (by simp only [maxLen]; omega) fun v' w18 hS => ?_
  have hS : St w w18 (own 49 16 v' (ts' ++ L.drop n).length ((ts' ++ L.drop n).map Tx.cells).flatten :: OwT ts' :: own 49 16 (.slice ah2 n ch2) n ((L.take n).map Tx.cells).flatten :: own 49 16 (.slice ah kG ch) kG ((G.take kG).map Tx.cells).flatten :: blk gc 33 (chC (c.1, ze, zn, near)) :: blk g4 30 (zx 0 0) :: blk gx 25 P :: [old w]) := by
    rw [List.length_append, List.map_append, List.flatten_append]
    exact hS
  have hcw : c.1 = if (ze, zn) = (pe, pn) then 1 else if n < L.length then 3 else 2 := by rw [hc]
  intro j112 hj112
  have H112 : ∀ way : Int, way = (if kG < G.length then 2 else 1) → j112 (.int .i8 way) w18 := by
    intro way hway
    refine hj112 _ w18 fun _ => ?_
    clear hj112
    intro j114 hj114
    have H114 : j114 (.int .i8 c.1) w18 := by
      refine hj114 _ w18 fun _ => ?_
      clear hj114
      skip
      refine r_load one22 (hS.at m6 0 p0) ?_
      refine (eqTs Z (l := ts' ++ L.drop n) (fun w' hw' => ⟨hw'.own_rd m0, fun t ht => by
        rcases List.mem_append.1 ht with h | h
        · exact OwT.q hw'.drop t h
        · exact (hx.of_old hw' (by simp)).2 t (List.mem_of_mem_drop h)⟩) (fun w' hw' => hx.of_old hw' (by simp)) hS).mono fun r w19 ⟨⟨b, hr, hb⟩, hS⟩ => ?_
      subst hr
      rw [hb.2 hmap]
      (try simp only [o_pickT, guardW_true])
      refine r_load one31 (hS.at m4 0 rfl) ?_
      (try simp only [o_eql, beq_self_eq_true])
      exact ⟨by first | rfl | trivial, hS.drop.drop.drop.drop.drop.drop.drop⟩
    clear hj114
    by_cases hcut : (kG : Int) < (G.length : Int)
    · have hne : ¬ (ze, zn) = (pe, pn) := fun h => by have := hiff.1 h; omega
      rw [if_neg hne] at hcw
      rw [if_pos (by omega)] at hway
      subst hway
      (try simp only [hcut, decide_true, o_pickT, guardW_true, ln_22_3, o_gtr, cond_decide])
      refine ⟨fun h0 => ?_, fun h0 => ?_⟩
      · rw [if_pos (by omega)] at hcw
        rw [hcw] at H114
        exact H114
      · rw [if_neg (by omega)] at hcw
        rw [hcw] at H114
        exact H114
    · have heq : (ze, zn) = (pe, pn) := hiff.2 (by omega)
      rw [if_pos heq] at hcw
      rw [if_neg (by omega)] at hway
      subst hway
      (try simp only [hcut, decide_false, o_pickF, condF, guardW_ft])
      rw [hcw] at H114
      exact H114
  clear hj112
  exact ⟨fun hcut => H112 2 (by rw [if_pos (by omega)]), fun hcut => H112 1 (by rw [if_neg (by omega)])⟩
end
end Go.Proofs.YtoeamecdkimgaaaDoor
