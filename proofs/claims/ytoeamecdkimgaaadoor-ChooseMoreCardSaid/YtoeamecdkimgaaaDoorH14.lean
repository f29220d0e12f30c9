/- Chapter 14: the document's Way; ChooseWays: the walk. -/
import Derived.Test.YtoeamecdkimgaaaDoorH4
import Derived.Test.YtoeamecdkimgaaaDoorF3
set_option linter.unusedVariables false
set_option linter.unusedSimpArgs false
namespace Go.Proofs.YtoeamecdkimgaaaDoor
open Go.Sh
theorem eqCh (c : Int × Int × Int × Bool) (w : World) : (eqOp .eql 33 false false (.agg (chC c).toArray) (.agg (chC c).toArray)).run Tryd.prog w = .ok (.bool true) w ∧ (eqOp .neq 33 false false (.agg (chC c).toArray) (.agg (chC c).toArray)).run Tryd.prog w = .ok (.bool false) w := by
  have hg : Tryd.prog.eqGuardType Tryd.prog.depth 33 = false := by kernel_rfl
  have hu : Tryd.prog.underlying 33 = some (.struct (Tryd.prog.fieldsOf 33)) := by kernel_rfl
  have hs : Tryd.prog.stoodInHeld 33 = false := by kernel_rfl
  have hgz : Tryd.prog.eqGuardType Tryd.prog.depth 30 = false := by kernel_rfl
  have huz : Tryd.prog.underlying 30 = some (.struct (Tryd.prog.fieldsOf 30)) := by kernel_rfl
  have hsz : Tryd.prog.stoodInHeld 30 = false := by kernel_rfl
  have k8 : Tryd.prog.plainKey 31 = true := by kernel_rfl
  have kb : Tryd.prog.plainKey 4 = true := by kernel_rfl
  have k32 : Tryd.prog.plainKey 28 = true := by kernel_rfl
  have hz : ∀ w, (sizeOf 30).run Tryd.prog w = .ok 2 w := fun w => by kernel_rfl
  have q0 : ∀ (a b : Int) (w : World), (part 28 (zx a b).toArray 0).run Tryd.prog w = .ok (.int .u32 a) w := fun a b w => run_part_plain w k32 rfl
  have q1 : ∀ (a b : Int) (w : World), (part 28 (zx a b).toArray 1).run Tryd.prog w = .ok (.int .u32 b) w := fun a b w => run_part_plain w k32 rfl
  have inZ : ∀ (a b : Int) (d : Nat) (w : World), (Op.equalIn (d + 2) 30 (.agg (zx a b).toArray) (.agg (zx a b).toArray)).run Tryd.prog w = .ok true w := fun a b d w => by
    rw [run_equalIn_agg _ _ _ _ _ huz hsz]
    simp [Program.fieldsOf, Tryd.underlying30, Op.eqFields, q0, q1, run_equalIn_int _ _ _ _ _ _ _ Tryd.underlying28]
  have p0 : ∀ (w : World), (part 31 (chC c).toArray 0).run Tryd.prog w = .ok (.int .i8 c.1) w := fun w => run_part_plain w k8 rfl
  have p1 : ∀ (w : World), (part 30 (chC c).toArray 1).run Tryd.prog w = .ok (.agg (zx c.2.1 c.2.2.1).toArray) w := fun w => by
    unfold part
    simp only [Sem.run_bind, run_isAgg ag30, Result.andThen_ok, if_true, hz]
    simp [chC, zx]
  have p2 : ∀ (w : World), (part 4 (chC c).toArray 3).run Tryd.prog w = .ok (.bool c.2.2.2) w := fun w => run_part_plain w kb rfl
  constructor
  · unfold eqOp
    simp only [Sem.run_bind, run_eqGuard_agg _ _ _ _ _ _ _ hg, Result.andThen_ok, run_eql_struct, run_equalIn_agg _ _ _ _ _ hu hs]
    simp [Program.fieldsOf, Tryd.underlying33, Op.eqFields, p0, p1, p2, run_equalIn_int _ _ _ _ _ _ _ Tryd.underlying31, run_equalIn_bool _ _ _ _ _ Tryd.underlying4, inZ, hz]
  · unfold eqOp
    simp only [Sem.run_bind, run_eqGuard_agg _ _ _ _ _ _ _ hg, Result.andThen_ok, run_neq_struct, run_equalIn_agg _ _ _ _ _ hu hs]
    simp [Program.fieldsOf, Tryd.underlying33, Op.eqFields, p0, p1, p2, run_equalIn_int _ _ _ _ _ _ _ Tryd.underlying31, run_equalIn_bool _ _ _ _ _ Tryd.underlying4, inZ, hz]
/-- What Way is asked, as it lies. -/
def csC (pe pn se sn : Int) (v : Value) (cached image : Int) (f : Nat) : List Value := zx pe pn ++ (zx se sn ++ [v, .int .i64 cached, .int .i64 image, .float .f64 f])
theorem csC_ones {pe pn se sn : Int} {v : Value} {cached image : Int} {f : Nat} (hv : v.oneCell' = true) : ones (csC pe pn se sn v cached image f) := by
  intro u hu
  simp [csC, zx] at hu
  rcases hu with rfl | rfl | rfl | rfl | rfl | rfl | rfl | rfl
  all_goals first | exact hv | rfl
section
variable (Z : List PanicEntry → World → Prop) {o w : World} {R : List HProp}
theorem lawRises14 {v : Value} {ts : List Tx} {e n : Int} (hn : u32r n) (hns : ∀ t ∈ ts, u32r t.n) (hx : Ent o R fun w => RdT w v ts) (h : St o w R) : CallV Tryd.prog Z 11 #[.agg (zx e n).toArray, v] w fun r w' => r = .bool (rises e n (zxs ts)) ∧ St o w' R := by
  obtain ⟨a, c, rfl⟩ := (hx w h).1.form
  have hle := (hx w h).1.2.1
  simp only [maxLen] at hle
  refine f11.calls ?_
  unfold f11.sh
  refine r_box _ _ h fun g w1 hS => ?_
  have hS : St o w1 (blk g 30 (zx e n) :: R) := hS
  refine ⟨fun m y w' => ∃ (i : Nat) (pe pn : Int), y = .int .i64 i ∧ m + i = ts.length ∧ u32r pn ∧ rises e n (zxs ts) = rises pe pn (zxs (ts.drop i)) ∧ St o w' (blk g 30 (zx pe pn) :: R), ⟨ts.length, 0, e, n, rfl, rfl, hn, rfl, hS⟩, ?_⟩
  clear hS
  rintro m _ w2 ⟨i, pe, pn, rfl, hi, hpn, hri, hS⟩ _
  by_cases hlt : (i : Int) < (ts.length : Int)
  · have hil : i < ts.length := by omega
    have hmem : ts[i] ∈ ts := List.getElem_mem hil
    rw [List.drop_eq_getElem_cons hil] at hri
    have hri : rises e n (zxs ts) = (decide (ls pe pn ts[i].e ts[i].n) && rises ts[i].e ts[i].n (zxs (ts.drop (i + 1)))) := hri
    (try simp only [o_add, ln_22_3, o_lss, hlt, decide_true, condT])
    refine ⟨fun w5 hd => ?_⟩
    have hS := hS.drew hd
    obtain ⟨b, p, cs, hp, _, hcv, hc⟩ := (rowR_rd (c := Tx.cells) (fun x => rfl) (hx w5 hS.drop).1 rfl).ix el22 .i64 i hil
    subst hcv
    refine rr_loadN ag30 (xs := zx pe pn) rfl (hS.cells_at m0 0 (whole_at _)) ?_
    refine rp hp ?_
    (try simp only [fa_49_0p, Nat.add_zero])
    refine rr_loadN ag30 (xs := zx ts[i].e ts[i].n) rfl (fun j u hu => by rw [add_addr]; exact hc j u (by have := zx_at ts[i] j u hu; rwa [Nat.zero_add] at this)) ?_
    refine (refCompare Z hS).mono fun r w6 ⟨hr, hS⟩ => ?_
    subst hr
    have hcmp := ls_cmp (e := pe) (n := pn) (e' := ts[i].e) (n' := ts[i].n) hpn (hns _ hmem)
    (try simp only [o_geqp, cond_decide])
    refine ⟨fun hge => ?_, fun hge => ?_⟩
    · rw [decide_eq_false (by omega)] at hcmp
      exact ⟨by rw [hri, ← hcmp]; rfl, hS.drop⟩
    · rw [decide_eq_true (by omega)] at hcmp
      obtain ⟨b, p, cs, hp, _, hcv, hc⟩ := (rowR_rd (c := Tx.cells) (fun x => rfl) (hx w6 hS.drop).1 rfl).ix el22 .i64 i hil
      subst hcv
      refine r1 (hp _) ?_
      (try simp only [fa_49_0, Nat.add_zero])
      refine r_loadN ag30 (xs := zx ts[i].e ts[i].n) rfl (fun j u hu => by rw [add_addr]; exact hc j u (by have := zx_at ts[i] j u hu; rwa [Nat.zero_add] at this)) ?_
      refine r_storeN hS ag30 (xs := zx ts[i].e ts[i].n) rfl (show 0 + 2 ≤ 2 from Nat.le_refl _) (zx_ones _ _) fun w8 hS => ?_
      rw [setL_all _ _ (by rfl)] at hS
      rw [wr_i64 (x := (i : Int) + 1) (by omega) (by omega)]
      refine ⟨m - 1, by omega, i + 1, ts[i].e, ts[i].n, rfl, by omega, hns _ hmem, ?_, hS⟩
      rw [hri, ← hcmp, Bool.true_and]
  · obtain rfl : i = ts.length := by omega
    (try simp only [o_add, ln_22_3, o_lss, hlt, decide_false, condF])
    rw [List.drop_length] at hri
    exact ⟨by rw [hri]; rfl, hS.drop⟩
theorem askC {ax : Option Addr} {cx : Nat} {ts : List Tx} {pe pn se sn cached image : Int} {f : Nat} (hpe : u32r pe) (hpn : u32r pn) (hse : u32r se) (hsn : u32r sn) (hcap : ts.length ≤ cx) (hN : Names o) (ho : old o ∈ R) (hw : WfT ts)
    (hx : Ent o R fun w => RdT w (.slice ax ts.length cx) ts) (h : St o w R) :
    CallV Tryd.prog Z 16 #[.agg (csC pe pn se sn (.slice ax ts.length cx) cached image f).toArray] w fun r w' => r = wayT (wayR pe pn se sn ts cached image f) ∧ St o w' R := by
  refine f16.calls ?_
  unfold f16.sh
  refine r_box _ _ h fun gx w1 hS => ?_
  have hS : St o w1 (blk gx 54 (csC pe pn se sn (.slice ax ts.length cx) cached image f) :: R) := hS
  refine r_alloc hS ze33 fun gr w3 hS => ?_
  have hS : St o w3 (blk gr 33 (chC (0, 0, 0, false)) :: blk gx 54 (csC pe pn se sn (.slice ax ts.length cx) cached image f) :: R) := hS
  (try simp only [fa_54_5, Nat.zero_add, fa_54_4, fa_54_3, fa_54_2, fa_54_1, fa_54_0, Nat.add_zero])
  refine r_loadN ag30 (xs := zx pe pn) rfl (hS.cells_at m1 0 (fun j u hu => by rw [Nat.zero_add, csC, List.getElem?_append_left (List.getElem?_eq_some_iff.1 hu).1]; exact hu)) ?_
  refine r_loadN ag30 (xs := zx se sn) rfl (hS.cells_at m1 2 (fun j u hu => by rw [csC, List.getElem?_append_right (by simp [zx])]; rw [show 2 + j - (zx pe pn).length = j by simp [zx]]; rw [List.getElem?_append_left (List.getElem?_eq_some_iff.1 hu).1]; exact hu)) ?_
  refine r_load one22 (hS.at m1 4 rfl) ?_
  skip
  refine r_load one3 (hS.at m1 5 rfl) ?_
  skip
  refine r_load one3 (hS.at m1 6 rfl) ?_
  skip
  refine r_load one23 (hS.at m1 7 rfl) ?_
  refine (wayC Z hpe hpn hse hsn hcap hN (List.mem_cons_of_mem _ (List.mem_cons_of_mem _ ho)) hw (fun w hw => hx w hw.drop.drop) hS).mono fun r w2 ⟨hr, hS⟩ => ?_
  subst hr
  generalize wayR pe pn se sn ts cached image f = q
  unfold wayT
  (try simp only [o_ext2_1, o_ext2_0])
  refine finW Z _ rfl hS fun w' hS => ?_
  exact ⟨by first | rfl | trivial, hS.drop⟩
end
end Go.Proofs.YtoeamecdkimgaaaDoor

/- Chapter 14: the document's Way. -/
set_option linter.unusedVariables false
set_option linter.unusedSimpArgs false
namespace Go.Proofs.YtoeamecdkimgaaaDoor
open Go.Sh
section
variable (Z : List PanicEntry → World → Prop) {o w : World} {R : List HProp}
theorem chainNU {w : World} {K : Value → World → Prop} (b u : Bool) (hk : K (.bool (!b && !u)) w) : guardW (.bool (!b)) true (fun k => k (.bool u) w) (fun t82 w => guardW (.bool (!b)) true (fun k => run1 Tryd.prog Z (Op.unary .not t82) w k) (fun t83 w => run1 Tryd.prog Z (pickV (.bool (!b)) t83 (.bool false)) w fun t84 w => K t84 w) w) w := by
  cases b <;> cases u
  all_goals (try simp only [Bool.not_false, o_pickT, guardW_true, o_not, Bool.not_true, o_pickF, guardW_ft])
  all_goals exact hk
end
end Go.Proofs.YtoeamecdkimgaaaDoor

/- Chapter 14: ChooseWays: the walk. -/
set_option linter.unusedVariables false
set_option linter.unusedSimpArgs false
namespace Go.Proofs.YtoeamecdkimgaaaDoor
open Go.Sh
theorem wayR_key {a b : List Tx} (h : a.map txK = b.map txK) (pe pn se sn cached image : Int) (f : Nat) : wayR pe pn se sn a cached image f = wayR pe pn se sn b cached image f := by
  have h1 : zxs a = zxs b := zxs_hd (txK_hd h)
  have h2 : a.length = b.length := by have := congrArg List.length h; simpa using this
  have h3 : ∀ k, szTs (a.drop k) = szTs (b.drop k) := fun k => szTs_key (by rw [List.map_drop, List.map_drop, h])
  unfold wayR
  rw [h1, h2, h3]
theorem own_cap {o w : World} {R : List HProp} {e sz n : Nat} {v : Value} {xs : List Value} (h : St o w (own e sz v n xs :: R)) : ∃ a c, v = .slice a n c ∧ n ≤ c := by
  obtain ⟨_, ⟨rfl, rfl, _⟩ | ⟨g, cap, rest, rfl, h1, _⟩⟩ := h.own_open
  · exact ⟨_, _, rfl, Nat.le_refl _⟩
  · exact ⟨_, _, rfl, h1⟩
/-- The same but for its zxid. -/
def newZ (t : Tx) (e n : Int) : Tx := ⟨e, n, t.sv, t.bo, t.nu, t.q⟩
theorem setL_zx (A B : List Tx) (t : Tx) (e n : Int) : setL (((A ++ t :: B).map Tx.cells).flatten) (A.length * 16) (zx e n) = ((A ++ newZ t e n :: B).map Tx.cells).flatten := by
  have h := setL_mid (A.map Tx.cells).flatten (zx t.e t.n) (zx e n) ((orC t.sv t.bo t.nu ++ t.q.cells) ++ (B.map Tx.cells).flatten) rfl
  have hl : (A.map Tx.cells).flatten.length = A.length * 16 := by
    rw [len_flatten_of (sz := 16) (fun c hc => by obtain ⟨x, _, rfl⟩ := List.mem_map.1 hc; exact Tx.cells_len x), List.length_map]
  rw [hl] at h
  have e1 : ((A ++ t :: B).map Tx.cells).flatten = (A.map Tx.cells).flatten ++ (zx t.e t.n ++ ((orC t.sv t.bo t.nu ++ t.q.cells) ++ (B.map Tx.cells).flatten)) := by simp [Tx.cells]
  have e2 : ((A ++ newZ t e n :: B).map Tx.cells).flatten = (A.map Tx.cells).flatten ++ (zx e n ++ ((orC t.sv t.bo t.nu ++ t.q.cells) ++ (B.map Tx.cells).flatten)) := by simp [Tx.cells, newZ]
  rw [e1, e2, h]
theorem wdT_q (l : List Tx) : l.map wdT = (l.map Tx.q).map WdQ := by rw [List.map_map]; rfl
theorem newZ_wf {t : Tx} {e n : Int} (h : wfH t.hd) (he : 0 ≤ e ∧ e ≤ 4294967295) (hn : u32r n) : wfH (newZ t e n).hd := by
  have h2 := hok_le h (show 2 < 5 by omega)
  have h3 := hok_le h (show 3 < 5 by omega)
  have h4 := hok_le h (show 4 < 5 by omega)
  exact ⟨⟨⟨⟨⟨trivial, he⟩, hn⟩, h2⟩, h3⟩, h4⟩
theorem txK_of : ∀ {a b : List Tx}, a.map Tx.hd = b.map Tx.hd → a.map (fun t => t.q.st) = b.map (fun t => t.q.st) → a.map txK = b.map txK
  | [], [], _, _ => rfl
  | [], _ :: _, h, _ => by simp at h
  | _ :: _, [], h, _ => by simp at h
  | x :: a, y :: b, h, k => by
    simp only [List.map_cons, List.cons.injEq] at h k ⊢
    exact ⟨Prod.ext h.1 k.1, txK_of h.2 k.2⟩
section
variable (Z : List PanicEntry → World → Prop) {o w : World} {R : List HProp}
end
end Go.Proofs.YtoeamecdkimgaaaDoor

/- Chapter 14: what Way is asked, as it came in. -/
set_option linter.unusedVariables false
set_option linter.unusedSimpArgs false
namespace Go.Proofs.YtoeamecdkimgaaaDoor
open Go.Sh
def TxsV (w : World) (v : Value) : Prop := ∃ a c ts, v = .slice a (List.length ts) c ∧ ts.length ≤ c ∧ WfT ts ∧ RdT w (.slice a ts.length c) ts
theorem txsV_of {w : World} {cs : List Value} (h : TxsC w cs) : ∃ v, cs = [v] ∧ TxsV w v := by
  obtain ⟨⟨v, rfl, l, hl, hwf, hr⟩, a, n, c, hv, hnc⟩ := h
  injection hv with hv
  subst hv
  exact ⟨_, rfl, txsC_open ⟨⟨_, rfl, l, hl, hwf, hr⟩, a, n, c, rfl, hnc⟩⟩
def CaseO (w : World) (cs : List Value) : Prop := ∃ pe pn se sn v cached image f, cs = csC pe pn se sn v cached image f ∧ (u32r pe ∧ u32r pn ∧ u32r se ∧ u32r sn) ∧ TxsV w v ∧ (-9223372036854775808 ≤ cached ∧ cached ≤ 9223372036854775807) ∧ (-9223372036854775808 ≤ image ∧ image ≤ 9223372036854775807) ∧ f < 18446744073709551616
theorem opn_CaseO (w : World) : Opn Tryd.prog w 54 (CaseO w) := (opn_struct Tryd.underlying54 [(2, ZxO w), (2, ZxO w), (1, TxsC w), (1, IntO w), (1, IntO w), (1, FltO w)] (by kernel_rfl) (by kernel_rfl)
  ⟨by kernel_rfl, opn_ZxO w, by kernel_rfl, opn_ZxO w, by kernel_rfl, opn_TxsC w, by kernel_rfl, opn_IntO w, by kernel_rfl, opn_IntO w, by kernel_rfl, opn_FltO w, trivial⟩).mono (by
    rintro cs ⟨_, _, rfl, _, ⟨pe, pn, rfl, hpe, hpn⟩, _, _, rfl, _, ⟨se, sn, rfl, hse, hsn⟩, _, _, rfl, _, hts, _, _, rfl, _, ⟨ca, rfl, hca⟩, _, _, rfl, _, ⟨im, rfl, him⟩, _, _, rfl, _, ⟨f, rfl, hf⟩, h4⟩
    simp only [Cut] at h4
    subst h4
    obtain ⟨v, rfl, hv⟩ := txsV_of hts
    exact ⟨pe, pn, se, sn, v, ca, im, f, rfl, ⟨hpe, hpn, hse, hsn⟩, hv, hca, him, hf⟩)
end Go.Proofs.YtoeamecdkimgaaaDoor

/- Chapter 14: last, upTo, agree of the statements. -/
set_option linter.unusedVariables false
set_option linter.unusedSimpArgs false
namespace Go.Proofs.YtoeamecdkimgaaaDoor
open Go.Sh
/-- Those up to a zxid. -/
def upT (ze zn : Int) (ts : List Tx) : List Tx := ts.filter fun t => !decide (ls ze zn t.e t.n)
theorem upT_take (ts : List Tx) (i : Nat) (hi : i < ts.length) (ze zn : Int) : upT ze zn (ts.take (i + 1)) = upT ze zn (ts.take i) ++ if ls ze zn ts[i].e ts[i].n then [] else [ts[i]] := by
  unfold upT
  rw [List.take_succ_eq_append_getElem hi, List.filter_append]
  congr 1
  by_cases h : ls ze zn ts[i].e ts[i].n <;> simp [h]
theorem upT_le (ze zn : Int) (ts : List Tx) : (upT ze zn ts).length ≤ ts.length := List.length_filter_le _ _
theorem upT_sub {ze zn : Int} {ts : List Tx} : ∀ t ∈ upT ze zn ts, t ∈ ts := fun t h => (List.mem_filter.1 h).1
theorem cells_ones {w : World} {v : Value} {ts : List Tx} (hx : RdT w v ts) : ones (ts.map Tx.cells).flatten := by
  intro u hu
  obtain ⟨l, hl, hul⟩ := List.mem_flatten.1 hu
  obtain ⟨t, ht, rfl⟩ := List.mem_map.1 hl
  exact txC_ones (hx.2 t ht).ones u hul
section
variable (Z : List PanicEntry → World → Prop) {o w : World} {R : List HProp}
theorem lastC {v : Value} {ts : List Tx} {se sn : Int} (hx : Ent o R fun w => RdT w v ts) (h : St o w R) :
    CallV Tryd.prog Z 10 #[.agg (zx se sn).toArray, v] w fun r w' => r = .agg (zx (frm se sn (zxs ts) ts.length).1 (frm se sn (zxs ts) ts.length).2).toArray ∧ St o w' R := by
  obtain ⟨a, c, rfl⟩ := (hx w h).1.form
  have hle := (hx w h).1.2.1
  simp only [maxLen] at hle
  refine f10.calls ?_
  unfold f10.sh
  refine r_box _ _ h fun gx w1 hS => ?_
  have hS : St o w1 (blk gx 30 (zx se sn) :: R) := hS
  refine r_alloc hS ze30 fun gr w2 hS => ?_
  have hS : St o w2 (blk gr 30 (zx 0 0) :: blk gx 30 (zx se sn) :: R) := hS
  (try simp only [ln_22_3, o_sub, o_gtr, cond_decide])
  refine ⟨fun hlt => ?_, fun hlt => ?_⟩
  · have hil : ts.length - 1 < ts.length := by omega
    have hz : frm se sn (zxs ts) ts.length = (ts[ts.length - 1].e, ts[ts.length - 1].n) := by
      unfold frm
      rw [if_neg (by omega), List.getD_eq_getElem?_getD, List.getElem?_eq_getElem (by rw [zxs_len]; omega), zxs_at]
      rfl
    rw [wr_i64 (x := (ts.length : Int) - 1) (by omega) (by omega), show ((ts.length : Int) - 1) = ((ts.length - 1 : Nat) : Int) by omega]
    obtain ⟨b, p, cs, hp, _, hcv, hc⟩ := (rowR_rd (c := Tx.cells) (fun x => rfl) (hx w2 hS.drop.drop).1 rfl).ix el22 .i64 (ts.length - 1) hil
    subst hcv
    refine r1 (hp _) ?_
    (try simp only [fa_49_0, Nat.add_zero])
    refine r_loadN ag30 (xs := zx ts[ts.length - 1].e ts[ts.length - 1].n) rfl (fun j u hu => by rw [add_addr]; exact hc j u (by have := zx_at ts[ts.length - 1] j u hu; rwa [Nat.zero_add] at this)) ?_
    refine r_storeN hS ag30 (xs := zx ts[ts.length - 1].e ts[ts.length - 1].n) rfl (show 0 + 2 ≤ 2 by omega) (zx_ones _ _) fun w3 hS => ?_
    rw [setL_all _ _ (by rfl)] at hS
    refine r_resN ag30 (xs := zx ts[ts.length - 1].e ts[ts.length - 1].n) rfl (hS.cells_at m0 0 (whole_at _)) ?_
    rw [hz]
    exact ⟨rfl, hS.drop.drop⟩
  · have hz : frm se sn (zxs ts) ts.length = (se, sn) := by
      unfold frm
      rw [if_pos (by omega)]
    refine r_loadN ag30 (xs := zx se sn) rfl (hS.cells_at m1 0 (whole_at _)) ?_
    refine r_storeN hS ag30 (xs := zx se sn) rfl (show 0 + 2 ≤ 2 by omega) (zx_ones _ _) fun w3 hS => ?_
    rw [setL_all _ _ (by rfl)] at hS
    refine r_resN ag30 (xs := zx se sn) rfl (hS.cells_at m0 0 (whole_at _)) ?_
    rw [hz]
    exact ⟨rfl, hS.drop.drop⟩
theorem upToC {v : Value} {ts : List Tx} {ze zn : Int} (hzn : u32r zn) (hw : WfT ts) (hx : Ent o R fun w => RdT w v ts) (h : St o w R) :
    CallV Tryd.prog Z 13 #[v, .agg (zx ze zn).toArray] w fun r w' => St o w' (own 49 16 r (upT ze zn ts).length ((upT ze zn ts).map Tx.cells).flatten :: R) := by
  obtain ⟨a, c, rfl⟩ := (hx w h).1.form
  have hle := hw.1
  have hns := hw.ns
  refine f13.calls ?_
  unfold f13.sh
  refine r_box _ _ h fun gx w1 hS => ?_
  have hS : St o w1 (blk gx 30 (zx ze zn) :: R) := hS
  refine ⟨fun m x y w' => ∃ (i : Nat), y = .int .i64 i ∧ m + i = ts.length ∧ St o w' (own 49 16 x (upT ze zn (ts.take i)).length ((upT ze zn (ts.take i)).map Tx.cells).flatten :: blk gx 30 (zx ze zn) :: R), ⟨ts.length, 0, rfl, rfl, hS.own_nil _ _⟩, ?_⟩
  clear hS h
  rintro m x _ w2 ⟨i, rfl, hi, hS⟩ _
  by_cases hlt : (i : Int) < (ts.length : Int)
  · have hil : i < ts.length := by omega
    have hmem : ts[i] ∈ ts := List.getElem_mem hil
    have hup := upT_take ts i hil ze zn
    have hul := upT_le ze zn (ts.take i)
    rw [List.length_take] at hul
    (try simp only [o_add, ln_22_3, o_lss, hlt, decide_true, condT])
    intro j hj
    have HJ : ∀ (v' : Value) (w' : World), St o w' (own 49 16 v' (upT ze zn (ts.take (i + 1))).length ((upT ze zn (ts.take (i + 1))).map Tx.cells).flatten :: blk gx 30 (zx ze zn) :: R) → j v' w' := by
      intro v' w' hS
      refine hj _ w' fun _ => ?_
      skip
      rw [wr_i64 (x := (i : Int) + 1) (by omega) (by omega)]
      exact ⟨m - 1, by omega, i + 1, rfl, by omega, hS⟩
    clear hj
    refine ⟨fun w9 hd => ?_⟩
    have hS := hS.drew hd
    obtain ⟨b, p, cs, hp, _, hcv, hc⟩ := (rowR_rd (c := Tx.cells) (fun x => rfl) (hx w9 hS.drop.drop).1 rfl).ix el22 .i64 i hil
    subst hcv
    refine rp hp ?_
    (try simp only [fa_49_0p, Nat.add_zero])
    refine rr_loadN ag30 (xs := zx ts[i].e ts[i].n) rfl (fun j u hu => by rw [add_addr]; exact hc j u (by have := zx_at ts[i] j u hu; rwa [Nat.zero_add] at this)) ?_
    refine rr_loadN ag30 (xs := zx ze zn) rfl (hS.cells_at m1 0 (whole_at _)) ?_
    refine (refCompare Z hS).mono fun r w10 ⟨hr10, hS⟩ => ?_
    subst hr10
    have hcmp := cmp_le0 (e := ts[i].e) (n := ts[i].n) (e' := ze) (n' := zn) (hns _ hmem) hzn
    (try simp only [o_leqp, cond_decide])
    refine ⟨fun hge => ?_, fun hge => ?_⟩
    · rw [if_neg (hcmp.1 hge)] at hup
      obtain ⟨b, p, cs, hp, _, hcv, hc⟩ := (rowR_rd (c := Tx.cells) (fun x => rfl) (hx w10 hS.drop.drop).1 rfl).ix el22 .i64 i hil
      subst hcv
      refine r1 (hp _) (r_loadN ag49 (xs := ts[i].cells) rfl (fun j u hu => by rw [add_addr]; exact hc j u hu) ?_)
      have hq := txC_ones ((hx w10 hS.drop.drop).2 _ hmem).ones
      refine r_pushN el22 hS ts[i].cells (Tx.cells_len _) hq (by omega) (by omega) (by simp only [maxLen]; omega) fun v' w' hS => ?_
      refine HJ v' w' ?_
      rw [hup, List.length_append, List.map_append, List.flatten_append]
      simpa using hS
    · rw [if_pos (by
        by_cases hh : ls ze zn ts[i].e ts[i].n
        · exact hh
        · exact absurd (hcmp.2 hh) hge), List.append_nil] at hup
      refine HJ _ _ ?_
      rw [hup]
      exact hS
  · obtain rfl : i = ts.length := by omega
    (try simp only [o_add, ln_22_3, o_lss, hlt, decide_false, condF])
    rw [List.take_length] at hS
    exact hS.swap.drop
/-- The same up to each zxid that stands in both. -/
def Agree (a b : List Tx) : Prop := ∀ (i : Nat) (hi : i < a.length) (k : Nat) (hk : k < b.length), (a[i].e, a[i].n) = (b[k].e, b[k].n) → (a.take (i + 1)).map txK = (b.take (k + 1)).map txK
theorem agreeC {av bv : Option Addr} {ac bc : Nat} {a b : List Tx} (hac : a.length ≤ ac) (hbc : b.length ≤ bc) (hx : Ent o R fun w => RdT w (.slice av a.length ac) a) (hy : Ent o R fun w => RdT w (.slice bv b.length bc) b) (h : St o w R) :
    CallV Tryd.prog Z 12 #[.slice av a.length ac, .slice bv b.length bc] w fun r w' => (∃ x, r = .bool x ∧ (x = true → Agree a b)) ∧ St o w' R := by
  have hle := (hx w h).1.2.1
  have hle2 := (hy w h).1.2.1
  simp only [maxLen] at hle hle2
  refine f12.calls ?_
  unfold f12.sh
  refine ⟨fun m x w' => ∃ (i : Nat), x = .int .i64 i ∧ m + i = a.length ∧ (∀ (i' : Nat) (hi : i' < a.length) (k : Nat) (hk : k < b.length), i' < i → (a[i'].e, a[i'].n) = (b[k].e, b[k].n) → (a.take (i' + 1)).map txK = (b.take (k + 1)).map txK) ∧ St o w' R, ⟨a.length, 0, rfl, rfl, fun _ _ _ _ h => by omega, h⟩, ?_⟩
  clear h
  rintro m _ w1 ⟨i, rfl, hi, hag, hS⟩ _
  by_cases hlt : (i : Int) < (a.length : Int)
  · have hil : i < a.length := by omega
    (try simp only [o_add, ln_22_3, o_lss, hlt, decide_true, condT])
    refine ⟨fun m2 x w' => ∃ (k : Nat), x = .int .i64 k ∧ m2 + k = b.length ∧ (∀ (k' : Nat) (hk : k' < b.length), k' < k → (a[i].e, a[i].n) = (b[k'].e, b[k'].n) → (a.take (i + 1)).map txK = (b.take (k' + 1)).map txK) ∧ St o w' R, ⟨b.length, 0, rfl, rfl, fun _ _ h => by omega, hS⟩, ?_⟩
    clear hS
    rintro m2 _ w2 ⟨k, rfl, hk, hag2, hS⟩ _
    by_cases hlt2 : (k : Int) < (b.length : Int)
    · have hkl : k < b.length := by omega
      (try simp only [o_add, o_lss, hlt2, decide_true, condT])
      refine ⟨fun w9 hd => ?_⟩
      have hS := hS.drew hd
      obtain ⟨b1, p1, cs, hp, _, hcv, hc⟩ := (rowR_rd (c := Tx.cells) (fun x => rfl) (hx w9 hS).1 rfl).ix el22 .i64 i hil
      subst hcv
      refine rp hp ?_
      (try simp only [fa_49_0p, Nat.add_zero])
      refine rr_loadN ag30 (xs := zx a[i].e a[i].n) rfl (fun j u hu => by rw [add_addr]; exact hc j u (by have := zx_at a[i] j u hu; rwa [Nat.zero_add] at this)) ?_
      obtain ⟨b2, p2, cs2, hp2, _, hcv2, hc2⟩ := (rowR_rd (c := Tx.cells) (fun x => rfl) (hy w9 hS).1 rfl).ix el22 .i64 k hkl
      subst hcv2
      refine rp hp2 ?_
      (try simp only [fa_49_0p, Nat.add_zero])
      refine rr_loadN ag30 (xs := zx b[k].e b[k].n) rfl (fun j u hu => by rw [add_addr]; exact hc2 j u (by have := zx_at b[k] j u hu; rwa [Nat.zero_add] at this)) ?_
      refine rp (eqZx _ _ _ _) ?_
      cases hb : (a[i].e == b[k].e && a[i].n == b[k].n) with
      | false =>
        (try simp only [o_pickFp, condF, guardV_ft, guardW_ft])
        refine rs_loadN ag30 (xs := zx b[k].e b[k].n) rfl (fun j u hu => by rw [add_addr]; exact hc2 j u (by have := zx_at b[k] j u hu; rwa [Nat.zero_add] at this)) (rs_loadN ag30 (xs := zx a[i].e a[i].n) rfl (fun j u hu => by rw [add_addr]; exact hc j u (by have := zx_at a[i] j u hu; rwa [Nat.zero_add] at this)) ?_)
        skip
        rw [wr_i64 (x := (k : Int) + 1) (by omega) (by omega)]
        refine ⟨m2 - 1, by omega, k + 1, rfl, by omega, fun k' hk' hlt e => ?_, hS⟩
        rcases Nat.eq_or_lt_of_le (show k' ≤ k by omega) with rfl | h2
        · injection e with e1 e2
          rw [e1, e2] at hb
          simp at hb
        · exact hag2 k' hk' h2 e
      | true =>
        (try simp only [o_pickTp, guardV_true, guardW_true, o_addp])
        rw [wr_i64 (x := (i : Int) + 1) (by omega) (by omega), wr_i64 (x := (k : Int) + 1) (by omega) (by omega)]
        refine rp (fun w => run_slice_to el22 av a.length ac .i64 ((i : Int) + 1) (by omega) (by omega) w) ?_
        refine rp (fun w => run_slice_to el22 bv b.length bc .i64 ((k : Int) + 1) (by omega) (by omega) w) ?_
        rw [show ((i : Int) + 1).toNat = i + 1 by omega, show ((k : Int) + 1).toNat = k + 1 by omega]
        refine (eqTs Z (fun w hw => RdT.take (hx w hw) (i + 1) (by omega)) (fun w hw => RdT.take (hy w hw) (k + 1) (by omega)) hS).mono fun r w10 ⟨⟨x, hr, hxx⟩, hS⟩ => ?_
        subst hr
        obtain ⟨b1', p1', cs, hp', _, hcv, hc'⟩ := (rowR_rd (c := Tx.cells) (fun x => rfl) (hx w10 hS).1 rfl).ix el22 .i64 i hil
        subst hcv
        obtain ⟨b2', p2', cs2, hp2', _, hcv2, hc2'⟩ := (rowR_rd (c := Tx.cells) (fun x => rfl) (hy w10 hS).1 rfl).ix el22 .i64 k hkl
        subst hcv2
        have e1 := (hp w10).symm.trans (hp' w10)
        have e2 := (hp2 w10).symm.trans (hp2' w10)
        injection e1 with e1; injection e1 with e1; injection e1 with e1; injection e1 with e1 e1'
        injection e2 with e2; injection e2 with e2; injection e2 with e2; injection e2 with e2 e2'
        subst e1; subst e1'; subst e2; subst e2'
        refine rs_loadN ag30 (xs := zx b[k].e b[k].n) rfl (fun j u hu => by rw [add_addr]; exact hc2' j u (by have := zx_at b[k] j u hu; rwa [Nat.zero_add] at this)) (rs_loadN ag30 (xs := zx a[i].e a[i].n) rfl (fun j u hu => by rw [add_addr]; exact hc' j u (by have := zx_at a[i] j u hu; rwa [Nat.zero_add] at this)) ?_)
        cases x with
        | false =>
          (try simp only [o_notp, Bool.not_false, condT])
          exact ⟨⟨_, rfl, fun h => by cases h⟩, hS⟩
        | true =>
          (try simp only [o_notp, Bool.not_true, condF])
          refine ⟨m2 - 1, by omega, k + 1, rfl, by omega, fun k' hk' hlt e => ?_, hS⟩
          rcases Nat.eq_or_lt_of_le (show k' ≤ k by omega) with rfl | h2
          · have := hxx.1 rfl
            exact this
          · exact hag2 k' hk' h2 e
    · obtain rfl : k = b.length := by omega
      (try simp only [o_add, o_lss, hlt2, decide_false, condF])
      rw [wr_i64 (x := (i : Int) + 1) (by omega) (by omega)]
      refine ⟨m - 1, by omega, i + 1, rfl, by omega, fun i' hi' k hk hlt e => ?_, hS⟩
      rcases Nat.eq_or_lt_of_le (show i' ≤ i by omega) with rfl | h2
      · exact hag2 k hk hk e
      · exact hag i' hi' k hk h2 e
  · obtain rfl : i = a.length := by omega
    (try simp only [o_add, ln_22_3, o_lss, hlt, decide_false, condF])
    exact ⟨⟨_, rfl, fun _ i hi k hk e => hag i hi k hk hi e⟩, hS⟩
end
end Go.Proofs.YtoeamecdkimgaaaDoor

/- Chapter 14: ChooseRight: the plain law. -/
set_option linter.unusedVariables false
set_option linter.unusedSimpArgs false
namespace Go.Proofs.YtoeamecdkimgaaaDoor
open Go.Sh
theorem rises_mem : ∀ {zs : List (Int × Int)} {e n : Int}, rises e n zs = true → ∀ z ∈ zs, ls e n z.1 z.2
  | z :: zs, e, n, h, x, hx => by
    simp only [rises, Bool.and_eq_true, decide_eq_true_eq] at h
    rcases List.mem_cons.1 hx with rfl | hx
    · exact h.1
    · exact ls_trans h.1 (rises_mem h.2 x hx)
theorem upT_rises : ∀ {ts : List Tx} {e n : Int} (ze zn : Int), rises e n (zxs ts) = true → upT ze zn ts = ts.take (cntN ze zn (zxs ts))
  | [], _, _, _, _, _ => rfl
  | t :: ts, e, n, ze, zn, h => by
    have h' : rises e n ((t.e, t.n) :: zxs ts) = true := h
    simp only [rises, Bool.and_eq_true, decide_eq_true_eq] at h'
    have ih := upT_rises ze zn h'.2
    have hc : zxs (t :: ts) = (t.e, t.n) :: zxs ts := rfl
    rw [hc]
    unfold upT cntN at *
    rw [List.takeWhile_cons]
    by_cases hl : ls ze zn t.e t.n
    · rw [List.filter_eq_nil_iff.2 (fun x hx => by
        rcases List.mem_cons.1 hx with rfl | hx
        · simp [hl]
        · have : (x.e, x.n) ∈ zxs ts := List.mem_map.2 ⟨x, hx, rfl⟩
          have := ls_trans hl (rises_mem h'.2 _ this)
          simp [this])]
      simp [hl]
    · simp [hl, ih]
theorem frm_succ {zs : List (Int × Int)} {se sn : Int} {k : Nat} (h : k < zs.length) : frm se sn zs (k + 1) = zs[k] := by
  unfold frm
  rw [if_neg (by omega), List.getD_eq_getElem?_getD, Nat.add_sub_cancel, List.getElem?_eq_getElem h]
  rfl
theorem ls_irr {e n : Int} : ¬ ls e n e n := by unfold ls; omega
theorem cnt_frm {zs : List (Int × Int)} {se sn : Int} (h : rises se sn zs = true) (k : Nat) (hk : k ≤ zs.length) : cntN (frm se sn zs k).1 (frm se sn zs k).2 zs = k := by
  refine cntN_of zs _ _ k hk (fun i hi hik => ?_) (fun hi => ?_)
  · obtain ⟨j, rfl⟩ : ∃ j, k = j + 1 := ⟨k - 1, by omega⟩
    rw [frm_succ (by omega)]
    rcases Nat.eq_or_lt_of_le (show i ≤ j by omega) with rfl | h2
    · exact ls_irr
    · exact fun hc => ls_irr (ls_trans hc (rises_lt h i j (by omega) h2))
  · cases k with
    | zero => exact rises_mem h _ (List.getElem_mem hi)
    | succ j =>
      rw [frm_succ (by omega)]
      exact rises_lt h j (j + 1) hi (by omega)
theorem frm_inj {zs : List (Int × Int)} {se sn : Int} (h : rises se sn zs = true) {k j : Nat} (hk : k ≤ zs.length) (hj : j ≤ zs.length) (e : frm se sn zs k = frm se sn zs j) : k = j := by
  rw [← cnt_frm h k hk, ← cnt_frm h j hj, e]
theorem frm_0 (se sn : Int) (zs : List (Int × Int)) : frm se sn zs 0 = (se, sn) := rfl
theorem way_ok {pe pn : Int} {L : List Tx} {cached image : Int} {f : Nat} (hr : rises 0 0 (zxs L) = true) (h1 : 0 ≤ cached) (h2 : cached ≤ L.length) (h3 : 0 ≤ image) :
    (wayR pe pn 0 0 L cached image f).2 = 0 ∧ ((wayR pe pn 0 0 L cached image f).1.1 ≠ 4 → ∃ near, (wayR pe pn 0 0 L cached image f).1 = (if frm 0 0 (zxs L) (cntN pe pn (zxs L)) = (pe, pn) then 1 else if cntN pe pn (zxs L) < L.length then 3 else 2, (frm 0 0 (zxs L) (cntN pe pn (zxs L))).1, (frm 0 0 (zxs L) (cntN pe pn (zxs L))).2, near)) := by
  unfold wayR
  rw [if_pos ⟨hr, h1, h2, h3⟩]
  split
  · exact ⟨rfl, fun h => absurd rfl h⟩
  · split
    · exact ⟨rfl, fun h => absurd rfl h⟩
    · exact ⟨rfl, fun _ => ⟨_, rfl⟩⟩
/-- The stage's theorem, in plain words. -/
theorem right_law {L G ts' : List Tx} {n kG : Nat} {pe pn : Int} (hL : rises 0 0 (zxs L) = true) (hG : rises 0 0 (zxs G) = true) (hag : Agree L G) (hn : n ≤ L.length) (hk : kG ≤ G.length) (hz : frm 0 0 (zxs L) n = frm 0 0 (zxs G) kG)
    (hp : (pe, pn) = frm 0 0 (zxs G) G.length) (hts : ts'.map txK = (G.take kG).map txK) :
    (ts' ++ L.drop n).map txK = L.map txK ∧ (frm 0 0 (zxs L) n = (pe, pn) ↔ kG = G.length) := by
  have hlL := zxs_len L
  have hlG := zxs_len G
  constructor
  · have key : (G.take kG).map txK = (L.take n).map txK := by
      by_cases h0 : n = 0
      · subst h0
        rw [frm_0] at hz
        have : kG = 0 := frm_inj hG (by omega) (by omega) (by rw [← hz, frm_0])
        rw [this]; rfl
      · have hk0 : kG ≠ 0 := by
          intro e
          subst e
          rw [frm_0] at hz
          exact h0 (frm_inj hL (by omega) (by omega) (by rw [hz, frm_0]))
        obtain ⟨i, rfl⟩ : ∃ i, n = i + 1 := ⟨n - 1, by omega⟩
        obtain ⟨k, rfl⟩ : ∃ k, kG = k + 1 := ⟨kG - 1, by omega⟩
        rw [frm_succ (by omega), frm_succ (by omega), zxs_at, zxs_at] at hz
        exact (hag i (by omega) k (by omega) hz).symm
    rw [List.map_append, hts, key, ← List.map_append, List.take_append_drop]
  · rw [hz, hp]
    exact ⟨fun e => frm_inj hG (by omega) (by omega) e, fun e => by rw [e]⟩
def prC (v1 v2 : Value) (cached image : Int) (f : Nat) : List Value := [v1, v2, .int .i64 cached, .int .i64 image, .float .f64 f]
def PairO (w : World) (cs : List Value) : Prop := ∃ v1 v2 cached image f, cs = prC v1 v2 cached image f ∧ TxsV w v1 ∧ TxsV w v2 ∧ (-9223372036854775808 ≤ cached ∧ cached ≤ 9223372036854775807) ∧ (-9223372036854775808 ≤ image ∧ image ≤ 9223372036854775807) ∧ f < 18446744073709551616
theorem opn_PairO (w : World) : Opn Tryd.prog w 25 (PairO w) := (opn_struct Tryd.underlying25 [(1, TxsC w), (1, TxsC w), (1, IntO w), (1, IntO w), (1, FltO w)] (by kernel_rfl) (by kernel_rfl)
  ⟨by kernel_rfl, opn_TxsC w, by kernel_rfl, opn_TxsC w, by kernel_rfl, opn_IntO w, by kernel_rfl, opn_IntO w, by kernel_rfl, opn_FltO w, trivial⟩).mono (by
    rintro cs ⟨_, _, rfl, _, hts, _, _, rfl, _, hts2, _, _, rfl, _, ⟨ca, rfl, hca⟩, _, _, rfl, _, ⟨im, rfl, him⟩, _, _, rfl, _, ⟨f, rfl, hf⟩, h4⟩
    simp only [Cut] at h4
    subst h4
    obtain ⟨v, rfl, hv⟩ := txsV_of hts
    obtain ⟨v2, rfl, hv2⟩ := txsV_of hts2
    exact ⟨v, v2, ca, im, f, rfl, hv, hv2, hca, him, hf⟩)
end Go.Proofs.YtoeamecdkimgaaaDoor

/- Chapter 14: ChooseMore, ChooseHand: the plain laws. -/
set_option linter.unusedVariables false
set_option linter.unusedSimpArgs false
namespace Go.Proofs.YtoeamecdkimgaaaDoor
open Go.Sh
theorem way_err {pe pn se sn : Int} {L : List Tx} {cached image : Int} {f : Nat} : (wayR pe pn se sn L cached image f).2 = if rises se sn (zxs L) = true ∧ 0 ≤ cached ∧ cached ≤ L.length ∧ 0 ≤ image then 0 else 1 := by
  unfold wayR
  split
  · split
    · rfl
    · split <;> rfl
  · rfl
theorem more_law {pe pn se sn : Int} {L : List Tx} {ca im ca' im' : Int} {f f' : Nat} {c : Int × Int × Int × Bool} (hc : wayR pe pn se sn L ca im f = (c, 0)) (h4 : c.1 ≠ 4) (hf : f < 18446744073709551616) (hge : (dd.order f (wd false 0) == some .gt || dd.order f (wd false 0) == some .eq) = true)
    (h1 : ca ≤ ca') (h2 : ca' ≤ L.length) (h3 : im ≤ im') (h5 : im' ≤ 9223372036854775807) (hF : f' = if (dd.order f big == some .gt) then f else ((dd.mul two f).bind fun m => dd.add m one).getD 0) :
    ∃ near, wayR pe pn se sn L ca' im' f' = ((c.1, c.2.1, c.2.2.1, near), 0) ∧ (c.2.2.2 = true → near = true) := by
  have he := way_err (pe := pe) (pn := pn) (se := se) (sn := sn) (L := L) (cached := ca) (image := im) (f := f)
  rw [hc] at he
  by_cases hg : rises se sn (zxs L) = true ∧ 0 ≤ ca ∧ ca ≤ L.length ∧ 0 ≤ im
  case neg => rw [if_neg hg] at he; exact absurd (show (0 : Int) = 1 from he) (by decide)
  obtain ⟨g1, g2, g3, g4⟩ := hg
  unfold wayR at hc ⊢
  rw [if_pos ⟨g1, g2, g3, g4⟩] at hc
  rw [if_pos ⟨g1, by omega, h2, by omega⟩]
  by_cases hb : ls pe pn se sn
  · rw [if_pos hb] at hc
    exact absurd (congrArg (fun x => x.1.1) hc).symm h4
  rw [if_neg hb] at hc ⊢
  by_cases hn : ¬ ((L.length : Int) - cntN pe pn (zxs L) ≤ ca) ∧ under (szTs (L.drop (cntN pe pn (zxs L)))) im f = false
  · rw [if_pos hn] at hc
    exact absurd (congrArg (fun x => x.1.1) hc).symm h4
  rw [if_neg hn] at hc
  have hn' : ¬ (¬ ((L.length : Int) - cntN pe pn (zxs L) ≤ ca') ∧ under (szTs (L.drop (cntN pe pn (zxs L)))) im' f' = false) := by
    rintro ⟨k1, k2⟩
    refine hn ⟨by omega, ?_⟩
    cases hu : under (szTs (L.drop (cntN pe pn (zxs L)))) im f with
    | false => rfl
    | true =>
      have hi : im = ((im.toNat : Nat) : Int) := by omega
      have hi' : im' = ((im'.toNat : Nat) : Int) := by omega
      rw [hi] at hu
      rw [hi', under_more (i := im.toNat) (i' := im'.toNat) (by omega) (by omega) hf hge hF hu] at k2
      exact k2
  rw [if_neg hn']
  have hc : _ = c := congrArg Prod.fst hc
  subst hc
  refine ⟨_, rfl, fun h => ?_⟩
  have := of_decide_eq_true h
  exact decide_eq_true (by omega)
theorem lacks_cnt {zs : List (Int × Int)} {se sn pe pn : Int} (hr : rises se sn zs = true) (hb : ¬ ls pe pn se sn) : ls pe pn (frm se sn zs zs.length).1 (frm se sn zs zs.length).2 ↔ cntN pe pn zs < zs.length := by
  have hle := cntN_le pe pn zs
  cases hz : zs.length with
  | zero =>
    rw [frm_0]
    exact ⟨fun h => absurd h hb, fun h => by omega⟩
  | succ k =>
    rw [frm_succ (by omega)]
    constructor
    · intro h
      by_cases hlt : cntN pe pn zs < k + 1
      · exact hlt
      · exact absurd h (cntN_lt zs pe pn k (by omega) (by omega))
    · intro h
      by_cases hl : ls pe pn zs[k].1 zs[k].2
      · exact hl
      · exfalso
        have : cntN pe pn zs = zs.length := cntN_of zs pe pn zs.length (Nat.le_refl _) (fun i hi _ hc => by
          rcases Nat.eq_or_lt_of_le (show i ≤ k by omega) with rfl | h2
          · exact hl hc
          · exact hl (ls_trans hc (rises_lt hr i k (by omega) h2))) (fun hi => by omega)
        omega
theorem ls_last {zs : List (Int × Int)} {se sn : Int} (hr : rises se sn zs = true) : (frm se sn zs zs.length = (se, sn)) ∨ ls se sn (frm se sn zs zs.length).1 (frm se sn zs zs.length).2 := by
  cases hz : zs.length with
  | zero => exact .inl rfl
  | succ k =>
    rw [frm_succ (by omega)]
    exact .inr (rises_mem hr _ (List.getElem_mem _))
/-- All at hand: no copy for who is not behind; an image below zero is refused. -/
theorem hand_all {pe pn se sn : Int} {L : List Tx} {im : Int} {f : Nat} (hr : rises se sn (zxs L) = true) (him : 0 ≤ im) : ∃ c, wayR pe pn se sn L L.length im f = (c, 0) ∧ (c.1 = 4 ↔ ls pe pn se sn) := by
  have hle := cntN_le pe pn (zxs L)
  unfold wayR
  rw [if_pos ⟨hr, by omega, Int.le_refl _, him⟩]
  by_cases hb : ls pe pn se sn
  · rw [if_pos hb]; exact ⟨_, rfl, ⟨fun _ => hb, fun _ => rfl⟩⟩
  rw [if_neg hb, if_neg (fun h => h.1 (by omega))]
  refine ⟨_, rfl, ⟨fun h => ?_, fun h => absurd h hb⟩⟩
  exfalso
  dsimp only at h
  split at h
  · cases h
  · split at h <;> cases h
theorem hand_none {pe pn se sn : Int} {L : List Tx} {m : Nat} (hr : rises se sn (zxs L) = true) (h1 : 1 ≤ m) (h2 : m ≤ 9223372036854775808) : ∃ c, wayR pe pn se sn L 0 m negOne = (c, 0) ∧ (c.1 = 4 ↔ (ls pe pn se sn ∨ ls pe pn (frm se sn (zxs L) L.length).1 (frm se sn (zxs L) L.length).2)) := by
  have hll := zxs_len L
  have hle := cntN_le pe pn (zxs L)
  unfold wayR
  rw [if_pos ⟨hr, by omega, by omega, by omega⟩]
  by_cases hb : ls pe pn se sn
  · rw [if_pos hb]; exact ⟨_, rfl, ⟨fun _ => .inl hb, fun _ => rfl⟩⟩
  rw [if_neg hb]
  have hk := lacks_cnt hr hb
  rw [hll] at hk
  by_cases hn : cntN pe pn (zxs L) < L.length
  · rw [if_pos ⟨by omega, under_neg h1 h2⟩]
    exact ⟨_, rfl, ⟨fun _ => .inr (hk.2 hn), fun _ => rfl⟩⟩
  · rw [if_neg (fun h => h.1 (by omega))]
    refine ⟨_, rfl, ⟨fun h => ?_, fun h => absurd (h.resolve_left hb) (fun h => hn (hk.1 h))⟩⟩
    exfalso
    dsimp only at h
    rw [if_neg hn] at h
    split at h <;> cases h
end Go.Proofs.YtoeamecdkimgaaaDoor

/- Chapter 14: ChooseMore: the walk. -/
set_option linter.unusedVariables false
set_option linter.unusedSimpArgs false
namespace Go.Proofs.YtoeamecdkimgaaaDoor
open Go.Sh
theorem run_fl_gtr {P : Program} (t : TypeId) (a b : Nat) (w : World) : (binOp .gtr t (.float .f64 a) (.float .f64 b)).run P w = .ok (.bool (dd.order a b == some .gt)) w := by rw [binOp_float_cmp_gtr]; rfl
theorem run_fl_add {P : Program} (t : TypeId) (a b r : Nat) (h : dd.add a b = some r) (w : World) : (binOp .add t (.float .f64 a) (.float .f64 b)).run P w = .ok (.float .f64 r) w := run_float_arith w .add t .f64 a b r h
section
variable (Z : List PanicEntry → World → Prop) {o w : World} {R : List HProp}
set_option maxRecDepth 100000 in
theorem moreW {ax : Option Addr} {cx : Nat} {ts : List Tx} {pe pn se sn cached image ca' im' : Int} {f : Nat} (hpe : u32r pe) (hpn : u32r pn) (hse : u32r se) (hsn : u32r sn) (hcap : ts.length ≤ cx) (hw : WfT ts) (hx : RdT w (.slice ax ts.length cx) ts) (hN : Names w)
    (hf : f < 18446744073709551616) (him : im' ≤ 9223372036854775807) :
    CallV Tryd.prog Z 4 #[.agg (csC pe pn se sn (.slice ax ts.length cx) cached image f).toArray, .int .i64 ca', .int .i64 im'] w fun r w' => r = .bool true ∧ St w w' [old w] := by
  have hle := hx.1.2.1
  simp only [maxLen] at hle
  refine f4.calls ?_
  unfold f4.sh
  refine r_box _ _ (St.start w) fun gx w1 hS => ?_
  have hS : St w w1 (blk gx 54 (csC pe pn se sn (.slice ax ts.length cx) cached image f) :: [old w]) := hS
  (try simp only [fa_54_5, Nat.zero_add, fa_54_2, fa_54_4, fa_54_3])
  refine r_load one22 (hS.at m0 4 rfl) ?_
  refine (largeTs Z (fun w' hw' => hx.of_old hw' m1) hS).mono fun r w2 ⟨⟨b, hr⟩, hS⟩ => ?_
  subst hr
  refine cond_or (fun _ => ⟨by first | rfl | trivial, hS.drop⟩) fun _ => ?_
  refine (livesC Z hN m1 hS).mono fun r w3 ⟨hr, hS⟩ => ?_
  subst hr
  refine r_loadN ag54 (xs := csC pe pn se sn (.slice ax ts.length cx) cached image f) rfl (hS.cells_at m0 0 (whole_at _)) ?_
  refine (askC Z (ts := ts) hpe hpn hse hsn hcap hN m1 hw (fun w' hw' => hx.of_old hw' m1) hS).mono fun r w8 ⟨hr, hS⟩ => ?_
  subst hr
  obtain ⟨c, e, hce⟩ : ∃ c e, wayR pe pn se sn ts cached image f = (c, e) := ⟨_, _, rfl⟩
  rw [hce]
  unfold wayT
  (try simp only [o_not, Bool.not_true, o_pickF, guardW_ff, o_ext2_1, o_neq, o_ext2_0])
  refine r_alloc hS ze33 fun gc w9 hS => ?_
  refine r_storeN hS ag33 (xs := chC c) rfl (show 0 + 4 ≤ 4 from Nat.le_refl _) (chC_ones _) fun w10 hS => ?_
  rw [setL_all _ _ (by rfl)] at hS
  (try simp only [fa_33_0, Nat.add_zero, fa_33_1, Nat.zero_add, fa_33_2])
  by_cases he : e = 0
  case neg =>
    have hb : (e != 0) = true := by simp [he]
    (try simp only [hb, o_pickT, condT, guardW_tf])
    exact ⟨by first | rfl | trivial, hS.drop.drop⟩
  subst he
  (try simp only [bne_self_eq_false, o_pickF, guardW_ff])
  refine r_load one31 (hS.at m0 0 rfl) ?_
  refine r1 (run_eql_int _ _ _ _ _ _ _ _) ?_
  by_cases h4 : c.1 = 4
  · rw [show (c.1 == 4) = true by simp [h4]]
    (try simp only [o_pickT, condT, guardW_tf])
    exact ⟨by first | rfl | trivial, hS.drop.drop⟩
  rw [show (c.1 == 4) = false by simp [h4]]
  (try simp only [o_pickF, guardW_ff])
  refine r_load one23 (hS.at m1 7 rfl) ?_
  refine r1 (run_fl_geq _ _ _ _) ?_
  cases hge : (dd.order f 0 == some .gt || dd.order f 0 == some .eq) with
  | false =>
    (try simp only [o_not, Bool.not_false, condT])
    exact ⟨by first | rfl | trivial, hS.drop.drop⟩
  | true =>
  (try simp only [o_not, Bool.not_true, condF])
  refine r_load one3 (hS.at m1 5 rfl) ?_
  by_cases h1 : ca' < cached
  · (try simp only [o_lss, h1, decide_true, o_pickT, condT, guardW_tf])
    exact ⟨by first | rfl | trivial, hS.drop.drop⟩
  (try simp only [o_lss, h1, decide_false, o_pickF, guardW_ff])
  refine r_load one22 (hS.at m1 4 rfl) ?_
  (try simp only [ln_22_3, o_gtr])
  by_cases h2 : (ts.length : Int) < ca'
  · (try simp only [h2, decide_true, o_pickT, condT, guardW_tf])
    exact ⟨by first | rfl | trivial, hS.drop.drop⟩
  (try simp only [h2, decide_false, o_pickF, guardW_ff])
  refine r_load one3 (hS.at m1 6 rfl) ?_
  by_cases h3 : im' < image
  · (try simp only [o_lss, h3, decide_true, condT])
    exact ⟨by first | rfl | trivial, hS.drop.drop⟩
  (try simp only [o_lss, h3, decide_false, condF])
  refine r_loadN ag54 (xs := csC pe pn se sn (.slice ax ts.length cx) cached image f) rfl (hS.cells_at m1 0 (whole_at _)) ?_
  refine r_alloc hS ze54 fun gy w11 hS => ?_
  refine r_storeN hS ag54 (xs := csC pe pn se sn (.slice ax ts.length cx) cached image f) rfl (show 0 + 8 ≤ 8 from Nat.le_refl _) (csC_ones rfl) fun w12 hS => ?_
  rw [setL_all _ _ (by rfl)] at hS
  (try simp only [fa_54_5, Nat.zero_add, fa_54_4, fa_54_3])
  refine r_store hS one3 (show 5 < 8 by omega) rfl fun w13 hS => ?_
  skip
  refine r_store hS one3 (show 6 < 8 by omega) rfl fun w14 hS => ?_
  have hS : St w w14 (blk gy 54 (csC pe pn se sn (.slice ax ts.length cx) ca' im' f) :: blk gc 33 (chC c) :: blk gx 54 (csC pe pn se sn (.slice ax ts.length cx) cached image f) :: [old w]) := hS
  skip
  refine r_load one23 (hS.at m2 7 rfl) ?_
  obtain ⟨m, a, hm, ha, _, _⟩ := fac_more hf hge
  refine r1 (run_fl_mul _ _ _ _ hm _) (r1 (run_fl_add _ _ _ _ ha _) ?_)
  skip
  refine r_store hS one23 (show 7 < 8 by omega) rfl fun w15 hS => ?_
  have hS : St w w15 (blk gy 54 (csC pe pn se sn (.slice ax ts.length cx) ca' im' a) :: blk gc 33 (chC c) :: blk gx 54 (csC pe pn se sn (.slice ax ts.length cx) cached image f) :: [old w]) := hS
  intro j hj
  have HJ : ∀ (f' : Nat) (w' : World), f' = (if (dd.order f big == some .gt) then f else ((dd.mul two f).bind fun m => dd.add m one).getD 0) → St w w' (blk gy 54 (csC pe pn se sn (.slice ax ts.length cx) ca' im' f') :: blk gc 33 (chC c) :: blk gx 54 (csC pe pn se sn (.slice ax ts.length cx) cached image f) :: [old w]) → j w' := by
    intro f' w' hf' hS
    refine hj w' fun _ => ?_
    clear hj
    obtain ⟨near, hway, hnear⟩ := more_law (f' := f') (ca := cached) (im := image) (ca' := ca') (im' := im') hce h4 hf hge (by omega) (by omega) (by omega) him hf'
    refine r_loadN ag54 (xs := csC pe pn se sn (.slice ax ts.length cx) ca' im' f') rfl (hS.cells_at m0 0 (whole_at _)) ?_
    refine (askC Z (ts := ts) hpe hpn hse hsn hcap hN m3 hw (fun w' hw' => hx.of_old hw' m3) hS).mono fun r w16 ⟨hr, hS⟩ => ?_
    subst hr
    rw [hway]
    unfold wayT
    (try simp only [o_ext2_1, o_eql, beq_self_eq_true, o_pickT, guardW_true, o_ext2_0])
    refine r_alloc hS ze33 fun gd w17 hS => ?_
    refine r_storeN hS ag33 (xs := chC (c.1, c.2.1, c.2.2.1, near)) rfl (show 0 + 4 ≤ 4 from Nat.le_refl _) (chC_ones _) fun w18 hS => ?_
    rw [setL_all _ _ (by rfl)] at hS
    (try simp only [fa_33_1, Nat.zero_add, fa_33_2, fa_33_0, Nat.add_zero])
    refine r_load one31 (hS.at m0 0 rfl) ?_
    (try simp only [])
    refine r_load one31 (hS.at m2 0 rfl) ?_
    refine r1 (run_eql_int _ _ _ _ _ _ _ _) ?_
    have hself : ∀ x : Int, (x == x) = true := fun x => by simp
    rw [hself]
    (try simp only [o_pickT, guardW_true])
    refine r_loadN ag30 (xs := zx c.2.1 c.2.2.1) rfl (hS.cells_at m0 1 (ch_at (c.1, c.2.1, c.2.2.1, near))) ?_
    skip
    refine r_loadN ag30 (xs := zx c.2.1 c.2.2.1) rfl (hS.cells_at m2 1 (ch_at c)) ?_
    refine r1 (eqZx _ _ _ _ _) ?_
    rw [hself, hself, Bool.and_true]
    (try simp only [o_pickT, guardW_true])
    refine r_load one4 (hS.at m0 3 rfl) ?_
    cases near with
    | true =>
      (try simp only [o_pickT, guardW_tf])
      exact ⟨by first | rfl | trivial, hS.drop.drop.drop.drop⟩
    | false =>
      (try simp only [o_pickF, guardW_ff])
      refine r_load one4 (hS.at m2 3 rfl) ?_
      have hcn : c.2.2.2 = false := by
        cases h : c.2.2.2 with
        | false => rfl
        | true => exact absurd (hnear h) (by decide)
      rw [hcn]
      (try simp only [o_not, Bool.not_false])
      exact ⟨by first | rfl | trivial, hS.drop.drop.drop.drop⟩
  clear hj
  skip
  refine r_load one23 (hS.at m2 7 rfl) ?_
  refine r1 (run_fl_gtr _ _ _ _) ?_
  have hb : (9094988921128908188 : Nat) = big := rfl
  rw [hb]
  cases hbig : (dd.order f big == some .gt) with
  | true =>
    (try simp only [condT])
    refine r_load one23 (hS.at m2 7 rfl) ?_
    skip
    refine r_store hS one23 (show 7 < 8 by omega) rfl fun w15 hS => ?_
    exact HJ f _ (by rw [hbig]; rfl) hS
  | false =>
    (try simp only [condF])
    exact HJ a _ (by rw [hbig, hm]; simp [ha]) hS
end
end Go.Proofs.YtoeamecdkimgaaaDoor

/- Chapter 14: ChooseHand: the walk. -/
set_option linter.unusedVariables false
set_option linter.unusedSimpArgs false
namespace Go.Proofs.YtoeamecdkimgaaaDoor
open Go.Sh
theorem tm_bound (x : Int) : -999 ≤ x.tmod 1000 ∧ x.tmod 1000 ≤ 999 := by
  have h1 := Int.tmod_lt_of_pos x (show (0 : Int) < 1000 by decide)
  have h2 := Int.lt_tmod_of_pos x (show (0 : Int) < 1000 by decide)
  omega
theorem mul_self_nonneg' (t : Int) : 0 ≤ t * t := by
  rcases Int.le_total 0 t with h | h
  · exact Int.mul_nonneg h h
  · have := Int.mul_nonneg (show 0 ≤ -t by omega) (show 0 ≤ -t by omega)
    rwa [Int.neg_mul_neg] at this
theorem tm_sq (x : Int) : 0 ≤ x.tmod 1000 * x.tmod 1000 ∧ x.tmod 1000 * x.tmod 1000 ≤ 998001 := by
  obtain ⟨h1, h2⟩ := tm_bound x
  generalize x.tmod 1000 = t at *
  constructor
  · exact mul_self_nonneg' t
  · have := mul_self_nonneg' t
    have h : t * t ≤ 999 * 999 := by
      rcases Int.le_total 0 t with h0 | h0
      · exact Int.mul_le_mul h2 h2 h0 (by decide)
      · have h3 : -t ≤ 999 := by omega
        have := Int.mul_le_mul h3 h3 (by omega) (by decide)
        rwa [Int.neg_mul_neg] at this
    omega
theorem dec_beq4 (x y : Int) : decide (x = y) = (x == y) := by by_cases h : x = y <;> simp [h]
theorem frm_u32' {ts : List Tx} {se sn : Int} (hse : u32r se) (hsn : u32r sn) (hw : WfT ts) (k : Nat) : u32r (frm se sn (zxs ts) k).1 ∧ u32r (frm se sn (zxs ts) k).2 := by
  unfold frm
  split
  · exact ⟨hse, hsn⟩
  · rw [List.getD_eq_getElem?_getD]
    cases h : (zxs ts)[k - 1]? with
    | none => exact ⟨hse, hsn⟩
    | some x =>
      obtain ⟨hk, e⟩ := List.getElem?_eq_some_iff.1 h
      rw [zxs_at] at e
      have hm : ts[k - 1]'(by rwa [zxs_len] at hk) ∈ ts := List.getElem_mem _
      rw [← e]
      exact ⟨hw.es _ hm, hw.ns _ hm⟩
section
variable (Z : List PanicEntry → World → Prop) {o w : World} {R : List HProp}
set_option maxRecDepth 100000 in
theorem handW {ax : Option Addr} {cx : Nat} {ts : List Tx} {pe pn se sn cached image : Int} {f : Nat} (hpe : u32r pe) (hpn : u32r pn) (hse : u32r se) (hsn : u32r sn) (hcap : ts.length ≤ cx) (hw : WfT ts) (hx : RdT w (.slice ax ts.length cx) ts) (hN : Names w) :
    CallV Tryd.prog Z 5 #[.agg (csC pe pn se sn (.slice ax ts.length cx) cached image f).toArray] w fun r w' => r = .bool true ∧ St w w' [old w] := by
  have hle := hx.1.2.1
  simp only [maxLen] at hle
  refine f5.calls ?_
  unfold f5.sh
  have zp : ∀ v ca im f, ∀ (j : Nat) (u : Value), (zx pe pn)[j]? = some u → (csC pe pn se sn v ca im f)[0 + j]? = some u := fun v ca im f j u hu => by rw [Nat.zero_add, csC, List.getElem?_append_left (List.getElem?_eq_some_iff.1 hu).1]; exact hu
  have zs : ∀ v ca im f, ∀ (j : Nat) (u : Value), (zx se sn)[j]? = some u → (csC pe pn se sn v ca im f)[2 + j]? = some u := fun v ca im f j u hu => by rw [csC, List.getElem?_append_right (by simp [zx])]; rw [show 2 + j - (zx pe pn).length = j by simp [zx]]; rw [List.getElem?_append_left (List.getElem?_eq_some_iff.1 hu).1]; exact hu
  refine r_box _ _ (St.start w) fun gx w1 hS => ?_
  have hS : St w w1 (blk gx 54 (csC pe pn se sn (.slice ax ts.length cx) cached image f) :: [old w]) := hS
  (try simp only [fa_54_1, Nat.zero_add, fa_54_2, fa_54_2p, fa_54_1p, fa_54_0p, Nat.add_zero, fa_54_0, fa_54_5, fa_54_4, fa_54_3])
  refine r_load one22 (hS.at m0 4 rfl) ?_
  refine (largeTs Z (fun w' hw' => hx.of_old hw' m1) hS).mono fun r w2 ⟨⟨b, hr⟩, hS⟩ => ?_
  subst hr
  refine cond_or (fun _ => ⟨by first | rfl | trivial, hS.drop⟩) fun _ => ?_
  refine (livesC Z hN m1 hS).mono fun r w3 ⟨hr, hS⟩ => ?_
  subst hr
  refine r_load one3 (hS.at m0 6 rfl) ?_
  (try simp only [o_pickT, guardW_true, o_not, Bool.not_true, o_pickF, guardW_ff])
  refine r_load one22 (hS.at m0 4 rfl) ?_
  (try simp only [ln_22_3])
  refine r_store hS one3 (show 5 < 8 by omega) rfl fun w13 hS => ?_
  have hS : St w w13 (blk gx 54 (csC pe pn se sn (.slice ax ts.length cx) ts.length image f) :: [old w]) := hS
  refine r_loadN ag54 (xs := csC pe pn se sn (.slice ax ts.length cx) ts.length image f) rfl (hS.cells_at m0 0 (whole_at _)) ?_
  refine (askC Z (ts := ts) hpe hpn hse hsn hcap hN m1 hw (fun w' hw' => hx.of_old hw' m1) hS).mono fun r w8 ⟨hr, hS⟩ => ?_
  subst hr
  obtain ⟨c, e, hce⟩ : ∃ c e, wayR pe pn se sn ts ts.length image f = (c, e) := ⟨_, _, rfl⟩
  rw [hce]
  unfold wayT
  (try simp only [o_ext2_1, o_eql, o_ext2_0])
  refine r_alloc hS ze33 fun gc w9 hS => ?_
  refine r_storeN hS ag33 (xs := chC c) rfl (show 0 + 4 ≤ 4 from Nat.le_refl _) (chC_ones _) fun w10 hS => ?_
  rw [setL_all _ _ (by rfl)] at hS
  (try simp only [fa_33_0, Nat.add_zero])
  refine r_store (hS.pick 1) one3 (show 5 < 8 by omega) rfl fun w14 hS => ?_
  have hS : St w w14 (blk gx 54 (csC pe pn se sn (.slice ax ts.length cx) 0 image f) :: blk gc 33 (chC c) :: [old w]) := hS
  skip
  refine r_load one3 (hS.at m0 6 rfl) ?_
  refine r1 (run_rem _ _ _ _ _ _ (by decide)) ?_
  skip
  refine r_load one3 (hS.at m0 6 rfl) ?_
  refine r1 (run_rem _ _ _ _ _ _ (by decide)) ?_
  (try simp only [o_mul, o_add])
  obtain ⟨q1, q2⟩ := tm_sq image
  rw [wr_i64 (x := image.tmod 1000 * image.tmod 1000) (by omega) (by omega), wr_i64 (x := 1 + image.tmod 1000 * image.tmod 1000) (by omega) (by omega)]
  obtain ⟨m, hm, hm1, hm2⟩ : ∃ m : Nat, 1 + image.tmod 1000 * image.tmod 1000 = (m : Int) ∧ 1 ≤ m ∧ m ≤ 998002 := ⟨(1 + image.tmod 1000 * image.tmod 1000).toNat, by omega, by omega, by omega⟩
  rw [hm]
  refine r_store hS one3 (show 6 < 8 by omega) rfl fun w15 hS => ?_
  skip
  refine r_store hS one23 (show 7 < 8 by omega) rfl fun w16 hS => ?_
  have hS : St w w16 (blk gx 54 (csC pe pn se sn (.slice ax ts.length cx) 0 m negOne) :: blk gc 33 (chC c) :: [old w]) := hS
  refine r_loadN ag54 (xs := csC pe pn se sn (.slice ax ts.length cx) 0 m negOne) rfl (hS.cells_at m0 0 (whole_at _)) ?_
  refine (askC Z (ts := ts) hpe hpn hse hsn hcap hN m2 hw (fun w' hw' => hx.of_old hw' m2) hS).mono fun r w17 ⟨hr, hS⟩ => ?_
  subst hr
  obtain ⟨d, e2, hde⟩ : ∃ c e, wayR pe pn se sn ts 0 m negOne = (c, e) := ⟨_, _, rfl⟩
  rw [hde]
  unfold wayT
  (try simp only [o_ext2_1, o_eql, o_ext2_0])
  refine r_alloc hS ze33 fun gd w18 hS => ?_
  refine r_storeN hS ag33 (xs := chC d) rfl (show 0 + 4 ≤ 4 from Nat.le_refl _) (chC_ones _) fun w19 hS => ?_
  rw [setL_all _ _ (by rfl)] at hS
  (try simp only [fa_33_0, Nat.add_zero])
  refine r_loadN ag30 (xs := zx se sn) rfl (hS.cells_at m1 2 (zs _ _ _ _)) ?_
  skip
  refine r_load one22 (hS.at m1 4 rfl) ?_
  refine (lawRises14 Z hsn hw.ns (fun w' hw' => hx.of_old hw' m3) hS).mono fun r w20 ⟨hr, hS⟩ => ?_
  subst hr
  have he := way_err (pe := pe) (pn := pn) (se := se) (sn := sn) (L := ts) (cached := ts.length) (image := image) (f := f)
  have he2 := way_err (pe := pe) (pn := pn) (se := se) (sn := sn) (L := ts) (cached := 0) (image := m) (f := negOne)
  rw [hce] at he
  rw [hde] at he2
  cases hrs : rises se sn (zxs ts) with
  | false =>
    rw [if_neg (fun h => by rw [hrs] at h; cases h.1)] at he he2
    have he : e = 1 := he
    have he2 : e2 = 1 := he2
    subst he he2
    (try simp only [beq_self_eq_true, o_pickT, guardW_true, o_eql, Int.reduceBEq, o_pickF, guardW_ft, guardW_u, guardW_ff, o_neq, Int.reduceBNe, o_geq, cond_decide, o_not, Bool.not_false, condT])
    exact ⟨by first | rfl | trivial, hS.drop.drop.drop⟩
  | true =>
  obtain ⟨d', hd1, hd4⟩ := hand_none (pe := pe) (pn := pn) (L := ts) hrs hm1 (show m ≤ 9223372036854775808 by omega)
  rw [hde] at hd1
  injection hd1 with hd1 hd2
  subst hd1 hd2
  (try simp only [beq_self_eq_true, o_pickT, guardW_true, o_not, Bool.not_true, condF])
  refine r_loadN ag30 (xs := zx pe pn) rfl (hS.cells_at m1 0 (zp _ _ _ _)) ?_
  skip
  refine r_loadN ag30 (xs := zx se sn) rfl (hS.cells_at m1 2 (zs _ _ _ _)) ?_
  refine (refCompare Z hS).mono fun r w21 ⟨hr, hS⟩ => ?_
  subst hr
  (try simp only [o_lss])
  rw [ls_cmp hpn hsn]
  refine ⟨fun w22 hd => ?_⟩
  have hS := hS.drew hd
  skip
  refine rr_loadN ag30 (xs := zx pe pn) rfl (hS.cells_at m1 0 (zp _ _ _ _)) ?_
  skip
  refine rr_loadN ag30 (xs := zx se sn) rfl (hS.cells_at m1 2 (zs _ _ _ _)) ?_
  skip
  refine rr_load one22 (hS.at m1 4 rfl) ?_
  refine (lastC Z (se := se) (sn := sn) (fun w' hw' => hx.of_old hw' m3) hS).mono fun r w23 ⟨hr, hS⟩ => ?_
  have hul := frm_u32' hse hsn hw ts.length
  obtain ⟨le, ln, hl⟩ : ∃ le ln, frm se sn (zxs ts) ts.length = (le, ln) := ⟨_, _, rfl⟩
  rw [hl] at hr hd4 hul
  subst hr
  refine rs_loadN ag30 (xs := zx pe pn) rfl (hS.cells_at m1 0 (zp _ _ _ _)) ?_
  refine (refCompare Z hS).mono fun r w24 ⟨hr, hS⟩ => ?_
  subst hr
  (try simp only [o_lssp])
  rw [ls_cmp hpn hul.2]
  have hd4' : (d.1 == 4) = (decide (ls pe pn se sn) || decide (ls pe pn le ln)) := by
    rw [← Bool.decide_or, ← dec_beq4]
    exact decide_eq_decide.2 hd4
  by_cases hi : 0 ≤ image
  · obtain ⟨c', hc1, hc4⟩ := hand_all (pe := pe) (pn := pn) (f := f) hrs hi
    rw [hce] at hc1
    injection hc1 with hc1 hc2
    subst hc1 hc2
    have hc4' : (c.1 == 4) = decide (ls pe pn se sn) := by
      rw [← dec_beq4]
      exact decide_eq_decide.2 hc4
    (try simp only [beq_self_eq_true, o_pickT, guardW_true])
    refine r_load one31 (hS.at m2 0 rfl) ?_
    refine r1 (run_eql_int _ _ _ _ _ _ _ _) ?_
    rw [hc4']
    have hbb : ∀ b : Bool, (b != b) = false := fun b => by cases b <;> rfl
    (try simp only [neqb_4, hbb, o_pickF, guardW_ff, o_neq, bne_self_eq_false, condF, guardW_ft])
    refine r_load one31 (hS.at m0 0 rfl) ?_
    refine r1 (run_eql_int _ _ _ _ _ _ _ _) ?_
    rw [hd4']
    have hbe : ∀ b : Bool, (b == b) = true := fun b => by cases b <;> rfl
    cases decide (ls pe pn se sn) <;> cases decide (ls pe pn le ln)
    all_goals (try simp only [o_pickF, guardW_ff, eqlb_4, o_pickT, guardW_tf])
    all_goals exact ⟨by first | rfl | trivial, hS.drop.drop.drop⟩
  · rw [if_neg (fun h => hi h.2.2.2)] at he
    have he : e = 1 := he
    subst he
    (try simp only [Int.reduceBEq, o_pickF, guardW_ff, o_neq, Int.reduceBNe, o_pickT, guardW_true, o_geq, hi, decide_false, condF, guardW_ft])
    refine r_load one31 (hS.at m0 0 rfl) ?_
    refine r1 (run_eql_int _ _ _ _ _ _ _ _) ?_
    rw [hd4']
    have hbe : ∀ b : Bool, (b == b) = true := fun b => by cases b <;> rfl
    cases decide (ls pe pn se sn) <;> cases decide (ls pe pn le ln)
    all_goals (try simp only [o_pickF, guardW_ff, eqlb_4, o_pickT, guardW_tf])
    all_goals exact ⟨by first | rfl | trivial, hS.drop.drop.drop⟩
end
end Go.Proofs.YtoeamecdkimgaaaDoor
