/- Chapter 14: Under, Size, first. -/
import Derived.Test.YtoeamecdkimgaaaDoorT38
import Derived.Test.YtoeamecdkimgaaaDoorF1
set_option linter.unusedVariables false
set_option linter.unusedSimpArgs false
namespace Go.Proofs.YtoeamecdkimgaaaDoor
open Go.Sh
def flI (n : Int) : Nat := floatOfInt .f64 n
/-- So many bytes are within that many times others. -/
def under (b i : Int) (f : Nat) : Bool := match dd.mul f (flI i) with
  | some p => (dd.order (flI b) p == some .lt || dd.order (flI b) p == some .eq)
  | none => false
theorem order_nan {b : Nat} {s : Bool} {q : Nat} (h : dd.read b = .nan s q) (a : Nat) : dd.order a b = none := by
  unfold Ieee.Format.order
  rw [h]
  cases dd.read a <;> rfl
theorem nan_cut (x y t : Nat) : ∀ a, dd.order a (Question.cut (.nanBits .f64 x y) t) = none := by
  have e : Question.cut (.nanBits .f64 x y) t = wd (t % 2 == 1) (9218868437227405313 + t / 2 % 4503599627370495) := by
    rw [wd_eq]
    have h2 : t % 2 = 0 ∨ t % 2 = 1 := by omega
    simp only [Question.cut]
    rcases h2 with h2 | h2 <;> simp [h2] <;> omega
  rw [e]
  have hr := read_wd (t % 2 == 1) (9218868437227405313 + t / 2 % 4503599627370495) (by omega)
  rw [if_neg (by omega), if_neg (by omega), if_neg (by omega)] at hr
  exact order_nan hr
theorem run_fl_mul_nan {P : Program} (ty : TypeId) (a b : Nat) (h : dd.mul a b = none) (w : World) : ∃ r, (∀ x, dd.order x r = none) ∧ (binOp .mul ty (.float .f64 a) (.float .f64 b)).run P w = .ok (.float .f64 r) w.drew := by
  refine ⟨_, nan_cut a b (w.tape w.drawn (.nanBits .f64 a b)), ?_⟩
  have h' : FloatKind.f64.format.mul a b = none := h
  simp [binOp, Op.floatArith, h', Question.forced]
/-- The bytes of a transaction, as Size counts them. -/
def szT (t : Tx) : Nat := if chkT t then (txB t).length else 0
def szTs (ts : List Tx) : Nat := (ts.map szT).sum
theorem szT_le (t : Tx) : szT t ≤ 4096 := by
  unfold szT
  split
  · rename_i h; exact txB_len h
  · omega
theorem szTs_take (ts : List Tx) (i : Nat) (h : i < ts.length) : szTs (ts.take (i + 1)) = szTs (ts.take i) + szT ts[i] := by
  unfold szTs
  rw [List.take_succ_eq_append_getElem h, List.map_append, List.sum_append]
  simp
theorem szTs_le (ts : List Tx) : szTs ts ≤ ts.length * 4096 := by
  induction ts with
  | nil => simp [szTs]
  | cons t l ih =>
    have := szT_le t
    simp only [szTs, List.map_cons, List.sum_cons, List.length_cons] at *
    omega
section
variable (Z : List PanicEntry → World → Prop) {o w : World} {R : List HProp}
theorem underC (b i : Int) (f : Nat) (h : St o w R) : CallV Tryd.prog Z 21 #[.int .i64 b, .int .i64 i, .float .f64 f] w fun r w' => r = .bool (under b i f) ∧ St o w' R := by
  refine f21.calls ?_
  unfold f21.sh
  refine r1 (run_convert_int_float _ _ _ .i64 .f64 i (by rw [Tryd.underlying3]; rfl) Tryd.underlying23) ?_
  have ef : floatOfInt .f64 i = flI i := rfl
  have eb : floatOfInt .f64 b = flI b := rfl
  rw [ef]
  unfold under
  cases hm : dd.mul f (flI i) with
  | some p =>
    refine r1 (run_fl_mul _ _ _ _ hm _) ?_
    refine r1 (run_convert_int_float _ _ _ .i64 .f64 b (by rw [Tryd.underlying3]; rfl) Tryd.underlying23) ?_
    refine r1 (run_fl_leq _ _ _ _) ?_
    exact ⟨rfl, h⟩
  | none =>
    obtain ⟨r, hr, he⟩ := run_fl_mul_nan (P := Tryd.prog) 23 f (flI i) hm w
    refine r1 he ?_
    refine r1 (run_convert_int_float _ _ _ .i64 .f64 b (by rw [Tryd.underlying3]; rfl) Tryd.underlying23) ?_
    refine r1 (run_fl_leq _ _ _ _) ?_
    rw [hr]
    exact ⟨rfl, h.drew (drawn_drew w)⟩
theorem refUnder (b i : Int) (f : Nat) (h : St o w R) : CallV Tryd.prog Z 22 #[.int .i64 b, .int .i64 i, .float .f64 f] w fun r w' => r = .bool (under b i f) ∧ St o w' R := by
  refine f22.calls ?_
  unfold f22.sh
  refine r1 (run_convert_int_float _ _ _ .i64 .f64 i (by rw [Tryd.underlying3]; rfl) Tryd.underlying23) ?_
  have ef : floatOfInt .f64 i = flI i := rfl
  have eb : floatOfInt .f64 b = flI b := rfl
  rw [ef]
  unfold under
  cases hm : dd.mul f (flI i) with
  | some p =>
    refine r1 (run_fl_mul _ _ _ _ hm _) ?_
    refine r1 (run_convert_int_float _ _ _ .i64 .f64 b (by rw [Tryd.underlying3]; rfl) Tryd.underlying23) ?_
    refine r1 (run_fl_leq _ _ _ _) ?_
    exact ⟨rfl, h⟩
  | none =>
    obtain ⟨r, hr, he⟩ := run_fl_mul_nan (P := Tryd.prog) 23 f (flI i) hm w
    refine r1 he ?_
    refine r1 (run_convert_int_float _ _ _ .i64 .f64 b (by rw [Tryd.underlying3]; rfl) Tryd.underlying23) ?_
    refine r1 (run_fl_leq _ _ _ _) ?_
    rw [hr]
    exact ⟨rfl, h.drew (drawn_drew w)⟩
theorem sizeC {v : Value} {ts : List Tx} (hN : Names o) (ho : old o ∈ R) (hw : WfT ts) (hx : Ent o R fun w => RdT w v ts) (h : St o w R) :
    CallV Tryd.prog Z 19 #[v] w fun r w' => r = .int .i64 (szTs ts : Int) ∧ St o w' R := by
  obtain ⟨a, c, rfl⟩ := (hx w h).1.form
  have hle := hw.1
  refine f19.calls ?_
  unfold f19.sh
  (try simp only [ln_22_3])
  refine ⟨fun m x y w' => ∃ i : Nat, x = .int .i64 (szTs (ts.take i) : Int) ∧ y = .int .i64 i ∧ m + i = ts.length ∧ St o w' R, ⟨ts.length, 0, rfl, rfl, rfl, h⟩, ?_⟩
  clear h
  rintro m _ _ w1 ⟨i, rfl, rfl, hi, hS⟩ _
  by_cases hlt : (i : Int) < (ts.length : Int)
  · have hil : i < ts.length := by omega
    have hmem : ts[i] ∈ ts := List.getElem_mem hil
    obtain ⟨b, p, cs, hp, _, hcv, hc⟩ := (rowR_rd (c := Tx.cells) (fun x => rfl) (hx w1 hS).1 rfl).ix el22 .i64 i hil
    subst hcv
    have hsz := szTs_take ts i hil
    have hb := szTs_le (ts.take (i + 1))
    rw [List.length_take] at hb
    (try simp only [o_add, o_lss, hlt, decide_true, condT])
    intro j hj
    have HJ : ∀ w' : World, St o w' R → j (.int .i64 (szTs (ts.take (i + 1)) : Int)) w' := by
      intro w' hS
      refine hj _ w' fun _ => ?_
      skip
      rw [wr_i64 (x := (i : Int) + 1) (by omega) (by omega)]
      exact ⟨m - 1, by omega, i + 1, rfl, rfl, by omega, hS⟩
    clear hj
    refine r1 (hp _) (r_loadN ag49 (xs := ts[i].cells) rfl (fun j u hu => by rw [add_addr]; exact hc j u hu) ?_)
    have hq := txC_ones ((hx w1 hS).2 _ hmem).ones
    refine r_alloc hS ze49 fun ge w5 hS => ?_
    refine r_storeN hS ag49 (xs := ts[i].cells) rfl (show 0 + 16 ≤ 16 from Nat.le_refl _) hq fun w6 hS => ?_
    rw [setL_all _ _ (by rfl)] at hS
    refine r_loadN ag49 (xs := ts[i].cells) rfl (hS.cells_at m0 0 (whole_at _)) ?_
    refine (writeC Z ts[i] hN (List.mem_cons_of_mem _ ho) (fun w hw => (hx w hw.drop).2 _ hmem) hS).mono fun r w7 hr => ?_
    cases hc : chkT ts[i] with
    | true =>
      rw [hc, if_pos rfl] at hr
      obtain ⟨u, rfl, hS⟩ := hr
      have hz : szT ts[i] = (txB ts[i]).length := by unfold szT; rw [hc]; rfl
      obtain ⟨ua, uc, rfl⟩ := hS.own_form
      (try simp only [o_ext2_1, o_eql, beq_self_eq_true, condT, o_ext2_0, ln_42_3, o_add])
      rw [wr_i64 (x := (szTs (ts.take i) : Int) + ((txB ts[i]).length : Int)) (by omega) (by omega)]
      have e : ((szTs (ts.take i) : Int) + ((txB ts[i]).length : Int)) = ((szTs (ts.take (i + 1)) : Nat) : Int) := by omega
      rw [e]
      exact HJ _ hS.drop.drop
    | false =>
      rw [hc, if_neg (by simp)] at hr
      obtain ⟨rfl, hS⟩ := hr
      have hz : szT ts[i] = 0 := by unfold szT; rw [hc]; rfl
      (try simp only [o_ext2_1, o_eql, Int.reduceBEq, condF, o_ext2_0])
      have e : szTs (ts.take i) = szTs (ts.take (i + 1)) := by omega
      rw [e]
      exact HJ _ hS.drop
  · obtain rfl : i = ts.length := by omega
    (try simp only [o_add, o_lss, hlt, decide_false, condF])
    rw [List.take_length]
    exact ⟨by first | rfl | trivial, hS⟩
theorem refSize {v : Value} {ts : List Tx} (hw : WfT ts) (hx : Ent o R fun w => RdT w v ts) (h : St o w R) :
    CallV Tryd.prog Z 20 #[v] w fun r w' => r = .int .i64 (szTs ts : Int) ∧ St o w' R := by
  obtain ⟨a, c, rfl⟩ := (hx w h).1.form
  have hle := hw.1
  refine f20.calls ?_
  unfold f20.sh
  (try simp only [ln_22_3])
  refine ⟨fun m x y w' => ∃ i : Nat, x = .int .i64 (szTs (ts.take i) : Int) ∧ y = .int .i64 i ∧ m + i = ts.length ∧ St o w' R, ⟨ts.length, 0, rfl, rfl, rfl, h⟩, ?_⟩
  clear h
  rintro m _ _ w1 ⟨i, rfl, rfl, hi, hS⟩ _
  by_cases hlt : (i : Int) < (ts.length : Int)
  · have hil : i < ts.length := by omega
    have hmem : ts[i] ∈ ts := List.getElem_mem hil
    obtain ⟨b, p, cs, hp, _, hcv, hc⟩ := (rowR_rd (c := Tx.cells) (fun x => rfl) (hx w1 hS).1 rfl).ix el22 .i64 i hil
    subst hcv
    have hsz := szTs_take ts i hil
    have hb := szTs_le (ts.take (i + 1))
    rw [List.length_take] at hb
    (try simp only [o_add, o_lss, hlt, decide_true, condT])
    intro j hj
    have HJ : ∀ w' : World, St o w' R → j (.int .i64 (szTs (ts.take (i + 1)) : Int)) w' := by
      intro w' hS
      refine hj _ w' fun _ => ?_
      skip
      rw [wr_i64 (x := (i : Int) + 1) (by omega) (by omega)]
      exact ⟨m - 1, by omega, i + 1, rfl, rfl, by omega, hS⟩
    clear hj
    refine r1 (hp _) (r_loadN ag49 (xs := ts[i].cells) rfl (fun j u hu => by rw [add_addr]; exact hc j u hu) ?_)
    refine (refWrite Z ts[i] (hw.2 _ hmem).1 (hw.2 _ hmem).2 (fun w hw => (hx w hw).2 _ hmem) hS).mono fun r w7 hr => ?_
    cases hc : chkT ts[i] with
    | true =>
      rw [hc, if_pos rfl] at hr
      obtain ⟨u, rfl, hS⟩ := hr
      have hz : szT ts[i] = (txB ts[i]).length := by unfold szT; rw [hc]; rfl
      obtain ⟨ua, uc, rfl⟩ := hS.own_form
      (try simp only [o_ext2_1, o_eql, beq_self_eq_true, condT, o_ext2_0, ln_42_3, o_add])
      rw [wr_i64 (x := (szTs (ts.take i) : Int) + ((txB ts[i]).length : Int)) (by omega) (by omega)]
      have e : ((szTs (ts.take i) : Int) + ((txB ts[i]).length : Int)) = ((szTs (ts.take (i + 1)) : Nat) : Int) := by omega
      rw [e]
      exact HJ _ hS.drop
    | false =>
      rw [hc, if_neg (by simp)] at hr
      obtain ⟨rfl, hS⟩ := hr
      have hz : szT ts[i] = 0 := by unfold szT; rw [hc]; rfl
      (try simp only [o_ext2_1, o_eql, Int.reduceBEq, condF, o_ext2_0])
      have e : szTs (ts.take i) = szTs (ts.take (i + 1)) := by omega
      rw [e]
      exact HJ _ hS
  · obtain rfl : i = ts.length := by omega
    (try simp only [o_add, o_lss, hlt, decide_false, condF])
    rw [List.take_length]
    exact ⟨by first | rfl | trivial, hS⟩
end
end Go.Proofs.YtoeamecdkimgaaaDoor

/- Chapter 14: Way. -/
set_option linter.unusedVariables false
set_option linter.unusedSimpArgs false
namespace Go.Proofs.YtoeamecdkimgaaaDoor
open Go.Sh
theorem cmp_le0 {e n e' n' : Int} (hn : u32r n) (hn' : u32r n') : (cmpZ e n e' n' ≤ 0) ↔ ¬ ls e' n' e n := by
  have h := (cmpZ_pack (e := e) (e' := e') hn hn').2.2.1
  have h2 := ls_cmp (e := e') (n := n') (e' := e) (n' := n) hn' hn
  by_cases hl : ls e' n' e n
  · rw [decide_eq_true hl] at h2
    have := of_decide_eq_true h2
    exact ⟨fun h => by omega, fun h => absurd hl h⟩
  · rw [decide_eq_false hl] at h2
    have := of_decide_eq_false h2
    exact ⟨fun _ => hl, fun _ => by omega⟩
/-- How many stand at the beginning that are not above something. -/
def cntN (pe pn : Int) (zs : List (Int × Int)) : Nat := (zs.takeWhile fun z => !decide (ls pe pn z.1 z.2)).length
theorem cntN_of : ∀ (zs : List (Int × Int)) (pe pn : Int) (k : Nat), k ≤ zs.length → (∀ i (hi : i < zs.length), i < k → ¬ ls pe pn zs[i].1 zs[i].2) → (∀ (hi : k < zs.length), ls pe pn zs[k].1 zs[k].2) → cntN pe pn zs = k
  | [], pe, pn, k, hk, _, _ => by
    have : k = 0 := by simpa using hk
    subst this; rfl
  | z :: zs, pe, pn, 0, _, _, h2 => by
    have := h2 (by simp)
    simp only [List.getElem_cons_zero] at this
    unfold cntN
    rw [List.takeWhile_cons, decide_eq_true this]
    rfl
  | z :: zs, pe, pn, k + 1, hk, h1, h2 => by
    have h0 := h1 0 (by simp) (by omega)
    simp only [List.getElem_cons_zero] at h0
    have ih := cntN_of zs pe pn k (by simpa using hk) (fun i hi hik => h1 (i + 1) (by simpa using hi) (by omega)) (fun hi => h2 (by simpa using hi))
    unfold cntN at ih ⊢
    rw [List.takeWhile_cons, decide_eq_false h0]
    simpa using ih
theorem cntN_le (pe pn : Int) (zs : List (Int × Int)) : cntN pe pn zs ≤ zs.length := (List.takeWhile_sublist _).length_le
theorem cntN_lt : ∀ (zs : List (Int × Int)) (pe pn : Int) (i : Nat) (hi : i < zs.length), i < cntN pe pn zs → ¬ ls pe pn zs[i].1 zs[i].2
  | z :: zs, pe, pn, i, hi, h => by
    unfold cntN at h
    rw [List.takeWhile_cons] at h
    by_cases hz : ls pe pn z.1 z.2
    · rw [decide_eq_true hz] at h; simp at h
    · rw [decide_eq_false hz] at h
      cases i with
      | zero => simpa using hz
      | succ i =>
        have := cntN_lt zs pe pn i (by simpa using hi) (by unfold cntN; simpa using h)
        simpa using this
theorem rises_lt {zs : List (Int × Int)} {e n : Int} (h : rises e n zs = true) (i j : Nat) (hj : j < zs.length) (hij : i < j) : ls zs[i].1 zs[i].2 zs[j].1 zs[j].2 := by
  obtain ⟨_, h2, _⟩ := rises_cut zs e n h i (by omega)
  obtain ⟨h3, _, _⟩ := rises_cut _ _ _ h2 (j - (i + 1)) (by rw [List.length_drop]; omega)
  rw [List.getElem_drop] at h3
  simp only [show i + 1 + (j - (i + 1)) = j by omega] at h3
  exact h3
theorem ls_trans {a b c d e f : Int} (h : ls a b c d) (k : ls c d e f) : ls a b e f := by unfold ls at *; omega
theorem zxs_len (ts : List Tx) : (zxs ts).length = ts.length := by simp [zxs]
theorem zxs_at (ts : List Tx) (i : Nat) (h : i < (zxs ts).length) : (zxs ts)[i] = ((ts[i]'(by rwa [zxs_len] at h)).e, (ts[i]'(by rwa [zxs_len] at h)).n) := by simp [zxs]
def chC (c : Int × Int × Int × Bool) : List Value := [.int .i8 c.1, .int .u32 c.2.1, .int .u32 c.2.2.1, .bool c.2.2.2]
theorem chC_ones (c : Int × Int × Int × Bool) : ones (chC c) := by intro u hu; simp [chC] at hu; rcases hu with rfl | rfl | rfl | rfl <;> rfl
section
variable (Z : List PanicEntry → World → Prop) {o w : World} {R : List HProp}
theorem wayFn {t : Tx} {pe pn : Int} {gp : Nat} (hq : ones t.cells) (hp : blk gp 30 (zx pe pn) ∈ R) (h : St o w R) :
    CallV Tryd.prog Z 30 #[.agg t.cells.toArray, .pointer (some ⟨gp, 0, none⟩)] w fun r w' => r = .int .i64 (cmpZ t.e t.n pe pn) ∧ St o w' R := by
  refine f30.calls ?_
  unfold f30.sh
  refine r_box _ _ h fun g w1 hS => ?_
  have hS : St o w1 (blk g 49 t.cells :: R) := hS
  (try simp only [fa_49_0, Nat.add_zero])
  refine r_loadN ag30 (xs := zx t.e t.n) rfl (hS.cells_at m0 0 (zx_at _)) ?_
  refine r_loadN ag30 (xs := zx pe pn) rfl (hS.cells_at (List.mem_cons_of_mem _ hp) 0 (whole_at _)) ?_
  refine (txnCompare Z hS).mono fun r w7 ⟨hr, hS⟩ => ?_
  exact ⟨hr, hS.drop⟩
theorem firstC {v : Value} {ts : List Tx} {pe pn e n : Int} {gp : Nat} (hpn : u32r pn) (hw : WfT ts) (hr : rises e n (zxs ts) = true) (hx : Ent o R fun w => RdT w v ts) (hp : blk gp 30 (zx pe pn) ∈ R) (h : St o w R) :
    CallV Tryd.prog Z 29 #[v, .func (.func 30) #[] #[.pointer (some ⟨gp, 0, none⟩)]] w fun r w' => r = .int .i64 (cntN pe pn (zxs ts) : Int) ∧ St o w' R := by
  obtain ⟨a, c, rfl⟩ := (hx w h).1.form
  have hle := hw.1
  have hlz := zxs_len ts
  have hns := hw.ns
  refine f29.calls ?_
  unfold f29.sh
  (try simp only [ln_22_3])
  refine ⟨fun m x y w' => ∃ a b : Nat, x = .int .i64 a ∧ y = .int .i64 b ∧ m + a = b ∧ b ≤ ts.length ∧ (∀ i (hi : i < (zxs ts).length), i < a → ¬ ls pe pn (zxs ts)[i].1 (zxs ts)[i].2) ∧ (∀ i (hi : i < (zxs ts).length), b ≤ i → ls pe pn (zxs ts)[i].1 (zxs ts)[i].2) ∧ St o w' R, ⟨ts.length, 0, ts.length, rfl, rfl, rfl, Nat.le_refl _, fun i hi h => by omega, fun i hi h => by omega, h⟩, ?_⟩
  clear h
  rintro m _ _ w1 ⟨lo, hi, rfl, rfl, hm, hhl, hlow, hhigh, hS⟩ _
  by_cases hlt : (lo : Int) < (hi : Int)
  · obtain ⟨mid, hmid⟩ : ∃ mid, mid = (lo + hi) / 2 := ⟨_, rfl⟩
    have hml : mid < ts.length := by omega
    have hmz : mid < (zxs ts).length := by omega
    have hmem : ts[mid] ∈ ts := List.getElem_mem hml
    obtain ⟨b, p, cs, hp1, _, hcv, hc⟩ := (rowR_rd (c := Tx.cells) (fun x => rfl) (hx w1 hS).1 rfl).ix el22 .i64 mid hml
    subst hcv
    (try simp only [o_add, o_lss, hlt, decide_true, condT])
    rw [wr_i64 (x := (lo : Int) + (hi : Int)) (by omega) (by omega)]
    refine r1 (run_quo _ _ _ _ _ _ (by omega)) ?_
    have e1 : ((lo : Int) + (hi : Int)).tdiv 2 = ((mid : Nat) : Int) := by
      rw [Int.tdiv_eq_ediv_of_nonneg (by omega)]; omega
    rw [e1, wr_i64 (x := ((mid : Nat) : Int)) (by omega) (by omega)]
    refine r1 (hp1 _) (r_loadN ag49 (xs := ts[mid].cells) rfl (fun j u hu => by rw [add_addr]; exact hc j u hu) ?_)
    have hq := txC_ones ((hx w1 hS).2 _ hmem).ones
    refine r_callVal en30 (l1 := []) (l2 := [_]) (l3 := [_]) rfl rfl rfl ?_
    refine (wayFn Z hq hp hS).mono fun r w2 ⟨hr2, hS⟩ => ?_
    subst hr2
    have hz : (zxs ts)[mid] = (ts[mid].e, ts[mid].n) := zxs_at ts mid hmz
    have hcmp := cmp_le0 (e := ts[mid].e) (n := ts[mid].n) (e' := pe) (n' := pn) (hns _ hmem) hpn
    by_cases hl : ls pe pn ts[mid].e ts[mid].n
    · have hno : ¬ cmpZ ts[mid].e ts[mid].n pe pn ≤ 0 := fun h => (hcmp.1 h) hl
      (try simp only [o_add, o_leq, hno, decide_false, condF])
      refine ⟨mid - lo, by omega, lo, mid, rfl, rfl, by omega, by omega, hlow, fun i hi2 hmi => ?_, hS⟩
      rcases Nat.eq_or_lt_of_le hmi with rfl | hlt2
      · rw [hz]; exact hl
      · have := rises_lt hr mid i hi2 hlt2
        rw [hz] at this
        exact ls_trans hl this
    · have hyes : cmpZ ts[mid].e ts[mid].n pe pn ≤ 0 := hcmp.2 hl
      (try simp only [o_add, o_leq, hyes, decide_true, condT])
      rw [wr_i64 (x := ((mid : Nat) : Int) + 1) (by omega) (by omega)]
      refine ⟨hi - (mid + 1), by omega, mid + 1, hi, rfl, rfl, by omega, by omega, fun i hi2 hmi => ?_, hhigh, hS⟩
      intro hc2
      rcases Nat.eq_or_lt_of_le (show i ≤ mid by omega) with rfl | hlt2
      · rw [hz] at hc2; exact hl hc2
      · have := rises_lt hr i mid hmz hlt2
        rw [hz] at this
        exact hl (ls_trans hc2 this)
  · obtain rfl : lo = hi := by omega
    (try simp only [o_add, o_lss, hlt, decide_false, condF])
    rw [cntN_of (zxs ts) pe pn lo (by omega) hlow (fun h => hhigh lo h (Nat.le_refl _))]
    exact ⟨by first | rfl | trivial, hS⟩
end
end Go.Proofs.YtoeamecdkimgaaaDoor

/- Chapter 14: Way. -/
set_option linter.unusedVariables false
set_option linter.unusedSimpArgs false
namespace Go.Proofs.YtoeamecdkimgaaaDoor
open Go.Sh
/-- The zxid up to which something goes. -/
def frm (se sn : Int) (zs : List (Int × Int)) (n : Nat) : Int × Int := if n = 0 then (se, sn) else zs.getD (n - 1) (se, sn)
/-- What Way answers. -/
def wayR (pe pn se sn : Int) (ts : List Tx) (cached image : Int) (f : Nat) : (Int × Int × Int × Bool) × Int :=
  if rises se sn (zxs ts) = true ∧ 0 ≤ cached ∧ cached ≤ ts.length ∧ 0 ≤ image then
    if ls pe pn se sn then ((4, 0, 0, false), 0)
    else if ¬ ((ts.length : Int) - cntN pe pn (zxs ts) ≤ cached) ∧ under (szTs (ts.drop (cntN pe pn (zxs ts)))) image f = false then ((4, 0, 0, false), 0)
    else ((if frm se sn (zxs ts) (cntN pe pn (zxs ts)) = (pe, pn) then 1 else if cntN pe pn (zxs ts) < ts.length then 3 else 2,
      (frm se sn (zxs ts) (cntN pe pn (zxs ts))).1, (frm se sn (zxs ts) (cntN pe pn (zxs ts))).2, decide ((ts.length : Int) - cntN pe pn (zxs ts) ≤ cached)), 0)
  else ((0, 0, 0, false), 1)
def wayT (p : (Int × Int × Int × Bool) × Int) : Value := .tuple #[.agg (chC p.1).toArray, .int .i64 p.2]
theorem via3 {p : World → Prop} {T : World → Prop} {G : Prop} (h : (∀ w, p w → T w) → G) (t : ∀ w, p w → T w) : G := h t
theorem ch_at (c : Int × Int × Int × Bool) : ∀ j v, (zx c.2.1 c.2.2.1)[j]? = some v → (chC c)[1 + j]? = some v := by
  intro j v h
  match j, h with
  | 0, h => exact h
  | 1, h => exact h
  | j + 2, h => simp [zx] at h
section
variable (Z : List PanicEntry → World → Prop) {o w : World} {R : List HProp}
theorem finW {gr : Nat} {xs : List Value} {Q : Value → World → Prop} (c : Int × Int × Int × Bool) (hl : xs.length = 4) (hS : St o w (blk gr 33 xs :: R)) (hq : ∀ w', St o w' R → Q (.agg (chC c).toArray) w') :
    run0 Tryd.prog Z (Instr.storeAt 33 (.pointer (some ⟨gr, 0, none⟩)) (.agg (chC c).toArray)) w fun w => ∃ r, (do loadVar 33 (← asAddr (.pointer (some ⟨gr, 0, none⟩))) : Sem Value).run Tryd.prog w = .ok r w ∧ Q r w := by
  refine r_storeN hS ag33 (xs := chC c) rfl (by rw [hl]; exact Nat.le_refl _) (chC_ones c) fun w1 hS => ?_
  rw [setL_all _ _ (by rw [hl]; rfl)] at hS
  exact r_resN ag33 (xs := chC c) rfl (hS.cells_at m0 0 (whole_at _)) (hq _ hS.drop)
set_option maxRecDepth 100000 in
theorem wayC {ax : Option Addr} {cx : Nat} {ts : List Tx} {pe pn se sn cached image : Int} {f : Nat} (hpe : u32r pe) (hpn : u32r pn) (hse : u32r se) (hsn : u32r sn) (hcap : ts.length ≤ cx) (hN : Names o) (ho : old o ∈ R) (hw : WfT ts)
    (hx : Ent o R fun w => RdT w (.slice ax ts.length cx) ts) (h : St o w R) :
    CallV Tryd.prog Z 9 #[.agg (zx pe pn).toArray, .agg (zx se sn).toArray, .slice ax ts.length cx, .int .i64 cached, .int .i64 image, .float .f64 f] w fun r w' => r = wayT (wayR pe pn se sn ts cached image f) ∧ St o w' R := by
  have hle := hw.1
  have hlz := zxs_len ts
  have hns := hw.ns
  have hes := hw.es
  have hcnt : cntN pe pn (zxs ts) ≤ ts.length := by have := cntN_le pe pn (zxs ts); omega
  refine f9.calls ?_
  unfold f9.sh
  refine r_box _ _ h fun gp w1 hS => ?_
  have hS : St o w1 (blk gp 30 (zx pe pn) :: R) := hS
  refine r_box _ _ hS fun gs w2 hS => ?_
  have hS : St o w2 (blk gs 30 (zx se sn) :: blk gp 30 (zx pe pn) :: R) := hS
  refine r_alloc hS ze33 fun gr w3 hS => ?_
  have hS : St o w3 (blk gr 33 (chC (0, 0, 0, false)) :: blk gs 30 (zx se sn) :: blk gp 30 (zx pe pn) :: R) := hS
  refine r_loadN ag30 (xs := zx se sn) rfl (hS.cells_at m1 0 (whole_at _)) ?_
  refine (risesC Z hsn hns (fun w hw => hx w hw.drop.drop.drop) hS).mono fun r w4 ⟨hr, hS⟩ => ?_
  subst hr
  have bad : ¬ (rises se sn (zxs ts) = true ∧ 0 ≤ cached ∧ cached ≤ ts.length ∧ 0 ≤ image) → ∀ w', St o w' (blk gs 30 (zx se sn) :: blk gp 30 (zx pe pn) :: R) → Value.tuple #[.agg (chC (0, 0, 0, false)).toArray, .int .i64 1] = wayT (wayR pe pn se sn ts cached image f) ∧ St o w' R := fun hb w' hS => by
    unfold wayR
    rw [if_neg hb]
    exact ⟨rfl, hS.drop.drop⟩
  apply via2 (p := rises se sn (zxs ts) = true ∧ 0 ≤ cached ∧ cached ≤ ts.length ∧ 0 ≤ image)
  · intro post
    cases hr : rises se sn (zxs ts) with
    | false =>
      (try simp only [ln_22_3, o_fn, o_not, Bool.not_false, o_pickT, condT, guardW_tf])
      refine r_build (cells := (chC (0, 0, 0, false)).toArray) (by kernel_rfl) ?_
      exact finW Z _ rfl hS (bad fun h => by rw [hr] at h; cases h.1)
    | true =>
      by_cases h1 : cached < 0
      · (try simp only [ln_22_3, o_fn, o_not, Bool.not_true, o_pickF, guardW_ff, o_lss, h1, decide_true, o_pickT, condT, guardW_tf])
        refine r_build (cells := (chC (0, 0, 0, false)).toArray) (by kernel_rfl) ?_
        exact finW Z _ rfl hS (bad fun h => by omega)
      by_cases h2 : (ts.length : Int) < cached
      · (try simp only [ln_22_3, o_fn, o_not, Bool.not_true, o_pickF, guardW_ff, o_lss, h1, decide_false, o_gtr, h2, decide_true, o_pickT, condT, guardW_tf])
        refine r_build (cells := (chC (0, 0, 0, false)).toArray) (by kernel_rfl) ?_
        exact finW Z _ rfl hS (bad fun h => by omega)
      by_cases h3 : image < 0
      · (try simp only [ln_22_3, o_fn, o_not, Bool.not_true, o_pickF, guardW_ff, o_lss, h1, decide_false, o_gtr, h2, h3, decide_true, condT])
        refine r_build (cells := (chC (0, 0, 0, false)).toArray) (by kernel_rfl) ?_
        exact finW Z _ rfl hS (bad fun h => by omega)
      · (try simp only [ln_22_3, o_fn, o_not, Bool.not_true, o_pickF, guardW_ff, o_lss, h1, decide_false, o_gtr, h2, h3, condF])
        exact post ⟨hr, by omega, by omega, by omega⟩
  rintro ⟨hr, h1, h2, h3⟩
  clear bad
  refine r_loadN ag30 (xs := zx pe pn) rfl (hS.cells_at m2 0 (whole_at _)) ?_
  refine r_loadN ag30 (xs := zx se sn) rfl (hS.cells_at m1 0 (whole_at _)) ?_
  refine (txnCompare Z hS).mono fun r w5 ⟨hr5, hS⟩ => ?_
  subst hr5
  have hcmp := ls_cmp (e := pe) (n := pn) (e' := se) (n' := sn) hpn hsn
  by_cases hl : ls pe pn se sn
  · have hlt : cmpZ pe pn se sn < 0 := by rw [decide_eq_true hl] at hcmp; exact of_decide_eq_true hcmp
    (try simp only [o_lss, hlt, decide_true, condT])
    refine r_build (cells := (chC (4, 0, 0, false)).toArray) (by kernel_rfl) ?_
    refine finW Z _ rfl hS fun w' hS => ?_
    unfold wayR
    rw [if_pos ⟨hr, h1, h2, h3⟩, if_pos hl]
    exact ⟨rfl, hS.drop.drop⟩
  have hlt : ¬ cmpZ pe pn se sn < 0 := by rw [decide_eq_false hl] at hcmp; exact of_decide_eq_false hcmp
  (try simp only [o_lss, hlt, decide_false, condF])
  have hwr : wayR pe pn se sn ts cached image f = if ¬ ((ts.length : Int) - cntN pe pn (zxs ts) ≤ cached) ∧ under (szTs (ts.drop (cntN pe pn (zxs ts)))) image f = false then ((4, 0, 0, false), 0)
    else ((if frm se sn (zxs ts) (cntN pe pn (zxs ts)) = (pe, pn) then 1 else if cntN pe pn (zxs ts) < ts.length then 3 else 2,
      (frm se sn (zxs ts) (cntN pe pn (zxs ts))).1, (frm se sn (zxs ts) (cntN pe pn (zxs ts))).2, decide ((ts.length : Int) - cntN pe pn (zxs ts) ≤ cached)), 0) := by
    unfold wayR
    rw [if_pos ⟨hr, h1, h2, h3⟩, if_neg hl]
  refine (firstC Z hpn hw hr (fun w hw => hx w hw.drop.drop.drop) m2 hS).mono fun r w6 ⟨hr6, hS⟩ => ?_
  subst hr6
  have hfp : ∀ (_ : 0 < cntN pe pn (zxs ts)) (hl : cntN pe pn (zxs ts) - 1 < ts.length), frm se sn (zxs ts) (cntN pe pn (zxs ts)) = (ts[cntN pe pn (zxs ts) - 1].e, ts[cntN pe pn (zxs ts) - 1].n) := fun hi hl => by
    unfold frm
    rw [if_neg (by omega), List.getD_eq_getElem?_getD, List.getElem?_eq_getElem (by omega), zxs_at]
    rfl
  have hf0 : cntN pe pn (zxs ts) = 0 → frm se sn (zxs ts) (cntN pe pn (zxs ts)) = (se, sn) := fun hi => by
    unfold frm
    rw [if_pos hi]
  generalize hk : cntN pe pn (zxs ts) = k at *
  refine r_loadN ag30 (xs := zx se sn) rfl (hS.cells_at m1 0 (whole_at _)) ?_
  (try simp only [o_lss, cond_decide, o_sub, o_gtr, o_leq])
  rw [wr_i64 (x := (ts.length : Int) - (k : Int)) (by omega) (by omega)]
  refine r_build (cells := (chC (0, se, sn, decide ((ts.length : Int) - (k : Int) ≤ cached))).toArray) (by kernel_rfl) ?_
  refine r_alloc hS ze33 fun gc w7 hS => ?_
  refine r_storeN hS ag33 (xs := chC (0, se, sn, decide ((ts.length : Int) - (k : Int) ≤ cached))) rfl (show 0 + 4 ≤ 4 from Nat.le_refl _) (chC_ones _) fun w8 hS => ?_
  rw [setL_all _ _ (by rfl)] at hS
  intro j34 hj34
  have HJ : ∀ w', St o w' (blk gc 33 (chC (0, (frm se sn (zxs ts) k).1, (frm se sn (zxs ts) k).2, decide ((ts.length : Int) - (k : Int) ≤ cached))) :: blk gr 33 (chC (0, 0, 0, false)) :: blk gs 30 (zx se sn) :: blk gp 30 (zx pe pn) :: R) → j34 w' := by
    intro w' hS
    refine hj34 w' fun _ => ?_
    clear hj34
    (try simp only [fa_33_0, Nat.add_zero, fa_33_1, Nat.zero_add, fa_33_2])
    refine r_load one4 (hS.at m0 3 rfl) ?_
    apply via3 (p := fun w' => ¬ (¬ ((ts.length : Int) - (k : Int) ≤ cached) ∧ under (szTs (ts.drop k)) image f = false) ∧ St o w' (blk gc 33 (chC (0, (frm se sn (zxs ts) k).1, (frm se sn (zxs ts) k).2, decide ((ts.length : Int) - (k : Int) ≤ cached))) :: blk gr 33 (chC (0, 0, 0, false)) :: blk gs 30 (zx se sn) :: blk gp 30 (zx pe pn) :: R))
    · intro post
      by_cases hc : (ts.length : Int) - (k : Int) ≤ cached
      · (try simp only [hc, decide_true, o_not, Bool.not_true, o_pickF, condF, guardW_ft])
        have hh := post w' ⟨fun h => h.1 hc, hS⟩
        revert hh
        generalize hwe : w' = w0
        exact fun hh => hh
      · (try simp only [hc, decide_false, o_not, Bool.not_false, o_pickT, guardW_true])
        refine r1 (run_slice_from el22 ax ts.length cx .i64 (k : Int) (by omega) (by omega) _) ?_
        rw [Int.toNat_natCast]
        refine (sizeC Z hN (List.mem_cons_of_mem _ (List.mem_cons_of_mem _ (List.mem_cons_of_mem _ (List.mem_cons_of_mem _ ho)))) (hw.drop k) (fun w hw => RdT.drop hcap (hx w hw.drop.drop.drop.drop) k (by omega)) hS).mono fun r w9 ⟨hr9, hS⟩ => ?_
        subst hr9
        refine (underC Z _ _ _ hS).mono fun r w10 ⟨hr10, hS⟩ => ?_
        subst hr10
        cases hu : under (szTs (ts.drop k)) image f with
        | true =>
          (try simp only [o_not, Bool.not_true, condF])
          exact post _ ⟨(fun h => by rw [hu] at h; cases h.2), hS⟩
        | false =>
          (try simp only [o_not, Bool.not_false, condT])
          refine r_build (cells := (chC (4, 0, 0, false)).toArray) (by kernel_rfl) ?_
          refine finW Z _ rfl hS.drop fun w' hS => ?_
          rw [hwr, if_pos ⟨hc, hu⟩]
          exact ⟨rfl, hS.drop.drop⟩
    rintro w' ⟨hgo, hS⟩
    rw [if_neg hgo] at hwr
    refine r_store hS one31 (by show 0 < 4; omega) rfl fun w9 hS => ?_
    have hS : St o w9 (blk gc 33 (chC (1, (frm se sn (zxs ts) k).1, (frm se sn (zxs ts) k).2, decide ((ts.length : Int) - (k : Int) ≤ cached))) :: blk gr 33 (chC (0, 0, 0, false)) :: blk gs 30 (zx se sn) :: blk gp 30 (zx pe pn) :: R) := hS
    intro j50 hj50
    have H50 : ∀ (way : Int) (w' : World), way = (if frm se sn (zxs ts) k = (pe, pn) then 1 else if k < ts.length then 3 else 2) → St o w' (blk gc 33 (chC (way, (frm se sn (zxs ts) k).1, (frm se sn (zxs ts) k).2, decide ((ts.length : Int) - (k : Int) ≤ cached))) :: blk gr 33 (chC (0, 0, 0, false)) :: blk gs 30 (zx se sn) :: blk gp 30 (zx pe pn) :: R) → j50 w' := by
      intro way w' hway hS
      refine hj50 w' fun _ => ?_
      refine r_loadN ag33 (xs := chC (way, _, _, _)) rfl (hS.cells_at m0 0 (whole_at _)) ?_
      refine finW Z _ rfl hS.drop fun w' hS => ?_
      rw [hwr, ← hway]
      exact ⟨rfl, hS.drop.drop⟩
    clear hj50
    intro j53 hj53
    have H53 : ∀ (way : Int) (w' : World), (way = 1 ∨ way = 2) → way + 1 = (if frm se sn (zxs ts) k = (pe, pn) then 1 else if k < ts.length then 3 else 2) → St o w' (blk gc 33 (chC (way, (frm se sn (zxs ts) k).1, (frm se sn (zxs ts) k).2, decide ((ts.length : Int) - (k : Int) ≤ cached))) :: blk gr 33 (chC (0, 0, 0, false)) :: blk gs 30 (zx se sn) :: blk gp 30 (zx pe pn) :: R) → j53 w' := by
      intro way w' hw12 hway hS
      refine hj53 w' fun _ => ?_
      skip
      refine r_load one31 (hS.at m0 0 rfl) ?_
      (try simp only [o_add])
      refine r_store hS one31 (by show 0 < 4; omega) rfl fun w9 hS => ?_
      have e : IntKind.i8.wrap (way + 1) = way + 1 := by rcases hw12 with rfl | rfl <;> rfl
      rw [e] at hS
      exact H50 (way + 1) _ hway hS
    clear hj53
    refine r_loadN ag30 (xs := zx (frm se sn (zxs ts) k).1 (frm se sn (zxs ts) k).2) rfl (hS.cells_at m0 1 (ch_at (1, _, _, _))) ?_
    refine r_loadN ag30 (xs := zx pe pn) rfl (hS.cells_at m3 0 (whole_at _)) ?_
    refine r1 (eqZx _ _ _ _ _) (cond_or (fun hc => ?_) fun hc => ?_)
    · have e : frm se sn (zxs ts) k = (pe, pn) := by
        simp only [Bool.and_eq_true, beq_iff_eq] at hc
        exact Prod.ext hc.1 hc.2
      exact H50 1 _ (by rw [if_pos e]) hS
    · have e : ¬ frm se sn (zxs ts) k = (pe, pn) := by
        intro e
        rw [e] at hc
        simp at hc
      skip
      refine ⟨fun hlt => ?_, fun hlt => ?_⟩
      · refine r_load one31 (hS.at m0 0 rfl) ?_
        (try simp only [o_add])
        refine r_store hS one31 (by show 0 < 4; omega) rfl fun w10 hS => ?_
        exact H53 2 _ (.inr rfl) (by rw [if_neg e, if_pos (by omega)]; rfl) hS
      · exact H53 1 _ (.inl rfl) (by rw [if_neg e, if_neg (by omega)]; rfl) hS
  (try simp only [fa_33_1, Nat.zero_add])
  refine ⟨fun hk0 => ?_, fun hk0 => ?_⟩
  · have hk0' : 0 < k := by omega
    have hkl : k - 1 < ts.length := by omega
    have hmem : ts[k - 1] ∈ ts := List.getElem_mem hkl
    rw [wr_i64 (x := (k : Int) - 1) (by omega) (by omega), show ((k : Int) - 1) = ((k - 1 : Nat) : Int) by omega]
    obtain ⟨b, p, cs, hp1, _, hcv, hc⟩ := (rowR_rd (c := Tx.cells) (fun x => rfl) (hx w8 hS.drop.drop.drop.drop).1 rfl).ix el22 .i64 (k - 1) hkl
    subst hcv
    refine r1 (hp1 _) ?_
    (try simp only [fa_49_0, Nat.add_zero])
    refine r_loadN ag30 (xs := zx ts[k - 1].e ts[k - 1].n) rfl (fun j u hu => by rw [add_addr]; exact hc j u (by have := zx_at ts[k - 1] j u hu; rwa [Nat.zero_add] at this)) ?_
    refine r_storeN hS ag30 (xs := zx ts[k - 1].e ts[k - 1].n) rfl (show 1 + 2 ≤ 4 by omega) (zx_ones _ _) fun w9 hS => ?_
    have e := hfp (by omega) hkl
    refine HJ w9 ?_
    rw [e]
    exact hS
  · refine HJ w8 ?_
    rw [hf0 (by omega)]
    exact hS
end
end Go.Proofs.YtoeamecdkimgaaaDoor

/- Chapter 14: lives; ChooseSizes: the walk. -/
set_option linter.unusedVariables false
set_option linter.unusedSimpArgs false
namespace Go.Proofs.YtoeamecdkimgaaaDoor
open Go.Sh
def qL : Rq := .mk ⟨7, [], [], [], 0, false, false, 0, 1, []⟩ (.slice none 0 0) (.slice none 0 0) (.slice none 0 0) (.slice none 0 0) []
def tL : Tx := ⟨1, 1, 0, 0, 0, qL⟩
theorem qL_rd (w : World) : RdQ w qL := .mk _ ⟨rd0 w 1, rd0 w 3, rd0 w 2⟩ (rd0 w 11) (fun x hx => by cases hx)
theorem tL_wf : WfT [tL] := by
  refine ⟨by simp, fun t ht => ?_⟩
  obtain rfl : t = tL := by simpa using ht
  refine ⟨?_, .mk _ ⟨by decide, by decide, by decide, ⟨by decide, fun x hx => by cases hx⟩, by decide, by decide, by decide, ⟨by decide, fun x hx => by cases hx⟩⟩ (by decide) (fun x hx => by cases hx)⟩
  simp [wfH, hok, hokc, Tx.hd, tL]
theorem tL_sz : szTs [tL] = 26 := by decide +kernel
theorem tL_way : wayR 0 0 0 0 [tL] 1 0 0 = ((1, 0, 0, true), 0) := by
  have h : cntN 0 0 (zxs [tL]) = 0 := by decide +kernel
  have hr : rises 0 0 (zxs [tL]) = true := by decide +kernel
  unfold wayR
  rw [if_pos ⟨hr, by decide, by decide, by decide⟩, if_neg (by decide), h]
  rw [if_neg (fun h => h.1 (by decide))]
  rfl
theorem key_mem {a b : List Tx} (h : a.map txK = b.map txK) : ∀ x ∈ a, ∃ y ∈ b, y.hd = x.hd ∧ y.q.st = x.q.st := fun x hx => by
  have : txK x ∈ b.map txK := by rw [← h]; exact List.mem_map_of_mem hx
  obtain ⟨y, hy, e⟩ := List.mem_map.1 this
  exact ⟨y, hy, congrArg Prod.fst e, congrArg Prod.snd e⟩
theorem WfT.key {a b : List Tx} (h : a.map txK = b.map txK) (hw : WfT b) : WfT a := by
  refine ⟨?_, fun x hx => ?_⟩
  · have := congrArg List.length h
    simp only [List.length_map] at this
    rw [this]; exact hw.1
  · obtain ⟨y, hy, e1, e2⟩ := key_mem h x hx
    exact ⟨e1 ▸ (hw.2 y hy).1, WfQ_st y.q x.q e2 (hw.2 y hy).2⟩
theorem szTs_key : ∀ {a b : List Tx}, a.map txK = b.map txK → szTs a = szTs b
  | [], [], _ => rfl
  | [], _ :: _, h => by simp at h
  | _ :: _, [], h => by simp at h
  | x :: a, y :: b, h => by
    simp only [List.map_cons, List.cons.injEq] at h
    have e1 : x.hd = y.hd := congrArg Prod.fst h.1
    have e2 : x.q.st = y.q.st := congrArg Prod.snd h.1
    have ih := szTs_key h.2
    unfold szTs at ih ⊢
    rw [List.map_cons, List.map_cons, List.sum_cons, List.sum_cons, ih]
    unfold szT
    rw [chkT_st e1 e2, txB_st e1 e2]
def FltO (w : World) (cs : List Value) : Prop := ∃ b, cs = [.float .f64 b] ∧ b < 18446744073709551616
theorem opn_FltO (w : World) : Opn Tryd.prog w 23 (FltO w) := (opn_float Tryd.underlying23).mono fun cs ⟨b, h, hb⟩ => ⟨b, h, by simp [Lit.wf] at hb; omega⟩
section
variable (Z : List PanicEntry → World → Prop) {o w : World} {R : List HProp}
theorem leastC (h : St o w R) : CallV Tryd.prog Z 26 #[] w fun r w' => ∃ g, r = .slice (some ⟨g, 0, none⟩) 1 1 ∧ St o w' (own 49 16 (.slice (some ⟨g, 0, none⟩) 1 1) 1 tL.cells :: R) := by
  refine f26.calls ?_
  unfold f26.sh
  refine r_build (cells := (zx 1 1).toArray) (by kernel_rfl) ?_
  refine r_build (cells := qL.cells.toArray) (by kernel_rfl) ?_
  refine r_build (cells := tL.cells.toArray) (by kernel_rfl) ?_
  refine r_sliceN el22 h 1 _ [tL.cells] rfl (by omega) (by omega) (by omega) (fun v hv => by simp at hv; subst hv; rfl) rfl fun g w1 hS => ?_
  exact ⟨g, rfl, by simpa using hS⟩
theorem least_rd {g : Nat} (h : St o w (own 49 16 (.slice (some ⟨g, 0, none⟩) 1 1) 1 tL.cells :: R)) : RdT w (.slice (some ⟨g, 0, none⟩) [tL].length 1) [tL] := by
  refine ⟨?_, fun t ht => ?_⟩
  · have := h.own_rd m0
    simpa using this
  · obtain rfl : t = tL := by simpa using ht
    exact qL_rd w
theorem livesC (hN : Names o) (ho : old o ∈ R) (h : St o w R) : CallV Tryd.prog Z 8 #[] w fun r w' => r = .bool true ∧ St o w' R := by
  refine f8.calls ?_
  unfold f8.sh
  refine r_build (cells := (zx 0 0).toArray) (by kernel_rfl) ?_
  refine r_build (cells := (zx 0 0).toArray) (by kernel_rfl) ?_
  refine (leastC Z h).mono fun r w1 ⟨g, hr, hS⟩ => ?_
  subst hr
  have z0 : u32r 0 := by unfold u32r; omega
  refine (wayC Z (ts := [tL]) (cx := 1) (cached := 1) (image := 0) (f := 0) z0 z0 z0 z0 (Nat.le_refl _) hN (List.mem_cons_of_mem _ ho) tL_wf (fun w hw => least_rd hw) hS).mono fun r w2 ⟨hr, hS⟩ => ?_
  subst hr
  rw [tL_way]
  unfold wayT
  (try simp only [o_ext2_1, o_eql, beq_self_eq_true, o_pickT, guardW_true, o_ext2_0])
  refine r_alloc hS.drop ze33 fun gc w3 hS => ?_
  refine r_storeN hS ag33 (xs := chC (1, 0, 0, true)) rfl (show 0 + 4 ≤ 4 from Nat.le_refl _) (chC_ones _) fun w4 hS => ?_
  rw [setL_all _ _ (by rfl)] at hS
  have hS : St o w4 (blk gc 33 (chC (1, 0, 0, true)) :: R) := hS
  (try simp only [fa_33_2, Nat.zero_add, fa_33_0, Nat.add_zero])
  refine r_load one31 (hS.at m0 0 rfl) ?_
  (try simp only [o_eql, beq_self_eq_true, o_pickT, guardW_true])
  refine r_load one4 (hS.at m0 3 rfl) ?_
  (try simp only [o_pickT, guardW_true])
  refine (leastC Z hS).mono fun r w5 ⟨g2, hr, hS⟩ => ?_
  subst hr
  refine (sizeC Z (ts := [tL]) hN (List.mem_cons_of_mem _ (List.mem_cons_of_mem _ ho)) tL_wf (fun w hw => least_rd hw) hS).mono fun r w6 ⟨hr, hS⟩ => ?_
  subst hr
  rw [tL_sz]
  have z26 : (((26 : Nat) : Int) == 26) = true := rfl
  (try simp only [o_eql, z26])
  exact ⟨by first | rfl | trivial, hS.drop.drop⟩
theorem sizesW {ax : Option Addr} {cx : Nat} {ts : List Tx} (image : Int) (f : Nat) (hw : WfT ts) (hx : RdT w (.slice ax ts.length cx) ts) (hN : Names w) (hT : Tab w) :
    CallV Tryd.prog Z 6 #[.slice ax ts.length cx, .int .i64 image, .float .f64 f] w fun r w' => r = .bool true ∧ St w w' [old w] := by
  have hle := hx.1.2.1
  simp only [maxLen] at hle
  refine f6.calls ?_
  unfold f6.sh
  have hS := St.start w
  refine (largeTs Z (fun w' hw' => hx.of_old hw' m0) hS).mono fun r w1 ⟨⟨b, hr⟩, hS⟩ => ?_
  subst hr
  refine cond_or (fun _ => ⟨by first | rfl | trivial, hS⟩) fun _ => ?_
  refine (livesC Z hN m0 hS).mono fun r w2 ⟨hr, hS⟩ => ?_
  subst hr
  refine (wideTs Z ts hT hw.1 (fun x hm => (hw.2 x hm).2) m0 (fun w' hw' => hx.of_old hw' m0) hS).mono fun v w4 ⟨g, l', hr, hll, hk, hS⟩ => ?_
  subst hr
  have hwl := hw.1
  have hlm : l'.length ≤ maxLen := by rw [hll]; simp only [maxLen]; omega
  have hwf' := txK_wf hk fun x hm => (hw.2 x hm).2
  have hwv : wv g ts.length = wv g l'.length := by rw [hll]
  rw [hwv]
  have hent : ∀ {R' : List HProp}, Ent w (blk g 49 ((wide txM l').map Tx.cells).flatten :: satH (l'.map wdT) :: R') fun w => RdT w (wv g l'.length) l' := fun w1 hw1 => wdTs_rd hlm hwf' hw1
  refine (sizeC Z (ts := l') hN m2 (WfT.key hk hw) hent hS).mono fun r w5 ⟨hr, hS⟩ => ?_
  subst hr
  rw [szTs_key hk]
  refine (refSize Z hw (fun w' hw' => hx.of_old hw' m2) hS).mono fun r w6 ⟨hr, hS⟩ => ?_
  subst hr
  refine (underC Z _ _ _ hS).mono fun r w7 ⟨hr, hS⟩ => ?_
  subst hr
  refine (underC Z _ _ _ hS).mono fun r w8 ⟨hr, hS⟩ => ?_
  subst hr
  refine (underC Z _ _ _ hS).mono fun r w9 ⟨hr, hS⟩ => ?_
  subst hr
  (try simp only [o_pickT, guardW_true, o_eql, beq_self_eq_true])
  refine (refUnder Z _ _ _ hS).mono fun r w10 ⟨hr, hS⟩ => ?_
  subst hr
  (try simp only [eqlb_4, beq_self_eq_true, o_pickT, guardW_true])
  refine (refUnder Z _ _ _ hS).mono fun r w11 ⟨hr, hS⟩ => ?_
  subst hr
  (try simp only [eqlb_4, beq_self_eq_true, o_pickT, guardW_true])
  refine (refUnder Z _ _ _ hS).mono fun r w12 ⟨hr, hS⟩ => ?_
  subst hr
  (try simp only [eqlb_4, beq_self_eq_true, o_pickT, guardW_true])
  refine (eqTs Z hent (fun w' hw' => hx.of_old hw' m2) hS).mono fun r w13 ⟨⟨b, hr, hb⟩, hS⟩ => ?_
  subst hr
  rw [hb.2 hk]
  (try simp only [o_pickT, guardW_true])
  refine (spareTs Z hT l' (by rw [hll]; exact hwl) hwf' m0 hS).mono fun r w14 ⟨hr, hS⟩ => ?_
  subst hr
  (try simp only [])
  exact ⟨by first | rfl | trivial, hS.drop.drop⟩
end
end Go.Proofs.YtoeamecdkimgaaaDoor
