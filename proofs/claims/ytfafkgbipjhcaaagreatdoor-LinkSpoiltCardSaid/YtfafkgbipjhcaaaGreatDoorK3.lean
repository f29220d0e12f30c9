/- How long a packet's bytes are. -/
import Derived.Test.YtfafkgbipjhcaaaGreatDoorG12
import Derived.Test.YtfafkgbipjhcaaaGreatDoorP1
set_option linter.unusedVariables false
set_option linter.unusedSimpArgs false
namespace Go.Proofs.YtfafkgbipjhcaaaGreatDoor
open Go.Sh
def fcap : Nat → Nat
  | 0 => 8
  | 1 => 8
  | 2 => 8
  | 3 => 4
  | 4 => 4
  | 5 => 8
  | 6 => 8
  | 7 => 1
  | 8 => 1
  | 9 => 4100
  | 10 => 4100
  | _ => 8
theorem fb_cap {p : Pk} {i : Nat} (hi : i < 12) (hr : rt p i = true) (hw : WfP p) : (fb p i).length ≤ fcap i := by
  obtain rfl | rfl | rfl | rfl | rfl | rfl | rfl | rfl | rfl | rfl | rfl | rfl := lt12 hi
  case inr.inr.inr.inr.inr.inr.inr.inr.inr.inl =>
    have hc : chkT p.t = true := (Bool.and_eq_true_iff.1 (show (chkT p.t && (if p.kd = 13 then ((p.t.e == 0) && (p.t.n == 0)) && decide (0 < p.t.nu) else decide (cmpZ p.ve p.vn p.t.e p.t.n < 0))) = true from hr)).1
    have h1 := txB_len hc
    show (encL (txB p.t)).length ≤ 4100
    rw [encL_len]; omega
  case inr.inr.inr.inr.inr.inr.inr.inr.inr.inr.inl =>
    have h1 := of_decide_eq_true (Bool.and_eq_true_iff.1 (show (decide (0 < (p.b.length : Int)) && decide ((p.b.length : Int) ≤ 4096)) = true from hr)).2
    show (encL p.b).length ≤ 4100
    rw [encL_len]; omega
  all_goals (simp only [fb, fcap, List.length_append, enc_length, encB, List.length_cons, List.length_nil]; omega)
def capS (K : Nat) : Nat → Nat
  | 0 => 0
  | n + 1 => capS K n + if hasF K n then fcap n else 0
theorem capS_fin : ∀ K : Fin 15, capS K.1 12 ≤ 8000 := by decide +kernel
theorem fpre_cap {p : Pk} (hok : okP p = true) (hw : WfP p) : ∀ i, i ≤ 12 → (fpre p.kd.toNat p i).length ≤ 1 + capS p.kd.toNat i
  | 0, _ => by simp [fpre, enc_length, capS]
  | i + 1, hi => by
    have h1 := fpre_cap hok hw i (by omega)
    rw [fpre, List.length_append, capS]
    cases hh : hasF p.kd.toNat i with
    | true =>
      have := fb_cap (by omega) ((okP_iff.1 hok).2.2 i (by omega) hh) hw
      simp only [if_true]; omega
    | false =>
      simp only [if_neg Bool.false_ne_true, List.length_nil, Nat.add_zero]
      exact h1
theorem pkB_8192 {p : Pk} (hw : WfP p) (hok : okP p = true) : (pkB p).length ≤ 8192 := by
  have h1 : (body p).length ≤ 1 + capS p.kd.toNat 12 := fpre_cap hok hw 12 (Nat.le_refl _)
  have h2 := capS_fin ⟨p.kd.toNat, by have := isKd_le (okP_iff.1 hok).1; omega⟩
  have h3 : capS p.kd.toNat 12 ≤ 8000 := h2
  rw [pkB, summed, List.length_append, enc_length]
  omega
end Go.Proofs.YtfafkgbipjhcaaaGreatDoor

/- Packets that are the same but for addresses; copies. -/
set_option linter.unusedVariables false
set_option linter.unusedSimpArgs false
namespace Go.Proofs.YtfafkgbipjhcaaaGreatDoor
open Go.Sh
theorem body_same {y p : Pk} (h : sameP y p) : body y = body p := fpre_same h.1 12 (Nat.le_refl _) fun j hj _ => h.2 j hj
theorem sameP_symm {a c : Pk} (h : sameP a c) : sameP c a := ⟨h.1.symm, fun i hi => by
  have h := h.2 i hi
  obtain rfl | rfl | rfl | rfl | rfl | rfl | rfl | rfl | rfl | rfl | rfl | rfl := lt12 hi <;> first | exact ⟨h.1.symm, h.2.symm⟩ | exact Eq.symm h⟩
theorem zr_sameF {y p : Pk} {i : Nat} (hi : i < 12) (h : sameF y p i) (hz : zr y i = true) : zr p i = true := by
  obtain rfl | rfl | rfl | rfl | rfl | rfl | rfl | rfl | rfl | rfl | rfl | rfl := lt12 hi
  · have h1 : y.cb = p.cb := h.1; have h2 : y.ct = p.ct := h.2; unfold zr at hz ⊢; rw [← h1, ← h2]; exact hz
  · have h1 : y.lb = p.lb := h.1; have h2 : y.lt = p.lt := h.2; unfold zr at hz ⊢; rw [← h1, ← h2]; exact hz
  · have h1 : y.pl = p.pl := h; unfold zr at hz ⊢; rw [← h1]; exact hz
  · have h1 : y.ep = p.ep := h; unfold zr at hz ⊢; rw [← h1]; exact hz
  · have h1 : y.cu = p.cu := h; unfold zr at hz ⊢; rw [← h1]; exact hz
  · have h1 : y.ze = p.ze := h.1; have h2 : y.zn = p.zn := h.2; unfold zr at hz ⊢; rw [← h1, ← h2]; exact hz
  · have h1 : y.ve = p.ve := h.1; have h2 : y.vn = p.vn := h.2; unfold zr at hz ⊢; rw [← h1, ← h2]; exact hz
  · have h1 : y.co = p.co := h; unfold zr at hz ⊢; rw [← h1]; exact hz
  · have h1 : y.fi = p.fi := h; unfold zr at hz ⊢; rw [← h1]; exact hz
  · have a := zr9 hz
    exact zr_txn ⟨fun _ => ⟨h.1.symm.trans a.1, h.2.symm.trans a.2⟩, fun _ => rfl⟩
  · have h1 : y.b = p.b := h; unfold zr at hz ⊢; rw [← h1]; exact hz
  · have h1 : y.se = p.se := h; unfold zr at hz ⊢; rw [← h1]; exact hz
theorem okP_of {y p : Pk} (h : sameP y p) (hy : okP y = true) : okP p = true := okP_same hy h.1 (fun i hi hh => zr_sameF hi (h.2 i hi) (by
  have := (bareB_iff _ _).1 (okP_iff.1 hy).2.1 i hi
  rw [h.1, hh] at this
  exact this)) fun i hi _ => h.2 i hi
theorem okP_eq {y p : Pk} (h : sameP y p) : okP y = okP p := by
  cases hy : okP y with
  | true => exact (okP_of h hy).symm
  | false =>
    cases hp : okP p with
    | false => rfl
    | true => rw [okP_of (sameP_symm h) hp] at hy; cases hy
theorem pkB_eq {y p : Pk} (h : sameP y p) : pkB y = pkB p := by unfold pkB; rw [body_same h]
def Pk.wth (p : Pk) (t : Tx) (bv : Value) (b : List UInt8) : Pk := { p with t := t, bv := bv, b := b }
theorem wth_wf {p : Pk} {t : Tx} {bv : Value} {b : List UInt8} (hw : WfP p) (hh : wfH t.hd) (hq : WfQ t.q) (hb : b.length ≤ 140737488351232) : WfP (p.wth t bv b) := { hw with h := hh, q := hq, b := hb }
theorem wth_same {p : Pk} {t : Tx} {bv : Value} (h1 : t.hd = p.t.hd) (h2 : t.q.st = p.t.q.st) : sameP (p.wth t bv p.b) p := ⟨rfl, fun i hi => by
  obtain rfl | rfl | rfl | rfl | rfl | rfl | rfl | rfl | rfl | rfl | rfl | rfl := lt12 hi <;> first | exact ⟨h1, h2⟩ | exact ⟨rfl, rfl⟩ | rfl⟩
theorem setL_t (p : Pk) (t : Tx) : setL p.cells 14 t.cells = (p.wth t p.bv p.b).cells := setL_mid p.hd p.t.cells t.cells _ rfl
section
variable (Z : List PanicEntry → World → Prop) {o w : World} {R As : List HProp} {g : Nat} {p : Pk}
theorem copyP (hw : WfP p) (hx : Ent o R fun w => RdP w p) (h : St o w R) : CallV Tryz.prog Z 8 #[.agg p.cells.toArray] w fun r w' => ∃ (t : Tx) (bv : Value), r = .agg (p.wth t bv p.b).cells.toArray ∧ t.hd = p.t.hd ∧ t.q.st = p.t.q.st ∧ St o w' (OwQ t.q :: own 5 1 bv p.b.length (cb p.b) :: R) := by
  refine f8.calls ?_
  unfold f8.sh
  refine r_box _ _ h fun g1 w1 hS => ?_
  have hS : St o w1 (blk g1 39 p.cells :: R) := hS
  refine r_alloc hS ze39 fun g2 w2 hS => ?_
  have hS : St o w2 (blk g2 39 pz.cells :: blk g1 39 p.cells :: R) := hS
  (try simp only [fa_39_11, Nat.zero_add, fa_39_10])
  refine r_loadN ag37 (xs := p.t.cells) (Tx.cells_len _) (hS.cells_at m1 14 (pk_tx p)) ?_
  refine (copyT Z p.t hw.q (fun w hw => (hx w hw.drop.drop).t) hS).mono fun r w3 ⟨t, hr, hh, hst, hS⟩ => ?_
  subst hr
  have hqo := (OwQ.rd _ hS).ones
  skip
  refine r_storeN (hS.pick 2) ag37 (xs := t.cells) (Tx.cells_len _) (show 14 + 16 ≤ 32 by omega) (txC_ones hqo) fun w4 hS => ?_
  rw [setL_t] at hS
  have hS : St o w4 (blk g1 39 (p.wth t p.bv p.b).cells :: OwQ t.q :: blk g2 39 pz.cells :: R) := hS
  skip
  refine r_load one30 (hS.at m0 30 rfl) ?_
  refine (copyBytes Z (x := p.bv) (l := p.b) hS (fun w hw => (hx w hw.drop.drop.drop).b) (by have := hw.b; omega)).mono fun bv w5 hS => ?_
  have hb1 := St.own_one hS
  skip
  refine r_store (hS.pick 1) one30 (show 30 < 32 by omega) hb1 fun w6 hS => ?_
  have hS : St o w6 (blk g1 39 (p.wth t bv p.b).cells :: own 5 1 bv p.b.length (cb p.b) :: OwQ t.q :: blk g2 39 pz.cells :: R) := hS
  have hone : ones (p.wth t bv p.b).cells := RdP.ones (w := w6) ⟨OwQ.rd _ (hS.pick 2), hS.own_rd m1⟩
  refine r_loadN ag39 (xs := (p.wth t bv p.b).cells) rfl (hS.cells_at m0 0 (whole_at _)) ?_
  refine r_storeN (hS.pick 3) ag39 (xs := (p.wth t bv p.b).cells) rfl (show 0 + 32 ≤ 32 from Nat.le_refl _) hone fun w7 hS => ?_
  rw [setL_all _ _ (by rfl)] at hS
  refine r_resN ag39 (xs := (p.wth t bv p.b).cells) rfl (hS.cells_at m0 0 (whole_at _)) ?_
  exact ⟨t, bv, rfl, hh, hst, by (refine Sh.St.sub ?_ (hS); repeat (first | with_reducible exact sub_refl | with_reducible exact sub_nil | with_reducible refine sub_p0 ?_ | with_reducible refine sub_p1 ?_ | with_reducible refine sub_p2 ?_ | with_reducible refine sub_p3 ?_ | with_reducible refine sub_p4 ?_ | with_reducible refine sub_p5 ?_ | with_reducible refine sub_p6 ?_ | with_reducible refine sub_p7 ?_ | with_reducible refine sub_p8 ?_ | with_reducible refine sub_p9 ?_ | with_reducible refine sub_p10 ?_ | with_reducible refine sub_p11 ?_ | with_reducible refine sub_p12 ?_ | with_reducible refine sub_p13 ?_ | with_reducible refine sub_p14 ?_ | with_reducible refine sub_p15 ?_ | exact sub_refl | refine sub_p0 ?_ | refine sub_p1 ?_ | refine sub_p2 ?_ | refine sub_p3 ?_ | refine sub_p4 ?_ | refine sub_p5 ?_ | refine sub_p6 ?_ | refine sub_p7 ?_ | refine sub_p8 ?_ | refine sub_p9 ?_ | refine sub_p10 ?_ | refine sub_p11 ?_ | refine sub_p12 ?_ | refine sub_p13 ?_ | refine sub_p14 ?_ | refine sub_p15 ?_ | refine sub_drop ?_))⟩
end
end Go.Proofs.YtfafkgbipjhcaaaGreatDoor

/- Nets: what each call of a Net answers, and leaves. -/
set_option linter.unusedVariables false
set_option linter.unusedSimpArgs false
namespace Go.Proofs.YtfafkgbipjhcaaaGreatDoor
open Go.Sh
structure Msg where
  frm : Int
  to_ : Int
  b : List UInt8
  sp : Bool
def mc (p : Msg × Value) : List Value := [.int .i8 p.1.frm, .int .i8 p.1.to_, p.2, .bool p.1.sp]
def mb (p : Msg × Value) : HProp := own 5 1 p.2 p.1.b.length (cb p.1.b)
def Msgs (v : Value) (L : List (Msg × Value)) : HProp := own 54 4 v L.length (L.flatMap mc)
def Net (g : Nat) (n : Int) (ms : List Msg) : HProp := fun h => ∃ v L, L.map (·.1) = ms ∧ sep (blk g 93 [.int .i64 n, v]) (sep (Msgs v L) (satH (L.map mb))) h
theorem mc_flat (L : List (Msg × Value)) : (L.flatMap mc).length = L.length * 4 := by
  induction L with
  | nil => rfl
  | cons a L ih => rw [List.flatMap_cons, List.length_append, ih, List.length_cons]; simp [mc]; omega
theorem ones_mc {L : List (Msg × Value)} (h : ∀ p ∈ L, p.2.oneCell' = true) : ones (L.flatMap mc) := by
  intro u hu
  obtain ⟨p, hp, hu⟩ := List.mem_flatMap.1 hu
  simp only [mc, List.mem_cons, List.not_mem_nil, or_false] at hu
  rcases hu with rfl | rfl | rfl | rfl
  · rfl
  · rfl
  · exact h p hp
  · rfl
section
variable {o w : World} {R : List HProp} {g : Nat} {n : Int} {ms : List Msg}
theorem Net.open (h : St o w (Net g n ms :: R)) : ∃ v L, L.map (·.1) = ms ∧ St o w (blk g 93 [.int .i64 n, v] :: Msgs v L :: satH (L.map mb) :: R) := by
  obtain ⟨v, h⟩ := h.ex
  obtain ⟨L, h⟩ := h.ex
  obtain ⟨hL, h⟩ := h.pure
  exact ⟨v, L, hL, h.sep.swap.sep.pick 2⟩
theorem Net.shut {v : Value} {L : List (Msg × Value)} (hL : L.map (·.1) = ms) (h : St o w (blk g 93 [.int .i64 n, v] :: Msgs v L :: satH (L.map mb) :: R)) : St o w (Net g n ms :: R) :=
  (((((h.pick 2).pick 2).sep_intro.swap.sep_intro).pure_intro hL).ex_intro L).ex_intro v
theorem Msgs.form {v : Value} {L : List (Msg × Value)} {As : List HProp} (h : St o w As) (hm : Msgs v L ∈ As) : ∃ a c, v = .slice a L.length c := (h.own_rd hm).form
theorem mb_one {L : List (Msg × Value)} (h : St o w (satH (L.map mb) :: R)) : ∀ p ∈ L, p.2.oneCell' = true := fun p hp => by
  have hm : mb p ∈ L.map mb ++ R := List.mem_append_left _ (List.mem_map_of_mem hp)
  obtain ⟨a, c, e⟩ := (h.all.own_rd hm).form
  rw [e]; rfl
end
section
variable (Z : List PanicEntry → World → Prop) {o w : World} {R : List HProp} {g : Nat} {n : Int} {ms : List Msg} {k : List UInt8} {v : Value} {L : List (Msg × Value)}
theorem kNew (s : Int) (h : St o w R) : CallV Tryz.prog Z 9 #[.int .i64 s] w fun r w' =>
    ((s < 1 ∨ 7 < s) ∧ r = .tuple #[.pointer none, .int .i64 1] ∧ w' = w) ∨ (1 ≤ s ∧ s ≤ 7 ∧ ∃ g, r = .tuple #[.pointer (some ⟨g, 0, none⟩), .int .i64 0] ∧ St o w' (Net g s [] :: R)) := by
  refine f9.calls ?_
  unfold f9.sh
  by_cases h1 : s < 1
  · (try simp only [h1, o_lss, decide_true, o_pickT, condT, guardW_tf])
    exact .inl ⟨.inl trivial, trivial, trivial⟩
  by_cases h2 : 7 < s
  · (try simp only [h1, h2, o_lss, decide_false, o_pickF, guardW_ff, o_gtr, decide_true, condT])
    exact .inl ⟨.inr trivial, trivial, trivial⟩
  (try simp only [h1, h2, o_lss, decide_false, o_pickF, guardW_ff, o_gtr, condF])
  refine r_build (cells := #[.int .i64 s, .slice none 0 0]) (by kernel_rfl) ?_
  refine r_box 93 _ h fun g w1 hS => .inr ⟨by omega, by omega, g, rfl, ?_⟩
  refine Net.shut (v := .slice none 0 0) (L := []) rfl ?_
  exact ((St.all_intro (As := []) hS).own_nil _ 4).pick 2
theorem kNone {As : List HProp} (h : St o w As) (hm : blk g 93 [.int .i64 n, v] ∈ As) : CallV Tryz.prog Z 36 #[.pointer (some ⟨g, 0, none⟩)] w fun r w' => r = .bool (n == 0) ∧ w' = w := by
  refine f36.calls ?_
  unfold f36.sh
  (try simp only [eqlp_47, o_pickF, guardW_ff, o_chk, fa_93_0, Nat.add_zero])
  refine r_load one3 (h.at hm 0 rfl) ?_
  (try simp only [o_eql])
  exact ⟨trivial, trivial⟩
theorem kHas {As : List HProp} (s : Int) (hs : -128 ≤ s ∧ s ≤ 127) (h : St o w As) (hm : blk g 93 [.int .i64 n, v] ∈ As) : CallV Tryz.prog Z 37 #[.pointer (some ⟨g, 0, none⟩), .int .i8 s] w fun r w' => r = .bool (decide (0 ≤ s ∧ s < n)) ∧ w' = w := by
  refine f37.calls ?_
  unfold f37.sh
  by_cases h1 : 0 ≤ s
  · (try simp only [h1, o_geq, decide_true, o_pickT, guardW_true, o_chk, fa_93_0, Nat.add_zero, cv_22_3])
    refine r_load one3 (h.at hm 0 rfl) ?_
    (try simp only [o_lss])
    rw [wr_i64 (x := s) (by omega) (by omega)]
    simp
  · (try simp only [h1, o_geq, decide_false, o_pickF, guardW_ft])
    simp
theorem kOwn {xv : Value} {m : Nat} {f t : Int} {sp : Bool} (h : St o w R) (hx : Ent o R fun w => Rd w 1 xv m (cb k)) (hl : k.length ≤ 140737488355328) :
    CallV Tryz.prog Z 38 #[.agg #[.int .i8 f, .int .i8 t, xv, .bool sp]] w fun r w' => ∃ v, r = .agg #[.int .i8 f, .int .i8 t, v, .bool sp] ∧ St o w' (own 5 1 v k.length (cb k) :: R) := by
  have h0 := hx w h
  have hn := rd_len h0
  obtain ⟨a, c, rfl⟩ := h0.form
  subst hn
  refine f38.calls ?_
  unfold f38.sh
  refine r_box 54 _ h fun g1 w1 hS => ?_
  refine r_alloc hS ze54 fun g2 w2 hS => ?_
  (try simp only [fa_54_2, Nat.zero_add])
  refine r_load one30 (hS.at (List.mem_cons_of_mem _ List.mem_cons_self) 2 rfl) ?_
  (try simp only [ln_30_3])
  refine r_make el30 hS .i64 .i64 k.length (by omega) (by simp only [maxLen]; omega) fun g3 w3 hS => ?_
  refine r_load one30 (hS.at (List.mem_cons_of_mem _ (List.mem_cons_of_mem _ List.mem_cons_self)) 2 rfl) ?_
  obtain ⟨cap, rest, rfl, _, _, hlen, hlen2, hB⟩ := own_at hS
  simp only [Nat.mul_one] at hlen hlen2 hB
  have hrest : rest = [] := by
    rw [List.length_append] at hlen2
    exact List.eq_nil_of_length_eq_zero (by omega)
  subst hrest
  refine r_copy el30 hB (hx w3 hB.drop.drop.drop) (cb_ones _) (by rw [List.append_nil, hlen]; omega) fun w4 hS => ?_
  rw [Nat.min_self, Nat.mul_one, List.take_of_length_le (by rw [cb_length]; omega), setL_all _ _ (by rw [List.append_nil, hlen, cb_length])] at hS
  (try simp only [ln_30_3])
  refine r1 (run_slice_3 el30 _ _ _ .i64 .i64 _ _ (by omega) (by omega) (by omega) _) ?_
  simp only [Int.toNat_natCast]
  refine r_store (hS.pick 2) one30 (by simp [Value.cells]) rfl fun w5 hS => ?_
  refine r_loadN ag54 (xs := [.int .i8 f, .int .i8 t, .slice (some ⟨g3, 0, none⟩) k.length k.length, .bool sp]) rfl (hS.cells_at List.mem_cons_self 0 (whole_at _)) ?_
  refine r_storeN (hS.pick 2) ag54 (xs := [.int .i8 f, .int .i8 t, .slice (some ⟨g3, 0, none⟩) k.length k.length, .bool sp]) rfl (by simp [Value.cells]) (by intro u hu; simp at hu; rcases hu with rfl | rfl | rfl | rfl <;> rfl) fun w6 hS => ?_
  rw [setL_all _ _ (by simp [Value.cells])] at hS
  refine r_resN ag54 (xs := [.int .i8 f, .int .i8 t, .slice (some ⟨g3, 0, none⟩) k.length k.length, .bool sp]) rfl (hS.cells_at List.mem_cons_self 0 (whole_at _)) ?_
  refine ⟨_, rfl, ?_⟩
  have hS := (hS.pick 2).own_mk (sz := 1) (cap := k.length) k.length (Nat.le_refl _) (by simp only [maxLen]; omega) (by rw [cb_length]; omega)
  rw [List.take_of_length_le (by rw [cb_length]; omega)] at hS
  exact hS.swap.drop.swap.drop
theorem kLen (h0 : n ≠ 0) (h : St o w (Net g n ms :: R)) : CallV Tryz.prog Z 17 #[.pointer (some ⟨g, 0, none⟩)] w fun r w' => r = .int .i64 ms.length ∧ w' = w := by
  refine f17.calls ?_
  unfold f17.sh
  obtain ⟨v, L, rfl, hS⟩ := Net.open h
  refine (kNone Z hS List.mem_cons_self).mono fun r w1 ⟨hr, hw⟩ => ?_
  subst hr; subst hw
  (try simp only [beq_eq_false_iff_ne.2 h0, o_chk, fa_93_1, Nat.zero_add, condF])
  refine r_load one91 (hS.at List.mem_cons_self 1 rfl) ?_
  obtain ⟨a, c, rfl⟩ := Msgs.form hS (List.mem_cons_of_mem _ List.mem_cons_self)
  (try simp only [ln_91_3])
  rw [List.length_map]
  exact ⟨rfl, trivial⟩
def sends (n f t : Int) (k : List UInt8) : Prop := n ≠ 0 ∧ (0 ≤ f ∧ f < n) ∧ (0 ≤ t ∧ t < n) ∧ f ≠ t ∧ 1 ≤ k.length ∧ k.length ≤ 8192
instance (n f t : Int) (k : List UInt8) : Decidable (sends n f t k) := by unfold sends; infer_instance
theorem kSend {x : Value} {m : Nat} (f t : Int) (hf : -128 ≤ f ∧ f ≤ 127) (ht : -128 ≤ t ∧ t ≤ 127) (hms : ms.length ≤ 1000000000) (h : St o w (Net g n ms :: R)) (hx : Ent o R fun w => Rd w 1 x m (cb k)) :
    CallV Tryz.prog Z 10 #[.pointer (some ⟨g, 0, none⟩), .int .i8 f, .int .i8 t, x] w fun r w' =>
      (sends n f t k → r = .int .i64 0 ∧ St o w' (Net g n (ms ++ [⟨f, t, k, false⟩]) :: R)) ∧ (¬ sends n f t k → r = .int .i64 1 ∧ St o w' (Net g n ms :: R)) := by
  have hrd := hx w h.drop
  have hm := rd_len hrd
  obtain ⟨a, c, rfl⟩ := hrd.form
  subst hm
  refine f10.calls ?_
  unfold f10.sh
  obtain ⟨v, L, hL, hS⟩ := Net.open h
  refine (kNone Z hS List.mem_cons_self).mono fun r w1 ⟨hr, hw⟩ => ?_
  subst hr; subst hw
  by_cases h0 : n = 0
  · (try simp only [h0, beq_self_eq_true, o_chkp, fa_93_1p, Nat.zero_add, o_pickT, condT, guardW_tf])
    subst h0
    exact ⟨fun hb => absurd rfl hb.1, fun _ => ⟨by first | rfl | trivial, h⟩⟩
  (try simp only [beq_eq_false_iff_ne.2 h0, o_chkp, fa_93_1p, Nat.zero_add, o_pickF, guardW_ff])
  refine (kHas Z f hf hS List.mem_cons_self).mono fun r w1 ⟨hr, hw⟩ => ?_
  subst hr; subst hw
  by_cases h1 : 0 ≤ f ∧ f < n
  rotate_left
  · (try simp only [h1, decide_false, o_not, Bool.not_false, o_pickT, condT, guardW_tf])
    exact ⟨fun hb => absurd hb (fun hb => h1 hb.2.1), fun _ => ⟨by first | rfl | trivial, h⟩⟩
  (try simp only [h1, and_self, decide_true, o_not, Bool.not_true, o_pickF, guardW_ff])
  refine (kHas Z t ht hS List.mem_cons_self).mono fun r w1 ⟨hr, hw⟩ => ?_
  subst hr; subst hw
  by_cases h2 : 0 ≤ t ∧ t < n
  rotate_left
  · (try simp only [h2, decide_false, o_not, Bool.not_false, o_pickT, condT, guardW_tf])
    exact ⟨fun hb => absurd hb (fun hb => h2 hb.2.2.1), fun _ => ⟨by first | rfl | trivial, h⟩⟩
  (try simp only [h2, and_self, decide_true, o_not, Bool.not_true, o_pickF, guardW_ff, o_eql])
  by_cases h3 : f = t
  · (try simp only [beq_iff_eq.2 h3, o_pickT, condT, guardW_tf])
    exact ⟨fun hb => absurd hb (fun hb => hb.2.2.2.1 h3), fun _ => ⟨by first | rfl | trivial, h⟩⟩
  (try simp only [beq_eq_false_iff_ne.2 h3, o_pickF, guardW_ff, ln_30_3, o_lss])
  by_cases h4 : (k.length : Int) < 1
  · (try simp only [h4, decide_true, o_pickT, condT, guardW_tf])
    exact ⟨fun hb => by have := hb.2.2.2.2.1; omega, fun _ => ⟨by first | rfl | trivial, h⟩⟩
  by_cases h5 : (8192 : Int) < (k.length : Int)
  · (try simp only [h4, decide_false, o_pickF, guardW_ff, ln_30_3, o_gtr, h5, decide_true, condT])
    exact ⟨fun hb => by have := hb.2.2.2.2.2; omega, fun _ => ⟨by first | rfl | trivial, h⟩⟩
  (try simp only [h4, decide_false, o_pickF, guardW_ff, ln_30_3, o_gtr, h5, condF])
  refine ⟨fun w2 hd => ?_⟩
  have hS := hS.drew hd
  refine rr_load one91 (hS.at List.mem_cons_self 1 rfl) ?_
  refine rp_build (cells := #[.int .i8 f, .int .i8 t, .slice a k.length c, .bool false]) (by kernel_rfl) ?_
  refine (kOwn Z hS hx.drop.drop.drop (by omega)).mono fun r w3 hq => ?_
  obtain ⟨u, rfl, hS⟩ := hq
  refine rs_load one91 (hS.at (List.mem_cons_of_mem _ List.mem_cons_self) 1 rfl) ?_
  have huo : u.oneCell' = true := by obtain ⟨_, _, e⟩ := hS.own_form; rw [e]; rfl
  have hones : ones [Value.int .i8 f, .int .i8 t, u, .bool false] := by
    intro q hq; simp at hq; rcases hq with rfl | rfl | rfl | rfl
    · rfl
    · rfl
    · exact huo
    · rfl
  refine r_sliceN el91 hS 1 _ [[.int .i8 f, .int .i8 t, u, .bool false]] rfl (by omega) (by omega) (by omega) (by simp) rfl fun g4 w4 hS => ?_
  refine rs_load one91 (hS.at (List.mem_cons_of_mem _ (List.mem_cons_of_mem _ List.mem_cons_self)) 1 rfl) ?_
  have e1 : [[Value.int .i8 f, .int .i8 t, u, .bool false]].flatten = [.int .i8 f, .int .i8 t, u, .bool false] := rfl
  rw [e1] at hS
  have hsrc := (hS.own_rd List.mem_cons_self).src Tryz.underlying91 hones
  have hll : L.length = ms.length := by rw [← hL, List.length_map]
  refine r_append el91 (hS.pick 3) hsrc (by omega) (by simp only [maxLen]; omega) fun v' w5 hS => ?_
  skip
  have hvo : v'.oneCell' = true := by obtain ⟨_, _, e⟩ := hS.own_form; rw [e]; rfl
  refine r_store (hS.pick 3) one91 (by simp) hvo fun w6 hS => ?_
  skip
  refine ⟨fun _ => ⟨by first | rfl | trivial, ?_⟩, fun hb => absurd ⟨h0, h1, h2, h3, by omega, by omega⟩ hb⟩
  refine Net.shut (v := v') (L := L ++ [(⟨f, t, k, false⟩, u)]) (by rw [List.map_append, hL]; rfl) ?_
  have hS := (hS.pick 2).drop
  have hfl : (L ++ [((⟨f, t, k, false⟩ : Msg), u)]).flatMap mc = L.flatMap mc ++ [.int .i8 f, .int .i8 t, u, .bool false] := by rw [List.flatMap_append]; rfl
  unfold Msgs
  rw [hfl, List.length_append, List.map_append]
  exact (((hS.pick 2).pick 3).all_snoc.pick 2).pick 2
theorem kAt_out (fv : Value) (p : Int) (h0 : n ≠ 0) {As : List HProp} (h : St o w As) (hm : blk g 93 [.int .i64 n, v] ∈ As) (hm2 : Msgs v L ∈ As) (hp : p < 0 ∨ (L.length : Int) ≤ p) : CallV Tryz.prog Z 39 #[.pointer (some ⟨g, 0, none⟩), .int .i64 p, fv] w fun r w' => r = .int .i64 220 ∧ w' = w := by
  refine f39.calls ?_
  unfold f39.sh
  refine (kNone Z h hm).mono fun r w1 ⟨hr, hw⟩ => ?_
  subst hr; subst hw
  by_cases h1 : p < 0
  · (try simp only [beq_eq_false_iff_ne.2 h0, o_chk, fa_93_1, Nat.zero_add, o_lss, h1, decide_true, o_pickT, condT, guardW_tf, condF])
    exact ⟨trivial, trivial⟩
  (try simp only [beq_eq_false_iff_ne.2 h0, o_chk, fa_93_1, Nat.zero_add, o_lss, h1, decide_false, o_pickF, guardW_ff, condF])
  refine r_load one91 (h.at hm 1 rfl) ?_
  obtain ⟨a, c, rfl⟩ := Msgs.form h hm2
  have h2 : (L.length : Int) ≤ p := by omega
  (try simp only [ln_91_3, o_geq, h2, decide_true, condT])
  exact ⟨trivial, trivial⟩
theorem kAt {kk : Value → World → Prop} (fv : Value) (p : Nat) (h0 : n ≠ 0) {As : List HProp} (h : St o w As) (hm : blk g 93 [.int .i64 n, v] ∈ As) (hm2 : Msgs v L ∈ As) (hp : p < L.length)
    (hk : ∀ b c, v = .slice (some ⟨b, 0, none⟩) L.length c → runX Tryz.prog Z (callVal fv #[.pointer (some ⟨b, p * 4, none⟩)]) w kk) : CallV Tryz.prog Z 39 #[.pointer (some ⟨g, 0, none⟩), .int .i64 p, fv] w kk := by
  refine f39.calls ?_
  unfold f39.sh
  refine (kNone Z h hm).mono fun r w1 ⟨hr, hw⟩ => ?_
  subst hr; subst hw
  have h1 : ¬ (p : Int) < 0 := by omega
  (try simp only [beq_eq_false_iff_ne.2 h0, o_chk, fa_93_1, Nat.zero_add, o_lss, h1, decide_false, o_pickF, guardW_ff, condF])
  refine r_load one91 (h.at hm 1 rfl) ?_
  obtain ⟨S, hl, hA⟩ := satH_mem hm2 h.sat
  rcases hA with ⟨rfl, hz⟩ | ⟨b, cap, rest, rfl, a1, a2, a3, a4⟩
  · omega
  have h2 : ¬ (L.length : Int) ≤ (p : Int) := by omega
  (try simp only [ln_91_3, o_geq, h2, decide_false, condF])
  refine r_load one91 (h.at hm 1 rfl) ?_
  obtain ⟨info, hinfo, hsz, _, _⟩ := el91.info
  refine r1 (run_indexAt Tryz.underlying91 hinfo b 0 L.length cap .i64 (p : Int) (by omega) (by omega) _) ?_
  rw [hsz]
  simp only [Nat.zero_add, Int.toNat_natCast]
  exact hk b cap rfl
theorem L_split {ms : List Msg} {L : List (Msg × Value)} {p : Nat} (hL : L.map (·.1) = ms) (hp : p < ms.length) : ∃ La q Lb, L = La ++ q :: Lb ∧ La.length = p ∧ q.1 = ms[p] ∧ La.map (·.1) ++ Lb.map (·.1) = ms.eraseIdx p := by
  subst hL
  rw [List.length_map] at hp
  refine ⟨L.take p, L[p], L.drop (p + 1), by simp, by rw [List.length_take]; omega, by simp, ?_⟩
  rw [List.eraseIdx_eq_take_drop_succ, List.map_take, List.map_drop]
theorem kTake (p : Nat) (h0 : n ≠ 0) (hp : p < ms.length) (h : St o w (Net g n ms :: R)) : CallV Tryz.prog Z 13 #[.pointer (some ⟨g, 0, none⟩), .int .i64 p] w fun r w' =>
    ∃ v, r = .tuple #[.agg #[.int .i8 ms[p].frm, .int .i8 ms[p].to_, v, .bool ms[p].sp], .int .i64 0] ∧ St o w' (own 5 1 v ms[p].b.length (cb ms[p].b) :: Net g n (ms.eraseIdx p) :: R) := by
  refine f13.calls ?_
  unfold f13.sh
  refine r_box _ _ h fun g1 w1 hS => r_box _ _ hS fun g2 w2 hS => r_alloc hS ze54 fun g3 w3 hS => r_alloc hS ze54 fun g4 w4 hS => ?_
  refine r_load one47 (hS.at m3 0 rfl) (r_load one3 (hS.at m2 0 rfl) ?_)
  (try simp only [o_fn])
  obtain ⟨v, L, hL, hS⟩ := Net.open (hS.pick 4)
  have hll : L.length = ms.length := by rw [← hL, List.length_map]
  refine kAt Z _ p h0 hS m0 m1 (by omega) fun b c hv => ?_
  refine r_callVal en42 rfl rfl rfl ?_
  obtain ⟨La, q, Lb, rfl, rfl, hq, hms⟩ := L_split hL hp
  subst hv
  have hones : ones ((La ++ q :: Lb).flatMap mc) := ones_mc (mb_one (hS.drop.drop))
  have hqo : ones (mc q) := fun u hu => hones u (List.mem_flatMap.2 ⟨q, by simp, hu⟩)
  have hbo : ones (Lb.flatMap mc) := ones_mc fun x hx => (mb_one (hS.drop.drop)) x (by simp [hx])
  have hfl : (La ++ q :: Lb).flatMap mc = La.flatMap mc ++ (mc q ++ Lb.flatMap mc) := by rw [List.flatMap_append, List.flatMap_cons]
  have hq4 : (mc q).length = 4 := rfl
  have hA := mc_flat La
  have hB := mc_flat Lb
  have hlen : (La ++ q :: Lb).length = La.length + Lb.length + 1 := by rw [List.length_append, List.length_cons]; omega
  have hS := hS.swap
  unfold Msgs at hS
  rw [hfl] at hS
  obtain ⟨c', rest, hc, hcap, hcm, _, hcl, hS⟩ := own_at hS
  subst hc
  rw [hlen] at hS
  simp only [maxLen] at hcm
  have hrl : rest.length = c * 4 - (La.length + Lb.length + 1) * 4 := by
    rw [List.length_append, List.length_append, List.length_append, hA, hB, hq4] at hcl
    omega
  rw [hlen] at hcap
  have hcap4 : (La.length + Lb.length + 1) * 4 ≤ c * 4 := Nat.mul_le_mul_right _ hcap
  refine f42.calls ?_
  unfold f42.sh
  (try simp only [o_chk])
  have hcell : ∀ {w : World} {As : List HProp}, St o w (blk b 54 ((La.flatMap mc ++ (mc q ++ Lb.flatMap mc)) ++ rest) :: As) → ∀ j u, (mc q)[j]? = some u → w.cell? ((⟨b, La.length * 4, none⟩ : Addr).add j) = some u := fun hS => by
    refine hS.cells_at m0 _ fun j u hu => ?_
    rw [List.append_assoc, List.getElem?_append_right (by omega), hA, show La.length * 4 + j - La.length * 4 = j by omega, List.append_assoc, List.getElem?_append_left (List.getElem?_eq_some_iff.1 hu).1]
    exact hu
  refine r_loadN ag54 (xs := mc q) hq4 (hcell hS) ?_
  refine r_storeN (hS.pick 3) ag54 (xs := mc q) hq4 (by simp [Value.cells]) hqo fun w5 hS => ?_
  rw [setL_all _ _ (by simp [Value.cells, mc])] at hS
  refine r_load one47 (hS.at m6 0 rfl) ?_
  (try simp only [o_chk, fa_93_1, Nat.zero_add])
  refine r_load one91 (hS.at m2 1 rfl) ?_
  (try simp only [ln_91_3, o_sub])
  rw [wr_i64 (x := ((La.length + Lb.length + 1 : Nat) : Int) - 1) (by omega) (by omega), show ((La.length + Lb.length + 1 : Nat) : Int) - 1 = ((La.length + Lb.length : Nat) : Int) by omega]
  refine ⟨fun w6 hd => ?_⟩
  have hS := hS.drew hd
  refine rr_load one47 (hS.at m6 0 rfl) ?_
  (try simp only [o_chkp, fa_93_1p, Nat.zero_add])
  refine rr_load one91 (hS.at m2 1 rfl) (rr_load one3 (hS.at m5 0 rfl) ?_)
  refine rp (fun w => run_slice_from el91 _ _ _ .i64 (La.length : Int) (by omega) (by omega) w) ?_
  rw [if_neg (by omega)]
  refine rr_load one47 (hS.at m6 0 rfl) ?_
  (try simp only [o_chkp, fa_93_1p, Nat.zero_add])
  refine rr_load one91 (hS.at m2 1 rfl) (rr_load one3 (hS.at m5 0 rfl) ?_)
  (try simp only [o_addp])
  rw [wr_i64 (x := (La.length : Int) + 1) (by omega) (by omega)]
  refine rp (fun w => run_slice_from el91 _ _ _ .i64 ((La.length : Int) + 1) (by omega) (by omega) w) ?_
  simp only [hlen, Int.toNat_natCast, show ((La.length : Int) + 1).toNat = La.length + 1 by omega, Option.map_some, add_addr, Nat.zero_add, show La.length + Lb.length + 1 - La.length = Lb.length + 1 by omega, show La.length + Lb.length + 1 - (La.length + 1) = Lb.length by omega]
  have hsrc : ∀ {w : World} {As : List HProp}, St o w (blk b 54 ((La.flatMap mc ++ (mc q ++ Lb.flatMap mc)) ++ rest) :: As) → Rd w 4 (.slice (if c = La.length + 1 then some ⟨b, 0, none⟩ else some ⟨b, (La.length + 1) * 4, none⟩) Lb.length (c - (La.length + 1))) Lb.length (Lb.flatMap mc) := fun hS => by
    refine ⟨hB, by simp only [maxLen]; omega, .inr ?_⟩
    by_cases hc : c = La.length + 1
    · refine ⟨_, _, by rw [if_pos hc], fun j u hu => ?_⟩
      have : Lb.length = 0 := by omega
      have := (List.getElem?_eq_some_iff.1 hu).1
      omega
    · refine ⟨_, _, by rw [if_neg hc], fun j u hu => ?_⟩
      refine hS.cells_at m0 _ (fun j u hu => ?_) j u hu
      rw [List.append_assoc, List.getElem?_append_right (by omega), hA, show (La.length + 1) * 4 + j - La.length * 4 = 4 + j by omega, List.append_assoc, List.getElem?_append_right (by omega), hq4, show 4 + j - 4 = j by omega, List.getElem?_append_left (List.getElem?_eq_some_iff.1 hu).1]
      exact hu
  have hsl : (if c = La.length + 1 then (some ⟨b, 0, none⟩ : Option Addr) else some ⟨b, (La.length + 1) * 4, none⟩) = (if c = La.length + 1 then some ⟨b, 0, none⟩ else some ⟨b, (La.length + 1) * 4, none⟩) := rfl
  have hS1 := hS.pick 1
  simp only [pickL] at hS1
  refine r_copy el91 hS1 (hsrc hS1) hbo (by simp only [List.length_append, hA, hB, hq4, hrl]; omega) fun w7 hS => ?_
  have hmin : min Lb.length (Lb.length + 1) * 4 = (Lb.flatMap mc).length := by rw [hB]; omega
  have hset : setL ((La.flatMap mc ++ (mc q ++ Lb.flatMap mc)) ++ rest) (La.length * 4) ((Lb.flatMap mc).take (min Lb.length (Lb.length + 1) * 4)) = (La.flatMap mc ++ Lb.flatMap mc) ++ ((mc q ++ Lb.flatMap mc) ++ rest).drop (Lb.length * 4) := by
    rw [hmin, List.take_length, List.append_assoc, ← hA, setL_append _ _ _ (by simp only [List.length_append]; omega), hB]
    simp only [List.append_assoc]
  rw [hset] at hS
  refine rs_load one3 (hS.at m5 0 rfl) (rs_load one91 (hS.at m2 1 rfl) (rs_load one47 (hS.at m6 0 rfl) (rs_load one3 (hS.at m5 0 rfl) (rs_load one91 (hS.at m2 1 rfl) (rs_load one47 (hS.at m6 0 rfl) ?_)))))
  refine r_load one47 (hS.at m6 0 rfl) ?_
  (try simp only [o_chk, fa_93_1, Nat.zero_add])
  refine r_load one91 (hS.at m2 1 rfl) ?_
  refine r_build (cells := #[.int .i8 0, .int .i8 0, .slice none 0 0, .bool false]) (by kernel_rfl) ?_
  obtain ⟨info, hinfo, hsz, _, _⟩ := el91.info
  refine r1 (run_indexAt Tryz.underlying91 hinfo b 0 _ c .i64 ((La.length + Lb.length : Nat) : Int) (by omega) (by omega) _) ?_
  rw [hsz]
  simp only [Nat.zero_add, Int.toNat_natCast]
  have hdl : (((mc q ++ Lb.flatMap mc) ++ rest).drop (Lb.length * 4)).length = 4 + rest.length := by simp only [List.length_drop, List.length_append, hB, hq4]; omega
  refine r_storeN hS ag54 (xs := [.int .i8 0, .int .i8 0, .slice none 0 0, .bool false]) rfl (by simp only [List.length_append, hA, hB, hdl]; omega) (by intro u hu; simp at hu; rcases hu with rfl | rfl | rfl <;> rfl) fun w8 hS => ?_
  have hAB : (La.flatMap mc ++ Lb.flatMap mc).length = (La.length + Lb.length) * 4 := by rw [List.length_append, hA, hB]; omega
  rw [← hAB, setL_append _ _ _ (by rw [hdl]; simp only [List.length_cons, List.length_nil]; omega)] at hS
  refine ⟨fun w9 hd => ?_⟩
  have hS := hS.drew hd
  refine rr_load one47 (hS.at m6 0 rfl) (rr_load one47 (hS.at m6 0 rfl) ?_)
  (try simp only [o_chkp, fa_93_1p, Nat.zero_add])
  refine rr_load one91 (hS.at m2 1 rfl) ?_
  refine rp (fun w => run_slice_to el91 _ _ _ .i64 ((La.length + Lb.length : Nat) : Int) (by omega) (by omega) w) ?_
  simp only [Int.toNat_natCast]
  skip
  refine r_store (hS.pick 2) one91 (by simp) rfl fun w10 hS => ?_
  skip
  have hS2 := hS.pick 2
  simp only [pickL] at hS2
  refine r_loadN ag54 (xs := mc q) hq4 (hS2.cells_at m0 0 (whole_at _)) ?_
  refine r_storeN (hS2.pick 4) ag54 (xs := mc q) hq4 (by simp [Value.cells]) hqo fun w11 hS => ?_
  rw [setL_all _ _ (by simp [Value.cells, mc])] at hS
  refine r_resN ag54 (xs := mc q) hq4 (hS.cells_at m0 0 (whole_at _)) ?_
  refine ⟨q.2, by rw [← hq]; rfl, ?_⟩
  have hS := hS.drop.drop
  have h5 := (hS.pick 1).own_mk (sz := 4) (cap := c) (La.length + Lb.length) (by omega) (by simp only [maxLen]; omega) (by
    rw [List.length_append, hAB, List.length_append, List.length_drop, hdl, hrl]; simp only [List.length_cons, List.length_nil]; omega)
  rw [List.take_left' hAB, ← List.flatMap_append, ← List.length_append] at h5
  have h6 := h5.pick 2
  rw [List.map_append, List.map_cons] at h6
  have h7 := h6.all_out
  rw [← List.map_append] at h7
  have h8 : St o w11 (blk g 93 [.int .i64 n, .slice (some ⟨b, 0, none⟩) (La ++ Lb).length c] :: Msgs (.slice (some ⟨b, 0, none⟩) (La ++ Lb).length c) (La ++ Lb) :: satH ((La ++ Lb).map mb) :: mb q :: _ :: _ :: R) := ((h7.pick 1).pick 2).pick 3
  have h9 := Net.shut (ms := ms.eraseIdx La.length) (by rw [List.map_append, hms]) h8
  have h10 := (((h9.pick 2).drop).pick 2).drop.swap
  rw [← hq]
  exact h10
end
end Go.Proofs.YtfafkgbipjhcaaaGreatDoor

/- Nets: Double and Spoil. -/
set_option linter.unusedVariables false
set_option linter.unusedSimpArgs false
namespace Go.Proofs.YtfafkgbipjhcaaaGreatDoor
open Go.Sh
theorem k_xor (a b : UInt8) : IntKind.u8.wrap (BitVec.ofInt IntKind.u8.bits (a.toNat : Int) ^^^ BitVec.ofInt IntKind.u8.bits (b.toNat : Int)).toNat = ((a ^^^ b).toNat : Int) := by
  have e : IntKind.u8.bits = 8 := rfl
  rw [e, BitVec.ofInt_natCast, BitVec.ofInt_natCast, BitVec.toNat_xor, BitVec.toNat_ofNat, BitVec.toNat_ofNat, UInt8.toNat_xor]
  have h1 : a.toNat % 2 ^ 8 = a.toNat := Nat.mod_eq_of_lt a.toNat_lt
  have h2 : b.toNat % 2 ^ 8 = b.toNat := Nat.mod_eq_of_lt b.toNat_lt
  have h3 : (a.toNat ^^^ b.toNat) < 2 ^ 8 := Nat.xor_lt_two_pow a.toNat_lt b.toNat_lt
  rw [h1, h2, wr_u8 (by omega) (by omega)]
theorem k_set (l : List UInt8) (i : Nat) (b : UInt8) : (cb l).set i (.int .u8 b.toNat) = cb (l.set i b) := by simp [cb, List.map_set]
theorem mc_at {L : List (Msg × Value)} {p j : Nat} (hp : p < L.length) (hj : j < 4) : (L.flatMap mc)[p * 4 + j]? = (mc L[p])[j]? := by
  have h := flatten_at (sz := 4) (css := L.map mc) (fun c hc => by obtain ⟨q, _, rfl⟩ := List.mem_map.1 hc; rfl) p j (mc L[p]) ((mc L[p])[j]'hj) (by rw [List.getElem?_map, List.getElem?_eq_getElem hp]; rfl) (List.getElem?_eq_getElem hj)
  rw [List.flatMap_def, h]
  exact (List.getElem?_eq_getElem (l := mc L[p]) hj).symm
section
variable (Z : List PanicEntry → World → Prop) {o w : World} {R : List HProp} {g : Nat} {n : Int} {ms : List Msg} {k : List UInt8} {v : Value} {L : List (Msg × Value)}
theorem Msgs.cell {As : List HProp} {b c p : Nat} (h : St o w As) (hm : Msgs (.slice (some ⟨b, 0, none⟩) L.length c) L ∈ As) (hp : p < L.length) (j : Nat) (hj : j < 4) (u : Value) (hu : (mc L[p])[j]? = some u) : w.cell? ⟨b, p * 4 + j, none⟩ = some u := by
  obtain ⟨_, _, ⟨_, hx, hz⟩ | ⟨a, c', hx, hc⟩⟩ := h.own_rd hm
  · omega
  · injection hx with hx _ _
    injection hx with hx
    subst hx
    have := hc (p * 4 + j) u (by rw [mc_at hp hj]; exact hu)
    rwa [add_addr, Nat.zero_add] at this
theorem kAgain {b c : Nat} (p : Nat) (hp : p < ms.length) (hml : ms.length ≤ 1000000000) (hbl : ms[p].b.length ≤ 140737488355328) (hL : L.map (·.1) = ms) (h : St o w (blk g 93 [.int .i64 n, .slice (some ⟨b, 0, none⟩) L.length c] :: Msgs (.slice (some ⟨b, 0, none⟩) L.length c) L :: satH (L.map mb) :: R)) :
    CallV Tryz.prog Z 40 #[.pointer (some ⟨g, 0, none⟩), .pointer (some ⟨b, p * 4, none⟩)] w fun r w' => r = .int .i64 0 ∧ St o w' (Net g n (ms ++ [ms[p]]) :: R) := by
  subst hL
  rw [List.length_map] at hp hml
  rw [List.getElem_map] at hbl ⊢
  refine f40.calls ?_
  unfold f40.sh
  refine ⟨fun w2 hd => ?_⟩
  have hS := h.drew hd
  (try simp only [o_chkp, fa_93_1p, Nat.zero_add])
  refine rr_load one91 (hS.at List.mem_cons_self 1 rfl) ?_
  skip
  refine rr_loadN ag54 (xs := mc L[p]) rfl (fun j u hu => by
    have hj : j < 4 := (List.getElem?_eq_some_iff.1 hu).1
    rw [add_addr]; exact Msgs.cell hS m1 hp j hj u hu) ?_
  have hmem : mb L[p] ∈ L.map mb := List.mem_map_of_mem (List.getElem_mem hp)
  refine (kOwn Z (xv := L[p].2) (m := L[p].1.b.length) (k := L[p].1.b) hS (fun w hS => (hS.pick 2).all.own_rd (List.mem_append_left _ hmem)) hbl).mono fun r w3 hq => ?_
  obtain ⟨u, rfl, hS⟩ := hq
  refine rs_load one91 (hS.at m1 1 rfl) ?_
  have huo : u.oneCell' = true := by obtain ⟨_, _, e⟩ := hS.own_form; rw [e]; rfl
  have hones : ones [Value.int .i8 L[p].1.frm, .int .i8 L[p].1.to_, u, .bool L[p].1.sp] := by
    intro q hq; simp at hq; rcases hq with rfl | rfl | rfl | rfl
    · rfl
    · rfl
    · exact huo
    · rfl
  refine r_sliceN el91 hS 1 _ [[.int .i8 L[p].1.frm, .int .i8 L[p].1.to_, u, .bool L[p].1.sp]] rfl (by omega) (by omega) (by omega) (by simp) rfl fun g4 w4 hS => ?_
  refine rs_load one91 (hS.at m2 1 rfl) ?_
  have e1 : [[Value.int .i8 L[p].1.frm, .int .i8 L[p].1.to_, u, .bool L[p].1.sp]].flatten = [.int .i8 L[p].1.frm, .int .i8 L[p].1.to_, u, .bool L[p].1.sp] := rfl
  rw [e1] at hS
  have hsrc := (hS.own_rd List.mem_cons_self).src Tryz.underlying91 hones
  refine r_append el91 (hS.pick 3) hsrc (by omega) (by simp only [maxLen]; omega) fun v' w5 hS => ?_
  skip
  have hvo : v'.oneCell' = true := by obtain ⟨_, _, e⟩ := hS.own_form; rw [e]; rfl
  refine r_store (hS.pick 3) one91 (by simp) hvo fun w6 hS => ?_
  refine ⟨by first | rfl | trivial, ?_⟩
  refine Net.shut (v := v') (L := L ++ [(L[p].1, u)]) (by rw [List.map_append]; rfl) ?_
  have hS := (hS.pick 2).drop
  have hfl : (L ++ [(L[p].1, u)]).flatMap mc = L.flatMap mc ++ [.int .i8 L[p].1.frm, .int .i8 L[p].1.to_, u, .bool L[p].1.sp] := by rw [List.flatMap_append]; rfl
  unfold Msgs
  rw [hfl, List.length_append, List.map_append]
  exact (((hS.pick 2).pick 3).all_snoc.pick 2).pick 2
theorem kDouble (p : Int) (h0 : n ≠ 0) (hml : ms.length ≤ 1000000000) (hbl : ∀ m ∈ ms, m.b.length ≤ 140737488355328) (h : St o w (Net g n ms :: R)) : CallV Tryz.prog Z 11 #[.pointer (some ⟨g, 0, none⟩), .int .i64 p] w fun r w' =>
    (∃ q : Nat, ∃ hq : q < ms.length, p = q ∧ r = .int .i64 0 ∧ St o w' (Net g n (ms ++ [ms[q]]) :: R)) ∨ ((p < 0 ∨ (ms.length : Int) ≤ p) ∧ r = .int .i64 220 ∧ St o w' (Net g n ms :: R)) := by
  refine f11.calls ?_
  unfold f11.sh
  (try simp only [o_fn])
  obtain ⟨v, L, hL, hS⟩ := Net.open h
  have hll : L.length = ms.length := by rw [← hL, List.length_map]
  by_cases hp : p < 0 ∨ (ms.length : Int) ≤ p
  · refine (kAt_out Z _ p h0 hS m0 m1 (by omega)).mono fun r w1 ⟨hr, hw⟩ => ?_
    subst hw
    exact .inr ⟨hp, hr, h⟩
  · obtain ⟨q, rfl⟩ : ∃ q : Nat, p = q := ⟨p.toNat, by omega⟩
    have hq : q < ms.length := by omega
    refine kAt Z _ q h0 hS m0 m1 (by omega) fun b c hv => ?_
    subst hv
    refine r_callVal en40 rfl rfl rfl ?_
    exact (kAgain Z q hq hml (hbl _ (List.getElem_mem hq)) hL hS).mono fun r w1 ⟨hr, hS⟩ => .inl ⟨q, hq, rfl, hr, hS⟩
def spoils (m : Msg) (a : Int) (x : UInt8) : Prop := 0 ≤ a ∧ a < m.b.length ∧ x ≠ 0
def spoilt (m : Msg) (a : Nat) (x : UInt8) : Msg := ⟨m.frm, m.to_, m.b.set a (m.b.getD a 0 ^^^ x), true⟩
theorem kSpoil1 {b c g1 g2 : Nat} (p : Nat) (a : Int) (x : UInt8) (hp : p < ms.length) (hL : L.map (·.1) = ms) (h : St o w (blk g2 5 [.int .u8 x.toNat] :: blk g1 3 [.int .i64 a] :: blk g 93 [.int .i64 n, .slice (some ⟨b, 0, none⟩) L.length c] :: Msgs (.slice (some ⟨b, 0, none⟩) L.length c) L :: satH (L.map mb) :: R)) :
    CallV Tryz.prog Z 41 #[.pointer (some ⟨b, p * 4, none⟩), .pointer (some ⟨g1, 0, none⟩), .pointer (some ⟨g2, 0, none⟩)] w fun r w' =>
      (¬ spoils ms[p] a x ∧ r = .int .i64 1 ∧ St o w' (Net g n ms :: R)) ∨ (ms[p].sp = true ∧ r = .int .i64 220 ∧ St o w' (Net g n ms :: R)) ∨
      (spoils ms[p] a x ∧ ms[p].sp = false ∧ r = .int .i64 0 ∧ St o w' (Net g n (ms.set p (spoilt ms[p] a.toNat x)) :: R)) := by
  obtain ⟨La, qq, Lb, rfl, hLa, hqq, _⟩ := L_split hL hp
  subst hLa
  rw [← hqq]
  have hpl : La.length < (La ++ qq :: Lb).length := by simp
  have hg : (La ++ qq :: Lb)[La.length] = qq := by simp
  have hsame : ∀ {w : World}, St o w (blk g2 5 [.int .u8 x.toNat] :: blk g1 3 [.int .i64 a] :: blk g 93 [.int .i64 n, .slice (some ⟨b, 0, none⟩) (La ++ qq :: Lb).length c] :: Msgs (.slice (some ⟨b, 0, none⟩) (La ++ qq :: Lb).length c) (La ++ qq :: Lb) :: satH ((La ++ qq :: Lb).map mb) :: R) → St o w (Net g n ms :: R) := fun h => Net.shut hL h.drop.drop
  have hcell := fun {w : World} (h : St o w (blk g2 5 [.int .u8 x.toNat] :: blk g1 3 [.int .i64 a] :: blk g 93 [.int .i64 n, .slice (some ⟨b, 0, none⟩) (La ++ qq :: Lb).length c] :: Msgs (.slice (some ⟨b, 0, none⟩) (La ++ qq :: Lb).length c) (La ++ qq :: Lb) :: satH ((La ++ qq :: Lb).map mb) :: R)) (j : Nat) (hj : j < 4) (u : Value) (hu : (mc qq)[j]? = some u) => Msgs.cell h m3 hpl j hj u (by rw [hg]; exact hu)
  have hmem : mb qq ∈ (La ++ qq :: Lb).map mb := List.mem_map_of_mem (by simp)
  have hrd := fun {w : World} (h : St o w (blk g2 5 [.int .u8 x.toNat] :: blk g1 3 [.int .i64 a] :: blk g 93 [.int .i64 n, .slice (some ⟨b, 0, none⟩) (La ++ qq :: Lb).length c] :: Msgs (.slice (some ⟨b, 0, none⟩) (La ++ qq :: Lb).length c) (La ++ qq :: Lb) :: satH ((La ++ qq :: Lb).map mb) :: R)) => (h.pick 4).all.own_rd (List.mem_append_left _ hmem)
  obtain ⟨va, vc, hvf⟩ := (hrd h).form
  refine f41.calls ?_
  unfold f41.sh
  refine ⟨fun w2 hd => ?_⟩
  have hS := h.drew hd
  refine rr_load one3 (hS.at m1 0 rfl) ?_
  by_cases h1 : a < 0
  · (try simp only [o_chk, fa_54_3, o_chkp, fa_54_2p, o_lssp, h1, decide_true, o_pickTp, condT, guardV_tf])
    exact .inl ⟨fun hs => by have := hs.1; omega, trivial, hsame hS⟩
  (try simp only [o_chk, fa_54_3, o_chkp, fa_54_2p, o_lssp, h1, decide_false, o_pickFp, guardV_ff])
  refine rr_load one3 (hS.at m1 0 rfl) ?_
  skip
  refine rr_load one30 (hcell hS 2 (by omega) qq.2 rfl) ?_
  rw [hvf]
  by_cases h2 : (qq.1.b.length : Int) ≤ a
  · (try simp only [ln_30_3p, o_geqp, h2, decide_true, o_pickTp, condT, guardV_tf])
    exact .inl ⟨fun hs => by have := hs.2.1; omega, trivial, hsame hS⟩
  (try simp only [ln_30_3p, o_geqp, h2, decide_false, o_pickFp, guardV_ff])
  refine rr_load one5 (hS.at m0 0 rfl) ?_
  by_cases h3 : x = 0
  · subst h3
    have : ((UInt8.toNat 0 : Nat) : Int) = 0 := rfl
    (try simp only [this, o_eqlp, beq_self_eq_true, condT])
    exact .inl ⟨fun hs => hs.2.2 rfl, trivial, hsame hS⟩
  have h3' : ((x.toNat : Int) == 0) = false := beq_eq_false_iff_ne.2 fun e => h3 (UInt8.toNat_inj.1 (by show x.toNat = 0; omega))
  (try simp only [o_eqlp, h3', condF])
  refine r_load one4 (hcell hS 3 (by omega) _ rfl) ?_
  by_cases h4 : qq.1.sp = true
  · rw [h4]
    (try simp only [condT])
    exact .inr (.inl ⟨trivial, trivial, hsame hS⟩)
  have h4 : qq.1.sp = false := by simpa using h4
  rw [h4]
  (try simp only [condF])
  refine ⟨fun w3 hd => ?_⟩
  have hS := hS.drew hd
  refine rr_load one30 (hcell hS 2 (by omega) qq.2 rfl) (rr_load one3 (hS.at m1 0 rfl) ?_)
  obtain ⟨i, rfl⟩ : ∃ i : Nat, a = i := ⟨a.toNat, by omega⟩
  have hi : i < qq.1.b.length := by omega
  obtain ⟨q, hq, hqc⟩ := rd_index (hrd hS) i hi
  refine rp hq (rr_load one5 hqc (rr_load one5 (hS.at m0 0 rfl) ?_))
  (try simp only [o_xorp])
  rw [k_xor]
  refine rp hq ?_
  have hS4 := hS.pick 4
  simp only [pickL, List.map_append, List.map_cons] at hS4
  have hS4 := hS4.all_out
  unfold mb at hS4
  refine r_store_ix (x := .int .u8 ((qq.1.b[i] ^^^ x).toNat : Int)) hS4 el30 one5 .i64 i hi (hq _) rfl fun w4 hS => ?_
  rw [k_set] at hS
  skip
  have hS := hS.pick 5
  simp only [pickL] at hS
  unfold Msgs at hS
  obtain ⟨cap, rest, hc, hcap, hcm, hxl, hcl, hS⟩ := own_at hS
  subst hc
  have hlenA : (La.flatMap mc).length = La.length * 4 := mc_flat La
  have hfl : (La ++ qq :: Lb).flatMap mc = La.flatMap mc ++ (mc qq ++ Lb.flatMap mc) := by rw [List.flatMap_append, List.flatMap_cons]
  have hlt : La.length * 4 + 3 < ((La ++ qq :: Lb).flatMap mc).length := by rw [hfl, List.length_append, List.length_append, hlenA]; simp [mc]; omega
  refine r_store hS one4 (by rw [List.length_append]; omega) rfl fun w5 hS => ?_
  rw [List.set_append_left _ _ hlt] at hS
  have hset : ((La ++ qq :: Lb).flatMap mc).set (La.length * 4 + 3) (.bool true) = (La ++ (spoilt qq.1 i x, qq.2) :: Lb).flatMap mc := by
    rw [hfl, List.set_append_right _ _ (by rw [hlenA]; omega), hlenA, show La.length * 4 + 3 - La.length * 4 = 3 by omega, List.flatMap_append, List.flatMap_cons]
    rfl
  rw [hset] at hS
  have hn : (La ++ (spoilt qq.1 i x, qq.2) :: Lb).length = (La ++ qq :: Lb).length := by simp
  have hS := hS.own_mk (sz := 4) (La ++ qq :: Lb).length hcap hcm (by rw [← hcl, List.length_append, List.length_append, mc_flat, mc_flat, hn])
  rw [List.take_left' (by rw [mc_flat, hn])] at hS
  refine .inr (.inr ⟨⟨by omega, by omega, h3⟩, trivial, trivial, ?_⟩)
  refine Net.shut (v := .slice (some ⟨b, 0, none⟩) (La ++ qq :: Lb).length c) (L := La ++ (spoilt qq.1 i x, qq.2) :: Lb) ?_ ?_
  · rw [← hL, Int.toNat_natCast]; simp
  · unfold Msgs
    have e : own 5 1 qq.2 qq.1.b.length (cb (qq.1.b.set i (qq.1.b[i] ^^^ x))) = mb (spoilt qq.1 i x, qq.2) := by
      unfold mb spoilt
      simp only [List.length_set, List.getD_eq_getElem?_getD, List.getElem?_eq_getElem hi, Option.getD_some]
    rw [e] at hS
    have hS := (((hS.pick 2).pick 2).all_in)
    have hS := (((((hS.pick 2).drop).pick 2).drop.swap).pick 2)
    rw [hn, List.map_append, List.map_cons]
    exact hS
theorem kSpoil (p a : Int) (x : UInt8) (h0 : n ≠ 0) (h : St o w (Net g n ms :: R)) : CallV Tryz.prog Z 12 #[.pointer (some ⟨g, 0, none⟩), .int .i64 p, .int .i64 a, .int .u8 x.toNat] w fun r w' =>
    ((p < 0 ∨ (ms.length : Int) ≤ p) ∧ r = .int .i64 220 ∧ St o w' (Net g n ms :: R)) ∨ ∃ q : Nat, ∃ hq : q < ms.length, p = q ∧
      ((¬ spoils ms[q] a x ∧ r = .int .i64 1 ∧ St o w' (Net g n ms :: R)) ∨ (ms[q].sp = true ∧ r = .int .i64 220 ∧ St o w' (Net g n ms :: R)) ∨
      (spoils ms[q] a x ∧ ms[q].sp = false ∧ r = .int .i64 0 ∧ St o w' (Net g n (ms.set q (spoilt ms[q] a.toNat x)) :: R))) := by
  refine f12.calls ?_
  unfold f12.sh
  refine r_box _ _ h fun g1 w1 hS => r_box _ _ hS fun g2 w2 hS => ?_
  (try simp only [o_fn])
  have hN := hS
  obtain ⟨v, L, hL, hS⟩ := Net.open (hS.pick 2)
  have hll : L.length = ms.length := by rw [← hL, List.length_map]
  by_cases hp : p < 0 ∨ (ms.length : Int) ≤ p
  · refine (kAt_out Z _ p h0 hS m0 m1 (by omega)).mono fun r w1 ⟨hr, hw⟩ => ?_
    subst hw
    exact .inl ⟨hp, hr, hN.drop.drop⟩
  · obtain ⟨q, rfl⟩ : ∃ q : Nat, p = q := ⟨p.toNat, by omega⟩
    have hq : q < ms.length := by omega
    refine kAt Z _ q h0 hS m0 m1 (by omega) fun b c hv => ?_
    subst hv
    refine r_callVal en41 rfl rfl rfl ?_
    exact (kSpoil1 Z q a x hq hL ((hS.pick 4).pick 4)).mono fun r w1 hr => .inr ⟨q, hq, rfl, hr⟩
end
end Go.Proofs.YtfafkgbipjhcaaaGreatDoor

/- works; the walk of LinkOnce. -/
set_option linter.unusedVariables false
set_option linter.unusedSimpArgs false
namespace Go.Proofs.YtfafkgbipjhcaaaGreatDoor
open Go.Sh
section
variable (Z : List PanicEntry → World → Prop) {o w : World} {R : List HProp}
theorem works (h : St o w R) : CallV Tryz.prog Z 4 #[] w fun r w' => r = .bool true ∧ St o w' R := by
  refine f4.calls ?_
  unfold f4.sh
  refine (kNew Z 2 h).mono fun r w1 hq => ?_
  rcases hq with ⟨hbad, _⟩ | ⟨_, _, g, rfl, hS⟩
  · omega
  (try simp only [o_ext2_1, o_neq, bne_self_eq_false, o_pickF, guardW_ff, o_ext2_0, eqlp_47, condF])
  refine r_slice el30 hS 1 _ (cb [7]) rfl (by omega) (by omega) (cb_ones _) rfl fun gb w2 hS => ?_
  refine (kSend Z 0 1 (by omega) (by omega) (k := [7]) (by simp) hS.swap (Ent.own List.mem_cons_self)).mono fun r w3 hq => ?_
  obtain ⟨rfl, hS⟩ := hq.1 (by decide)
  have hS : St o w3 (Net g 2 [⟨0, 1, [7], false⟩] :: _) := hS
  refine (kTake Z 0 (by decide) (by simp) hS).mono fun r w4 hq => ?_
  obtain ⟨v, rfl, hS⟩ := hq
  (try simp only [o_eql, beq_self_eq_true, o_pickT, guardW_true, o_ext2_1, o_ext2_0])
  have hvo : v.oneCell' = true := by obtain ⟨_, _, e⟩ := hS.own_form; rw [e]; rfl
  refine r_alloc hS ze54 fun g3 w5 hS => ?_
  refine r_storeN hS ag54 (xs := [.int .i8 0, .int .i8 1, v, .bool false]) rfl (by simp [Value.cells]) (by intro u hu; simp at hu; rcases hu with rfl | rfl | rfl | rfl <;> first | rfl | exact hvo) fun w6 hS => ?_
  rw [setL_all _ _ (by simp [Value.cells])] at hS
  (try simp only [fa_54_1, Nat.zero_add, fa_54_3, fa_54_2, fa_54_0, Nat.add_zero])
  refine r_load one22 (hS.at m0 0 rfl) ?_
  (try simp only [o_eql, beq_self_eq_true, o_pickT, guardW_true])
  refine r_load one22 (hS.at m0 1 rfl) ?_
  (try simp only [o_eql, beq_self_eq_true, o_pickT, guardW_true])
  refine r_load one4 (hS.at m0 3 rfl) ?_
  (try simp only [o_not, Bool.not_false, o_pickT, guardW_true])
  refine r_load one30 (hS.at m0 2 rfl) ?_
  refine r_slice el30 hS 1 _ (cb [7]) rfl (by omega) (by omega) (cb_ones _) rfl fun gb w7 hS => ?_
  refine (eqBytes Z (hS.own_rd m2) (hS.own_rd m0)).mono fun r w8 ⟨hr, hd⟩ => ?_
  subst hr
  have hS : St o w8 (Net g 2 [] :: own 5 1 _ 1 (cb [7]) :: R) := (hS.drew hd).drop.drop.drop
  rw [show decide ((([⟨0, 1, [7], false⟩] : List Msg)[0]).b = [7]) = true by decide]
  (try simp only [o_pickT, guardW_true])
  refine (kLen Z (by decide) hS).mono fun r w9 ⟨hr, hw⟩ => ?_
  subst hr; subst hw
  rw [show (([] : List Msg).length : Int) = 0 by rfl]
  (try simp only [o_eql, beq_self_eq_true])
  exact ⟨trivial, hS.drop.drop⟩
end
end Go.Proofs.YtfafkgbipjhcaaaGreatDoor

/- LinkSpoilt: the walk. -/
set_option linter.unusedVariables false
set_option linter.unusedSimpArgs false
namespace Go.Proofs.YtfafkgbipjhcaaaGreatDoor
open Go.Sh
theorem set_xor {l : List UInt8} {i : Nat} (hi : i < l.length) {x : UInt8} (hx : x ≠ 0) : l[i] ^^^ x ≠ l[i] := fun e => hx (by
  have := congrArg (l[i] ^^^ ·) e
  simp only [← UInt8.xor_assoc, UInt8.xor_self, UInt8.zero_xor] at this
  exact this)
theorem wfQ_of (x : Rq) : ∀ y : Rq, x.st = y.st → WfQ x → WfQ y := by
  induction x using Rq.ind with | h x ih => ?_
  intro y h hx
  refine .mk y (by rw [← st_f h]; exact hx.flat) (by rw [← st_len h]; exact hx.len) fun z hz => ?_
  have h1 : z.st ∈ x.ops.map Rq.st := by rw [st_ops h]; exact List.mem_map_of_mem hz
  obtain ⟨z', hz', e⟩ := List.mem_map.1 h1
  exact ih z' hz' z e (hx.all z' hz')
section
variable (Z : List PanicEntry → World → Prop) {o w : World} {R As : List HProp} {g : Nat} {p : Pk}
theorem read_own {l : List UInt8} {r : Value} {w' : World} {p : Pk} (hw : WfP p) (hok : okP p = true) (hl : l = pkB p) (hq : ReadP l o R r w') :
    ∃ u : Pk, sameP p u ∧ r = .tuple #[.agg u.cells.toArray, .int .i64 0] ∧ St o w' (OwQ u.t.q :: own 5 1 u.bv u.b.length (cb u.b) :: R) := by
  rcases hq with ⟨u, huok, huw, hul, huu, rfl, hS⟩ | ⟨hno, _⟩
  case inr => exact absurd hl (hno p hw hok)
  exact ⟨u, huu p hw hok (pk_has hl), rfl, hS⟩
theorem fitsV {a : Int} {x : UInt8} {va : Option Addr} {n vc : Nat} {K : Value → World → Prop} (h : K (.bool (decide (0 ≤ a ∧ a < n ∧ x ≠ 0))) w) :
        guardW (.bool (decide (0 ≤ a))) true (fun k => k (.int .i64 a) w) (fun t35 w =>
        guardW (.bool (decide (0 ≤ a))) true (fun k => k (.slice va n vc) w) (fun t36 w =>
        guardW (.bool (decide (0 ≤ a))) true (fun k => run1 Tryz.prog Z (Builtin.len_ #[30] 3 #[t36]) w k) (fun t37 w =>
        guardW (.bool (decide (0 ≤ a))) true (fun k => run1 Tryz.prog Z (binOp .lss 3 t35 t37) w k) (fun t38 w =>
        run1 Tryz.prog Z (pickV (.bool (decide (0 ≤ a))) t38 (.bool false)) w fun t39 w =>
        guardW (t39) true (fun k => k (.int .u8 x.toNat) w) (fun t40 w =>
        guardW (t39) true (fun k => run1 Tryz.prog Z (eqOp .neq 5 false true t40 (.int .u8 0)) w k) (fun t41 w =>
        run1 Tryz.prog Z (pickV t39 t41 (.bool false)) w fun t42 w => K t42 w) w) w) w) w) w) w := by
  by_cases h1 : (0 : Int) ≤ a
  · by_cases h2 : a < (n : Int)
    · by_cases h3 : x = 0
      · subst h3
        have e3 : ((((0 : UInt8).toNat : Nat) : Int) != 0) = false := rfl
        have e : decide (0 ≤ a ∧ a < n ∧ (0 : UInt8) ≠ 0) = false := by simp
        rw [e] at h
        (try simp only [h1, decide_true, o_pickT, guardW_true, ln_30_3, o_lss, h2, o_neq, e3])
        exact h
      · have e3 : ((x.toNat : Int) != 0) = true := by
          rw [bne_iff_ne]
          intro e
          exact h3 (UInt8.toNat_inj.1 (by show x.toNat = 0; omega))
        have e : decide (0 ≤ a ∧ a < n ∧ x ≠ 0) = true := by simp [h1, h2, h3]
        rw [e] at h
        (try simp only [h1, decide_true, o_pickT, guardW_true, ln_30_3, o_lss, h2, o_neq, e3])
        exact h
    · have e : decide (0 ≤ a ∧ a < n ∧ x ≠ 0) = false := by simp [h2]
      rw [e] at h
      (try simp only [h1, decide_true, o_pickT, guardW_true, ln_30_3, o_lss, h2, decide_false, o_pickF, guardW_ft])
      exact h
  · have e : decide (0 ≤ a ∧ a < n ∧ x ≠ 0) = false := by simp [h1]
    rw [e] at h
    (try simp only [h1, decide_false, o_pickF, guardW_ft])
    exact h
set_option maxRecDepth 100000 in
theorem linkSpoilt (p : Pk) (a : Int) (x : UInt8) (hw : WfP p) (hx : RdP w p) (hN : Names w) (hM : Named w) :
    CallV Tryz.prog Z 3 #[.agg p.cells.toArray, .int .i64 a, .int .u8 x.toNat] w fun r w' => r = .bool true ∧ St w w' [old w] := by
  have z0 : ((0 : Int) != 0) = false := rfl
  have z4 : ((150 : Int) != 0) = true := rfl
  refine f3.calls ?_
  unfold f3.sh
  refine r_box _ _ (St.start w) fun g1 w1 hS => ?_
  have hS : St w w1 (blk g1 39 p.cells :: [old w]) := hS
  refine (works Z hS).mono fun r w2 ⟨hr, hS⟩ => ?_
  subst hr
  (try simp only [o_pickT, guardW_true, o_geq, fa_39_10, Nat.zero_add, fa_37_2])
  refine r_loadN ag35 (xs := p.t.q.cells) rfl (hS.cells_at m0 19 fun j v hv => ?_) ?_
  · have := pk_tx p (5 + j) v (rq_at p.t j v hv)
    rwa [← Nat.add_assoc] at this
  refine (largeC Z p.t.q (fun w' hw' => (RdP.of_old hx hw' m1).t) hS).mono fun r w3 ⟨⟨b, hr⟩, hS⟩ => ?_
  subst hr
  cases b with
  | true =>
    (try simp only [o_pickT, condT, guardW_tf])
    exact ⟨by first | rfl | trivial, hS.drop⟩
  | false =>
  (try simp only [o_pickF, guardW_ff])
  refine r_loadN ag39 (xs := p.cells) rfl (hS.cells_at m0 0 (whole_at _)) ?_
  refine (refChkP Z hw (fun w' hw' => RdP.of_old hx hw' m1) hS).mono fun r w4 ⟨hr, hS⟩ => ?_
  subst hr
  cases hok : okP p with
  | false =>
    rw [if_neg Bool.false_ne_true]
    (try simp only [o_neq, z4, condT])
    exact ⟨by first | rfl | trivial, hS.drop⟩
  | true =>
  rw [if_pos rfl]
  (try simp only [o_neq, z0, condF])
  refine r_loadN ag39 (xs := p.cells) rfl (hS.cells_at m0 0 (whole_at _)) ?_
  refine (copyP Z hw (fun w' hw' => RdP.of_old hx hw' m1) hS).mono fun r w5 ⟨t, bv, hr, hh, hst, hS⟩ => ?_
  subst hr
  have hsame := wth_same (p := p) (t := t) (bv := bv) hh hst
  have hw2 : WfP (p.wth t bv p.b) := wth_wf hw (by rw [hh]; exact hw.h) (wfQ_of _ _ hst.symm hw.q) hw.b
  refine (writeP Z hN hM m3 hw2 (fun w' hw' => ⟨OwQ.rd _ hw', hw'.own_rd m1⟩) hS).mono fun r w6 hr => ?_
  rw [okP_eq hsame, hok, if_pos rfl, pkB_eq hsame] at hr
  obtain ⟨v, rfl, hS⟩ := hr
  have hl1 : (pkB p).length ≤ 8192 := pkB_8192 hw hok
  have hl0 : 1 ≤ (pkB p).length := by rw [pkB, summed, List.length_append, enc_length]; omega
  obtain ⟨B, hB⟩ : ∃ B, B = pkB p := ⟨_, rfl⟩
  rw [← hB] at hl1 hl0 hS
  obtain ⟨va, vc, rfl⟩ := hS.own_form
  have hS := hS.pick 4
  have hS : St w w6 (own 5 1 (.slice va B.length vc) B.length (cb B) :: blk g1 39 p.cells :: [old w]) := by (refine Sh.St.sub ?_ (hS); repeat (first | with_reducible exact sub_refl | with_reducible exact sub_nil | with_reducible refine sub_p0 ?_ | with_reducible refine sub_p1 ?_ | with_reducible refine sub_p2 ?_ | with_reducible refine sub_p3 ?_ | with_reducible refine sub_p4 ?_ | with_reducible refine sub_p5 ?_ | with_reducible refine sub_p6 ?_ | with_reducible refine sub_p7 ?_ | with_reducible refine sub_p8 ?_ | with_reducible refine sub_p9 ?_ | with_reducible refine sub_p10 ?_ | with_reducible refine sub_p11 ?_ | with_reducible refine sub_p12 ?_ | with_reducible refine sub_p13 ?_ | with_reducible refine sub_p14 ?_ | with_reducible refine sub_p15 ?_ | exact sub_refl | refine sub_p0 ?_ | refine sub_p1 ?_ | refine sub_p2 ?_ | refine sub_p3 ?_ | refine sub_p4 ?_ | refine sub_p5 ?_ | refine sub_p6 ?_ | refine sub_p7 ?_ | refine sub_p8 ?_ | refine sub_p9 ?_ | refine sub_p10 ?_ | refine sub_p11 ?_ | refine sub_p12 ?_ | refine sub_p13 ?_ | refine sub_p14 ?_ | refine sub_p15 ?_ | refine sub_drop ?_))
  (try simp only [o_ext2_1, o_neq, bne_self_eq_false, o_pickF, guardW_ff, o_ext2_0])
  refine (kNew Z 2 hS).mono fun r w7 hq => ?_
  rcases hq with ⟨hbad, _⟩ | ⟨_, _, gn, rfl, hS⟩
  · omega
  (try simp only [o_ext2_1, o_neq, z0, o_pickF, guardW_ff, o_ext2_0, eqlp_47, condF])
  refine (kSend Z 1 0 (by omega) (by omega) (k := B) (by simp) hS (Ent.own (e := 5) m0)).mono fun r w8 hq => ?_
  obtain ⟨rfl, hS⟩ := hq.1 ⟨by omega, by omega, by omega, by omega, by omega, by omega⟩
  have hS : St w w8 (Net gn 2 [⟨1, 0, B, false⟩] :: _) := hS
  refine (kDouble Z 0 (by omega) (by simp) (by intro m hm; simp at hm; subst hm; show B.length ≤ _; omega) hS).mono fun r w9 hq => ?_
  rcases hq with ⟨q, hq, hp0, rfl, hS⟩ | ⟨hbad, _⟩
  case inr => simp at hbad
  obtain rfl : q = 0 := by omega
  have hS : St w w9 (Net gn 2 [⟨1, 0, B, false⟩, ⟨1, 0, B, false⟩] :: _) := hS
  (try simp only [o_neq, z0, o_pickF, guardW_ff, condF])
  refine fitsV Z ?_
  obtain ⟨f, hf⟩ : ∃ f, f = decide (0 ≤ a ∧ a < B.length ∧ x ≠ 0) := ⟨_, rfl⟩
  rw [← hf]
  refine (kSpoil Z 0 a x (by omega) hS).mono fun r w10 hq => ?_
  obtain ⟨b1, hr, hbad, hgood, hbl, hS⟩ : ∃ b1 : List UInt8, r = .int .i64 (if f then 0 else 1) ∧ (f = true → ∀ y, WfP y → okP y = true → b1 ≠ pkB y) ∧ (f = false → b1 = B) ∧ b1.length = B.length ∧
      St w w10 (Net gn 2 [⟨1, 0, b1, f⟩, ⟨1, 0, B, false⟩] :: own 5 1 (.slice va B.length vc) B.length (cb B) :: blk g1 39 p.cells :: [old w]) := by
    rcases hq with ⟨hbad, _⟩ | ⟨q, hq, hp0, h3⟩
    · simp at hbad
    obtain rfl : q = 0 := by omega
    rcases h3 with ⟨hno, rfl, hS⟩ | ⟨hsp, _⟩ | ⟨hsp, _, rfl, hS⟩
    · have hf0 : f = false := by rw [hf]; exact decide_eq_false hno
      rw [hf0]
      exact ⟨B, rfl, (fun h => by cases h), fun _ => rfl, rfl, hS⟩
    · cases hsp
    · have hf1 : f = true := by rw [hf]; exact decide_eq_true hsp
      rw [hf1]
      obtain ⟨ha0, ha1, hx0⟩ := hsp
      have ha1 : a < (B.length : Int) := ha1
      obtain ⟨i, rfl⟩ : ∃ i : Nat, a = i := ⟨a.toNat, by omega⟩
      have hi : i < B.length := by omega
      refine ⟨B.set i (B[i] ^^^ x), rfl, fun _ y hy hyo => ?_, (fun h => by cases h), List.length_set, ?_⟩
      · subst hB
        exact summed_turn (body p) i _ hi (set_xor hi hx0) (body y)
      · have e : spoilt ⟨1, 0, B, false⟩ ((i : Int).toNat) x = ⟨1, 0, B.set i (B[i] ^^^ x), true⟩ := by
          unfold spoilt
          rw [Int.toNat_natCast, List.getD_eq_getElem?_getD, List.getElem?_eq_getElem hi, Option.getD_some]
        have hS : St w w10 (Net gn 2 [spoilt ⟨1, 0, B, false⟩ ((i : Int).toNat) x, ⟨1, 0, B, false⟩] :: _) := hS
        rw [e] at hS
        exact hS
  subst hr
  clear hq
  have e44 : ((if f = true then (0 : Int) else 1) == 0) = f := by cases f <;> rfl
  have e45 : (f != f) = false := by cases f <;> rfl
  have e46 : (f == f) = true := by cases f <;> rfl
  (try simp only [o_eql, e44, neqb_4, e45, condF])
  refine (kTake Z 0 (by omega) (by simp) hS).mono fun r w11 ⟨v1, hr, hS⟩ => ?_
  subst hr
  have hS : St w w11 (own 5 1 v1 b1.length (cb b1) :: Net gn 2 [⟨1, 0, B, false⟩] :: own 5 1 (.slice va B.length vc) B.length (cb B) :: blk g1 39 p.cells :: [old w]) := hS
  have ho1 : v1.oneCell' = true := St.own_one hS
  have hc1 := own_cap hS
  (try simp only [o_ext2_1, o_ext2_0])
  refine r_alloc hS ze54 fun g3 w12 hS => ?_
  refine r_storeN hS ag54 (xs := [.int .i8 1, .int .i8 0, v1, .bool f]) rfl (by simp [Value.cells]) (by intro u hu; simp at hu; rcases hu with rfl | rfl | rfl | rfl <;> first | rfl | exact ho1) fun w13 hS => ?_
  rw [setL_all _ _ (by simp [Value.cells])] at hS
  refine (kTake Z 0 (by omega) (by simp) (hS.pick 2)).mono fun r w14 ⟨v2, hr, hS⟩ => ?_
  subst hr
  have hS : St w w14 (own 5 1 v2 B.length (cb B) :: Net gn 2 [] :: _) := hS
  have ho2 : v2.oneCell' = true := St.own_one hS
  have hc2 := own_cap hS
  (try simp only [fa_54_3, Nat.zero_add, fa_54_2, o_ext2_1, o_ext2_0])
  refine r_alloc hS ze54 fun g4 w15 hS => ?_
  refine r_storeN hS ag54 (xs := [.int .i8 1, .int .i8 0, v2, .bool false]) rfl (by simp [Value.cells]) (by intro u hu; simp at hu; rcases hu with rfl | rfl | rfl | rfl <;> first | rfl | exact ho2) fun w16 hS => ?_
  rw [setL_all _ _ (by simp [Value.cells])] at hS
  have hS : St w w16 (own 5 1 v2 B.length (cb B) :: own 5 1 v1 b1.length (cb b1) :: blk g4 54 [.int .i8 1, .int .i8 0, v2, .bool false] :: blk g3 54 [.int .i8 1, .int .i8 0, v1, .bool f] :: blk g1 39 p.cells :: [old w]) := by (refine Sh.St.sub ?_ (hS); repeat (first | with_reducible exact sub_refl | with_reducible exact sub_nil | with_reducible refine sub_p0 ?_ | with_reducible refine sub_p1 ?_ | with_reducible refine sub_p2 ?_ | with_reducible refine sub_p3 ?_ | with_reducible refine sub_p4 ?_ | with_reducible refine sub_p5 ?_ | with_reducible refine sub_p6 ?_ | with_reducible refine sub_p7 ?_ | with_reducible refine sub_p8 ?_ | with_reducible refine sub_p9 ?_ | with_reducible refine sub_p10 ?_ | with_reducible refine sub_p11 ?_ | with_reducible refine sub_p12 ?_ | with_reducible refine sub_p13 ?_ | with_reducible refine sub_p14 ?_ | with_reducible refine sub_p15 ?_ | exact sub_refl | refine sub_p0 ?_ | refine sub_p1 ?_ | refine sub_p2 ?_ | refine sub_p3 ?_ | refine sub_p4 ?_ | refine sub_p5 ?_ | refine sub_p6 ?_ | refine sub_p7 ?_ | refine sub_p8 ?_ | refine sub_p9 ?_ | refine sub_p10 ?_ | refine sub_p11 ?_ | refine sub_p12 ?_ | refine sub_p13 ?_ | refine sub_p14 ?_ | refine sub_p15 ?_ | refine sub_drop ?_))
  (try simp only [fa_54_3, Nat.zero_add, fa_54_2])
  refine r_load one30 (hS.at m2 2 rfl) ?_
  refine (readP Z hN hM (by simp) (Ent.own (e := 5) m0) hc2 (by omega) hS).mono fun r w17 hq => ?_
  obtain ⟨u, hsu, rfl, hS⟩ := read_own hw hok hB hq
  have hou := RdP.ones (w := w17) (p := u) ⟨OwQ.rd _ hS, hS.own_rd m1⟩
  (try simp only [o_ext2_1, o_ext2_0])
  refine r_alloc hS ze39 fun g5 w18 hS => ?_
  refine r_storeN hS ag39 (xs := u.cells) rfl (show 0 + 32 ≤ 32 from Nat.le_refl _) hou fun w19 hS => ?_
  rw [setL_all _ _ (by rfl)] at hS
  have hS : St w w19 (own 5 1 v1 b1.length (cb b1) :: blk g5 39 u.cells :: OwQ u.t.q :: own 5 1 u.bv u.b.length (cb u.b) :: blk g4 54 [.int .i8 1, .int .i8 0, v2, .bool false] :: blk g3 54 [.int .i8 1, .int .i8 0, v1, .bool f] :: blk g1 39 p.cells :: [old w]) := by (refine Sh.St.sub ?_ (hS); repeat (first | with_reducible exact sub_refl | with_reducible exact sub_nil | with_reducible refine sub_p0 ?_ | with_reducible refine sub_p1 ?_ | with_reducible refine sub_p2 ?_ | with_reducible refine sub_p3 ?_ | with_reducible refine sub_p4 ?_ | with_reducible refine sub_p5 ?_ | with_reducible refine sub_p6 ?_ | with_reducible refine sub_p7 ?_ | with_reducible refine sub_p8 ?_ | with_reducible refine sub_p9 ?_ | with_reducible refine sub_p10 ?_ | with_reducible refine sub_p11 ?_ | with_reducible refine sub_p12 ?_ | with_reducible refine sub_p13 ?_ | with_reducible refine sub_p14 ?_ | with_reducible refine sub_p15 ?_ | exact sub_refl | refine sub_p0 ?_ | refine sub_p1 ?_ | refine sub_p2 ?_ | refine sub_p3 ?_ | refine sub_p4 ?_ | refine sub_p5 ?_ | refine sub_p6 ?_ | refine sub_p7 ?_ | refine sub_p8 ?_ | refine sub_p9 ?_ | refine sub_p10 ?_ | refine sub_p11 ?_ | refine sub_p12 ?_ | refine sub_p13 ?_ | refine sub_p14 ?_ | refine sub_p15 ?_ | refine sub_drop ?_))
  skip
  refine r_load one30 (hS.at m5 2 rfl) ?_
  refine (readP Z hN hM (by simp) (Ent.own (e := 5) m0) hc1 (by omega) hS).mono fun r w20 hq => ?_
  obtain ⟨u2, j, hr, hj, ho, hS⟩ : ∃ (u2 : Pk) (j : Int), r = .tuple #[.agg u2.cells.toArray, .int .i64 j] ∧ (j == 150) = f ∧ ones u2.cells ∧
      St w w20 (blk g5 39 u.cells :: OwQ u.t.q :: own 5 1 u.bv u.b.length (cb u.b) :: blk g4 54 [.int .i8 1, .int .i8 0, v2, .bool false] :: blk g3 54 [.int .i8 1, .int .i8 0, v1, .bool f] :: blk g1 39 p.cells :: [old w]) := by
    cases f with
    | false =>
      obtain ⟨u2, _, rfl, hS⟩ := read_own hw hok ((hgood rfl).trans hB) hq
      exact ⟨u2, 0, rfl, rfl, RdP.ones (w := w20) ⟨OwQ.rd _ hS, hS.own_rd m1⟩, by (refine Sh.St.sub ?_ (hS); repeat (first | with_reducible exact sub_refl | with_reducible exact sub_nil | with_reducible refine sub_p0 ?_ | with_reducible refine sub_p1 ?_ | with_reducible refine sub_p2 ?_ | with_reducible refine sub_p3 ?_ | with_reducible refine sub_p4 ?_ | with_reducible refine sub_p5 ?_ | with_reducible refine sub_p6 ?_ | with_reducible refine sub_p7 ?_ | with_reducible refine sub_p8 ?_ | with_reducible refine sub_p9 ?_ | with_reducible refine sub_p10 ?_ | with_reducible refine sub_p11 ?_ | with_reducible refine sub_p12 ?_ | with_reducible refine sub_p13 ?_ | with_reducible refine sub_p14 ?_ | with_reducible refine sub_p15 ?_ | exact sub_refl | refine sub_p0 ?_ | refine sub_p1 ?_ | refine sub_p2 ?_ | refine sub_p3 ?_ | refine sub_p4 ?_ | refine sub_p5 ?_ | refine sub_p6 ?_ | refine sub_p7 ?_ | refine sub_p8 ?_ | refine sub_p9 ?_ | refine sub_p10 ?_ | refine sub_p11 ?_ | refine sub_p12 ?_ | refine sub_p13 ?_ | refine sub_p14 ?_ | refine sub_p15 ?_ | refine sub_drop ?_))⟩
    | true =>
      rcases hq with ⟨y, hyo, hyw, hyl, _⟩ | ⟨_, rfl, hS⟩
      · exact absurd hyl (hbad rfl y hyw hyo)
      · exact ⟨pz, 150, rfl, rfl, RdP.ones (w := w20) ⟨qz_rd w20, rd0 w20 1⟩, by (refine Sh.St.sub ?_ (hS); repeat (first | with_reducible exact sub_refl | with_reducible exact sub_nil | with_reducible refine sub_p0 ?_ | with_reducible refine sub_p1 ?_ | with_reducible refine sub_p2 ?_ | with_reducible refine sub_p3 ?_ | with_reducible refine sub_p4 ?_ | with_reducible refine sub_p5 ?_ | with_reducible refine sub_p6 ?_ | with_reducible refine sub_p7 ?_ | with_reducible refine sub_p8 ?_ | with_reducible refine sub_p9 ?_ | with_reducible refine sub_p10 ?_ | with_reducible refine sub_p11 ?_ | with_reducible refine sub_p12 ?_ | with_reducible refine sub_p13 ?_ | with_reducible refine sub_p14 ?_ | with_reducible refine sub_p15 ?_ | exact sub_refl | refine sub_p0 ?_ | refine sub_p1 ?_ | refine sub_p2 ?_ | refine sub_p3 ?_ | refine sub_p4 ?_ | refine sub_p5 ?_ | refine sub_p6 ?_ | refine sub_p7 ?_ | refine sub_p8 ?_ | refine sub_p9 ?_ | refine sub_p10 ?_ | refine sub_p11 ?_ | refine sub_p12 ?_ | refine sub_p13 ?_ | refine sub_p14 ?_ | refine sub_p15 ?_ | refine sub_drop ?_))⟩
  subst hr
  clear hq
  (try simp only [o_ext2_1, o_eql, eqlb_4, o_ext2_0])
  refine r_alloc hS ze39 fun g6 w21 hS => ?_
  refine r_storeN hS ag39 (xs := u2.cells) rfl (show 0 + 32 ≤ 32 from Nat.le_refl _) ho fun w22 hS => ?_
  have hS := hS.drop
  skip
  refine r_load one4 (hS.at m4 3 rfl) ?_
  (try simp only [neqb_4, e45, o_pickF, guardW_ff])
  refine r_load one4 (hS.at m3 3 rfl) ?_
  (try simp only [o_pickF, guardW_ff])
  refine r_loadN ag39 (xs := p.cells) rfl (hS.cells_at m5 0 (whole_at _)) ?_
  refine r_loadN ag39 (xs := u.cells) rfl (hS.cells_at m0 0 (whole_at _)) ?_
  refine (eqP Z p u (fun w' hw' => RdP.of_old hx hw' m6) (fun w hw => ⟨OwQ.rd _ hw.drop, hw.own_rd m2⟩) hS).mono fun r w23 ⟨⟨b2, hr, hb2⟩, hS⟩ => ?_
  subst hr
  rw [hb2.2 hsu]
  (try simp only [hj, e46, o_not, Bool.not_true, o_pickF, guardW_ff, o_neq, z0, condF])
  exact ⟨by first | rfl | trivial, by (refine Sh.St.sub ?_ (hS); repeat (first | with_reducible exact sub_refl | with_reducible exact sub_nil | with_reducible refine sub_p0 ?_ | with_reducible refine sub_p1 ?_ | with_reducible refine sub_p2 ?_ | with_reducible refine sub_p3 ?_ | with_reducible refine sub_p4 ?_ | with_reducible refine sub_p5 ?_ | with_reducible refine sub_p6 ?_ | with_reducible refine sub_p7 ?_ | with_reducible refine sub_p8 ?_ | with_reducible refine sub_p9 ?_ | with_reducible refine sub_p10 ?_ | with_reducible refine sub_p11 ?_ | with_reducible refine sub_p12 ?_ | with_reducible refine sub_p13 ?_ | with_reducible refine sub_p14 ?_ | with_reducible refine sub_p15 ?_ | exact sub_refl | refine sub_p0 ?_ | refine sub_p1 ?_ | refine sub_p2 ?_ | refine sub_p3 ?_ | refine sub_p4 ?_ | refine sub_p5 ?_ | refine sub_p6 ?_ | refine sub_p7 ?_ | refine sub_p8 ?_ | refine sub_p9 ?_ | refine sub_p10 ?_ | refine sub_p11 ?_ | refine sub_p12 ?_ | refine sub_p13 ?_ | refine sub_p14 ?_ | refine sub_p15 ?_ | refine sub_drop ?_))⟩
end
end Go.Proofs.YtfafkgbipjhcaaaGreatDoor
