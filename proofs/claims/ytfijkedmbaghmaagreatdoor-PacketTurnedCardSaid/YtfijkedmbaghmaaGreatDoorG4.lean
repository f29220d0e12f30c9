/- A packet's bytes; Write. Printed by wip/sh/mkG4.py. -/
import Derived.Test.YtfijkedmbaghmaaGreatDoorG3
set_option linter.unusedVariables false
set_option linter.unusedSimpArgs false
namespace Go.Proofs.YtfijkedmbaghmaaGreatDoor
open Go.Sh
def fb (p : Pk) : Nat → List UInt8
  | 0 => enc 4 p.cb ++ enc 4 p.ct
  | 1 => enc 4 p.lb ++ enc 4 p.lt
  | 2 => enc 8 p.pl
  | 3 => enc 4 p.ep
  | 4 => enc 4 p.cu
  | 5 => enc 4 p.ze ++ enc 4 p.zn
  | 6 => enc 4 p.ve ++ enc 4 p.vn
  | 7 => encB p.co
  | 8 => encB p.fi
  | 9 => encL (txB p.t)
  | 10 => encL p.b
  | _ => enc 8 p.se
def fpre (K : Nat) (p : Pk) : Nat → List UInt8
  | 0 => enc 1 p.kd
  | i + 1 => fpre K p i ++ (if hasF K i then fb p i else [])
def body (p : Pk) : List UInt8 := fpre p.kd.toNat p 12
def summed (l : List UInt8) : List UInt8 := enc 4 (adler l) ++ l
def pkB (p : Pk) : List UInt8 := summed (body p)
theorem fb_len {p : Pk} {i : Nat} (hi : i < 12) (hr : rt p i = true) (hw : WfP p) : (fb p i).length ≤ 4200 := by
  obtain rfl | rfl | rfl | rfl | rfl | rfl | rfl | rfl | rfl | rfl | rfl | rfl := lt12 hi
  case inr.inr.inr.inr.inr.inr.inr.inr.inr.inl =>
    have hc : chkT p.t = true := by
      have h : (chkT p.t && (if p.kd = 13 then ((p.t.e == 0) && (p.t.n == 0)) && decide (0 < p.t.nu) else decide (cmpZ p.ve p.vn p.t.e p.t.n < 0))) = true := hr
      exact (Bool.and_eq_true_iff.1 h).1
    have := txB_len hc
    show (encL (txB p.t)).length ≤ 4200
    rw [encL_len]; omega
  case inr.inr.inr.inr.inr.inr.inr.inr.inr.inr.inl =>
    have h : (decide (0 < (p.b.length : Int)) && decide ((p.b.length : Int) ≤ 4096)) = true := hr
    have h2 := of_decide_eq_true (Bool.and_eq_true_iff.1 h).2
    show (encL p.b).length ≤ 4200
    rw [encL_len]; omega
  all_goals (simp only [fb, List.length_append, enc_length, encB, List.length_cons, List.length_nil]; omega)
theorem fpre_len {p : Pk} (hok : okP p = true) (hw : WfP p) : ∀ i, i ≤ 12 → (fpre p.kd.toNat p i).length ≤ 1 + i * 4200
  | 0, _ => by simp [fpre, enc_length]
  | i + 1, hi => by
    have h1 := fpre_len hok hw i (by omega)
    rw [fpre, List.length_append]
    cases hh : hasF p.kd.toNat i with
    | true =>
      have := fb_len (by omega) ((okP_iff.1 hok).2.2 i (by omega) hh) hw
      simp only [if_true]; omega
    | false =>
      simp only [if_neg Bool.false_ne_true, List.length_nil, Nat.add_zero]
      exact Nat.le_trans h1 (Nat.add_le_add_left (Nat.mul_le_mul_right _ (Nat.le_succ i)) 1)
theorem adler_lt (l : List UInt8) : adler l < 4294967296 := by
  have h := adl_lt l (1, 0) (by decide) (by decide)
  unfold adler; omega
section
variable (Z : List PanicEntry → World → Prop) {o w : World} {R As : List HProp} {g gw : Nat} {p : Pk} {K : Nat} {l : List UInt8}
theorem putConnC (a b : Int) (hl : l.length ≤ 1000000) (h : St o w (Wr gw l :: R)) : CallV Tryz.prog Z 182 #[.pointer (some ⟨gw, 0, none⟩), .agg (zx a b).toArray] w fun r w' => St o w' (Wr gw (l ++ (enc 4 a ++ enc 4 b)) :: R) := by
  refine f182.calls ?_
  unfold f182.sh
  refine r_box _ _ h fun g w1 hS => ?_
  have hS : St o w1 (blk g 25 (zx a b) :: Wr gw l :: R) := hS
  (try simp only [fa_25_1, Nat.zero_add, fa_25_0, Nat.add_zero])
  refine r_load one23 (hS.at m0 0 rfl) ?_
  refine (wUint32 Z a (by omega) hS.swap).mono fun r w2 hS => ?_
  skip
  refine r_load one23 (hS.at m1 1 rfl) ?_
  refine (wUint32 Z b (by simp [enc_length]; omega) hS).mono fun r w3 hS => ?_
  rw [← List.append_assoc]
  exact hS.swap.drop
theorem putZxidC (a b : Int) (hl : l.length ≤ 1000000) (h : St o w (Wr gw l :: R)) : CallV Tryz.prog Z 93 #[.pointer (some ⟨gw, 0, none⟩), .agg (zx a b).toArray] w fun r w' => St o w' (Wr gw (l ++ (enc 4 a ++ enc 4 b)) :: R) := by
  refine f93.calls ?_
  unfold f93.sh
  refine r_box _ _ h fun g w1 hS => ?_
  have hS : St o w1 (blk g 27 (zx a b) :: Wr gw l :: R) := hS
  (try simp only [fa_27_1, Nat.zero_add, fa_27_0, Nat.add_zero])
  refine r_load one23 (hS.at m0 0 rfl) ?_
  refine (wUint32 Z a (by omega) hS.swap).mono fun r w2 hS => ?_
  skip
  refine r_load one23 (hS.at m1 1 rfl) ?_
  refine (wUint32 Z b (by simp [enc_length]; omega) hS).mono fun r w3 hS => ?_
  rw [← List.append_assoc]
  exact hS.swap.drop
theorem put0 (hl : l.length ≤ 900000) (h : St o w (blk g 39 p.cells :: Wr gw l :: R)) : CallV Tryz.prog Z 181 #[.pointer (some ⟨gw, 0, none⟩), .pointer (some ⟨g, 0, none⟩)] w fun r w' => St o w' (blk g 39 p.cells :: Wr gw (l ++ fb p 0) :: R) := by
  refine f181.calls ?_
  unfold f181.sh
  (try simp only [o_chk, fa_39_1, Nat.zero_add])
  refine r_loadN ag25 (xs := zx p.cb p.ct) rfl (h.cells_at m0 1 (pk_two ⟨rfl, rfl⟩)) ?_
  refine (putConnC Z p.cb p.ct (by omega) h.swap).mono fun r w1 hS => ?_
  exact hS.swap
theorem put1 (hl : l.length ≤ 900000) (h : St o w (blk g 39 p.cells :: Wr gw l :: R)) : CallV Tryz.prog Z 187 #[.pointer (some ⟨gw, 0, none⟩), .pointer (some ⟨g, 0, none⟩)] w fun r w' => St o w' (blk g 39 p.cells :: Wr gw (l ++ fb p 1) :: R) := by
  refine f187.calls ?_
  unfold f187.sh
  (try simp only [o_chk, fa_39_2, Nat.zero_add])
  refine r_loadN ag25 (xs := zx p.lb p.lt) rfl (h.cells_at m0 3 (pk_two ⟨rfl, rfl⟩)) ?_
  refine (putConnC Z p.lb p.lt (by omega) h.swap).mono fun r w1 hS => ?_
  exact hS.swap
theorem put2 (hl : l.length ≤ 900000) (h : St o w (blk g 39 p.cells :: Wr gw l :: R)) : CallV Tryz.prog Z 190 #[.pointer (some ⟨gw, 0, none⟩), .pointer (some ⟨g, 0, none⟩)] w fun r w' => St o w' (blk g 39 p.cells :: Wr gw (l ++ fb p 2) :: R) := by
  refine f190.calls ?_
  unfold f190.sh
  (try simp only [o_chk, fa_39_3, Nat.zero_add])
  refine r_load one2 (h.at m0 5 rfl) ?_
  refine (wInt64 Z p.pl (by omega) h.swap).mono fun r w1 hS => ?_
  exact hS.swap
theorem put3 (hl : l.length ≤ 900000) (h : St o w (blk g 39 p.cells :: Wr gw l :: R)) : CallV Tryz.prog Z 86 #[.pointer (some ⟨gw, 0, none⟩), .pointer (some ⟨g, 0, none⟩)] w fun r w' => St o w' (blk g 39 p.cells :: Wr gw (l ++ fb p 3) :: R) := by
  refine f86.calls ?_
  unfold f86.sh
  (try simp only [o_chk, fa_39_4, Nat.zero_add])
  refine r_load one23 (h.at m0 6 rfl) ?_
  refine (wUint32 Z p.ep (by omega) h.swap).mono fun r w1 hS => ?_
  exact hS.swap
theorem put4 (hl : l.length ≤ 900000) (h : St o w (blk g 39 p.cells :: Wr gw l :: R)) : CallV Tryz.prog Z 89 #[.pointer (some ⟨gw, 0, none⟩), .pointer (some ⟨g, 0, none⟩)] w fun r w' => St o w' (blk g 39 p.cells :: Wr gw (l ++ fb p 4) :: R) := by
  refine f89.calls ?_
  unfold f89.sh
  (try simp only [o_chk, fa_39_5, Nat.zero_add])
  refine r_load one23 (h.at m0 7 rfl) ?_
  refine (wUint32 Z p.cu (by omega) h.swap).mono fun r w1 hS => ?_
  exact hS.swap
theorem put5 (hl : l.length ≤ 900000) (h : St o w (blk g 39 p.cells :: Wr gw l :: R)) : CallV Tryz.prog Z 92 #[.pointer (some ⟨gw, 0, none⟩), .pointer (some ⟨g, 0, none⟩)] w fun r w' => St o w' (blk g 39 p.cells :: Wr gw (l ++ fb p 5) :: R) := by
  refine f92.calls ?_
  unfold f92.sh
  (try simp only [o_chk, fa_39_6, Nat.zero_add])
  refine r_loadN ag27 (xs := zx p.ze p.zn) rfl (h.cells_at m0 8 (pk_two ⟨rfl, rfl⟩)) ?_
  refine (putZxidC Z p.ze p.zn (by omega) h.swap).mono fun r w1 hS => ?_
  exact hS.swap
theorem put6 (hl : l.length ≤ 900000) (h : St o w (blk g 39 p.cells :: Wr gw l :: R)) : CallV Tryz.prog Z 97 #[.pointer (some ⟨gw, 0, none⟩), .pointer (some ⟨g, 0, none⟩)] w fun r w' => St o w' (blk g 39 p.cells :: Wr gw (l ++ fb p 6) :: R) := by
  refine f97.calls ?_
  unfold f97.sh
  (try simp only [o_chk, fa_39_7, Nat.zero_add])
  refine r_loadN ag27 (xs := zx p.ve p.vn) rfl (h.cells_at m0 10 (pk_two ⟨rfl, rfl⟩)) ?_
  refine (putZxidC Z p.ve p.vn (by omega) h.swap).mono fun r w1 hS => ?_
  exact hS.swap
theorem put7 (hl : l.length ≤ 900000) (h : St o w (blk g 39 p.cells :: Wr gw l :: R)) : CallV Tryz.prog Z 101 #[.pointer (some ⟨gw, 0, none⟩), .pointer (some ⟨g, 0, none⟩)] w fun r w' => St o w' (blk g 39 p.cells :: Wr gw (l ++ fb p 7) :: R) := by
  refine f101.calls ?_
  unfold f101.sh
  (try simp only [o_chk, fa_39_8, Nat.zero_add])
  refine r_load one4 (h.at m0 12 rfl) ?_
  refine (wBool Z p.co (by omega) h.swap).mono fun r w1 hS => ?_
  exact hS.swap
theorem put8 (hl : l.length ≤ 900000) (h : St o w (blk g 39 p.cells :: Wr gw l :: R)) : CallV Tryz.prog Z 105 #[.pointer (some ⟨gw, 0, none⟩), .pointer (some ⟨g, 0, none⟩)] w fun r w' => St o w' (blk g 39 p.cells :: Wr gw (l ++ fb p 8) :: R) := by
  refine f105.calls ?_
  unfold f105.sh
  (try simp only [o_chk, fa_39_9, Nat.zero_add])
  refine r_load one4 (h.at m0 13 rfl) ?_
  refine (wBool Z p.fi (by omega) h.swap).mono fun r w1 hS => ?_
  exact hS.swap
theorem put9 (hN : Names o) (ho : old o ∈ R) (hx : Ent o R fun w => RdP w p) (hc : chkT p.t = true) (hl : l.length ≤ 900000) (h : St o w (blk g 39 p.cells :: Wr gw l :: R)) : CallV Tryz.prog Z 107 #[.pointer (some ⟨gw, 0, none⟩), .pointer (some ⟨g, 0, none⟩)] w fun r w' => St o w' (blk g 39 p.cells :: Wr gw (l ++ fb p 9) :: R) := by
  refine f107.calls ?_
  unfold f107.sh
  (try simp only [o_chk, fa_39_10, Nat.zero_add])
  refine r_loadN ag37 (xs := p.t.cells) (Tx.cells_len _) (h.cells_at m0 14 (pk_tx p)) ?_
  refine (writeC Z p.t hN (by simp [ho]) (fun w hw => (hx w hw.drop.drop).t) h).mono fun r w1 hS => ?_
  rw [if_pos hc] at hS
  obtain ⟨v, hr, hS⟩ := hS
  subst hr
  have hlen := txB_len hc
  (try simp only [o_ext2_1, o_neq, bne_self_eq_false, condF, o_ext2_0])
  intro j hj
  skip
  refine hj _ fun _ => ?_
  refine (wBuffer Z (k := txB p.t) (n := (txB p.t).length) (x := v) (Ent.own (e := 5) m0) (by omega) (hS.pick 2)).mono fun r w2 hS => ?_
  show St o w2 (_ :: Wr gw (l ++ encL (txB p.t)) :: R)
  unfold encL
  rw [← List.append_assoc]
  (refine Sh.St.sub ?_ (hS); repeat (first | with_reducible exact sub_refl | with_reducible exact sub_nil | with_reducible refine sub_p0 ?_ | with_reducible refine sub_p1 ?_ | with_reducible refine sub_p2 ?_ | with_reducible refine sub_p3 ?_ | with_reducible refine sub_p4 ?_ | with_reducible refine sub_p5 ?_ | with_reducible refine sub_p6 ?_ | with_reducible refine sub_p7 ?_ | with_reducible refine sub_p8 ?_ | with_reducible refine sub_p9 ?_ | with_reducible refine sub_p10 ?_ | with_reducible refine sub_p11 ?_ | with_reducible refine sub_p12 ?_ | with_reducible refine sub_p13 ?_ | with_reducible refine sub_p14 ?_ | with_reducible refine sub_p15 ?_ | exact sub_refl | refine sub_p0 ?_ | refine sub_p1 ?_ | refine sub_p2 ?_ | refine sub_p3 ?_ | refine sub_p4 ?_ | refine sub_p5 ?_ | refine sub_p6 ?_ | refine sub_p7 ?_ | refine sub_p8 ?_ | refine sub_p9 ?_ | refine sub_p10 ?_ | refine sub_p11 ?_ | refine sub_p12 ?_ | refine sub_p13 ?_ | refine sub_p14 ?_ | refine sub_p15 ?_ | refine sub_drop ?_))
theorem put10 (hx : Ent o R fun w => RdP w p) (hb : p.b.length ≤ 4096) (hl : l.length ≤ 900000) (h : St o w (blk g 39 p.cells :: Wr gw l :: R)) : CallV Tryz.prog Z 110 #[.pointer (some ⟨gw, 0, none⟩), .pointer (some ⟨g, 0, none⟩)] w fun r w' => St o w' (blk g 39 p.cells :: Wr gw (l ++ fb p 10) :: R) := by
  refine f110.calls ?_
  unfold f110.sh
  (try simp only [o_chk, fa_39_11, Nat.zero_add])
  refine r_load one30 (h.at m0 30 rfl) ?_
  refine (wBuffer Z (k := p.b) (n := p.b.length) (x := p.bv) (fun w hw => (hx w hw.drop).b) (by omega) h.swap).mono fun r w2 hS => ?_
  show St o w2 (_ :: Wr gw (l ++ encL p.b) :: R)
  unfold encL
  rw [← List.append_assoc]
  exact hS.swap
theorem put11 (hl : l.length ≤ 900000) (h : St o w (blk g 39 p.cells :: Wr gw l :: R)) : CallV Tryz.prog Z 115 #[.pointer (some ⟨gw, 0, none⟩), .pointer (some ⟨g, 0, none⟩)] w fun r w' => St o w' (blk g 39 p.cells :: Wr gw (l ++ fb p 11) :: R) := by
  refine f115.calls ?_
  unfold f115.sh
  (try simp only [o_chk, fa_39_12, Nat.zero_add])
  refine r_load one2 (h.at m0 31 rfl) ?_
  refine (wInt64 Z p.se (by omega) h.swap).mono fun r w1 hS => ?_
  exact hS.swap
theorem putAt {kk : Value → World → Prop} {i : Nat} (hi : i < 12) (hr : rt p i = true) (hN : Names o) (ho : old o ∈ R) (hx : Ent o R fun w => RdP w p) (hl : l.length ≤ 900000) (h : St o w (blk g 39 p.cells :: Wr gw l :: R))
    (hk : ∀ r w', St o w' (blk g 39 p.cells :: Wr gw (l ++ fb p i) :: R) → kk r w') : runX Tryz.prog Z (callVal (putV i) #[.pointer (some ⟨gw, 0, none⟩), .pointer (some ⟨g, 0, none⟩)]) w kk := by
  obtain rfl | rfl | rfl | rfl | rfl | rfl | rfl | rfl | rfl | rfl | rfl | rfl := lt12 hi
  · exact r_callVal en181 (l1 := []) (l2 := [_, _]) (l3 := []) rfl rfl rfl ((put0 Z hl h).mono hk)
  · exact r_callVal en187 (l1 := []) (l2 := [_, _]) (l3 := []) rfl rfl rfl ((put1 Z hl h).mono hk)
  · exact r_callVal en190 (l1 := []) (l2 := [_, _]) (l3 := []) rfl rfl rfl ((put2 Z hl h).mono hk)
  · exact r_callVal en86 (l1 := []) (l2 := [_, _]) (l3 := []) rfl rfl rfl ((put3 Z hl h).mono hk)
  · exact r_callVal en89 (l1 := []) (l2 := [_, _]) (l3 := []) rfl rfl rfl ((put4 Z hl h).mono hk)
  · exact r_callVal en92 (l1 := []) (l2 := [_, _]) (l3 := []) rfl rfl rfl ((put5 Z hl h).mono hk)
  · exact r_callVal en97 (l1 := []) (l2 := [_, _]) (l3 := []) rfl rfl rfl ((put6 Z hl h).mono hk)
  · exact r_callVal en101 (l1 := []) (l2 := [_, _]) (l3 := []) rfl rfl rfl ((put7 Z hl h).mono hk)
  · exact r_callVal en105 (l1 := []) (l2 := [_, _]) (l3 := []) rfl rfl rfl ((put8 Z hl h).mono hk)
  · exact r_callVal en107 (l1 := []) (l2 := [_, _]) (l3 := []) rfl rfl rfl ((put9 Z hN ho hx (Bool.and_eq_true_iff.1 (show (chkT p.t && (if p.kd = 13 then ((p.t.e == 0) && (p.t.n == 0)) && decide (0 < p.t.nu) else decide (cmpZ p.ve p.vn p.t.e p.t.n < 0))) = true from hr)).1 hl h).mono hk)
  · exact r_callVal en110 (l1 := []) (l2 := [_, _]) (l3 := []) rfl rfl rfl ((put10 Z hx (by have := of_decide_eq_true (Bool.and_eq_true_iff.1 (show (decide (0 < (p.b.length : Int)) && decide ((p.b.length : Int) ≤ 4096)) = true from hr)).2; omega) hl h).mono hk)
  · exact r_callVal en115 (l1 := []) (l2 := [_, _]) (l3 := []) rfl rfl rfl ((put11 Z hl h).mono hk)
set_option maxRecDepth 100000 in
theorem writeP (hN : Names o) (hM : Named o) (ho : old o ∈ R) (hw : WfP p) (hx : Ent o R fun w => RdP w p) (h : St o w R) :
    CallV Tryz.prog Z 11 #[.agg p.cells.toArray] w fun r w' => if okP p then ∃ v, r = .tuple #[v, .int .i64 0] ∧ St o w' (own 5 1 v (pkB p).length (cb (pkB p)) :: R) else r = .tuple #[.slice none 0 0, .int .i64 150] ∧ St o w' R := by
  refine f11.calls ?_
  unfold f11.sh
  refine r_box _ _ h fun g w1 hS => ?_
  have hS : St o w1 (blk g 39 p.cells :: R) := hS
  refine r_loadN ag39 (xs := p.cells) rfl (hS.cells_at m0 0 (whole_at _)) ?_
  refine (chkP Z hN hM (by simp [ho]) (fun w hw => hx w hw.drop) hS).mono fun r w2 ⟨hr, hS⟩ => ?_
  subst hr
  cases hok : okP p with
  | false =>
    rw [if_neg Bool.false_ne_true]
    have h150 : ((150 : Int) != 0) = true := rfl
    (try simp only [fa_39_0, Nat.add_zero, o_neq, h150, condT])
    rw [if_neg Bool.false_ne_true]
    exact ⟨by first | rfl | trivial, hS.drop⟩
  | true =>
    obtain ⟨hkd, hbare, hall⟩ := okP_iff.1 hok
    have hK := isKd_le hkd
    rw [if_pos rfl]
    have h00 : ((0 : Int) != 0) = false := rfl
    (try simp only [fa_39_0, Nat.add_zero, o_neq, h00, condF])
    refine r_load one22 (hS.at m0 0 rfl) ?_
    refine (pnames Z p.kd hM (by simp [ho]) hS).mono fun r w3 ⟨hr, hw⟩ => ?_
    subst hr; subst hw
    rw [hkd]
    simp only [if_true]
    (try simp only [o_ext2_1, o_ext2_0])
    refine r_build (cells := #[.slice none 0 0]) (by kernel_rfl) ?_
    refine r_box _ _ hS fun gw w4 hS => ?_
    have hS := Wr.plain (g := gw) hS
    skip
    refine r_load one22 (hS.at m1 0 rfl) ?_
    refine (wInt8 Z p.kd (by simp) hS).mono fun r w5 hS => ?_
    rw [List.nil_append] at hS
    refine (fieldsC Z hS).mono fun r w6 hS => ?_
    obtain ⟨a, c, e⟩ := hS.own_form
    subst e
    (try simp only [ln_90_3])
    refine ⟨fun m y w' => ∃ i : Nat, y = .int .i64 i ∧ m + i = 12 ∧ St o w' (own 96 4 (.slice a 12 c) 12 flds.flatten :: blk g 39 p.cells :: Wr gw (fpre p.kd.toNat p i) :: R), ⟨12, 0, rfl, rfl, hS.put 1 |> fun h => by (refine Sh.St.sub ?_ (h); repeat (first | with_reducible exact sub_refl | with_reducible exact sub_nil | with_reducible refine sub_p0 ?_ | with_reducible refine sub_p1 ?_ | with_reducible refine sub_p2 ?_ | with_reducible refine sub_p3 ?_ | with_reducible refine sub_p4 ?_ | with_reducible refine sub_p5 ?_ | with_reducible refine sub_p6 ?_ | with_reducible refine sub_p7 ?_ | with_reducible refine sub_p8 ?_ | with_reducible refine sub_p9 ?_ | with_reducible refine sub_p10 ?_ | with_reducible refine sub_p11 ?_ | with_reducible refine sub_p12 ?_ | with_reducible refine sub_p13 ?_ | with_reducible refine sub_p14 ?_ | with_reducible refine sub_p15 ?_ | exact sub_refl | refine sub_p0 ?_ | refine sub_p1 ?_ | refine sub_p2 ?_ | refine sub_p3 ?_ | refine sub_p4 ?_ | refine sub_p5 ?_ | refine sub_p6 ?_ | refine sub_p7 ?_ | refine sub_p8 ?_ | refine sub_p9 ?_ | refine sub_p10 ?_ | refine sub_p11 ?_ | refine sub_p12 ?_ | refine sub_p13 ?_ | refine sub_p14 ?_ | refine sub_p15 ?_ | refine sub_drop ?_))⟩, ?_⟩
    clear hS
    rintro m _ w7 ⟨i, rfl, hi, hS⟩ _
    by_cases hlt : (i : Int) < ((12 : Nat) : Int)
    · have hil : i < 12 := by omega
      have hln := fpre_len hok hw i (by omega)
      (try simp only [o_add, o_lss, hlt, decide_true, condT])
      obtain ⟨b, q, hp, hc⟩ := (hS.own_rd m0).adr el90 .i64 i hil
      have hcc : ∀ j v, (fld i)[j]? = some v → w7.cell? ((⟨b, q, none⟩ : Addr).add j) = some v := fun j v hv => by
        rw [add_addr]
        exact hc w7 (hS.own_rd m0) j v (by rw [flds_cut hil]; exact hv)
      intro j9 hj9
      have HJ : ∀ w', St o w' (own 96 4 (.slice a 12 c) 12 flds.flatten :: blk g 39 p.cells :: Wr gw (fpre p.kd.toNat p (i + 1)) :: R) → j9 w' := fun w' hS => by
        refine hj9 w' fun _ => ?_
        rw [wr_i64 (x := (i : Int) + 1) (by omega) (by omega)]
        exact ⟨m - 1, by omega, i + 1, rfl, by omega, hS⟩
      clear hj9
      refine r1 (hp _) (r_loadN ag96 (xs := fld i) rfl hcc ?_)
      refine r_alloc hS ze96 fun gf w6 hS => ?_
      refine r_storeN hS ag96 (xs := fld i) rfl (show 0 + 4 ≤ 4 from Nat.le_refl _) (fld_ones hil) fun w7 hS => ?_
      rw [setL_all _ _ (by rfl)] at hS
      (try simp only [fa_96_1, Nat.zero_add, fa_96_0, Nat.add_zero])
      refine r_load one3 (hS.at m0 0 rfl) ?_
      obtain ⟨v, hv, _, hv1⟩ := andB p.kd.toNat i hK (by omega) ((2 ^ i : Nat) : Int) rfl
      refine r1 (hv _ _) ?_
      refine r1 (run_neq_int _ _ _ _ _ _ _ _) ?_
      rw [hv1]
      by_cases hh : hasF p.kd.toNat i = true
      · rw [hh]
        (try simp only [condT])
        refine r_load one92 (hS.at m0 1 rfl) ?_
        refine putAt Z (l := fpre p.kd.toNat p i) hil (hall i hil hh) hN (R := own 96 4 (.slice a 12 c) 12 flds.flatten :: blk gf 96 (fld i) :: R) (by simp [ho]) (fun w hw => hx w hw.drop.drop) (by omega) (by (refine Sh.St.sub ?_ (hS); repeat (first | with_reducible exact sub_refl | with_reducible exact sub_nil | with_reducible refine sub_p0 ?_ | with_reducible refine sub_p1 ?_ | with_reducible refine sub_p2 ?_ | with_reducible refine sub_p3 ?_ | with_reducible refine sub_p4 ?_ | with_reducible refine sub_p5 ?_ | with_reducible refine sub_p6 ?_ | with_reducible refine sub_p7 ?_ | with_reducible refine sub_p8 ?_ | with_reducible refine sub_p9 ?_ | with_reducible refine sub_p10 ?_ | with_reducible refine sub_p11 ?_ | with_reducible refine sub_p12 ?_ | with_reducible refine sub_p13 ?_ | with_reducible refine sub_p14 ?_ | with_reducible refine sub_p15 ?_ | exact sub_refl | refine sub_p0 ?_ | refine sub_p1 ?_ | refine sub_p2 ?_ | refine sub_p3 ?_ | refine sub_p4 ?_ | refine sub_p5 ?_ | refine sub_p6 ?_ | refine sub_p7 ?_ | refine sub_p8 ?_ | refine sub_p9 ?_ | refine sub_p10 ?_ | refine sub_p11 ?_ | refine sub_p12 ?_ | refine sub_p13 ?_ | refine sub_p14 ?_ | refine sub_p15 ?_ | refine sub_drop ?_))) fun _ w8 hS => ?_
        refine HJ _ ?_
        rw [fpre, hh]
        simp only [if_true]
        (refine Sh.St.sub ?_ (hS); repeat (first | with_reducible exact sub_refl | with_reducible exact sub_nil | with_reducible refine sub_p0 ?_ | with_reducible refine sub_p1 ?_ | with_reducible refine sub_p2 ?_ | with_reducible refine sub_p3 ?_ | with_reducible refine sub_p4 ?_ | with_reducible refine sub_p5 ?_ | with_reducible refine sub_p6 ?_ | with_reducible refine sub_p7 ?_ | with_reducible refine sub_p8 ?_ | with_reducible refine sub_p9 ?_ | with_reducible refine sub_p10 ?_ | with_reducible refine sub_p11 ?_ | with_reducible refine sub_p12 ?_ | with_reducible refine sub_p13 ?_ | with_reducible refine sub_p14 ?_ | with_reducible refine sub_p15 ?_ | exact sub_refl | refine sub_p0 ?_ | refine sub_p1 ?_ | refine sub_p2 ?_ | refine sub_p3 ?_ | refine sub_p4 ?_ | refine sub_p5 ?_ | refine sub_p6 ?_ | refine sub_p7 ?_ | refine sub_p8 ?_ | refine sub_p9 ?_ | refine sub_p10 ?_ | refine sub_p11 ?_ | refine sub_p12 ?_ | refine sub_p13 ?_ | refine sub_p14 ?_ | refine sub_p15 ?_ | refine sub_drop ?_))
      · have hh : hasF p.kd.toNat i = false := by simpa using hh
        rw [hh]
        (try simp only [condF])
        refine HJ _ ?_
        rw [fpre, hh]
        simp only [if_neg Bool.false_ne_true, List.append_nil]
        exact hS.drop
    · have hie : i = 12 := by omega
      subst hie
      have hln := fpre_len hok hw 12 (by omega)
      have had := adler_lt (body p)
      (try simp only [o_add, o_lss, hlt, decide_false, condF])
      have hS : St o w7 (Wr gw (body p) :: R) := by
        have hS' : St o w7 (own 96 4 (.slice a 12 c) 12 flds.flatten :: blk g 39 p.cells :: Wr gw (body p) :: R) := hS
        (refine Sh.St.sub ?_ (hS'); repeat (first | with_reducible exact sub_refl | with_reducible exact sub_nil | with_reducible refine sub_p0 ?_ | with_reducible refine sub_p1 ?_ | with_reducible refine sub_p2 ?_ | with_reducible refine sub_p3 ?_ | with_reducible refine sub_p4 ?_ | with_reducible refine sub_p5 ?_ | with_reducible refine sub_p6 ?_ | with_reducible refine sub_p7 ?_ | with_reducible refine sub_p8 ?_ | with_reducible refine sub_p9 ?_ | with_reducible refine sub_p10 ?_ | with_reducible refine sub_p11 ?_ | with_reducible refine sub_p12 ?_ | with_reducible refine sub_p13 ?_ | with_reducible refine sub_p14 ?_ | with_reducible refine sub_p15 ?_ | exact sub_refl | refine sub_p0 ?_ | refine sub_p1 ?_ | refine sub_p2 ?_ | refine sub_p3 ?_ | refine sub_p4 ?_ | refine sub_p5 ?_ | refine sub_p6 ?_ | refine sub_p7 ?_ | refine sub_p8 ?_ | refine sub_p9 ?_ | refine sub_p10 ?_ | refine sub_p11 ?_ | refine sub_p12 ?_ | refine sub_p13 ?_ | refine sub_p14 ?_ | refine sub_p15 ?_ | refine sub_drop ?_))
      have hbl : (body p).length ≤ 1 + 12 * 4200 := hln
      refine (wBytes Z (by omega) hS).mono fun b1 w8 hS => ?_
      refine r_build (cells := #[.slice none 0 0]) (by kernel_rfl) ?_
      refine r_box _ _ hS fun gv w9 hS => ?_
      have hS := Wr.plain (g := gv) hS
      refine (packSum Z (hS.own_rd (e := 5) m1)).mono fun r w10 ⟨hr, hw⟩ => ?_
      subst hr; subst hw
      refine (wUint32 Z (adler (body p)) (by simp) hS).mono fun r w11 hS => ?_
      rw [List.nil_append] at hS
      refine (wRaw Z (k := body p) (x := b1) (n := (body p).length) (Ent.own (e := 5) m0) (by rw [enc_length]; omega) hS).mono fun r w12 hS => ?_
      refine (wBytes Z (by rw [List.length_append, enc_length]; omega) hS).mono fun r w13 hS => ?_
      refine ⟨r, rfl, ?_⟩
      have hS : St o w13 (own 5 1 r (pkB p).length (cb (pkB p)) :: _) := hS
      (refine Sh.St.sub ?_ (hS); repeat (first | with_reducible exact sub_refl | with_reducible exact sub_nil | with_reducible refine sub_p0 ?_ | with_reducible refine sub_p1 ?_ | with_reducible refine sub_p2 ?_ | with_reducible refine sub_p3 ?_ | with_reducible refine sub_p4 ?_ | with_reducible refine sub_p5 ?_ | with_reducible refine sub_p6 ?_ | with_reducible refine sub_p7 ?_ | with_reducible refine sub_p8 ?_ | with_reducible refine sub_p9 ?_ | with_reducible refine sub_p10 ?_ | with_reducible refine sub_p11 ?_ | with_reducible refine sub_p12 ?_ | with_reducible refine sub_p13 ?_ | with_reducible refine sub_p14 ?_ | with_reducible refine sub_p15 ?_ | exact sub_refl | refine sub_p0 ?_ | refine sub_p1 ?_ | refine sub_p2 ?_ | refine sub_p3 ?_ | refine sub_p4 ?_ | refine sub_p5 ?_ | refine sub_p6 ?_ | refine sub_p7 ?_ | refine sub_p8 ?_ | refine sub_p9 ?_ | refine sub_p10 ?_ | refine sub_p11 ?_ | refine sub_p12 ?_ | refine sub_p13 ?_ | refine sub_p14 ?_ | refine sub_p15 ?_ | refine sub_drop ?_))
end
end Go.Proofs.YtfijkedmbaghmaaGreatDoor
