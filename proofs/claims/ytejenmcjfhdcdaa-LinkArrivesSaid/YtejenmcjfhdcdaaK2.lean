/- Nets: Double and Spoil. -/
import Derived.Test.YtejenmcjfhdcdaaK1
set_option linter.unusedVariables false
set_option linter.unusedSimpArgs false
namespace Go.Proofs.Ytejenmcjfhdcdaa
open Go.Sh
theorem u8_xor (a b : UInt8) : IntKind.u8.wrap (BitVec.ofInt IntKind.u8.bits (a.toNat : Int) ^^^ BitVec.ofInt IntKind.u8.bits (b.toNat : Int)).toNat = ((a ^^^ b).toNat : Int) := by
  have e : IntKind.u8.bits = 8 := rfl
  rw [e, BitVec.ofInt_natCast, BitVec.ofInt_natCast, BitVec.toNat_xor, BitVec.toNat_ofNat, BitVec.toNat_ofNat, UInt8.toNat_xor]
  have h1 : a.toNat % 2 ^ 8 = a.toNat := Nat.mod_eq_of_lt a.toNat_lt
  have h2 : b.toNat % 2 ^ 8 = b.toNat := Nat.mod_eq_of_lt b.toNat_lt
  have h3 : (a.toNat ^^^ b.toNat) < 2 ^ 8 := Nat.xor_lt_two_pow a.toNat_lt b.toNat_lt
  rw [h1, h2, wr_u8 (by omega) (by omega)]
theorem cb_set (l : List UInt8) (i : Nat) (b : UInt8) : (cb l).set i (.int .u8 b.toNat) = cb (l.set i b) := by simp [cb, List.map_set]
theorem mc_at {L : List (Msg × Value)} {p j : Nat} (hp : p < L.length) (hj : j < 4) : (L.flatMap mc)[p * 4 + j]? = (mc L[p])[j]? := by
  have h := flatten_at (sz := 4) (css := L.map mc) (fun c hc => by obtain ⟨q, _, rfl⟩ := List.mem_map.1 hc; rfl) p j (mc L[p]) ((mc L[p])[j]'hj) (by rw [List.getElem?_map, List.getElem?_eq_getElem hp]; rfl) (List.getElem?_eq_getElem hj)
  rw [List.flatMap_def, h]
  exact (List.getElem?_eq_getElem (l := mc L[p]) hj).symm
section
variable (Z : List PanicEntry → World → Prop) {o w : World} {R : List HProp} {g : Nat} {n : Int} {ms : List Msg} {k : List UInt8} {v : Value} {L : List (Msg × Value)}
theorem Msgs.cell {As : List HProp} {b c p : Nat} (h : St o w As) (hm : Msgs (.slice (some ⟨b, 0, none⟩) L.length c) L ∈ As) (hp : p < L.length) (j : Nat) (hj : j < 4) (u : Value) (hu : (mc L[p])[j]? = some u) : w.cell? ⟨b, p * 4 + j, none⟩ = some u := by
  obtain ⟨_, _, ⟨_, hx, hz⟩ | ⟨a, c', hx, hc⟩⟩ := h.own_rd hm
  · omega
  · injection hx with hx _ _
    injection hx with hx
    subst hx
    have := hc (p * 4 + j) u (by rw [mc_at hp hj]; exact hu)
    rwa [add_addr, Nat.zero_add] at this
theorem kAgain {b c : Nat} (p : Nat) (hp : p < ms.length) (hml : ms.length ≤ 1000000000) (hbl : ms[p].b.length ≤ 140737488355328) (hL : L.map (·.1) = ms) (h : St o w (blk g 51 [.int .i64 n, .slice (some ⟨b, 0, none⟩) L.length c] :: Msgs (.slice (some ⟨b, 0, none⟩) L.length c) L :: satH (L.map mb) :: R)) :
    CallV Try.prog Z 23 #[.pointer (some ⟨g, 0, none⟩), .pointer (some ⟨b, p * 4, none⟩)] w fun r w' => r = .int .i64 0 ∧ St o w' (Net g n (ms ++ [ms[p]]) :: R) := by
  subst hL
  rw [List.length_map] at hp hml
  rw [List.getElem_map] at hbl ⊢
  refine f23.calls ?_
  unfold f23.sh
  refine ⟨fun w2 hd => ?_⟩
  have hS := h.drew hd
  (try simp only [ln_22_3, ln_22_3p, ln_25_3, ln_25_3p, eqlp_26, eqlp_26p, eqln_26, eqln_26p, ln_23_3, ln_23_3p, fa_34_2, fa_34_2p, fa_34_3, fa_34_3p, ln_40_3, ln_40_3p, fa_43_0, fa_43_0p, fa_43_2, fa_43_2p, fa_43_3, fa_43_3p, fa_43_4, fa_43_4p, fa_43_5, fa_43_5p, fa_43_6, fa_43_6p, fa_43_7, fa_43_7p, fa_34_0, fa_34_0p, fa_34_1, fa_34_1p, fa_51_1, fa_51_1p, ln_49_3, ln_49_3p, fa_51_0, fa_51_0p, cv_31_3, cv_31_3p, neqb_4, neqb_4p, o_add, o_addp, o_sub, o_subp, o_mul, o_mulp, o_lss, o_lssp, o_leq, o_leqp, o_gtr, o_gtrp, o_geq, o_geqp, o_eql, o_eqlp, o_neq, o_neqp, os_eql, os_eqlp, os_neq, os_neqp, o_and, o_andp, o_or, o_orp, o_xor, o_xorp, o_not, o_notp, o_pickT, o_pickTp, o_pickF, o_pickFp, o_ext1_0, o_ext1_0p, o_ext2_0, o_ext2_0p, o_ext2_1, o_ext2_1p, o_ext3_0, o_ext3_0p, o_ext3_1, o_ext3_1p, o_ext3_2, o_ext3_2p, o_ext4_0, o_ext4_0p, o_ext4_1, o_ext4_1p, o_ext4_2, o_ext4_2p, o_ext4_3, o_ext4_3p, o_ext5_0, o_ext5_0p, o_ext5_1, o_ext5_1p, o_ext5_2, o_ext5_2p, o_ext5_3, o_ext5_3p, o_ext5_4, o_ext5_4p, o_max, o_maxp, o_min, o_minp, o_fn, o_fnp, o_chk, o_chkp, condT, condF, cond_decide, cond_beq, cond_bne, cond_not, guardW_true, guardW_ff, guardW_tf, guardW_ft, guardV_true, guardV_ff, guardV_tf, guardV_ft, still_tt, still_ff, still_tf, still_ft, guardV_u, guardW_u, still_u, Nat.zero_add, Nat.add_zero, beq_self_eq_true, bne_self_eq_false, Int.reduceBEq, Int.reduceBNe, Int.reduceLT, Int.reduceLE, decide_true, decide_false, Bool.not_true, Bool.not_false])
  refine rr_load one49 (hS.at List.mem_cons_self 1 rfl) ?_
  (try simp only [ln_22_3, ln_22_3p, ln_25_3, ln_25_3p, eqlp_26, eqlp_26p, eqln_26, eqln_26p, ln_23_3, ln_23_3p, fa_34_2, fa_34_2p, fa_34_3, fa_34_3p, ln_40_3, ln_40_3p, fa_43_0, fa_43_0p, fa_43_2, fa_43_2p, fa_43_3, fa_43_3p, fa_43_4, fa_43_4p, fa_43_5, fa_43_5p, fa_43_6, fa_43_6p, fa_43_7, fa_43_7p, fa_34_0, fa_34_0p, fa_34_1, fa_34_1p, fa_51_1, fa_51_1p, ln_49_3, ln_49_3p, fa_51_0, fa_51_0p, cv_31_3, cv_31_3p, neqb_4, neqb_4p, o_add, o_addp, o_sub, o_subp, o_mul, o_mulp, o_lss, o_lssp, o_leq, o_leqp, o_gtr, o_gtrp, o_geq, o_geqp, o_eql, o_eqlp, o_neq, o_neqp, os_eql, os_eqlp, os_neq, os_neqp, o_and, o_andp, o_or, o_orp, o_xor, o_xorp, o_not, o_notp, o_pickT, o_pickTp, o_pickF, o_pickFp, o_ext1_0, o_ext1_0p, o_ext2_0, o_ext2_0p, o_ext2_1, o_ext2_1p, o_ext3_0, o_ext3_0p, o_ext3_1, o_ext3_1p, o_ext3_2, o_ext3_2p, o_ext4_0, o_ext4_0p, o_ext4_1, o_ext4_1p, o_ext4_2, o_ext4_2p, o_ext4_3, o_ext4_3p, o_ext5_0, o_ext5_0p, o_ext5_1, o_ext5_1p, o_ext5_2, o_ext5_2p, o_ext5_3, o_ext5_3p, o_ext5_4, o_ext5_4p, o_max, o_maxp, o_min, o_minp, o_fn, o_fnp, o_chk, o_chkp, condT, condF, cond_decide, cond_beq, cond_bne, cond_not, guardW_true, guardW_ff, guardW_tf, guardW_ft, guardV_true, guardV_ff, guardV_tf, guardV_ft, still_tt, still_ff, still_tf, still_ft, guardV_u, guardW_u, still_u, Nat.zero_add, Nat.add_zero, beq_self_eq_true, bne_self_eq_false, Int.reduceBEq, Int.reduceBNe, Int.reduceLT, Int.reduceLE, decide_true, decide_false, Bool.not_true, Bool.not_false])
  refine rr_loadN ag34 (xs := mc L[p]) rfl (fun j u hu => by
    have hj : j < 4 := (List.getElem?_eq_some_iff.1 hu).1
    rw [add_addr]; exact Msgs.cell hS m1 hp j hj u hu) ?_
  have hmem : mb L[p] ∈ L.map mb := List.mem_map_of_mem (List.getElem_mem hp)
  refine (kOwn Z (xv := L[p].2) (m := L[p].1.b.length) (k := L[p].1.b) hS (fun w hS => (hS.pick 2).all.own_rd (List.mem_append_left _ hmem)) hbl).mono fun r w3 hq => ?_
  obtain ⟨u, rfl, hS⟩ := hq
  refine rs_load one49 (hS.at m1 1 rfl) ?_
  have huo : u.oneCell' = true := by obtain ⟨_, _, e⟩ := hS.own_form; rw [e]; rfl
  have hones : ones [Value.int .i8 L[p].1.frm, .int .i8 L[p].1.to_, u, .bool L[p].1.sp] := by
    intro q hq; simp at hq; rcases hq with rfl | rfl | rfl | rfl
    · rfl
    · rfl
    · exact huo
    · rfl
  refine r_sliceN el49 hS 1 _ [[.int .i8 L[p].1.frm, .int .i8 L[p].1.to_, u, .bool L[p].1.sp]] rfl (by omega) (by omega) (by omega) (by simp) rfl fun g4 w4 hS => ?_
  refine rs_load one49 (hS.at m2 1 rfl) ?_
  have e1 : [[Value.int .i8 L[p].1.frm, .int .i8 L[p].1.to_, u, .bool L[p].1.sp]].flatten = [.int .i8 L[p].1.frm, .int .i8 L[p].1.to_, u, .bool L[p].1.sp] := rfl
  rw [e1] at hS
  have hsrc := (hS.own_rd List.mem_cons_self).src Try.underlying49 hones
  refine r_append el49 (hS.pick 3) hsrc (by omega) (by simp only [maxLen]; omega) fun v' w5 hS => ?_
  (try simp only [ln_22_3, ln_22_3p, ln_25_3, ln_25_3p, eqlp_26, eqlp_26p, eqln_26, eqln_26p, ln_23_3, ln_23_3p, fa_34_2, fa_34_2p, fa_34_3, fa_34_3p, ln_40_3, ln_40_3p, fa_43_0, fa_43_0p, fa_43_2, fa_43_2p, fa_43_3, fa_43_3p, fa_43_4, fa_43_4p, fa_43_5, fa_43_5p, fa_43_6, fa_43_6p, fa_43_7, fa_43_7p, fa_34_0, fa_34_0p, fa_34_1, fa_34_1p, fa_51_1, fa_51_1p, ln_49_3, ln_49_3p, fa_51_0, fa_51_0p, cv_31_3, cv_31_3p, neqb_4, neqb_4p, o_add, o_addp, o_sub, o_subp, o_mul, o_mulp, o_lss, o_lssp, o_leq, o_leqp, o_gtr, o_gtrp, o_geq, o_geqp, o_eql, o_eqlp, o_neq, o_neqp, os_eql, os_eqlp, os_neq, os_neqp, o_and, o_andp, o_or, o_orp, o_xor, o_xorp, o_not, o_notp, o_pickT, o_pickTp, o_pickF, o_pickFp, o_ext1_0, o_ext1_0p, o_ext2_0, o_ext2_0p, o_ext2_1, o_ext2_1p, o_ext3_0, o_ext3_0p, o_ext3_1, o_ext3_1p, o_ext3_2, o_ext3_2p, o_ext4_0, o_ext4_0p, o_ext4_1, o_ext4_1p, o_ext4_2, o_ext4_2p, o_ext4_3, o_ext4_3p, o_ext5_0, o_ext5_0p, o_ext5_1, o_ext5_1p, o_ext5_2, o_ext5_2p, o_ext5_3, o_ext5_3p, o_ext5_4, o_ext5_4p, o_max, o_maxp, o_min, o_minp, o_fn, o_fnp, o_chk, o_chkp, condT, condF, cond_decide, cond_beq, cond_bne, cond_not, guardW_true, guardW_ff, guardW_tf, guardW_ft, guardV_true, guardV_ff, guardV_tf, guardV_ft, still_tt, still_ff, still_tf, still_ft, guardV_u, guardW_u, still_u, Nat.zero_add, Nat.add_zero, beq_self_eq_true, bne_self_eq_false, Int.reduceBEq, Int.reduceBNe, Int.reduceLT, Int.reduceLE, decide_true, decide_false, Bool.not_true, Bool.not_false])
  have hvo : v'.oneCell' = true := by obtain ⟨_, _, e⟩ := hS.own_form; rw [e]; rfl
  refine r_store (hS.pick 3) one49 (by simp) hvo fun w6 hS => ?_
  refine ⟨by first | rfl | trivial, ?_⟩
  refine Net.shut (v := v') (L := L ++ [(L[p].1, u)]) (by rw [List.map_append]; rfl) ?_
  have hS := (hS.pick 2).drop
  have hfl : (L ++ [(L[p].1, u)]).flatMap mc = L.flatMap mc ++ [.int .i8 L[p].1.frm, .int .i8 L[p].1.to_, u, .bool L[p].1.sp] := by rw [List.flatMap_append]; rfl
  unfold Msgs
  rw [hfl, List.length_append, List.map_append]
  exact (((hS.pick 2).pick 3).all_snoc.pick 2).pick 2
theorem kDouble (p : Int) (h0 : n ≠ 0) (hml : ms.length ≤ 1000000000) (hbl : ∀ m ∈ ms, m.b.length ≤ 140737488355328) (h : St o w (Net g n ms :: R)) : CallV Try.prog Z 14 #[.pointer (some ⟨g, 0, none⟩), .int .i64 p] w fun r w' =>
    (∃ q : Nat, ∃ hq : q < ms.length, p = q ∧ r = .int .i64 0 ∧ St o w' (Net g n (ms ++ [ms[q]]) :: R)) ∨ ((p < 0 ∨ (ms.length : Int) ≤ p) ∧ r = .int .i64 220 ∧ St o w' (Net g n ms :: R)) := by
  refine f14.calls ?_
  unfold f14.sh
  (try simp only [ln_22_3, ln_22_3p, ln_25_3, ln_25_3p, eqlp_26, eqlp_26p, eqln_26, eqln_26p, ln_23_3, ln_23_3p, fa_34_2, fa_34_2p, fa_34_3, fa_34_3p, ln_40_3, ln_40_3p, fa_43_0, fa_43_0p, fa_43_2, fa_43_2p, fa_43_3, fa_43_3p, fa_43_4, fa_43_4p, fa_43_5, fa_43_5p, fa_43_6, fa_43_6p, fa_43_7, fa_43_7p, fa_34_0, fa_34_0p, fa_34_1, fa_34_1p, fa_51_1, fa_51_1p, ln_49_3, ln_49_3p, fa_51_0, fa_51_0p, cv_31_3, cv_31_3p, neqb_4, neqb_4p, o_add, o_addp, o_sub, o_subp, o_mul, o_mulp, o_lss, o_lssp, o_leq, o_leqp, o_gtr, o_gtrp, o_geq, o_geqp, o_eql, o_eqlp, o_neq, o_neqp, os_eql, os_eqlp, os_neq, os_neqp, o_and, o_andp, o_or, o_orp, o_xor, o_xorp, o_not, o_notp, o_pickT, o_pickTp, o_pickF, o_pickFp, o_ext1_0, o_ext1_0p, o_ext2_0, o_ext2_0p, o_ext2_1, o_ext2_1p, o_ext3_0, o_ext3_0p, o_ext3_1, o_ext3_1p, o_ext3_2, o_ext3_2p, o_ext4_0, o_ext4_0p, o_ext4_1, o_ext4_1p, o_ext4_2, o_ext4_2p, o_ext4_3, o_ext4_3p, o_ext5_0, o_ext5_0p, o_ext5_1, o_ext5_1p, o_ext5_2, o_ext5_2p, o_ext5_3, o_ext5_3p, o_ext5_4, o_ext5_4p, o_max, o_maxp, o_min, o_minp, o_fn, o_fnp, o_chk, o_chkp, condT, condF, cond_decide, cond_beq, cond_bne, cond_not, guardW_true, guardW_ff, guardW_tf, guardW_ft, guardV_true, guardV_ff, guardV_tf, guardV_ft, still_tt, still_ff, still_tf, still_ft, guardV_u, guardW_u, still_u, Nat.zero_add, Nat.add_zero, beq_self_eq_true, bne_self_eq_false, Int.reduceBEq, Int.reduceBNe, Int.reduceLT, Int.reduceLE, decide_true, decide_false, Bool.not_true, Bool.not_false])
  obtain ⟨v, L, hL, hS⟩ := Net.open h
  have hll : L.length = ms.length := by rw [← hL, List.length_map]
  by_cases hp : p < 0 ∨ (ms.length : Int) ≤ p
  · refine (kAt_out Z _ p h0 hS m0 m1 (by omega)).mono fun r w1 ⟨hr, hw⟩ => ?_
    subst hw
    exact .inr ⟨hp, hr, h⟩
  · obtain ⟨q, rfl⟩ : ∃ q : Nat, p = q := ⟨p.toNat, by omega⟩
    have hq : q < ms.length := by omega
    refine kAt Z _ q h0 hS m0 m1 (by omega) fun b c hv => ?_
    subst hv
    refine r_callVal en23 rfl rfl rfl ?_
    exact (kAgain Z q hq hml (hbl _ (List.getElem_mem hq)) hL hS).mono fun r w1 ⟨hr, hS⟩ => .inl ⟨q, hq, rfl, hr, hS⟩
def spoils (m : Msg) (a : Int) (x : UInt8) : Prop := 0 ≤ a ∧ a < m.b.length ∧ x ≠ 0
def spoilt (m : Msg) (a : Nat) (x : UInt8) : Msg := ⟨m.frm, m.to_, m.b.set a (m.b.getD a 0 ^^^ x), true⟩
theorem kSpoil1 {b c g1 g2 : Nat} (p : Nat) (a : Int) (x : UInt8) (hp : p < ms.length) (hL : L.map (·.1) = ms) (h : St o w (blk g2 5 [.int .u8 x.toNat] :: blk g1 3 [.int .i64 a] :: blk g 51 [.int .i64 n, .slice (some ⟨b, 0, none⟩) L.length c] :: Msgs (.slice (some ⟨b, 0, none⟩) L.length c) L :: satH (L.map mb) :: R)) :
    CallV Try.prog Z 24 #[.pointer (some ⟨b, p * 4, none⟩), .pointer (some ⟨g1, 0, none⟩), .pointer (some ⟨g2, 0, none⟩)] w fun r w' =>
      (¬ spoils ms[p] a x ∧ r = .int .i64 1 ∧ St o w' (Net g n ms :: R)) ∨ (ms[p].sp = true ∧ r = .int .i64 220 ∧ St o w' (Net g n ms :: R)) ∨
      (spoils ms[p] a x ∧ ms[p].sp = false ∧ r = .int .i64 0 ∧ St o w' (Net g n (ms.set p (spoilt ms[p] a.toNat x)) :: R)) := by
  obtain ⟨La, qq, Lb, rfl, hLa, hqq, _⟩ := L_split hL hp
  subst hLa
  rw [← hqq]
  have hpl : La.length < (La ++ qq :: Lb).length := by simp
  have hg : (La ++ qq :: Lb)[La.length] = qq := by simp
  have hsame : ∀ {w : World}, St o w (blk g2 5 [.int .u8 x.toNat] :: blk g1 3 [.int .i64 a] :: blk g 51 [.int .i64 n, .slice (some ⟨b, 0, none⟩) (La ++ qq :: Lb).length c] :: Msgs (.slice (some ⟨b, 0, none⟩) (La ++ qq :: Lb).length c) (La ++ qq :: Lb) :: satH ((La ++ qq :: Lb).map mb) :: R) → St o w (Net g n ms :: R) := fun h => Net.shut hL h.drop.drop
  have hcell := fun {w : World} (h : St o w (blk g2 5 [.int .u8 x.toNat] :: blk g1 3 [.int .i64 a] :: blk g 51 [.int .i64 n, .slice (some ⟨b, 0, none⟩) (La ++ qq :: Lb).length c] :: Msgs (.slice (some ⟨b, 0, none⟩) (La ++ qq :: Lb).length c) (La ++ qq :: Lb) :: satH ((La ++ qq :: Lb).map mb) :: R)) (j : Nat) (hj : j < 4) (u : Value) (hu : (mc qq)[j]? = some u) => Msgs.cell h m3 hpl j hj u (by rw [hg]; exact hu)
  have hmem : mb qq ∈ (La ++ qq :: Lb).map mb := List.mem_map_of_mem (by simp)
  have hrd := fun {w : World} (h : St o w (blk g2 5 [.int .u8 x.toNat] :: blk g1 3 [.int .i64 a] :: blk g 51 [.int .i64 n, .slice (some ⟨b, 0, none⟩) (La ++ qq :: Lb).length c] :: Msgs (.slice (some ⟨b, 0, none⟩) (La ++ qq :: Lb).length c) (La ++ qq :: Lb) :: satH ((La ++ qq :: Lb).map mb) :: R)) => (h.pick 4).all.own_rd (List.mem_append_left _ hmem)
  obtain ⟨va, vc, hvf⟩ := (hrd h).form
  refine f24.calls ?_
  unfold f24.sh
  refine ⟨fun w2 hd => ?_⟩
  have hS := h.drew hd
  refine rr_load one3 (hS.at m1 0 rfl) ?_
  by_cases h1 : a < 0
  · (try simp only [h1, ln_22_3, ln_22_3p, ln_25_3, ln_25_3p, eqlp_26, eqlp_26p, eqln_26, eqln_26p, ln_23_3, ln_23_3p, fa_34_2, fa_34_2p, fa_34_3, fa_34_3p, ln_40_3, ln_40_3p, fa_43_0, fa_43_0p, fa_43_2, fa_43_2p, fa_43_3, fa_43_3p, fa_43_4, fa_43_4p, fa_43_5, fa_43_5p, fa_43_6, fa_43_6p, fa_43_7, fa_43_7p, fa_34_0, fa_34_0p, fa_34_1, fa_34_1p, fa_51_1, fa_51_1p, ln_49_3, ln_49_3p, fa_51_0, fa_51_0p, cv_31_3, cv_31_3p, neqb_4, neqb_4p, o_add, o_addp, o_sub, o_subp, o_mul, o_mulp, o_lss, o_lssp, o_leq, o_leqp, o_gtr, o_gtrp, o_geq, o_geqp, o_eql, o_eqlp, o_neq, o_neqp, os_eql, os_eqlp, os_neq, os_neqp, o_and, o_andp, o_or, o_orp, o_xor, o_xorp, o_not, o_notp, o_pickT, o_pickTp, o_pickF, o_pickFp, o_ext1_0, o_ext1_0p, o_ext2_0, o_ext2_0p, o_ext2_1, o_ext2_1p, o_ext3_0, o_ext3_0p, o_ext3_1, o_ext3_1p, o_ext3_2, o_ext3_2p, o_ext4_0, o_ext4_0p, o_ext4_1, o_ext4_1p, o_ext4_2, o_ext4_2p, o_ext4_3, o_ext4_3p, o_ext5_0, o_ext5_0p, o_ext5_1, o_ext5_1p, o_ext5_2, o_ext5_2p, o_ext5_3, o_ext5_3p, o_ext5_4, o_ext5_4p, o_max, o_maxp, o_min, o_minp, o_fn, o_fnp, o_chk, o_chkp, condT, condF, cond_decide, cond_beq, cond_bne, cond_not, guardW_true, guardW_ff, guardW_tf, guardW_ft, guardV_true, guardV_ff, guardV_tf, guardV_ft, still_tt, still_ff, still_tf, still_ft, guardV_u, guardW_u, still_u, Nat.zero_add, Nat.add_zero, beq_self_eq_true, bne_self_eq_false, Int.reduceBEq, Int.reduceBNe, Int.reduceLT, Int.reduceLE, decide_true, decide_false, Bool.not_true, Bool.not_false])
    exact .inl ⟨fun hs => by have := hs.1; omega, trivial, hsame hS⟩
  (try simp only [h1, ln_22_3, ln_22_3p, ln_25_3, ln_25_3p, eqlp_26, eqlp_26p, eqln_26, eqln_26p, ln_23_3, ln_23_3p, fa_34_2, fa_34_2p, fa_34_3, fa_34_3p, ln_40_3, ln_40_3p, fa_43_0, fa_43_0p, fa_43_2, fa_43_2p, fa_43_3, fa_43_3p, fa_43_4, fa_43_4p, fa_43_5, fa_43_5p, fa_43_6, fa_43_6p, fa_43_7, fa_43_7p, fa_34_0, fa_34_0p, fa_34_1, fa_34_1p, fa_51_1, fa_51_1p, ln_49_3, ln_49_3p, fa_51_0, fa_51_0p, cv_31_3, cv_31_3p, neqb_4, neqb_4p, o_add, o_addp, o_sub, o_subp, o_mul, o_mulp, o_lss, o_lssp, o_leq, o_leqp, o_gtr, o_gtrp, o_geq, o_geqp, o_eql, o_eqlp, o_neq, o_neqp, os_eql, os_eqlp, os_neq, os_neqp, o_and, o_andp, o_or, o_orp, o_xor, o_xorp, o_not, o_notp, o_pickT, o_pickTp, o_pickF, o_pickFp, o_ext1_0, o_ext1_0p, o_ext2_0, o_ext2_0p, o_ext2_1, o_ext2_1p, o_ext3_0, o_ext3_0p, o_ext3_1, o_ext3_1p, o_ext3_2, o_ext3_2p, o_ext4_0, o_ext4_0p, o_ext4_1, o_ext4_1p, o_ext4_2, o_ext4_2p, o_ext4_3, o_ext4_3p, o_ext5_0, o_ext5_0p, o_ext5_1, o_ext5_1p, o_ext5_2, o_ext5_2p, o_ext5_3, o_ext5_3p, o_ext5_4, o_ext5_4p, o_max, o_maxp, o_min, o_minp, o_fn, o_fnp, o_chk, o_chkp, condT, condF, cond_decide, cond_beq, cond_bne, cond_not, guardW_true, guardW_ff, guardW_tf, guardW_ft, guardV_true, guardV_ff, guardV_tf, guardV_ft, still_tt, still_ff, still_tf, still_ft, guardV_u, guardW_u, still_u, Nat.zero_add, Nat.add_zero, beq_self_eq_true, bne_self_eq_false, Int.reduceBEq, Int.reduceBNe, Int.reduceLT, Int.reduceLE, decide_true, decide_false, Bool.not_true, Bool.not_false])
  refine rr_load one3 (hS.at m1 0 rfl) ?_
  (try simp only [ln_22_3, ln_22_3p, ln_25_3, ln_25_3p, eqlp_26, eqlp_26p, eqln_26, eqln_26p, ln_23_3, ln_23_3p, fa_34_2, fa_34_2p, fa_34_3, fa_34_3p, ln_40_3, ln_40_3p, fa_43_0, fa_43_0p, fa_43_2, fa_43_2p, fa_43_3, fa_43_3p, fa_43_4, fa_43_4p, fa_43_5, fa_43_5p, fa_43_6, fa_43_6p, fa_43_7, fa_43_7p, fa_34_0, fa_34_0p, fa_34_1, fa_34_1p, fa_51_1, fa_51_1p, ln_49_3, ln_49_3p, fa_51_0, fa_51_0p, cv_31_3, cv_31_3p, neqb_4, neqb_4p, o_add, o_addp, o_sub, o_subp, o_mul, o_mulp, o_lss, o_lssp, o_leq, o_leqp, o_gtr, o_gtrp, o_geq, o_geqp, o_eql, o_eqlp, o_neq, o_neqp, os_eql, os_eqlp, os_neq, os_neqp, o_and, o_andp, o_or, o_orp, o_xor, o_xorp, o_not, o_notp, o_pickT, o_pickTp, o_pickF, o_pickFp, o_ext1_0, o_ext1_0p, o_ext2_0, o_ext2_0p, o_ext2_1, o_ext2_1p, o_ext3_0, o_ext3_0p, o_ext3_1, o_ext3_1p, o_ext3_2, o_ext3_2p, o_ext4_0, o_ext4_0p, o_ext4_1, o_ext4_1p, o_ext4_2, o_ext4_2p, o_ext4_3, o_ext4_3p, o_ext5_0, o_ext5_0p, o_ext5_1, o_ext5_1p, o_ext5_2, o_ext5_2p, o_ext5_3, o_ext5_3p, o_ext5_4, o_ext5_4p, o_max, o_maxp, o_min, o_minp, o_fn, o_fnp, o_chk, o_chkp, condT, condF, cond_decide, cond_beq, cond_bne, cond_not, guardW_true, guardW_ff, guardW_tf, guardW_ft, guardV_true, guardV_ff, guardV_tf, guardV_ft, still_tt, still_ff, still_tf, still_ft, guardV_u, guardW_u, still_u, Nat.zero_add, Nat.add_zero, beq_self_eq_true, bne_self_eq_false, Int.reduceBEq, Int.reduceBNe, Int.reduceLT, Int.reduceLE, decide_true, decide_false, Bool.not_true, Bool.not_false])
  refine rr_load one25 (hcell hS 2 (by omega) qq.2 rfl) ?_
  rw [hvf]
  by_cases h2 : (qq.1.b.length : Int) ≤ a
  · (try simp only [h2, ln_22_3, ln_22_3p, ln_25_3, ln_25_3p, eqlp_26, eqlp_26p, eqln_26, eqln_26p, ln_23_3, ln_23_3p, fa_34_2, fa_34_2p, fa_34_3, fa_34_3p, ln_40_3, ln_40_3p, fa_43_0, fa_43_0p, fa_43_2, fa_43_2p, fa_43_3, fa_43_3p, fa_43_4, fa_43_4p, fa_43_5, fa_43_5p, fa_43_6, fa_43_6p, fa_43_7, fa_43_7p, fa_34_0, fa_34_0p, fa_34_1, fa_34_1p, fa_51_1, fa_51_1p, ln_49_3, ln_49_3p, fa_51_0, fa_51_0p, cv_31_3, cv_31_3p, neqb_4, neqb_4p, o_add, o_addp, o_sub, o_subp, o_mul, o_mulp, o_lss, o_lssp, o_leq, o_leqp, o_gtr, o_gtrp, o_geq, o_geqp, o_eql, o_eqlp, o_neq, o_neqp, os_eql, os_eqlp, os_neq, os_neqp, o_and, o_andp, o_or, o_orp, o_xor, o_xorp, o_not, o_notp, o_pickT, o_pickTp, o_pickF, o_pickFp, o_ext1_0, o_ext1_0p, o_ext2_0, o_ext2_0p, o_ext2_1, o_ext2_1p, o_ext3_0, o_ext3_0p, o_ext3_1, o_ext3_1p, o_ext3_2, o_ext3_2p, o_ext4_0, o_ext4_0p, o_ext4_1, o_ext4_1p, o_ext4_2, o_ext4_2p, o_ext4_3, o_ext4_3p, o_ext5_0, o_ext5_0p, o_ext5_1, o_ext5_1p, o_ext5_2, o_ext5_2p, o_ext5_3, o_ext5_3p, o_ext5_4, o_ext5_4p, o_max, o_maxp, o_min, o_minp, o_fn, o_fnp, o_chk, o_chkp, condT, condF, cond_decide, cond_beq, cond_bne, cond_not, guardW_true, guardW_ff, guardW_tf, guardW_ft, guardV_true, guardV_ff, guardV_tf, guardV_ft, still_tt, still_ff, still_tf, still_ft, guardV_u, guardW_u, still_u, Nat.zero_add, Nat.add_zero, beq_self_eq_true, bne_self_eq_false, Int.reduceBEq, Int.reduceBNe, Int.reduceLT, Int.reduceLE, decide_true, decide_false, Bool.not_true, Bool.not_false])
    exact .inl ⟨fun hs => by have := hs.2.1; omega, trivial, hsame hS⟩
  (try simp only [h2, ln_22_3, ln_22_3p, ln_25_3, ln_25_3p, eqlp_26, eqlp_26p, eqln_26, eqln_26p, ln_23_3, ln_23_3p, fa_34_2, fa_34_2p, fa_34_3, fa_34_3p, ln_40_3, ln_40_3p, fa_43_0, fa_43_0p, fa_43_2, fa_43_2p, fa_43_3, fa_43_3p, fa_43_4, fa_43_4p, fa_43_5, fa_43_5p, fa_43_6, fa_43_6p, fa_43_7, fa_43_7p, fa_34_0, fa_34_0p, fa_34_1, fa_34_1p, fa_51_1, fa_51_1p, ln_49_3, ln_49_3p, fa_51_0, fa_51_0p, cv_31_3, cv_31_3p, neqb_4, neqb_4p, o_add, o_addp, o_sub, o_subp, o_mul, o_mulp, o_lss, o_lssp, o_leq, o_leqp, o_gtr, o_gtrp, o_geq, o_geqp, o_eql, o_eqlp, o_neq, o_neqp, os_eql, os_eqlp, os_neq, os_neqp, o_and, o_andp, o_or, o_orp, o_xor, o_xorp, o_not, o_notp, o_pickT, o_pickTp, o_pickF, o_pickFp, o_ext1_0, o_ext1_0p, o_ext2_0, o_ext2_0p, o_ext2_1, o_ext2_1p, o_ext3_0, o_ext3_0p, o_ext3_1, o_ext3_1p, o_ext3_2, o_ext3_2p, o_ext4_0, o_ext4_0p, o_ext4_1, o_ext4_1p, o_ext4_2, o_ext4_2p, o_ext4_3, o_ext4_3p, o_ext5_0, o_ext5_0p, o_ext5_1, o_ext5_1p, o_ext5_2, o_ext5_2p, o_ext5_3, o_ext5_3p, o_ext5_4, o_ext5_4p, o_max, o_maxp, o_min, o_minp, o_fn, o_fnp, o_chk, o_chkp, condT, condF, cond_decide, cond_beq, cond_bne, cond_not, guardW_true, guardW_ff, guardW_tf, guardW_ft, guardV_true, guardV_ff, guardV_tf, guardV_ft, still_tt, still_ff, still_tf, still_ft, guardV_u, guardW_u, still_u, Nat.zero_add, Nat.add_zero, beq_self_eq_true, bne_self_eq_false, Int.reduceBEq, Int.reduceBNe, Int.reduceLT, Int.reduceLE, decide_true, decide_false, Bool.not_true, Bool.not_false])
  refine rr_load one5 (hS.at m0 0 rfl) ?_
  by_cases h3 : x = 0
  · subst h3
    have : ((UInt8.toNat 0 : Nat) : Int) = 0 := rfl
    (try simp only [this, ln_22_3, ln_22_3p, ln_25_3, ln_25_3p, eqlp_26, eqlp_26p, eqln_26, eqln_26p, ln_23_3, ln_23_3p, fa_34_2, fa_34_2p, fa_34_3, fa_34_3p, ln_40_3, ln_40_3p, fa_43_0, fa_43_0p, fa_43_2, fa_43_2p, fa_43_3, fa_43_3p, fa_43_4, fa_43_4p, fa_43_5, fa_43_5p, fa_43_6, fa_43_6p, fa_43_7, fa_43_7p, fa_34_0, fa_34_0p, fa_34_1, fa_34_1p, fa_51_1, fa_51_1p, ln_49_3, ln_49_3p, fa_51_0, fa_51_0p, cv_31_3, cv_31_3p, neqb_4, neqb_4p, o_add, o_addp, o_sub, o_subp, o_mul, o_mulp, o_lss, o_lssp, o_leq, o_leqp, o_gtr, o_gtrp, o_geq, o_geqp, o_eql, o_eqlp, o_neq, o_neqp, os_eql, os_eqlp, os_neq, os_neqp, o_and, o_andp, o_or, o_orp, o_xor, o_xorp, o_not, o_notp, o_pickT, o_pickTp, o_pickF, o_pickFp, o_ext1_0, o_ext1_0p, o_ext2_0, o_ext2_0p, o_ext2_1, o_ext2_1p, o_ext3_0, o_ext3_0p, o_ext3_1, o_ext3_1p, o_ext3_2, o_ext3_2p, o_ext4_0, o_ext4_0p, o_ext4_1, o_ext4_1p, o_ext4_2, o_ext4_2p, o_ext4_3, o_ext4_3p, o_ext5_0, o_ext5_0p, o_ext5_1, o_ext5_1p, o_ext5_2, o_ext5_2p, o_ext5_3, o_ext5_3p, o_ext5_4, o_ext5_4p, o_max, o_maxp, o_min, o_minp, o_fn, o_fnp, o_chk, o_chkp, condT, condF, cond_decide, cond_beq, cond_bne, cond_not, guardW_true, guardW_ff, guardW_tf, guardW_ft, guardV_true, guardV_ff, guardV_tf, guardV_ft, still_tt, still_ff, still_tf, still_ft, guardV_u, guardW_u, still_u, Nat.zero_add, Nat.add_zero, beq_self_eq_true, bne_self_eq_false, Int.reduceBEq, Int.reduceBNe, Int.reduceLT, Int.reduceLE, decide_true, decide_false, Bool.not_true, Bool.not_false])
    exact .inl ⟨fun hs => hs.2.2 rfl, trivial, hsame hS⟩
  have h3' : ((x.toNat : Int) == 0) = false := beq_eq_false_iff_ne.2 fun e => h3 (UInt8.toNat_inj.1 (by show x.toNat = 0; omega))
  (try simp only [h3', ln_22_3, ln_22_3p, ln_25_3, ln_25_3p, eqlp_26, eqlp_26p, eqln_26, eqln_26p, ln_23_3, ln_23_3p, fa_34_2, fa_34_2p, fa_34_3, fa_34_3p, ln_40_3, ln_40_3p, fa_43_0, fa_43_0p, fa_43_2, fa_43_2p, fa_43_3, fa_43_3p, fa_43_4, fa_43_4p, fa_43_5, fa_43_5p, fa_43_6, fa_43_6p, fa_43_7, fa_43_7p, fa_34_0, fa_34_0p, fa_34_1, fa_34_1p, fa_51_1, fa_51_1p, ln_49_3, ln_49_3p, fa_51_0, fa_51_0p, cv_31_3, cv_31_3p, neqb_4, neqb_4p, o_add, o_addp, o_sub, o_subp, o_mul, o_mulp, o_lss, o_lssp, o_leq, o_leqp, o_gtr, o_gtrp, o_geq, o_geqp, o_eql, o_eqlp, o_neq, o_neqp, os_eql, os_eqlp, os_neq, os_neqp, o_and, o_andp, o_or, o_orp, o_xor, o_xorp, o_not, o_notp, o_pickT, o_pickTp, o_pickF, o_pickFp, o_ext1_0, o_ext1_0p, o_ext2_0, o_ext2_0p, o_ext2_1, o_ext2_1p, o_ext3_0, o_ext3_0p, o_ext3_1, o_ext3_1p, o_ext3_2, o_ext3_2p, o_ext4_0, o_ext4_0p, o_ext4_1, o_ext4_1p, o_ext4_2, o_ext4_2p, o_ext4_3, o_ext4_3p, o_ext5_0, o_ext5_0p, o_ext5_1, o_ext5_1p, o_ext5_2, o_ext5_2p, o_ext5_3, o_ext5_3p, o_ext5_4, o_ext5_4p, o_max, o_maxp, o_min, o_minp, o_fn, o_fnp, o_chk, o_chkp, condT, condF, cond_decide, cond_beq, cond_bne, cond_not, guardW_true, guardW_ff, guardW_tf, guardW_ft, guardV_true, guardV_ff, guardV_tf, guardV_ft, still_tt, still_ff, still_tf, still_ft, guardV_u, guardW_u, still_u, Nat.zero_add, Nat.add_zero, beq_self_eq_true, bne_self_eq_false, Int.reduceBEq, Int.reduceBNe, Int.reduceLT, Int.reduceLE, decide_true, decide_false, Bool.not_true, Bool.not_false])
  refine r_load one4 (hcell hS 3 (by omega) _ rfl) ?_
  by_cases h4 : qq.1.sp = true
  · rw [h4]
    (try simp only [ln_22_3, ln_22_3p, ln_25_3, ln_25_3p, eqlp_26, eqlp_26p, eqln_26, eqln_26p, ln_23_3, ln_23_3p, fa_34_2, fa_34_2p, fa_34_3, fa_34_3p, ln_40_3, ln_40_3p, fa_43_0, fa_43_0p, fa_43_2, fa_43_2p, fa_43_3, fa_43_3p, fa_43_4, fa_43_4p, fa_43_5, fa_43_5p, fa_43_6, fa_43_6p, fa_43_7, fa_43_7p, fa_34_0, fa_34_0p, fa_34_1, fa_34_1p, fa_51_1, fa_51_1p, ln_49_3, ln_49_3p, fa_51_0, fa_51_0p, cv_31_3, cv_31_3p, neqb_4, neqb_4p, o_add, o_addp, o_sub, o_subp, o_mul, o_mulp, o_lss, o_lssp, o_leq, o_leqp, o_gtr, o_gtrp, o_geq, o_geqp, o_eql, o_eqlp, o_neq, o_neqp, os_eql, os_eqlp, os_neq, os_neqp, o_and, o_andp, o_or, o_orp, o_xor, o_xorp, o_not, o_notp, o_pickT, o_pickTp, o_pickF, o_pickFp, o_ext1_0, o_ext1_0p, o_ext2_0, o_ext2_0p, o_ext2_1, o_ext2_1p, o_ext3_0, o_ext3_0p, o_ext3_1, o_ext3_1p, o_ext3_2, o_ext3_2p, o_ext4_0, o_ext4_0p, o_ext4_1, o_ext4_1p, o_ext4_2, o_ext4_2p, o_ext4_3, o_ext4_3p, o_ext5_0, o_ext5_0p, o_ext5_1, o_ext5_1p, o_ext5_2, o_ext5_2p, o_ext5_3, o_ext5_3p, o_ext5_4, o_ext5_4p, o_max, o_maxp, o_min, o_minp, o_fn, o_fnp, o_chk, o_chkp, condT, condF, cond_decide, cond_beq, cond_bne, cond_not, guardW_true, guardW_ff, guardW_tf, guardW_ft, guardV_true, guardV_ff, guardV_tf, guardV_ft, still_tt, still_ff, still_tf, still_ft, guardV_u, guardW_u, still_u, Nat.zero_add, Nat.add_zero, beq_self_eq_true, bne_self_eq_false, Int.reduceBEq, Int.reduceBNe, Int.reduceLT, Int.reduceLE, decide_true, decide_false, Bool.not_true, Bool.not_false])
    exact .inr (.inl ⟨trivial, trivial, hsame hS⟩)
  have h4 : qq.1.sp = false := by simpa using h4
  rw [h4]
  (try simp only [ln_22_3, ln_22_3p, ln_25_3, ln_25_3p, eqlp_26, eqlp_26p, eqln_26, eqln_26p, ln_23_3, ln_23_3p, fa_34_2, fa_34_2p, fa_34_3, fa_34_3p, ln_40_3, ln_40_3p, fa_43_0, fa_43_0p, fa_43_2, fa_43_2p, fa_43_3, fa_43_3p, fa_43_4, fa_43_4p, fa_43_5, fa_43_5p, fa_43_6, fa_43_6p, fa_43_7, fa_43_7p, fa_34_0, fa_34_0p, fa_34_1, fa_34_1p, fa_51_1, fa_51_1p, ln_49_3, ln_49_3p, fa_51_0, fa_51_0p, cv_31_3, cv_31_3p, neqb_4, neqb_4p, o_add, o_addp, o_sub, o_subp, o_mul, o_mulp, o_lss, o_lssp, o_leq, o_leqp, o_gtr, o_gtrp, o_geq, o_geqp, o_eql, o_eqlp, o_neq, o_neqp, os_eql, os_eqlp, os_neq, os_neqp, o_and, o_andp, o_or, o_orp, o_xor, o_xorp, o_not, o_notp, o_pickT, o_pickTp, o_pickF, o_pickFp, o_ext1_0, o_ext1_0p, o_ext2_0, o_ext2_0p, o_ext2_1, o_ext2_1p, o_ext3_0, o_ext3_0p, o_ext3_1, o_ext3_1p, o_ext3_2, o_ext3_2p, o_ext4_0, o_ext4_0p, o_ext4_1, o_ext4_1p, o_ext4_2, o_ext4_2p, o_ext4_3, o_ext4_3p, o_ext5_0, o_ext5_0p, o_ext5_1, o_ext5_1p, o_ext5_2, o_ext5_2p, o_ext5_3, o_ext5_3p, o_ext5_4, o_ext5_4p, o_max, o_maxp, o_min, o_minp, o_fn, o_fnp, o_chk, o_chkp, condT, condF, cond_decide, cond_beq, cond_bne, cond_not, guardW_true, guardW_ff, guardW_tf, guardW_ft, guardV_true, guardV_ff, guardV_tf, guardV_ft, still_tt, still_ff, still_tf, still_ft, guardV_u, guardW_u, still_u, Nat.zero_add, Nat.add_zero, beq_self_eq_true, bne_self_eq_false, Int.reduceBEq, Int.reduceBNe, Int.reduceLT, Int.reduceLE, decide_true, decide_false, Bool.not_true, Bool.not_false])
  refine ⟨fun w3 hd => ?_⟩
  have hS := hS.drew hd
  refine rr_load one25 (hcell hS 2 (by omega) qq.2 rfl) (rr_load one3 (hS.at m1 0 rfl) ?_)
  obtain ⟨i, rfl⟩ : ∃ i : Nat, a = i := ⟨a.toNat, by omega⟩
  have hi : i < qq.1.b.length := by omega
  obtain ⟨q, hq, hqc⟩ := rd_index (hrd hS) i hi
  refine rp hq (rr_load one5 hqc (rr_load one5 (hS.at m0 0 rfl) ?_))
  (try simp only [ln_22_3, ln_22_3p, ln_25_3, ln_25_3p, eqlp_26, eqlp_26p, eqln_26, eqln_26p, ln_23_3, ln_23_3p, fa_34_2, fa_34_2p, fa_34_3, fa_34_3p, ln_40_3, ln_40_3p, fa_43_0, fa_43_0p, fa_43_2, fa_43_2p, fa_43_3, fa_43_3p, fa_43_4, fa_43_4p, fa_43_5, fa_43_5p, fa_43_6, fa_43_6p, fa_43_7, fa_43_7p, fa_34_0, fa_34_0p, fa_34_1, fa_34_1p, fa_51_1, fa_51_1p, ln_49_3, ln_49_3p, fa_51_0, fa_51_0p, cv_31_3, cv_31_3p, neqb_4, neqb_4p, o_add, o_addp, o_sub, o_subp, o_mul, o_mulp, o_lss, o_lssp, o_leq, o_leqp, o_gtr, o_gtrp, o_geq, o_geqp, o_eql, o_eqlp, o_neq, o_neqp, os_eql, os_eqlp, os_neq, os_neqp, o_and, o_andp, o_or, o_orp, o_xor, o_xorp, o_not, o_notp, o_pickT, o_pickTp, o_pickF, o_pickFp, o_ext1_0, o_ext1_0p, o_ext2_0, o_ext2_0p, o_ext2_1, o_ext2_1p, o_ext3_0, o_ext3_0p, o_ext3_1, o_ext3_1p, o_ext3_2, o_ext3_2p, o_ext4_0, o_ext4_0p, o_ext4_1, o_ext4_1p, o_ext4_2, o_ext4_2p, o_ext4_3, o_ext4_3p, o_ext5_0, o_ext5_0p, o_ext5_1, o_ext5_1p, o_ext5_2, o_ext5_2p, o_ext5_3, o_ext5_3p, o_ext5_4, o_ext5_4p, o_max, o_maxp, o_min, o_minp, o_fn, o_fnp, o_chk, o_chkp, condT, condF, cond_decide, cond_beq, cond_bne, cond_not, guardW_true, guardW_ff, guardW_tf, guardW_ft, guardV_true, guardV_ff, guardV_tf, guardV_ft, still_tt, still_ff, still_tf, still_ft, guardV_u, guardW_u, still_u, Nat.zero_add, Nat.add_zero, beq_self_eq_true, bne_self_eq_false, Int.reduceBEq, Int.reduceBNe, Int.reduceLT, Int.reduceLE, decide_true, decide_false, Bool.not_true, Bool.not_false])
  rw [u8_xor]
  refine rp hq ?_
  have hS4 := hS.pick 4
  simp only [pickL, List.map_append, List.map_cons] at hS4
  have hS4 := hS4.all_out
  unfold mb at hS4
  refine r_store_ix (x := .int .u8 ((qq.1.b[i] ^^^ x).toNat : Int)) hS4 el25 one5 .i64 i hi (hq _) rfl fun w4 hS => ?_
  rw [cb_set] at hS
  (try simp only [ln_22_3, ln_22_3p, ln_25_3, ln_25_3p, eqlp_26, eqlp_26p, eqln_26, eqln_26p, ln_23_3, ln_23_3p, fa_34_2, fa_34_2p, fa_34_3, fa_34_3p, ln_40_3, ln_40_3p, fa_43_0, fa_43_0p, fa_43_2, fa_43_2p, fa_43_3, fa_43_3p, fa_43_4, fa_43_4p, fa_43_5, fa_43_5p, fa_43_6, fa_43_6p, fa_43_7, fa_43_7p, fa_34_0, fa_34_0p, fa_34_1, fa_34_1p, fa_51_1, fa_51_1p, ln_49_3, ln_49_3p, fa_51_0, fa_51_0p, cv_31_3, cv_31_3p, neqb_4, neqb_4p, o_add, o_addp, o_sub, o_subp, o_mul, o_mulp, o_lss, o_lssp, o_leq, o_leqp, o_gtr, o_gtrp, o_geq, o_geqp, o_eql, o_eqlp, o_neq, o_neqp, os_eql, os_eqlp, os_neq, os_neqp, o_and, o_andp, o_or, o_orp, o_xor, o_xorp, o_not, o_notp, o_pickT, o_pickTp, o_pickF, o_pickFp, o_ext1_0, o_ext1_0p, o_ext2_0, o_ext2_0p, o_ext2_1, o_ext2_1p, o_ext3_0, o_ext3_0p, o_ext3_1, o_ext3_1p, o_ext3_2, o_ext3_2p, o_ext4_0, o_ext4_0p, o_ext4_1, o_ext4_1p, o_ext4_2, o_ext4_2p, o_ext4_3, o_ext4_3p, o_ext5_0, o_ext5_0p, o_ext5_1, o_ext5_1p, o_ext5_2, o_ext5_2p, o_ext5_3, o_ext5_3p, o_ext5_4, o_ext5_4p, o_max, o_maxp, o_min, o_minp, o_fn, o_fnp, o_chk, o_chkp, condT, condF, cond_decide, cond_beq, cond_bne, cond_not, guardW_true, guardW_ff, guardW_tf, guardW_ft, guardV_true, guardV_ff, guardV_tf, guardV_ft, still_tt, still_ff, still_tf, still_ft, guardV_u, guardW_u, still_u, Nat.zero_add, Nat.add_zero, beq_self_eq_true, bne_self_eq_false, Int.reduceBEq, Int.reduceBNe, Int.reduceLT, Int.reduceLE, decide_true, decide_false, Bool.not_true, Bool.not_false])
  have hS := hS.pick 5
  simp only [pickL] at hS
  unfold Msgs at hS
  obtain ⟨cap, rest, hc, hcap, hcm, hxl, hcl, hS⟩ := own_at hS
  subst hc
  have hlenA : (La.flatMap mc).length = La.length * 4 := mc_flat La
  have hfl : (La ++ qq :: Lb).flatMap mc = La.flatMap mc ++ (mc qq ++ Lb.flatMap mc) := by rw [List.flatMap_append, List.flatMap_cons]
  have hlt : La.length * 4 + 3 < ((La ++ qq :: Lb).flatMap mc).length := by rw [hfl, List.length_append, List.length_append, hlenA]; simp [mc]; omega
  refine r_store hS one4 (by rw [List.length_append]; omega) rfl fun w5 hS => ?_
  rw [List.set_append_left _ _ hlt] at hS
  have hset : ((La ++ qq :: Lb).flatMap mc).set (La.length * 4 + 3) (.bool true) = (La ++ (spoilt qq.1 i x, qq.2) :: Lb).flatMap mc := by
    rw [hfl, List.set_append_right _ _ (by rw [hlenA]; omega), hlenA, show La.length * 4 + 3 - La.length * 4 = 3 by omega, List.flatMap_append, List.flatMap_cons]
    rfl
  rw [hset] at hS
  have hn : (La ++ (spoilt qq.1 i x, qq.2) :: Lb).length = (La ++ qq :: Lb).length := by simp
  have hS := hS.own_mk (sz := 4) (La ++ qq :: Lb).length hcap hcm (by rw [← hcl, List.length_append, List.length_append, mc_flat, mc_flat, hn])
  rw [List.take_left' (by rw [mc_flat, hn])] at hS
  refine .inr (.inr ⟨⟨by omega, by omega, h3⟩, trivial, trivial, ?_⟩)
  refine Net.shut (v := .slice (some ⟨b, 0, none⟩) (La ++ qq :: Lb).length c) (L := La ++ (spoilt qq.1 i x, qq.2) :: Lb) ?_ ?_
  · rw [← hL, Int.toNat_natCast]; simp
  · unfold Msgs
    have e : own 5 1 qq.2 qq.1.b.length (cb (qq.1.b.set i (qq.1.b[i] ^^^ x))) = mb (spoilt qq.1 i x, qq.2) := by
      unfold mb spoilt
      simp only [List.length_set, List.getD_eq_getElem?_getD, List.getElem?_eq_getElem hi, Option.getD_some]
    rw [e] at hS
    have hS := (((hS.pick 2).pick 2).all_in)
    have hS := (((((hS.pick 2).drop).pick 2).drop.swap).pick 2)
    rw [hn, List.map_append, List.map_cons]
    exact hS
theorem kSpoil (p a : Int) (x : UInt8) (h0 : n ≠ 0) (h : St o w (Net g n ms :: R)) : CallV Try.prog Z 15 #[.pointer (some ⟨g, 0, none⟩), .int .i64 p, .int .i64 a, .int .u8 x.toNat] w fun r w' =>
    ((p < 0 ∨ (ms.length : Int) ≤ p) ∧ r = .int .i64 220 ∧ St o w' (Net g n ms :: R)) ∨ ∃ q : Nat, ∃ hq : q < ms.length, p = q ∧
      ((¬ spoils ms[q] a x ∧ r = .int .i64 1 ∧ St o w' (Net g n ms :: R)) ∨ (ms[q].sp = true ∧ r = .int .i64 220 ∧ St o w' (Net g n ms :: R)) ∨
      (spoils ms[q] a x ∧ ms[q].sp = false ∧ r = .int .i64 0 ∧ St o w' (Net g n (ms.set q (spoilt ms[q] a.toNat x)) :: R))) := by
  refine f15.calls ?_
  unfold f15.sh
  refine r_box _ _ h fun g1 w1 hS => r_box _ _ hS fun g2 w2 hS => ?_
  (try simp only [ln_22_3, ln_22_3p, ln_25_3, ln_25_3p, eqlp_26, eqlp_26p, eqln_26, eqln_26p, ln_23_3, ln_23_3p, fa_34_2, fa_34_2p, fa_34_3, fa_34_3p, ln_40_3, ln_40_3p, fa_43_0, fa_43_0p, fa_43_2, fa_43_2p, fa_43_3, fa_43_3p, fa_43_4, fa_43_4p, fa_43_5, fa_43_5p, fa_43_6, fa_43_6p, fa_43_7, fa_43_7p, fa_34_0, fa_34_0p, fa_34_1, fa_34_1p, fa_51_1, fa_51_1p, ln_49_3, ln_49_3p, fa_51_0, fa_51_0p, cv_31_3, cv_31_3p, neqb_4, neqb_4p, o_add, o_addp, o_sub, o_subp, o_mul, o_mulp, o_lss, o_lssp, o_leq, o_leqp, o_gtr, o_gtrp, o_geq, o_geqp, o_eql, o_eqlp, o_neq, o_neqp, os_eql, os_eqlp, os_neq, os_neqp, o_and, o_andp, o_or, o_orp, o_xor, o_xorp, o_not, o_notp, o_pickT, o_pickTp, o_pickF, o_pickFp, o_ext1_0, o_ext1_0p, o_ext2_0, o_ext2_0p, o_ext2_1, o_ext2_1p, o_ext3_0, o_ext3_0p, o_ext3_1, o_ext3_1p, o_ext3_2, o_ext3_2p, o_ext4_0, o_ext4_0p, o_ext4_1, o_ext4_1p, o_ext4_2, o_ext4_2p, o_ext4_3, o_ext4_3p, o_ext5_0, o_ext5_0p, o_ext5_1, o_ext5_1p, o_ext5_2, o_ext5_2p, o_ext5_3, o_ext5_3p, o_ext5_4, o_ext5_4p, o_max, o_maxp, o_min, o_minp, o_fn, o_fnp, o_chk, o_chkp, condT, condF, cond_decide, cond_beq, cond_bne, cond_not, guardW_true, guardW_ff, guardW_tf, guardW_ft, guardV_true, guardV_ff, guardV_tf, guardV_ft, still_tt, still_ff, still_tf, still_ft, guardV_u, guardW_u, still_u, Nat.zero_add, Nat.add_zero, beq_self_eq_true, bne_self_eq_false, Int.reduceBEq, Int.reduceBNe, Int.reduceLT, Int.reduceLE, decide_true, decide_false, Bool.not_true, Bool.not_false])
  have hN := hS
  obtain ⟨v, L, hL, hS⟩ := Net.open (hS.pick 2)
  have hll : L.length = ms.length := by rw [← hL, List.length_map]
  by_cases hp : p < 0 ∨ (ms.length : Int) ≤ p
  · refine (kAt_out Z _ p h0 hS m0 m1 (by omega)).mono fun r w1 ⟨hr, hw⟩ => ?_
    subst hw
    exact .inl ⟨hp, hr, hN.drop.drop⟩
  · obtain ⟨q, rfl⟩ : ∃ q : Nat, p = q := ⟨p.toNat, by omega⟩
    have hq : q < ms.length := by omega
    refine kAt Z _ q h0 hS m0 m1 (by omega) fun b c hv => ?_
    subst hv
    refine r_callVal en24 rfl rfl rfl ?_
    exact (kSpoil1 Z q a x hq hL ((hS.pick 4).pick 4)).mono fun r w1 hr => .inr ⟨q, hq, rfl, hr⟩
end
end Go.Proofs.Ytejenmcjfhdcdaa
