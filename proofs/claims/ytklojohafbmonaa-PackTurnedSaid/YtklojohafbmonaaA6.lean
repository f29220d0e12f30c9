/- The walk of PackTurned. -/
import Derived.Test.YtklojohafbmonaaA5
set_option linter.unusedVariables false
set_option linter.unusedSimpArgs false
namespace Go.Proofs.Ytklojohafbmonaa
open Go.Sh
theorem adl_fst (l : List UInt8) (p : Nat × Nat) (hp : p.1 < 65521) : (adl l p).1 = (p.1 + (l.map (·.toNat)).sum) % 65521 := by
  induction l generalizing p with
  | nil => simp [adl]; omega
  | cons x l ih =>
    obtain ⟨a, b⟩ := p
    simp only [adl, List.map_cons, List.sum_cons]
    rw [ih _ (Nat.mod_lt _ (by omega))]
    simp only
    omega
theorem adler_mod (l : List UInt8) : adler l % 65536 = (1 + (l.map (·.toNat)).sum) % 65521 := by
  unfold adler
  have h1 := (adl_lt l (1, 0) (by decide) (by decide)).1
  rw [← adl_fst l (1, 0) (by decide)]
  omega
theorem adler_turn (l : List UInt8) (i : Nat) (hi : i < l.length) (b : UInt8) (hb : b ≠ l[i]) : adler (l.set i b) ≠ adler l := by
  intro e
  have e1 := congrArg (· % 65536) e
  simp only [adler_mod] at e1
  have h2 : l = l.take i ++ l[i] :: l.drop (i + 1) := by simp
  have h3 : l.set i b = l.take i ++ b :: l.drop (i + 1) := by rw [List.set_eq_take_append_cons_drop, if_pos hi]
  have hn : b.toNat ≠ l[i].toNat := fun h => hb (UInt8.toNat_inj.1 h)
  have l1 := b.toNat_lt
  have l2 := l[i].toNat_lt
  have s1 : (l.map (·.toNat)).sum = ((l.take i).map (·.toNat)).sum + (l[i].toNat + ((l.drop (i + 1)).map (·.toNat)).sum) := by
    conv => lhs; rw [h2]
    rw [List.map_append, List.sum_append, List.map_cons, List.sum_cons]
  have s2 : ((l.set i b).map (·.toNat)).sum = ((l.take i).map (·.toNat)).sum + (b.toNat + ((l.drop (i + 1)).map (·.toNat)).sum) := by
    rw [h3]; simp
  rw [s1, s2] at e1
  omega
theorem u8_xor (a b : UInt8) : IntKind.u8.wrap (BitVec.ofInt IntKind.u8.bits (a.toNat : Int) ^^^ BitVec.ofInt IntKind.u8.bits (b.toNat : Int)).toNat = ((a ^^^ b).toNat : Int) := by
  have e : IntKind.u8.bits = 8 := rfl
  rw [e, BitVec.ofInt_natCast, BitVec.ofInt_natCast, BitVec.toNat_xor, BitVec.toNat_ofNat, BitVec.toNat_ofNat, UInt8.toNat_xor]
  have h1 := a.toNat_lt
  have h2 := b.toNat_lt
  have h3 : (a.toNat ^^^ b.toNat) < 2 ^ 8 := Nat.xor_lt_two_pow (by omega) (by omega)
  rw [Nat.mod_eq_of_lt (by omega), Nat.mod_eq_of_lt (by omega), wrap_u8]
  omega
section
variable (Z : List PanicEntry → World → Prop) {o w : World} {R : List HProp} {l : List UInt8}
theorem packTurned {x : Value} {n : Nat} (at_ y : Int) (hy : 0 ≤ y ∧ y ≤ 255) (ha : -9223372036854775808 ≤ at_ ∧ at_ ≤ 9223372036854775807) (h : St o w R) (hx : Ent o R fun w => Rd w 1 x n (cb l)) :
    CallV Try.prog Z 4 #[x, .int .i64 at_, .int .u8 y] w fun r w' => r = .bool true ∧ St o w' R := by
  have h0 := hx w h
  have hn := rd_len h0
  obtain ⟨a, c, rfl⟩ := h0.form
  subst hn
  refine f4.calls ?_
  unfold f4.sh
  refine (works Z h).mono fun r w1 ⟨hr, hS⟩ => ?_
  subst hr
  (try simp only [ln_22_3, ln_22_3p, ln_30_3, ln_30_3p, cv_3_21, cv_3_21p, ln_42_3, ln_42_3p, fa_46_0, fa_46_0p, fa_46_5, fa_46_5p, eqlp_49, eqlp_49p, eqln_49, eqln_49p, fa_46_2, fa_46_2p, fa_46_4, fa_46_4p, ln_9_3, ln_9_3p, ln_59_3, ln_59_3p, fa_54_1, fa_54_1p, fa_54_0, fa_54_0p, fa_54_2, fa_54_2p, fa_54_3, fa_54_3p, fa_54_4, fa_54_4p, fa_46_3, fa_46_3p, cv_3_5, cv_3_5p, cv_5_25, cv_5_25p, cv_5_3, cv_5_3p, cv_3_25, cv_3_25p, neqp_31, neqp_31p, neqn_31, neqn_31p, fa_33_0, fa_33_0p, eqlp_31, eqlp_31p, eqln_31, eqln_31p, cv_21_2, cv_21_2p, cv_2_69, cv_2_69p, cv_2_73, cv_2_73p, cv_2_21, cv_2_21p, cv_2_25, cv_2_25p, cv_73_2, cv_73_2p, cv_25_2, cv_25_2p, fa_82_1, fa_82_1p, fa_82_2, fa_82_2p, fa_54_5, fa_54_5p, cv_21_69, cv_21_69p, cv_69_21, cv_69_21p, cv_69_5, cv_69_5p, cv_73_69, cv_73_69p, cv_73_3, cv_73_3p, cv_25_69, cv_25_69p, cv_69_73, cv_69_73p, cv_69_25, cv_69_25p, cv_69_2, cv_69_2p, fa_82_0, fa_82_0p, cv_5_69, cv_5_69p, cv_3_69, cv_3_69p, cv_21_3, cv_21_3p, o_add, o_addp, o_sub, o_subp, o_mul, o_mulp, o_lss, o_lssp, o_leq, o_leqp, o_gtr, o_gtrp, o_geq, o_geqp, o_eql, o_eqlp, o_neq, o_neqp, os_eql, os_eqlp, os_neq, os_neqp, o_and, o_andp, o_or, o_orp, o_xor, o_xorp, o_not, o_notp, o_pickT, o_pickTp, o_pickF, o_pickFp, o_ext1_0, o_ext1_0p, o_ext2_0, o_ext2_0p, o_ext2_1, o_ext2_1p, o_ext3_0, o_ext3_0p, o_ext3_1, o_ext3_1p, o_ext3_2, o_ext3_2p, o_ext4_0, o_ext4_0p, o_ext4_1, o_ext4_1p, o_ext4_2, o_ext4_2p, o_ext4_3, o_ext4_3p, o_ext5_0, o_ext5_0p, o_ext5_1, o_ext5_1p, o_ext5_2, o_ext5_2p, o_ext5_3, o_ext5_3p, o_ext5_4, o_ext5_4p, o_fn, o_fnp, o_chk, o_chkp, condT, condF, cond_decide, cond_beq, cond_bne, cond_not, guardW_true, guardW_ff, guardW_tf, guardW_ft, guardV_true, guardV_ff, guardV_tf, guardV_ft, Nat.zero_add, Nat.add_zero, beq_self_eq_true, decide_true, decide_false, Bool.not_true, Bool.not_false])
  refine ⟨fun hgt => ⟨trivial, hS⟩, fun hle => ?_⟩
  by_cases h1 : at_ < 0
  · (try simp only [h1, ln_22_3, ln_22_3p, ln_30_3, ln_30_3p, cv_3_21, cv_3_21p, ln_42_3, ln_42_3p, fa_46_0, fa_46_0p, fa_46_5, fa_46_5p, eqlp_49, eqlp_49p, eqln_49, eqln_49p, fa_46_2, fa_46_2p, fa_46_4, fa_46_4p, ln_9_3, ln_9_3p, ln_59_3, ln_59_3p, fa_54_1, fa_54_1p, fa_54_0, fa_54_0p, fa_54_2, fa_54_2p, fa_54_3, fa_54_3p, fa_54_4, fa_54_4p, fa_46_3, fa_46_3p, cv_3_5, cv_3_5p, cv_5_25, cv_5_25p, cv_5_3, cv_5_3p, cv_3_25, cv_3_25p, neqp_31, neqp_31p, neqn_31, neqn_31p, fa_33_0, fa_33_0p, eqlp_31, eqlp_31p, eqln_31, eqln_31p, cv_21_2, cv_21_2p, cv_2_69, cv_2_69p, cv_2_73, cv_2_73p, cv_2_21, cv_2_21p, cv_2_25, cv_2_25p, cv_73_2, cv_73_2p, cv_25_2, cv_25_2p, fa_82_1, fa_82_1p, fa_82_2, fa_82_2p, fa_54_5, fa_54_5p, cv_21_69, cv_21_69p, cv_69_21, cv_69_21p, cv_69_5, cv_69_5p, cv_73_69, cv_73_69p, cv_73_3, cv_73_3p, cv_25_69, cv_25_69p, cv_69_73, cv_69_73p, cv_69_25, cv_69_25p, cv_69_2, cv_69_2p, fa_82_0, fa_82_0p, cv_5_69, cv_5_69p, cv_3_69, cv_3_69p, cv_21_3, cv_21_3p, o_add, o_addp, o_sub, o_subp, o_mul, o_mulp, o_lss, o_lssp, o_leq, o_leqp, o_gtr, o_gtrp, o_geq, o_geqp, o_eql, o_eqlp, o_neq, o_neqp, os_eql, os_eqlp, os_neq, os_neqp, o_and, o_andp, o_or, o_orp, o_xor, o_xorp, o_not, o_notp, o_pickT, o_pickTp, o_pickF, o_pickFp, o_ext1_0, o_ext1_0p, o_ext2_0, o_ext2_0p, o_ext2_1, o_ext2_1p, o_ext3_0, o_ext3_0p, o_ext3_1, o_ext3_1p, o_ext3_2, o_ext3_2p, o_ext4_0, o_ext4_0p, o_ext4_1, o_ext4_1p, o_ext4_2, o_ext4_2p, o_ext4_3, o_ext4_3p, o_ext5_0, o_ext5_0p, o_ext5_1, o_ext5_1p, o_ext5_2, o_ext5_2p, o_ext5_3, o_ext5_3p, o_ext5_4, o_ext5_4p, o_fn, o_fnp, o_chk, o_chkp, condT, condF, cond_decide, cond_beq, cond_bne, cond_not, guardW_true, guardW_ff, guardW_tf, guardW_ft, guardV_true, guardV_ff, guardV_tf, guardV_ft, Nat.zero_add, Nat.add_zero, beq_self_eq_true, decide_true, decide_false, Bool.not_true, Bool.not_false])
    exact ⟨trivial, hS⟩
  by_cases h2 : (l.length : Int) ≤ at_
  · (try simp only [h1, h2, ln_22_3, ln_22_3p, ln_30_3, ln_30_3p, cv_3_21, cv_3_21p, ln_42_3, ln_42_3p, fa_46_0, fa_46_0p, fa_46_5, fa_46_5p, eqlp_49, eqlp_49p, eqln_49, eqln_49p, fa_46_2, fa_46_2p, fa_46_4, fa_46_4p, ln_9_3, ln_9_3p, ln_59_3, ln_59_3p, fa_54_1, fa_54_1p, fa_54_0, fa_54_0p, fa_54_2, fa_54_2p, fa_54_3, fa_54_3p, fa_54_4, fa_54_4p, fa_46_3, fa_46_3p, cv_3_5, cv_3_5p, cv_5_25, cv_5_25p, cv_5_3, cv_5_3p, cv_3_25, cv_3_25p, neqp_31, neqp_31p, neqn_31, neqn_31p, fa_33_0, fa_33_0p, eqlp_31, eqlp_31p, eqln_31, eqln_31p, cv_21_2, cv_21_2p, cv_2_69, cv_2_69p, cv_2_73, cv_2_73p, cv_2_21, cv_2_21p, cv_2_25, cv_2_25p, cv_73_2, cv_73_2p, cv_25_2, cv_25_2p, fa_82_1, fa_82_1p, fa_82_2, fa_82_2p, fa_54_5, fa_54_5p, cv_21_69, cv_21_69p, cv_69_21, cv_69_21p, cv_69_5, cv_69_5p, cv_73_69, cv_73_69p, cv_73_3, cv_73_3p, cv_25_69, cv_25_69p, cv_69_73, cv_69_73p, cv_69_25, cv_69_25p, cv_69_2, cv_69_2p, fa_82_0, fa_82_0p, cv_5_69, cv_5_69p, cv_3_69, cv_3_69p, cv_21_3, cv_21_3p, o_add, o_addp, o_sub, o_subp, o_mul, o_mulp, o_lss, o_lssp, o_leq, o_leqp, o_gtr, o_gtrp, o_geq, o_geqp, o_eql, o_eqlp, o_neq, o_neqp, os_eql, os_eqlp, os_neq, os_neqp, o_and, o_andp, o_or, o_orp, o_xor, o_xorp, o_not, o_notp, o_pickT, o_pickTp, o_pickF, o_pickFp, o_ext1_0, o_ext1_0p, o_ext2_0, o_ext2_0p, o_ext2_1, o_ext2_1p, o_ext3_0, o_ext3_0p, o_ext3_1, o_ext3_1p, o_ext3_2, o_ext3_2p, o_ext4_0, o_ext4_0p, o_ext4_1, o_ext4_1p, o_ext4_2, o_ext4_2p, o_ext4_3, o_ext4_3p, o_ext5_0, o_ext5_0p, o_ext5_1, o_ext5_1p, o_ext5_2, o_ext5_2p, o_ext5_3, o_ext5_3p, o_ext5_4, o_ext5_4p, o_fn, o_fnp, o_chk, o_chkp, condT, condF, cond_decide, cond_beq, cond_bne, cond_not, guardW_true, guardW_ff, guardW_tf, guardW_ft, guardV_true, guardV_ff, guardV_tf, guardV_ft, Nat.zero_add, Nat.add_zero, beq_self_eq_true, decide_true, decide_false, Bool.not_true, Bool.not_false])
    exact ⟨trivial, hS⟩
  by_cases h3 : y = 0
  · (try simp only [h1, h2, h3, ln_22_3, ln_22_3p, ln_30_3, ln_30_3p, cv_3_21, cv_3_21p, ln_42_3, ln_42_3p, fa_46_0, fa_46_0p, fa_46_5, fa_46_5p, eqlp_49, eqlp_49p, eqln_49, eqln_49p, fa_46_2, fa_46_2p, fa_46_4, fa_46_4p, ln_9_3, ln_9_3p, ln_59_3, ln_59_3p, fa_54_1, fa_54_1p, fa_54_0, fa_54_0p, fa_54_2, fa_54_2p, fa_54_3, fa_54_3p, fa_54_4, fa_54_4p, fa_46_3, fa_46_3p, cv_3_5, cv_3_5p, cv_5_25, cv_5_25p, cv_5_3, cv_5_3p, cv_3_25, cv_3_25p, neqp_31, neqp_31p, neqn_31, neqn_31p, fa_33_0, fa_33_0p, eqlp_31, eqlp_31p, eqln_31, eqln_31p, cv_21_2, cv_21_2p, cv_2_69, cv_2_69p, cv_2_73, cv_2_73p, cv_2_21, cv_2_21p, cv_2_25, cv_2_25p, cv_73_2, cv_73_2p, cv_25_2, cv_25_2p, fa_82_1, fa_82_1p, fa_82_2, fa_82_2p, fa_54_5, fa_54_5p, cv_21_69, cv_21_69p, cv_69_21, cv_69_21p, cv_69_5, cv_69_5p, cv_73_69, cv_73_69p, cv_73_3, cv_73_3p, cv_25_69, cv_25_69p, cv_69_73, cv_69_73p, cv_69_25, cv_69_25p, cv_69_2, cv_69_2p, fa_82_0, fa_82_0p, cv_5_69, cv_5_69p, cv_3_69, cv_3_69p, cv_21_3, cv_21_3p, o_add, o_addp, o_sub, o_subp, o_mul, o_mulp, o_lss, o_lssp, o_leq, o_leqp, o_gtr, o_gtrp, o_geq, o_geqp, o_eql, o_eqlp, o_neq, o_neqp, os_eql, os_eqlp, os_neq, os_neqp, o_and, o_andp, o_or, o_orp, o_xor, o_xorp, o_not, o_notp, o_pickT, o_pickTp, o_pickF, o_pickFp, o_ext1_0, o_ext1_0p, o_ext2_0, o_ext2_0p, o_ext2_1, o_ext2_1p, o_ext3_0, o_ext3_0p, o_ext3_1, o_ext3_1p, o_ext3_2, o_ext3_2p, o_ext4_0, o_ext4_0p, o_ext4_1, o_ext4_1p, o_ext4_2, o_ext4_2p, o_ext4_3, o_ext4_3p, o_ext5_0, o_ext5_0p, o_ext5_1, o_ext5_1p, o_ext5_2, o_ext5_2p, o_ext5_3, o_ext5_3p, o_ext5_4, o_ext5_4p, o_fn, o_fnp, o_chk, o_chkp, condT, condF, cond_decide, cond_beq, cond_bne, cond_not, guardW_true, guardW_ff, guardW_tf, guardW_ft, guardV_true, guardV_ff, guardV_tf, guardV_ft, Nat.zero_add, Nat.add_zero, beq_self_eq_true, decide_true, decide_false, Bool.not_true, Bool.not_false])
    exact ⟨trivial, hS⟩
  (try simp only [h1, h2, beq_eq_false_iff_ne.2 h3, ln_22_3, ln_22_3p, ln_30_3, ln_30_3p, cv_3_21, cv_3_21p, ln_42_3, ln_42_3p, fa_46_0, fa_46_0p, fa_46_5, fa_46_5p, eqlp_49, eqlp_49p, eqln_49, eqln_49p, fa_46_2, fa_46_2p, fa_46_4, fa_46_4p, ln_9_3, ln_9_3p, ln_59_3, ln_59_3p, fa_54_1, fa_54_1p, fa_54_0, fa_54_0p, fa_54_2, fa_54_2p, fa_54_3, fa_54_3p, fa_54_4, fa_54_4p, fa_46_3, fa_46_3p, cv_3_5, cv_3_5p, cv_5_25, cv_5_25p, cv_5_3, cv_5_3p, cv_3_25, cv_3_25p, neqp_31, neqp_31p, neqn_31, neqn_31p, fa_33_0, fa_33_0p, eqlp_31, eqlp_31p, eqln_31, eqln_31p, cv_21_2, cv_21_2p, cv_2_69, cv_2_69p, cv_2_73, cv_2_73p, cv_2_21, cv_2_21p, cv_2_25, cv_2_25p, cv_73_2, cv_73_2p, cv_25_2, cv_25_2p, fa_82_1, fa_82_1p, fa_82_2, fa_82_2p, fa_54_5, fa_54_5p, cv_21_69, cv_21_69p, cv_69_21, cv_69_21p, cv_69_5, cv_69_5p, cv_73_69, cv_73_69p, cv_73_3, cv_73_3p, cv_25_69, cv_25_69p, cv_69_73, cv_69_73p, cv_69_25, cv_69_25p, cv_69_2, cv_69_2p, fa_82_0, fa_82_0p, cv_5_69, cv_5_69p, cv_3_69, cv_3_69p, cv_21_3, cv_21_3p, o_add, o_addp, o_sub, o_subp, o_mul, o_mulp, o_lss, o_lssp, o_leq, o_leqp, o_gtr, o_gtrp, o_geq, o_geqp, o_eql, o_eqlp, o_neq, o_neqp, os_eql, os_eqlp, os_neq, os_neqp, o_and, o_andp, o_or, o_orp, o_xor, o_xorp, o_not, o_notp, o_pickT, o_pickTp, o_pickF, o_pickFp, o_ext1_0, o_ext1_0p, o_ext2_0, o_ext2_0p, o_ext2_1, o_ext2_1p, o_ext3_0, o_ext3_0p, o_ext3_1, o_ext3_1p, o_ext3_2, o_ext3_2p, o_ext4_0, o_ext4_0p, o_ext4_1, o_ext4_1p, o_ext4_2, o_ext4_2p, o_ext4_3, o_ext4_3p, o_ext5_0, o_ext5_0p, o_ext5_1, o_ext5_1p, o_ext5_2, o_ext5_2p, o_ext5_3, o_ext5_3p, o_ext5_4, o_ext5_4p, o_fn, o_fnp, o_chk, o_chkp, condT, condF, cond_decide, cond_beq, cond_bne, cond_not, guardW_true, guardW_ff, guardW_tf, guardW_ft, guardV_true, guardV_ff, guardV_tf, guardV_ft, Nat.zero_add, Nat.add_zero, beq_self_eq_true, decide_true, decide_false, Bool.not_true, Bool.not_false])
  obtain ⟨i, rfl⟩ : ∃ i : Nat, at_ = i := ⟨at_.toNat, by omega⟩
  obtain ⟨d, rfl⟩ : ∃ d : UInt8, y = (d.toNat : Int) := ⟨UInt8.ofNat y.toNat, by rw [UInt8.toNat_ofNat']; omega⟩
  have hi : i < l.length := by omega
  refine (copyBytes Z hS hx (by omega)).mono fun r w2 hS => ?_
  obtain ⟨q, hq, hqc⟩ := rd_index (hS.own_rd List.mem_cons_self) i hi
  refine r1 (hq _) (r_load one5 hqc ?_)
  (try simp only [ln_22_3, ln_22_3p, ln_30_3, ln_30_3p, cv_3_21, cv_3_21p, ln_42_3, ln_42_3p, fa_46_0, fa_46_0p, fa_46_5, fa_46_5p, eqlp_49, eqlp_49p, eqln_49, eqln_49p, fa_46_2, fa_46_2p, fa_46_4, fa_46_4p, ln_9_3, ln_9_3p, ln_59_3, ln_59_3p, fa_54_1, fa_54_1p, fa_54_0, fa_54_0p, fa_54_2, fa_54_2p, fa_54_3, fa_54_3p, fa_54_4, fa_54_4p, fa_46_3, fa_46_3p, cv_3_5, cv_3_5p, cv_5_25, cv_5_25p, cv_5_3, cv_5_3p, cv_3_25, cv_3_25p, neqp_31, neqp_31p, neqn_31, neqn_31p, fa_33_0, fa_33_0p, eqlp_31, eqlp_31p, eqln_31, eqln_31p, cv_21_2, cv_21_2p, cv_2_69, cv_2_69p, cv_2_73, cv_2_73p, cv_2_21, cv_2_21p, cv_2_25, cv_2_25p, cv_73_2, cv_73_2p, cv_25_2, cv_25_2p, fa_82_1, fa_82_1p, fa_82_2, fa_82_2p, fa_54_5, fa_54_5p, cv_21_69, cv_21_69p, cv_69_21, cv_69_21p, cv_69_5, cv_69_5p, cv_73_69, cv_73_69p, cv_73_3, cv_73_3p, cv_25_69, cv_25_69p, cv_69_73, cv_69_73p, cv_69_25, cv_69_25p, cv_69_2, cv_69_2p, fa_82_0, fa_82_0p, cv_5_69, cv_5_69p, cv_3_69, cv_3_69p, cv_21_3, cv_21_3p, o_add, o_addp, o_sub, o_subp, o_mul, o_mulp, o_lss, o_lssp, o_leq, o_leqp, o_gtr, o_gtrp, o_geq, o_geqp, o_eql, o_eqlp, o_neq, o_neqp, os_eql, os_eqlp, os_neq, os_neqp, o_and, o_andp, o_or, o_orp, o_xor, o_xorp, o_not, o_notp, o_pickT, o_pickTp, o_pickF, o_pickFp, o_ext1_0, o_ext1_0p, o_ext2_0, o_ext2_0p, o_ext2_1, o_ext2_1p, o_ext3_0, o_ext3_0p, o_ext3_1, o_ext3_1p, o_ext3_2, o_ext3_2p, o_ext4_0, o_ext4_0p, o_ext4_1, o_ext4_1p, o_ext4_2, o_ext4_2p, o_ext4_3, o_ext4_3p, o_ext5_0, o_ext5_0p, o_ext5_1, o_ext5_1p, o_ext5_2, o_ext5_2p, o_ext5_3, o_ext5_3p, o_ext5_4, o_ext5_4p, o_fn, o_fnp, o_chk, o_chkp, condT, condF, cond_decide, cond_beq, cond_bne, cond_not, guardW_true, guardW_ff, guardW_tf, guardW_ft, guardV_true, guardV_ff, guardV_tf, guardV_ft, Nat.zero_add, Nat.add_zero, beq_self_eq_true, decide_true, decide_false, Bool.not_true, Bool.not_false])
  rw [u8_xor]
  refine r1 (hq _) ?_
  refine r_store_ix hS el22 one5 .i64 i (by omega) (hq w2) rfl fun w3 hS => ?_
  rw [cb_set] at hS
  refine (copyBytes Z hS hx.drop (by omega)).mono fun r2 w4 hS => ?_
  refine (packSum Z (hS.own_rd List.mem_cons_self)).mono fun r3 w5 ⟨hr, hw⟩ => ?_
  subst hr; subst hw
  (try simp only [ln_22_3, ln_22_3p, ln_30_3, ln_30_3p, cv_3_21, cv_3_21p, ln_42_3, ln_42_3p, fa_46_0, fa_46_0p, fa_46_5, fa_46_5p, eqlp_49, eqlp_49p, eqln_49, eqln_49p, fa_46_2, fa_46_2p, fa_46_4, fa_46_4p, ln_9_3, ln_9_3p, ln_59_3, ln_59_3p, fa_54_1, fa_54_1p, fa_54_0, fa_54_0p, fa_54_2, fa_54_2p, fa_54_3, fa_54_3p, fa_54_4, fa_54_4p, fa_46_3, fa_46_3p, cv_3_5, cv_3_5p, cv_5_25, cv_5_25p, cv_5_3, cv_5_3p, cv_3_25, cv_3_25p, neqp_31, neqp_31p, neqn_31, neqn_31p, fa_33_0, fa_33_0p, eqlp_31, eqlp_31p, eqln_31, eqln_31p, cv_21_2, cv_21_2p, cv_2_69, cv_2_69p, cv_2_73, cv_2_73p, cv_2_21, cv_2_21p, cv_2_25, cv_2_25p, cv_73_2, cv_73_2p, cv_25_2, cv_25_2p, fa_82_1, fa_82_1p, fa_82_2, fa_82_2p, fa_54_5, fa_54_5p, cv_21_69, cv_21_69p, cv_69_21, cv_69_21p, cv_69_5, cv_69_5p, cv_73_69, cv_73_69p, cv_73_3, cv_73_3p, cv_25_69, cv_25_69p, cv_69_73, cv_69_73p, cv_69_25, cv_69_25p, cv_69_2, cv_69_2p, fa_82_0, fa_82_0p, cv_5_69, cv_5_69p, cv_3_69, cv_3_69p, cv_21_3, cv_21_3p, o_add, o_addp, o_sub, o_subp, o_mul, o_mulp, o_lss, o_lssp, o_leq, o_leqp, o_gtr, o_gtrp, o_geq, o_geqp, o_eql, o_eqlp, o_neq, o_neqp, os_eql, os_eqlp, os_neq, os_neqp, o_and, o_andp, o_or, o_orp, o_xor, o_xorp, o_not, o_notp, o_pickT, o_pickTp, o_pickF, o_pickFp, o_ext1_0, o_ext1_0p, o_ext2_0, o_ext2_0p, o_ext2_1, o_ext2_1p, o_ext3_0, o_ext3_0p, o_ext3_1, o_ext3_1p, o_ext3_2, o_ext3_2p, o_ext4_0, o_ext4_0p, o_ext4_1, o_ext4_1p, o_ext4_2, o_ext4_2p, o_ext4_3, o_ext4_3p, o_ext5_0, o_ext5_0p, o_ext5_1, o_ext5_1p, o_ext5_2, o_ext5_2p, o_ext5_3, o_ext5_3p, o_ext5_4, o_ext5_4p, o_fn, o_fnp, o_chk, o_chkp, condT, condF, cond_decide, cond_beq, cond_bne, cond_not, guardW_true, guardW_ff, guardW_tf, guardW_ft, guardV_true, guardV_ff, guardV_tf, guardV_ft, Nat.zero_add, Nat.add_zero, beq_self_eq_true, decide_true, decide_false, Bool.not_true, Bool.not_false])
  refine (packSum Z (hS.drop.own_rd List.mem_cons_self)).mono fun r3 w5 ⟨hr, hw⟩ => ?_
  subst hr; subst hw
  have hne : ((adler l : Nat) : Int) ≠ (adler (l.set i (l[i] ^^^ d)) : Nat) := by
    intro e
    refine adler_turn l i hi (l[i] ^^^ d) (fun e => h3 ?_) (by omega)
    have : d = 0 := by
      have := congrArg (l[i] ^^^ ·) e
      simp only [← UInt8.xor_assoc, UInt8.xor_self, UInt8.zero_xor] at this
      exact this
    rw [this]; rfl
  (try simp only [bne_iff_ne.2 hne, ln_22_3, ln_22_3p, ln_30_3, ln_30_3p, cv_3_21, cv_3_21p, ln_42_3, ln_42_3p, fa_46_0, fa_46_0p, fa_46_5, fa_46_5p, eqlp_49, eqlp_49p, eqln_49, eqln_49p, fa_46_2, fa_46_2p, fa_46_4, fa_46_4p, ln_9_3, ln_9_3p, ln_59_3, ln_59_3p, fa_54_1, fa_54_1p, fa_54_0, fa_54_0p, fa_54_2, fa_54_2p, fa_54_3, fa_54_3p, fa_54_4, fa_54_4p, fa_46_3, fa_46_3p, cv_3_5, cv_3_5p, cv_5_25, cv_5_25p, cv_5_3, cv_5_3p, cv_3_25, cv_3_25p, neqp_31, neqp_31p, neqn_31, neqn_31p, fa_33_0, fa_33_0p, eqlp_31, eqlp_31p, eqln_31, eqln_31p, cv_21_2, cv_21_2p, cv_2_69, cv_2_69p, cv_2_73, cv_2_73p, cv_2_21, cv_2_21p, cv_2_25, cv_2_25p, cv_73_2, cv_73_2p, cv_25_2, cv_25_2p, fa_82_1, fa_82_1p, fa_82_2, fa_82_2p, fa_54_5, fa_54_5p, cv_21_69, cv_21_69p, cv_69_21, cv_69_21p, cv_69_5, cv_69_5p, cv_73_69, cv_73_69p, cv_73_3, cv_73_3p, cv_25_69, cv_25_69p, cv_69_73, cv_69_73p, cv_69_25, cv_69_25p, cv_69_2, cv_69_2p, fa_82_0, fa_82_0p, cv_5_69, cv_5_69p, cv_3_69, cv_3_69p, cv_21_3, cv_21_3p, o_add, o_addp, o_sub, o_subp, o_mul, o_mulp, o_lss, o_lssp, o_leq, o_leqp, o_gtr, o_gtrp, o_geq, o_geqp, o_eql, o_eqlp, o_neq, o_neqp, os_eql, os_eqlp, os_neq, os_neqp, o_and, o_andp, o_or, o_orp, o_xor, o_xorp, o_not, o_notp, o_pickT, o_pickTp, o_pickF, o_pickFp, o_ext1_0, o_ext1_0p, o_ext2_0, o_ext2_0p, o_ext2_1, o_ext2_1p, o_ext3_0, o_ext3_0p, o_ext3_1, o_ext3_1p, o_ext3_2, o_ext3_2p, o_ext4_0, o_ext4_0p, o_ext4_1, o_ext4_1p, o_ext4_2, o_ext4_2p, o_ext4_3, o_ext4_3p, o_ext5_0, o_ext5_0p, o_ext5_1, o_ext5_1p, o_ext5_2, o_ext5_2p, o_ext5_3, o_ext5_3p, o_ext5_4, o_ext5_4p, o_fn, o_fnp, o_chk, o_chkp, condT, condF, cond_decide, cond_beq, cond_bne, cond_not, guardW_true, guardW_ff, guardW_tf, guardW_ft, guardV_true, guardV_ff, guardV_tf, guardV_ft, Nat.zero_add, Nat.add_zero, beq_self_eq_true, decide_true, decide_false, Bool.not_true, Bool.not_false])
  exact ⟨trivial, hS.drop.drop⟩
end
end Go.Proofs.Ytklojohafbmonaa
