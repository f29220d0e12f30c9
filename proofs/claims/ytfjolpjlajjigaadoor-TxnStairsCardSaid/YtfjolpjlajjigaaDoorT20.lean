/- TxnNumbers, TxnPacked: the walks. -/
import Derived.Test.YtfjolpjlajjigaaDoorT19
set_option linter.unusedVariables false
set_option linter.unusedSimpArgs false
namespace Go.Proofs.YtfjolpjlajjigaaDoor
open Go.Sh
def ZxO (w : World) (cs : List Value) : Prop := ∃ e n, cs = zx e n ∧ u32r e ∧ u32r n
theorem opn_ZxO (w : World) : Opn Tryd.prog w 26 (ZxO w) := (opn_struct Tryd.underlying26 [(1, fun cs => ∃ n, cs = [.int .u32 n] ∧ u32r n), (1, fun cs => ∃ n, cs = [.int .u32 n] ∧ u32r n)] (by kernel_rfl) (by kernel_rfl)
  ⟨by kernel_rfl, (opn_int Tryd.underlying24).mono fun cs ⟨n, h, a, b⟩ => ⟨n, h, a, b⟩, by kernel_rfl, (opn_int Tryd.underlying24).mono fun cs ⟨n, h, a, b⟩ => ⟨n, h, a, b⟩, trivial⟩).mono fun cs ⟨c, d, h, _, ⟨e, h1, he⟩, c2, d2, h2, _, ⟨n, h3, hn⟩, h4⟩ => ⟨e, n, by subst h; subst h1; subst h2; subst h3; simp only [Cut] at h4; subst h4; rfl, he, hn⟩
def I64O (w : World) (cs : List Value) : Prop := ∃ n, cs = [.int .i64 n] ∧ -9223372036854775808 ≤ n ∧ n ≤ 9223372036854775807
theorem opn_I64O (w : World) : Opn Tryd.prog w 2 (I64O w) := (opn_int Tryd.underlying2).mono fun cs ⟨n, h, a, b⟩ => ⟨n, h, a, b⟩
def pkN (e n : Int) : Int := if 2147483647 < e then 0 else e * 4294967296 + n
def pkE (e : Int) : Int := if 2147483647 < e then 1 else 0
theorem packV_eq (e n : Int) : packV e n = .tuple #[.int .i64 (pkN e n), .int .i64 (pkE e)] := by unfold packV pkN pkE; split <;> rfl
def upE (n : Int) : Int := if n < 0 then 0 else n / 4294967296
def upN (n : Int) : Int := if n < 0 then 0 else n % 4294967296
def upX (n : Int) : Int := if n < 0 then 1 else 0
theorem unpV_eq (n : Int) : unpV n = .tuple #[.agg (zx (upE n) (upN n)).toArray, .int .i64 (upX n)] := by unfold unpV upE upN upX; split <;> rfl
theorem nextV_eq (e n l : Int) : ∃ a b x, nextV e n l = .tuple #[.agg (zx a b).toArray, .int .i64 x] := by
  unfold nextV
  split
  · exact ⟨_, _, _, rfl⟩
  · split <;> exact ⟨_, _, _, rfl⟩
section
variable (Z : List PanicEntry → World → Prop) {o w : World} {R As : List HProp}
theorem numbers (e n e' n' k : Int) (he : u32r e) (hn : u32r n) (hn' : u32r n') (hk : -9223372036854775808 ≤ k ∧ k ≤ 9223372036854775807) (hN : Names w) :
    CallV Tryd.prog Z 7 #[.agg (zx e n).toArray, .agg (zx e' n').toArray, .int .i64 k] w fun r w' => r = .bool true ∧ St w w' [old w] := by
  obtain ⟨na, nb, nx, hnx⟩ := nextV_eq e n n'
  refine f7.calls ?_
  unfold f7.sh
  refine r_box _ _ (St.start w) fun g1 w1 hS => ?_
  refine r_box _ _ hS fun g2 w2 hS => ?_
  have hS : St w w2 (blk g2 26 (zx e' n') :: blk g1 26 (zx e n) :: [old w]) := hS
  refine (worksC Z hN m2 hS).mono fun r w3 ⟨hr, hS⟩ => ?_
  subst hr
  refine r_loadN ag26 (xs := zx e n) rfl (hS.cells_at m1 0 (whole_at _)) ?_
  refine r_loadN ag26 (xs := zx e' n') rfl (hS.cells_at m0 0 (whole_at _)) ?_
  refine (txnCompare Z hS).mono fun r w4 ⟨hr, hS⟩ => ?_
  subst hr
  refine r_loadN ag26 (xs := zx e n) rfl (hS.cells_at m1 0 (whole_at _)) ?_
  refine (txnPack Z he hn hS).mono fun r w5 ⟨hr, hS⟩ => ?_
  rw [packV_eq] at hr
  subst hr
  (try simp only [o_pickT, guardW_true, fa_26_1, Nat.zero_add, o_ext2_1, o_ext2_0])
  refine (txnUnpack Z hk hS).mono fun r w6 ⟨hr, hS⟩ => ?_
  rw [unpV_eq] at hr
  subst hr
  (try simp only [o_ext2_1, o_ext2_0])
  refine r_alloc hS ze26 fun g3 w7 hS => ?_
  refine r_storeN hS ag26 (xs := zx (upE k) (upN k)) rfl (show 0 + 2 ≤ 2 from Nat.le_refl _) (zx_ones _ _) fun w8 hS => ?_
  rw [setL_all _ _ (by rfl)] at hS
  refine r_loadN ag26 (xs := zx e n) rfl (hS.cells_at m2 0 (whole_at _)) ?_
  skip
  refine r_load one24 (hS.at m1 1 rfl) ?_
  refine (txnNext Z he hn hn' hS).mono fun r w9 ⟨hr, hS⟩ => ?_
  rw [hnx] at hr
  subst hr
  (try simp only [o_ext2_1, o_ext2_0])
  refine r_alloc hS ze26 fun g4 w10 hS => ?_
  refine r_storeN hS ag26 (xs := zx na nb) rfl (show 0 + 2 ≤ 2 from Nat.le_refl _) (zx_ones _ _) fun w11 hS => ?_
  rw [setL_all _ _ (by rfl)] at hS
  refine r_loadN ag26 (xs := zx e n) rfl (hS.cells_at m3 0 (whole_at _)) ?_
  refine (refPack Z he hn hS).mono fun r w12 ⟨hr, hS⟩ => ?_
  rw [packV_eq] at hr
  subst hr
  (try simp only [o_ext2_1, o_ext2_0])
  refine (refUnpack Z hk hS).mono fun r w13 ⟨hr, hS⟩ => ?_
  rw [unpV_eq] at hr
  subst hr
  (try simp only [o_ext2_1, o_ext2_0])
  refine r_alloc hS ze26 fun g5 w14 hS => ?_
  refine r_storeN hS ag26 (xs := zx (upE k) (upN k)) rfl (show 0 + 2 ≤ 2 from Nat.le_refl _) (zx_ones _ _) fun w15 hS => ?_
  rw [setL_all _ _ (by rfl)] at hS
  refine r_loadN ag26 (xs := zx e n) rfl (hS.cells_at m4 0 (whole_at _)) ?_
  skip
  refine r_load one24 (hS.at m3 1 rfl) ?_
  refine (refNext Z he hn hn' hS).mono fun r w16 ⟨hr, hS⟩ => ?_
  rw [hnx] at hr
  subst hr
  (try simp only [o_ext2_1, o_ext2_0])
  refine r_alloc hS ze26 fun g6 w17 hS => ?_
  refine r_storeN hS ag26 (xs := zx na nb) rfl (show 0 + 2 ≤ 2 from Nat.le_refl _) (zx_ones _ _) fun w18 hS => ?_
  rw [setL_all _ _ (by rfl)] at hS
  skip
  refine r_loadN ag26 (xs := zx e n) rfl (hS.cells_at m5 0 (whole_at _)) ?_
  refine r_loadN ag26 (xs := zx e' n') rfl (hS.cells_at m4 0 (whole_at _)) ?_
  refine (refCompare Z hS).mono fun r w19 ⟨hr, hS⟩ => ?_
  subst hr
  (try simp only [o_eql, beq_self_eq_true, o_pickT, guardW_true])
  refine r_loadN ag26 (xs := zx (upE k) (upN k)) rfl (hS.cells_at m3 0 (whole_at _)) ?_
  refine r_loadN ag26 (xs := zx (upE k) (upN k)) rfl (hS.cells_at m1 0 (whole_at _)) ?_
  refine r1 (eqZx _ _ _ _ _) ?_
  simp only [beq_self_eq_true, Bool.and_self]
  (try simp only [o_pickT, guardW_true, o_eql, beq_self_eq_true])
  refine r_loadN ag26 (xs := zx na nb) rfl (hS.cells_at m2 0 (whole_at _)) ?_
  refine r_loadN ag26 (xs := zx na nb) rfl (hS.cells_at m0 0 (whole_at _)) ?_
  refine r1 (eqZx _ _ _ _ _) ?_
  simp only [beq_self_eq_true, Bool.and_self]
  (try simp only [o_pickT, guardW_true, o_eql, beq_self_eq_true])
  exact ⟨by first | rfl | trivial, hS.drop.drop.drop.drop.drop.drop⟩
theorem cmpZ_pack {e n e' n' : Int} (hn : u32r n) (hn' : u32r n') : (decide (e * 4294967296 + n < e' * 4294967296 + n') == decide (cmpZ e n e' n' < 0)) = true ∧ ((e * 4294967296 + n == e' * 4294967296 + n') == (cmpZ e n e' n' == 0)) = true ∧ cmpZ e n e' n' = -cmpZ e' n' e n ∧ (-1 ≤ cmpZ e n e' n' ∧ cmpZ e n e' n' ≤ 1) := by
  unfold u32r at hn hn'
  have key : (cmpZ e n e' n' = -1 ∧ cmpZ e' n' e n = 1 ∧ e * 4294967296 + n < e' * 4294967296 + n') ∨ (cmpZ e n e' n' = 1 ∧ cmpZ e' n' e n = -1 ∧ e' * 4294967296 + n' < e * 4294967296 + n) ∨ (cmpZ e n e' n' = 0 ∧ cmpZ e' n' e n = 0 ∧ e * 4294967296 + n = e' * 4294967296 + n') := by
    unfold cmpZ cmpI
    split <;> split <;> (try split) <;> (try split) <;> (try split) <;> (try split) <;> (try split) <;> (try split) <;> (try split) <;> omega
  rcases key with ⟨h1, h2, h3⟩ | ⟨h1, h2, h3⟩ | ⟨h1, h2, h3⟩
  · refine ⟨?_, ?_, by rw [h1, h2], by omega⟩
    · rw [h1, decide_eq_true h3]; rfl
    · rw [h1, beq_eq_false_iff_ne.2 (show e * 4294967296 + n ≠ e' * 4294967296 + n' by omega)]; rfl
  · refine ⟨?_, ?_, by rw [h1, h2]; rfl, by omega⟩
    · rw [h1, decide_eq_false (show ¬ e * 4294967296 + n < e' * 4294967296 + n' by omega)]; rfl
    · rw [h1, beq_eq_false_iff_ne.2 (show e * 4294967296 + n ≠ e' * 4294967296 + n' by omega)]; rfl
  · refine ⟨?_, ?_, by rw [h1, h2]; rfl, by omega⟩
    · rw [h1, decide_eq_false (show ¬ e * 4294967296 + n < e' * 4294967296 + n' by omega)]; rfl
    · rw [h1, h3]; simp
theorem packed (e n e' n' : Int) (he : u32r e) (hn : u32r n) (he' : u32r e') (hn' : u32r n') (hN : Names w) :
    CallV Tryd.prog Z 5 #[.agg (zx e n).toArray, .agg (zx e' n').toArray] w fun r w' => r = .bool true ∧ St w w' [old w] := by
  refine f5.calls ?_
  unfold f5.sh
  refine r_box _ _ (St.start w) fun g1 w1 hS => ?_
  refine r_box _ _ hS fun g2 w2 hS => ?_
  have hS : St w w2 (blk g2 26 (zx e' n') :: blk g1 26 (zx e n) :: [old w]) := hS
  refine (worksC Z hN m2 hS).mono fun r w3 ⟨hr, hS⟩ => ?_
  subst hr
  refine r_loadN ag26 (xs := zx e n) rfl (hS.cells_at m1 0 (whole_at _)) ?_
  refine (txnPack Z he hn hS).mono fun r w4 ⟨hr, hS⟩ => ?_
  rw [packV_eq] at hr
  subst hr
  (try simp only [fa_26_0, Nat.add_zero, o_pickT, guardW_true, o_ext2_1, o_neq, o_ext2_0])
  refine r_loadN ag26 (xs := zx e' n') rfl (hS.cells_at m0 0 (whole_at _)) ?_
  refine (txnPack Z he' hn' hS).mono fun r w5 ⟨hr, hS⟩ => ?_
  rw [packV_eq] at hr
  subst hr
  have z0 : ((0 : Int) != 0) = false := rfl
  have z1 : ((1 : Int) != 0) = true := rfl
  have z2 : ((0 : Int) == 0) = true := rfl
  (try simp only [o_ext2_1, o_ext2_0])
  by_cases h1 : 2147483647 < e
  · have e1 : pkE e = 1 := if_pos h1
    rw [e1]
    (try simp only [z1, o_pickT, condT, guardW_tf])
    refine r_load one24 (hS.at m1 0 rfl) ?_
    (try simp only [o_gtr, h1, decide_true, o_pickT, guardW_tf])
    exact ⟨by first | rfl | trivial, hS.drop.drop⟩
  have e1 : pkE e = 0 := if_neg h1
  rw [e1]
  by_cases h2 : 2147483647 < e'
  · have e2 : pkE e' = 1 := if_pos h2
    rw [e2]
    (try simp only [z0, o_pickF, guardW_ff, o_neq, z1, condT])
    refine r_load one24 (hS.at m1 0 rfl) ?_
    (try simp only [o_gtr, h1, decide_false, o_pickF, guardW_ff])
    refine r_load one24 (hS.at m0 0 rfl) ?_
    (try simp only [o_gtr, h2, decide_true])
    exact ⟨by first | rfl | trivial, hS.drop.drop⟩
  have e2 : pkE e' = 0 := if_neg h2
  rw [e2]
  (try simp only [z0, o_pickF, guardW_ff, o_neq, condF])
  have hp1 : pkN e n = e * 4294967296 + n := if_neg h1
  have hp2 : pkN e' n' = e' * 4294967296 + n' := if_neg h2
  rw [hp1, hp2]
  have he2 := he; have hn2 := hn; have he2' := he'; have hn2' := hn'
  unfold u32r at he2 hn2 he2' hn2'
  refine (txnUnpack Z (n := e * 4294967296 + n) (by omega) hS).mono fun r w6 ⟨hr, hS⟩ => ?_
  have hu : unpV (e * 4294967296 + n) = .tuple #[.agg (zx e n).toArray, .int .i64 0] := by
    unfold unpV
    rw [if_neg (by omega)]
    rw [show (e * 4294967296 + n) / 4294967296 = e by omega, show (e * 4294967296 + n) % 4294967296 = n by omega]
  rw [hu] at hr
  subst hr
  (try simp only [o_ext2_1, o_eql, beq_self_eq_true, o_pickT, guardW_true, o_ext2_0])
  refine r_alloc hS ze26 fun g3 w7 hS => ?_
  refine r_storeN hS ag26 (xs := zx e n) rfl (show 0 + 2 ≤ 2 from Nat.le_refl _) (zx_ones _ _) fun w8 hS => ?_
  rw [setL_all _ _ (by rfl)] at hS
  refine r_loadN ag26 (xs := zx e n) rfl (hS.cells_at m2 0 (whole_at _)) ?_
  refine r_loadN ag26 (xs := zx e' n') rfl (hS.cells_at m1 0 (whole_at _)) ?_
  refine (txnCompare Z hS).mono fun r w9 ⟨hr, hS⟩ => ?_
  subst hr
  refine r_loadN ag26 (xs := zx e' n') rfl (hS.cells_at m1 0 (whole_at _)) ?_
  refine r_loadN ag26 (xs := zx e n) rfl (hS.cells_at m2 0 (whole_at _)) ?_
  refine (txnCompare Z hS).mono fun r w10 ⟨hr, hS⟩ => ?_
  subst hr
  skip
  refine r_loadN ag26 (xs := zx e n) rfl (hS.cells_at m0 0 (whole_at _)) ?_
  refine r_loadN ag26 (xs := zx e n) rfl (hS.cells_at m2 0 (whole_at _)) ?_
  refine r1 (eqZx _ _ _ _ _) ?_
  simp only [beq_self_eq_true, Bool.and_self]
  obtain ⟨k1, k2, k3, k4⟩ := cmpZ_pack (e := e) (e' := e') hn hn'
  (try simp only [o_pickT, guardW_true, o_lss, eqlb_4, k1, o_eql])
  (try simp only [k2, o_pickT, guardW_true])
  have kneg := cmpZ_pack (e := e') (n := n') (e' := e) (n' := n) hn' hn
  have hneg : (Op.unary .neg (.int .i64 (cmpZ e' n' e n))).run Tryd.prog w10 = .ok (.int .i64 (cmpZ e n e' n')) w10 := by
    have h0 : Op.unary .neg (.int .i64 (cmpZ e' n' e n)) = Op.intArith .sub .i64 0 (cmpZ e' n' e n) := rfl
    rw [h0]
    have h1 : (Op.intArith .sub .i64 0 (cmpZ e' n' e n)).run Tryd.prog w10 = .ok (.int .i64 (IntKind.i64.wrap (0 - cmpZ e' n' e n))) w10 := by simp [Op.intArith]
    rw [h1, wr_i64 (by omega) (by omega), show 0 - cmpZ e' n' e n = cmpZ e n e' n' by omega]
  refine r1 hneg ?_
  (try simp only [o_eql, beq_self_eq_true])
  exact ⟨by first | rfl | trivial, hS.drop.drop.drop⟩
end
end Go.Proofs.YtfjolpjlajjigaaDoor
