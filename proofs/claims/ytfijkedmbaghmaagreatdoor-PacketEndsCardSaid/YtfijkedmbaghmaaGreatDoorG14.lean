/- PacketEnds: the walk. -/
import Derived.Test.YtfijkedmbaghmaaGreatDoorG13
set_option linter.unusedVariables false
set_option linter.unusedSimpArgs false
namespace Go.Proofs.YtfijkedmbaghmaaGreatDoor
open Go.Sh
section
variable (Z : List PanicEntry → World → Prop) {o w : World} {R As : List HProp} {g : Nat} {p : Pk}
set_option maxRecDepth 100000 in
theorem packetEnds {y : Value} {k : Nat} {more : List UInt8} (p : Pk) (n : Int) (hw : WfP p) (hx : RdP w p) (hy : Rd w 1 y k (cb more)) (hnr : -9223372036854775808 ≤ n ∧ n ≤ 9223372036854775807) (hN : Names w) (hM : Named w) :
    CallV Tryz.prog Z 6 #[.agg p.cells.toArray, .int .i64 n, y] w fun r w' => r = .bool true ∧ St w w' [old w] := by
  have hk := rd_len hy
  subst hk
  obtain ⟨ya, yc, rfl⟩ := hy.form
  have hml : more.length ≤ 9223372036854775807 := hy.2.1
  refine f6.calls ?_
  unfold f6.sh
  refine r_box _ _ (St.start w) fun g1 w1 hS => ?_
  have hS : St w w1 (blk g1 39 p.cells :: [old w]) := hS
  refine r_loadN ag39 (xs := p.cells) rfl (hS.cells_at m0 0 (whole_at _)) ?_
  refine (largeP Z (fun w' hw' => RdP.of_old hx hw' m1) hS).mono fun r w2 ⟨⟨b, hr, hbl⟩, hS⟩ => ?_
  subst hr
  cases b with
  | true =>
    (try simp only [ln_30_3, o_lss, o_pickT, condT, guardW_tf])
    exact ⟨by first | rfl | trivial, hS.drop⟩
  | false =>
  by_cases hmb : (more.length : Int) > 536870911
  · (try simp only [ln_30_3, o_lss, o_pickF, guardW_ff, o_gtr, hmb, decide_true, condT])
    exact ⟨by first | rfl | trivial, hS.drop⟩
  (try simp only [ln_30_3, o_lss, o_pickF, guardW_ff, o_gtr, hmb, decide_false, condF])
  refine (livesP Z hN hM m1 hS).mono fun r w3 ⟨hr, hS⟩ => ?_
  subst hr
  refine r_loadN ag39 (xs := p.cells) rfl (hS.cells_at m0 0 (whole_at _)) ?_
  refine (writeP Z hN hM m1 hw (fun w' hw' => RdP.of_old hx hw' m1) hS).mono fun r w4 hr => ?_
  have z0 : ((0 : Int) != 0) = false := rfl
  have z4 : ((150 : Int) != 0) = true := rfl
  have z2 : ((0 : Int) == 0) = true := rfl
  have z3 : ((150 : Int) == 0) = false := rfl
  have z5 : ((150 : Int) == 150) = true := rfl
  have z6 : ((150 : Int) != 150) = false := rfl
  cases hok : okP p with
  | false =>
    rw [hok, if_neg Bool.false_ne_true] at hr
    obtain ⟨rfl, hS⟩ := hr
    (try simp only [o_ext2_1, o_neq, Int.reduceBNe, condT, o_eql, z3, o_ext2_0])
    refine r_loadN ag39 (xs := p.cells) rfl (hS.cells_at m0 0 (whole_at _)) ?_
    refine (refChkP Z hw (fun w' hw' => RdP.of_old hx hw' m1) hS).mono fun r w5 ⟨hr, hS⟩ => ?_
    rw [hok, if_neg Bool.false_ne_true] at hr
    subst hr
    (try simp only [o_eql, z3, neqb_4, bne_self_eq_false, o_pickF, guardW_ff, o_not, Bool.not_true, condF])
    exact ⟨by first | rfl | trivial, hS.drop⟩
  | true =>
    rw [hok, if_pos rfl] at hr
    obtain ⟨v, rfl, hS⟩ := hr
    (try simp only [o_ext2_1, o_neq, bne_self_eq_false, condF, o_eql, z2, o_ext2_0])
    refine r_loadN ag39 (xs := p.cells) rfl (hS.cells_at m1 0 (whole_at _)) ?_
    refine (refChkP Z hw (fun w' hw' => RdP.of_old hx hw' m2) hS).mono fun r w5 ⟨hr, hS⟩ => ?_
    rw [hok, if_pos rfl] at hr
    subst hr
    have hcap := own_cap hS
    have hlen := pkB_len hw hok
    have hpl := pkB_length p
    have hbp := body_pos p
    obtain ⟨va, vc, e⟩ := hS.own_form
    subst e
    have hvc : (pkB p).length ≤ vc := hcap _ _ _ rfl
    have hU := uniqL hN hM m2 (Ent.own (e := 5) m0) hcap (by omega) hS
    (try simp only [ln_30_3, o_sub, o_eql, z2, neqb_4, bne_self_eq_false, o_pickF, guardW_ff, o_not, Bool.not_true, condF])
    intro j22 hj22
    have J : ∀ (w' : World) (i : Nat), i < (pkB p).length → St w w' (own 5 1 (.slice va (pkB p).length vc) (pkB p).length (cb (pkB p)) :: blk g1 39 p.cells :: [old w]) → j22 (.int .i64 i) w' := by
      intro w6 i hi hS
      refine hj22 _ _ fun _ => ?_
      clear hj22
      refine r1 (run_slice_to el30 va (pkB p).length vc .i64 (i : Int) (by omega) (by omega) _) ?_
      rw [Int.toNat_natCast]
      have hcapi : CapOk (.slice va i vc) := fun a n c e => by injection e with _ h2 h3; omega
      refine (readE Z 150 (.inr ⟨rfl, fun u hu huo => ends_take hU hw hok hu huo hi⟩) hN hM m2 (fun w' hw' => Rd.head (hw'.own_rd m0) i (by omega)) hcapi (by rw [List.length_take]; omega) hS).mono fun r w7 ⟨⟨u, hr, huon⟩, hS⟩ => ?_
      subst hr
      (try simp only [o_geq, cond_decide, o_ext2_1, o_neq, bne_self_eq_false, o_pickF, guardW_ff, ln_30_3, o_eql, o_ext2_0])
      refine r_alloc hS ze39 fun g2 w8 hS => ?_
      refine r_storeN hS ag39 (xs := u.cells) rfl (show 0 + 32 ≤ 32 from Nat.le_refl _) huon fun w9 hS => ?_
      have hS := hS.drop
      refine (copyBytes Z hS (Ent.own (e := 5) m0) (by omega)).mono fun r w10 hS => ?_
      refine ⟨fun m x y w' => ∃ i : Nat, y = .int .i64 i ∧ m + i = more.length ∧ St w w' (own 5 1 x ((pkB p).length + i) (cb (pkB p ++ more.take i)) :: own 5 1 (.slice va (pkB p).length vc) (pkB p).length (cb (pkB p)) :: blk g1 39 p.cells :: [old w]), ⟨more.length, 0, rfl, rfl, by simpa using hS⟩, ?_⟩
      clear hS
      rintro m x _ w11 ⟨j, rfl, hj, hS⟩ _
      by_cases hlt : (j : Int) < (more.length : Int)
      · have hj1 : j < more.length := by omega
        (try simp only [o_add, o_lss, hlt, decide_true, condT])
        obtain ⟨q, hq, hqc⟩ := rd_index (hy.of_old hS m3) j hj1
        refine r1 (hq _) (r_load one5 hqc ?_)
        refine r_push el30 hS _ rfl (by omega) (by simp only [maxLen]; omega) fun v' w2 hS2 => ?_
        skip
        rw [wr_i64 (x := (j : Int) + 1) (by omega) (by omega)]
        refine ⟨m - 1, by omega, j + 1, rfl, by omega, ?_⟩
        rw [List.take_succ_eq_append_getElem hj1, ← List.append_assoc, cb_append, ← Nat.add_assoc]
        exact hS2
      · obtain rfl : j = more.length := by omega
        rw [List.take_length] at hS
        (try simp only [o_add, o_lss, hlt, decide_false, condF])
        rw [← List.length_append] at hS
        have hLl : (pkB p ++ more).length ≤ 540000000 := by rw [List.length_append]; omega
        have hcapx := own_cap hS
        obtain ⟨xa, xc, e⟩ := hS.own_form
        subst e
        have hU2 := uniqL hN hM m3 (Ent.own (e := 5) m0) hcapx (by omega) hS
        have hL4 : 4 ≤ (pkB p ++ more).length := by rw [List.length_append]; omega
        have hE : ∃ e : Int, ((e = 0 ∧ more = []) ∨ (e = 150 ∧ more ≠ [])) := by
          by_cases h : more = []
          · exact ⟨0, .inl ⟨rfl, h⟩⟩
          · exact ⟨150, .inr ⟨rfl, h⟩⟩
        obtain ⟨e, he⟩ := hE
        have hee : (e == 0) = ((more.length : Int) == 0) := by
          rcases he with ⟨rfl, rfl⟩ | ⟨rfl, h⟩
          · rfl
          · have : more.length ≠ 0 := fun h0 => h (List.eq_nil_of_length_eq_zero h0)
            rw [z3]
            symm
            rw [beq_eq_false_iff_ne]
            omega
        refine (readE Z e (he.imp (fun ⟨h1, h2⟩ => ⟨h1, p, hw, hok, by rw [h2, List.append_nil]⟩) fun ⟨h1, h2⟩ => ⟨h1, fun u hu huo => ends_more hU2 hw hok hu huo h2⟩) hN hM m3 (Ent.own (e := 5) m0) hcapx (by omega) hS).mono fun r w12 ⟨⟨u2, hr, huon2⟩, hS⟩ => ?_
        subst hr
        (try simp only [o_ext2_1, o_eql, neqb_4, o_ext2_0])
        refine r_alloc hS ze39 fun g3 w13 hS => ?_
        refine r_storeN hS ag39 (xs := u2.cells) rfl (show 0 + 32 ≤ 32 from Nat.le_refl _) huon2 fun w14 hS => ?_
        have hS := hS.drop
        skip
        rw [hee, bne_self_eq_false]
        (try simp only [condF])
        intro j52 hj52
        have hd : (pkB p ++ more).drop 4 = body p ++ more := by rw [List.drop_append_of_le_length (by omega), pkB, summed_drop]
        have J2 : ∀ w', St w w' (own 5 1 (.slice xa (pkB p ++ more).length xc) (pkB p ++ more).length (cb (pkB p ++ more)) :: own 5 1 (.slice va (pkB p).length vc) (pkB p).length (cb (pkB p)) :: blk g1 39 p.cells :: [old w]) → j52 (.int .i64 150) w' := by
          intro w15 hS
          refine hj52 _ _ fun _ => ?_
          clear hj52
          refine r1 (run_slice_from el30 xa (pkB p ++ more).length xc .i64 4 (by omega) (by omega) _) ?_
          refine (summedC Z hS (fun w' hw' => Rd.tail (hw'.own_rd m0) (hcapx _ _ _ rfl) 4 hL4) (by rw [List.length_drop]; omega)).mono fun r w16 hS => ?_
          rw [hd] at hS
          have hsl : (summed (body p ++ more)).length ≤ 540000100 := by rw [summed, List.length_append, enc_length, ← hd, List.length_drop]; omega
          have hcaps := own_cap hS
          have hU3 := uniqL hN hM m4 (Ent.own (e := 5) m0) hcaps (by omega) hS
          refine (readE Z e (he.imp (fun ⟨h1, h2⟩ => ⟨h1, p, hw, hok, by rw [h2, List.append_nil]; rfl⟩) fun ⟨h1, h2⟩ => ⟨h1, fun u hu huo => ends_summed hU3 hw hok hu huo h2⟩) hN hM m4 (Ent.own (e := 5) m0) hcaps (by omega) hS).mono fun r w17 ⟨⟨u3, hr, _⟩, hS⟩ => ?_
          subst hr
          (try simp only [o_eql, z5, o_pickT, guardW_true, ln_30_3, o_ext2_1, eqlb_4, o_ext2_0])
          rw [hee, beq_self_eq_true]
          exact ⟨rfl, by (refine Sh.St.sub ?_ (hS); repeat (first | with_reducible exact sub_refl | with_reducible exact sub_nil | with_reducible refine sub_p0 ?_ | with_reducible refine sub_p1 ?_ | with_reducible refine sub_p2 ?_ | with_reducible refine sub_p3 ?_ | with_reducible refine sub_p4 ?_ | with_reducible refine sub_p5 ?_ | with_reducible refine sub_p6 ?_ | with_reducible refine sub_p7 ?_ | with_reducible refine sub_p8 ?_ | with_reducible refine sub_p9 ?_ | with_reducible refine sub_p10 ?_ | with_reducible refine sub_p11 ?_ | with_reducible refine sub_p12 ?_ | with_reducible refine sub_p13 ?_ | with_reducible refine sub_p14 ?_ | with_reducible refine sub_p15 ?_ | exact sub_refl | refine sub_p0 ?_ | refine sub_p1 ?_ | refine sub_p2 ?_ | refine sub_p3 ?_ | refine sub_p4 ?_ | refine sub_p5 ?_ | refine sub_p6 ?_ | refine sub_p7 ?_ | refine sub_p8 ?_ | refine sub_p9 ?_ | refine sub_p10 ?_ | refine sub_p11 ?_ | refine sub_p12 ?_ | refine sub_p13 ?_ | refine sub_p14 ?_ | refine sub_p15 ?_ | refine sub_drop ?_))⟩
        refine ⟨fun h4 => ?_, fun h4 => J2 _ hS⟩
        have h4 : 4 ≤ i := by omega
        refine r1 (run_slice_mid el30 va (pkB p).length vc .i64 .i64 4 (i : Int) (by omega) (by omega) (by omega) _) ?_
        rw [Int.toNat_natCast]
        refine (summedC Z hS (fun w' hw' => Rd.tail (Rd.head (hw'.own_rd m1) i (by omega)) (by omega) 4 h4) (by rw [List.length_drop, List.length_take]; omega)).mono fun r w16 hS => ?_
        have hsl : (summed (((pkB p).take i).drop 4)).length ≤ 540000100 := by rw [summed, List.length_append, enc_length, List.length_drop, List.length_take]; omega
        refine (readE Z 150 (.inr ⟨rfl, fun u hu huo e => ends_key hU hw hok hu huo h4 hi (summed_inj e)⟩) hN hM m4 (Ent.own (e := 5) m0) (own_cap hS) (by omega) hS).mono fun r w17 ⟨⟨u3, hr, _⟩, hS⟩ => ?_
        subst hr
        (try simp only [o_ext2_1, o_ext2_0])
        exact J2 _ hS.drop
    by_cases h1 : n < 0
    · (try simp only [h1, decide_true, o_pickT, condT, guardW_tf])
      rw [wr_i64 (x := ((pkB p).length : Int) - 1) (by omega) (by omega), show ((pkB p).length : Int) - 1 = (((pkB p).length - 1 : Nat) : Int) by omega]
      exact J _ _ (by omega) hS
    by_cases h2 : ((pkB p).length : Int) ≤ n
    · (try simp only [h1, decide_false, o_pickF, guardW_ff, ln_30_3, o_geq, h2, decide_true, condT])
      rw [wr_i64 (x := ((pkB p).length : Int) - 1) (by omega) (by omega), show ((pkB p).length : Int) - 1 = (((pkB p).length - 1 : Nat) : Int) by omega]
      exact J _ _ (by omega) hS
    obtain ⟨i, rfl⟩ : ∃ i : Nat, n = i := ⟨n.toNat, by omega⟩
    (try simp only [h1, decide_false, o_pickF, guardW_ff, ln_30_3, o_geq, h2, condF])
    exact J _ i (by omega) hS
end
end Go.Proofs.YtfijkedmbaghmaaGreatDoor
