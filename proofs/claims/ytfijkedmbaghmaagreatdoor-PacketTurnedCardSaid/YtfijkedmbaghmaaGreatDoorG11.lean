/- Packets that came in; those that are large; an Info, there and back. -/
import Derived.Test.YtfijkedmbaghmaaGreatDoorG10
set_option linter.unusedVariables false
set_option linter.unusedSimpArgs false
namespace Go.Proofs.YtfijkedmbaghmaaGreatDoor
open Go.Sh
def CnO (cs : List Value) : Prop := ∃ a b : Int, cs = zx a b ∧ u32r a ∧ u32r b
theorem opn_CnO (w : World) : Opn Tryz.prog w 25 CnO := (opn_struct Tryz.underlying25 [(1, NumO .u32 0 4294967295), (1, NumO .u32 0 4294967295)] (by kernel_rfl) (by kernel_rfl)
  ⟨by kernel_rfl, opn_u32 w, by kernel_rfl, opn_u32 w, trivial⟩).mono (by
    rintro cs ⟨_, _, rfl, _, ⟨a, rfl, ha⟩, _, _, rfl, _, ⟨b, rfl, hb⟩, h4⟩
    simp only [Cut] at h4
    subst h4
    exact ⟨a, b, rfl, ha, hb⟩)
def PkO (w : World) (cs : List Value) : Prop := ∃ p : Pk, cs = p.cells ∧ RdP w p ∧ WfP p
theorem opn_PkO (w : World) : Opn Tryz.prog w 39 (PkO w) := (opn_struct Tryz.underlying39 [(1, NumO .i8 (-128) 127), (2, CnO), (2, CnO), (1, NumO .i64 (-9223372036854775808) 9223372036854775807), (1, NumO .u32 0 4294967295), (1, NumO .u32 0 4294967295), (2, ZxO w), (2, ZxO w), (1, BoolO), (1, BoolO), (16, TxO w), (1, BytesO w), (1, NumO .i64 (-9223372036854775808) 9223372036854775807)] (by kernel_rfl) (by kernel_rfl)
  ⟨by kernel_rfl, opn_i8 w, by kernel_rfl, opn_CnO w, by kernel_rfl, opn_CnO w, by kernel_rfl, opn_i64 w, by kernel_rfl, opn_u32 w, by kernel_rfl, opn_u32 w, by kernel_rfl, opn_ZxO w, by kernel_rfl, opn_ZxO w, by kernel_rfl, opn_bool Tryz.underlying4, by kernel_rfl, opn_bool Tryz.underlying4, by kernel_rfl, opn_TxO w, by kernel_rfl, opn_BytesO w, by kernel_rfl, opn_i64 w, trivial⟩).mono (by
    rintro cs ⟨_, _, rfl, _, ⟨kd, rfl, hkd⟩, _, _, rfl, _, ⟨cb', ct, rfl, hcb, hct⟩, _, _, rfl, _, ⟨lb, lt, rfl, hlb, hlt⟩, _, _, rfl, _, ⟨pl, rfl, hpl⟩, _, _, rfl, _, ⟨ep, rfl, hep⟩, _, _, rfl, _, ⟨cu, rfl, hcu⟩, _, _, rfl, _, ⟨ze, zn, rfl, hze, hzn⟩, _, _, rfl, _, ⟨ve, vn, rfl, hve, hvn⟩, _, _, rfl, _, ⟨co, rfl⟩, _, _, rfl, _, ⟨fi, rfl⟩, _, _, rfl, _, ⟨t, rfl, hh, hx, hq⟩, _, _, rfl, _, ⟨bv, rfl, b, hb, hbr⟩, _, _, rfl, _, ⟨se, rfl, hse⟩, h4⟩
    simp only [Cut] at h4
    subst h4
    exact ⟨⟨kd, cb', ct, lb, lt, pl, ep, cu, ze, zn, ve, vn, co, fi, t, bv, b, se⟩, rfl, ⟨hx, hbr⟩, ⟨hkd, hcb, hct, hlb, hlt, hpl, hep, hcu, hze, hzn, hve, hvn, hh, hq, hb, hse⟩⟩)
theorem RdP.of_old {o o' w : World} {p : Pk} {As : List HProp} (h : RdP o p) (hS : St o' w As) (hm : old o ∈ As) : RdP w p := ⟨RdQ.of_old _ h.t hS hm, h.b.of_old hS hm⟩
section
variable (Z : List PanicEntry → World → Prop) {o w : World} {R As : List HProp} {g : Nat} {p : Pk}
theorem largeP (hx : Ent o R fun w => RdP w p) (h : St o w R) : CallV Tryz.prog Z 7 #[.agg p.cells.toArray] w fun r w' => (∃ b : Bool, r = .bool b ∧ (b = false → p.b.length ≤ 536870911)) ∧ St o w' R := by
  refine f7.calls ?_
  unfold f7.sh
  refine r_box _ _ h fun g w1 hS => ?_
  have hS : St o w1 (blk g 39 p.cells :: R) := hS
  (try simp only [fa_39_10, Nat.zero_add, fa_39_11])
  refine r_load one30 (hS.at m0 30 rfl) ?_
  obtain ⟨ba, bc, hbv⟩ := (hx _ hS.drop).b.form
  rw [hbv]
  by_cases hb : (p.b.length : Int) > 536870911
  · (try simp only [ln_30_3, o_gtr, hb, decide_true, o_pickT, guardW_tf])
    exact ⟨⟨true, rfl, by simp⟩, hS.drop⟩
  · (try simp only [ln_30_3, o_gtr, hb, decide_false, o_pickF, guardW_ff, fa_37_2])
    refine r_loadN ag35 (xs := p.t.q.cells) rfl (hS.cells_at m0 19 fun j v hv => ?_) ?_
    · have := pk_tx p (5 + j) v (rq_at p.t j v hv)
      rwa [← Nat.add_assoc] at this
    refine (largeC Z p.t.q (fun w hw => (hx w hw.drop).t) hS).mono fun r w3 ⟨⟨b, hr⟩, hS⟩ => ?_
    subst hr
    skip
    exact ⟨⟨b, by first | rfl | trivial, fun _ => by omega⟩, hS.drop⟩
def pk1 : Pk := { pz with kd := 1, cb := 3, ct := 1, ep := 2 }
theorem pk1_wf : WfP pk1 := { pk0_wf (show -128 ≤ (1 : Int) ∧ (1 : Int) ≤ 127 by omega) with cb := (by unfold u32r; omega : u32r 3), ct := (by unfold u32r; omega : u32r 1), ep := (by unfold u32r; omega : u32r 2) }
theorem pk1_ok : okP pk1 = true := okP_fB.2 ⟨rfl, fun i hi => by
  unfold fB
  obtain rfl | rfl | rfl | rfl | rfl | rfl | rfl | rfl | rfl | rfl | rfl | rfl := lt12 hi
  · rfl
  · exact pk0_zr 1 (by omega : 1 < 12)
  · exact pk0_zr 1 (by omega : 2 < 12)
  · rfl
  · exact pk0_zr 1 (by omega : 4 < 12)
  · exact pk0_zr 1 (by omega : 5 < 12)
  · exact pk0_zr 1 (by omega : 6 < 12)
  · exact pk0_zr 1 (by omega : 7 < 12)
  · exact pk0_zr 1 (by omega : 8 < 12)
  · exact pk0_zr 1 (by omega : 9 < 12)
  · exact pk0_zr 1 (by omega : 10 < 12)
  · exact pk0_zr 1 (by omega : 11 < 12)⟩
theorem pk1_B : pkB pk1 = [0, 60, 0, 8, 1, 0, 0, 0, 3, 0, 0, 0, 1, 0, 0, 0, 2] := by decide +kernel
theorem livesP (hN : Names o) (hM : Named o) (ho : old o ∈ R) (h : St o w R) : CallV Tryz.prog Z 8 #[] w fun r w' => r = .bool true ∧ St o w' R := by
  refine f8.calls ?_
  unfold f8.sh
  refine r_build (cells := (zx 3 1).toArray) (by kernel_rfl) ?_
  refine r_build (cells := pk1.cells.toArray) (by kernel_rfl) ?_
  refine r_alloc h ze39 fun g1 w1 hS => ?_
  have hrd : ∀ w, RdP w pk1 := fun w => ⟨qz_rd w, rd0 w 1⟩
  refine r_storeN hS ag39 (xs := pk1.cells) rfl (show 0 + 32 ≤ 32 from Nat.le_refl _) (hrd w1).ones fun w2 hS => ?_
  rw [setL_all _ _ (by rfl)] at hS
  refine r_loadN ag39 (xs := pk1.cells) rfl (hS.cells_at m0 0 (whole_at _)) ?_
  refine (writeP Z hN hM (by simp [ho]) pk1_wf (fun w _ => hrd w) hS).mono fun r w3 hr => ?_
  rw [if_pos pk1_ok] at hr
  obtain ⟨v, rfl, hS⟩ := hr
  (try simp only [o_ext2_1, o_eql, beq_self_eq_true, o_pickT, guardW_true, o_ext2_0])
  refine r_slice el30 hS 17 _ (cb (pkB pk1)) (by rw [pk1_B]; rfl) (by omega) (by omega) (cb_ones _) (by rw [pk1_B]; rfl) fun g2 w4 hS => ?_
  refine (readP Z hN hM (by simp [ho]) (l := pkB pk1) (Ent.own (e := 5) m0) (fun a n c e => by injection e with _ h1 h2; omega) (by rw [pk1_B]; decide) hS).mono fun r w5 hq => ?_
  rcases hq with ⟨p, hok, hwf, hl, hu, rfl, hS⟩ | ⟨hno, _⟩
  case inr => exact absurd rfl (hno pk1 pk1_wf pk1_ok)
  have hs := hu pk1 pk1_wf pk1_ok (pk_has rfl)
  (try simp only [o_ext2_1, o_eql, beq_self_eq_true, o_pickT, guardW_true, o_ext2_0])
  refine r_alloc hS ze39 fun g3 w6 hS => ?_
  have hrp : RdP w6 p := ⟨OwQ.rd _ hS.drop, hS.own_rd m2⟩
  refine r_storeN hS ag39 (xs := p.cells) rfl (show 0 + 32 ≤ 32 from Nat.le_refl _) hrp.ones fun w7 hS => ?_
  rw [setL_all _ _ (by rfl)] at hS
  have h17 : (pkB pk1).length = 17 := by rw [pk1_B]; rfl
  rw [h17] at hS
  obtain ⟨va, vc, rfl⟩ := (hS.pick 4).own_form
  have e17 : (((17 : Nat) : Int) == 17) = true := rfl
  (try simp only [ln_30_3, o_eql, e17, o_pickT, guardW_true])
  have hS : St o w7 (blk g3 39 p.cells :: OwQ p.t.q :: own 5 1 p.bv p.b.length (cb p.b) :: _) := hS
  refine r_loadN ag39 (xs := pk1.cells) rfl (hS.cells_at m5 0 (whole_at _)) ?_
  skip
  refine r_loadN ag39 (xs := p.cells) rfl (hS.cells_at m0 0 (whole_at _)) ?_
  refine (eqP Z pk1 p (fun w _ => hrd w) (fun w hw => ⟨OwQ.rd _ hw.drop, hw.own_rd m2⟩) hS).mono fun r w8 ⟨⟨b, hr, hb⟩, hS⟩ => ?_
  subst hr
  rw [hb.2 hs]
  (try simp only [])
  refine ⟨by first | rfl | trivial, ?_⟩
  (refine Sh.St.sub ?_ (hS); repeat (first | with_reducible exact sub_refl | with_reducible exact sub_nil | with_reducible refine sub_p0 ?_ | with_reducible refine sub_p1 ?_ | with_reducible refine sub_p2 ?_ | with_reducible refine sub_p3 ?_ | with_reducible refine sub_p4 ?_ | with_reducible refine sub_p5 ?_ | with_reducible refine sub_p6 ?_ | with_reducible refine sub_p7 ?_ | with_reducible refine sub_p8 ?_ | with_reducible refine sub_p9 ?_ | with_reducible refine sub_p10 ?_ | with_reducible refine sub_p11 ?_ | with_reducible refine sub_p12 ?_ | with_reducible refine sub_p13 ?_ | with_reducible refine sub_p14 ?_ | with_reducible refine sub_p15 ?_ | exact sub_refl | refine sub_p0 ?_ | refine sub_p1 ?_ | refine sub_p2 ?_ | refine sub_p3 ?_ | refine sub_p4 ?_ | refine sub_p5 ?_ | refine sub_p6 ?_ | refine sub_p7 ?_ | refine sub_p8 ?_ | refine sub_p9 ?_ | refine sub_p10 ?_ | refine sub_p11 ?_ | refine sub_p12 ?_ | refine sub_p13 ?_ | refine sub_p14 ?_ | refine sub_p15 ?_ | refine sub_drop ?_))
end
end Go.Proofs.YtfijkedmbaghmaaGreatDoor
