/- PacketTurned: the plain law and the walk. -/
import Derived.Test.YtfijkedmbaghmaaGreatDoorG11
set_option linter.unusedVariables false
set_option linter.unusedSimpArgs false
namespace Go.Proofs.YtfijkedmbaghmaaGreatDoor
open Go.Sh
theorem adl_fst (l : List UInt8) (p : Nat × Nat) (hp : p.1 < 65521) : (adl l p).1 = (p.1 + (l.map (·.toNat)).sum) % 65521 := by
  induction l generalizing p with
  | nil => simp [adl]; omega
  | cons x l ih =>
    obtain ⟨a, b⟩ := p
    simp only [adl, List.map_cons, List.sum_cons]
    rw [ih _ (Nat.mod_lt _ (by omega))]
    simp only
    omega
theorem adler_mod (l : List UInt8) : adler l % 65536 = (1 + (l.map (·.toNat)).sum) % 65521 := by
  unfold adler
  have h1 := (adl_lt l (1, 0) (by decide) (by decide)).1
  rw [← adl_fst l (1, 0) (by decide)]
  omega
theorem adler_turn (l : List UInt8) (i : Nat) (hi : i < l.length) (b : UInt8) (hb : b ≠ l[i]) : adler (l.set i b) ≠ adler l := by
  intro e
  have e1 := congrArg (· % 65536) e
  simp only [adler_mod] at e1
  have h2 : l = l.take i ++ l[i] :: l.drop (i + 1) := by simp
  have h3 : l.set i b = l.take i ++ b :: l.drop (i + 1) := by rw [List.set_eq_take_append_cons_drop, if_pos hi]
  have hn : b.toNat ≠ l[i].toNat := fun h => hb (UInt8.toNat_inj.1 h)
  have l1 := b.toNat_lt
  have l2 := l[i].toNat_lt
  have s1 : (l.map (·.toNat)).sum = ((l.take i).map (·.toNat)).sum + (l[i].toNat + ((l.drop (i + 1)).map (·.toNat)).sum) := by
    conv => lhs; rw [h2]
    rw [List.map_append, List.sum_append, List.map_cons, List.sum_cons]
  have s2 : ((l.set i b).map (·.toNat)).sum = ((l.take i).map (·.toNat)).sum + (b.toNat + ((l.drop (i + 1)).map (·.toNat)).sum) := by
    rw [h3]; simp
  rw [s1, s2] at e1
  omega
theorem u8_xor (a b : UInt8) : IntKind.u8.wrap (BitVec.ofInt IntKind.u8.bits (a.toNat : Int) ^^^ BitVec.ofInt IntKind.u8.bits (b.toNat : Int)).toNat = ((a ^^^ b).toNat : Int) := by
  have e : IntKind.u8.bits = 8 := rfl
  rw [e, BitVec.ofInt_natCast, BitVec.ofInt_natCast, BitVec.toNat_xor, BitVec.toNat_ofNat, BitVec.toNat_ofNat, UInt8.toNat_xor]
  have h1 := a.toNat_lt
  have h2 := b.toNat_lt
  have h3 : (a.toNat ^^^ b.toNat) < 2 ^ 8 := Nat.xor_lt_two_pow (by omega) (by omega)
  rw [Nat.mod_eq_of_lt (by omega), Nat.mod_eq_of_lt (by omega), wrap_u8]
  omega
theorem summed_turn (m : List UInt8) (i : Nat) (b : UInt8) (hi : i < (summed m).length) (hb : b ≠ (summed m)[i]) (m' : List UInt8) : (summed m).set i b ≠ summed m' := by
  intro e
  by_cases h4 : i < 4
  · have hd := congrArg (List.drop 4) e
    rw [List.drop_set_of_lt h4, summed_drop, summed_drop] at hd
    rw [← hd] at e
    have h1 : ((summed m).set i b)[i]? = (summed m)[i]? := by rw [e]
    rw [List.getElem?_set_self hi, List.getElem?_eq_getElem hi] at h1
    exact hb (Option.some.inj h1)
  · have hl : (summed m).length = 4 + m.length := by rw [summed, List.length_append, enc_length]
    have hd := congrArg (List.drop 4) e
    have e1 : (summed m).set i b = enc 4 (adler m) ++ m.set (i - 4) b := by
      rw [summed, List.set_append_right _ _ (by rw [enc_length]; omega), enc_length]
    rw [e1] at e hd
    rw [summed_drop, List.drop_left' (enc_length _ _)] at hd
    have ht := congrArg (List.take 4) e
    rw [summed, List.take_left' (enc_length _ _), List.take_left' (enc_length _ _)] at ht
    have ha : adler m = adler m' := by
      have := congrArg (fun x => ((dec x : Nat) : Int)) ht
      simp only [dec_enc] at this
      have h1 := adler_lt m
      have h2 := adler_lt m'
      omega
    rw [← hd] at ha
    refine adler_turn m (i - 4) (by omega) b ?_ ha.symm
    intro hx
    apply hb
    rw [hx]
    have : (summed m)[i]? = m[i - 4]? := by rw [summed, List.getElem?_append_right (by rw [enc_length]; omega), enc_length]
    rw [List.getElem?_eq_getElem hi, List.getElem?_eq_getElem (by omega)] at this
    exact (Option.some.inj this).symm
theorem pkB_len {p : Pk} (hw : WfP p) (hok : okP p = true) : (pkB p).length ≤ 60000 := by
  have h : (body p).length ≤ 1 + 12 * 4200 := fpre_len hok hw 12 (by omega)
  rw [pkB, summed, List.length_append, enc_length]
  omega
theorem CallV.pure {P : Program} {f : FuncId} {args : Array Value} {w : World} {φ : Prop} (h : CallV P (fun _ _ => False) f args w fun _ _ => φ) : φ := by
  obtain ⟨e, w', fr, hR, _⟩ := h.out []
  cases e with
  | returned v => exact hR
  | panicked _ => exact hR.elim
  | outgrown => exact hR.elim
theorem own_cap {o w : World} {R : List HProp} {e : TypeId} {sz n : Nat} {v : Value} {xs : List Value} (h : St o w (own e sz v n xs :: R)) : CapOk v := by
  obtain ⟨_, ⟨rfl, _⟩ | ⟨g, cap, rest, rfl, h1, _⟩⟩ := h.own_open
  · intro a n c e; injection e with _ h1 h2; omega
  · intro a n c e; injection e with _ h2 h3; omega
theorem sameP_refl (p : Pk) : sameP p p := ⟨rfl, fun i hi => by
  obtain rfl | rfl | rfl | rfl | rfl | rfl | rfl | rfl | rfl | rfl | rfl | rfl := lt12 hi <;> first | exact ⟨rfl, rfl⟩ | rfl⟩
section
variable (Z : List PanicEntry → World → Prop) {o w : World} {R As : List HProp} {g : Nat} {p : Pk}
set_option maxRecDepth 100000 in
theorem packetTurned (p : Pk) (n : Int) (m : UInt8) (hw : WfP p) (hx : RdP w p) (hN : Names w) (hM : Named w) :
    CallV Tryz.prog Z 5 #[.agg p.cells.toArray, .int .i64 n, .int .u8 m.toNat] w fun r w' => r = .bool true ∧ St w w' [old w] := by
  refine f5.calls ?_
  unfold f5.sh
  refine r_box _ _ (St.start w) fun g1 w1 hS => ?_
  have hS : St w w1 (blk g1 39 p.cells :: [old w]) := hS
  refine r_loadN ag39 (xs := p.cells) rfl (hS.cells_at m0 0 (whole_at _)) ?_
  refine (largeP Z (fun w' hw' => RdP.of_old hx hw' m1) hS).mono fun r w2 ⟨⟨b, hr, hbl⟩, hS⟩ => ?_
  subst hr
  refine cond_or (fun _ => ⟨by first | rfl | trivial, hS.drop⟩) fun _ => ?_
  refine (livesP Z hN hM m1 hS).mono fun r w3 ⟨hr, hS⟩ => ?_
  subst hr
  refine r_loadN ag39 (xs := p.cells) rfl (hS.cells_at m0 0 (whole_at _)) ?_
  refine (writeP Z hN hM m1 hw (fun w' hw' => RdP.of_old hx hw' m1) hS).mono fun r w4 hr => ?_
  have z0 : ((0 : Int) != 0) = false := rfl
  have z4 : ((150 : Int) != 0) = true := rfl
  have z2 : ((0 : Int) == 0) = true := rfl
  have z3 : ((150 : Int) == 0) = false := rfl
  have z5 : ((150 : Int) == 150) = true := rfl
  cases hok : okP p with
  | false =>
    rw [hok, if_neg Bool.false_ne_true] at hr
    obtain ⟨rfl, hS⟩ := hr
    (try simp only [o_eql, o_ext2_1, o_neq, Int.reduceBNe, condT, z3, o_ext2_0, ln_30_3])
    refine r_loadN ag39 (xs := p.cells) rfl (hS.cells_at m0 0 (whole_at _)) ?_
    refine (refChkP Z hw (fun w' hw' => RdP.of_old hx hw' m1) hS).mono fun r w5 ⟨hr, hS⟩ => ?_
    rw [hok, if_neg Bool.false_ne_true] at hr
    subst hr
    (try simp only [o_eql, z3, neqb_4, bne_self_eq_false, o_pickF, guardW_ff, o_not, Bool.not_true, condF])
    exact ⟨by first | rfl | trivial, hS.drop⟩
  | true =>
    rw [hok, if_pos rfl] at hr
    obtain ⟨v, rfl, hS⟩ := hr
    (try simp only [o_eql, o_ext2_1, o_neq, bne_self_eq_false, condF, z2, o_ext2_0])
    refine r_loadN ag39 (xs := p.cells) rfl (hS.cells_at m1 0 (whole_at _)) ?_
    refine (refChkP Z hw (fun w' hw' => RdP.of_old hx hw' m2) hS).mono fun r w5 ⟨hr, hS⟩ => ?_
    rw [hok, if_pos rfl] at hr
    subst hr
    have hcap := own_cap hS
    have hlen := pkB_len hw hok
    (try simp only [o_eql, z2, neqb_4, bne_self_eq_false, o_pickF, guardW_ff, o_not, Bool.not_true, condF])
    refine (readP Z hN hM m2 (Ent.own (e := 5) m0) hcap (by omega) hS).mono fun r w6 hq => ?_
    rcases hq with ⟨u, huok, huw, hul, huu, rfl, hS⟩ | ⟨hno, _⟩
    case inr => exact absurd rfl (hno p hw hok)
    have hs := huu p hw hok (pk_has rfl)
    (try simp only [o_ext2_1, o_neq, bne_self_eq_false, o_pickF, guardW_ff, o_ext2_0])
    refine r_alloc hS ze39 fun g2 w7 hS => ?_
    refine r_storeN hS ag39 (xs := u.cells) rfl (show 0 + 32 ≤ 32 from Nat.le_refl _) (RdP.ones (w := w7) ⟨OwQ.rd _ hS.drop, hS.own_rd m2⟩) fun w8 hS => ?_
    rw [setL_all _ _ (by rfl)] at hS
    have hS : St w w8 (blk g2 39 u.cells :: OwQ u.t.q :: own 5 1 u.bv u.b.length (cb u.b) :: own 5 1 v (pkB p).length (cb (pkB p)) :: blk g1 39 p.cells :: [old w]) := hS
    refine r_loadN ag39 (xs := p.cells) rfl (hS.cells_at m4 0 (whole_at _)) ?_
    refine r_loadN ag39 (xs := u.cells) rfl (hS.cells_at m0 0 (whole_at _)) ?_
    refine (eqP Z p u (fun w' hw' => RdP.of_old hx hw' m5) (fun w hw => ⟨OwQ.rd _ hw.drop, hw.own_rd m2⟩) hS).mono fun r w9 ⟨⟨b2, hr, hb2⟩, hS⟩ => ?_
    subst hr
    rw [hb2.2 hs]
    (try simp only [o_not, Bool.not_true, condF])
    by_cases h3 : m = 0
    · subst h3
      have e3 : (((0 : UInt8).toNat : Int) == 0) = true := rfl
      (try simp only [e3, o_pickT, condT, guardW_tf])
      exact ⟨by first | rfl | trivial, by (refine Sh.St.sub ?_ (hS); repeat (first | with_reducible exact sub_refl | with_reducible exact sub_nil | with_reducible refine sub_p0 ?_ | with_reducible refine sub_p1 ?_ | with_reducible refine sub_p2 ?_ | with_reducible refine sub_p3 ?_ | with_reducible refine sub_p4 ?_ | with_reducible refine sub_p5 ?_ | with_reducible refine sub_p6 ?_ | with_reducible refine sub_p7 ?_ | with_reducible refine sub_p8 ?_ | with_reducible refine sub_p9 ?_ | with_reducible refine sub_p10 ?_ | with_reducible refine sub_p11 ?_ | with_reducible refine sub_p12 ?_ | with_reducible refine sub_p13 ?_ | with_reducible refine sub_p14 ?_ | with_reducible refine sub_p15 ?_ | exact sub_refl | refine sub_p0 ?_ | refine sub_p1 ?_ | refine sub_p2 ?_ | refine sub_p3 ?_ | refine sub_p4 ?_ | refine sub_p5 ?_ | refine sub_p6 ?_ | refine sub_p7 ?_ | refine sub_p8 ?_ | refine sub_p9 ?_ | refine sub_p10 ?_ | refine sub_p11 ?_ | refine sub_p12 ?_ | refine sub_p13 ?_ | refine sub_p14 ?_ | refine sub_p15 ?_ | refine sub_drop ?_))⟩
    have e3 : ((m.toNat : Int) == 0) = false := by
      rw [beq_eq_false_iff_ne]
      intro e
      exact h3 (UInt8.toNat_inj.1 (by simpa using e))
    have hv := hS.pick 3
    obtain ⟨va, vc, e⟩ := hv.own_form
    by_cases h1 : n < 0
    · (try simp only [e3, o_pickF, guardW_ff, o_lss, h1, decide_true, o_pickT, condT, guardW_tf])
      exact ⟨by first | rfl | trivial, by (refine Sh.St.sub ?_ (hS); repeat (first | with_reducible exact sub_refl | with_reducible exact sub_nil | with_reducible refine sub_p0 ?_ | with_reducible refine sub_p1 ?_ | with_reducible refine sub_p2 ?_ | with_reducible refine sub_p3 ?_ | with_reducible refine sub_p4 ?_ | with_reducible refine sub_p5 ?_ | with_reducible refine sub_p6 ?_ | with_reducible refine sub_p7 ?_ | with_reducible refine sub_p8 ?_ | with_reducible refine sub_p9 ?_ | with_reducible refine sub_p10 ?_ | with_reducible refine sub_p11 ?_ | with_reducible refine sub_p12 ?_ | with_reducible refine sub_p13 ?_ | with_reducible refine sub_p14 ?_ | with_reducible refine sub_p15 ?_ | exact sub_refl | refine sub_p0 ?_ | refine sub_p1 ?_ | refine sub_p2 ?_ | refine sub_p3 ?_ | refine sub_p4 ?_ | refine sub_p5 ?_ | refine sub_p6 ?_ | refine sub_p7 ?_ | refine sub_p8 ?_ | refine sub_p9 ?_ | refine sub_p10 ?_ | refine sub_p11 ?_ | refine sub_p12 ?_ | refine sub_p13 ?_ | refine sub_p14 ?_ | refine sub_p15 ?_ | refine sub_drop ?_))⟩
    by_cases h2 : ((pkB p).length : Int) ≤ n
    · rw [e]
      (try simp only [e3, o_pickF, guardW_ff, o_lss, h1, decide_false, ln_30_3, o_geq, h2, decide_true, condT])
      exact ⟨by first | rfl | trivial, by (refine Sh.St.sub ?_ (hS); repeat (first | with_reducible exact sub_refl | with_reducible exact sub_nil | with_reducible refine sub_p0 ?_ | with_reducible refine sub_p1 ?_ | with_reducible refine sub_p2 ?_ | with_reducible refine sub_p3 ?_ | with_reducible refine sub_p4 ?_ | with_reducible refine sub_p5 ?_ | with_reducible refine sub_p6 ?_ | with_reducible refine sub_p7 ?_ | with_reducible refine sub_p8 ?_ | with_reducible refine sub_p9 ?_ | with_reducible refine sub_p10 ?_ | with_reducible refine sub_p11 ?_ | with_reducible refine sub_p12 ?_ | with_reducible refine sub_p13 ?_ | with_reducible refine sub_p14 ?_ | with_reducible refine sub_p15 ?_ | exact sub_refl | refine sub_p0 ?_ | refine sub_p1 ?_ | refine sub_p2 ?_ | refine sub_p3 ?_ | refine sub_p4 ?_ | refine sub_p5 ?_ | refine sub_p6 ?_ | refine sub_p7 ?_ | refine sub_p8 ?_ | refine sub_p9 ?_ | refine sub_p10 ?_ | refine sub_p11 ?_ | refine sub_p12 ?_ | refine sub_p13 ?_ | refine sub_p14 ?_ | refine sub_p15 ?_ | refine sub_drop ?_))⟩
    obtain ⟨i, rfl⟩ : ∃ i : Nat, n = i := ⟨n.toNat, by omega⟩
    have hi : i < (pkB p).length := by omega
    have h2' : ¬ ((i : Int) ≥ ((pkB p).length : Int)) := h2
    rw [e]
    (try simp only [e3, o_pickF, guardW_ff, o_lss, h1, decide_false, ln_30_3, o_geq, h2, condF])
    rw [← e]
    obtain ⟨q, hq, hqc⟩ := rd_index (hv.own_rd m0) i hi
    refine r1 (hq _) (r_load one5 hqc ?_)
    (try simp only [o_xor])
    rw [u8_xor]
    refine r1 (hq _) ?_
    refine r_store_ix hv el30 one5 .i64 i (by omega) (hq _) rfl fun w10 hS => ?_
    rw [cb_set] at hS
    have hne : (pkB p)[i] ^^^ m ≠ (pkB p)[i] := fun e => h3 (by
      have := congrArg ((pkB p)[i] ^^^ ·) e
      simp only [← UInt8.xor_assoc, UInt8.xor_self, UInt8.zero_xor] at this
      exact this)
    have hls : ((pkB p).set i ((pkB p)[i] ^^^ m)).length = (pkB p).length := List.length_set
    refine (readP Z hN hM (by simp) (Ent.own (e := 5) m0) hcap (by omega) hS).mono fun r w11 hq2 => ?_
    rcases hq2 with ⟨u', _, _, hul', _⟩ | ⟨_, rfl, hS⟩
    · exact absurd hul' (summed_turn (body p) i _ hi hne (body u'))
    (try simp only [o_ext2_1, o_eql, beq_self_eq_true, o_pickT, guardW_true, o_ext2_0])
    refine r_alloc hS ze39 fun g3 w12 hS => ?_
    refine r_storeN hS ag39 (xs := pz.cells) rfl (show 0 + 32 ≤ 32 from Nat.le_refl _) (RdP.ones (w := w12) ⟨qz_rd w12, rd0 w12 1⟩) fun w13 hS => ?_
    rw [setL_all _ _ (by rfl)] at hS
    skip
    refine r_loadN ag39 (xs := pz.cells) rfl (hS.cells_at m0 0 (whole_at _)) ?_
    refine r_build (cells := pz.cells.toArray) (by kernel_rfl) ?_
    refine (eqP Z pz pz (fun w _ => ⟨qz_rd w, rd0 w 1⟩) (fun w _ => ⟨qz_rd w, rd0 w 1⟩) hS).mono fun r w14 ⟨⟨b3, hr, hb3⟩, hS⟩ => ?_
    subst hr
    rw [hb3.2 (sameP_refl pz)]
    (try simp only [])
    exact ⟨by first | rfl | trivial, by (refine Sh.St.sub ?_ (hS); repeat (first | with_reducible exact sub_refl | with_reducible exact sub_nil | with_reducible refine sub_p0 ?_ | with_reducible refine sub_p1 ?_ | with_reducible refine sub_p2 ?_ | with_reducible refine sub_p3 ?_ | with_reducible refine sub_p4 ?_ | with_reducible refine sub_p5 ?_ | with_reducible refine sub_p6 ?_ | with_reducible refine sub_p7 ?_ | with_reducible refine sub_p8 ?_ | with_reducible refine sub_p9 ?_ | with_reducible refine sub_p10 ?_ | with_reducible refine sub_p11 ?_ | with_reducible refine sub_p12 ?_ | with_reducible refine sub_p13 ?_ | with_reducible refine sub_p14 ?_ | with_reducible refine sub_p15 ?_ | exact sub_refl | refine sub_p0 ?_ | refine sub_p1 ?_ | refine sub_p2 ?_ | refine sub_p3 ?_ | refine sub_p4 ?_ | refine sub_p5 ?_ | refine sub_p6 ?_ | refine sub_p7 ?_ | refine sub_p8 ?_ | refine sub_p9 ?_ | refine sub_p10 ?_ | refine sub_p11 ?_ | refine sub_p12 ?_ | refine sub_p13 ?_ | refine sub_p14 ?_ | refine sub_p15 ?_ | refine sub_drop ?_))⟩
end
end Go.Proofs.YtfijkedmbaghmaaGreatDoor
