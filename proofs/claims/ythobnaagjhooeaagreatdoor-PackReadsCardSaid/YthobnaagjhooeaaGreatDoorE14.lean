/- PackReads: the walk. -/
import Derived.Test.YthobnaagjhooeaaGreatDoorE13
set_option linter.unusedVariables false
set_option linter.unusedSimpArgs false
namespace Go.Proofs.YthobnaagjhooeaaGreatDoor
open Go.Sh
section
variable (Z : List PanicEntry → World → Prop) {o w : World} {R : List HProp}
set_option maxRecDepth 100000 in
theorem packReads {x y : Value} {n : Nat} {l : List UInt8} {ps : List Pop} (hx : Rd o 1 x n (cb l)) (hy : RowR o 6 (PopV o) ps y) (hT : Tab o) : CallV Tryz.prog Z 3 #[x, y] o fun r w' => r = .bool true ∧ St o w' [old o] := by
  obtain ⟨xa, xc, rfl⟩ := hx.form
  have hn := rd_len hx
  subst hn
  refine f3.calls ?_
  unfold f3.sh
  refine (works Z (St.start o)).mono fun r w1 ⟨hr, hS⟩ => ?_
  subst hr
  by_cases hbig : (67108864 : Int) < (l.length : Int)
  · (try simp only [o_pickT, guardW_true, ln_22_3, o_gtr, hbig, decide_true, condT, guardW_tf])
    exact ⟨by first | rfl | trivial, hS⟩
  (try simp only [o_pickT, guardW_true, ln_22_3, o_gtr, hbig, decide_false, o_pickF, guardW_ff])
  have hl : l.length ≤ 67108864 := by omega
  have hy1 : RowR w1 6 (PopV o) ps y := hy.of_old hS m0
  refine (long Z (o := o) hy1).mono fun r w2 ⟨hd, b, hr, hlen⟩ => ?_
  subst hr
  have hS := hS.drew hd
  cases b with
  | true =>
    (try simp only [condT])
    exact ⟨by first | rfl | trivial, hS⟩
  | false =>
    (try simp only [condF])
    refine (wideBytes Z hS (Ent.old hx m0) (by omega)).mono fun r w3 ⟨gi, hr, hS⟩ => ?_
    subst hr
    refine (rNew Z hS (x := .slice (some ⟨gi, 0, none⟩) l.length (l.length + 64)) (l := l) (fun _ hS => blk_rd hS m0 rfl (by omega)) (by omega)).mono fun r w4 ⟨g1, B1, hr, hS⟩ => ?_
    subst hr
    refine (rNew Z hS (x := .slice (some ⟨gi, 0, none⟩) l.length (l.length + 64)) (l := l) (fun _ hS => blk_rd hS m1 rfl (by omega)) (by omega)).mono fun r w5 ⟨g3, B3, hr, hS⟩ => ?_
    subst hr
    (try simp only [ln_22_3, eqlp_27, o_pickF, guardW_ff, condF])
    refine (eqBytes Z (blk_rd (c := l.length + 64) hS m2 rfl (by omega)) (hx.of_old hS m3)).mono fun r w6 ⟨hr, hd⟩ => ?_
    subst hr
    have hS := hS.drew hd
    rw [decide_eq_true rfl]
    (try simp only [o_pickT, guardW_true])
    refine (spareBytes Z rfl (by omega) (hS.mem_blk m2)).mono fun r w7 ⟨hr, hw⟩ => ?_
    subst hr; subst hw
    (try simp only [o_pickT, guardW_true])
    have hS := hS.pick 2
    refine ⟨fun m y w' => ∃ (i : Nat) (l' : List UInt8), y = .int .i64 i ∧ m + i = l.length ∧ l'.length = l.length ∧ St o w' (blk gi 5 (cb (l' ++ marks l.length)) :: RdrAt g3 B3 l 0 0 :: RdrAt g1 B1 l 0 0 :: [old o]), ⟨l.length, 0, l, rfl, rfl, rfl, hS⟩, ?_⟩
    clear hS
    rintro m _ w8 ⟨i, l', rfl, hi, hl', hS⟩ _
    by_cases hlt : (i : Int) < (l.length : Int)
    · (try simp only [o_add, o_lss, hlt, decide_true, condT])
      have hi1 : i < l'.length := by omega
      obtain ⟨info, hinfo, hsz, _, _⟩ := el22.info
      refine r1 (run_indexAt Tryz.underlying22 hinfo gi 0 l.length (l.length + 64) .i64 i (by omega) (by omega) _) ?_
      rw [hsz]
      simp only [Nat.mul_one, Nat.zero_add, Int.toNat_natCast]
      refine r_load one5 (hS.at m0 i (by rw [cb_append, List.getElem?_append_left (by rw [cb_length]; omega), cb_at hi1])) ?_
      (try simp only [o_xor])
      obtain ⟨b, hb⟩ := u8_some ((BitVec.ofInt IntKind.u8.bits (l'[i].toNat : Int) ^^^ BitVec.ofInt IntKind.u8.bits 1).toNat : Int)
      rw [hb]
      refine r1 (run_indexAt Tryz.underlying22 hinfo gi 0 l.length (l.length + 64) .i64 i (by omega) (by omega) _) ?_
      rw [hsz]
      simp only [Nat.mul_one, Nat.zero_add, Int.toNat_natCast]
      refine r_store hS one5 (by rw [cb_length, List.length_append]; omega) rfl fun w7 hS => ?_
      skip
      rw [wr_i64 (x := (i : Int) + 1) (by omega) (by omega)]
      refine ⟨m - 1, by omega, i + 1, l'.set i b, rfl, by omega, by simpa using hl', ?_⟩
      rw [cb_set, List.set_append_left _ _ hi1] at hS
      exact hS
    · (try simp only [o_add, o_lss, hlt, decide_false, condF])
      have hin : ∀ {As : List HProp} {w : World}, St o w As → blk gi 5 (cb (l' ++ marks l.length)) ∈ As → Rd w 1 (.slice (some ⟨gi, 0, none⟩) l.length (l.length + 64)) l.length (cb l') := fun hS hm => blk_rd hS hm hl'.symm (by omega)
      refine (copyBytes Z hS (x := .slice (some ⟨gi, 0, none⟩) l.length (l.length + 64)) (l := l') (n := l.length) (fun _ hS => hin hS m0) (by omega)).mono fun rt w9 hS => ?_
      refine (rNew Z hS (x := .slice (some ⟨gi, 0, none⟩) l.length (l.length + 64)) (l := l') (fun _ hS => hin hS m1) (by omega)).mono fun r w10 ⟨g2, B2, hr, hS⟩ => ?_
      subst hr
      (try simp only [eqlp_27, condF])
      refine (dNew Z hS (Ent.old hx m5) (by omega)).mono fun r w11 ⟨gd, hr, hS⟩ => ?_
      subst hr
      have hS : St o w11 (RdrAt g1 B1 l 0 0 :: RefR gd l 0 0 :: RdrAt g2 B2 l' 0 0 :: own 5 1 rt l'.length (cb l') :: RdrAt g3 B3 l 0 0 :: [old o]) := by (refine Sh.St.sub ?_ (hS); repeat (first | with_reducible exact sub_refl | with_reducible exact sub_nil | with_reducible refine sub_p0 ?_ | with_reducible refine sub_p1 ?_ | with_reducible refine sub_p2 ?_ | with_reducible refine sub_p3 ?_ | with_reducible refine sub_p4 ?_ | with_reducible refine sub_p5 ?_ | with_reducible refine sub_p6 ?_ | with_reducible refine sub_p7 ?_ | with_reducible refine sub_p8 ?_ | with_reducible refine sub_p9 ?_ | with_reducible refine sub_p10 ?_ | with_reducible refine sub_p11 ?_ | with_reducible refine sub_p12 ?_ | with_reducible refine sub_p13 ?_ | with_reducible refine sub_p14 ?_ | with_reducible refine sub_p15 ?_ | exact sub_refl | refine sub_p0 ?_ | refine sub_p1 ?_ | refine sub_p2 ?_ | refine sub_p3 ?_ | refine sub_p4 ?_ | refine sub_p5 ?_ | refine sub_p6 ?_ | refine sub_p7 ?_ | refine sub_p8 ?_ | refine sub_p9 ?_ | refine sub_p10 ?_ | refine sub_p11 ?_ | refine sub_p12 ?_ | refine sub_p13 ?_ | refine sub_p14 ?_ | refine sub_p15 ?_ | refine sub_drop ?_))
      refine (readsC Z false hy m3 hT (by omega) hS).mono fun r w12 ⟨hr, hS⟩ => ?_
      subst hr
      refine (dNew Z hS (Ent.own (e := 5) m1) (by omega)).mono fun r w13 ⟨ge, hr, hS⟩ => ?_
      subst hr
      have hS : St o w13 (RdrAt g2 B2 l' 0 0 :: RefR ge l' 0 0 :: RdrAt g3 B3 l 0 0 :: [old o]) := by (refine Sh.St.sub ?_ (hS); repeat (first | with_reducible exact sub_refl | with_reducible exact sub_nil | with_reducible refine sub_p0 ?_ | with_reducible refine sub_p1 ?_ | with_reducible refine sub_p2 ?_ | with_reducible refine sub_p3 ?_ | with_reducible refine sub_p4 ?_ | with_reducible refine sub_p5 ?_ | with_reducible refine sub_p6 ?_ | with_reducible refine sub_p7 ?_ | with_reducible refine sub_p8 ?_ | with_reducible refine sub_p9 ?_ | with_reducible refine sub_p10 ?_ | with_reducible refine sub_p11 ?_ | with_reducible refine sub_p12 ?_ | with_reducible refine sub_p13 ?_ | with_reducible refine sub_p14 ?_ | with_reducible refine sub_p15 ?_ | exact sub_refl | refine sub_p0 ?_ | refine sub_p1 ?_ | refine sub_p2 ?_ | refine sub_p3 ?_ | refine sub_p4 ?_ | refine sub_p5 ?_ | refine sub_p6 ?_ | refine sub_p7 ?_ | refine sub_p8 ?_ | refine sub_p9 ?_ | refine sub_p10 ?_ | refine sub_p11 ?_ | refine sub_p12 ?_ | refine sub_p13 ?_ | refine sub_p14 ?_ | refine sub_p15 ?_ | refine sub_drop ?_))
      refine (readsC Z true hy m1 hT (by omega) hS).mono fun r w14 ⟨hr, hS⟩ => ?_
      subst hr
      refine (dNew Z hS (Ent.old hx m1) (by omega)).mono fun r w15 ⟨gf, hr, hS⟩ => ?_
      subst hr
      have hS : St o w15 (RdrAt g3 B3 l 0 0 :: RefR gf l 0 0 :: [old o]) := by (refine Sh.St.sub ?_ (hS); repeat (first | with_reducible exact sub_refl | with_reducible exact sub_nil | with_reducible refine sub_p0 ?_ | with_reducible refine sub_p1 ?_ | with_reducible refine sub_p2 ?_ | with_reducible refine sub_p3 ?_ | with_reducible refine sub_p4 ?_ | with_reducible refine sub_p5 ?_ | with_reducible refine sub_p6 ?_ | with_reducible refine sub_p7 ?_ | with_reducible refine sub_p8 ?_ | with_reducible refine sub_p9 ?_ | with_reducible refine sub_p10 ?_ | with_reducible refine sub_p11 ?_ | with_reducible refine sub_p12 ?_ | with_reducible refine sub_p13 ?_ | with_reducible refine sub_p14 ?_ | with_reducible refine sub_p15 ?_ | exact sub_refl | refine sub_p0 ?_ | refine sub_p1 ?_ | refine sub_p2 ?_ | refine sub_p3 ?_ | refine sub_p4 ?_ | refine sub_p5 ?_ | refine sub_p6 ?_ | refine sub_p7 ?_ | refine sub_p8 ?_ | refine sub_p9 ?_ | refine sub_p10 ?_ | refine sub_p11 ?_ | refine sub_p12 ?_ | refine sub_p13 ?_ | refine sub_p14 ?_ | refine sub_p15 ?_ | refine sub_drop ?_))
      refine (readsC Z true hy m0 hT (by omega) hS).mono fun r w16 ⟨hr, hS⟩ => ?_
      subst hr
      (try simp only [o_pickT, guardW_true])
      exact ⟨by first | rfl | trivial, hS⟩
end
end Go.Proofs.YthobnaagjhooeaaGreatDoor
