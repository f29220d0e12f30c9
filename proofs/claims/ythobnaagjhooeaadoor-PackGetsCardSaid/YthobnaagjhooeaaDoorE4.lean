/- PackGets: the walk. -/
import Derived.Test.YthobnaagjhooeaaDoorE3
import Derived.Test.YthobnaagjhooeaaDoorA4
import Derived.Test.YthobnaagjhooeaaDoorQ2
set_option linter.unusedVariables false
set_option linter.unusedSimpArgs false
namespace Go.Proofs.YthobnaagjhooeaaDoor
open Go.Sh
def I64O (w : World) (cs : List Value) : Prop := ∃ n, cs = [.int .i64 n] ∧ -9223372036854775808 ≤ n ∧ n ≤ 9223372036854775807
theorem opn_I64O (w : World) : Opn Tryd.prog w 3 (I64O w) := (opn_int Tryd.underlying3).mono fun cs ⟨n, h, a, b⟩ => by
  simp only [IntKind.min, IntKind.max, IntKind.signed, IntKind.bits] at a b
  simp at a b
  exact ⟨n, h, a, b⟩
section
variable (Z : List PanicEntry → World → Prop) {o w : World} {R : List HProp}
set_option maxRecDepth 100000 in
theorem packGets {x : Value} {n : Nat} {l : List UInt8} (most : Int) (hx : Rd o 1 x n (cb l)) (hT : Tab o) : CallV Tryd.prog Z 3 #[x, .int .i64 most] o fun r w' => r = .bool true ∧ St o w' [old o] := by
  obtain ⟨xa, xc, rfl⟩ := hx.form
  have hn := rd_len hx
  subst hn
  refine f3.calls ?_
  unfold f3.sh
  refine (works Z (St.start o)).mono fun r w1 ⟨hr, hS⟩ => ?_
  subst hr
  by_cases hbig : (67108864 : Int) < (l.length : Int)
  · (try simp only [o_pickT, guardW_true, ln_22_3, o_gtr, hbig, decide_true, condT])
    exact ⟨by first | rfl | trivial, hS⟩
  (try simp only [o_pickT, guardW_true, ln_22_3, o_gtr, hbig, decide_false, condF])
  have hl : l.length ≤ 67108864 := by omega
  refine (copyBytes Z hS (Ent.old hx m0) (by omega)).mono fun r1 w2 hS => ?_
  refine (rNew Z hS (Ent.own m0) (by omega)).mono fun r w3 ⟨g1, B1, hr, hS⟩ => ?_
  subst hr
  have hS := hS.swap.drop
  refine (copyBytes Z hS (Ent.old hx m1) (by omega)).mono fun r1 w4 hS => ?_
  refine (rNew Z hS (Ent.own m0) (by omega)).mono fun r w5 ⟨g2, B2, hr, hS⟩ => ?_
  subst hr
  have hS := hS.swap.drop
  (try simp only [eqlp_24, o_pickF, guardW_ff, condF])
  refine (getList Z most hl (hS.pick 1)).mono fun r4 w6 ⟨L, off', e', hO, hS⟩ => ?_
  refine (getList Z most hl (hS.pick 2)).mono fun r5 w7 ⟨L2, off2, e2, hO2, hS⟩ => ?_
  obtain ⟨rfl, rfl, rfl⟩ := out_one hO hO2
  clear hO2
  refine (dNew Z hS (Ent.old hx m4) (by omega)).mono fun r w8 ⟨gd, hr, hS⟩ => ?_
  subst hr
  refine (dCount Z most hS).mono fun r w9 ⟨c, o1, e1, hct, hr, hS⟩ => ?_
  subst hr
  have hLl := out_len hO
  obtain ⟨N, hN⟩ : ∃ N : Nat, N = c.toNat := ⟨_, rfl⟩
  have hcN : c ≤ N := by omega
  have hcc := ct_cases hct
  have hNl : N ≤ l.length := by
    rcases hcc with ⟨h, _⟩ | ⟨n, h, h2, _⟩
    · omega
    · omega
  refine ⟨fun m vl y w' => ∃ (i : Nat) (ks : List (List UInt8)) (od : Nat) (ed : Int), y = .int .i64 i ∧ ks.length = i ∧ i ≤ N ∧ m = N - i ∧
      ((ed = 0 ∧ e1 = 0 ∧ tr l o1 i = some (ks, od)) ∨ (ed ≠ 0 ∧ ((od = o1 ∧ ed = e1) ∨ ∃ (j : Nat) (ks' : List (List UInt8)) (o' : Nat) (k : List UInt8), (j : Int) < c ∧ tr l o1 j = some (ks', o') ∧ szV 8 l o' 0 = (k, od, ed)))) ∧
      St o w' (own 9 1 vl i (tC ks) :: RefR gd l od ed :: own 9 1 r5 L.length (tC L) :: RdrAt g2 B2 l off' e' :: own 9 1 r4 L.length (tC L) :: RdrAt g1 B1 l off' e' :: [old o]),
    ⟨N, 0, [], o1, e1, rfl, rfl, Nat.zero_le _, rfl, ?_, hS.own_nil _ _⟩, ?_⟩
  · by_cases h0 : e1 = 0
    · exact .inl ⟨h0, h0, rfl⟩
    · exact .inr ⟨h0, .inl ⟨rfl, rfl⟩⟩
  clear hS
  rintro m vl _ w10 ⟨i, ks, od, ed, rfl, hks, hic, hm, hgood, hS⟩ _
  have hleave : ¬ ((i : Int) < c ∧ ed = 0) → (if ed = 0 then ks else []) = L ∧ od = off' ∧ ed = e' := fun hno => by
    have hout : Out most l (if ed = 0 then ks else []) od ed := by
      refine ⟨c, o1, e1, hct, ?_⟩
      rcases hgood with ⟨rfl, rfl, htr⟩ | ⟨hed, ⟨rfl, rfl⟩ | ⟨j, ks', o', k, hj, htr, hz⟩⟩
      · rcases hcc with ⟨_, h1⟩ | ⟨n, rfl, hn, _⟩
        · exact absurd rfl h1
        · have hin : i = n := by
            have : ¬ (i : Int) < (n : Int) := fun h => hno ⟨h, rfl⟩
            omega
          subst hin
          exact .inr ⟨i, rfl, hn, rfl, .inl ⟨htr, rfl⟩⟩
      · rcases hcc with ⟨h0, h1⟩ | ⟨n, rfl, hn, h1⟩
        · exact .inl ⟨by omega, by rw [if_neg hed], rfl, rfl, h1⟩
        · exact absurd h1 hed
      · rcases hcc with ⟨h0, h1⟩ | ⟨n, rfl, hn, h1⟩
        · omega
        · exact .inr ⟨n, rfl, hn, h1, .inr ⟨j, ks', o', k, by omega, htr, hz, hed, by rw [if_neg hed]⟩⟩
    exact out_one hout hO
  clear hcc
  obtain ⟨vd, _, hD⟩ := RefR.open hS.drop
  have rest : ¬ ((i : Int) < c ∧ ed = 0) → ∀ vl2, St o w10 (own 9 1 vl2 (if ed = 0 then ks else []).length (tC (if ed = 0 then ks else [])) :: RefR gd l od ed :: own 9 1 r5 L.length (tC L) :: RdrAt g2 B2 l off' e' :: own 9 1 r4 L.length (tC L) :: RdrAt g1 B1 l off' e' :: [old o]) →
      St o w10 (own 9 1 vl2 L.length (tC L) :: RefR gd l off' e' :: own 9 1 r5 L.length (tC L) :: RdrAt g2 B2 l off' e' :: own 9 1 r4 L.length (tC L) :: RdrAt g1 B1 l off' e' :: [old o]) := fun hno vl2 hS => by
    obtain ⟨h1, h2, h3⟩ := hleave hno
    rw [h1, h2, h3] at hS
    exact hS
  by_cases hgo : (i : Int) < c ∧ ed = 0
  · obtain ⟨hlt, rfl⟩ := hgo
    (try simp only [o_add, o_chk, fa_35_2, Nat.zero_add, o_lss, hlt, decide_true, o_pickT, guardW_true])
    refine r_load one33 (hD.at m0 2 rfl) ?_
    (try simp only [o_eql, beq_self_eq_true, condT])
    refine (dText Z 8 (hS.pick 1)).mono fun r w11 ⟨k, od2, ed2, hz, hr, hS⟩ => ?_
    subst hr
    refine r_push el27 hS.swap (.string (str k)) rfl (by omega) (by simp only [maxLen]; omega) fun v' w12 hS => ?_
    skip
    rw [wr_i64 (x := (i : Int) + 1) (by omega) (by omega)]
    rcases hgood with ⟨_, h1, htr⟩ | ⟨h1, _⟩
    · refine ⟨m - 1, by omega, i + 1, ks ++ [k], od2, ed2, rfl, by simp [hks], by omega, by omega, ?_, by rw [tC_snoc]; exact hS⟩
      by_cases h0 : ed2 = 0
      · subst h0
        exact .inl ⟨rfl, h1, tr_go htr hz⟩
      · exact .inr ⟨h0, .inr ⟨i, ks, od, k, hlt, htr, hz⟩⟩
    · exact absurd rfl h1
  apply via
  · intro post
    by_cases hlt : (i : Int) < c
    · have hed : ¬ ed = 0 := fun h => hgo ⟨hlt, h⟩
      have hb : (ed == 0) = false := by simp [hed]
      (try simp only [o_add, o_chk, fa_35_2, Nat.zero_add, o_lss, hlt, decide_true, o_pickT, guardW_true])
      refine r_load one33 (hD.at m0 2 rfl) ?_
      (try simp only [o_eql, hb, condF])
      exact post
    · (try simp only [o_add, o_chk, fa_35_2, Nat.zero_add, o_lss, hlt, decide_false, o_pickF, condF, guardW_ft])
      exact post
  intro j hj
  have HJ : ∀ vw w', St o w' (own 9 1 vw L.length (tC L) :: RefR gd l off' e' :: own 9 1 r5 L.length (tC L) :: RdrAt g2 B2 l off' e' :: own 9 1 r4 L.length (tC L) :: RdrAt g1 B1 l off' e' :: [old o]) → j vw w' := by
    intro vw w' hS
    refine hj vw w' fun _ => ?_
    clear hj rest hleave hgood hD
    have hbn : ∀ x : Int, (x != x) = false := fun x => by simp
    refine ⟨fun w11 hd => ?_⟩
    have hS := hS.drew hd
    refine (eqTexts Z (hS.own_rd m4) (hS.own_rd m0)).mono fun r w12 ⟨⟨b, hr, hb⟩, hd⟩ => ?_
    subst hr
    have hS := hS.drew hd
    rw [hb.2 rfl]
    (try simp only [o_notp, Bool.not_true, o_pickFp, guardV_ff, guardW_ff])
    refine (rLeft Z (hS.pick 5)).mono fun r w13 ⟨hr, hw⟩ => ?_
    subst hr; subst hw
    refine (dLeft Z (hS.pick 1)).mono fun r w14 ⟨hr, hS⟩ => ?_
    subst hr
    have hS := hS.put 1
    (try simp only [o_neqp, hbn, still_ff, o_pickFp, guardV_ff, guardW_ff, o_chkp, fa_35_2p, Nat.zero_add])
    obtain ⟨vd, _, hD⟩ := RefR.open (hS.pick 1)
    refine rr_load one33 (hD.at m0 2 rfl) ?_
    refine (rErr Z (hS.pick 5)).mono fun r w15 ⟨hr, hw⟩ => ?_
    subst hr; subst hw
    refine rs_load one33 (hD.at m0 2 rfl) ?_
    (try simp only [o_neqp, hbn, o_pickFp, guardV_ff, guardW_ff])
    refine (rEnd Z (hS.pick 5)).mono fun r w16 ⟨hr, hw⟩ => ?_
    subst hr; subst hw
    refine rs_load one33 (hD.at m0 2 rfl) ?_
    refine (dEnd Z (hS.pick 1)).mono fun r w17 ⟨hr, hS⟩ => ?_
    subst hr
    have hS := hS.put 1
    obtain ⟨vd, _, hD⟩ := RefR.open (hS.pick 1)
    refine rs_load one33 (hD.at m0 2 rfl) ?_
    (try simp only [o_neqp, hbn, condF])
    clear hD
    refine r_build (cells := (List.replicate 21 (.slice none 0 0)).toArray) (by kernel_rfl) ?_
    refine r_box _ _ hS fun gb w18 hS => ?_
    have hS := bag_new hS
    obtain ⟨a4, c4, ev4⟩ := (hS.own_rd m5).form
    obtain ⟨a5, c5, ev5⟩ := (hS.own_rd m3).form
    refine (bagAddTexts Z (by rw [ev4]; rfl) hS).mono fun r w19 ⟨b', hb', hS⟩ => ?_
    have hb' : b' = [r4] := by rw [hb', if_pos (by simp)]; rfl
    subst hb'
    have hbd : L.length * 16 ≤ 140737488351232 := by omega
    have hS := rows_cons (bt := 16) (p := (r4, L.length)) hbd (rows_empty (e := 9) (sz := 1) (bt := 16) (hS.pick 5) |>.swap)
    refine (bagApart Z (es0 := [(r4, L.length)]) hT (by simp) hS.swap).mono fun r w20 ⟨hr, hS⟩ => ?_
    subst hr
    refine (eqTexts Z (hS.own_rd m4) (hS.own_rd m2)).mono fun r w21 ⟨⟨b, hr, hb⟩, hd⟩ => ?_
    subst hr
    have hS := hS.drew hd
    rw [hb.2 rfl]
    refine r_build (cells := (List.replicate 21 (.slice none 0 0)).toArray) (by kernel_rfl) ?_
    refine r_box _ _ hS.drop fun gc w22 hS => ?_
    have hS := bag_new hS
    refine (bagAddTexts Z (by rw [ev4]; rfl) hS).mono fun r w23 ⟨b', hb', hS⟩ => ?_
    have hb' : b' = [r4] := by rw [hb', if_pos (by simp)]; rfl
    subst hb'
    refine (bagAddTexts Z (by rw [ev5]; rfl) hS).mono fun r w24 ⟨b', hb', hS⟩ => ?_
    have hb' : b' = [r4, r5] := by rw [hb', if_pos (by simp)]; rfl
    subst hb'
    have hS := rows_cons (bt := 16) (p := (r5, L.length)) hbd (rows_empty (e := 9) (sz := 1) (bt := 16) (hS.pick 4) |>.swap)
    have hS := rows_join (hS.pick 2)
    (try simp only [o_pickT, guardW_true])
    refine (bagApart Z (es0 := [(r4, L.length), (r5, L.length)]) hT (by simp) hS.swap).mono fun r w25 ⟨hr, hS⟩ => ?_
    subst hr
    (try simp only [])
    exact ⟨by first | rfl | trivial, hS.drop.drop.drop.drop.drop.drop⟩
  clear hj
  skip
  refine r_load one33 (hD.at m0 2 rfl) ?_
  have hrest := rest hgo
  by_cases hed : ed = 0
  · subst hed
    (try simp only [o_neq, bne_self_eq_false, condF])
    refine HJ _ _ (hrest vl ?_)
    rw [if_pos rfl, hks]
    exact hS
  · have hb : (ed != 0) = true := by simp [hed]
    (try simp only [o_neq, hb, condT])
    refine HJ _ _ (hrest _ ?_)
    rw [if_neg hed]
    exact hS.drop.own_nil _ _
end
end Go.Proofs.YthobnaagjhooeaaDoor
