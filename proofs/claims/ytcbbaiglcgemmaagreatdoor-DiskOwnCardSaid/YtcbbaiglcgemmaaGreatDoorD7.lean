
/- Disks: Append, Sync. -/
import Derived.Test.YtcbbaiglcgemmaaGreatDoorD4
import Derived.Test.YtcbbaiglcgemmaaGreatDoorShTwin
import Derived.Test.YtcbbaiglcgemmaaGreatDoorShSub
set_option linter.unusedVariables false
set_option linter.unusedSimpArgs false
namespace Go.Proofs.YtcbbaiglcgemmaaGreatDoor
open Go.Sh
theorem r_store_fld {P : Program} {Z : List PanicEntry → World → Prop} {o w : World} {R : List HProp} {k : World → Prop} {t e ty : TypeId} {sz bt n b p : Nat} {z v x : Value} {xs : List Value} (h : St o w (own e sz v n xs :: R)) (hel : El P t e sz bt z) (h1 : oneT P ty = true) (q : IntKind) (i j : Nat) (hi : i < n) (hj : j < sz)
    (ha : ∀ w, (Instr.indexAt t v (.int q i)).run P w = .ok (.pointer (some ⟨b, p, none⟩)) w) (hu : x.oneCell' = true) (hk : ∀ w', St o w' (own e sz v n (xs.set (i * sz + j) x) :: R) → k w') : run0 P Z (Instr.storeAt ty (.pointer (some ⟨b, p + j, none⟩)) x) w k := by
  obtain ⟨hl, ⟨rfl, rfl, _⟩ | ⟨g, cap, rest, rfl, a1, a2, a3, hB⟩⟩ := h.own_open
  · omega
  · obtain ⟨info, hinfo, hs, _, _⟩ := hel.info
    have e1 := run_indexAt hel.ht hinfo g 0 n cap q (i : Int) (by omega) (by omega) w
    have ha := ha w
    rw [e1, hs] at ha
    injection ha with ha _
    injection ha with ha
    injection ha with ha
    injection ha with hb hp _
    subst hb
    simp only [Int.toNat_natCast, Nat.zero_add] at hp
    subst hp
    have hlt : i * sz + j < xs.length := by
      rw [hl]
      have : (i + 1) * sz ≤ n * sz := Nat.mul_le_mul_right _ hi
      rw [Nat.add_mul, Nat.one_mul] at this; omega
    refine r_store hB h1 (by rw [List.length_append]; omega) hu fun w' hS => hk w' ?_
    rw [List.set_append_left _ _ hlt] at hS
    have := hS.own_mk (sz := sz) (cap := cap) n a1 a2 (by rw [List.length_append, List.length_set, ← List.length_append]; exact a3)
    rw [List.take_left' (by rw [List.length_set]; exact hl)] at this
    exact this
theorem appF_total (fs : List Fil) (n p : Bs) : total (appF fs n p) = total fs + p.length := by
  obtain ⟨hi, hn⟩ := makeF_at (fs := fs) n
  have hset : appF fs n p = (makeF fs n).set (ix fs n) { (makeF fs n)[ix fs n] with by_ := (makeF fs n)[ix fs n].by_ ++ p } := modify_set hi _
  have hs := total_set hi { (makeF fs n)[ix fs n] with by_ := (makeF fs n)[ix fs n].by_ ++ p }
  have ht := makeF_total fs n
  have e : ({ (makeF fs n)[ix fs n] with by_ := (makeF fs n)[ix fs n].by_ ++ p } : Fil).by_.length = (makeF fs n)[ix fs n].by_.length + p.length := List.length_append
  rw [e] at hs
  rw [hset]; omega
section
variable {o w : World} {R : List HProp} {L : List (Fil × Value)}
theorem fc_set {i j : Nat} (hi : i < L.length) (hj : j < 3) (u : Value) (q' : Fil × Value) (hq : fc q' = (fc L[i]).set j u) : (L.flatMap fc).set (i * 3 + j) u = (L.set i q').flatMap fc := by
  have e0 : L = L.take i ++ L[i] :: L.drop (i + 1) := by simp
  have e4 : ((L.take i).flatMap fc).length = i * 3 := by rw [fc_flat, List.length_take]; omega
  have e1 : L.flatMap fc = (L.take i).flatMap fc ++ (fc L[i] ++ (L.drop (i + 1)).flatMap fc) := by
    conv => lhs; rw [e0]
    rw [List.flatMap_append, List.flatMap_cons]
  have e2 : L.set i q' = L.take i ++ q' :: L.drop (i + 1) := List.set_eq_take_append_cons_drop .. |>.trans (if_pos hi)
  rw [e2, e1, List.flatMap_append, List.flatMap_cons, List.set_append_right _ _ (by omega), e4, show i * 3 + j - i * 3 = j by omega, List.set_append_left _ _ (by simp [fc]; omega), hq]
theorem fb_out {i : Nat} (hi : i < L.length) (h : St o w (satH (L.map fb) :: R)) : St o w (fb L[i] :: satH ((L.eraseIdx i).map fb) :: R) := by
  have e0 : L = L.take i ++ L[i] :: L.drop (i + 1) := by simp
  have e1 : L.map fb = (L.take i).map fb ++ fb L[i] :: (L.drop (i + 1)).map fb := by
    conv => lhs; rw [e0]
    rw [List.map_append, List.map_cons]
  rw [e1] at h
  rw [List.eraseIdx_eq_take_drop_succ, List.map_append]
  exact h.all_out
theorem fb_in {i : Nat} (hi : i < L.length) (q' : Fil × Value) (h : St o w (fb q' :: satH ((L.eraseIdx i).map fb) :: R)) : St o w (satH ((L.set i q').map fb) :: R) := by
  have e2 : L.set i q' = L.take i ++ q' :: L.drop (i + 1) := List.set_eq_take_append_cons_drop .. |>.trans (if_pos hi)
  rw [e2, List.map_append, List.map_cons]
  rw [List.eraseIdx_eq_take_drop_succ, List.map_append] at h
  exact h.all_in
end
section
variable (Z : List PanicEntry → World → Prop) {o w : World} {R As : List HProp} {g u : Nat} {d : Dk} {v : Value} {L : List (Fil × Value)}
theorem dAppend {x : Value} {m : Nat} {p : Bs} (n : Bs) (hn : n.length ≤ 1000000000000) (h : St o w (DiskM g d :: R)) (hx : Ent o R fun w => Rd w 1 x m (cb p)) (hp : p.length ≤ 1000000000000) :
    CallV Tryz.prog Z 32 #[.pointer (some ⟨g, 0, none⟩), .string (str n), x] w fun r w' => r = .int .i64 (d.append n p).1 ∧ St o w' (DiskM g (d.append n p).2 :: R) := by
  have h0 := hx w h.drop
  have hm := rd_len h0
  obtain ⟨xa, xc, rfl⟩ := h0.form
  subst hm
  obtain ⟨v, L, hk, hL, hS⟩ := DiskM.open h
  have hlen : L.length = d.fs.length := by rw [← hL, List.length_map]
  have hmany := hk.many
  have hused := hk.used
  have hroom := hk.room
  have z0 : ((0 : Int) != 0) = false := rfl
  unfold DiskO at hS
  refine f32.calls ?_
  unfold f32.sh
  refine ask1 Z n hn hS m0 fun w1 hS => ?_
  by_cases ha : d.asked [n] = 0
  case neg =>
    have e1 : (d.asked [n] != 0) = true := bne_iff_ne.2 ha
    (try simp only [o_chk, fa_79_0, Nat.add_zero, fa_77_1, Nat.zero_add, ln_58_3, o_chkp, fa_79_0p, fa_77_0p, fa_77_1p, fa_79_2p, ln_58_3p, o_neq, e1, condT])
    unfold Dk.append
    rw [if_pos ha]
    exact ⟨rfl, DiskM.shut hk hL rfl hS⟩
  rw [ha]
  (try simp only [o_chk, fa_79_0, Nat.add_zero, fa_77_1, Nat.zero_add, ln_58_3, o_chkp, fa_79_0p, fa_77_0p, fa_77_1p, fa_79_2p, ln_58_3p, o_neq, z0, condF])
  refine (dAtN Z n hS m0 rfl m1 (by rw [hL]; exact hk.srt) (by omega)).mono fun r w2 ⟨hr, hd⟩ => ?_
  rw [hL] at hr
  subst hr
  have hS := hS.drew hd
  obtain ⟨va, vc, hvf⟩ := Fils.form hS m1
  have bad : isAt d.fs n = false ∧ 64 ≤ d.fs.length → (.int .i64 22 : Value) = .int .i64 (d.append n p).1 ∧ St o w2 (DiskM g (d.append n p).2 :: R) := fun hb => by
    unfold Dk.append
    rw [if_neg (by simp [ha]), if_pos hb]
    exact ⟨rfl, DiskM.shut hk hL rfl hS⟩
  by_cases hbad : isAt d.fs n = false ∧ 64 ≤ d.fs.length
  · rw [hbad.1]
    (try simp only [o_ext2_1, o_not, Bool.not_false, o_pickT, guardW_true, o_chk, fa_79_0, Nat.add_zero, fa_77_0, o_ext2_0])
    refine r_load one75 (hS.at m0 0 rfl) ?_
    rw [hvf]
    have e1 : (64 : Int) ≤ (L.length : Int) := by omega
    (try simp only [ln_75_3, o_geq, e1, decide_true, condT])
    exact bad hbad
  clear bad
  apply via
  · intro post
    cases hat : isAt d.fs n with
    | true =>
      (try simp only [o_ext2_1, o_not, Bool.not_true, o_pickF, condF, guardW_ft, o_ext2_0])
      exact post
    | false =>
      (try simp only [o_ext2_1, o_not, Bool.not_false, o_pickT, guardW_true, o_chk, fa_79_0, Nat.add_zero, fa_77_0, o_ext2_0])
      refine r_load one75 (hS.at m0 0 rfl) ?_
      rw [hvf]
      have e1 : ¬ (64 : Int) ≤ (L.length : Int) := fun hh => hbad ⟨hat, by omega⟩
      (try simp only [ln_75_3, o_geq, e1, decide_false, condF])
      exact post
  refine ⟨fun w3 hd => ?_⟩
  have hS := hS.drew hd
  refine rr_load one3 (hS.at m0 3 rfl) (rr_load one3 (hS.at m0 1 rfl) ?_)
  (try simp only [o_subp, o_gtrp, cond_decide])
  rw [wr_i64 (x := (d.room : Int) - ((total d.fs : Nat) : Int)) (by omega) (by omega)]
  refine ⟨fun hc => ?_, fun hc => ?_⟩
  · have hfull : d.room < total d.fs + p.length := by omega
    unfold Dk.append
    rw [if_neg (by simp [ha]), if_neg hbad, if_pos hfull]
    exact ⟨by first | rfl | trivial, DiskM.shut hk hL rfl hS⟩
  have hfull : ¬ d.room < total d.fs + p.length := by omega
  refine (dWrite Z hS).mono fun r w4 ⟨hr, hS⟩ => ?_
  subst hr
  cases hst : d.stops with
  | true =>
    rw [hst, if_pos rfl] at hS
    (try simp only [Bool.not_true, o_not, Bool.not_false, condT])
    unfold Dk.append
    rw [if_neg (by simp [ha]), if_neg hbad, if_neg hfull, if_pos hst]
    exact ⟨by first | rfl | trivial, DiskM.shut (Dk.off_ok hk) hL rfl hS⟩
  | false =>
  rw [hst, if_neg Bool.false_ne_true] at hS
  have happ : d.append n p = (0, { d.wrote with fs := appF d.fs n p }) := by
    unfold Dk.append appF
    rw [if_neg (by simp [ha]), if_neg hbad, if_neg hfull, if_neg (by simp [hst])]
  have hok := Dk.append_ok hk n p
  rw [happ] at hok ⊢
  (try simp only [Bool.not_false, o_not, Bool.not_true, condF])
  refine (dMake Z n (total d.fs) (d := d.wrote) hS (by rw [hL]; exact hk.srt) (by omega)).mono fun r w5 ⟨hr, v', L', hL', hS⟩ => ?_
  rw [hL] at hr hL'
  subst hr
  unfold DiskO at hS
  obtain ⟨hi0, hn0⟩ := makeF_at (fs := d.fs) n
  have hi : ix d.fs n < L'.length := by have := congrArg List.length hL'; rw [List.length_map] at this; omega
  have hfi : L'[ix d.fs n].1 = (makeF d.fs n)[ix d.fs n] := by simp only [← hL', List.getElem_map]
  have hbl : L'[ix d.fs n].1.by_.length ≤ total d.fs := by
    rw [hfi, ← makeF_total d.fs n]
    exact total_ge (List.getElem_mem hi0)
  refine ⟨fun w6 hd => ?_⟩
  have hS := hS.drew hd
  refine rr_load one75 (hS.at m0 0 rfl) (rr_load one75 (hS.at m0 0 rfl) ?_)
  obtain ⟨b, q, hp', hc⟩ := Fils.ix hS m1 (ix d.fs n) hi
  refine rp hp' ?_
  (try simp only [fa_83_1p])
  refine rr_load one58 (hc 1 _ rfl) ?_
  have hS2 : St o w6 (own 5 1 L'[ix d.fs n].2 L'[ix d.fs n].1.by_.length (cb L'[ix d.fs n].1.by_) :: satH ((L'.eraseIdx (ix d.fs n)).map fb) :: blk g 79 (dcells v' (total d.fs) d.wrote) :: Fils v' L' :: R) := fb_out hi (hS.pick 2)
  refine r_append el58 hS2 ((hx _ hS2.drop.drop.drop.drop).src Tryz.underlying58 (cb_ones _)) (by omega) (by simp only [maxLen]; omega) fun v2 w7 hS => ?_
  have hvo : v2.oneCell' = true := by obtain ⟨_, _, e⟩ := hS.own_form; rw [e]; rfl
  refine rs_load one75 (hS.at m2 0 rfl) (rs_load one75 (hS.at m2 0 rfl) ?_)
  refine rp hp' ?_
  (try simp only [fa_83_1p])
  have hS3 : St o w7 (own 83 3 v' L'.length (L'.flatMap fc) :: own 5 1 v2 (L'[ix d.fs n].1.by_.length + p.length) (cb L'[ix d.fs n].1.by_ ++ cb p) :: satH ((L'.eraseIdx (ix d.fs n)).map fb) :: blk g 79 (dcells v' (total d.fs) d.wrote) :: R) := hS.pick 3
  refine r_store_fld hS3 el75 one58 .i64 (ix d.fs n) 1 hi (by omega) hp' hvo fun w8 hS => ?_
  rw [fc_set hi (by omega) v2 ({ L'[ix d.fs n].1 with by_ := L'[ix d.fs n].1.by_ ++ p }, v2) rfl, ← cb_append, ← List.length_append] at hS
  skip
  refine r_load one3 (hS.at m3 1 rfl) ?_
  (try simp only [o_add])
  rw [wr_i64 (x := ((total d.fs : Nat) : Int) + (p.length : Int)) (by omega) (by omega), show ((total d.fs : Nat) : Int) + (p.length : Int) = ((total d.fs + p.length : Nat) : Int) by omega]
  refine r_store (hS.pick 3) one3 (by simp [dcells]) rfl fun w9 hS => ?_
  refine ⟨by first | rfl | trivial, ?_⟩
  have hset : appF d.fs n p = (makeF d.fs n).set (ix d.fs n) { (makeF d.fs n)[ix d.fs n] with by_ := (makeF d.fs n)[ix d.fs n].by_ ++ p } := modify_set hi0 _
  refine DiskM.shut (v := v') (L := L'.set (ix d.fs n) ({ L'[ix d.fs n].1 with by_ := L'[ix d.fs n].1.by_ ++ p }, v2)) (u := total d.fs + p.length) hok ?_ ?_ ?_
  · show (L'.set _ _).map (·.1) = appF d.fs n p
    rw [List.map_set, hset, hL', hfi]
  · exact (appF_total d.fs n p).symm
  · have hS : St o w9 (blk g 79 (dcells v' (total d.fs + p.length) d.wrote) :: own 83 3 v' L'.length ((L'.set (ix d.fs n) ({ L'[ix d.fs n].1 with by_ := L'[ix d.fs n].1.by_ ++ p }, v2)).flatMap fc) :: fb ({ L'[ix d.fs n].1 with by_ := L'[ix d.fs n].1.by_ ++ p }, v2) :: satH ((L'.eraseIdx (ix d.fs n)).map fb) :: R) := hS
    have h1 : St o w9 (fb ({ L'[ix d.fs n].1 with by_ := L'[ix d.fs n].1.by_ ++ p }, v2) :: satH ((L'.eraseIdx (ix d.fs n)).map fb) :: blk g 79 (dcells v' (total d.fs + p.length) d.wrote) :: own 83 3 v' L'.length ((L'.set (ix d.fs n) ({ L'[ix d.fs n].1 with by_ := L'[ix d.fs n].1.by_ ++ p }, v2)).flatMap fc) :: R) := by (refine Sh.St.sub ?_ (hS); repeat (first | with_reducible exact sub_refl | with_reducible exact sub_nil | with_reducible refine sub_p0 ?_ | with_reducible refine sub_p1 ?_ | with_reducible refine sub_p2 ?_ | with_reducible refine sub_p3 ?_ | with_reducible refine sub_p4 ?_ | with_reducible refine sub_p5 ?_ | with_reducible refine sub_p6 ?_ | with_reducible refine sub_p7 ?_ | with_reducible refine sub_p8 ?_ | with_reducible refine sub_p9 ?_ | with_reducible refine sub_p10 ?_ | with_reducible refine sub_p11 ?_ | with_reducible refine sub_p12 ?_ | with_reducible refine sub_p13 ?_ | with_reducible refine sub_p14 ?_ | with_reducible refine sub_p15 ?_ | exact sub_refl | refine sub_p0 ?_ | refine sub_p1 ?_ | refine sub_p2 ?_ | refine sub_p3 ?_ | refine sub_p4 ?_ | refine sub_p5 ?_ | refine sub_p6 ?_ | refine sub_p7 ?_ | refine sub_p8 ?_ | refine sub_p9 ?_ | refine sub_p10 ?_ | refine sub_p11 ?_ | refine sub_p12 ?_ | refine sub_p13 ?_ | refine sub_p14 ?_ | refine sub_p15 ?_ | refine sub_drop ?_))
    have h2 := fb_in hi _ h1
    unfold DiskO Fils
    rw [List.length_set]
    exact h2.put 2
end
end Go.Proofs.YtcbbaiglcgemmaaGreatDoor
