
/- Disks: From. -/
import Derived.Test.YtcbbaiglcgemmaaGreatDoorD10
set_option linter.unusedVariables false
set_option linter.unusedSimpArgs false
namespace Go.Proofs.YtcbbaiglcgemmaaGreatDoor
open Go.Sh
def frE (room : Nat) (fs : List Fil) (x : Fi) : Int :=
  if nameOk x.nm = false ∨ isAt fs x.nm = true ∨ 64 ≤ fs.length then 22
  else if x.sy < 0 ∨ (x.by_.length : Int) < x.sy then 1
  else if room < total fs + x.by_.length then 21 else 0
def dkF (room : Nat) (fs : List Fil) : Dk := ⟨room, fs, true, false, 0, 0⟩
theorem dkF_fs (room : Nat) (fs : List Fil) : (dkF room fs).fs = fs := rfl
def frs (room : Nat) : List Fi → List Fil → Int × List Fil
  | [], fs => (0, fs)
  | x :: xs, fs => if frE room fs x ≠ 0 then (frE room fs x, fs) else frs room xs (insF fs ⟨x.nm, x.by_, x.sy.toNat⟩)
theorem frs_cons (room : Nat) (x : Fi) (xs : List Fi) (fs : List Fil) : frs room (x :: xs) fs = if frE room fs x ≠ 0 then (frE room fs x, fs) else frs room xs (insF fs ⟨x.nm, x.by_, x.sy.toNat⟩) := rfl
theorem ins_set (fs : List Fil) (n b : Bs) (s : Nat) : (insF fs ⟨n, [], 0⟩).set (ix fs n) ⟨n, b, s⟩ = insF fs ⟨n, b, s⟩ := by
  have := ix_le fs n
  show (fs.take (ix fs n) ++ (⟨n, [], 0⟩ : Fil) :: fs.drop (ix fs n)).set (ix fs n) _ = fs.take (ix fs n) ++ (⟨n, b, s⟩ : Fil) :: fs.drop (ix fs n)
  rw [List.set_append_right _ _ (by rw [List.length_take]; omega), List.length_take, Nat.min_eq_left this, Nat.sub_self]
  rfl
theorem frE_ok {room : Nat} {fs : List Fil} {x : Fi} (h : frE room fs x = 0) : nameOk x.nm = true ∧ isAt fs x.nm = false ∧ fs.length < 64 ∧ 0 ≤ x.sy ∧ x.sy ≤ (x.by_.length : Int) ∧ total fs + x.by_.length ≤ room := by
  unfold frE at h
  split at h
  · cases h
  split at h
  · cases h
  split at h
  · cases h
  rename_i h1 h2 h3
  refine ⟨?_, ?_, ?_, by omega, by omega, by omega⟩
  · cases hb : nameOk x.nm with
    | true => rfl
    | false => exact absurd (.inl hb) h1
  · cases hb : isAt fs x.nm with
    | false => rfl
    | true => exact absurd (.inr (.inl hb)) h1
  · exact Nat.lt_of_not_le fun hb => h1 (.inr (.inr hb))
theorem frs_ok {room : Nat} (hr : room ≤ 16777216) : ∀ (xs : List Fi) (fs : List Fil), (dkF room fs).ok → (dkF room ((frs room xs fs).2)).ok
  | [], fs, h => h
  | x :: xs, fs, h => by
    unfold frs
    split
    · exact h
    rename_i he
    obtain ⟨h1, h2, h3, h4, h5, h6⟩ := frE_ok (by simpa using he)
    refine frs_ok hr xs _ ⟨hr, ?_, insF_srt h.srt h2, fun f hf => ?_, ?_⟩
    · show total (insF fs _) ≤ room
      rw [insF_total]; exact h6
    · rcases insF_mem.1 hf with rfl | hf
      · show x.sy.toNat ≤ x.by_.length
        omega
      · exact h.sy f hf
    · show (insF fs _).length ≤ 64
      rw [insF_length]; omega
theorem ins_ok {room : Nat} (hr : room ≤ 16777216) {fs : List Fil} {x : Fi} (h : (dkF room fs).ok) (he : frE room fs x = 0) : (dkF room (insF fs ⟨x.nm, x.by_, x.sy.toNat⟩)).ok := by
  have := frs_ok hr [x] fs h
  simp only [frs, he, ne_eq, not_true, if_false] at this
  exact this
section
variable (Z : List PanicEntry → World → Prop) {o w : World} {R As : List HProp} {g u : Nat} {d : Dk} {v : Value} {L : List (Fil × Value)}
theorem dFrom {x : Value} {l : List (Fi × Value)} (room : Int) {Q : Value → World → Prop} (hx : Ent o R fun w => RdF w x l) (hl : l.length ≤ 2147483648) (hnb : ∀ p ∈ l, p.1.nm.length ≤ 1000000000000 ∧ p.1.by_.length ≤ 1000000000000) (h : St o w R)
    (hq1 : (room < 0 ∨ 16777216 < room) → ∀ w', St o w' R → Q (.tuple #[.pointer none, .int .i64 1]) w')
    (hq2 : ∀ n : Nat, room = n → n ≤ 16777216 → ∀ e, (frs n (l.map (·.1)) []).1 = e → e ≠ 0 → ∀ w', St o w' R → Q (.tuple #[.pointer none, .int .i64 e]) w')
    (hq3 : ∀ n : Nat, room = n → n ≤ 16777216 → ∀ fs, frs n (l.map (·.1)) [] = (0, fs) → (dkF n fs).ok → ∀ g w', St o w' (DiskM g (dkF n fs) :: R) → Q (.tuple #[.pointer (some ⟨g, 0, none⟩), .int .i64 0]) w') :
    CallV Tryz.prog Z 5 #[.int .i64 room, x] w Q := by
  have z0 : ((0 : Int) != 0) = false := rfl
  have z1 : ((1 : Int) != 0) = true := rfl
  refine f5.calls ?_
  unfold f5.sh
  refine (dNew Z room h).mono fun r w1 hr => ?_
  rcases hr with ⟨hb, rfl, rfl⟩ | ⟨n, rfl, hn, g, rfl, hS⟩
  · (try simp only [o_ext2_1, o_neq, z1, condT, o_ext2_0])
    exact hq1 hb w1 h
  (try simp only [o_ext2_1, o_neq, z0, condF, o_ext2_0, o_chkp, fa_79_0p, Nat.add_zero, fa_77_1p, Nat.zero_add, fa_77_0p])
  obtain ⟨xa, xc, hxf⟩ := (hx w1 hS.drop).1.form
  rw [hxf]
  (try simp only [ln_22_3])
  rw [← hxf]
  refine ⟨fun m y w' => ∃ (i : Nat) (fs : List Fil), y = .int .i64 i ∧ m + i = l.length ∧ fs.length = i ∧ (dkF n fs).ok ∧ frs n ((l.drop i).map (·.1)) fs = frs n (l.map (·.1)) [] ∧ St o w' (DiskM g (dkF n fs) :: R),
    ⟨l.length, 0, [], rfl, rfl, rfl, ⟨hn, Nat.zero_le _, List.Pairwise.nil, (by intro f hf; cases hf), Nat.zero_le _⟩, rfl, hS⟩, ?_⟩
  clear hS
  rintro m _ w2 ⟨i, fs, rfl, hi, hfl, hok, hfr, hS⟩ _
  by_cases hlt : (i : Int) < (l.length : Int)
  case neg =>
    obtain rfl : i = l.length := by omega
    (try simp only [o_add, o_lss, hlt, decide_false, condF])
    rw [List.drop_length] at hfr
    exact hq3 n rfl hn fs hfr.symm hok g w2 hS
  have hil : i < l.length := by omega
  rw [List.drop_eq_getElem_cons hil, List.map_cons] at hfr
  rw [frs_cons] at hfr
  obtain ⟨hnl, hbl⟩ := hnb l[i] (List.getElem_mem hil)
  (try simp only [o_add, o_lss, hlt, decide_true, condT])
  obtain ⟨b, q, hp, hc⟩ := (hx w2 hS.drop).ix i hil
  refine r1 (hp _) (r_loadN ag71 (xs := fic l[i]) rfl (fun j u hu => by rw [add_addr]; exact hc w2 (hx w2 hS.drop) j u hu) ?_)
  have hfo := (hx w2 hS.drop).one hil
  have hmany : fs.length ≤ 64 := hok.many
  have hused : total fs ≤ n := hok.used
  obtain ⟨v, L, hk, hL, hS⟩ := DiskM.open hS
  rw [dkF_fs] at hL
  unfold DiskO at hS
  rw [dkF_fs] at hS
  have hsrt : Srt fs := hk.srt
  refine r_alloc hS ze71 fun g2 w3 hS => ?_
  refine r_storeN hS ag71 (xs := fic l[i]) rfl (by simp [Value.cells]) hfo fun w4 hS => ?_
  rw [setL_all _ _ (by simp [Value.cells, fic])] at hS
  have hlen : L.length = fs.length := by rw [← hL, List.length_map]
  (try simp only [fa_71_2, Nat.zero_add, fa_71_1, fa_71_1p, fa_71_2p, fa_71_0p, Nat.add_zero, fa_71_0])
  refine ⟨fun w5 hd => ?_⟩
  have hS := hS.drew hd
  skip
  refine rr_load one9 (hS.at m0 0 rfl) ?_
  refine (dAtN Z l[i].1.nm hS m1 rfl m2 (by rw [hL]; exact hsrt) (by omega)).mono fun r w6 ⟨hr, hd⟩ => ?_
  rw [hL] at hr
  subst hr
  have hS := hS.drew hd
  (try simp only [o_ext2_1p, o_ext2_0p])
  refine r_load one9 (hS.at m0 0 rfl) ?_
  refine (isName Z l[i].1.nm (by omega)).mono fun r w7 ⟨hr, hw⟩ => ?_
  subst hr; subst hw
  have bad : ∀ e w', frE n fs l[i].1 = e → e ≠ 0 → St o w' R → Q (.tuple #[.pointer none, .int .i64 e]) w' := by
    intro e w' he hne hS
    rw [if_pos (by rw [he]; exact hne), he] at hfr
    exact hq2 n rfl hn e (by rw [← hfr]) hne w' hS
  clear hq1 hq2
  by_cases hb : nameOk l[i].1.nm = false ∨ isAt fs l[i].1.nm = true ∨ 64 ≤ fs.length
  · have he : frE n fs l[i].1 = 22 := by unfold frE; rw [if_pos hb]
    have e64 : (64 : Int) ≤ (i : Int) ∨ nameOk l[i].1.nm = false ∨ isAt fs l[i].1.nm = true := by
      rcases hb with hb | hb | hb
      · exact .inr (.inl hb)
      · exact .inr (.inr hb)
      · exact .inl (by omega)
    have done := bad 22 _ he (by decide) (hS.drop.drop.drop.drop)
    clear bad
    cases h1 : nameOk l[i].1.nm with
    | false => 
      (try simp only [o_not, Bool.not_false, o_pickT, condT, guardW_tf])
      exact done
    | true =>
      cases h2 : isAt fs l[i].1.nm with
      | true =>
        (try simp only [o_not, Bool.not_true, o_pickF, guardW_ff, o_pickT, condT, guardW_tf])
        exact done
      | false =>
        have e3 : (64 : Int) ≤ (i : Int) := by rw [h1, h2] at e64; simpa using e64
        (try simp only [o_not, Bool.not_true, o_pickF, guardW_ff, o_geq, e3, decide_true, condT])
        exact done
  have h1 : nameOk l[i].1.nm = true := by cases hh : nameOk l[i].1.nm with | true => rfl | false => exact absurd (.inl hh) hb
  have h2 : isAt fs l[i].1.nm = false := by cases hh : isAt fs l[i].1.nm with | false => rfl | true => exact absurd (.inr (.inl hh)) hb
  have h3 : ¬ (64 : Int) ≤ (i : Int) := fun hh => hb (.inr (.inr (by omega)))
  rw [h1, h2]
  (try simp only [o_not, Bool.not_true, o_pickF, guardW_ff, o_geq, h3, decide_false, condF])
  refine r_load one3 (hS.at m0 2 rfl) ?_
  (try simp only [o_lss])
  have hby := (hx w7 hS.drop.drop.drop.drop).2 l[i] (List.getElem_mem hil)
  obtain ⟨ba, bc, hbf⟩ := hby.form
  by_cases hs : l[i].1.sy < 0 ∨ (l[i].1.by_.length : Int) < l[i].1.sy
  · have he : frE n fs l[i].1 = 1 := by unfold frE; rw [if_neg hb, if_pos hs]
    have done := bad 1 _ he (by decide) (hS.drop.drop.drop.drop)
    clear bad
    by_cases h4 : l[i].1.sy < 0
    · (try simp only [h4, decide_true, o_pickT, condT, guardW_tf])
      exact done
    · have h5 : (l[i].1.by_.length : Int) < l[i].1.sy := by omega
      (try simp only [h4, decide_false, o_pickF, guardW_ff])
      refine r_load one3 (hS.at m0 2 rfl) (r_load one58 (hS.at m0 1 rfl) ?_)
      rw [hbf]
      (try simp only [ln_58_3, o_gtr, h5, decide_true, condT])
      exact done
  have h4 : ¬ l[i].1.sy < 0 := fun hh => hs (.inl hh)
  have h5 : ¬ (l[i].1.by_.length : Int) < l[i].1.sy := fun hh => hs (.inr hh)
  (try simp only [h4, decide_false, o_pickF, guardW_ff])
  refine r_load one3 (hS.at m0 2 rfl) (r_load one58 (hS.at m0 1 rfl) ?_)
  rw [hbf]
  (try simp only [ln_58_3, o_gtr, h5, decide_false, condF])
  refine ⟨fun w8 hd => ?_⟩
  have hS := hS.drew hd
  skip
  refine rr_load one3 (hS.at m1 1 rfl) ?_
  skip
  refine rr_load one58 (hS.at m0 1 rfl) ?_
  rw [hbf]
  (try simp only [ln_58_3p, o_addp, o_gtrp, cond_decide])
  rw [wr_i64 (x := ((total fs : Nat) : Int) + (l[i].1.by_.length : Int)) (by omega) (by omega)]
  refine ⟨fun hc => ?_, fun hc => ?_⟩
  · have he : frE n fs l[i].1 = 21 := by unfold frE; rw [if_neg hb, if_neg hs, if_pos (by omega)]
    exact bad 21 _ he (by decide) (hS.drop.drop.drop.drop)
  clear bad
  have he : frE n fs l[i].1 = 0 := by unfold frE; rw [if_neg hb, if_neg hs, if_neg (by omega)]
  have hok2 := ins_ok hn hok he
  rw [if_neg (by simp [he])] at hfr
  refine ⟨fun w9 hd => ?_⟩
  have hS := hS.drew hd
  refine rr_load one9 (hS.at m0 0 rfl) ?_
  have hS : St o w9 (DiskO g (total fs) (dkF n fs) v L (blk g2 71 (fic l[i]) :: R)) := hS.put 3
  refine (dMake Z l[i].1.nm (total fs) hS (by rw [hL]; exact hsrt) (by omega)).mono fun r w10 ⟨hr, v', L', hL', hS⟩ => ?_
  rw [hL] at hr hL'
  subst hr
  unfold DiskO at hS
  obtain ⟨hi0, hn0⟩ := makeF_at (fs := fs) l[i].1.nm
  have hi2 : ix fs l[i].1.nm < L'.length := by have := congrArg List.length hL'; rw [List.length_map] at this; omega
  have hfi : L'[ix fs l[i].1.nm].1 = (makeF fs l[i].1.nm)[ix fs l[i].1.nm] := by simp only [← hL', List.getElem_map]
  refine ⟨fun w11 hd => ?_⟩
  have hS := hS.drew hd
  refine rr_load one75 (hS.at m0 0 rfl) (rr_load one58 (hS.at m3 1 rfl) ?_)
  obtain ⟨b2, q2, hp', hc2⟩ := Fils.ix hS m1 (ix fs l[i].1.nm) hi2
  have hby := (hx w11 hS.drop.drop.drop.drop).2 l[i] (List.getElem_mem hil)
  refine r_append el58 (hS.own_nil 5 1) (hby.src Tryz.underlying58 (cb_ones _)) (by omega) (by simp only [maxLen]; omega) fun v2 w12 hS => ?_
  have hvo : v2.oneCell' = true := by obtain ⟨_, _, e⟩ := hS.own_form; rw [e]; rfl
  refine rs_load one75 (hS.at m1 0 rfl) ?_
  refine rp hp' ?_
  (try simp only [fa_83_1p])
  rw [Nat.zero_add, List.nil_append] at hS
  have hS : St o w12 (own 83 3 v' L'.length (L'.flatMap fc) :: own 5 1 v2 l[i].1.by_.length (cb l[i].1.by_) :: blk g 79 (dcells v' (total fs) (dkF n fs)) :: satH (L'.map fb) :: blk g2 71 (fic l[i]) :: R) := hS.pick 2
  refine r_store_fld hS el75 one58 .i64 (ix fs l[i].1.nm) 1 hi2 (by omega) hp' hvo fun w13 hS => ?_
  refine ⟨fun w14 hd => ?_⟩
  have hS := hS.drew hd
  refine rr_load one75 (hS.at m2 0 rfl) (rr_load one3 (hS.at m4 2 rfl) ?_)
  refine rp hp' ?_
  (try simp only [fa_83_2p])
  refine r_store_fld hS el75 one3 .i64 (ix fs l[i].1.nm) 2 hi2 (by omega) hp' rfl fun w15 hS => ?_
  have hsy : l[i].1.sy = (l[i].1.sy.toNat : Int) := by omega
  rw [fc_set2 hi2 v2 (.int .i64 l[i].1.sy) (⟨l[i].1.nm, l[i].1.by_, l[i].1.sy.toNat⟩, v2) (by simp only [fc, hfi, hn0, ← hsy]; rfl)] at hS
  refine ⟨fun w16 hd => ?_⟩
  have hS := hS.drew hd
  refine rr_load one3 (hS.at m2 1 rfl) ?_
  skip
  refine rr_load one58 (hS.at m4 1 rfl) ?_
  rw [hbf]
  (try simp only [ln_58_3p, o_addp])
  rw [wr_i64 (x := ((total fs : Nat) : Int) + (l[i].1.by_.length : Int)) (by omega) (by omega), show ((total fs : Nat) : Int) + (l[i].1.by_.length : Int) = ((total fs + l[i].1.by_.length : Nat) : Int) by omega]
  refine r_store (hS.pick 2) one3 (by simp [dcells]) rfl fun w17 hS => ?_
  skip
  rw [wr_i64 (x := (i : Int) + 1) (by omega) (by omega)]
  refine ⟨m - 1, by omega, i + 1, _, rfl, by omega, by rw [insF_length]; omega, hok2, hfr, ?_⟩
  refine DiskM.shut (v := v') (L := L'.set (ix fs l[i].1.nm) (⟨l[i].1.nm, l[i].1.by_, l[i].1.sy.toNat⟩, v2)) (u := total fs + l[i].1.by_.length) hok2 ?_ ?_ ?_
  · show (L'.set _ _).map (·.1) = insF fs ⟨l[i].1.nm, l[i].1.by_, l[i].1.sy.toNat⟩
    rw [List.map_set, hL', ← ins_set]
    simp [makeF, h2]
  · show _ = total (insF fs ⟨l[i].1.nm, l[i].1.by_, l[i].1.sy.toNat⟩)
    rw [insF_total]
  · have hS : St o w17 (blk g 79 (dcells v' (total fs + l[i].1.by_.length) (dkF n fs)) :: own 83 3 v' L'.length ((L'.set (ix fs l[i].1.nm) (⟨l[i].1.nm, l[i].1.by_, l[i].1.sy.toNat⟩, v2)).flatMap fc) :: fb (⟨l[i].1.nm, l[i].1.by_, l[i].1.sy.toNat⟩, v2) :: satH (L'.map fb) :: blk g2 71 (fic l[i]) :: R) := hS
    have h1 : St o w17 (satH (L'.map fb) :: fb (⟨l[i].1.nm, l[i].1.by_, l[i].1.sy.toNat⟩, v2) :: blk g 79 (dcells v' (total fs + l[i].1.by_.length) (dkF n fs)) :: own 83 3 v' L'.length ((L'.set (ix fs l[i].1.nm) (⟨l[i].1.nm, l[i].1.by_, l[i].1.sy.toNat⟩, v2)).flatMap fc) :: R) := by (refine Sh.St.sub ?_ (hS); repeat (first | with_reducible exact sub_refl | with_reducible exact sub_nil | with_reducible refine sub_p0 ?_ | with_reducible refine sub_p1 ?_ | with_reducible refine sub_p2 ?_ | with_reducible refine sub_p3 ?_ | with_reducible refine sub_p4 ?_ | with_reducible refine sub_p5 ?_ | with_reducible refine sub_p6 ?_ | with_reducible refine sub_p7 ?_ | with_reducible refine sub_p8 ?_ | with_reducible refine sub_p9 ?_ | with_reducible refine sub_p10 ?_ | with_reducible refine sub_p11 ?_ | with_reducible refine sub_p12 ?_ | with_reducible refine sub_p13 ?_ | with_reducible refine sub_p14 ?_ | with_reducible refine sub_p15 ?_ | exact sub_refl | refine sub_p0 ?_ | refine sub_p1 ?_ | refine sub_p2 ?_ | refine sub_p3 ?_ | refine sub_p4 ?_ | refine sub_p5 ?_ | refine sub_p6 ?_ | refine sub_p7 ?_ | refine sub_p8 ?_ | refine sub_p9 ?_ | refine sub_p10 ?_ | refine sub_p11 ?_ | refine sub_p12 ?_ | refine sub_p13 ?_ | refine sub_p14 ?_ | refine sub_p15 ?_ | refine sub_drop ?_))
    have h2 := fb_in hi2 (⟨l[i].1.nm, l[i].1.by_, l[i].1.sy.toNat⟩, v2) (fb_out hi2 h1).drop.swap
    unfold DiskO Fils
    rw [List.length_set]
    exact h2.put 2
end
end Go.Proofs.YtcbbaiglcgemmaaGreatDoor
