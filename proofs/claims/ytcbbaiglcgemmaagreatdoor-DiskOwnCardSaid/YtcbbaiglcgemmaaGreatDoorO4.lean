
/- What a disk answers is its caller's alone: DiskOwn answers true. -/
import Derived.Test.YtcbbaiglcgemmaaGreatDoorO3
set_option linter.unusedVariables false
set_option linter.unusedSimpArgs false
namespace Go.Proofs.YtcbbaiglcgemmaaGreatDoor
open Go.Sh
theorem rows_file {L : List (Fil × Value)} : ∀ (h : Hp), (∀ p ∈ L, p.1.by_.length ≤ 140737488351232) → satH (L.map fb) h → rowsX 5 1 1 (L.map fun p => (p.2, p.1.by_.length)) h := by
  induction L with
  | nil => intro h _ _; trivial
  | cons a L ih =>
    rintro h hb ⟨S, h1, h2⟩
    refine ⟨S, ⟨?_, _, h1⟩, ih _ (fun p hp => hb p (List.mem_cons_of_mem _ hp)) h2⟩
    have := hb a List.mem_cons_self
    show a.1.by_.length * 1 ≤ _
    omega
section
variable (Z : List PanicEntry → World → Prop) {o w : World} {R As : List HProp}
--theorem ownMain {g g2 n : Nat} {fs : List Fil} {Q : Value → World → Prop} (hT : Tab o) (hk : (dkF n fs).ok) (hnm : ∀ f ∈ fs, nameOk f.nm = true) (h : St o w (DiskM g (dkF n fs) :: RefM g2 (dkF n fs) :: old o :: R)) : True := trivial
theorem diskOwn {x : Value} {l : List (Fi × Value)} (room : Int) (hx : RdF o x l) (hl : l.length ≤ 140737488351232) (hb : ∀ p ∈ l, p.1.nm.length ≤ 140737488351232 ∧ p.1.by_.length ≤ 140737488351232) (hT : Tab o) :
    CallV Tryz.prog Z 3 #[.int .i64 room, x] o fun r w' => r = .bool true ∧ St o w' [old o] := by
  have hent : ∀ {R : List HProp}, old o ∈ R → Ent o R fun w => RdF w x l := fun hm w hS => ⟨hx.1.of_old hS hm, fun p hp => (hx.2 p hp).of_old hS hm⟩
  refine f3.calls ?_
  unfold f3.sh
  refine (filesB Z hx hl hb).mono fun r w1 ⟨hd, b, hr, hbb⟩ => ?_
  subst hr
  have S1 := (St.start o).drew hd
  cases b with
  | true =>
    (try simp only [condT])
    exact ⟨by first | rfl | trivial, S1⟩
  | false =>
  obtain ⟨hl2, hb2⟩ := hbb rfl
  have hl3 : l.length ≤ 2147483648 := by omega
  have hb3 : ∀ p ∈ l, p.1.nm.length ≤ 1000000000000 ∧ p.1.by_.length ≤ 1000000000000 := fun p hp => by have := hb2 p hp; omega
  (try simp only [condF])
  refine dFrom Z room (hent m0) hl3 hb3 S1 (fun hbad w2 S2 => ?_) (fun n hn hle e he hne w2 S2 => ?_) (fun n hn hle fs hfs hok g w2 S2 => ?_)
  · (try simp only [o_ext2_1, o_ext2_0, eqln_24, condT])
    refine rFrom Z room (hent m0) hl3 hb3 S2 (fun _ w3 S3 => ?_) (fun n hn hle e he hne w3 S3 => absurd hbad (by omega)) (fun n hn hle fs hfs hok g w3 S3 => absurd hbad (by omega))
    have e1 : ((1 : Int) != 1) = false := rfl
    (try simp only [o_ext2_1, o_neq, e1, o_pickF, guardW_ff, eqln_24, o_ext2_0, eqln_28, neqb_4, bne_self_eq_false, condF])
    exact (lives Z S3).mono fun r w4 h => h
  · (try simp only [o_ext2_1, o_ext2_0, eqln_24, condT])
    refine rFrom Z room (hent m0) hl3 hb3 S2 (fun hbad w3 S3 => absurd hbad (by omega)) (fun n' hn' hle' e' he' hne' w3 S3 => ?_) (fun n' hn' hle' fs hfs hok g w3 S3 => ?_)
    · obtain rfl : n' = n := by omega
      obtain rfl : e' = e := by rw [← he', ← he]
      have e1 : (e' != e') = false := by simp
      (try simp only [o_ext2_1, o_neq, e1, o_pickF, guardW_ff, eqln_24, o_ext2_0, eqln_28, neqb_4, bne_self_eq_false, condF])
      exact (lives Z S3).mono fun r w4 h => h
    · obtain rfl : n' = n := by omega
      rw [hfs] at he
      exact absurd he.symm hne
  (try simp only [o_ext2_1, o_ext2_0, eqlp_24, condF])
  refine rFrom Z room (hent (by simp)) hl3 hb3 S2 (fun hbad w3 S3 => absurd hbad (by omega)) (fun n' hn' hle' e' he' hne' w3 S3 => ?_) (fun n' hn' hle' fs' hfs' hok' g2 w3 hS => ?_)
  · obtain rfl : n' = n := by omega
    rw [hfs] at he'
    exact absurd he'.symm hne'
  obtain rfl : n' = n := by omega
  rw [hfs] at hfs'
  injection hfs' with _ hfs'
  subst hfs'
  have hnm : ∀ f ∈ fs, nameOk f.nm = true := by
    have := frs_names (room := n') (l.map (·.1)) [] (fun f hf => by cases hf)
    rw [hfs] at this
    exact this
  have hsrt : Srt fs := hok.srt
  have hmany : fs.length ≤ 64 := hok.many
  have hused : total fs ≤ n' := hok.used
  have hbl : ∀ f ∈ fs, f.by_.length ≤ 16777216 := fun f hf => by have := total_ge hf; omega
  have hnl : ∀ f ∈ fs, f.nm.length ≤ 1000000000000 := fun f hf => by
    have := hnm f hf
    unfold nameOk at this
    simp at this
    omega
  have e0 : ((0 : Int) != 0) = false := rfl
  (try simp only [o_ext2_1, o_neq, e0, o_pickF, guardW_ff, eqlp_24, o_ext2_0, eqlp_28, neqb_4, bne_self_eq_false, condF])
  refine r_build (cells := (List.replicate 21 (Value.slice none 0 0)).toArray) (by kernel_rfl) ?_
  refine r_box _ _ hS fun gb w4 hS => ?_
  have hS := bag_new hS
  refine (rNames Z (d := dkF n' fs) hS.swap (by show fs.length ≤ _; omega)).mono fun rn w5 hS => ?_
  have hS : St o w5 (own 9 1 rn fs.length (fs.map nmV) :: RefM g2 (dkF n' fs) :: bagP gb [] [] [] :: DiskM g (dkF n' fs) :: [old o]) := hS
  obtain ⟨na, nc, hnf⟩ := hS.own_form
  refine ⟨fun m a y w' => ∃ (i : Nat) (es : List (Value × Nat)) (ds : List (Fi × Value)), y = .int .i64 i ∧ m + i = fs.length ∧ es.length = i ∧ ds.map (·.1) = (fs.take i).map Fil.fi ∧
    St o w' (bagP gb (es.map Prod.fst) [] [] :: rowsX 5 1 1 es :: own 58 1 a i (ds.map Prod.snd) :: satH (ds.map fbi) :: own 9 1 rn fs.length (fs.map nmV) :: DiskM g (dkF n' fs) :: RefM g2 (dkF n' fs) :: [old o]), ⟨fs.length, 0, [], [], rfl, rfl, rfl, rfl, ?_⟩, ?_⟩
  · have h1 := (rows_empty (e := 5) (sz := 1) (bt := 1) ((St.all_intro (As := []) hS).own_nil 58 1))
    (refine Sh.St.sub ?_ (h1); repeat (first | with_reducible exact sub_refl | with_reducible exact sub_nil | with_reducible refine sub_p0 ?_ | with_reducible refine sub_p1 ?_ | with_reducible refine sub_p2 ?_ | with_reducible refine sub_p3 ?_ | with_reducible refine sub_p4 ?_ | with_reducible refine sub_p5 ?_ | with_reducible refine sub_p6 ?_ | with_reducible refine sub_p7 ?_ | with_reducible refine sub_p8 ?_ | with_reducible refine sub_p9 ?_ | with_reducible refine sub_p10 ?_ | with_reducible refine sub_p11 ?_ | with_reducible refine sub_p12 ?_ | with_reducible refine sub_p13 ?_ | with_reducible refine sub_p14 ?_ | with_reducible refine sub_p15 ?_ | exact sub_refl | refine sub_p0 ?_ | refine sub_p1 ?_ | refine sub_p2 ?_ | refine sub_p3 ?_ | refine sub_p4 ?_ | refine sub_p5 ?_ | refine sub_p6 ?_ | refine sub_p7 ?_ | refine sub_p8 ?_ | refine sub_p9 ?_ | refine sub_p10 ?_ | refine sub_p11 ?_ | refine sub_p12 ?_ | refine sub_p13 ?_ | refine sub_p14 ?_ | refine sub_p15 ?_ | refine sub_drop ?_))
  clear hS
  rintro m a _ w6 ⟨i, es, ds, rfl, hi, hel, hds, hS⟩ _
  have hdl : ds.length = i := by have := congrArg List.length hds; simp only [List.length_map, List.length_take] at this; omega
  rw [hnf]
  by_cases hlt : (i : Int) < (fs.length : Int)
  · have hil : i < fs.length := by omega
    (try simp only [o_add, ln_56_3, o_lss, hlt, decide_true, condT])
    rw [← hnf]
    have hff := found_file (n := n') hsrt hnm (List.getElem_mem hil)
    have hbi := hbl _ (List.getElem_mem hil)
    have hni := hnl _ (List.getElem_mem hil)
    obtain ⟨b, q, hp, hc⟩ := (hS.own_rd m4).adr el56 .i64 i hil
    have hgi : (((fs.map nmV).drop (i * 1)).take 1)[0]? = some (nmV fs[i]) := by rw [at_one, List.getElem?_map, List.getElem?_eq_getElem hil]; rfl
    refine r1 (hp _) (r_load one9 (hc w6 (hS.own_rd m4) 0 (nmV fs[i]) hgi) ?_)
    refine (dRead Z fs[i].nm hni (hS.pick 5)).mono fun r w7 hr => ?_
    rcases hr with ⟨hf, _⟩ | ⟨_, v1, rfl, hS⟩
    · exact absurd hff.1 hf
    rw [hff.2] at hS
    obtain ⟨v1a, v1c, hv1⟩ := hS.own_form
    (try simp only [o_ext2_1, o_ext2_0])
    have hS : St o w7 (bagP gb (es.map Prod.fst) [] [] :: own 5 1 v1 fs[i].by_.length (cb fs[i].by_) :: rowsX 5 1 1 es :: own 58 1 a i (ds.map Prod.snd) :: satH (ds.map fbi) :: own 9 1 rn fs.length (fs.map nmV) :: DiskM g (dkF n' fs) :: RefM g2 (dkF n' fs) :: [old o]) := by (refine Sh.St.sub ?_ (hS); repeat (first | with_reducible exact sub_refl | with_reducible exact sub_nil | with_reducible refine sub_p0 ?_ | with_reducible refine sub_p1 ?_ | with_reducible refine sub_p2 ?_ | with_reducible refine sub_p3 ?_ | with_reducible refine sub_p4 ?_ | with_reducible refine sub_p5 ?_ | with_reducible refine sub_p6 ?_ | with_reducible refine sub_p7 ?_ | with_reducible refine sub_p8 ?_ | with_reducible refine sub_p9 ?_ | with_reducible refine sub_p10 ?_ | with_reducible refine sub_p11 ?_ | with_reducible refine sub_p12 ?_ | with_reducible refine sub_p13 ?_ | with_reducible refine sub_p14 ?_ | with_reducible refine sub_p15 ?_ | exact sub_refl | refine sub_p0 ?_ | refine sub_p1 ?_ | refine sub_p2 ?_ | refine sub_p3 ?_ | refine sub_p4 ?_ | refine sub_p5 ?_ | refine sub_p6 ?_ | refine sub_p7 ?_ | refine sub_p8 ?_ | refine sub_p9 ?_ | refine sub_p10 ?_ | refine sub_p11 ?_ | refine sub_p12 ?_ | refine sub_p13 ?_ | refine sub_p14 ?_ | refine sub_p15 ?_ | refine sub_drop ?_))
    refine (bagAddBytes Z (l := v1) (by rw [hv1]; rfl) hS).mono fun r w8 ⟨b', hb', hS⟩ => ?_
    rw [if_pos (by rw [List.length_map]; omega)] at hb'
    subst hb'
    refine r1 (hp _) (r_load one9 (hc w8 (hS.own_rd m5) 0 (nmV fs[i]) hgi) ?_)
    refine (dRead Z fs[i].nm hni (hS.pick 6)).mono fun r w9 hr => ?_
    rcases hr with ⟨hf, _⟩ | ⟨_, v2, rfl, hS⟩
    · exact absurd hff.1 hf
    rw [hff.2] at hS
    obtain ⟨v2a, v2c, hv2⟩ := hS.own_form
    (try simp only [o_ext2_1, o_ext2_0])
    have hS : St o w9 (own 58 1 a i (ds.map Prod.snd) :: own 5 1 v2 fs[i].by_.length (cb fs[i].by_) :: bagP gb (es.map Prod.fst ++ [v1]) [] [] :: own 5 1 v1 fs[i].by_.length (cb fs[i].by_) :: rowsX 5 1 1 es :: satH (ds.map fbi) :: own 9 1 rn fs.length (fs.map nmV) :: DiskM g (dkF n' fs) :: RefM g2 (dkF n' fs) :: [old o]) := by (refine Sh.St.sub ?_ (hS); repeat (first | with_reducible exact sub_refl | with_reducible exact sub_nil | with_reducible refine sub_p0 ?_ | with_reducible refine sub_p1 ?_ | with_reducible refine sub_p2 ?_ | with_reducible refine sub_p3 ?_ | with_reducible refine sub_p4 ?_ | with_reducible refine sub_p5 ?_ | with_reducible refine sub_p6 ?_ | with_reducible refine sub_p7 ?_ | with_reducible refine sub_p8 ?_ | with_reducible refine sub_p9 ?_ | with_reducible refine sub_p10 ?_ | with_reducible refine sub_p11 ?_ | with_reducible refine sub_p12 ?_ | with_reducible refine sub_p13 ?_ | with_reducible refine sub_p14 ?_ | with_reducible refine sub_p15 ?_ | exact sub_refl | refine sub_p0 ?_ | refine sub_p1 ?_ | refine sub_p2 ?_ | refine sub_p3 ?_ | refine sub_p4 ?_ | refine sub_p5 ?_ | refine sub_p6 ?_ | refine sub_p7 ?_ | refine sub_p8 ?_ | refine sub_p9 ?_ | refine sub_p10 ?_ | refine sub_p11 ?_ | refine sub_p12 ?_ | refine sub_p13 ?_ | refine sub_p14 ?_ | refine sub_p15 ?_ | refine sub_drop ?_))
    refine r_push el33 hS v2 (by rw [hv2]; rfl) (by omega) (by simp only [maxLen]; omega) fun a' w10 hS => ?_
    skip
    rw [wr_i64 (x := (i : Int) + 1) (by omega) (by omega)]
    refine ⟨m - 1, by omega, i + 1, es ++ [(v1, fs[i].by_.length)], ds ++ [(fs[i].fi, v2)], rfl, by omega, by simp [hel], by rw [List.map_append, hds, List.take_succ_eq_append_getElem hil, List.map_append]; rfl, ?_⟩
    have h1 : St o w10 (own 5 1 v1 fs[i].by_.length (cb fs[i].by_) :: rowsX 5 1 1 [] :: rowsX 5 1 1 es :: own 5 1 v2 fs[i].by_.length (cb fs[i].by_) :: own 58 1 a' (i + 1) (ds.map Prod.snd ++ [v2]) :: bagP gb (es.map Prod.fst ++ [v1]) [] [] :: satH (ds.map fbi) :: own 9 1 rn fs.length (fs.map nmV) :: DiskM g (dkF n' fs) :: RefM g2 (dkF n' fs) :: [old o]) := by
      have h0 := rows_empty (e := 5) (sz := 1) (bt := 1) hS
      (refine Sh.St.sub ?_ (h0); repeat (first | with_reducible exact sub_refl | with_reducible exact sub_nil | with_reducible refine sub_p0 ?_ | with_reducible refine sub_p1 ?_ | with_reducible refine sub_p2 ?_ | with_reducible refine sub_p3 ?_ | with_reducible refine sub_p4 ?_ | with_reducible refine sub_p5 ?_ | with_reducible refine sub_p6 ?_ | with_reducible refine sub_p7 ?_ | with_reducible refine sub_p8 ?_ | with_reducible refine sub_p9 ?_ | with_reducible refine sub_p10 ?_ | with_reducible refine sub_p11 ?_ | with_reducible refine sub_p12 ?_ | with_reducible refine sub_p13 ?_ | with_reducible refine sub_p14 ?_ | with_reducible refine sub_p15 ?_ | exact sub_refl | refine sub_p0 ?_ | refine sub_p1 ?_ | refine sub_p2 ?_ | refine sub_p3 ?_ | refine sub_p4 ?_ | refine sub_p5 ?_ | refine sub_p6 ?_ | refine sub_p7 ?_ | refine sub_p8 ?_ | refine sub_p9 ?_ | refine sub_p10 ?_ | refine sub_p11 ?_ | refine sub_p12 ?_ | refine sub_p13 ?_ | refine sub_p14 ?_ | refine sub_p15 ?_ | refine sub_drop ?_))
    have h2 := (rows_cons (p := (v1, fs[i].by_.length)) (by show fs[i].by_.length * 1 ≤ _; omega) h1).swap
    have h3 := rows_join h2
    have h4 : St o w10 (satH (ds.map fbi) :: fbi (fs[i].fi, v2) :: rowsX 5 1 1 (es ++ [(v1, fs[i].by_.length)]) :: own 58 1 a' (i + 1) (ds.map Prod.snd ++ [v2]) :: bagP gb (es.map Prod.fst ++ [v1]) [] [] :: own 9 1 rn fs.length (fs.map nmV) :: DiskM g (dkF n' fs) :: RefM g2 (dkF n' fs) :: [old o]) := by
      have h3 : St o w10 (_ :: fbi (fs[i].fi, v2) :: _) := h3
      (refine Sh.St.sub ?_ (h3); repeat (first | with_reducible exact sub_refl | with_reducible exact sub_nil | with_reducible refine sub_p0 ?_ | with_reducible refine sub_p1 ?_ | with_reducible refine sub_p2 ?_ | with_reducible refine sub_p3 ?_ | with_reducible refine sub_p4 ?_ | with_reducible refine sub_p5 ?_ | with_reducible refine sub_p6 ?_ | with_reducible refine sub_p7 ?_ | with_reducible refine sub_p8 ?_ | with_reducible refine sub_p9 ?_ | with_reducible refine sub_p10 ?_ | with_reducible refine sub_p11 ?_ | with_reducible refine sub_p12 ?_ | with_reducible refine sub_p13 ?_ | with_reducible refine sub_p14 ?_ | with_reducible refine sub_p15 ?_ | exact sub_refl | refine sub_p0 ?_ | refine sub_p1 ?_ | refine sub_p2 ?_ | refine sub_p3 ?_ | refine sub_p4 ?_ | refine sub_p5 ?_ | refine sub_p6 ?_ | refine sub_p7 ?_ | refine sub_p8 ?_ | refine sub_p9 ?_ | refine sub_p10 ?_ | refine sub_p11 ?_ | refine sub_p12 ?_ | refine sub_p13 ?_ | refine sub_p14 ?_ | refine sub_p15 ?_ | refine sub_drop ?_))
    have h5 := h4.all_snoc
    rw [List.map_append, List.map_append, List.map_append]
    have h5 : St o w10 (satH (ds.map fbi ++ [(fs[i].fi, v2)].map fbi) :: _) := h5
    have h5 : St o w10 (satH (ds.map fbi ++ [(fs[i].fi, v2)].map fbi) :: rowsX 5 1 1 (es ++ [(v1, fs[i].by_.length)]) :: own 58 1 a' (i + 1) (ds.map Prod.snd ++ [(fs[i].fi, v2)].map Prod.snd) :: bagP gb (es.map Prod.fst ++ [(v1, fs[i].by_.length)].map Prod.fst) [] [] :: own 9 1 rn fs.length (fs.map nmV) :: DiskM g (dkF n' fs) :: RefM g2 (dkF n' fs) :: [old o]) := h5
    (refine Sh.St.sub ?_ (h5); repeat (first | with_reducible exact sub_refl | with_reducible exact sub_nil | with_reducible refine sub_p0 ?_ | with_reducible refine sub_p1 ?_ | with_reducible refine sub_p2 ?_ | with_reducible refine sub_p3 ?_ | with_reducible refine sub_p4 ?_ | with_reducible refine sub_p5 ?_ | with_reducible refine sub_p6 ?_ | with_reducible refine sub_p7 ?_ | with_reducible refine sub_p8 ?_ | with_reducible refine sub_p9 ?_ | with_reducible refine sub_p10 ?_ | with_reducible refine sub_p11 ?_ | with_reducible refine sub_p12 ?_ | with_reducible refine sub_p13 ?_ | with_reducible refine sub_p14 ?_ | with_reducible refine sub_p15 ?_ | exact sub_refl | refine sub_p0 ?_ | refine sub_p1 ?_ | refine sub_p2 ?_ | refine sub_p3 ?_ | refine sub_p4 ?_ | refine sub_p5 ?_ | refine sub_p6 ?_ | refine sub_p7 ?_ | refine sub_p8 ?_ | refine sub_p9 ?_ | refine sub_p10 ?_ | refine sub_p11 ?_ | refine sub_p12 ?_ | refine sub_p13 ?_ | refine sub_p14 ?_ | refine sub_p15 ?_ | refine sub_drop ?_))
  obtain rfl : i = fs.length := by omega
  (try simp only [o_add, ln_56_3, o_lss, hlt, decide_false, condF])
  rw [← hnf]
  rw [List.take_length] at hds
  have hbl2 : ∀ f ∈ (dkF n' fs).fs, f.by_.length ≤ 140737488355328 := fun f hf => by have := hbl f hf; omega
  refine (dNames Z (d := dkF n' fs) (hS.pick 5)).mono fun rt w7 hS => ?_
  obtain ⟨rta, rtc, hrt⟩ := hS.own_form
  have hS : St o w7 (bagP gb (es.map Prod.fst) [] [] :: own 9 1 rt fs.length (fs.map nmV) :: rowsX 5 1 1 es :: own 58 1 a fs.length (ds.map Prod.snd) :: satH (ds.map fbi) :: own 9 1 rn fs.length (fs.map nmV) :: DiskM g (dkF n' fs) :: RefM g2 (dkF n' fs) :: [old o]) := by
    have h0 : St o w7 (own 9 1 rt fs.length (fs.map nmV) :: DiskM g (dkF n' fs) :: _) := hS
    (refine Sh.St.sub ?_ (h0); repeat (first | with_reducible exact sub_refl | with_reducible exact sub_nil | with_reducible refine sub_p0 ?_ | with_reducible refine sub_p1 ?_ | with_reducible refine sub_p2 ?_ | with_reducible refine sub_p3 ?_ | with_reducible refine sub_p4 ?_ | with_reducible refine sub_p5 ?_ | with_reducible refine sub_p6 ?_ | with_reducible refine sub_p7 ?_ | with_reducible refine sub_p8 ?_ | with_reducible refine sub_p9 ?_ | with_reducible refine sub_p10 ?_ | with_reducible refine sub_p11 ?_ | with_reducible refine sub_p12 ?_ | with_reducible refine sub_p13 ?_ | with_reducible refine sub_p14 ?_ | with_reducible refine sub_p15 ?_ | exact sub_refl | refine sub_p0 ?_ | refine sub_p1 ?_ | refine sub_p2 ?_ | refine sub_p3 ?_ | refine sub_p4 ?_ | refine sub_p5 ?_ | refine sub_p6 ?_ | refine sub_p7 ?_ | refine sub_p8 ?_ | refine sub_p9 ?_ | refine sub_p10 ?_ | refine sub_p11 ?_ | refine sub_p12 ?_ | refine sub_p13 ?_ | refine sub_p14 ?_ | refine sub_p15 ?_ | refine sub_drop ?_))
  refine (bagAddTexts Z (l := rt) (by rw [hrt]; rfl) hS).mono fun r w8 ⟨b', hb', hS⟩ => ?_
  rw [if_pos (by decide)] at hb'
  subst hb'
  refine (dImage Z (hS.pick 6)).mono fun ri w9 ⟨LI, hLI, hS⟩ => ?_
  have hLI : LI.map (·.1) = fs := hLI
  have hLl : LI.length = fs.length := by rw [← hLI, List.length_map]
  have hLb : ∀ p ∈ LI, p.1.by_.length ≤ 140737488351232 := fun p hp => by have := hbl p.1 (by rw [← hLI]; exact List.mem_map_of_mem hp); omega
  have hS : St o w9 (bagP gb (es.map Prod.fst) ([] ++ [rt]) [] :: own 71 3 ri LI.length (LI.flatMap fc) :: satH (LI.map fb) :: own 9 1 rt fs.length (fs.map nmV) :: rowsX 5 1 1 es :: own 58 1 a fs.length (ds.map Prod.snd) :: satH (ds.map fbi) :: own 9 1 rn fs.length (fs.map nmV) :: DiskM g (dkF n' fs) :: RefM g2 (dkF n' fs) :: [old o]) := by (refine Sh.St.sub ?_ (hS); repeat (first | with_reducible exact sub_refl | with_reducible exact sub_nil | with_reducible refine sub_p0 ?_ | with_reducible refine sub_p1 ?_ | with_reducible refine sub_p2 ?_ | with_reducible refine sub_p3 ?_ | with_reducible refine sub_p4 ?_ | with_reducible refine sub_p5 ?_ | with_reducible refine sub_p6 ?_ | with_reducible refine sub_p7 ?_ | with_reducible refine sub_p8 ?_ | with_reducible refine sub_p9 ?_ | with_reducible refine sub_p10 ?_ | with_reducible refine sub_p11 ?_ | with_reducible refine sub_p12 ?_ | with_reducible refine sub_p13 ?_ | with_reducible refine sub_p14 ?_ | with_reducible refine sub_p15 ?_ | exact sub_refl | refine sub_p0 ?_ | refine sub_p1 ?_ | refine sub_p2 ?_ | refine sub_p3 ?_ | refine sub_p4 ?_ | refine sub_p5 ?_ | refine sub_p6 ?_ | refine sub_p7 ?_ | refine sub_p8 ?_ | refine sub_p9 ?_ | refine sub_p10 ?_ | refine sub_p11 ?_ | refine sub_p12 ?_ | refine sub_p13 ?_ | refine sub_p14 ?_ | refine sub_p15 ?_ | refine sub_drop ?_))
  refine (bagAddFiles Z (v := ri) (l := LI.map toFi) (fun w hS => own_rdF hS) (by rw [List.length_map]; omega) (by rw [List.length_map, List.length_map]; omega) (by decide) hS).mono fun r w10 hS => ?_
  refine (dNames Z (d := dkF n' fs) (hS.pick 8)).mono fun t2 w11 hS => ?_
  refine (dImage Z (hS.pick 1)).mono fun ri2 w12 ⟨LI2, hLI2, hS⟩ => ?_
  have hLI2 : LI2.map (·.1) = fs := hLI2
  have hS : St o w12 (satH (LI.map fb) :: own 9 1 rt fs.length (fs.map nmV) :: own 71 3 ri LI.length (LI.flatMap fc) :: bagP gb (es.map Prod.fst ++ (LI.map toFi).map Prod.snd) ([] ++ [rt]) ([] ++ [ri]) :: rowsX 5 1 1 es ::
      own 58 1 a fs.length (ds.map Prod.snd) :: satH (ds.map fbi) :: own 9 1 rn fs.length (fs.map nmV) :: own 9 1 t2 fs.length (fs.map nmV) :: own 71 3 ri2 LI2.length (LI2.flatMap fc) :: satH (LI2.map fb) :: DiskM g (dkF n' fs) :: RefM g2 (dkF n' fs) :: [old o]) := by
    have h0 : St o w12 (own 71 3 ri2 LI2.length (LI2.flatMap fc) :: satH (LI2.map fb) :: DiskM g (dkF n' fs) :: own 9 1 t2 fs.length (fs.map nmV) :: _) := hS
    (refine Sh.St.sub ?_ (h0); repeat (first | with_reducible exact sub_refl | with_reducible exact sub_nil | with_reducible refine sub_p0 ?_ | with_reducible refine sub_p1 ?_ | with_reducible refine sub_p2 ?_ | with_reducible refine sub_p3 ?_ | with_reducible refine sub_p4 ?_ | with_reducible refine sub_p5 ?_ | with_reducible refine sub_p6 ?_ | with_reducible refine sub_p7 ?_ | with_reducible refine sub_p8 ?_ | with_reducible refine sub_p9 ?_ | with_reducible refine sub_p10 ?_ | with_reducible refine sub_p11 ?_ | with_reducible refine sub_p12 ?_ | with_reducible refine sub_p13 ?_ | with_reducible refine sub_p14 ?_ | with_reducible refine sub_p15 ?_ | exact sub_refl | refine sub_p0 ?_ | refine sub_p1 ?_ | refine sub_p2 ?_ | refine sub_p3 ?_ | refine sub_p4 ?_ | refine sub_p5 ?_ | refine sub_p6 ?_ | refine sub_p7 ?_ | refine sub_p8 ?_ | refine sub_p9 ?_ | refine sub_p10 ?_ | refine sub_p11 ?_ | refine sub_p12 ?_ | refine sub_p13 ?_ | refine sub_p14 ?_ | refine sub_p15 ?_ | refine sub_drop ?_))
  have hS := hS.mono fun h hb => rows_file h hLb hb
  have hS := hS.swap
  have hS := rows_cons (e := 9) (sz := 1) (bt := 16) (es := []) (p := (rt, fs.length)) (by show fs.length * 16 ≤ _; omega) ((rows_empty (e := 9) (sz := 1) (bt := 16) hS).swap)
  have hS := rows_cons (e := 71) (sz := 3) (bt := 48) (es := []) (p := (ri, LI.length)) (by show LI.length * 48 ≤ _; omega) ((rows_empty (e := 71) (sz := 3) (bt := 48) (hS.pick 2)).swap)
  have hS : St o w12 (rowsX 5 1 1 es :: rowsX 5 1 1 (LI.map fun p => (p.2, p.1.by_.length)) :: bagP gb (es.map Prod.fst ++ (LI.map toFi).map Prod.snd) ([] ++ [rt]) ([] ++ [ri]) :: rowsX 9 1 16 [(rt, fs.length)] :: rowsX 71 3 48 [(ri, LI.length)] ::
      own 58 1 a fs.length (ds.map Prod.snd) :: satH (ds.map fbi) :: own 9 1 rn fs.length (fs.map nmV) :: own 9 1 t2 fs.length (fs.map nmV) :: own 71 3 ri2 LI2.length (LI2.flatMap fc) :: satH (LI2.map fb) :: DiskM g (dkF n' fs) :: RefM g2 (dkF n' fs) :: [old o]) := by (refine Sh.St.sub ?_ (hS); repeat (first | with_reducible exact sub_refl | with_reducible exact sub_nil | with_reducible refine sub_p0 ?_ | with_reducible refine sub_p1 ?_ | with_reducible refine sub_p2 ?_ | with_reducible refine sub_p3 ?_ | with_reducible refine sub_p4 ?_ | with_reducible refine sub_p5 ?_ | with_reducible refine sub_p6 ?_ | with_reducible refine sub_p7 ?_ | with_reducible refine sub_p8 ?_ | with_reducible refine sub_p9 ?_ | with_reducible refine sub_p10 ?_ | with_reducible refine sub_p11 ?_ | with_reducible refine sub_p12 ?_ | with_reducible refine sub_p13 ?_ | with_reducible refine sub_p14 ?_ | with_reducible refine sub_p15 ?_ | exact sub_refl | refine sub_p0 ?_ | refine sub_p1 ?_ | refine sub_p2 ?_ | refine sub_p3 ?_ | refine sub_p4 ?_ | refine sub_p5 ?_ | refine sub_p6 ?_ | refine sub_p7 ?_ | refine sub_p8 ?_ | refine sub_p9 ?_ | refine sub_p10 ?_ | refine sub_p11 ?_ | refine sub_p12 ?_ | refine sub_p13 ?_ | refine sub_p14 ?_ | refine sub_p15 ?_ | refine sub_drop ?_))
  have hS := (rows_join hS).swap
  have hbm : es.map Prod.fst ++ (LI.map toFi).map Prod.snd = (es ++ LI.map fun p => (p.2, p.1.by_.length)).map Prod.fst := by
    rw [List.map_append, List.map_map, List.map_map]; rfl
  rw [hbm] at hS
  refine (bagApart Z (es0 := es ++ LI.map fun p => (p.2, p.1.by_.length)) (es1 := [(rt, fs.length)]) (es2 := [(ri, LI.length)]) hT (by simp) hS).mono fun r w13 ⟨hr, hS⟩ => ?_
  subst hr
  have hS := hS.drop.drop.drop.drop
  (try simp only [o_not, Bool.not_true, condF])
  refine ⟨fun m y w' => ∃ i : Nat, y = .int .i64 i ∧ m + i = fs.length ∧ St o w' (own 58 1 a fs.length (ds.map Prod.snd) :: satH (ds.map fbi) :: own 9 1 rn fs.length (fs.map nmV) :: own 9 1 t2 fs.length (fs.map nmV) :: own 71 3 ri2 LI2.length (LI2.flatMap fc) :: satH (LI2.map fb) :: DiskM g (dkF n' fs) :: RefM g2 (dkF n' fs) :: [old o]), ⟨fs.length, 0, rfl, rfl, hS⟩, ?_⟩
  clear hS
  rintro m _ w14 ⟨i, rfl, hi, hS⟩ _
  by_cases hlt2 : (i : Int) < (fs.length : Int)
  · have hil : i < fs.length := by omega
    (try simp only [o_add, o_lss, hlt2, decide_true, condT])
    have hff := found_file (n := n') hsrt hnm (List.getElem_mem hil)
    have hni := hnl _ (List.getElem_mem hil)
    obtain ⟨b, q, hp, hc⟩ := (hS.own_rd m2).adr el56 .i64 i hil
    have hgi : (((fs.map nmV).drop (i * 1)).take 1)[0]? = some (nmV fs[i]) := by rw [at_one, List.getElem?_map, List.getElem?_eq_getElem hil]; rfl
    refine r1 (hp _) (r_load one9 (hc w14 (hS.own_rd m2) 0 (nmV fs[i]) hgi) ?_)
    refine (rRead Z fs[i].nm hni (hS.pick 7) hsrt (by show fs.length ≤ _; omega) hbl2).mono fun r w15 hr => ?_
    rcases hr with ⟨hf, _⟩ | ⟨_, v1, rfl, hS⟩
    · exact absurd hff.1 hf
    rw [hff.2] at hS
    (try simp only [o_ext2_1, o_ext2_0])
    have hid : i < ds.length := by omega
    obtain ⟨b2, q2, hp2, hc2⟩ := (hS.own_rd m2).adr el33 .i64 i hil
    have hgi2 : (((ds.map Prod.snd).drop (i * 1)).take 1)[0]? = some ds[i].2 := by rw [at_one, List.getElem?_map, List.getElem?_eq_getElem hid]; rfl
    refine r1 (hp2 _) (r_load one58 (hc2 w15 (hS.own_rd m2) 0 ds[i].2 hgi2) ?_)
    have hdi : ds[i].1.by_ = fs[i].by_ := by
      have h1 : (ds.map (·.1))[i]? = (fs.map Fil.fi)[i]? := by rw [hds]
      rw [List.getElem?_map, List.getElem?_map, List.getElem?_eq_getElem hid, List.getElem?_eq_getElem hil] at h1
      have h2 : ds[i].1 = fs[i].fi := by simpa using h1
      rw [h2]; rfl
    have hy : Rd w15 1 ds[i].2 ds[i].1.by_.length (cb ds[i].1.by_) := by
      have hm : fbi ds[i] ∈ ds.map fbi ++ (own 5 1 v1 fs[i].by_.length (cb fs[i].by_) :: RefM g2 (dkF n' fs) :: own 58 1 a fs.length (ds.map Prod.snd) :: own 9 1 rn fs.length (fs.map nmV) :: own 9 1 t2 fs.length (fs.map nmV) :: own 71 3 ri2 LI2.length (LI2.flatMap fc) :: satH (LI2.map fb) :: DiskM g (dkF n' fs) :: [old o]) := List.mem_append_left _ (List.mem_map_of_mem (List.getElem_mem hid))
      exact (hS.pick 3).all.own_rd hm
    refine (eqBytes Z hy (hS.own_rd m0)).mono fun r w16 ⟨hr, hd⟩ => ?_
    rw [show decide (ds[i].1.by_ = fs[i].by_) = true by rw [hdi]; simp] at hr
    subst hr
    have hS := hS.drew hd
    (try simp only [o_not, Bool.not_true, condF])
    rw [wr_i64 (x := (i : Int) + 1) (by omega) (by omega)]
    refine ⟨m - 1, by omega, i + 1, rfl, by omega, ?_⟩
    have hS := hS.drop
    (refine Sh.St.sub ?_ (hS); repeat (first | with_reducible exact sub_refl | with_reducible exact sub_nil | with_reducible refine sub_p0 ?_ | with_reducible refine sub_p1 ?_ | with_reducible refine sub_p2 ?_ | with_reducible refine sub_p3 ?_ | with_reducible refine sub_p4 ?_ | with_reducible refine sub_p5 ?_ | with_reducible refine sub_p6 ?_ | with_reducible refine sub_p7 ?_ | with_reducible refine sub_p8 ?_ | with_reducible refine sub_p9 ?_ | with_reducible refine sub_p10 ?_ | with_reducible refine sub_p11 ?_ | with_reducible refine sub_p12 ?_ | with_reducible refine sub_p13 ?_ | with_reducible refine sub_p14 ?_ | with_reducible refine sub_p15 ?_ | exact sub_refl | refine sub_p0 ?_ | refine sub_p1 ?_ | refine sub_p2 ?_ | refine sub_p3 ?_ | refine sub_p4 ?_ | refine sub_p5 ?_ | refine sub_p6 ?_ | refine sub_p7 ?_ | refine sub_p8 ?_ | refine sub_p9 ?_ | refine sub_p10 ?_ | refine sub_p11 ?_ | refine sub_p12 ?_ | refine sub_p13 ?_ | refine sub_p14 ?_ | refine sub_p15 ?_ | refine sub_drop ?_))
  · (try simp only [o_add, o_lss, hlt2, decide_false, condF])
    refine (eqTextsT Z (fs := fs) (hS.own_rd m3) (hS.own_rd m2)).mono fun r w15 ⟨hr, hd⟩ => ?_
    subst hr
    have hS := hS.drew hd
    (try simp only [o_pickT, guardW_true])
    refine (rImage Z (hS.pick 7) (by show fs.length ≤ _; omega) hbl2).mono fun r2 w16 ⟨l', hl', hS⟩ => ?_
    have hx2 : RdF w16 ri2 (LI2.map toFi) := own_rdF (v := ri2) (L := LI2) (R := [old o]) (by (refine Sh.St.sub ?_ (hS); repeat (first | with_reducible exact sub_refl | with_reducible exact sub_nil | with_reducible refine sub_p0 ?_ | with_reducible refine sub_p1 ?_ | with_reducible refine sub_p2 ?_ | with_reducible refine sub_p3 ?_ | with_reducible refine sub_p4 ?_ | with_reducible refine sub_p5 ?_ | with_reducible refine sub_p6 ?_ | with_reducible refine sub_p7 ?_ | with_reducible refine sub_p8 ?_ | with_reducible refine sub_p9 ?_ | with_reducible refine sub_p10 ?_ | with_reducible refine sub_p11 ?_ | with_reducible refine sub_p12 ?_ | with_reducible refine sub_p13 ?_ | with_reducible refine sub_p14 ?_ | with_reducible refine sub_p15 ?_ | exact sub_refl | refine sub_p0 ?_ | refine sub_p1 ?_ | refine sub_p2 ?_ | refine sub_p3 ?_ | refine sub_p4 ?_ | refine sub_p5 ?_ | refine sub_p6 ?_ | refine sub_p7 ?_ | refine sub_p8 ?_ | refine sub_p9 ?_ | refine sub_p10 ?_ | refine sub_p11 ?_ | refine sub_p12 ?_ | refine sub_p13 ?_ | refine sub_p14 ?_ | refine sub_p15 ?_ | refine sub_drop ?_)))
    refine (eqFiles Z hx2 (own_rdI hS) (by rw [fi_map, hLI2, hl']; rfl)).mono fun r3 w17 ⟨hr, hd⟩ => ?_
    subst hr
    have hS := hS.drew hd
    (try simp only [o_pickT, guardW_true])
    refine (alike Z (o := o) (w := w17) (g := g) (g2 := g2) (d := dkF n' fs) (R := [old o]) hok (by (refine Sh.St.sub ?_ (hS); repeat (first | with_reducible exact sub_refl | with_reducible exact sub_nil | with_reducible refine sub_p0 ?_ | with_reducible refine sub_p1 ?_ | with_reducible refine sub_p2 ?_ | with_reducible refine sub_p3 ?_ | with_reducible refine sub_p4 ?_ | with_reducible refine sub_p5 ?_ | with_reducible refine sub_p6 ?_ | with_reducible refine sub_p7 ?_ | with_reducible refine sub_p8 ?_ | with_reducible refine sub_p9 ?_ | with_reducible refine sub_p10 ?_ | with_reducible refine sub_p11 ?_ | with_reducible refine sub_p12 ?_ | with_reducible refine sub_p13 ?_ | with_reducible refine sub_p14 ?_ | with_reducible refine sub_p15 ?_ | exact sub_refl | refine sub_p0 ?_ | refine sub_p1 ?_ | refine sub_p2 ?_ | refine sub_p3 ?_ | refine sub_p4 ?_ | refine sub_p5 ?_ | refine sub_p6 ?_ | refine sub_p7 ?_ | refine sub_p8 ?_ | refine sub_p9 ?_ | refine sub_p10 ?_ | refine sub_p11 ?_ | refine sub_p12 ?_ | refine sub_p13 ?_ | refine sub_p14 ?_ | refine sub_p15 ?_ | refine sub_drop ?_)))).mono fun r4 w18 ⟨hr, hS⟩ => ?_
    subst hr
    (try simp only [])
    exact ⟨by first | rfl | trivial, hS⟩
end
end Go.Proofs.YtcbbaiglcgemmaaGreatDoor
