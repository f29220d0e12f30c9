
/- Files copied, compared; the document's disk: Names, found, Read, Image. -/
import Derived.Test.YtcbbaiglcgemmaaGreatDoorR2
set_option linter.unusedVariables false
set_option linter.unusedSimpArgs false
namespace Go.Proofs.YtcbbaiglcgemmaaGreatDoor
open Go.Sh
def fbi (p : Fi × Value) : HProp := own 5 1 p.2 p.1.by_.length (cb p.1.by_)
section
variable {o w : World} {R As : List HProp}
theorem own_rdI {v : Value} {l : List (Fi × Value)} (h : St o w (own 71 3 v l.length (l.flatMap fic) :: satH (l.map fbi) :: R)) : RdF w v l := by
  refine ⟨h.own_rd m0, fun p hp => ?_⟩
  have hm : fbi p ∈ l.map fbi ++ R := List.mem_append_left _ (List.mem_map_of_mem hp)
  exact h.drop.all.own_rd hm
theorem fi_map (L : List (Fil × Value)) : (L.map toFi).map (·.1) = (L.map (·.1)).map Fil.fi := by
  rw [List.map_map, List.map_map]; rfl
end
section
variable (Z : List PanicEntry → World → Prop) {o w : World} {R As : List HProp} {g u : Nat} {d : Dk} {v : Value} {L : List (Fil × Value)}
theorem copyFiles {x : Value} {l : List (Fi × Value)} (h : St o w R) (hx : Ent o R fun w => RdF w x l) (hl : l.length ≤ 1000000000) (hb : ∀ p ∈ l, p.1.by_.length ≤ 140737488355328) :
    CallV Tryz.prog Z 61 #[x] w fun r w' => ∃ l' : List (Fi × Value), l'.map (·.1) = l.map (·.1) ∧ St o w' (own 71 3 r l'.length (l'.flatMap fic) :: satH (l'.map fbi) :: R) := by
  obtain ⟨xa, xc, hxf⟩ := (hx w h).1.form
  refine f61.calls ?_
  unfold f61.sh
  refine ⟨fun m a y w' => ∃ (i : Nat) (l' : List (Fi × Value)), y = .int .i64 i ∧ m + i = l.length ∧ l'.map (·.1) = (l.take i).map (·.1) ∧ St o w' (own 71 3 a i (l'.flatMap fic) :: satH (l'.map fbi) :: R), ⟨l.length, 0, [], rfl, rfl, rfl, (St.all_intro (As := []) h).own_nil 71 3⟩, ?_⟩
  clear h
  rintro m a _ w2 ⟨i, l', rfl, hi, hl', hS⟩ _
  have hl2 : l'.length = i := by have := congrArg List.length hl'; simp only [List.length_map, List.length_take] at this; omega
  rw [hxf]
  by_cases hlt : (i : Int) < (l.length : Int)
  · have hil : i < l.length := by omega
    (try simp only [o_add, ln_22_3, o_lss, hlt, decide_true, condT])
    rw [← hxf]
    obtain ⟨b, q, hp', hc⟩ := (hx w2 hS.drop.drop).ix i hil
    have hfo := (hx w2 hS.drop.drop).one hil
    refine r1 (hp' _) (r_loadN ag71 (xs := fic l[i]) rfl (fun j u hu => by rw [add_addr]; exact hc w2 (hx w2 hS.drop.drop) j u hu) ?_)
    refine r_alloc hS ze71 fun g2 w3 hS => ?_
    refine r_storeN hS ag71 (xs := fic l[i]) rfl (by simp [Value.cells]) hfo fun w4 hS => ?_
    rw [setL_all _ _ (by simp [Value.cells, fic])] at hS
    (try simp only [fa_71_1, Nat.zero_add])
    refine r_load one58 (hS.at m0 1 rfl) ?_
    refine (copyBytes Z (l := l[i].1.by_) hS (fun w hS => (hx w hS.drop.drop.drop).2 l[i] (List.getElem_mem hil)) (hb _ (List.getElem_mem hil))).mono fun r w6 hS => ?_
    have hro : r.oneCell' = true := by obtain ⟨_, _, e⟩ := hS.own_form; rw [e]; rfl
    skip
    refine r_store (hS.pick 1) one58 (by simp [fic]) hro fun w7 hS => ?_
    have hS : St o w7 (blk g2 71 (fic (l[i].1, r)) :: own 5 1 r l[i].1.by_.length (cb l[i].1.by_) :: own 71 3 a i (l'.flatMap fic) :: satH (l'.map fbi) :: R) := hS
    have hqo : ones (fic (l[i].1, r)) := by
      intro u hu
      simp only [fic, List.mem_cons, List.not_mem_nil, or_false] at hu
      rcases hu with rfl | rfl | rfl
      · rfl
      · exact hro
      · rfl
    refine r_loadN ag71 (xs := fic (l[i].1, r)) rfl (fun j u hu => by rw [add_addr, Nat.zero_add]; exact hS.at m0 j hu) ?_
    refine r_pushN el22 (hS.pick 2) (fic (l[i].1, r)) rfl hqo (by omega) (by omega) (by simp only [maxLen]; omega) fun v' w8 hS => ?_
    skip
    rw [wr_i64 (x := (i : Int) + 1) (by omega) (by omega)]
    refine ⟨m - 1, by omega, i + 1, l' ++ [(l[i].1, r)], rfl, by omega, by rw [List.map_append, hl', List.take_succ_eq_append_getElem hil, List.map_append]; rfl, ?_⟩
    rw [List.flatMap_append, List.map_append]
    have e2 : [(l[i].1, r)].flatMap fic = fic (l[i].1, r) := by simp
    rw [e2]
    have hS2 : St o w8 (satH (l'.map fbi) :: fbi (l[i].1, r) :: own 71 3 v' (i + 1) (l'.flatMap fic ++ fic (l[i].1, r)) :: R) := by
      have : St o w8 (own 71 3 v' (i + 1) (l'.flatMap fic ++ fic (l[i].1, r)) :: _ :: fbi (l[i].1, r) :: satH (l'.map fbi) :: R) := hS
      (refine Sh.St.sub ?_ (this); repeat (first | with_reducible exact sub_refl | with_reducible exact sub_nil | with_reducible refine sub_p0 ?_ | with_reducible refine sub_p1 ?_ | with_reducible refine sub_p2 ?_ | with_reducible refine sub_p3 ?_ | with_reducible refine sub_p4 ?_ | with_reducible refine sub_p5 ?_ | with_reducible refine sub_p6 ?_ | with_reducible refine sub_p7 ?_ | with_reducible refine sub_p8 ?_ | with_reducible refine sub_p9 ?_ | with_reducible refine sub_p10 ?_ | with_reducible refine sub_p11 ?_ | with_reducible refine sub_p12 ?_ | with_reducible refine sub_p13 ?_ | with_reducible refine sub_p14 ?_ | with_reducible refine sub_p15 ?_ | exact sub_refl | refine sub_p0 ?_ | refine sub_p1 ?_ | refine sub_p2 ?_ | refine sub_p3 ?_ | refine sub_p4 ?_ | refine sub_p5 ?_ | refine sub_p6 ?_ | refine sub_p7 ?_ | refine sub_p8 ?_ | refine sub_p9 ?_ | refine sub_p10 ?_ | refine sub_p11 ?_ | refine sub_p12 ?_ | refine sub_p13 ?_ | refine sub_p14 ?_ | refine sub_p15 ?_ | refine sub_drop ?_))
    exact hS2.all_snoc.swap
  · obtain rfl : i = l.length := by omega
    rw [List.take_length] at hl'
    (try simp only [o_add, ln_22_3, o_lss, hlt, decide_false, condF])
    refine ⟨l', hl', ?_⟩
    rw [hl2]
    exact hS
theorem eqFiles {x y : Value} {l k : List (Fi × Value)} (hx : RdF w x l) (hy : RdF w y k) (he : l.map (·.1) = k.map (·.1)) : CallV Tryz.prog Z 19 #[x, y] w fun r w' => r = .bool true ∧ Drew w w' := by
  obtain ⟨xa, xc, hxf⟩ := hx.1.form
  obtain ⟨ya, yc, hyf⟩ := hy.1.form
  have hlx := hx.1.2.1
  simp only [maxLen] at hlx
  have hlen : l.length = k.length := by have := congrArg List.length he; simpa using this
  refine f19.calls ?_
  unfold f19.sh
  rw [hlen] at hxf
  rw [hxf, hyf]
  have e0 : (((k.length : Nat) : Int) != ((k.length : Nat) : Int)) = false := by simp
  (try simp only [ln_22_3, o_neq, e0, condF])
  rw [← hxf, ← hyf]
  refine ⟨fun m y w' => ∃ i : Nat, y = .int .i64 i ∧ m + i = k.length ∧ Drew w w', ⟨k.length, 0, rfl, rfl, Drew.refl _⟩, ?_⟩
  rintro m _ w1 ⟨i, rfl, hi, hd⟩ _
  have hx1 := hx.drew hd
  have hy1 := hy.drew hd
  by_cases hlt : (i : Int) < (k.length : Int)
  · have hil : i < l.length := by omega
    have hik : i < k.length := by omega
    rw [hxf]
    (try simp only [o_add, o_lss, hlt, decide_true, condT])
    rw [← hxf]
    have hei : l[i].1 = k[i].1 := by
      have h1 : (l.map (·.1))[i]? = (k.map (·.1))[i]? := by rw [he]
      rw [List.getElem?_map, List.getElem?_map, List.getElem?_eq_getElem hil, List.getElem?_eq_getElem hik] at h1
      simpa using h1
    refine ⟨fun w2 hd2 => ?_⟩
    have hx2 := hx1.drew hd2
    have hy2 := hy1.drew hd2
    obtain ⟨b, q, hp, hc⟩ := hx2.ix i hil
    obtain ⟨b', q', hp', hc'⟩ := hy2.ix i hik
    refine rp hp ?_
    (try simp only [fa_71_0p, Nat.add_zero])
    refine rr_load one9 (hc w2 hx2 0 _ rfl) (rp hp' ?_)
    (try simp only [fa_71_0p, Nat.add_zero])
    refine rr_load one9 (hc' w2 hy2 0 _ rfl) (rp (fun w => run_neq_str _ _ _ _ _ w) ?_)
    have e1 : (!((str l[i].1.nm).toList == (str k[i].1.nm).toList)) = false := by rw [hei]; simp
    rw [e1]
    (try simp only [still_ff, o_pickFp, guardV_ff])
    refine rp hp ?_
    (try simp only [fa_71_2p])
    refine rr_load one3 (hc w2 hx2 2 _ rfl) (rp hp' ?_)
    (try simp only [fa_71_2p])
    refine rr_load one3 (hc' w2 hy2 2 _ rfl) ?_
    have e2 : (l[i].1.sy != k[i].1.sy) = false := by rw [hei]; simp
    (try simp only [o_neqp, e2, o_pickFp, guardV_ff, guardW_ff])
    refine rp hp ?_
    (try simp only [fa_71_1p])
    refine rr_load one58 (hc w2 hx2 1 _ rfl) (rp hp' ?_)
    (try simp only [fa_71_1p])
    refine rr_load one58 (hc' w2 hy2 1 _ rfl) ?_
    refine (eqBytes Z (hx2.2 l[i] (List.getElem_mem hil)) (hy2.2 k[i] (List.getElem_mem hik))).mono fun r w3 ⟨hr, hd3⟩ => ?_
    rw [show decide (l[i].1.by_ = k[i].1.by_) = true by rw [hei]; simp] at hr
    subst hr
    have hx3 := hx2.drew hd3
    have hy3 := hy2.drew hd3
    refine rs_load one3 (hc' w3 hy3 2 _ rfl) (rs_load one3 (hc w3 hx3 2 _ rfl) (rs_load one9 (hc' w3 hy3 0 _ rfl) (rs_load one9 (hc w3 hx3 0 _ rfl) ?_)))
    (try simp only [o_notp, Bool.not_true, condF])
    rw [wr_i64 (x := (i : Int) + 1) (by omega) (by omega)]
    exact ⟨m - 1, by omega, i + 1, rfl, by omega, (hd.trans hd2).trans hd3⟩
  · obtain rfl : i = k.length := by omega
    rw [hxf]
    (try simp only [o_add, o_lss, hlt, decide_false, condF])
    exact ⟨by first | rfl | trivial, hd⟩
theorem eqTextsT {x y : Value} {fs : List Fil} (hx : Rd w 1 x fs.length (fs.map nmV)) (hy : Rd w 1 y fs.length (fs.map nmV)) : CallV Tryz.prog Z 18 #[x, y] w fun r w' => r = .bool true ∧ Drew w w' := by
  obtain ⟨xa, xc, hxf⟩ := hx.form
  obtain ⟨ya, yc, hyf⟩ := hy.form
  have hlx := hx.2.1
  simp only [maxLen] at hlx
  refine f18.calls ?_
  unfold f18.sh
  rw [hxf, hyf]
  have e0 : (((fs.length : Nat) : Int) != ((fs.length : Nat) : Int)) = false := by simp
  (try simp only [ln_56_3, o_neq, e0, condF])
  rw [← hxf, ← hyf]
  refine ⟨fun m y w' => ∃ i : Nat, y = .int .i64 i ∧ m + i = fs.length ∧ Drew w w', ⟨fs.length, 0, rfl, rfl, Drew.refl _⟩, ?_⟩
  rintro m _ w1 ⟨i, rfl, hi, hd⟩ _
  by_cases hlt : (i : Int) < (fs.length : Int)
  · have hil : i < fs.length := by omega
    rw [hxf]
    (try simp only [o_add, o_lss, hlt, decide_true, condT])
    rw [← hxf]
    refine ⟨fun w2 hd2 => ?_⟩
    obtain ⟨b, q, hp, hc⟩ := (hx.drew (hd.trans hd2)).adr el56 .i64 i hil
    obtain ⟨b', q', hp', hc'⟩ := (hy.drew (hd.trans hd2)).adr el56 .i64 i hil
    have hcx := hc w2 (hx.drew (hd.trans hd2)) 0 (nmV fs[i]) (by rw [at_one, List.getElem?_map, List.getElem?_eq_getElem hil]; rfl)
    have hcy := hc' w2 (hy.drew (hd.trans hd2)) 0 (nmV fs[i]) (by rw [at_one, List.getElem?_map, List.getElem?_eq_getElem hil]; rfl)
    refine rp hp (rr_load one9 hcx (rp hp' (rr_load one9 hcy (rp (fun w => run_neq_str _ _ _ _ _ w) ?_))))
    have e1 : (!((str fs[i].nm).toList == (str fs[i].nm).toList)) = false := by simp
    rw [e1]
    (try simp only [condF])
    rw [wr_i64 (x := (i : Int) + 1) (by omega) (by omega)]
    exact ⟨m - 1, by omega, i + 1, rfl, by omega, hd.trans hd2⟩
  · obtain rfl : i = fs.length := by omega
    rw [hxf]
    (try simp only [o_add, o_lss, hlt, decide_false, condF])
    exact ⟨by first | rfl | trivial, hd⟩
theorem rNames (h : St o w (RefM g d :: R)) (hl : d.fs.length ≤ 1000000) : CallV Tryz.prog Z 8 #[.pointer (some ⟨g, 0, none⟩)] w fun r w' => St o w' (own 9 1 r d.fs.length (d.fs.map nmV) :: RefM g d :: R) := by
  obtain ⟨v, L, hL, hS⟩ := RefM.open h
  have hlen : L.length = d.fs.length := by rw [← hL, List.length_map]
  obtain ⟨va, vc, hvf⟩ := Fls.form hS m1
  refine f8.calls ?_
  unfold f8.sh
  refine ⟨fun m a y w' => ∃ i : Nat, y = .int .i64 i ∧ m + i = L.length ∧ St o w' (own 9 1 a i ((L.take i).map fun p => nmV p.1) :: blk g 87 (rcells v d) :: Fls v L :: satH (L.map fb) :: R), ⟨L.length, 0, rfl, rfl, hS.own_nil 9 1⟩, ?_⟩
  clear hS
  rintro m a _ w2 ⟨i, rfl, hi, hS⟩ _
  (try simp only [o_add, o_chk, fa_87_1, Nat.zero_add])
  refine r_load one22 (hS.at m1 1 rfl) ?_
  rw [hvf]
  by_cases hlt : (i : Int) < (L.length : Int)
  · have hil : i < L.length := by omega
    (try simp only [ln_22_3, o_lss, hlt, decide_true, condT])
    rw [← hvf]
    refine r_load one22 (hS.at m1 1 rfl) ?_
    obtain ⟨b, q, hp', hc⟩ := Fls.ix hS m2 i hil
    refine r1 (hp' _) ?_
    (try simp only [fa_71_0, Nat.add_zero])
    refine r_load one9 (hc w2 _ hS m2 0 _ rfl) ?_
    refine r_push el56 hS (.string (str L[i].1.nm)) rfl (by omega) (by simp only [maxLen]; omega) fun v' w5 hS => ?_
    skip
    rw [wr_i64 (x := (i : Int) + 1) (by omega) (by omega)]
    refine ⟨m - 1, by omega, i + 1, rfl, by omega, ?_⟩
    rw [List.take_succ_eq_append_getElem hil, List.map_append]
    exact hS
  · obtain rfl : i = L.length := by omega
    rw [List.take_length] at hS
    (try simp only [ln_22_3, o_lss, hlt, decide_false, condF])
    rw [← hvf] at *
    have e : (L.map fun p => nmV p.1) = d.fs.map nmV := by rw [← hL, List.map_map]; rfl
    rw [e, hlen] at hS
    exact (RefM.shut hL (hS.put 3)).swap
theorem rImage (h : St o w (RefM g d :: R)) (hl : d.fs.length ≤ 1000000) (hb : ∀ f ∈ d.fs, f.by_.length ≤ 140737488355328) : CallV Tryz.prog Z 20 #[.pointer (some ⟨g, 0, none⟩)] w fun r w' => ∃ l' : List (Fi × Value), l'.map (·.1) = d.fs.map Fil.fi ∧ St o w' (own 71 3 r l'.length (l'.flatMap fic) :: satH (l'.map fbi) :: RefM g d :: R) := by
  obtain ⟨v, L, hL, hS⟩ := RefM.open h
  have hlen : L.length = d.fs.length := by rw [← hL, List.length_map]
  refine f20.calls ?_
  unfold f20.sh
  (try simp only [o_chk, fa_87_1, Nat.zero_add])
  refine r_load one22 (hS.at m0 1 rfl) ?_
  refine (copyFiles Z (l := L.map toFi) hS (fun w hS => own_rdF hS.drop) (by rw [List.length_map]; omega) (fun p hp => ?_)).mono fun r w1 ⟨l', hl', hS⟩ => ?_
  · obtain ⟨q, hq, rfl⟩ := List.mem_map.1 hp
    exact hb q.1 (by rw [← hL]; exact List.mem_map_of_mem hq)
  rw [fi_map, hL] at hl'
  exact ⟨l', hl', (RefM.shut hL ((hS.put 4).put 4)).put 2⟩
theorem rFound (n : Bs) (hn : n.length ≤ 1000000000000) (h : St o w (blk g 87 (rcells v d) :: Fls v L :: R)) (hL : L.map (·.1) = d.fs) (hs : Srt d.fs) (hl : L.length ≤ 1000000) : CallV Tryz.prog Z 60 #[.pointer (some ⟨g, 0, none⟩), .string (str n)] w fun r w' =>
    (d.found n ≠ 0 ∧ r = .tuple #[.int .i64 0, .int .i64 (d.found n)] ∨ d.found n = 0 ∧ r = .tuple #[.int .i64 (ix d.fs n), .int .i64 0]) ∧ w' = w := by
  refine f60.calls ?_
  unfold f60.sh
  (try simp only [o_chk, fa_87_2, Nat.zero_add])
  refine r_load one4 (h.at m0 2 rfl) ?_
  cases hon : d.on with
  | false =>
    have e : d.found n = 23 := by unfold Dk.found Dk.asked; simp [hon]
    (try simp only [o_not, Bool.not_false, condT])
    rw [e]
    exact ⟨.inl ⟨by decide, by first | rfl | trivial⟩, by first | rfl | trivial⟩
  | true =>
    (try simp only [o_not, Bool.not_true, condF])
    refine (rName Z n (by omega)).mono fun r w1 ⟨hr, hw⟩ => ?_
    subst hr; subst hw
    cases hnm : nameOk n with
    | false =>
      have e : d.found n = 22 := by unfold Dk.found Dk.asked; simp [hon, hnm]
      (try simp only [o_not, Bool.not_false, condT])
      rw [e]
      exact ⟨.inl ⟨by decide, by first | rfl | trivial⟩, by first | rfl | trivial⟩
    | true =>
      (try simp only [o_not, Bool.not_true, condF])
      refine (rAt Z n h hl (by rw [hL]; exact hs)).mono fun r w2 ⟨hr, hw⟩ => ?_
      rw [hL] at hr
      subst hr; subst hw
      cases hat : isAt d.fs n with
      | false =>
        have e : d.found n = 20 := by unfold Dk.found Dk.asked; simp [hon, hnm, hat]
        rw [if_neg Bool.false_ne_true]
        have e1 : (-1 : Int) < 0 := by decide
        (try simp only [o_lss, e1, decide_true, condT])
        rw [e]
        exact ⟨.inl ⟨by decide, by first | rfl | trivial⟩, by first | rfl | trivial⟩
      | true =>
        have e : d.found n = 0 := by unfold Dk.found Dk.asked; simp [hon, hnm, hat]
        rw [if_pos rfl]
        have e1 : ¬ ((ix d.fs n : Nat) : Int) < 0 := by omega
        (try simp only [o_lss, e1, decide_false, condF])
        exact ⟨.inr ⟨e, by first | rfl | trivial⟩, by first | rfl | trivial⟩
theorem rRead (n : Bs) (hn : n.length ≤ 1000000000000) (h : St o w (RefM g d :: R)) (hs : Srt d.fs) (hl : d.fs.length ≤ 1000000) (hb : ∀ f ∈ d.fs, f.by_.length ≤ 140737488355328) : CallV Tryz.prog Z 16 #[.pointer (some ⟨g, 0, none⟩), .string (str n)] w fun r w' =>
    (d.found n ≠ 0 ∧ r = .tuple #[.slice none 0 0, .int .i64 (d.found n)] ∧ St o w' (RefM g d :: R)) ∨ (d.found n = 0 ∧ ∃ v, r = .tuple #[v, .int .i64 0] ∧ St o w' (own 5 1 v (d.bytes n).length (cb (d.bytes n)) :: RefM g d :: R)) := by
  obtain ⟨v, L, hL, hS⟩ := RefM.open h
  have hlen : L.length = d.fs.length := by rw [← hL, List.length_map]
  have z0 : ((0 : Int) != 0) = false := rfl
  refine f16.calls ?_
  unfold f16.sh
  refine (rFound Z n hn hS hL hs (by omega)).mono fun r w1 ⟨hr, hw⟩ => ?_
  subst hw
  rcases hr with ⟨hf, rfl⟩ | ⟨hf, rfl⟩
  · have e1 : (d.found n != 0) = true := bne_iff_ne.2 hf
    (try simp only [o_chk, fa_87_1, Nat.zero_add, o_ext2_1, o_neq, e1, condT, o_ext2_0])
    exact .inl ⟨hf, by first | rfl | trivial, RefM.shut hL hS⟩
  (try simp only [o_chk, fa_87_1, Nat.zero_add, o_ext2_1, o_neq, z0, condF, o_ext2_0])
  obtain ⟨hi0, hn0⟩ := isAt_some (found_ok hf).2
  have hi : ix d.fs n < L.length := by omega
  have hfi : L[ix d.fs n].1 = d.fs[ix d.fs n] := by simp only [← hL, List.getElem_map]
  have hbe : d.bytes n = L[ix d.fs n].1.by_ := by unfold Dk.bytes; rw [List.getElem?_eq_getElem hi0, hfi]; rfl
  refine r_load one22 (hS.at m0 1 rfl) ?_
  obtain ⟨b, q, hp', hc⟩ := Fls.ix hS m1 (ix d.fs n) hi
  refine r1 (hp' _) ?_
  (try simp only [fa_71_1])
  refine r_load one58 (hc w1 _ hS m1 1 _ rfl) ?_
  refine (copyBytes Z (l := L[ix d.fs n].1.by_) hS (fun w hS => fb_rd hS.drop.drop _ hi) (hb _ (by rw [hfi]; exact List.getElem_mem hi0))).mono fun r w2 hS => ?_
  refine .inr ⟨hf, r, by first | rfl | trivial, ?_⟩
  rw [hbe]
  exact (RefM.shut hL (hS.put 3)).swap
end
end Go.Proofs.YtcbbaiglcgemmaaGreatDoor
