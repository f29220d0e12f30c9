
/- The document's disk: with; New, From. -/
import Derived.Test.YtcbbaiglcgemmaaGreatDoorR1
set_option linter.unusedVariables false
set_option linter.unusedSimpArgs false
namespace Go.Proofs.YtcbbaiglcgemmaaGreatDoor
open Go.Sh
theorem toFi_sum (L : List (Fil × Value)) : ((L.map toFi).map fun p => p.1.by_.length).sum = total (L.map (·.1)) := by
  unfold total
  rw [List.map_map, List.map_map]; rfl
def kOf (L : List (Fil × Value)) (q : Fil × Value) : Nat := ix (L.map (·.1)) q.1.nm
def insL (L : List (Fil × Value)) (q : Fil × Value) : List (Fil × Value) := L.take (kOf L q) ++ q :: L.drop (kOf L q)
theorem kOf_le (L : List (Fil × Value)) (q : Fil × Value) : kOf L q ≤ L.length := by have := ix_le (L.map (·.1)) q.1.nm; rw [List.length_map] at this; exact this
theorem insL_map (L : List (Fil × Value)) (q : Fil × Value) : (insL L q).map (·.1) = insF (L.map (·.1)) q.1 := by
  unfold insL insF kOf
  rw [List.map_append, List.map_cons, List.map_take, List.map_drop]
theorem insL_len (L : List (Fil × Value)) (q : Fil × Value) : (insL L q).length = L.length + 1 := by
  have := kOf_le L q
  unfold insL
  rw [List.length_append, List.length_cons, List.length_take, List.length_drop]; omega
theorem insL_at (L : List (Fil × Value)) (q : Fil × Value) : (insL L q)[kOf L q]? = some q := by
  have := kOf_le L q
  unfold insL
  rw [List.getElem?_append_right (by rw [List.length_take]; omega), List.length_take, Nat.min_eq_left this, Nat.sub_self]
  rfl
theorem insL_get {L : List (Fil × Value)} {q : Fil × Value} {i : Nat} (hi : i < L.length) : (insL L q)[if kOf L q < i + 1 then i + 1 else i]? = some L[i] := by
  have := kOf_le L q
  split
  · unfold insL
    rw [List.getElem?_append_right (by rw [List.length_take]; omega), List.length_take, Nat.min_eq_left this, show i + 1 - kOf L q = (i - kOf L q) + 1 by omega, List.getElem?_cons_succ, List.getElem?_drop, show kOf L q + (i - kOf L q) = i by omega]
    exact List.getElem?_eq_getElem hi
  · unfold insL
    rw [List.getElem?_append_left (by rw [List.length_take]; omega), List.getElem?_take, if_pos (by omega)]
    exact List.getElem?_eq_getElem hi
theorem insL_succ {L : List (Fil × Value)} {q p : Fil × Value} {n : Nat} (h : (insL L q)[n]? = some p) : ((insL L q).take (n + 1)).flatMap fc = ((insL L q).take n).flatMap fc ++ fc p := by
  rw [List.take_add_one, h, List.flatMap_append]
  simp
section
variable (Z : List PanicEntry → World → Prop) {o w : World} {R As : List HProp} {g u : Nat} {d : Dk} {v : Value} {L : List (Fil × Value)}
theorem rWith {q : Fil × Value} (h : St o w (Fls v L :: R)) (hqo : ones (fc q)) (hone : ∀ p ∈ L, p.2.oneCell' = true) (hs : Srt (L.map (·.1))) (hn : isAt (L.map (·.1)) q.1.nm = false) (hl : L.length ≤ 1000000) :
    CallV Tryz.prog Z 30 #[v, .agg (fc q).toArray] w fun r w' => St o w' (Fls r (insL L q) :: Fls v L :: R) := by
  obtain ⟨va, vc, hvf⟩ := Fls.form h m0
  have hlone : ∀ i (hi : i < L.length), ones (fc L[i]) := fun i hi u hu => fc_ones hone u (List.mem_flatMap.2 ⟨L[i], List.getElem_mem hi, hu⟩)
  have hk := kOf_le L q
  have hil := insL_len L q
  have hlo : ∀ j (hj : j < L.length), j < kOf L q → blt L[j].1.nm q.1.nm = true := fun j hj hjk => by
    have := ix_lt (L.map (·.1)) q.1.nm j (by simpa using hj) (by unfold kOf at hjk; exact hjk)
    simpa using this
  have hat : ∀ (hj : kOf L q < L.length), blt q.1.nm L[kOf L q].1.nm = true := fun hj => by
    have h1 := ix_ge (L.map (·.1)) q.1.nm (by rw [List.length_map]; exact hj)
    have h2 : (L.map (·.1))[ix (L.map (·.1)) q.1.nm]'(by rw [List.length_map]; exact hj) = L[kOf L q].1 := by rw [List.getElem_map]; rfl
    rw [h2] at h1
    cases hb : blt q.1.nm L[kOf L q].1.nm with
    | true => rfl
    | false =>
      have e := blt_tri h1 hb
      have : isAt (L.map (·.1)) q.1.nm = true := (isAt_iff hs _).2 ⟨L[kOf L q].1, List.mem_map_of_mem (List.getElem_mem hj), e⟩
      rw [hn] at this; cases this
  refine f30.calls ?_
  unfold f30.sh
  refine r_box _ _ h fun g w1 hS => ?_
  have hS : St o w1 (blk g 71 (fc q) :: Fls v L :: R) := hS
  refine ⟨fun m a b y w' => ∃ (i : Nat), y = .int .i64 i ∧ m + i = L.length ∧ b = .bool (decide (kOf L q < i)) ∧ St o w' (own 71 3 a (if kOf L q < i then i + 1 else i) (((insL L q).take (if kOf L q < i then i + 1 else i)).flatMap fc) :: blk g 71 (fc q) :: Fls v L :: R),
    ⟨L.length, 0, rfl, rfl, rfl, hS.own_nil _ _⟩, ?_⟩
  clear hS
  rintro m a _ _ w2 ⟨i, rfl, hi, rfl, hS⟩ _
  by_cases hlt : (i : Int) < (L.length : Int)
  · have hil2 : i < L.length := by omega
    rw [hvf]
    (try simp only [o_add, fa_71_0p, Nat.add_zero, o_notp, o_not, cond_not, cond_decide, ln_22_3, o_lss, hlt, decide_true, condT])
    rw [← hvf]
    intro j8 h8 j12 h12
    have H8 : ∀ r w', St o w' (own 71 3 r (if kOf L q < i + 1 then i + 1 + 1 else i + 1) (((insL L q).take (if kOf L q < i + 1 then i + 1 + 1 else i + 1)).flatMap fc) :: blk g 71 (fc q) :: Fls v L :: R) → j8 r (.bool (decide (kOf L q < i + 1))) w' := fun r w' hS => by
      refine h8 _ _ _ fun _ => ?_
      rw [wr_i64 (x := (i : Int) + 1) (by omega) (by omega)]
      exact ⟨m - 1, by omega, i + 1, rfl, by omega, rfl, hS⟩
    clear h8
    have H12 : ∀ a w', St o w' (own 71 3 a (if kOf L q < i + 1 then i + 1 else i) (((insL L q).take (if kOf L q < i + 1 then i + 1 else i)).flatMap fc) :: blk g 71 (fc q) :: Fls v L :: R) → j12 a (.bool (decide (kOf L q < i + 1))) w' := fun a w' hS => by
      refine h12 _ _ _ fun _ => ?_
      obtain ⟨b, p, hp, hc⟩ := Fls.ix hS m2 i hil2
      refine r1 (hp _) (r_loadN ag71 (xs := fc L[i]) rfl (fun j u hu => by rw [add_addr]; exact hc w' _ hS m2 j u hu) ?_)
      have hle : (if kOf L q < i + 1 then i + 1 else i) ≤ i + 1 := by split <;> omega
      refine r_pushN el22 hS (fc L[i]) rfl (hlone i hil2) (by omega) (by omega) (by simp only [maxLen]; omega) fun v' w3 hS => ?_
      rw [← insL_succ (insL_get hil2)] at hS
      refine H8 v' w3 ?_
      have e : (if kOf L q < i + 1 then i + 1 + 1 else i + 1) = (if kOf L q < i + 1 then i + 1 else i) + 1 := by split <;> rfl
      rw [e]
      exact hS
    clear H8 h12
    refine ⟨fun w3 hd => ?_⟩
    have hS := hS.drew hd
    by_cases hp : kOf L q < i
    · have hp1 : kOf L q < i + 1 := by omega
      (try simp only [hp, decide_true, Bool.not_true, o_pickFp, condF, guardV_ft])
      have h12 := H12 a w3
      rw [if_pos hp1, decide_eq_true hp1] at h12
      rw [if_pos hp] at hS
      exact h12 hS
    · (try simp only [hp, decide_false, Bool.not_false, o_pickTp, guardV_true])
      rw [if_neg hp] at hS
      refine rr_load one9 (hS.at m1 0 rfl) ?_
      obtain ⟨b, p, hpi, hc⟩ := Fls.ix hS m2 i hil2
      refine rp hpi ?_
      (try simp only [fa_71_0p, Nat.add_zero])
      refine rr_load one9 (hc w3 _ hS m2 0 _ rfl) (rp (fun w => run_lss_strS _ _ _ w) ?_)
      by_cases hik : kOf L q = i
      · have hp1 : kOf L q < i + 1 := by omega
        have hb : Op.bytesLess q.1.nm L[i].1.nm = true := by have := hat (by omega); simp only [hik] at this; exact this
        rw [hb]
        (try simp only [condT])
        refine r_loadN ag71 (xs := fc q) rfl (fun j u hu => by rw [add_addr, Nat.zero_add]; exact hS.at m1 j hu) ?_
        refine r_pushN el22 hS (fc q) rfl hqo (by omega) (by omega) (by simp only [maxLen]; omega) fun v' w4 hS => ?_
        rw [← insL_succ (by rw [← hik]; exact insL_at L q)] at hS
        have h12 := H12 v' w4
        rw [if_pos hp1, decide_eq_true hp1] at h12
        exact h12 hS
      · have hp1 : ¬ kOf L q < i + 1 := by omega
        have hb : Op.bytesLess q.1.nm L[i].1.nm = false := blt_asymm (hlo i hil2 (by omega))
        rw [hb]
        (try simp only [condF])
        have h12 := H12 a w3
        rw [if_neg hp1, decide_eq_false hp1] at h12
        exact h12 hS
  · obtain rfl : i = L.length := by omega
    rw [hvf]
    (try simp only [o_add, fa_71_0p, Nat.add_zero, o_notp, o_not, cond_not, cond_decide, ln_22_3, o_lss, hlt, decide_false, condF])
    rw [← hvf]
    intro j32 h32
    have H32 : ∀ r w', St o w' (own 71 3 r (L.length + 1) (((insL L q).take (L.length + 1)).flatMap fc) :: blk g 71 (fc q) :: Fls v L :: R) → j32 r w' := fun r w' hS => by
      refine h32 _ _ fun _ => ?_
      rw [List.take_of_length_le (by omega)] at hS
      unfold Fls
      rw [hil]
      exact hS.swap.drop
    clear h32
    refine ⟨fun hp => ?_, fun hp => ?_⟩
    · rw [if_pos hp] at hS
      exact H32 a w2 hS
    · rw [if_neg hp] at hS
      have hik : kOf L q = L.length := by omega
      refine r_loadN ag71 (xs := fc q) rfl (fun j u hu => by rw [add_addr, Nat.zero_add]; exact hS.at m1 j hu) ?_
      refine r_pushN el22 hS (fc q) rfl hqo (by omega) (by omega) (by simp only [maxLen]; omega) fun v' w4 hS => ?_
      rw [← insL_succ (by rw [← hik]; exact insL_at L q)] at hS
      exact H32 v' w4 hS
theorem rNew (room : Int) (h : St o w R) : CallV Tryz.prog Z 26 #[.int .i64 room] w fun r w' =>
    ((room < 0 ∨ 16777216 < room) ∧ r = .tuple #[.pointer none, .int .i64 1] ∧ w' = w) ∨ (∃ n : Nat, room = n ∧ n ≤ 16777216 ∧ ∃ g, r = .tuple #[.pointer (some ⟨g, 0, none⟩), .int .i64 0] ∧ St o w' (RefM g (Dk.new n) :: R)) := by
  refine f26.calls ?_
  unfold f26.sh
  by_cases h1 : room < 0
  · (try simp only [h1, o_lss, decide_true, o_pickT, condT, guardW_tf])
    exact .inl ⟨by first | exact .inl h1 | exact .inl trivial, by first | rfl | trivial, by first | rfl | trivial⟩
  by_cases h2 : 16777216 < room
  · (try simp only [h1, h2, o_lss, decide_false, o_pickF, guardW_ff, o_gtr, decide_true, condT])
    exact .inl ⟨by first | exact .inr h2 | exact .inr trivial, by first | rfl | trivial, by first | rfl | trivial⟩
  (try simp only [h1, h2, o_lss, decide_false, o_pickF, guardW_ff, o_gtr, condF])
  obtain ⟨n, rfl⟩ : ∃ n : Nat, room = n := ⟨room.toNat, by omega⟩
  refine r_build (cells := (rcells (.slice none 0 0) (Dk.new n)).toArray) (by kernel_rfl) ?_
  refine r_box _ _ h fun g w1 hS => ?_
  refine .inr ⟨n, rfl, by omega, g, by first | rfl | trivial, ?_⟩
  refine RefM.shut (v := .slice none 0 0) (L := []) rfl ?_
  have hS : St o w1 (blk g 87 (rcells (.slice none 0 0) (Dk.new n)) :: R) := hS
  exact ((St.all_intro (As := []) hS).swap.own_nil 71 3).swap
theorem rFrom {x : Value} {l : List (Fi × Value)} (room : Int) {Q : Value → World → Prop} (hx : Ent o R fun w => RdF w x l) (hl : l.length ≤ 2147483648) (hnb : ∀ p ∈ l, p.1.nm.length ≤ 1000000000000 ∧ p.1.by_.length ≤ 1000000000000) (h : St o w R)
    (hq1 : (room < 0 ∨ 16777216 < room) → ∀ w', St o w' R → Q (.tuple #[.pointer none, .int .i64 1]) w')
    (hq2 : ∀ n : Nat, room = n → n ≤ 16777216 → ∀ e, (frs n (l.map (·.1)) []).1 = e → e ≠ 0 → ∀ w', St o w' R → Q (.tuple #[.pointer none, .int .i64 e]) w')
    (hq3 : ∀ n : Nat, room = n → n ≤ 16777216 → ∀ fs, frs n (l.map (·.1)) [] = (0, fs) → (dkF n fs).ok → ∀ g w', St o w' (RefM g (dkF n fs) :: R) → Q (.tuple #[.pointer (some ⟨g, 0, none⟩), .int .i64 0]) w') :
    CallV Tryz.prog Z 6 #[.int .i64 room, x] w Q := by
  have z0 : ((0 : Int) != 0) = false := rfl
  have z1 : ((1 : Int) != 0) = true := rfl
  refine f6.calls ?_
  unfold f6.sh
  refine (rNew Z room h).mono fun r w1 hr => ?_
  rcases hr with ⟨hb, rfl, rfl⟩ | ⟨n, rfl, hn, g, rfl, hS⟩
  · (try simp only [o_ext2_1, o_neq, z1, condT, o_ext2_0])
    exact hq1 hb w1 h
  (try simp only [o_ext2_1, o_neq, z0, condF, o_ext2_0, o_chkp, fa_87_1p, Nat.zero_add])
  obtain ⟨xa, xc, hxf⟩ := (hx w1 hS.drop).1.form
  refine ⟨fun m y w' => ∃ (i : Nat) (fs : List Fil), y = .int .i64 i ∧ m + i = l.length ∧ fs.length = i ∧ (dkF n fs).ok ∧ frs n ((l.drop i).map (·.1)) fs = frs n (l.map (·.1)) [] ∧ St o w' (RefM g (dkF n fs) :: R),
    ⟨l.length, 0, [], rfl, rfl, rfl, ⟨hn, Nat.zero_le _, List.Pairwise.nil, (by intro f hf; cases hf), Nat.zero_le _⟩, rfl, hS⟩, ?_⟩
  clear hS
  rintro m _ w2 ⟨i, fs, rfl, hi, hfl, hok, hfr, hS⟩ _
  rw [hxf]
  by_cases hlt : (i : Int) < (l.length : Int)
  case neg =>
    obtain rfl : i = l.length := by omega
    (try simp only [o_add, ln_22_3, o_lss, hlt, decide_false, condF])
    rw [List.drop_length] at hfr
    exact hq3 n rfl hn fs hfr.symm hok g w2 hS
  have hil : i < l.length := by omega
  rw [List.drop_eq_getElem_cons hil, List.map_cons] at hfr
  rw [frs_cons] at hfr
  obtain ⟨hnl, hbl⟩ := hnb l[i] (List.getElem_mem hil)
  (try simp only [o_add, ln_22_3, o_lss, hlt, decide_true, condT])
  rw [← hxf]
  obtain ⟨b, q, hp, hc⟩ := (hx w2 hS.drop).ix i hil
  refine r1 (hp _) (r_loadN ag71 (xs := fic l[i]) rfl (fun j u hu => by rw [add_addr]; exact hc w2 (hx w2 hS.drop) j u hu) ?_)
  have hfo := (hx w2 hS.drop).one hil
  have hmany : fs.length ≤ 64 := hok.many
  have hused : total fs ≤ n := hok.used
  obtain ⟨v, L, hL, hS⟩ := RefM.open hS
  have hL : L.map (·.1) = fs := hL
  have hsrt : Srt fs := hok.srt
  refine r_alloc hS ze71 fun g2 w3 hS => ?_
  refine r_storeN hS ag71 (xs := fic l[i]) rfl (by simp [Value.cells]) hfo fun w4 hS => ?_
  rw [setL_all _ _ (by simp [Value.cells, fic])] at hS
  have hlen : L.length = fs.length := by rw [← hL, List.length_map]
  (try simp only [fa_71_0, Nat.add_zero, fa_71_2, Nat.zero_add, fa_71_1, fa_71_2p, fa_71_1p, fa_71_0p])
  refine r_load one9 (hS.at m0 0 rfl) ?_
  refine (rName Z l[i].1.nm (by omega)).mono fun r w7 ⟨hr, hw⟩ => ?_
  subst hr; subst hw
  have bad : ∀ e w', frE n fs l[i].1 = e → e ≠ 0 → St o w' R → Q (.tuple #[.pointer none, .int .i64 e]) w' := by
    intro e w' he hne hS
    rw [if_pos (by rw [he]; exact hne), he] at hfr
    exact hq2 n rfl hn e (by rw [← hfr]) hne w' hS
  clear hq1 hq2
  have at0 : (0 : Int) ≤ ((ix fs l[i].1.nm : Nat) : Int) := by omega
  have at1 : ¬ (0 : Int) ≤ -1 := by decide
  by_cases hb : nameOk l[i].1.nm = false ∨ isAt fs l[i].1.nm = true ∨ 64 ≤ fs.length
  · have he : frE n fs l[i].1 = 22 := by unfold frE; rw [if_pos hb]
    have e64 : (64 : Int) ≤ (i : Int) ∨ nameOk l[i].1.nm = false ∨ isAt fs l[i].1.nm = true := by
      rcases hb with hb | hb | hb
      · exact .inr (.inl hb)
      · exact .inr (.inr hb)
      · exact .inl (by omega)
    have done := bad 22 _ he (by decide) (hS.drop.drop.drop.drop)
    clear bad
    cases h1 : nameOk l[i].1.nm with
    | false => 
      (try simp only [o_not, Bool.not_false, o_pickT, condT, guardW_tf])
      exact done
    | true =>
      (try simp only [o_not, Bool.not_true, o_pickF, guardW_ff])
      refine r_load one9 (hS.at m0 0 rfl) ?_
      refine (rAt Z l[i].1.nm hS.drop (by omega) (by rw [hL]; exact hsrt)).mono fun r w8 ⟨hr, hw⟩ => ?_
      rw [hL] at hr
      subst hr; subst hw
      cases h2 : isAt fs l[i].1.nm with
      | true =>
        rw [if_pos rfl]
        (try simp only [o_geq, at0, decide_true, o_pickT, condT, guardW_tf])
        exact done
      | false =>
        have e3 : (64 : Int) ≤ (i : Int) := by rw [h1, h2] at e64; simpa using e64
        rw [if_neg Bool.false_ne_true]
        (try simp only [o_geq, at1, decide_false, o_pickF, guardW_ff, e3, decide_true, condT])
        exact done
  have h1 : nameOk l[i].1.nm = true := by cases hh : nameOk l[i].1.nm with | true => rfl | false => exact absurd (.inl hh) hb
  have h2 : isAt fs l[i].1.nm = false := by cases hh : isAt fs l[i].1.nm with | false => rfl | true => exact absurd (.inr (.inl hh)) hb
  have h3 : ¬ (64 : Int) ≤ (i : Int) := fun hh => hb (.inr (.inr (by omega)))
  rw [h1]
  (try simp only [o_not, Bool.not_true, o_pickF, guardW_ff])
  refine r_load one9 (hS.at m0 0 rfl) ?_
  refine (rAt Z l[i].1.nm hS.drop (by omega) (by rw [hL]; exact hsrt)).mono fun r w8 ⟨hr, hw⟩ => ?_
  rw [hL, h2, if_neg Bool.false_ne_true] at hr
  subst hr; subst hw
  (try simp only [o_geq, at1, decide_false, o_pickF, guardW_ff, h3, condF])
  refine r_load one3 (hS.at m0 2 rfl) ?_
  (try simp only [o_lss])
  have hby := (hx w8 hS.drop.drop.drop.drop).2 l[i] (List.getElem_mem hil)
  obtain ⟨ba, bc, hbf⟩ := hby.form
  by_cases hs : l[i].1.sy < 0 ∨ (l[i].1.by_.length : Int) < l[i].1.sy
  · have he : frE n fs l[i].1 = 1 := by unfold frE; rw [if_neg hb, if_pos hs]
    have done := bad 1 _ he (by decide) (hS.drop.drop.drop.drop)
    clear bad
    by_cases h4 : l[i].1.sy < 0
    · (try simp only [h4, decide_true, o_pickT, condT, guardW_tf])
      exact done
    · have h5 : (l[i].1.by_.length : Int) < l[i].1.sy := by omega
      (try simp only [h4, decide_false, o_pickF, guardW_ff])
      refine r_load one3 (hS.at m0 2 rfl) (r_load one58 (hS.at m0 1 rfl) ?_)
      rw [hbf]
      (try simp only [ln_58_3, o_gtr, h5, decide_true, condT])
      exact done
  have h4 : ¬ l[i].1.sy < 0 := fun hh => hs (.inl hh)
  have h5 : ¬ (l[i].1.by_.length : Int) < l[i].1.sy := fun hh => hs (.inr hh)
  (try simp only [h4, decide_false, o_pickF, guardW_ff])
  refine r_load one3 (hS.at m0 2 rfl) (r_load one58 (hS.at m0 1 rfl) ?_)
  rw [hbf]
  (try simp only [ln_58_3, o_gtr, h5, decide_false, condF])
  refine ⟨fun w9 hd => ?_⟩
  have hS := hS.drew hd
  refine rr_load one22 (hS.at m1 1 rfl) ?_
  skip
  refine rr_load one58 (hS.at m0 1 rfl) ?_
  rw [hbf]
  (try simp only [ln_58_3p])
  have hrd := own_rdF hS.drop.drop
  refine (rSum Z hrd (by rw [List.length_map]; omega) (by rw [toFi_sum, hL]; omega)).mono fun r w10 ⟨hr, hw⟩ => ?_
  rw [toFi_sum, hL] at hr
  subst hr; subst hw
  refine rs_load one58 (by have := hS.at m0 1 rfl; rw [hbf] at this; exact this) ?_
  (try simp only [o_addp, o_gtrp, cond_decide])
  rw [wr_i64 (x := ((total fs : Nat) : Int) + (l[i].1.by_.length : Int)) (by omega) (by omega)]
  refine ⟨fun hc => ?_, fun hc => ?_⟩
  · have he : frE n fs l[i].1 = 21 := by unfold frE; rw [if_neg hb, if_neg hs, if_pos (by omega)]
    exact bad 21 _ he (by decide) (hS.drop.drop.drop.drop)
  clear bad
  have he : frE n fs l[i].1 = 0 := by unfold frE; rw [if_neg hb, if_neg hs, if_neg (by omega)]
  have hok2 := ins_ok hn hok he
  rw [if_neg (by simp [he])] at hfr
  refine ⟨fun w11 hd => ?_⟩
  have hS := hS.drew hd
  refine rr_load one22 (hS.at m1 1 rfl) (rr_load one9 (hS.at m0 0 rfl) (rr_load one58 (hS.at m0 1 rfl) (rr_load one3 (hS.at m0 2 rfl) ?_)))
  refine (copyBytes Z (l := l[i].1.by_) hS (fun w hS => (hx w hS.drop.drop.drop.drop).2 l[i] (List.getElem_mem hil)) (by omega)).mono fun r w12 hS => ?_
  refine rs_load one3 (hS.at m1 2 rfl) (rs_load one9 (hS.at m1 0 rfl) (rs_load one22 (hS.at m2 1 rfl) ?_))
  obtain ⟨ra, rc, hrf⟩ := hS.own_form
  have hbu : Tryz.prog.built 71 #[(0, .string (str l[i].1.nm)), (1, r), (2, .int .i64 l[i].1.sy)].toList = some #[.string (str l[i].1.nm), r, .int .i64 l[i].1.sy] := by rw [hrf]; kernel_rfl
  refine rp_build hbu ?_
  have hro : r.oneCell' = true := by rw [hrf]; rfl
  have hsy : l[i].1.sy = (l[i].1.sy.toNat : Int) := by omega
  obtain ⟨q, hq⟩ : ∃ q : Fil × Value, q = (⟨l[i].1.nm, l[i].1.by_, l[i].1.sy.toNat⟩, r) := ⟨_, rfl⟩
  have hqc : #[Value.string (str l[i].1.nm), r, .int .i64 l[i].1.sy] = (fc q).toArray := by rw [hq]; simp only [fc, ← hsy]
  have hqo : ones (fc q) := by
    intro u hu
    rw [hq] at hu
    simp only [fc, List.mem_cons, List.not_mem_nil, or_false] at hu
    rcases hu with rfl | rfl | rfl
    · rfl
    · exact hro
    · rfl
  rw [hqc]
  have hqn : q.1.nm = l[i].1.nm := by rw [hq]
  have hone := fb_one (hS.drop.drop.drop.drop)
  have hS2 : St o w12 (Fls v L :: own 5 1 r l[i].1.by_.length (cb l[i].1.by_) :: blk g2 71 (fic l[i]) :: blk g 87 (rcells v (dkF n fs)) :: satH (L.map fb) :: R) := hS.pick 3
  refine (rWith Z (q := q) hS2 hqo hone (by rw [hL]; exact hsrt) (by rw [hL, hqn]; exact h2) (by omega)).mono fun r2 w13 hS => ?_
  refine rs_load one3 (hS.at m3 2 rfl) (rs_load one9 (hS.at m3 0 rfl) ?_)
  obtain ⟨r2a, r2c, hr2f⟩ := Fls.form hS m0
  refine r_store (hS.pick 4) one22 (by simp [rcells]) (by rw [hr2f]; rfl) fun w14 hS => ?_
  skip
  rw [wr_i64 (x := (i : Int) + 1) (by omega) (by omega)]
  have hq1 : q.1 = ⟨l[i].1.nm, l[i].1.by_, l[i].1.sy.toNat⟩ := by rw [hq]
  refine ⟨m - 1, by omega, i + 1, _, rfl, by omega, by rw [insF_length]; omega, hok2, hfr, ?_⟩
  refine RefM.shut (v := r2) (L := insL L q) (by rw [insL_map, hL, hq1]; rfl) ?_
  have hS : St o w14 (blk g 87 (rcells r2 (dkF n fs)) :: Fls r2 (insL L q) :: Fls v L :: own 5 1 r l[i].1.by_.length (cb l[i].1.by_) :: blk g2 71 (fic l[i]) :: satH (L.map fb) :: R) := hS
  have hfq : own 5 1 r l[i].1.by_.length (cb l[i].1.by_) = fb q := by rw [hq]; rfl
  rw [hfq] at hS
  have hS3 : St o w14 (fb q :: satH (L.map fb) :: blk g 87 (rcells r2 (dkF n fs)) :: Fls r2 (insL L q) :: R) := by (refine Sh.St.sub ?_ (hS); repeat (first | with_reducible exact sub_refl | with_reducible exact sub_nil | with_reducible refine sub_p0 ?_ | with_reducible refine sub_p1 ?_ | with_reducible refine sub_p2 ?_ | with_reducible refine sub_p3 ?_ | with_reducible refine sub_p4 ?_ | with_reducible refine sub_p5 ?_ | with_reducible refine sub_p6 ?_ | with_reducible refine sub_p7 ?_ | with_reducible refine sub_p8 ?_ | with_reducible refine sub_p9 ?_ | with_reducible refine sub_p10 ?_ | with_reducible refine sub_p11 ?_ | with_reducible refine sub_p12 ?_ | with_reducible refine sub_p13 ?_ | with_reducible refine sub_p14 ?_ | with_reducible refine sub_p15 ?_ | exact sub_refl | refine sub_p0 ?_ | refine sub_p1 ?_ | refine sub_p2 ?_ | refine sub_p3 ?_ | refine sub_p4 ?_ | refine sub_p5 ?_ | refine sub_p6 ?_ | refine sub_p7 ?_ | refine sub_p8 ?_ | refine sub_p9 ?_ | refine sub_p10 ?_ | refine sub_p11 ?_ | refine sub_p12 ?_ | refine sub_p13 ?_ | refine sub_p14 ?_ | refine sub_p15 ?_ | refine sub_drop ?_))
  have hS4 : St o w14 (satH ((insL L q).map fb) :: blk g 87 (rcells r2 (dkF n fs)) :: Fls r2 (insL L q) :: R) := by
    have e : (insL L q).map fb = (L.take (kOf L q)).map fb ++ fb q :: (L.drop (kOf L q)).map fb := by unfold insL; rw [List.map_append, List.map_cons]
    rw [e]
    refine St.all_in ?_
    rw [← List.map_append, List.take_append_drop]
    exact hS3
  exact hS4.put 2
end
end Go.Proofs.YtcbbaiglcgemmaaGreatDoor
