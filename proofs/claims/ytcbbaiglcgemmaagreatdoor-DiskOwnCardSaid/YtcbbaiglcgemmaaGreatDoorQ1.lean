
/- Lists that share no memory: what is written into each is found in it, grown by one and by many. Printed by wip/sh/mkap.py. -/
import Derived.Test.YtcbbaiglcgemmaaGreatDoorShTwin
import Derived.Test.YtcbbaiglcgemmaaGreatDoorW1
import Derived.Test.YtcbbaiglcgemmaaGreatDoorP1
set_option linter.unusedVariables false
set_option linter.unusedSimpArgs false
namespace Go.Proofs.YtcbbaiglcgemmaaGreatDoor
open Go.Sh
def mkBytes (d : Nat) (i : Nat) : List Value := [.int .u8 (IntKind.u8.wrap (((i : Int).tdiv d).tmod 100))]
def mkBytes' (d : Nat) (i : Nat) : List Value := [.int .u8 (IntKind.u8.wrap (100 + ((i : Int).tdiv d).tmod 100))]
theorem mkBytes_ones (d i : Nat) : ones (mkBytes d i) ∧ ones (mkBytes' d i) := ⟨by intro u hu; simp [mkBytes] at hu; subst hu; rfl, by intro u hu; simp [mkBytes'] at hu; subst hu; rfl⟩
theorem mkBytes_len (d : Nat) (i : Nat) : ((mkBytes d) i).length = 1 := rfl
theorem mkBytes_len' (d : Nat) (i : Nat) : ((mkBytes' d) i).length = 1 := rfl
section
variable (Z : List PanicEntry → World → Prop) {o w : World} {R As : List HProp}
set_option maxRecDepth 100000 in
theorem grownBytes {d : Nat} (hd0 : 1 ≤ d) (hd1 : d ≤ 10000) (cnt : Nat) (hcnt : cnt ≤ 64) {es : List (Value × Nat)} {vl : Value} (hl : es.length ≤ 600) (hT : Tab o) (ho : old o ∈ R) (hx : Ent o R fun w => Rd w 1 vl es.length (es.map Prod.fst)) (h : St o w (rowsM 5 1 1 (mkBytes d) 0 es :: R)) :
    CallV Tryz.prog Z 68 #[vl, .int .i64 d, .int .i64 cnt] w fun r w' => r = .bool true ∧ St o w' (rowsM 5 1 1 (mkBytes d) 0 es :: R) := by
  obtain ⟨al, cl, rfl⟩ := (hx w h.drop).form
  refine f68.calls ?_
  unfold f68.sh
  refine ⟨fun m x y w' => ∃ (i : Nat) (ds : List ((Value × Nat) × Value)), y = .int .i64 i ∧ m + i = es.length ∧ ds.map Prod.fst = es.take i ∧ St o w' (own 58 1 x i (ds.map Prod.snd) :: pairsM 5 1 1 (mkBytes d) (mkBytes' d) cnt ds :: rowsM 5 1 1 (mkBytes d) i (es.drop i) :: R), ⟨es.length, 0, [], rfl, rfl, rfl, (h.emp.mono fun _ _ => trivial).own_nil _ _⟩, ?_⟩
  clear h
  rintro m vm _ w1 ⟨i, ds, rfl, hi, hds, hS⟩ _
  by_cases hlt : (i : Int) < (es.length : Int)
  · have hil : i < es.length := by omega
    have hdl : ds.length = i := by have := congrArg List.length hds; simp only [List.length_map, List.length_take] at this; omega
    (try simp only [o_add, ln_33_3, o_lss, hlt, decide_true, condT])
    obtain ⟨b0, q0, hp0, hc0⟩ := (hx w1 hS.drop.drop.drop).adr el33 .i64 i hil
    refine r1 (hp0 _) (r_load one58 (v := es[i].1) (by have := hc0 w1 (hx w1 hS.drop.drop.drop) 0 es[i].1 (by rw [at_one]; simp [hil]); simpa using this) ?_)
    obtain ⟨hb, hS⟩ := grow_step (hS.put 2) hil
    have hS := hS.twin_start
    refine ⟨fun m2 x y w' => ∃ k : Nat, y = .int .i64 k ∧ m2 + k = cnt ∧ St o w' (twin 5 1 es[i].1 es[i].2 x k (rep es[i].2 ((mkBytes d) i)) (rep k ((mkBytes' d) i)) :: pairsM 5 1 1 (mkBytes d) (mkBytes' d) cnt ds :: rowsM 5 1 1 (mkBytes d) (i + 1) (es.drop (i + 1)) :: own 58 1 vm i (ds.map Prod.snd) :: R), ⟨cnt, 0, rfl, rfl, hS⟩, ?_⟩
    clear hS
    rintro m2 vk _ w2 ⟨k, rfl, hk, hS⟩ _
    by_cases hlt2 : (k : Int) < (cnt : Int)
    · (try simp only [o_add, o_lss, hlt2, decide_true, condT])
      refine r1 (run_quo _ _ _ _ _ _ (by omega)) ?_
      rw [wr_i64 (x := (i : Int).tdiv d) (tdv_lo _ _) (tdv_hi hl hil hd0)]
      refine r1 (run_rem _ _ _ _ _ _ (by decide)) ?_
      (try simp only [o_add, cv_3_5])
      rw [wr_i64 (x := 100 + ((i : Int).tdiv d).tmod 100) (tmh_lo _) (tmh_hi _)]
      refine r_slice el58 hS 1 _ ((mkBytes' d) i) rfl (by omega) (by omega) (mkBytes_ones d i).2 rfl fun g w4 hS => ?_
      have hsrc := (hS.own_rd m0).src Tryz.underlying58 (mkBytes_ones d i).2
      refine r_twin el58 hS.swap hsrc (by omega) (by simp only [maxLen]; omega) fun v' w5 hS => ?_
      have hS := hS.swap.drop
      rw [← rep_succ] at hS
      skip
      rw [wr_i64 (x := (k : Int) + 1) (by omega) (by omega)]
      exact ⟨m2 - 1, by omega, k + 1, rfl, by omega, hS⟩
    · have hkc : k = cnt := by omega
      subst hkc
      (try simp only [o_add, o_lss, hlt2, decide_false, condF])
      have hvk := hS.twin_one
      refine r_push el33 (hS.pick 3) vk hvk (by omega) (by simp only [maxLen]; omega) fun v' w3 hS => ?_
      skip
      rw [wr_i64 (x := (i : Int) + 1) (by omega) (by omega)]
      have hS := grow_done hil hdl hb (hS.put 2)
      refine ⟨m - 1, by omega, i + 1, ds ++ [(es[i], vk)], rfl, by omega, by rw [List.map_append, hds, List.take_succ_eq_append_getElem hil]; rfl, ?_⟩
      rw [List.map_append]
      exact hS.swap
  · have hil : i = es.length := by omega
    subst hil
    rw [List.take_length] at hds
    (try simp only [o_add, ln_33_3, o_lss, hlt, decide_false, condF])
    refine ⟨fun m y w' => ∃ j : Nat, y = .int .i64 j ∧ m + j = es.length ∧ St o w' (own 58 1 vm es.length (ds.map Prod.snd) :: pairsM 5 1 1 (mkBytes d) (mkBytes' d) cnt ds :: R), ⟨es.length, 0, rfl, rfl, (hS.pick 2).drop⟩, ?_⟩
    clear hS hi hlt
    rintro m _ w2 ⟨j, rfl, hj, hS⟩ _
    by_cases hlt2 : (j : Int) < (es.length : Int)
    · have hjl : j < es.length := by omega
      (try simp only [o_add, o_lss, hlt2, decide_true, condT])
      obtain ⟨b0, q0, hp0, hc0⟩ := (hx w2 hS.drop.drop).adr el33 .i64 j hjl
      obtain ⟨hd, hb, hr1, hr2⟩ := pairs_rd hds m1 hS hjl
      have hmr := hS.own_rd m0
      obtain ⟨bm, qm, hpm, hcm⟩ := hmr.adr el33 .i64 j hjl
      have P1 : ∀ w', St o w' (own 58 1 vm es.length (ds.map Prod.snd) :: pairsM 5 1 1 (mkBytes d) (mkBytes' d) cnt ds :: R) → w'.cell? ⟨b0, q0, none⟩ = some es[j].1 := fun w' hS => by have := hc0 w' (hx w' hS.drop.drop) 0 es[j].1 (by rw [at_one]; simp [hjl]); simpa using this
      have P2 : ∀ w', St o w' (own 58 1 vm es.length (ds.map Prod.snd) :: pairsM 5 1 1 (mkBytes d) (mkBytes' d) cnt ds :: R) → w'.cell? ⟨bm, qm, none⟩ = some ds[j].2 := fun w' hS => by have := hcm w' (hS.own_rd m0) 0 ds[j].2 (by rw [at_one]; simp [hd]); simpa using this
      refine r1 (hp0 _) (r_load one58 (P1 _ hS) ?_)
      refine r1 (hr1.len sl58 _ rfl _ _) ?_
      refine ⟨fun m3 y w' => ∃ k : Nat, y = .int .i64 k ∧ m3 + k = es[j].2 + cnt ∧ St o w' (own 58 1 vm es.length (ds.map Prod.snd) :: pairsM 5 1 1 (mkBytes d) (mkBytes' d) cnt ds :: R), ⟨es[j].2 + cnt, 0, rfl, rfl, hS⟩, ?_⟩
      clear hS
      rintro m3 _ w3 ⟨k, rfl, hk, hS⟩ _
      refine r1 (run_add _ _ _ _ _ _) ?_
      rw [wr_i64 (x := (es[j].2 : Int) + (cnt : Int)) (by omega) (by omega)]
      by_cases hlt3 : (k : Int) < (es[j].2 : Int) + (cnt : Int)
      · (try simp only [o_add, o_lssp, o_lss, hlt3, decide_true, condT])
        have hk3 : k < es[j].2 + cnt := by omega
        obtain ⟨b2, q2, hp2, hc2⟩ := hr2.adr el58 .i64 k hk3
        refine ⟨fun w4 hdr => ?_⟩
        have hS := hS.drew hdr
        by_cases hkn : (k : Int) < (es[j].2 : Int)
        · have hkl : k < es[j].2 := by omega
          have hge : ¬ (es[j].2 : Int) ≤ (k : Int) := by omega
          obtain ⟨b1, q1, hp1, hc1⟩ := hr1.adr el58 .i64 k hkl
          have P3 : ∀ w', St o w' (own 58 1 vm es.length (ds.map Prod.snd) :: pairsM 5 1 1 (mkBytes d) (mkBytes' d) cnt ds :: R) → w'.cell? ⟨b1, q1 + 0, none⟩ = ((mkBytes d) j)[0]? := fun w' hS => hc1 w' (pairs_rd hds m1 hS hjl).2.2.1 0 _ (by have := rep_at (n := es[j].2) (c := (mkBytes d) j) (rest := []) hkl; rw [List.append_nil] at this; rw [show ((mkBytes d) j).length = 1 from rfl] at this; rw [this]; rfl)
          have P4 : ∀ w', St o w' (own 58 1 vm es.length (ds.map Prod.snd) :: pairsM 5 1 1 (mkBytes d) (mkBytes' d) cnt ds :: R) → w'.cell? ⟨b2, q2 + 0, none⟩ = ((mkBytes d) j)[0]? := fun w' hS => hc2 w' (pairs_rd hds m1 hS hjl).2.2.2 0 _ (by have := rep_at (n := es[j].2) (c := (mkBytes d) j) (rest := rep cnt ((mkBytes' d) j)) hkl; rw [show ((mkBytes d) j).length = 1 from rfl] at this; rw [this]; rfl)
          (try simp only [hkn, decide_true, o_pickTp, guardV_true])
          refine rp hp0 ?_
          refine rr_load one58 (P1 _ hS) ?_
          refine rp hp1 ?_
          refine rr_load one5 (P3 _ hS) ?_
          refine rp (fun w => run_quo _ w _ _ _ _ (by omega)) ?_
          rw [wr_i64 (x := (j : Int).tdiv d) (tdv_lo _ _) (tdv_hi hl hjl hd0)]
          refine rp (fun w => run_rem _ w _ _ _ _ (by decide)) ?_
          (try simp only [cv_3_5p, o_neqp, bne_self_eq_false, o_pickFp, guardV_ff])
          (try refine rp (fun w => run_neq_int _ w _ _ _ _ _ _) ?_)
          (first | rw [bne_self] | refine ⟨fun hh => absurd rfl hh, fun _ => ?_⟩ | skip)
          skip
          refine rp hpm ?_
          refine rr_load one58 (P2 _ hS) ?_
          refine rp hp2 ?_
          refine rr_load one5 (P4 _ hS) ?_
          refine rp (fun w => run_quo _ w _ _ _ _ (by omega)) ?_
          rw [wr_i64 (x := (j : Int).tdiv d) (tdv_lo _ _) (tdv_hi hl hjl hd0)]
          refine rp (fun w => run_rem _ w _ _ _ _ (by decide)) ?_
          (try simp only [cv_3_5p, o_neqp, bne_self_eq_false, o_pickFp, guardV_ff, o_geqp])
          (try refine rp (fun w => run_neq_int _ w _ _ _ _ _ _) ?_)
          (first | rw [bne_self] | refine ⟨fun hh => absurd rfl hh, fun _ => ?_⟩ | skip)
          skip
          (try simp only [hge, decide_false, o_pickFp, condF, guardV_ft])
          rw [wr_i64 (x := (k : Int) + 1) (by omega) (by omega)]
          exact ⟨m3 - 1, by omega, k + 1, rfl, by omega, hS⟩
        · have hge : (es[j].2 : Int) ≤ (k : Int) := by omega
          have P5 : ∀ w', St o w' (own 58 1 vm es.length (ds.map Prod.snd) :: pairsM 5 1 1 (mkBytes d) (mkBytes' d) cnt ds :: R) → w'.cell? ⟨b2, q2 + 0, none⟩ = ((mkBytes' d) j)[0]? := fun w' hS => hc2 w' (pairs_rd hds m1 hS hjl).2.2.2 0 _ (by have := rep_at2 (n := es[j].2) (m := cnt) (c := (mkBytes d) j) (d := (mkBytes' d) j) (i := k) (by rw [mkBytes_len', mkBytes_len]) (by omega) hk3; rw [show ((mkBytes d) j).length = 1 from rfl] at this; rw [this]; rfl)
          (try simp only [hkn, decide_false, o_pickFp, guardV_ff, o_geqp, hge, decide_true, o_pickTp, guardV_true, guardV_ft, guardV_u])
          refine rp hpm ?_
          refine rr_load one58 (P2 _ hS) ?_
          refine rp hp2 ?_
          refine rr_load one5 (P5 _ hS) ?_
          refine rp (fun w => run_quo _ w _ _ _ _ (by omega)) ?_
          rw [wr_i64 (x := (j : Int).tdiv d) (tdv_lo _ _) (tdv_hi hl hjl hd0)]
          refine rp (fun w => run_rem _ w _ _ _ _ (by decide)) ?_
          (try simp only [o_addp, cv_3_5p, o_neqp, cond_bne])
          rw [wr_i64 (x := 100 + ((j : Int).tdiv d).tmod 100) (tmh_lo _) (tmh_hi _)]
          (try refine rp (fun w => run_neq_int _ w _ _ _ _ _ _) ?_)
          (first | rw [bne_self] | refine ⟨fun hh => absurd rfl hh, fun _ => ?_⟩ | skip)
          skip
          rw [wr_i64 (x := (k : Int) + 1) (by omega) (by omega)]
          exact ⟨m3 - 1, by omega, k + 1, rfl, by omega, hS⟩
      · (try simp only [o_add, o_lssp, o_lss, hlt3, decide_false, condF])
        rw [wr_i64 (x := (j : Int) + 1) (by omega) (by omega)]
        exact ⟨m - 1, by omega, j + 1, rfl, by omega, hS⟩
    · (try simp only [o_add, o_lss, hlt2, decide_false, condF])
      exact ⟨by first | rfl | trivial, pairs_end hds hS.drop⟩
set_option maxRecDepth 100000 in
theorem apartBytes {es : List (Value × Nat)} {vl : Value} (hl : es.length ≤ 600) (hT : Tab o) (ho : old o ∈ R) (hx : Ent o R fun w => Rd w 1 vl es.length (es.map Prod.fst)) (h : St o w (rowsX 5 1 1 es :: R)) :
    CallV Tryz.prog Z 39 #[vl] w fun r w' => r = .bool true ∧ St o w' (rowsX 5 1 1 es :: R) := by
  obtain ⟨al, cl, rfl⟩ := (hx w h.drop).form
  refine f39.calls ?_
  unfold f39.sh
  refine ⟨fun m y w' => ∃ d : Nat, y = .int .i64 d ∧ (d = 1 ∧ m = 2 ∨ d = 100 ∧ m = 1 ∨ d = 10000 ∧ m = 0) ∧ St o w' (rowsX 5 1 1 es :: R), ⟨2, 1, rfl, by omega, h⟩, ?_⟩
  clear h
  rintro mm _ w0 ⟨d, rfl, hd, hS⟩ _
  have hd0 : 1 ≤ d := by omega
  have hd1 : d ≤ 10000 := by omega
  by_cases hin : d = 1 ∨ d ≤ es.length
  case neg =>
    have hb : ((d : Int) == 1) = false := by simp; omega
    have h2 : ¬ (d : Int) ≤ (es.length : Int) := by omega
    (try simp only [o_mul, ln_33_3, o_eql, hb, o_pickF, guardW_ff, o_leq, h2, decide_false, condF])
    exact ⟨by first | rfl | trivial, hS⟩
  apply via
  · intro post
    by_cases h1 : d = 1
    · have hb : ((d : Int) == 1) = true := by simp [h1]
      (try simp only [o_mul, ln_33_3, o_eql, hb, o_pickT, condT, guardW_tf])
      exact post
    · have hb : ((d : Int) == 1) = false := by simp; omega
      have h2 : (d : Int) ≤ (es.length : Int) := by omega
      (try simp only [o_mul, ln_33_3, o_eql, hb, o_pickF, guardW_ff, o_leq, h2, decide_true, condT])
      exact post
  have hd2 : d = 1 ∨ d = 100 := by omega
  have h := hS
  clear hS
  refine ⟨fun m y w' => ∃ i : Nat, y = .int .i64 i ∧ m + i = es.length ∧ St o w' (rowsM 5 1 1 (mkBytes d) 0 (es.take i) :: rowsX 5 1 1 (es.drop i) :: R), ⟨es.length, 0, rfl, rfl, h.emp.mono fun _ _ => trivial⟩, ?_⟩
  clear h
  rintro m _ w1 ⟨i, rfl, hi, hS⟩ _
  by_cases hlt : (i : Int) < (es.length : Int)
  · have hil : i < es.length := by omega
    (try simp only [o_add, o_lss, hlt, decide_true, condT])
    obtain ⟨b0, q0, hp0, hc0⟩ := (hx w1 hS.drop.drop).adr el33 .i64 i hil
    have P0 : ∀ w', St o w' R → w'.cell? ⟨b0, q0, none⟩ = some es[i].1 := fun w' hS => by have := hc0 w' (hx w' hS) 0 es[i].1 (by rw [at_one]; simp [hil]); simpa using this
    obtain ⟨xs, hb, hxl, hS⟩ := mark_step hS hil
    refine ⟨fun m2 y w' => ∃ k : Nat, y = .int .i64 k ∧ m2 + k = es[i].2 ∧ St o w' (own 5 1 es[i].1 es[i].2 (rep k ((mkBytes d) i) ++ xs.drop (k * 1)) :: rowsM 5 1 1 (mkBytes d) 0 (es.take i) :: rowsX 5 1 1 (es.drop (i + 1)) :: R), ⟨es[i].2, 0, rfl, rfl, by simpa [rep] using hS⟩, ?_⟩
    clear hS
    rintro m2 _ w2 ⟨k, rfl, hk, hS⟩ _
    refine r1 (hp0 _) (r_load one58 (P0 _ hS.drop.drop.drop) ?_)
    refine r1 ((hS.own_rd m0).len sl58 _ rfl _ _) ?_
    by_cases hlt2 : (k : Int) < (es[i].2 : Int)
    · have hkn : k < es[i].2 := by omega
      (try simp only [o_add, o_lss, hlt2, decide_true, condT])
      refine ⟨fun w3 hdr => ?_⟩
      have hS := hS.drew hdr
      obtain ⟨b, q, hp, hc⟩ := (hS.own_rd m0).adr el58 .i64 k hkn
      refine rp hp0 ?_
      refine rr_load one58 (P0 _ hS.drop.drop.drop) ?_
      refine rp (fun w => run_quo _ w _ _ _ _ (by omega)) ?_
      rw [wr_i64 (x := (i : Int).tdiv d) (tdv_lo _ _) (tdv_hi hl hil hd0)]
      refine rp (fun w => run_rem _ w _ _ _ _ (by decide)) ?_
      (try simp only [cv_3_5p])
      refine rp hp ?_
      refine r_store_ix hS el58 one5 .i64 k hkn (hp _) rfl fun w5 hS => ?_
      have e2 := mark_set (c := (mkBytes d) i) (sz := 1) (k := k) rfl hxl hkn
      have hS : St o w5 (own 5 1 es[i].1 es[i].2 (setL (rep k ((mkBytes d) i) ++ xs.drop (k * 1)) (k * 1) ((mkBytes d) i)) :: rowsM 5 1 1 (mkBytes d) 0 (es.take i) :: rowsX 5 1 1 (es.drop (i + 1)) :: R) := by rw [Nat.mul_one] at hS ⊢; exact hS
      rw [e2] at hS
      skip
      rw [wr_i64 (x := (k : Int) + 1) (by omega) (by omega)]
      exact ⟨m2 - 1, by omega, k + 1, rfl, by omega, hS⟩
    · have hkn : k = es[i].2 := by omega
      subst hkn
      (try simp only [o_add, o_lss, hlt2, decide_false, condF])
      have hdr0 : xs.drop (es[i].2 * 1) = [] := List.drop_eq_nil_of_le (by omega)
      rw [hdr0, List.append_nil] at hS
      have hS := mark_done hil hb hS
      rw [wr_i64 (x := (i : Int) + 1) (by omega) (by omega)]
      exact ⟨m - 1, by omega, i + 1, rfl, by omega, hS⟩
  · have hil : i = es.length := by omega
    subst hil
    (try simp only [o_add, o_lss, hlt, decide_false, condF])
    have hS := hS.swap.drop
    rw [List.take_length] at hS
    refine (grownBytes Z (d := d) hd0 hd1 1 (by omega) hl hT ho hx hS).mono fun r w2 ⟨hr, hS⟩ => ?_
    subst hr
    (try simp only [o_pickT, guardW_true])
    refine (grownBytes Z (d := d) hd0 hd1 64 (by omega) hl hT ho hx hS).mono fun r w3 ⟨hr, hS⟩ => ?_
    subst hr
    (try simp only [o_not, Bool.not_true, condF])
    rw [wr_i64 (x := (d : Int) * 100) (by omega) (by omega)]
    exact ⟨mm - 1, by omega, d * 100, by rw [Int.natCast_mul]; rfl, by omega, rowsM_end hS⟩
end
def mkTexts (i : Nat) : List Value := [.string (str (33 :: Lib.itoa (-1000000 - (i : Int))))]
def mkTexts' (i : Nat) : List Value := [.string (str (33 :: Lib.itoa (-2000000 - (i : Int))))]
theorem mkTexts_ones (i : Nat) : ones (mkTexts i) ∧ ones (mkTexts' i) := by
  constructor
  · intro u hu
    simp only [mkTexts, List.mem_cons, List.not_mem_nil, or_false] at hu
    rcases hu with rfl <;> rfl
  · intro u hu
    simp only [mkTexts', List.mem_cons, List.not_mem_nil, or_false] at hu
    rcases hu with rfl <;> rfl
theorem mkTexts_len (i : Nat) : (mkTexts i).length = 1 := rfl
theorem mkTexts_len' (i : Nat) : (mkTexts' i).length = 1 := rfl
section
variable (Z : List PanicEntry → World → Prop) {o w : World} {R As : List HProp}
set_option maxRecDepth 100000 in
theorem grownTexts (cnt : Nat) (hcnt : cnt ≤ 24) {es : List (Value × Nat)} {vl : Value} (hl : es.length ≤ 600) (hT : Tab o) (ho : old o ∈ R) (hx : Ent o R fun w => Rd w 1 vl es.length (es.map Prod.fst)) (h : St o w (rowsM 9 1 16 mkTexts 0 es :: R)) :
    CallV Tryz.prog Z 71 #[vl, .int .i64 cnt] w fun r w' => r = .bool true ∧ St o w' (rowsM 9 1 16 mkTexts 0 es :: R) := by
  obtain ⟨al, cl, rfl⟩ := (hx w h.drop).form
  refine f71.calls ?_
  unfold f71.sh
  refine ⟨fun m x y w' => ∃ (i : Nat) (ds : List ((Value × Nat) × Value)), y = .int .i64 i ∧ m + i = es.length ∧ ds.map Prod.fst = es.take i ∧ St o w' (own 56 1 x i (ds.map Prod.snd) :: pairsM 9 1 16 mkTexts mkTexts' cnt ds :: rowsM 9 1 16 mkTexts i (es.drop i) :: R), ⟨es.length, 0, [], rfl, rfl, rfl, (h.emp.mono fun _ _ => trivial).own_nil _ _⟩, ?_⟩
  clear h
  rintro m vm _ w1 ⟨i, ds, rfl, hi, hds, hS⟩ _
  by_cases hlt : (i : Int) < (es.length : Int)
  · have hil : i < es.length := by omega
    have hdl : ds.length = i := by have := congrArg List.length hds; simp only [List.length_map, List.length_take] at this; omega
    (try simp only [o_sub, o_add, ln_35_3, o_lss, hlt, decide_true, condT])
    obtain ⟨b0, q0, hp0, hc0⟩ := (hx w1 hS.drop.drop.drop).adr el35 .i64 i hil
    refine r1 (hp0 _) (r_load one56 (v := es[i].1) (by have := hc0 w1 (hx w1 hS.drop.drop.drop) 0 es[i].1 (by rw [at_one]; simp [hil]); simpa using this) ?_)
    obtain ⟨hb, hS⟩ := grow_step (hS.put 2) hil
    have hS := hS.twin_start
    refine ⟨fun m2 x y w' => ∃ k : Nat, y = .int .i64 k ∧ m2 + k = cnt ∧ St o w' (twin 9 1 es[i].1 es[i].2 x k (rep es[i].2 (mkTexts i)) (rep k (mkTexts' i)) :: pairsM 9 1 16 mkTexts mkTexts' cnt ds :: rowsM 9 1 16 mkTexts (i + 1) (es.drop (i + 1)) :: own 56 1 vm i (ds.map Prod.snd) :: R), ⟨cnt, 0, rfl, rfl, hS⟩, ?_⟩
    clear hS
    rintro m2 vk _ w2 ⟨k, rfl, hk, hS⟩ _
    by_cases hlt2 : (k : Int) < (cnt : Int)
    · (try simp only [o_add, o_lss, hlt2, decide_true, condT])
      rw [wr_i64 (x := -2000000 - (i : Int)) (by omega) (by omega)]
      refine (mark Z hT (by simp [ho]) (-2000000 - (i : Int)) (by omega) (by omega) hS).mono fun r w3 ⟨hr, hS⟩ => ?_
      subst hr
      refine r_slice el56 hS 1 _ (mkTexts' i) rfl (by omega) (by omega) (mkTexts_ones i).2 rfl fun g w4 hS => ?_
      have hsrc := (hS.own_rd m0).src Tryz.underlying56 (mkTexts_ones i).2
      refine r_twin el56 hS.swap hsrc (by omega) (by simp only [maxLen]; omega) fun v' w5 hS => ?_
      have hS := hS.swap.drop
      rw [← rep_succ] at hS
      skip
      rw [wr_i64 (x := (k : Int) + 1) (by omega) (by omega)]
      exact ⟨m2 - 1, by omega, k + 1, rfl, by omega, hS⟩
    · have hkc : k = cnt := by omega
      subst hkc
      (try simp only [o_add, o_lss, hlt2, decide_false, condF])
      have hvk := hS.twin_one
      refine r_push el35 (hS.pick 3) vk hvk (by omega) (by simp only [maxLen]; omega) fun v' w3 hS => ?_
      skip
      rw [wr_i64 (x := (i : Int) + 1) (by omega) (by omega)]
      have hS := grow_done hil hdl hb (hS.put 2)
      refine ⟨m - 1, by omega, i + 1, ds ++ [(es[i], vk)], rfl, by omega, by rw [List.map_append, hds, List.take_succ_eq_append_getElem hil]; rfl, ?_⟩
      rw [List.map_append]
      exact hS.swap
  · have hil : i = es.length := by omega
    subst hil
    rw [List.take_length] at hds
    (try simp only [o_sub, o_add, ln_35_3, o_lss, hlt, decide_false, condF])
    refine ⟨fun m y w' => ∃ j : Nat, y = .int .i64 j ∧ m + j = es.length ∧ St o w' (own 56 1 vm es.length (ds.map Prod.snd) :: pairsM 9 1 16 mkTexts mkTexts' cnt ds :: R), ⟨es.length, 0, rfl, rfl, (hS.pick 2).drop⟩, ?_⟩
    clear hS hi hlt
    rintro m _ w2 ⟨j, rfl, hj, hS⟩ _
    by_cases hlt2 : (j : Int) < (es.length : Int)
    · have hjl : j < es.length := by omega
      (try simp only [o_add, o_lss, hlt2, decide_true, condT])
      obtain ⟨b0, q0, hp0, hc0⟩ := (hx w2 hS.drop.drop).adr el35 .i64 j hjl
      obtain ⟨hd, hb, hr1, hr2⟩ := pairs_rd hds m1 hS hjl
      have hmr := hS.own_rd m0
      obtain ⟨bm, qm, hpm, hcm⟩ := hmr.adr el35 .i64 j hjl
      have P1 : ∀ w', St o w' (own 56 1 vm es.length (ds.map Prod.snd) :: pairsM 9 1 16 mkTexts mkTexts' cnt ds :: R) → w'.cell? ⟨b0, q0, none⟩ = some es[j].1 := fun w' hS => by have := hc0 w' (hx w' hS.drop.drop) 0 es[j].1 (by rw [at_one]; simp [hjl]); simpa using this
      have P2 : ∀ w', St o w' (own 56 1 vm es.length (ds.map Prod.snd) :: pairsM 9 1 16 mkTexts mkTexts' cnt ds :: R) → w'.cell? ⟨bm, qm, none⟩ = some ds[j].2 := fun w' hS => by have := hcm w' (hS.own_rd m0) 0 ds[j].2 (by rw [at_one]; simp [hd]); simpa using this
      refine r1 (hp0 _) (r_load one56 (P1 _ hS) ?_)
      refine r1 (hr1.len sl56 _ rfl _ _) ?_
      refine ⟨fun m3 y w' => ∃ k : Nat, y = .int .i64 k ∧ m3 + k = es[j].2 + cnt ∧ St o w' (own 56 1 vm es.length (ds.map Prod.snd) :: pairsM 9 1 16 mkTexts mkTexts' cnt ds :: R), ⟨es[j].2 + cnt, 0, rfl, rfl, hS⟩, ?_⟩
      clear hS
      rintro m3 _ w3 ⟨k, rfl, hk, hS⟩ _
      refine r1 (run_add _ _ _ _ _ _) ?_
      rw [wr_i64 (x := (es[j].2 : Int) + (cnt : Int)) (by omega) (by omega)]
      by_cases hlt3 : (k : Int) < (es[j].2 : Int) + (cnt : Int)
      · (try simp only [o_add, o_lssp, o_lss, hlt3, decide_true, condT])
        have hk3 : k < es[j].2 + cnt := by omega
        obtain ⟨b2, q2, hp2, hc2⟩ := hr2.adr el56 .i64 k hk3
        refine ⟨fun w4 hdr => ?_⟩
        have hS := hS.drew hdr
        by_cases hkn : (k : Int) < (es[j].2 : Int)
        · have hkl : k < es[j].2 := by omega
          have hge : ¬ (es[j].2 : Int) ≤ (k : Int) := by omega
          obtain ⟨b1, q1, hp1, hc1⟩ := hr1.adr el56 .i64 k hkl
          have P3 : ∀ w', St o w' (own 56 1 vm es.length (ds.map Prod.snd) :: pairsM 9 1 16 mkTexts mkTexts' cnt ds :: R) → w'.cell? ⟨b1, q1 + 0, none⟩ = (mkTexts j)[0]? := fun w' hS => hc1 w' (pairs_rd hds m1 hS hjl).2.2.1 0 _ (by have := rep_at (n := es[j].2) (c := mkTexts j) (rest := []) hkl; rw [List.append_nil] at this; rw [show (mkTexts j).length = 1 from rfl] at this; rw [this]; rfl)
          have P4 : ∀ w', St o w' (own 56 1 vm es.length (ds.map Prod.snd) :: pairsM 9 1 16 mkTexts mkTexts' cnt ds :: R) → w'.cell? ⟨b2, q2 + 0, none⟩ = (mkTexts j)[0]? := fun w' hS => hc2 w' (pairs_rd hds m1 hS hjl).2.2.2 0 _ (by have := rep_at (n := es[j].2) (c := mkTexts j) (rest := rep cnt (mkTexts' j)) hkl; rw [show (mkTexts j).length = 1 from rfl] at this; rw [this]; rfl)
          (try simp only [hkn, decide_true, still_tt, o_pickTp, guardV_true, guardW_true, o_subp])
          refine rp hp0 ?_
          refine rr_load one56 (P1 _ hS) ?_
          refine rp hp1 ?_
          refine rr_load one9 (P3 _ hS) ?_
          skip
          rw [wr_i64 (x := -1000000 - (j : Int)) (by omega) (by omega)]
          refine (mark Z hT (by simp [ho]) (-1000000 - (j : Int)) (by omega) (by omega) hS).mono fun r w5 ⟨hr, hS⟩ => ?_
          subst hr
          refine rs_load one9 (P3 _ hS) ?_
          refine rs_load one56 (P1 _ hS) ?_
          (try refine rp (fun w => run_eql_strB _ _ _ _ w) ?_)
          (try simp only [o_notp, Bool.not_true, o_pickFp, guardV_ff, o_lssp])
          (try simp only [hkn, decide_true, still_tt, o_pickTp, guardV_true, guardW_true, o_subp])
          refine rp hpm ?_
          refine rr_load one56 (P2 _ hS) ?_
          refine rp hp2 ?_
          refine rr_load one9 (P4 _ hS) ?_
          skip
          rw [wr_i64 (x := -1000000 - (j : Int)) (by omega) (by omega)]
          refine (mark Z hT (by simp [ho]) (-1000000 - (j : Int)) (by omega) (by omega) hS).mono fun r w5 ⟨hr, hS⟩ => ?_
          subst hr
          (try simp only [os_eqlp, beq_self_eq_true, o_notp, Bool.not_true, o_pickFp, guardV_ff, o_geqp])
          refine rs_load one9 (P4 _ hS) ?_
          refine rs_load one56 (P2 _ hS) ?_
          refine rs_load one9 (P3 _ hS) ?_
          refine rs_load one56 (P1 _ hS) ?_
          (try refine rp (fun w => run_eql_strB _ _ _ _ w) ?_)
          skip
          (try simp only [hge, decide_false, o_pickFp, condF, guardV_ft, guardW_ft, still_ft])
          refine rs_load one9 (P4 _ hS) (rs_load one56 (P2 _ hS) (rs_load one9 (P3 _ hS) (rs_load one56 (P1 _ hS) ?_)))
          skip
          rw [wr_i64 (x := (k : Int) + 1) (by omega) (by omega)]
          exact ⟨m3 - 1, by omega, k + 1, rfl, by omega, hS⟩
        · have hge : (es[j].2 : Int) ≤ (k : Int) := by omega
          have P5 : ∀ w', St o w' (own 56 1 vm es.length (ds.map Prod.snd) :: pairsM 9 1 16 mkTexts mkTexts' cnt ds :: R) → w'.cell? ⟨b2, q2 + 0, none⟩ = (mkTexts' j)[0]? := fun w' hS => hc2 w' (pairs_rd hds m1 hS hjl).2.2.2 0 _ (by have := rep_at2 (n := es[j].2) (m := cnt) (c := mkTexts j) (d := mkTexts' j) (i := k) (by rw [mkTexts_len', mkTexts_len]) (by omega) hk3; rw [show (mkTexts j).length = 1 from rfl] at this; rw [this]; rfl)
          (try simp only [hkn, decide_false, o_pickFp, guardV_ff, o_lssp, o_geqp, hge, decide_true, o_pickTp, guardV_true, still_tt, guardW_true, o_subp, guardV_ft, guardW_ft, still_ft])
          refine rp hpm ?_
          refine rr_load one56 (P2 _ hS) ?_
          refine rp hp2 ?_
          refine rr_load one9 (P5 _ hS) ?_
          skip
          rw [wr_i64 (x := -2000000 - (j : Int)) (by omega) (by omega)]
          refine (mark Z hT (by simp [ho]) (-2000000 - (j : Int)) (by omega) (by omega) hS).mono fun r w5 ⟨hr, hS⟩ => ?_
          subst hr
          refine rs_load one9 (P5 _ hS) ?_
          refine rs_load one56 (P2 _ hS) ?_
          (try refine rp (fun w => run_eql_strB _ _ _ _ w) ?_)
          (try simp only [o_notp, Bool.not_true, condF])
          rw [wr_i64 (x := (k : Int) + 1) (by omega) (by omega)]
          exact ⟨m3 - 1, by omega, k + 1, rfl, by omega, hS⟩
      · (try simp only [o_add, o_lssp, o_lss, hlt3, decide_false, condF])
        rw [wr_i64 (x := (j : Int) + 1) (by omega) (by omega)]
        exact ⟨m - 1, by omega, j + 1, rfl, by omega, hS⟩
    · (try simp only [o_add, o_lss, hlt2, decide_false, condF])
      exact ⟨by first | rfl | trivial, pairs_end hds hS.drop⟩
set_option maxRecDepth 100000 in
theorem apartTexts {es : List (Value × Nat)} {vl : Value} (hl : es.length ≤ 600) (hT : Tab o) (ho : old o ∈ R) (hx : Ent o R fun w => Rd w 1 vl es.length (es.map Prod.fst)) (h : St o w (rowsX 9 1 16 es :: R)) :
    CallV Tryz.prog Z 41 #[vl] w fun r w' => r = .bool true ∧ St o w' (rowsX 9 1 16 es :: R) := by
  obtain ⟨al, cl, rfl⟩ := (hx w h.drop).form
  refine f41.calls ?_
  unfold f41.sh
  refine ⟨fun m y w' => ∃ i : Nat, y = .int .i64 i ∧ m + i = es.length ∧ St o w' (rowsM 9 1 16 mkTexts 0 (es.take i) :: rowsX 9 1 16 (es.drop i) :: R), ⟨es.length, 0, rfl, rfl, h.emp.mono fun _ _ => trivial⟩, ?_⟩
  clear h
  rintro m _ w1 ⟨i, rfl, hi, hS⟩ _
  by_cases hlt : (i : Int) < (es.length : Int)
  · have hil : i < es.length := by omega
    (try simp only [o_subp, o_add, ln_35_3, o_lss, hlt, decide_true, condT])
    obtain ⟨b0, q0, hp0, hc0⟩ := (hx w1 hS.drop.drop).adr el35 .i64 i hil
    have P0 : ∀ w', St o w' R → w'.cell? ⟨b0, q0, none⟩ = some es[i].1 := fun w' hS => by have := hc0 w' (hx w' hS) 0 es[i].1 (by rw [at_one]; simp [hil]); simpa using this
    obtain ⟨xs, hb, hxl, hS⟩ := mark_step hS hil
    refine ⟨fun m2 y w' => ∃ k : Nat, y = .int .i64 k ∧ m2 + k = es[i].2 ∧ St o w' (own 9 1 es[i].1 es[i].2 (rep k (mkTexts i) ++ xs.drop (k * 1)) :: rowsM 9 1 16 mkTexts 0 (es.take i) :: rowsX 9 1 16 (es.drop (i + 1)) :: R), ⟨es[i].2, 0, rfl, rfl, by simpa [rep] using hS⟩, ?_⟩
    clear hS
    rintro m2 _ w2 ⟨k, rfl, hk, hS⟩ _
    refine r1 (hp0 _) (r_load one56 (P0 _ hS.drop.drop.drop) ?_)
    refine r1 ((hS.own_rd m0).len sl56 _ rfl _ _) ?_
    by_cases hlt2 : (k : Int) < (es[i].2 : Int)
    · have hkn : k < es[i].2 := by omega
      (try simp only [o_add, o_lss, hlt2, decide_true, condT])
      refine ⟨fun w3 hdr => ?_⟩
      have hS := hS.drew hdr
      obtain ⟨b, q, hp, hc⟩ := (hS.own_rd m0).adr el56 .i64 k hkn
      refine rp hp0 ?_
      refine rr_load one56 (P0 _ hS.drop.drop.drop) ?_
      skip
      rw [wr_i64 (x := -1000000 - (i : Int)) (by omega) (by omega)]
      refine (mark Z hT (by simp [ho]) (-1000000 - (i : Int)) (by omega) (by omega) hS).mono fun r w4 ⟨hr, hS⟩ => ?_
      subst hr
      refine rs_load one56 (P0 _ hS.drop.drop.drop) ?_
      refine rp hp ?_
      refine r_store_ix hS el56 one9 .i64 k hkn (hp _) rfl fun w5 hS => ?_
      have e2 := mark_set (c := mkTexts i) (sz := 1) (k := k) rfl hxl hkn
      have hS : St o w5 (own 9 1 es[i].1 es[i].2 (setL (rep k (mkTexts i) ++ xs.drop (k * 1)) (k * 1) (mkTexts i)) :: rowsM 9 1 16 mkTexts 0 (es.take i) :: rowsX 9 1 16 (es.drop (i + 1)) :: R) := by rw [Nat.mul_one] at hS ⊢; exact hS
      rw [e2] at hS
      skip
      rw [wr_i64 (x := (k : Int) + 1) (by omega) (by omega)]
      exact ⟨m2 - 1, by omega, k + 1, rfl, by omega, hS⟩
    · have hkn : k = es[i].2 := by omega
      subst hkn
      (try simp only [o_add, o_lss, hlt2, decide_false, condF])
      have hdr0 : xs.drop (es[i].2 * 1) = [] := List.drop_eq_nil_of_le (by omega)
      rw [hdr0, List.append_nil] at hS
      have hS := mark_done hil hb hS
      rw [wr_i64 (x := (i : Int) + 1) (by omega) (by omega)]
      exact ⟨m - 1, by omega, i + 1, rfl, by omega, hS⟩
  · have hil : i = es.length := by omega
    subst hil
    (try simp only [o_subp, o_add, ln_35_3, o_lss, hlt, decide_false, condF])
    have hS := hS.swap.drop
    rw [List.take_length] at hS
    refine (grownTexts Z 1 (by omega) hl hT ho hx hS).mono fun r w2 ⟨hr, hS⟩ => ?_
    subst hr
    refine (grownTexts Z 24 (by omega) hl hT ho hx hS).mono fun r w3 ⟨hr, hS⟩ => ?_
    subst hr
    (try simp only [o_pickT, guardW_true])
    exact ⟨by first | rfl | trivial, rowsM_end hS⟩
end
def mkFiles (i : Nat) : List Value := [.string (str (33 :: Lib.itoa (-1000000 - (i : Int)))), .slice none 0 0, .int .i64 0]
def mkFiles' (i : Nat) : List Value := [.string (str (33 :: Lib.itoa (-2000000 - (i : Int)))), .slice none 0 0, .int .i64 0]
theorem mkFiles_ones (i : Nat) : ones (mkFiles i) ∧ ones (mkFiles' i) := by
  constructor
  · intro u hu
    simp only [mkFiles, List.mem_cons, List.not_mem_nil, or_false] at hu
    rcases hu with rfl | rfl | rfl <;> rfl
  · intro u hu
    simp only [mkFiles', List.mem_cons, List.not_mem_nil, or_false] at hu
    rcases hu with rfl | rfl | rfl <;> rfl
theorem mkFiles_len (i : Nat) : (mkFiles i).length = 3 := rfl
theorem mkFiles_len' (i : Nat) : (mkFiles' i).length = 3 := rfl
section
variable (Z : List PanicEntry → World → Prop) {o w : World} {R As : List HProp}
set_option maxRecDepth 100000 in
theorem grownFiles (cnt : Nat) (hcnt : cnt ≤ 24) {es : List (Value × Nat)} {vl : Value} (hl : es.length ≤ 600) (hT : Tab o) (ho : old o ∈ R) (hx : Ent o R fun w => Rd w 1 vl es.length (es.map Prod.fst)) (h : St o w (rowsM 71 3 48 mkFiles 0 es :: R)) :
    CallV Tryz.prog Z 81 #[vl, .int .i64 cnt] w fun r w' => r = .bool true ∧ St o w' (rowsM 71 3 48 mkFiles 0 es :: R) := by
  obtain ⟨al, cl, rfl⟩ := (hx w h.drop).form
  refine f81.calls ?_
  unfold f81.sh
  refine ⟨fun m x y w' => ∃ (i : Nat) (ds : List ((Value × Nat) × Value)), y = .int .i64 i ∧ m + i = es.length ∧ ds.map Prod.fst = es.take i ∧ St o w' (own 22 1 x i (ds.map Prod.snd) :: pairsM 71 3 48 mkFiles mkFiles' cnt ds :: rowsM 71 3 48 mkFiles i (es.drop i) :: R), ⟨es.length, 0, [], rfl, rfl, rfl, (h.emp.mono fun _ _ => trivial).own_nil _ _⟩, ?_⟩
  clear h
  rintro m vm _ w1 ⟨i, ds, rfl, hi, hds, hS⟩ _
  by_cases hlt : (i : Int) < (es.length : Int)
  · have hil : i < es.length := by omega
    have hdl : ds.length = i := by have := congrArg List.length hds; simp only [List.length_map, List.length_take] at this; omega
    (try simp only [o_sub, o_add, ln_45_3, o_lss, hlt, decide_true, condT])
    obtain ⟨b0, q0, hp0, hc0⟩ := (hx w1 hS.drop.drop.drop).adr el45 .i64 i hil
    refine r1 (hp0 _) (r_load one22 (v := es[i].1) (by have := hc0 w1 (hx w1 hS.drop.drop.drop) 0 es[i].1 (by rw [at_one]; simp [hil]); simpa using this) ?_)
    obtain ⟨hb, hS⟩ := grow_step (hS.put 2) hil
    have hS := hS.twin_start
    refine ⟨fun m2 x y w' => ∃ k : Nat, y = .int .i64 k ∧ m2 + k = cnt ∧ St o w' (twin 71 3 es[i].1 es[i].2 x k (rep es[i].2 (mkFiles i)) (rep k (mkFiles' i)) :: pairsM 71 3 48 mkFiles mkFiles' cnt ds :: rowsM 71 3 48 mkFiles (i + 1) (es.drop (i + 1)) :: own 22 1 vm i (ds.map Prod.snd) :: R), ⟨cnt, 0, rfl, rfl, hS⟩, ?_⟩
    clear hS
    rintro m2 vk _ w2 ⟨k, rfl, hk, hS⟩ _
    by_cases hlt2 : (k : Int) < (cnt : Int)
    · (try simp only [o_add, o_lss, hlt2, decide_true, condT])
      rw [wr_i64 (x := -2000000 - (i : Int)) (by omega) (by omega)]
      refine (mark Z hT (by simp [ho]) (-2000000 - (i : Int)) (by omega) (by omega) hS).mono fun r w3 ⟨hr, hS⟩ => ?_
      subst hr
      generalize hsm : str (33 :: Lib.itoa (-2000000 - (i : Int))) = sm
      refine r_build (cells := #[.string sm, .slice none 0 0, .int .i64 0]) (by kernel_rfl) ?_
      subst hsm
      refine r_sliceN el22 hS 1 _ [mkFiles' i] rfl (by omega) (by omega) (by omega) (by intro v hv; simp at hv; subst hv; rfl) rfl fun g w4 hS => ?_
      have e1 : [mkFiles' i].flatten = mkFiles' i := by simp
      rw [e1] at hS
      have hsrc := (hS.own_rd m0).src Tryz.underlying22 (mkFiles_ones i).2
      refine r_twin el22 hS.swap hsrc (by omega) (by simp only [maxLen]; omega) fun v' w5 hS => ?_
      have hS := hS.swap.drop
      rw [← rep_succ] at hS
      skip
      rw [wr_i64 (x := (k : Int) + 1) (by omega) (by omega)]
      exact ⟨m2 - 1, by omega, k + 1, rfl, by omega, hS⟩
    · have hkc : k = cnt := by omega
      subst hkc
      (try simp only [o_add, o_lss, hlt2, decide_false, condF])
      have hvk := hS.twin_one
      refine r_push el45 (hS.pick 3) vk hvk (by omega) (by simp only [maxLen]; omega) fun v' w3 hS => ?_
      skip
      rw [wr_i64 (x := (i : Int) + 1) (by omega) (by omega)]
      have hS := grow_done hil hdl hb (hS.put 2)
      refine ⟨m - 1, by omega, i + 1, ds ++ [(es[i], vk)], rfl, by omega, by rw [List.map_append, hds, List.take_succ_eq_append_getElem hil]; rfl, ?_⟩
      rw [List.map_append]
      exact hS.swap
  · have hil : i = es.length := by omega
    subst hil
    rw [List.take_length] at hds
    (try simp only [o_sub, o_add, ln_45_3, o_lss, hlt, decide_false, condF])
    refine ⟨fun m y w' => ∃ j : Nat, y = .int .i64 j ∧ m + j = es.length ∧ St o w' (own 22 1 vm es.length (ds.map Prod.snd) :: pairsM 71 3 48 mkFiles mkFiles' cnt ds :: R), ⟨es.length, 0, rfl, rfl, (hS.pick 2).drop⟩, ?_⟩
    clear hS hi hlt
    rintro m _ w2 ⟨j, rfl, hj, hS⟩ _
    by_cases hlt2 : (j : Int) < (es.length : Int)
    · have hjl : j < es.length := by omega
      (try simp only [o_add, o_lss, hlt2, decide_true, condT])
      obtain ⟨b0, q0, hp0, hc0⟩ := (hx w2 hS.drop.drop).adr el45 .i64 j hjl
      obtain ⟨hd, hb, hr1, hr2⟩ := pairs_rd hds m1 hS hjl
      have hmr := hS.own_rd m0
      obtain ⟨bm, qm, hpm, hcm⟩ := hmr.adr el45 .i64 j hjl
      have P1 : ∀ w', St o w' (own 22 1 vm es.length (ds.map Prod.snd) :: pairsM 71 3 48 mkFiles mkFiles' cnt ds :: R) → w'.cell? ⟨b0, q0, none⟩ = some es[j].1 := fun w' hS => by have := hc0 w' (hx w' hS.drop.drop) 0 es[j].1 (by rw [at_one]; simp [hjl]); simpa using this
      have P2 : ∀ w', St o w' (own 22 1 vm es.length (ds.map Prod.snd) :: pairsM 71 3 48 mkFiles mkFiles' cnt ds :: R) → w'.cell? ⟨bm, qm, none⟩ = some ds[j].2 := fun w' hS => by have := hcm w' (hS.own_rd m0) 0 ds[j].2 (by rw [at_one]; simp [hd]); simpa using this
      refine r1 (hp0 _) (r_load one22 (P1 _ hS) ?_)
      refine r1 (hr1.len sl22 _ rfl _ _) ?_
      refine ⟨fun m3 y w' => ∃ k : Nat, y = .int .i64 k ∧ m3 + k = es[j].2 + cnt ∧ St o w' (own 22 1 vm es.length (ds.map Prod.snd) :: pairsM 71 3 48 mkFiles mkFiles' cnt ds :: R), ⟨es[j].2 + cnt, 0, rfl, rfl, hS⟩, ?_⟩
      clear hS
      rintro m3 _ w3 ⟨k, rfl, hk, hS⟩ _
      refine r1 (run_add _ _ _ _ _ _) ?_
      rw [wr_i64 (x := (es[j].2 : Int) + (cnt : Int)) (by omega) (by omega)]
      by_cases hlt3 : (k : Int) < (es[j].2 : Int) + (cnt : Int)
      · (try simp only [o_add, o_lssp, o_lss, hlt3, decide_true, condT])
        have hk3 : k < es[j].2 + cnt := by omega
        obtain ⟨b2, q2, hp2, hc2⟩ := hr2.adr el22 .i64 k hk3
        refine ⟨fun w4 hdr => ?_⟩
        have hS := hS.drew hdr
        by_cases hkn : (k : Int) < (es[j].2 : Int)
        · have hkl : k < es[j].2 := by omega
          have hge : ¬ (es[j].2 : Int) ≤ (k : Int) := by omega
          obtain ⟨b1, q1, hp1, hc1⟩ := hr1.adr el22 .i64 k hkl
          have P3 : ∀ w', St o w' (own 22 1 vm es.length (ds.map Prod.snd) :: pairsM 71 3 48 mkFiles mkFiles' cnt ds :: R) → w'.cell? ⟨b1, q1 + 0, none⟩ = (mkFiles j)[0]? := fun w' hS => hc1 w' (pairs_rd hds m1 hS hjl).2.2.1 0 _ (by have := rep_at (n := es[j].2) (c := mkFiles j) (rest := []) hkl; rw [List.append_nil] at this; rw [show (mkFiles j).length = 3 from rfl] at this; rw [this]; rfl)
          have P4 : ∀ w', St o w' (own 22 1 vm es.length (ds.map Prod.snd) :: pairsM 71 3 48 mkFiles mkFiles' cnt ds :: R) → w'.cell? ⟨b2, q2 + 0, none⟩ = (mkFiles j)[0]? := fun w' hS => hc2 w' (pairs_rd hds m1 hS hjl).2.2.2 0 _ (by have := rep_at (n := es[j].2) (c := mkFiles j) (rest := rep cnt (mkFiles' j)) hkl; rw [show (mkFiles j).length = 3 from rfl] at this; rw [this]; rfl)
          (try simp only [hkn, decide_true, still_tt, o_pickTp, guardV_true, guardW_true, o_subp])
          refine rp hp0 ?_
          refine rr_load one22 (P1 _ hS) ?_
          refine rp hp1 ?_
          (try simp only [fa_71_0p, Nat.add_zero])
          refine rr_load one9 (P3 _ hS) ?_
          skip
          rw [wr_i64 (x := -1000000 - (j : Int)) (by omega) (by omega)]
          refine (mark Z hT (by simp [ho]) (-1000000 - (j : Int)) (by omega) (by omega) hS).mono fun r w5 ⟨hr, hS⟩ => ?_
          subst hr
          refine rs_load one9 (P3 _ hS) ?_
          refine rs_load one22 (P1 _ hS) ?_
          (try refine rp (fun w => run_eql_strB _ _ _ _ w) ?_)
          (try simp only [o_notp, Bool.not_true, o_pickFp, guardV_ff, o_lssp])
          (try simp only [hkn, decide_true, still_tt, o_pickTp, guardV_true, guardW_true, o_subp])
          refine rp hpm ?_
          refine rr_load one22 (P2 _ hS) ?_
          refine rp hp2 ?_
          (try simp only [fa_71_0p, Nat.add_zero])
          refine rr_load one9 (P4 _ hS) ?_
          skip
          rw [wr_i64 (x := -1000000 - (j : Int)) (by omega) (by omega)]
          refine (mark Z hT (by simp [ho]) (-1000000 - (j : Int)) (by omega) (by omega) hS).mono fun r w5 ⟨hr, hS⟩ => ?_
          subst hr
          (try simp only [os_eqlp, beq_self_eq_true, o_notp, Bool.not_true, o_pickFp, guardV_ff, o_geqp])
          refine rs_load one9 (P4 _ hS) ?_
          refine rs_load one22 (P2 _ hS) ?_
          refine rs_load one9 (P3 _ hS) ?_
          refine rs_load one22 (P1 _ hS) ?_
          (try refine rp (fun w => run_eql_strB _ _ _ _ w) ?_)
          skip
          (try simp only [hge, decide_false, o_pickFp, condF, guardV_ft, guardW_ft, still_ft])
          refine rs_load one9 (P4 _ hS) (rs_load one22 (P2 _ hS) (rs_load one9 (P3 _ hS) (rs_load one22 (P1 _ hS) ?_)))
          skip
          rw [wr_i64 (x := (k : Int) + 1) (by omega) (by omega)]
          exact ⟨m3 - 1, by omega, k + 1, rfl, by omega, hS⟩
        · have hge : (es[j].2 : Int) ≤ (k : Int) := by omega
          have P5 : ∀ w', St o w' (own 22 1 vm es.length (ds.map Prod.snd) :: pairsM 71 3 48 mkFiles mkFiles' cnt ds :: R) → w'.cell? ⟨b2, q2 + 0, none⟩ = (mkFiles' j)[0]? := fun w' hS => hc2 w' (pairs_rd hds m1 hS hjl).2.2.2 0 _ (by have := rep_at2 (n := es[j].2) (m := cnt) (c := mkFiles j) (d := mkFiles' j) (i := k) (by rw [mkFiles_len', mkFiles_len]) (by omega) hk3; rw [show (mkFiles j).length = 3 from rfl] at this; rw [this]; rfl)
          (try simp only [hkn, decide_false, o_pickFp, guardV_ff, o_lssp, o_geqp, hge, decide_true, o_pickTp, guardV_true, still_tt, guardW_true, o_subp, guardV_ft, guardW_ft, still_ft])
          refine rp hpm ?_
          refine rr_load one22 (P2 _ hS) ?_
          refine rp hp2 ?_
          (try simp only [fa_71_0p, Nat.add_zero])
          refine rr_load one9 (P5 _ hS) ?_
          skip
          rw [wr_i64 (x := -2000000 - (j : Int)) (by omega) (by omega)]
          refine (mark Z hT (by simp [ho]) (-2000000 - (j : Int)) (by omega) (by omega) hS).mono fun r w5 ⟨hr, hS⟩ => ?_
          subst hr
          refine rs_load one9 (P5 _ hS) ?_
          refine rs_load one22 (P2 _ hS) ?_
          (try refine rp (fun w => run_eql_strB _ _ _ _ w) ?_)
          (try simp only [o_notp, Bool.not_true, condF])
          rw [wr_i64 (x := (k : Int) + 1) (by omega) (by omega)]
          exact ⟨m3 - 1, by omega, k + 1, rfl, by omega, hS⟩
      · (try simp only [o_add, o_lssp, o_lss, hlt3, decide_false, condF])
        rw [wr_i64 (x := (j : Int) + 1) (by omega) (by omega)]
        exact ⟨m - 1, by omega, j + 1, rfl, by omega, hS⟩
    · (try simp only [o_add, o_lss, hlt2, decide_false, condF])
      exact ⟨by first | rfl | trivial, pairs_end hds hS.drop⟩
set_option maxRecDepth 100000 in
theorem apartFiles {es : List (Value × Nat)} {vl : Value} (hl : es.length ≤ 600) (hT : Tab o) (ho : old o ∈ R) (hx : Ent o R fun w => Rd w 1 vl es.length (es.map Prod.fst)) (h : St o w (rowsX 71 3 48 es :: R)) :
    CallV Tryz.prog Z 51 #[vl] w fun r w' => r = .bool true ∧ St o w' (rowsX 71 3 48 es :: R) := by
  obtain ⟨al, cl, rfl⟩ := (hx w h.drop).form
  refine f51.calls ?_
  unfold f51.sh
  refine ⟨fun m y w' => ∃ i : Nat, y = .int .i64 i ∧ m + i = es.length ∧ St o w' (rowsM 71 3 48 mkFiles 0 (es.take i) :: rowsX 71 3 48 (es.drop i) :: R), ⟨es.length, 0, rfl, rfl, h.emp.mono fun _ _ => trivial⟩, ?_⟩
  clear h
  rintro m _ w1 ⟨i, rfl, hi, hS⟩ _
  by_cases hlt : (i : Int) < (es.length : Int)
  · have hil : i < es.length := by omega
    (try simp only [o_subp, o_add, ln_45_3, o_lss, hlt, decide_true, condT])
    obtain ⟨b0, q0, hp0, hc0⟩ := (hx w1 hS.drop.drop).adr el45 .i64 i hil
    have P0 : ∀ w', St o w' R → w'.cell? ⟨b0, q0, none⟩ = some es[i].1 := fun w' hS => by have := hc0 w' (hx w' hS) 0 es[i].1 (by rw [at_one]; simp [hil]); simpa using this
    obtain ⟨xs, hb, hxl, hS⟩ := mark_step hS hil
    refine ⟨fun m2 y w' => ∃ k : Nat, y = .int .i64 k ∧ m2 + k = es[i].2 ∧ St o w' (own 71 3 es[i].1 es[i].2 (rep k (mkFiles i) ++ xs.drop (k * 3)) :: rowsM 71 3 48 mkFiles 0 (es.take i) :: rowsX 71 3 48 (es.drop (i + 1)) :: R), ⟨es[i].2, 0, rfl, rfl, by simpa [rep] using hS⟩, ?_⟩
    clear hS
    rintro m2 _ w2 ⟨k, rfl, hk, hS⟩ _
    refine r1 (hp0 _) (r_load one22 (P0 _ hS.drop.drop.drop) ?_)
    refine r1 ((hS.own_rd m0).len sl22 _ rfl _ _) ?_
    by_cases hlt2 : (k : Int) < (es[i].2 : Int)
    · have hkn : k < es[i].2 := by omega
      (try simp only [o_add, o_lss, hlt2, decide_true, condT])
      refine ⟨fun w3 hdr => ?_⟩
      have hS := hS.drew hdr
      obtain ⟨b, q, hp, hc⟩ := (hS.own_rd m0).adr el22 .i64 k hkn
      refine rp hp0 ?_
      refine rr_load one22 (P0 _ hS.drop.drop.drop) ?_
      skip
      rw [wr_i64 (x := -1000000 - (i : Int)) (by omega) (by omega)]
      refine (mark Z hT (by simp [ho]) (-1000000 - (i : Int)) (by omega) (by omega) hS).mono fun r w4 ⟨hr, hS⟩ => ?_
      subst hr
      refine rs_load one22 (P0 _ hS.drop.drop.drop) ?_
      generalize hsm : str (33 :: Lib.itoa (-1000000 - (i : Int))) = sm
      refine rp_build (cells := #[.string sm, .slice none 0 0, .int .i64 0]) (by kernel_rfl) ?_
      subst hsm
      refine rp hp ?_
      refine r_store_ixN hS el22 ag71 .i64 k hkn (hp _) (us := mkFiles i) rfl (mkFiles_ones i).1 fun w5 hS => ?_
      have e2 := mark_set (c := mkFiles i) (sz := 3) (k := k) rfl hxl hkn
      rw [e2] at hS
      skip
      rw [wr_i64 (x := (k : Int) + 1) (by omega) (by omega)]
      exact ⟨m2 - 1, by omega, k + 1, rfl, by omega, hS⟩
    · have hkn : k = es[i].2 := by omega
      subst hkn
      (try simp only [o_add, o_lss, hlt2, decide_false, condF])
      have hdr0 : xs.drop (es[i].2 * 3) = [] := List.drop_eq_nil_of_le (by omega)
      rw [hdr0, List.append_nil] at hS
      have hS := mark_done hil hb hS
      rw [wr_i64 (x := (i : Int) + 1) (by omega) (by omega)]
      exact ⟨m - 1, by omega, i + 1, rfl, by omega, hS⟩
  · have hil : i = es.length := by omega
    subst hil
    (try simp only [o_subp, o_add, ln_45_3, o_lss, hlt, decide_false, condF])
    have hS := hS.swap.drop
    rw [List.take_length] at hS
    refine (grownFiles Z 1 (by omega) hl hT ho hx hS).mono fun r w2 ⟨hr, hS⟩ => ?_
    subst hr
    refine (grownFiles Z 24 (by omega) hl hT ho hx hS).mono fun r w3 ⟨hr, hS⟩ => ?_
    subst hr
    (try simp only [o_pickT, guardW_true])
    exact ⟨by first | rfl | trivial, rowsM_end hS⟩
end
end Go.Proofs.YtcbbaiglcgemmaaGreatDoor
