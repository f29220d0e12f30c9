/- Lists that share no memory: what is written into each is found in it, grown by one and by many. Printed by wip/sh/mkap.py. -/
import Derived.Test.YthobnaagjhooeaaGreatDoorShTwin
import Derived.Test.YthobnaagjhooeaaGreatDoorW1
import Derived.Test.YthobnaagjhooeaaGreatDoorP1
import Derived.Test.YthobnaagjhooeaaGreatDoorQp
set_option linter.unusedVariables false
set_option linter.unusedSimpArgs false
namespace Go.Proofs.YthobnaagjhooeaaGreatDoor
open Go.Sh
def mkBytes (d : Nat) (i : Nat) : List Value := [.int .u8 (IntKind.u8.wrap (((i : Int).tdiv d).tmod 100))]
def mkBytes' (d : Nat) (i : Nat) : List Value := [.int .u8 (IntKind.u8.wrap (100 + ((i : Int).tdiv d).tmod 100))]
theorem mkBytes_ones (d i : Nat) : ones (mkBytes d i) ∧ ones (mkBytes' d i) := ⟨by intro u hu; simp [mkBytes] at hu; subst hu; rfl, by intro u hu; simp [mkBytes'] at hu; subst hu; rfl⟩
theorem mkBytes_len (d : Nat) (i : Nat) : ((mkBytes d) i).length = 1 := rfl
theorem mkBytes_len' (d : Nat) (i : Nat) : ((mkBytes' d) i).length = 1 := rfl
section
variable (Z : List PanicEntry → World → Prop) {o w : World} {R As : List HProp}
set_option maxRecDepth 100000 in
theorem grownBytes {d : Nat} (hd0 : 1 ≤ d) (hd1 : d ≤ 10000) (cnt : Nat) (hcnt : cnt ≤ 64) {es : List (Value × Nat)} {vl : Value} (hl : es.length ≤ 600) (hT : Tab o) (ho : old o ∈ R) (hx : Ent o R fun w => Rd w 1 vl es.length (es.map Prod.fst)) (h : St o w (rowsM 5 1 1 (mkBytes d) 0 es :: R)) :
    CallV Tryz.prog Z 83 #[vl, .int .i64 d, .int .i64 cnt] w fun r w' => r = .bool true ∧ St o w' (rowsM 5 1 1 (mkBytes d) 0 es :: R) := by
  obtain ⟨al, cl, rfl⟩ := (hx w h.drop).form
  refine f83.calls ?_
  unfold f83.sh
  refine ⟨fun m x y w' => ∃ (i : Nat) (ds : List ((Value × Nat) × Value)), y = .int .i64 i ∧ m + i = es.length ∧ ds.map Prod.fst = es.take i ∧ St o w' (own 22 1 x i (ds.map Prod.snd) :: pairsM 5 1 1 (mkBytes d) (mkBytes' d) cnt ds :: rowsM 5 1 1 (mkBytes d) i (es.drop i) :: R), ⟨es.length, 0, [], rfl, rfl, rfl, (h.emp.mono fun _ _ => trivial).own_nil _ _⟩, ?_⟩
  clear h
  rintro m vm _ w1 ⟨i, ds, rfl, hi, hds, hS⟩ _
  by_cases hlt : (i : Int) < (es.length : Int)
  · have hil : i < es.length := by omega
    have hdl : ds.length = i := by have := congrArg List.length hds; simp only [List.length_map, List.length_take] at this; omega
    (try simp only [o_add, ln_51_3, o_lss, hlt, decide_true, condT])
    obtain ⟨b0, q0, hp0, hc0⟩ := (hx w1 hS.drop.drop.drop).adr el51 .i64 i hil
    refine r1 (hp0 _) (r_load one22 (v := es[i].1) (by have := hc0 w1 (hx w1 hS.drop.drop.drop) 0 es[i].1 (by rw [at_one]; simp [hil]); simpa using this) ?_)
    obtain ⟨hb, hS⟩ := grow_step (hS.put 2) hil
    have hS := hS.twin_start
    refine ⟨fun m2 x y w' => ∃ k : Nat, y = .int .i64 k ∧ m2 + k = cnt ∧ St o w' (twin 5 1 es[i].1 es[i].2 x k (rep es[i].2 ((mkBytes d) i)) (rep k ((mkBytes' d) i)) :: pairsM 5 1 1 (mkBytes d) (mkBytes' d) cnt ds :: rowsM 5 1 1 (mkBytes d) (i + 1) (es.drop (i + 1)) :: own 22 1 vm i (ds.map Prod.snd) :: R), ⟨cnt, 0, rfl, rfl, hS⟩, ?_⟩
    clear hS
    rintro m2 vk _ w2 ⟨k, rfl, hk, hS⟩ _
    by_cases hlt2 : (k : Int) < (cnt : Int)
    · (try simp only [o_add, o_lss, hlt2, decide_true, condT])
      refine r1 (run_quo _ _ _ _ _ _ (by omega)) ?_
      rw [wr_i64 (x := (i : Int).tdiv d) (tdv_lo _ _) (tdv_hi hl hil hd0)]
      refine r1 (run_rem _ _ _ _ _ _ (by decide)) ?_
      (try simp only [o_add, cv_3_5])
      rw [wr_i64 (x := 100 + ((i : Int).tdiv d).tmod 100) (tmh_lo _) (tmh_hi _)]
      refine r_slice el22 hS 1 _ ((mkBytes' d) i) rfl (by omega) (by omega) (mkBytes_ones d i).2 rfl fun g w4 hS => ?_
      have hsrc := (hS.own_rd m0).src Tryz.underlying22 (mkBytes_ones d i).2
      refine r_twin el22 hS.swap hsrc (by omega) (by simp only [maxLen]; omega) fun v' w5 hS => ?_
      have hS := hS.swap.drop
      rw [← rep_succ] at hS
      skip
      rw [wr_i64 (x := (k : Int) + 1) (by omega) (by omega)]
      exact ⟨m2 - 1, by omega, k + 1, rfl, by omega, hS⟩
    · have hkc : k = cnt := by omega
      subst hkc
      (try simp only [o_add, o_lss, hlt2, decide_false, condF])
      have hvk := hS.twin_one
      refine r_push el51 (hS.pick 3) vk hvk (by omega) (by simp only [maxLen]; omega) fun v' w3 hS => ?_
      skip
      rw [wr_i64 (x := (i : Int) + 1) (by omega) (by omega)]
      have hS := grow_done hil hdl hb (hS.put 2)
      refine ⟨m - 1, by omega, i + 1, ds ++ [(es[i], vk)], rfl, by omega, by rw [List.map_append, hds, List.take_succ_eq_append_getElem hil]; rfl, ?_⟩
      rw [List.map_append]
      exact hS.swap
  · have hil : i = es.length := by omega
    subst hil
    rw [List.take_length] at hds
    (try simp only [o_add, ln_51_3, o_lss, hlt, decide_false, condF])
    refine ⟨fun m y w' => ∃ j : Nat, y = .int .i64 j ∧ m + j = es.length ∧ St o w' (own 22 1 vm es.length (ds.map Prod.snd) :: pairsM 5 1 1 (mkBytes d) (mkBytes' d) cnt ds :: R), ⟨es.length, 0, rfl, rfl, (hS.pick 2).drop⟩, ?_⟩
    clear hS hi hlt
    rintro m _ w2 ⟨j, rfl, hj, hS⟩ _
    by_cases hlt2 : (j : Int) < (es.length : Int)
    · have hjl : j < es.length := by omega
      (try simp only [o_add, o_lss, hlt2, decide_true, condT])
      obtain ⟨b0, q0, hp0, hc0⟩ := (hx w2 hS.drop.drop).adr el51 .i64 j hjl
      obtain ⟨hd, hb, hr1, hr2⟩ := pairs_rd hds m1 hS hjl
      have hmr := hS.own_rd m0
      obtain ⟨bm, qm, hpm, hcm⟩ := hmr.adr el51 .i64 j hjl
      have P1 : ∀ w', St o w' (own 22 1 vm es.length (ds.map Prod.snd) :: pairsM 5 1 1 (mkBytes d) (mkBytes' d) cnt ds :: R) → w'.cell? ⟨b0, q0, none⟩ = some es[j].1 := fun w' hS => by have := hc0 w' (hx w' hS.drop.drop) 0 es[j].1 (by rw [at_one]; simp [hjl]); simpa using this
      have P2 : ∀ w', St o w' (own 22 1 vm es.length (ds.map Prod.snd) :: pairsM 5 1 1 (mkBytes d) (mkBytes' d) cnt ds :: R) → w'.cell? ⟨bm, qm, none⟩ = some ds[j].2 := fun w' hS => by have := hcm w' (hS.own_rd m0) 0 ds[j].2 (by rw [at_one]; simp [hd]); simpa using this
      refine r1 (hp0 _) (r_load one22 (P1 _ hS) ?_)
      refine r1 (hr1.len sl22 _ rfl _ _) ?_
      refine ⟨fun m3 y w' => ∃ k : Nat, y = .int .i64 k ∧ m3 + k = es[j].2 + cnt ∧ St o w' (own 22 1 vm es.length (ds.map Prod.snd) :: pairsM 5 1 1 (mkBytes d) (mkBytes' d) cnt ds :: R), ⟨es[j].2 + cnt, 0, rfl, rfl, hS⟩, ?_⟩
      clear hS
      rintro m3 _ w3 ⟨k, rfl, hk, hS⟩ _
      refine r1 (run_add _ _ _ _ _ _) ?_
      rw [wr_i64 (x := (es[j].2 : Int) + (cnt : Int)) (by omega) (by omega)]
      by_cases hlt3 : (k : Int) < (es[j].2 : Int) + (cnt : Int)
      · (try simp only [o_add, o_lssp, o_lss, hlt3, decide_true, condT])
        have hk3 : k < es[j].2 + cnt := by omega
        obtain ⟨b2, q2, hp2, hc2⟩ := hr2.adr el22 .i64 k hk3
        refine ⟨fun w4 hdr => ?_⟩
        have hS := hS.drew hdr
        by_cases hkn : (k : Int) < (es[j].2 : Int)
        · have hkl : k < es[j].2 := by omega
          have hge : ¬ (es[j].2 : Int) ≤ (k : Int) := by omega
          obtain ⟨b1, q1, hp1, hc1⟩ := hr1.adr el22 .i64 k hkl
          have P3 : ∀ w', St o w' (own 22 1 vm es.length (ds.map Prod.snd) :: pairsM 5 1 1 (mkBytes d) (mkBytes' d) cnt ds :: R) → w'.cell? ⟨b1, q1 + 0, none⟩ = ((mkBytes d) j)[0]? := fun w' hS => hc1 w' (pairs_rd hds m1 hS hjl).2.2.1 0 _ (by have := rep_at (n := es[j].2) (c := (mkBytes d) j) (rest := []) hkl; rw [List.append_nil] at this; rw [show ((mkBytes d) j).length = 1 from rfl] at this; rw [this]; rfl)
          have P4 : ∀ w', St o w' (own 22 1 vm es.length (ds.map Prod.snd) :: pairsM 5 1 1 (mkBytes d) (mkBytes' d) cnt ds :: R) → w'.cell? ⟨b2, q2 + 0, none⟩ = ((mkBytes d) j)[0]? := fun w' hS => hc2 w' (pairs_rd hds m1 hS hjl).2.2.2 0 _ (by have := rep_at (n := es[j].2) (c := (mkBytes d) j) (rest := rep cnt ((mkBytes' d) j)) hkl; rw [show ((mkBytes d) j).length = 1 from rfl] at this; rw [this]; rfl)
          (try simp only [hkn, decide_true, o_pickTp, guardV_true])
          refine rp hp0 ?_
          refine rr_load one22 (P1 _ hS) ?_
          refine rp hp1 ?_
          refine rr_load one5 (P3 _ hS) ?_
          refine rp (fun w => run_quo _ w _ _ _ _ (by omega)) ?_
          rw [wr_i64 (x := (j : Int).tdiv d) (tdv_lo _ _) (tdv_hi hl hjl hd0)]
          refine rp (fun w => run_rem _ w _ _ _ _ (by decide)) ?_
          (try simp only [cv_3_5p, o_neqp, bne_self_eq_false, o_pickFp, guardV_ff])
          (try refine rp (fun w => run_neq_int _ w _ _ _ _ _ _) ?_)
          (first | rw [bne_self] | refine ⟨fun hh => absurd rfl hh, fun _ => ?_⟩ | skip)
          skip
          refine rp hpm ?_
          refine rr_load one22 (P2 _ hS) ?_
          refine rp hp2 ?_
          refine rr_load one5 (P4 _ hS) ?_
          refine rp (fun w => run_quo _ w _ _ _ _ (by omega)) ?_
          rw [wr_i64 (x := (j : Int).tdiv d) (tdv_lo _ _) (tdv_hi hl hjl hd0)]
          refine rp (fun w => run_rem _ w _ _ _ _ (by decide)) ?_
          (try simp only [cv_3_5p, o_neqp, bne_self_eq_false, o_pickFp, guardV_ff, o_geqp])
          (try refine rp (fun w => run_neq_int _ w _ _ _ _ _ _) ?_)
          (first | rw [bne_self] | refine ⟨fun hh => absurd rfl hh, fun _ => ?_⟩ | skip)
          skip
          (try simp only [hge, decide_false, o_pickFp, condF, guardV_ft])
          rw [wr_i64 (x := (k : Int) + 1) (by omega) (by omega)]
          exact ⟨m3 - 1, by omega, k + 1, rfl, by omega, hS⟩
        · have hge : (es[j].2 : Int) ≤ (k : Int) := by omega
          have P5 : ∀ w', St o w' (own 22 1 vm es.length (ds.map Prod.snd) :: pairsM 5 1 1 (mkBytes d) (mkBytes' d) cnt ds :: R) → w'.cell? ⟨b2, q2 + 0, none⟩ = ((mkBytes' d) j)[0]? := fun w' hS => hc2 w' (pairs_rd hds m1 hS hjl).2.2.2 0 _ (by have := rep_at2 (n := es[j].2) (m := cnt) (c := (mkBytes d) j) (d := (mkBytes' d) j) (i := k) (by rw [mkBytes_len', mkBytes_len]) (by omega) hk3; rw [show ((mkBytes d) j).length = 1 from rfl] at this; rw [this]; rfl)
          (try simp only [hkn, decide_false, o_pickFp, guardV_ff, o_geqp, hge, decide_true, o_pickTp, guardV_true, guardV_ft, guardV_u])
          refine rp hpm ?_
          refine rr_load one22 (P2 _ hS) ?_
          refine rp hp2 ?_
          refine rr_load one5 (P5 _ hS) ?_
          refine rp (fun w => run_quo _ w _ _ _ _ (by omega)) ?_
          rw [wr_i64 (x := (j : Int).tdiv d) (tdv_lo _ _) (tdv_hi hl hjl hd0)]
          refine rp (fun w => run_rem _ w _ _ _ _ (by decide)) ?_
          (try simp only [o_addp, cv_3_5p, o_neqp, cond_bne])
          rw [wr_i64 (x := 100 + ((j : Int).tdiv d).tmod 100) (tmh_lo _) (tmh_hi _)]
          (try refine rp (fun w => run_neq_int _ w _ _ _ _ _ _) ?_)
          (first | rw [bne_self] | refine ⟨fun hh => absurd rfl hh, fun _ => ?_⟩ | skip)
          skip
          rw [wr_i64 (x := (k : Int) + 1) (by omega) (by omega)]
          exact ⟨m3 - 1, by omega, k + 1, rfl, by omega, hS⟩
      · (try simp only [o_add, o_lssp, o_lss, hlt3, decide_false, condF])
        rw [wr_i64 (x := (j : Int) + 1) (by omega) (by omega)]
        exact ⟨m - 1, by omega, j + 1, rfl, by omega, hS⟩
    · (try simp only [o_add, o_lss, hlt2, decide_false, condF])
      exact ⟨by first | rfl | trivial, pairs_end hds hS.drop⟩
set_option maxRecDepth 100000 in
theorem apartBytes {es : List (Value × Nat)} {vl : Value} (hl : es.length ≤ 600) (hT : Tab o) (ho : old o ∈ R) (hx : Ent o R fun w => Rd w 1 vl es.length (es.map Prod.fst)) (h : St o w (rowsX 5 1 1 es :: R)) :
    CallV Tryz.prog Z 55 #[vl] w fun r w' => r = .bool true ∧ St o w' (rowsX 5 1 1 es :: R) := by
  obtain ⟨al, cl, rfl⟩ := (hx w h.drop).form
  refine f55.calls ?_
  unfold f55.sh
  refine ⟨fun m y w' => ∃ d : Nat, y = .int .i64 d ∧ (d = 1 ∧ m = 2 ∨ d = 100 ∧ m = 1 ∨ d = 10000 ∧ m = 0) ∧ St o w' (rowsX 5 1 1 es :: R), ⟨2, 1, rfl, by omega, h⟩, ?_⟩
  clear h
  rintro mm _ w0 ⟨d, rfl, hd, hS⟩ _
  have hd0 : 1 ≤ d := by omega
  have hd1 : d ≤ 10000 := by omega
  by_cases hin : d = 1 ∨ d ≤ es.length
  case neg =>
    have hb : ((d : Int) == 1) = false := by simp; omega
    have h2 : ¬ (d : Int) ≤ (es.length : Int) := by omega
    (try simp only [o_mul, ln_51_3, o_eql, hb, o_pickF, guardW_ff, o_leq, h2, decide_false, condF])
    exact ⟨by first | rfl | trivial, hS⟩
  apply via
  · intro post
    by_cases h1 : d = 1
    · have hb : ((d : Int) == 1) = true := by simp [h1]
      (try simp only [o_mul, ln_51_3, o_eql, hb, o_pickT, condT, guardW_tf])
      exact post
    · have hb : ((d : Int) == 1) = false := by simp; omega
      have h2 : (d : Int) ≤ (es.length : Int) := by omega
      (try simp only [o_mul, ln_51_3, o_eql, hb, o_pickF, guardW_ff, o_leq, h2, decide_true, condT])
      exact post
  have hd2 : d = 1 ∨ d = 100 := by omega
  have h := hS
  clear hS
  refine ⟨fun m y w' => ∃ i : Nat, y = .int .i64 i ∧ m + i = es.length ∧ St o w' (rowsM 5 1 1 (mkBytes d) 0 (es.take i) :: rowsX 5 1 1 (es.drop i) :: R), ⟨es.length, 0, rfl, rfl, h.emp.mono fun _ _ => trivial⟩, ?_⟩
  clear h
  rintro m _ w1 ⟨i, rfl, hi, hS⟩ _
  by_cases hlt : (i : Int) < (es.length : Int)
  · have hil : i < es.length := by omega
    (try simp only [o_add, o_lss, hlt, decide_true, condT])
    obtain ⟨b0, q0, hp0, hc0⟩ := (hx w1 hS.drop.drop).adr el51 .i64 i hil
    have P0 : ∀ w', St o w' R → w'.cell? ⟨b0, q0, none⟩ = some es[i].1 := fun w' hS => by have := hc0 w' (hx w' hS) 0 es[i].1 (by rw [at_one]; simp [hil]); simpa using this
    obtain ⟨xs, hb, hxl, hS⟩ := mark_step hS hil
    refine ⟨fun m2 y w' => ∃ k : Nat, y = .int .i64 k ∧ m2 + k = es[i].2 ∧ St o w' (own 5 1 es[i].1 es[i].2 (rep k ((mkBytes d) i) ++ xs.drop (k * 1)) :: rowsM 5 1 1 (mkBytes d) 0 (es.take i) :: rowsX 5 1 1 (es.drop (i + 1)) :: R), ⟨es[i].2, 0, rfl, rfl, by simpa [rep] using hS⟩, ?_⟩
    clear hS
    rintro m2 _ w2 ⟨k, rfl, hk, hS⟩ _
    refine r1 (hp0 _) (r_load one22 (P0 _ hS.drop.drop.drop) ?_)
    refine r1 ((hS.own_rd m0).len sl22 _ rfl _ _) ?_
    by_cases hlt2 : (k : Int) < (es[i].2 : Int)
    · have hkn : k < es[i].2 := by omega
      (try simp only [o_add, o_lss, hlt2, decide_true, condT])
      refine ⟨fun w3 hdr => ?_⟩
      have hS := hS.drew hdr
      obtain ⟨b, q, hp, hc⟩ := (hS.own_rd m0).adr el22 .i64 k hkn
      refine rp hp0 ?_
      refine rr_load one22 (P0 _ hS.drop.drop.drop) ?_
      refine rp (fun w => run_quo _ w _ _ _ _ (by omega)) ?_
      rw [wr_i64 (x := (i : Int).tdiv d) (tdv_lo _ _) (tdv_hi hl hil hd0)]
      refine rp (fun w => run_rem _ w _ _ _ _ (by decide)) ?_
      (try simp only [cv_3_5p])
      refine rp hp ?_
      refine r_store_ix hS el22 one5 .i64 k hkn (hp _) rfl fun w5 hS => ?_
      have e2 := mark_set (c := (mkBytes d) i) (sz := 1) (k := k) rfl hxl hkn
      have hS : St o w5 (own 5 1 es[i].1 es[i].2 (setL (rep k ((mkBytes d) i) ++ xs.drop (k * 1)) (k * 1) ((mkBytes d) i)) :: rowsM 5 1 1 (mkBytes d) 0 (es.take i) :: rowsX 5 1 1 (es.drop (i + 1)) :: R) := by rw [Nat.mul_one] at hS ⊢; exact hS
      rw [e2] at hS
      skip
      rw [wr_i64 (x := (k : Int) + 1) (by omega) (by omega)]
      exact ⟨m2 - 1, by omega, k + 1, rfl, by omega, hS⟩
    · have hkn : k = es[i].2 := by omega
      subst hkn
      (try simp only [o_add, o_lss, hlt2, decide_false, condF])
      have hdr0 : xs.drop (es[i].2 * 1) = [] := List.drop_eq_nil_of_le (by omega)
      rw [hdr0, List.append_nil] at hS
      have hS := mark_done hil hb hS
      rw [wr_i64 (x := (i : Int) + 1) (by omega) (by omega)]
      exact ⟨m - 1, by omega, i + 1, rfl, by omega, hS⟩
  · have hil : i = es.length := by omega
    subst hil
    (try simp only [o_add, o_lss, hlt, decide_false, condF])
    have hS := hS.swap.drop
    rw [List.take_length] at hS
    refine (grownBytes Z (d := d) hd0 hd1 1 (by omega) hl hT ho hx hS).mono fun r w2 ⟨hr, hS⟩ => ?_
    subst hr
    (try simp only [o_pickT, guardW_true])
    refine (grownBytes Z (d := d) hd0 hd1 64 (by omega) hl hT ho hx hS).mono fun r w3 ⟨hr, hS⟩ => ?_
    subst hr
    (try simp only [o_not, Bool.not_true, condF])
    rw [wr_i64 (x := (d : Int) * 100) (by omega) (by omega)]
    exact ⟨mm - 1, by omega, d * 100, by rw [Int.natCast_mul]; rfl, by omega, rowsM_end hS⟩
end
end Go.Proofs.YthobnaagjhooeaaGreatDoor
