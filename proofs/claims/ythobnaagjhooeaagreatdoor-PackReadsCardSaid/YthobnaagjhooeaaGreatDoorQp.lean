/- A list of byte rows: marks written into each of its places, grown by one and by many; what was written is found. -/
import Derived.Test.YthobnaagjhooeaaGreatDoorShTwin
import Derived.Test.YthobnaagjhooeaaGreatDoorShIns
import Derived.Test.YthobnaagjhooeaaGreatDoorW1
import Derived.Test.YthobnaagjhooeaaGreatDoorP1
set_option linter.unusedVariables false
set_option linter.unusedSimpArgs false
namespace Go.Proofs.YthobnaagjhooeaaGreatDoor
open Go.Sh
def pcl (n : Int) : List UInt8 := 33 :: Lib.itoa n
def pc (l : List UInt8) (x : Value) : HProp := own 5 1 x l.length (cb l)
theorem pcl_len (n : Int) (h0 : -9223372036854775808 ≤ n) (h1 : n ≤ 9223372036854775807) : (pcl n).length ≤ 100 := by
  have := Lib.itoa_length_le n h0 h1
  simp only [pcl, List.length_cons]; omega
theorem pc_rd {o w : World} {As : List HProp} {l : List UInt8} {xs : List Value} {x : Value} (h : St o w As) (hm : satH (xs.map (pc l)) ∈ As) (hx : x ∈ xs) : Rd w 1 x l.length (cb l) := by
  obtain ⟨S, hS⟩ := h.in_all hm (List.mem_map_of_mem hx)
  exact rd_of_own hS
theorem el_at {w : World} {v : Value} {n : Nat} {xs : List Value} (hr : Rd w 1 v n xs) (k : Nat) (hk : k < n) : ∃ x, xs[k]? = some x ∧ x ∈ xs ∧ ((xs.drop (k * 1)).take 1)[0]? = some x := by
  have hl : k < xs.length := by have := hr.1; omega
  exact ⟨xs[k], List.getElem?_eq_getElem hl, List.getElem_mem hl, by rw [at_one]; exact List.getElem?_eq_getElem hl⟩
section
variable (Z : List PanicEntry → World → Prop) {o w : World} {R As : List HProp}
set_option maxRecDepth 100000 in
theorem grownPieces (cnt : Nat) (hcnt : cnt ≤ 24) {v vl : Value} {n : Nat} {xs : List Value} (hn : n ≤ 600) (hT : Tab o) (ho : old o ∈ R) (hx : Ent o R fun w => Rd w 1 vl 1 [v])
    (h : St o w (own 22 1 v n xs :: satH (xs.map (pc (pcl (-1000000)))) :: R)) :
    CallV Tryz.prog Z 87 #[vl, .int .i64 cnt] w fun r w' => r = .bool true ∧ St o w' (own 22 1 v n xs :: satH (xs.map (pc (pcl (-1000000)))) :: R) := by
  obtain ⟨al, cl, rfl⟩ := (hx w h.drop.drop).form
  have hxl : xs.length = n := by have := (h.own_open).1; omega
  have e1 : pcl (-1000000) = 33 :: Lib.itoa (-1000000 - ((0 : Nat) : Int)) := rfl
  have e2 : pcl (-2000000) = 33 :: Lib.itoa (-2000000 - ((0 : Nat) : Int)) := rfl
  have hl2 := pcl_len (-2000000) (by omega) (by omega)
  have P0 : ∀ (b q : Nat), (∀ w', Rd w' 1 (.slice al 1 cl) 1 [v] → ∀ j u, (([v].drop (0 * 1)).take 1)[j]? = some u → w'.cell? ⟨b, q + j, none⟩ = some u) → ∀ w', St o w' R → w'.cell? ⟨b, q, none⟩ = some v := fun b q hc w' hS => hc w' (hx w' hS) 0 v rfl
  refine f87.calls ?_
  unfold f87.sh
  refine ⟨fun m x y w' => (m = 1 ∧ y = .int .i64 ((0 : Nat) : Int) ∧ x = .slice none 0 0 ∧ St o w' (own 22 1 v n xs :: satH (xs.map (pc (pcl (-1000000)))) :: R)) ∨
      (m = 0 ∧ y = .int .i64 ((1 : Nat) : Int) ∧ ∃ vm ys, ys.length = cnt ∧ St o w' (own 51 1 x 1 [vm] :: twin 22 1 v n vm cnt xs ys :: satH (xs.map (pc (pcl (-1000000)))) :: satH (ys.map (pc (pcl (-2000000)))) :: R)), ⟨1, .inl ⟨rfl, rfl, rfl, h⟩⟩, ?_⟩
  clear h
  rintro m vm _ w1 (⟨rfl, rfl, rfl, hS⟩ | ⟨rfl, rfl, vq, ys, hyl, hS⟩) _
  · have hlt : (((0 : Nat) : Int)) < ((1 : Nat) : Int) := by decide
    (try simp only [o_sub, o_add, ln_54_3, o_lss, hlt, decide_true, condT])
    obtain ⟨b0, q0, hp0, hc0⟩ := (hx w1 hS.drop.drop).adr el54 .i64 0 (by omega)
    refine r1 (hp0 _) (r_load one51 (P0 b0 q0 hc0 _ hS.drop.drop) ?_)
    have hS := hS.twin_start
    refine ⟨fun m2 x y w' => ∃ (k : Nat) (ys : List Value), y = .int .i64 k ∧ m2 + k = cnt ∧ ys.length = k ∧ St o w' (twin 22 1 v n x k xs ys :: satH (ys.map (pc (pcl (-2000000)))) :: satH (xs.map (pc (pcl (-1000000)))) :: R), ⟨cnt, 0, [], rfl, rfl, rfl, (hS.emp.mono fun _ _ => trivial).swap⟩, ?_⟩
    clear hS
    rintro m2 vk _ w2 ⟨k, ys, rfl, hk, hyl, hS⟩ _
    by_cases hlt2 : (k : Int) < (cnt : Int)
    · (try simp only [o_add, o_lss, hlt2, decide_true, condT])
      rw [wr_i64 (x := -2000000 - ((0 : Nat) : Int)) (by omega) (by omega)]
      refine (mark Z hT (by simp [ho]) (-2000000 - ((0 : Nat) : Int)) (by omega) (by omega) hS).mono fun r w3 ⟨hr, hS⟩ => ?_
      subst hr
      rw [← e2]
      refine r_toBytes _ hS Tryz.underlying9 el22 Tryz.underlying5 (by rw [str_size]; simp only [maxLen]; omega) fun u w4 hS => ?_
      have hS : St o w4 (pc (pcl (-2000000)) u :: twin 22 1 v n vk k xs ys :: satH (ys.map (pc (pcl (-2000000)))) :: satH (xs.map (pc (pcl (-1000000)))) :: R) := by
        unfold pc
        have e3 : byteCells (str (pcl (-2000000))) = cb (pcl (-2000000)) := by
          show cb (str (pcl (-2000000))).data.toList = _
          congr 1
        rw [e3, str_size] at hS
        exact hS
      have hu1 : u.oneCell' = true := by
        obtain ⟨a, c, e⟩ := (hS.own_rd (e := 5) m0).form
        rw [e]; rfl
      have hons : ones [u] := by intro z hz; simp at hz; subst hz; exact hu1
      refine r_slice el51 hS 1 _ [u] rfl (by omega) (by omega) hons rfl fun g w5 hS => ?_
      have hsrc := (hS.own_rd m0).src Tryz.underlying51 hons
      refine r_twin el51 (hS.pick 2) hsrc (by omega) (by simp only [maxLen]; omega) fun v' w6 hS => ?_
      have hS := hS.swap.drop
      skip
      rw [wr_i64 (x := (k : Int) + 1) (by omega) (by omega)]
      refine ⟨m2 - 1, by omega, k + 1, ys ++ [u], rfl, by omega, by simp [hyl], ?_⟩
      have hS : St o w6 (satH (ys.map (pc (pcl (-2000000)))) :: pc (pcl (-2000000)) u :: twin 22 1 v n v' (k + 1) xs (ys ++ [u]) :: satH (xs.map (pc (pcl (-1000000)))) :: R) := hS.swap.pick 2
      have hS := hS.all_snoc
      rw [List.map_append]
      exact hS.swap
    · have hkc : k = cnt := by omega
      subst hkc
      (try simp only [o_add, o_lss, hlt2, decide_false, condF])
      have hvk := hS.twin_one
      refine r_push el54 (hS.own_nil 51 1) vk hvk (by omega) (by simp only [maxLen]; omega) fun v' w3 hS => ?_
      skip
      rw [wr_i64 (x := ((0 : Nat) : Int) + 1) (by omega) (by omega)]
      exact ⟨0, by omega, .inr ⟨rfl, rfl, vk, ys, hyl, hS.pick 3 |>.put 2⟩⟩
  · have hlt : ¬ (((1 : Nat) : Int)) < ((1 : Nat) : Int) := by decide
    (try simp only [o_sub, o_add, ln_54_3, o_lss, hlt, decide_false, condF])
    refine ⟨fun m y w' => (m = 1 ∧ y = .int .i64 ((0 : Nat) : Int) ∨ m = 0 ∧ y = .int .i64 ((1 : Nat) : Int)) ∧ St o w' (own 51 1 vm 1 [vq] :: twin 22 1 v n vq cnt xs ys :: satH (xs.map (pc (pcl (-1000000)))) :: satH (ys.map (pc (pcl (-2000000)))) :: R), ⟨1, .inl ⟨rfl, rfl⟩, hS⟩, ?_⟩
    clear hS
    rintro m _ w2 ⟨⟨rfl, rfl⟩ | ⟨rfl, rfl⟩, hS⟩ _
    · have hlt : (((0 : Nat) : Int)) < ((1 : Nat) : Int) := by decide
      (try simp only [o_add, o_lss, hlt, decide_true, condT])
      obtain ⟨b0, q0, hp0, hc0⟩ := (hx w2 hS.drop.drop.drop.drop).adr el54 .i64 0 (by omega)
      have P1 : ∀ w', St o w' (own 51 1 vm 1 [vq] :: twin 22 1 v n vq cnt xs ys :: satH (xs.map (pc (pcl (-1000000)))) :: satH (ys.map (pc (pcl (-2000000)))) :: R) → w'.cell? ⟨b0, q0, none⟩ = some v := fun w' hS => P0 b0 q0 hc0 w' hS.drop.drop.drop.drop
      have TW : ∀ w', St o w' (own 51 1 vm 1 [vq] :: twin 22 1 v n vq cnt xs ys :: satH (xs.map (pc (pcl (-1000000)))) :: satH (ys.map (pc (pcl (-2000000)))) :: R) → Rd w' 1 v n xs ∧ Rd w' 1 vq (n + cnt) (xs ++ ys) := fun w' hS => by
        obtain ⟨S, hA⟩ := satH_mem (A := twin 22 1 v n vq cnt xs ys) m1 hS.sat
        exact rd_of_twin hA
      obtain ⟨bm, qm, hpm, hcm⟩ := (hS.own_rd m0).adr el54 .i64 0 (by omega)
      have P2 : ∀ w', St o w' (own 51 1 vm 1 [vq] :: twin 22 1 v n vq cnt xs ys :: satH (xs.map (pc (pcl (-1000000)))) :: satH (ys.map (pc (pcl (-2000000)))) :: R) → w'.cell? ⟨bm, qm, none⟩ = some vq := fun w' hS => hcm w' (hS.own_rd m0) 0 vq rfl
      refine r1 (hp0 _) (r_load one51 (P1 _ hS) ?_)
      obtain ⟨hr1, hr2⟩ := TW _ hS
      refine r1 (hr1.len sl51 _ rfl _ _) ?_
      refine ⟨fun mk y w' => ∃ k : Nat, y = .int .i64 k ∧ mk + k = n + cnt ∧ St o w' (own 51 1 vm 1 [vq] :: twin 22 1 v n vq cnt xs ys :: satH (xs.map (pc (pcl (-1000000)))) :: satH (ys.map (pc (pcl (-2000000)))) :: R), ⟨n + cnt, 0, rfl, rfl, hS⟩, ?_⟩
      clear hS
      rintro mk _ w3 ⟨k, rfl, hk, hS⟩ _
      refine r1 (run_add _ _ _ _ _ _) ?_
      rw [wr_i64 (x := (n : Int) + (cnt : Int)) (by omega) (by omega)]
      by_cases hlt3 : (k : Int) < (n : Int) + (cnt : Int)
      · (try simp only [o_add, o_lssp, o_lss, hlt3, decide_true, condT])
        have hk3 : k < n + cnt := by omega
        obtain ⟨b2, q2, hp2, hc2⟩ := hr2.adr el51 .i64 k hk3
        refine ⟨fun w4 hdr => ?_⟩
        have hS := hS.drew hdr
        by_cases hkn : (k : Int) < (n : Int)
        · have hkl : k < n := by omega
          have hge : ¬ (n : Int) ≤ (k : Int) := by omega
          obtain ⟨b1, q1, hp1, hc1⟩ := hr1.adr el51 .i64 k hkl
          obtain ⟨x, hx1, hx2, hx3⟩ := el_at hr1 k hkl
          have hx4 : (((xs ++ ys).drop (k * 1)).take 1)[0]? = some x := by rw [at_one, List.getElem?_append_left (by omega)]; exact hx1
          have P3 : ∀ w', St o w' (own 51 1 vm 1 [vq] :: twin 22 1 v n vq cnt xs ys :: satH (xs.map (pc (pcl (-1000000)))) :: satH (ys.map (pc (pcl (-2000000)))) :: R) → w'.cell? ⟨b1, q1, none⟩ = some x := fun w' hS => hc1 w' (TW w' hS).1 0 x hx3
          have P4 : ∀ w', St o w' (own 51 1 vm 1 [vq] :: twin 22 1 v n vq cnt xs ys :: satH (xs.map (pc (pcl (-1000000)))) :: satH (ys.map (pc (pcl (-2000000)))) :: R) → w'.cell? ⟨b2, q2, none⟩ = some x := fun w' hS => hc2 w' (TW w' hS).2 0 x hx4
          have C1 : ∀ w', St o w' (own 51 1 vm 1 [vq] :: twin 22 1 v n vq cnt xs ys :: satH (xs.map (pc (pcl (-1000000)))) :: satH (ys.map (pc (pcl (-2000000)))) :: R) → (convert 22 9 x).run Tryz.prog w' = .ok (.string (str (pcl (-1000000)))) w' := fun w' hS =>
            run_toString Tryz.underlying22 Tryz.underlying5 Tryz.underlying9 (l := pcl (-1000000)) (pc_rd hS m2 hx2)
          (try simp only [hkn, decide_true, still_tt, o_pickTp, guardV_true, guardW_true, o_subp])
          refine rp hp0 ?_
          refine rr_load one51 (P1 _ hS) ?_
          refine rp hp1 ?_
          refine rr_load one22 (P3 _ hS) ?_
          refine rr (C1 _ hS) ?_
          skip
          rw [wr_i64 (x := -1000000 - ((0 : Nat) : Int)) (by omega) (by omega)]
          refine (mark Z hT (by simp [ho]) (-1000000 - ((0 : Nat) : Int)) (by omega) (by omega) hS).mono fun r w5 ⟨hr, hS⟩ => ?_
          subst hr
          rw [← e1]
          refine rs (C1 _ hS) ?_
          refine rs_load one22 (P3 _ hS) ?_
          refine rs_load one51 (P1 _ hS) ?_
          (try refine rp (fun w => run_eql_strB _ _ _ _ w) ?_)
          (try simp only [o_notp, Bool.not_true, o_pickFp, guardV_ff, o_lssp])
          (try simp only [hkn, decide_true, still_tt, o_pickTp, guardV_true, guardW_true, o_subp])
          refine rp hpm ?_
          refine rr_load one51 (P2 _ hS) ?_
          refine rp hp2 ?_
          refine rr_load one22 (P4 _ hS) ?_
          refine rr (C1 _ hS) ?_
          skip
          rw [wr_i64 (x := -1000000 - ((0 : Nat) : Int)) (by omega) (by omega)]
          refine (mark Z hT (by simp [ho]) (-1000000 - ((0 : Nat) : Int)) (by omega) (by omega) hS).mono fun r w5 ⟨hr, hS⟩ => ?_
          subst hr
          rw [← e1]
          (try simp only [os_eqlp, beq_self_eq_true, o_notp, Bool.not_true, o_pickFp, guardV_ff, o_geqp])
          refine rs (C1 _ hS) ?_
          refine rs_load one22 (P4 _ hS) ?_
          refine rs_load one51 (P2 _ hS) ?_
          refine rs (C1 _ hS) ?_
          refine rs_load one22 (P3 _ hS) ?_
          refine rs_load one51 (P1 _ hS) ?_
          (try refine rp (fun w => run_eql_strB _ _ _ _ w) ?_)
          skip
          (try simp only [hge, decide_false, o_pickFp, condF, guardV_ft, guardW_ft, still_ft])
          refine rs (C1 _ hS) (rs_load one22 (P4 _ hS) (rs_load one51 (P2 _ hS) (rs (C1 _ hS) (rs_load one22 (P3 _ hS) (rs_load one51 (P1 _ hS) ?_)))))
          skip
          rw [wr_i64 (x := (k : Int) + 1) (by omega) (by omega)]
          exact ⟨mk - 1, by omega, k + 1, rfl, by omega, hS⟩
        · have hge : (n : Int) ≤ (k : Int) := by omega
          have hky : k - n < ys.length := by omega
          have hx4 : (((xs ++ ys).drop (k * 1)).take 1)[0]? = some ys[k - n] := by
            rw [at_one, List.getElem?_append_right (by omega), hxl]; exact List.getElem?_eq_getElem hky
          have P5 : ∀ w', St o w' (own 51 1 vm 1 [vq] :: twin 22 1 v n vq cnt xs ys :: satH (xs.map (pc (pcl (-1000000)))) :: satH (ys.map (pc (pcl (-2000000)))) :: R) → w'.cell? ⟨b2, q2, none⟩ = some ys[k - n] := fun w' hS => hc2 w' (TW w' hS).2 0 _ hx4
          have C2 : ∀ w', St o w' (own 51 1 vm 1 [vq] :: twin 22 1 v n vq cnt xs ys :: satH (xs.map (pc (pcl (-1000000)))) :: satH (ys.map (pc (pcl (-2000000)))) :: R) → (convert 22 9 ys[k - n]).run Tryz.prog w' = .ok (.string (str (pcl (-2000000)))) w' := fun w' hS =>
            run_toString Tryz.underlying22 Tryz.underlying5 Tryz.underlying9 (l := pcl (-2000000)) (pc_rd hS m3 (List.getElem_mem hky))
          (try simp only [hkn, decide_false, o_pickFp, guardV_ff, o_lssp, o_geqp, hge, decide_true, o_pickTp, guardV_true, still_tt, guardW_true, o_subp, guardV_ft, guardW_ft, still_ft])
          refine rp hpm ?_
          refine rr_load one51 (P2 _ hS) ?_
          refine rp hp2 ?_
          refine rr_load one22 (P5 _ hS) ?_
          refine rr (C2 _ hS) ?_
          skip
          rw [wr_i64 (x := -2000000 - ((0 : Nat) : Int)) (by omega) (by omega)]
          refine (mark Z hT (by simp [ho]) (-2000000 - ((0 : Nat) : Int)) (by omega) (by omega) hS).mono fun r w5 ⟨hr, hS⟩ => ?_
          subst hr
          rw [← e2]
          refine rs (C2 _ hS) ?_
          refine rs_load one22 (P5 _ hS) ?_
          refine rs_load one51 (P2 _ hS) ?_
          (try refine rp (fun w => run_eql_strB _ _ _ _ w) ?_)
          (try simp only [o_notp, Bool.not_true, condF])
          rw [wr_i64 (x := (k : Int) + 1) (by omega) (by omega)]
          exact ⟨mk - 1, by omega, k + 1, rfl, by omega, hS⟩
      · (try simp only [o_add, o_lssp, o_lss, hlt3, decide_false, condF])
        rw [wr_i64 (x := ((0 : Nat) : Int) + 1) (by omega) (by omega)]
        exact ⟨0, by omega, .inr ⟨rfl, rfl⟩, hS⟩
    · have hlt : ¬ (((1 : Nat) : Int)) < ((1 : Nat) : Int) := by decide
      (try simp only [o_add, o_lss, hlt, decide_false, condF])
      refine ⟨by first | rfl | trivial, ?_⟩
      exact (hS.drop.mono fun _ hx => own_of_twin hx).pick 2 |>.drop |> fun h => h
set_option maxRecDepth 100000 in
theorem apartPieces {v vl : Value} {n : Nat} {xs : List Value} (hn : n ≤ 600) (hT : Tab o) (ho : old o ∈ R) (hx : Ent o R fun w => Rd w 1 vl 1 [v]) (h : St o w (own 22 1 v n xs :: R)) :
    CallV Tryz.prog Z 58 #[vl] w fun r w' => r = .bool true ∧ St o w' R := by
  obtain ⟨al, cl, rfl⟩ := (hx w h.drop).form
  have hxl : xs.length = n := by have := (h.own_open).1; omega
  have e1 : pcl (-1000000) = 33 :: Lib.itoa (-1000000 - ((0 : Nat) : Int)) := rfl
  have hl1 := pcl_len (-1000000) (by omega) (by omega)
  have P0 : ∀ (b q : Nat), (∀ w', Rd w' 1 (.slice al 1 cl) 1 [v] → ∀ j u, (([v].drop (0 * 1)).take 1)[j]? = some u → w'.cell? ⟨b, q + j, none⟩ = some u) → ∀ w', St o w' R → w'.cell? ⟨b, q, none⟩ = some v := fun b q hc w' hS => hc w' (hx w' hS) 0 v rfl
  refine f58.calls ?_
  unfold f58.sh
  refine ⟨fun m y w' => (m = 1 ∧ y = .int .i64 ((0 : Nat) : Int) ∧ St o w' (own 22 1 v n xs :: R)) ∨ (m = 0 ∧ y = .int .i64 ((1 : Nat) : Int) ∧ ∃ us, St o w' (own 22 1 v n us :: satH (us.map (pc (pcl (-1000000)))) :: R)), ⟨1, .inl ⟨rfl, rfl, h⟩⟩, ?_⟩
  clear h
  rintro m _ w1 (⟨rfl, rfl, hS⟩ | ⟨rfl, rfl, us, hS⟩) _
  · have hlt : (((0 : Nat) : Int)) < ((1 : Nat) : Int) := by decide
    (try simp only [o_subp, o_add, ln_54_3, o_lss, hlt, decide_true, condT])
    obtain ⟨b0, q0, hp0, hc0⟩ := (hx w1 hS.drop).adr el54 .i64 0 (by omega)
    refine ⟨fun m2 y w' => ∃ (k : Nat) (us : List Value), y = .int .i64 k ∧ m2 + k = n ∧ us.length = k ∧ St o w' (own 22 1 v n (us ++ xs.drop k) :: satH (us.map (pc (pcl (-1000000)))) :: R), ⟨n, 0, [], rfl, rfl, rfl, (hS.emp.mono fun _ _ => trivial).swap⟩, ?_⟩
    clear hS
    rintro m2 _ w2 ⟨k, us, rfl, hk, hul, hS⟩ _
    refine r1 (hp0 _) (r_load one51 (P0 b0 q0 hc0 _ hS.drop.drop) ?_)
    refine r1 ((hS.own_rd m0).len sl51 _ rfl _ _) ?_
    by_cases hlt2 : (k : Int) < (n : Int)
    · have hkn : k < n := by omega
      (try simp only [o_add, o_lss, hlt2, decide_true, condT])
      refine ⟨fun w3 hdr => ?_⟩
      have hS := hS.drew hdr
      obtain ⟨b, q, hp, hc⟩ := (hS.own_rd m0).adr el51 .i64 k hkn
      refine rp hp0 ?_
      refine rr_load one51 (P0 b0 q0 hc0 _ hS.drop.drop) ?_
      skip
      rw [wr_i64 (x := -1000000 - ((0 : Nat) : Int)) (by omega) (by omega)]
      refine (mark Z hT (by simp [ho]) (-1000000 - ((0 : Nat) : Int)) (by omega) (by omega) hS).mono fun r w4 ⟨hr, hS⟩ => ?_
      subst hr
      rw [← e1]
      refine rs_load one51 (P0 b0 q0 hc0 _ hS.drop.drop) ?_
      refine r_toBytes _ hS Tryz.underlying9 el22 Tryz.underlying5 (by rw [str_size]; simp only [maxLen]; omega) fun u w5 hS => ?_
      have hS : St o w5 (pc (pcl (-1000000)) u :: own 22 1 v n (us ++ xs.drop k) :: satH (us.map (pc (pcl (-1000000)))) :: R) := by
        unfold pc
        have e3 : byteCells (str (pcl (-1000000))) = cb (pcl (-1000000)) := by
          show cb (str (pcl (-1000000))).data.toList = _
          congr 1
        rw [e3, str_size] at hS
        exact hS
      have hu1 : u.oneCell' = true := by
        obtain ⟨a, c, e⟩ := (hS.own_rd (e := 5) m0).form
        rw [e]; rfl
      refine rs_load one51 (P0 b0 q0 hc0 _ hS.drop.drop.drop) ?_
      refine rp hp ?_
      refine r_store_ix hS.swap el51 one22 .i64 k hkn (hp _) hu1 fun w6 hS => ?_
      have e2 : (us ++ xs.drop k).set k u = (us ++ [u]) ++ xs.drop (k + 1) := by
        rw [List.set_append_right _ _ (by omega), hul, Nat.sub_self, List.drop_eq_getElem_cons (by omega : k < xs.length), List.set_cons_zero]
        simp
      rw [e2] at hS
      skip
      rw [wr_i64 (x := (k : Int) + 1) (by omega) (by omega)]
      refine ⟨m2 - 1, by omega, k + 1, us ++ [u], rfl, by omega, by simp [hul], ?_⟩
      have hS := hS.swap.pick 2
      have hS : St o w6 (satH (us.map (pc (pcl (-1000000)))) :: pc (pcl (-1000000)) u :: own 22 1 v n ((us ++ [u]) ++ xs.drop (k + 1)) :: R) := hS
      have hS := hS.all_snoc.swap
      rw [List.map_append]
      exact hS
    · have hkn : k = n := by omega
      subst hkn
      (try simp only [o_add, o_lss, hlt2, decide_false, condF])
      rw [wr_i64 (x := ((0 : Nat) : Int) + 1) (by omega) (by omega)]
      rw [List.drop_eq_nil_of_le (by omega), List.append_nil] at hS
      exact ⟨0, by omega, .inr ⟨rfl, rfl, us, hS⟩⟩
  · have hlt : ¬ (((1 : Nat) : Int)) < ((1 : Nat) : Int) := by decide
    (try simp only [o_subp, o_add, ln_54_3, o_lss, hlt, decide_false, condF])
    refine (grownPieces Z 1 (by omega) hn hT ho hx hS).mono fun r w2 ⟨hr, hS⟩ => ?_
    subst hr
    refine (grownPieces Z 24 (by omega) hn hT ho hx hS).mono fun r w3 ⟨hr, hS⟩ => ?_
    subst hr
    (try simp only [o_pickT, guardW_true])
    exact ⟨by first | rfl | trivial, hS.drop.drop⟩
end
end Go.Proofs.YthobnaagjhooeaaGreatDoor
