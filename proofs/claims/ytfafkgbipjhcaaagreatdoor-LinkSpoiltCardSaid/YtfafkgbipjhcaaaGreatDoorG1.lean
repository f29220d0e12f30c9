/- Packets as they lie; what makes each of their fields right. Printed by wip/sh/mkG1.py. -/
import Derived.Test.YtfafkgbipjhcaaaGreatDoorT27
import Derived.Test.YtfafkgbipjhcaaaGreatDoorShSub
import Derived.Test.YtfafkgbipjhcaaaGreatDoorShTwin
set_option linter.unusedVariables false
set_option linter.unusedSimpArgs false
namespace Go.Proofs.YtfafkgbipjhcaaaGreatDoor
open Go.Sh
structure Pk where
  kd : Int
  cb : Int
  ct : Int
  lb : Int
  lt : Int
  pl : Int
  ep : Int
  cu : Int
  ze : Int
  zn : Int
  ve : Int
  vn : Int
  co : Bool
  fi : Bool
  t : Tx
  bv : Value
  b : List UInt8
  se : Int
def Pk.hd (p : Pk) : List Value := [.int .i8 p.kd, .int .u32 p.cb, .int .u32 p.ct, .int .u32 p.lb, .int .u32 p.lt, .int .i64 p.pl, .int .u32 p.ep, .int .u32 p.cu, .int .u32 p.ze, .int .u32 p.zn, .int .u32 p.ve, .int .u32 p.vn, .bool p.co, .bool p.fi]
def Pk.cells (p : Pk) : List Value := p.hd ++ (p.t.cells ++ [p.bv, .int .i64 p.se])
theorem Pk.cells_len (p : Pk) : p.cells.length = 32 := rfl
structure RdP (w : World) (p : Pk) : Prop where
  t : RdQ w p.t.q
  b : Rd w 1 p.bv p.b.length (cb p.b)
structure WfP (p : Pk) : Prop where
  kd : -128 ≤ p.kd ∧ p.kd ≤ 127
  cb : u32r p.cb
  ct : u32r p.ct
  lb : u32r p.lb
  lt : u32r p.lt
  pl : -9223372036854775808 ≤ p.pl ∧ p.pl ≤ 9223372036854775807
  ep : u32r p.ep
  cu : u32r p.cu
  ze : u32r p.ze
  zn : u32r p.zn
  ve : u32r p.ve
  vn : u32r p.vn
  h : wfH p.t.hd
  q : WfQ p.t.q
  b : p.b.length ≤ 140737488351232
  se : -9223372036854775808 ≤ p.se ∧ p.se ≤ 9223372036854775807
theorem RdP.ones {w : World} {p : Pk} (h : RdP w p) : ones p.cells := by
  have h1 := h.t.ones
  have h2 := Rd.one h.b
  intro u hu
  unfold Pk.cells at hu
  rcases List.mem_append.1 hu with hu | hu
  · simp only [Pk.hd, List.mem_cons, List.not_mem_nil, or_false] at hu
    rcases hu with rfl | rfl | rfl | rfl | rfl | rfl | rfl | rfl | rfl | rfl | rfl | rfl | rfl | rfl <;> rfl
  · rcases List.mem_append.1 hu with hu | hu
    · exact txC_ones h1 u hu
    · simp only [List.mem_cons, List.not_mem_nil, or_false] at hu
      rcases hu with rfl | rfl
      · exact h2
      · rfl
theorem pk_tx (p : Pk) : ∀ j v, p.t.cells[j]? = some v → p.cells[14 + j]? = some v := fun j v hv => by
  have hj : j < 16 := by have := (List.getElem?_eq_some_iff.1 hv).1; rwa [Tx.cells_len] at this
  unfold Pk.cells
  rw [List.getElem?_append_right (by show 14 ≤ 14 + j; omega), show 14 + j - p.hd.length = j by show 14 + j - 14 = j; omega, List.getElem?_append_left (by rw [Tx.cells_len]; exact hj)]
  exact hv
def two (k : Nat) (p : Pk) (a b : Int) : Prop := p.cells[k]? = some (.int .u32 a) ∧ p.cells[k + 1]? = some (.int .u32 b)
theorem pk_two {p : Pk} {k : Nat} {a b : Int} (h : two k p a b) : ∀ j v, (zx a b)[j]? = some v → p.cells[k + j]? = some v := by
  rintro (_ | _ | j) v hv
  · exact h.1.trans hv
  · exact h.2.trans hv
  · simp [zx] at hv
def cnOk (a b : Int) : Bool := decide (0 < a) && decide (0 < b)
def zxOk (e n : Int) : Bool := ((e == 0) && (n == 0)) || (decide (0 < e) && (decide (e ≤ 2147483647) && decide (0 < n)))
def rt (p : Pk) : Nat → Bool
  | 0 => cnOk p.cb p.ct
  | 1 => cnOk p.lb p.lt
  | 2 => decide (0 ≤ p.pl)
  | 3 => decide (p.ep ≤ 2147483647) && (decide (0 < p.ep) || (p.kd == 1))
  | 4 => decide (p.cu ≤ 2147483647)
  | 5 => (((p.kd != 11) && (p.kd != 12)) || !((p.ze == 0) && (p.zn == 0))) && zxOk p.ze p.zn
  | 6 => zxOk p.ve p.vn
  | 7 => true
  | 8 => true
  | 9 => chkT p.t && (if p.kd = 13 then ((p.t.e == 0) && (p.t.n == 0)) && decide (0 < p.t.nu) else decide (cmpZ p.ve p.vn p.t.e p.t.n < 0))
  | 10 => decide (0 < (p.b.length : Int)) && decide ((p.b.length : Int) ≤ 4096)
  | _ => decide (0 < p.se)
section
variable (Z : List PanicEntry → World → Prop) {o w : World} {R As : List HProp} {g : Nat} {p : Pk}
theorem isConnC (a b : Int) (h : St o w R) : CallV Tryz.prog Z 114 #[.agg (zx a b).toArray] w fun r w' => r = .bool (cnOk a b) ∧ St o w' R := by
  refine f114.calls ?_
  unfold f114.sh
  refine r_box _ _ h fun g w1 hS => ?_
  have hS : St o w1 (blk g 25 (zx a b) :: R) := hS
  (try simp only [fa_25_1, Nat.zero_add, fa_25_0, Nat.add_zero])
  refine r_load one23 (hS.at m0 0 rfl) ?_
  (try simp only [o_gtr])
  by_cases h1 : 0 < a
  · (try simp only [h1, decide_true, o_pickT, guardW_true])
    refine r_load one23 (hS.at m0 1 rfl) ?_
    (try simp only [o_gtr])
    exact ⟨by simp [cnOk, h1], hS.drop⟩
  · (try simp only [h1, decide_false, o_pickF, guardW_ft])
    exact ⟨by simp [cnOk, h1], hS.drop⟩
theorem isZxidC (e n : Int) (h : St o w R) : CallV Tryz.prog Z 70 #[.agg (zx e n).toArray] w fun r w' => r = .bool (zxOk e n) ∧ St o w' R := by
  refine f70.calls ?_
  unfold f70.sh
  refine r_box _ _ h fun g w1 hS => ?_
  have hS : St o w1 (blk g 27 (zx e n) :: R) := hS
  refine r_loadN ag27 (xs := zx e n) rfl (hS.cells_at m0 0 (whole_at _)) ?_
  refine r_build (cells := (zx 0 0).toArray) (by kernel_rfl) ?_
  refine r1 (eqZx e n 0 0 _) ?_
  by_cases h0 : ((e == 0) && (n == 0)) = true
  · rw [h0]
    (try simp only [fa_27_0, Nat.add_zero, fa_27_1, Nat.zero_add, o_pickT, guardW_tf, guardW_u])
    exact ⟨by rw [zxOk, h0]; rfl, hS.drop⟩
  · have h0 : ((e == 0) && (n == 0)) = false := by simpa using h0
    rw [h0]
    (try simp only [fa_27_0, Nat.add_zero, fa_27_1, Nat.zero_add, o_pickF, guardW_ff])
    refine r_load one23 (hS.at m0 0 rfl) ?_
    (try simp only [o_gtr])
    by_cases h1 : 0 < e
    · (try simp only [h1, decide_true, o_pickT, guardW_true])
      refine r_load one23 (hS.at m0 0 rfl) ?_
      (try simp only [o_leq])
      by_cases h2 : e ≤ 2147483647
      · (try simp only [h2, decide_true, o_pickT, guardW_true])
        refine r_load one23 (hS.at m0 1 rfl) ?_
        (try simp only [o_gtr])
        exact ⟨by rw [zxOk, h0]; simp [h1, h2], hS.drop⟩
      · (try simp only [h2, decide_false, o_pickF, guardW_ft])
        exact ⟨by rw [zxOk, h0]; simp [h2], hS.drop⟩
    · (try simp only [h1, decide_false, o_pickF, guardW_ft])
      exact ⟨by rw [zxOk, h0]; simp [h1], hS.drop⟩
theorem right0 (h : St o w (blk g 39 p.cells :: R)) : CallV Tryz.prog Z 113 #[.pointer (some ⟨g, 0, none⟩)] w fun r w' => r = .bool (rt p 0) ∧ St o w' (blk g 39 p.cells :: R) := by
  refine f113.calls ?_
  unfold f113.sh
  (try simp only [o_chk, fa_39_1, Nat.zero_add])
  refine r_loadN ag25 (xs := zx p.cb p.ct) rfl (h.cells_at m0 1 (pk_two ⟨rfl, rfl⟩)) ?_
  exact isConnC Z p.cb p.ct h
theorem right1 (h : St o w (blk g 39 p.cells :: R)) : CallV Tryz.prog Z 117 #[.pointer (some ⟨g, 0, none⟩)] w fun r w' => r = .bool (rt p 1) ∧ St o w' (blk g 39 p.cells :: R) := by
  refine f117.calls ?_
  unfold f117.sh
  (try simp only [o_chk, fa_39_2, Nat.zero_add])
  refine r_loadN ag25 (xs := zx p.lb p.lt) rfl (h.cells_at m0 3 (pk_two ⟨rfl, rfl⟩)) ?_
  exact isConnC Z p.lb p.lt h
theorem right2 (h : St o w (blk g 39 p.cells :: R)) : CallV Tryz.prog Z 120 #[.pointer (some ⟨g, 0, none⟩)] w fun r w' => r = .bool (rt p 2) ∧ St o w' (blk g 39 p.cells :: R) := by
  refine f120.calls ?_
  unfold f120.sh
  (try simp only [o_chk, fa_39_3, Nat.zero_add])
  refine r_load one2 (h.at m0 5 rfl) ?_
  (try simp only [o_geq])
  exact ⟨by first | rfl | trivial, h⟩
theorem right3 (h : St o w (blk g 39 p.cells :: R)) : CallV Tryz.prog Z 58 #[.pointer (some ⟨g, 0, none⟩)] w fun r w' => r = .bool (rt p 3) ∧ St o w' (blk g 39 p.cells :: R) := by
  refine f58.calls ?_
  unfold f58.sh
  (try simp only [o_chk, fa_39_4, Nat.zero_add])
  refine r_load one23 (h.at m0 6 rfl) ?_
  (try simp only [o_leq])
  by_cases h1 : p.ep ≤ 2147483647
  · (try simp only [h1, decide_true, o_pickT, guardW_true, o_chk, fa_39_4, Nat.zero_add])
    refine r_load one23 (h.at m0 6 rfl) ?_
    (try simp only [o_gtr])
    by_cases h2 : 0 < p.ep
    · (try simp only [h2, decide_true, o_pickT, guardW_tf])
      exact ⟨by simp [rt, h1, h2], h⟩
    · (try simp only [h2, decide_false, o_pickF, guardW_ff, o_chk, fa_39_0, Nat.add_zero])
      refine r_load one22 (h.at m0 0 rfl) ?_
      (try simp only [o_eql])
      exact ⟨by simp [rt, h1, h2], h⟩
  · (try simp only [h1, decide_false, o_pickF, guardW_ft, guardW_u])
    exact ⟨by simp [rt, h1], h⟩
theorem right4 (h : St o w (blk g 39 p.cells :: R)) : CallV Tryz.prog Z 61 #[.pointer (some ⟨g, 0, none⟩)] w fun r w' => r = .bool (rt p 4) ∧ St o w' (blk g 39 p.cells :: R) := by
  refine f61.calls ?_
  unfold f61.sh
  (try simp only [o_chk, fa_39_5, Nat.zero_add])
  refine r_load one23 (h.at m0 7 rfl) ?_
  (try simp only [o_leq])
  exact ⟨by first | rfl | trivial, h⟩
theorem right5 (h : St o w (blk g 39 p.cells :: R)) : CallV Tryz.prog Z 66 #[.pointer (some ⟨g, 0, none⟩)] w fun r w' => r = .bool (rt p 5) ∧ St o w' (blk g 39 p.cells :: R) := by
  refine f66.calls ?_
  unfold f66.sh
  (try simp only [o_chk, fa_39_0, Nat.add_zero])
  refine r_load one22 (h.at m0 0 rfl) ?_
  (try simp only [o_neq])
  have fin : (((p.kd != 11) && (p.kd != 12)) || !((p.ze == 0) && (p.zn == 0))) = true → CallV Tryz.prog Z 70 #[.agg (zx p.ze p.zn).toArray] w fun r w' => r = .bool (rt p 5) ∧ St o w' (blk g 39 p.cells :: R) := fun hs =>
    (isZxidC Z p.ze p.zn h).mono fun r w' ⟨hr, hS⟩ => ⟨by rw [hr, rt, hs, Bool.true_and], hS⟩
  by_cases h1 : (p.kd != 11) = true
  · (try simp only [h1, o_pickT, guardW_true, o_chk, fa_39_0, Nat.add_zero])
    refine r_load one22 (h.at m0 0 rfl) ?_
    (try simp only [o_neq])
    by_cases h2 : (p.kd != 12) = true
    · (try simp only [h2, o_pickT, guardW_true, o_chk, fa_39_6, Nat.zero_add, guardW_tf])
      refine r_loadN ag27 (xs := zx p.ze p.zn) rfl (h.cells_at m0 8 (pk_two ⟨rfl, rfl⟩)) ?_
      refine (fin (by rw [h1, h2]; rfl)).mono fun r w' ⟨hr, hS⟩ => ?_
      subst hr
      (try simp only [])
      exact ⟨by first | rfl | trivial, hS⟩
    · have h2 : (p.kd != 12) = false := by simpa using h2
      (try simp only [h2, o_pickF, guardW_ff, o_chk, fa_39_6, Nat.zero_add])
      refine r_loadN ag27 (xs := zx p.ze p.zn) rfl (h.cells_at m0 8 (pk_two ⟨rfl, rfl⟩)) ?_
      refine r_build (cells := (zx 0 0).toArray) (by kernel_rfl) ?_
      refine r1 (neqZx p.ze p.zn 0 0 _) ?_
      by_cases h0 : ((p.ze == 0) && (p.zn == 0)) = true
      · rw [h0]
        (try simp only [Bool.not_true, o_pickF, guardW_ft])
        exact ⟨by rw [rt, h0, h2]; simp, h⟩
      · have h0 : ((p.ze == 0) && (p.zn == 0)) = false := by simpa using h0
        rw [h0]
        (try simp only [Bool.not_false, o_pickT, guardW_true, o_chk, fa_39_6, Nat.zero_add])
        refine r_loadN ag27 (xs := zx p.ze p.zn) rfl (h.cells_at m0 8 (pk_two ⟨rfl, rfl⟩)) ?_
        refine (fin (by rw [h0]; simp)).mono fun r w' ⟨hr, hS⟩ => ?_
        subst hr
        (try simp only [])
        exact ⟨by first | rfl | trivial, hS⟩
  · have h1 : (p.kd != 11) = false := by simpa using h1
    (try simp only [h1, o_pickF, guardW_ff, o_chk, fa_39_6, Nat.zero_add, guardW_ft])
    refine r_loadN ag27 (xs := zx p.ze p.zn) rfl (h.cells_at m0 8 (pk_two ⟨rfl, rfl⟩)) ?_
    refine r_build (cells := (zx 0 0).toArray) (by kernel_rfl) ?_
    refine r1 (neqZx p.ze p.zn 0 0 _) ?_
    by_cases h0 : ((p.ze == 0) && (p.zn == 0)) = true
    · rw [h0]
      (try simp only [Bool.not_true, o_pickF, guardW_ft])
      exact ⟨by rw [rt, h0, h1]; simp, h⟩
    · have h0 : ((p.ze == 0) && (p.zn == 0)) = false := by simpa using h0
      rw [h0]
      (try simp only [Bool.not_false, o_pickT, guardW_true, o_chk, fa_39_6, Nat.zero_add])
      refine r_loadN ag27 (xs := zx p.ze p.zn) rfl (h.cells_at m0 8 (pk_two ⟨rfl, rfl⟩)) ?_
      refine (fin (by rw [h0]; simp)).mono fun r w' ⟨hr, hS⟩ => ?_
      subst hr
      (try simp only [])
      exact ⟨by first | rfl | trivial, hS⟩
theorem right6 (h : St o w (blk g 39 p.cells :: R)) : CallV Tryz.prog Z 69 #[.pointer (some ⟨g, 0, none⟩)] w fun r w' => r = .bool (rt p 6) ∧ St o w' (blk g 39 p.cells :: R) := by
  refine f69.calls ?_
  unfold f69.sh
  (try simp only [o_chk, fa_39_7, Nat.zero_add])
  refine r_loadN ag27 (xs := zx p.ve p.vn) rfl (h.cells_at m0 10 (pk_two ⟨rfl, rfl⟩)) ?_
  exact isZxidC Z p.ve p.vn h
theorem right7 (h : St o w (blk g 39 p.cells :: R)) : CallV Tryz.prog Z 54 #[.pointer (some ⟨g, 0, none⟩)] w fun r w' => r = .bool (rt p 7) ∧ St o w' (blk g 39 p.cells :: R) := by
  refine f54.calls ?_
  unfold f54.sh
  exact ⟨by first | rfl | trivial, h⟩
theorem right9 (hN : Names o) (ho : old o ∈ R) (hx : Ent o R fun w => RdP w p) (h : St o w (blk g 39 p.cells :: R)) : CallV Tryz.prog Z 79 #[.pointer (some ⟨g, 0, none⟩)] w fun r w' => r = .bool (rt p 9) ∧ St o w' (blk g 39 p.cells :: R) := by
  refine f79.calls ?_
  unfold f79.sh
  (try simp only [o_chk, fa_39_10, Nat.zero_add, fa_37_0, Nat.add_zero, o_chkp, fa_39_10p, fa_37_0p, fa_39_7p, fa_39_0])
  refine r_loadN ag37 (xs := p.t.cells) (Tx.cells_len _) (h.cells_at m0 14 (pk_tx p)) ?_
  refine (chkTx Z p.t hN (by simp [ho]) (fun w hw => (hx w hw.drop).t) h).mono fun r w1 ⟨hr, hS⟩ => ?_
  subst hr
  by_cases hc : chkT p.t = true
  · rw [if_pos hc]
    (try simp only [o_neq, bne_self_eq_false, condF])
    refine r_load one22 (hS.at m0 0 rfl) ?_
    by_cases h13 : p.kd = 13
    · have hb : (p.kd == 13) = true := by simp [h13]
      (try simp only [o_eql, hb, condT])
      refine r_loadN ag27 (xs := zx p.t.e p.t.n) rfl (hS.cells_at m0 14 (pk_two ⟨rfl, rfl⟩)) ?_
      refine r_build (cells := (zx 0 0).toArray) (by kernel_rfl) ?_
      refine r1 (eqZx p.t.e p.t.n 0 0 _) ?_
      by_cases h0 : ((p.t.e == 0) && (p.t.n == 0)) = true
      · rw [h0]
        (try simp only [o_pickT, guardW_true, o_chk, fa_39_10, Nat.zero_add, fa_37_1, fa_29_2])
        refine r_load one2 (hS.at m0 18 rfl) ?_
        (try simp only [o_gtr])
        exact ⟨by rw [rt, hc, if_pos h13, h0]; rfl, hS⟩
      · have h0 : ((p.t.e == 0) && (p.t.n == 0)) = false := by simpa using h0
        rw [h0]
        (try simp only [o_pickF, guardW_ft])
        exact ⟨by rw [rt, hc, if_pos h13, h0]; rfl, hS⟩
    · have hb : (p.kd == 13) = false := by simpa using h13
      (try simp only [o_eql, hb, condF])
      refine ⟨fun w2 hd => ?_⟩
      have hS := hS.drew hd
      skip
      refine rr_loadN ag27 (xs := zx p.ve p.vn) rfl (hS.cells_at m0 10 (pk_two ⟨rfl, rfl⟩)) ?_
      skip
      refine rr_loadN ag27 (xs := zx p.t.e p.t.n) rfl (hS.cells_at m0 14 (pk_two ⟨rfl, rfl⟩)) ?_
      refine (txnCompare Z hS).mono fun r w3 ⟨hr, hS⟩ => ?_
      subst hr
      (try simp only [o_lssp])
      exact ⟨by rw [rt, hc, if_neg h13]; rfl, hS⟩
  · have hc : chkT p.t = false := by simpa using hc
    rw [hc, if_neg Bool.false_ne_true]
    have h40 : ((40 : Int) != 0) = true := rfl
    (try simp only [o_neq, h40, condT])
    exact ⟨by rw [rt, hc]; rfl, hS⟩
theorem right10 (hx : Ent o R fun w => RdP w p) (h : St o w (blk g 39 p.cells :: R)) : CallV Tryz.prog Z 84 #[.pointer (some ⟨g, 0, none⟩)] w fun r w' => r = .bool (rt p 10) ∧ St o w' (blk g 39 p.cells :: R) := by
  refine f84.calls ?_
  unfold f84.sh
  obtain ⟨a, c, e⟩ := (hx w h.drop).b.form
  (try simp only [o_chk, fa_39_11, Nat.zero_add])
  refine r_load one30 (h.at m0 30 rfl) ?_
  rw [e]
  (try simp only [ln_30_3, o_gtr])
  by_cases h1 : 0 < (p.b.length : Int)
  · (try simp only [h1, decide_true, o_pickT, guardW_true, o_chk, fa_39_11, Nat.zero_add])
    refine r_load one30 (h.at m0 30 rfl) ?_
    rw [e]
    (try simp only [ln_30_3, o_leq])
    exact ⟨by simp only [rt, h1, decide_true, Bool.true_and], h⟩
  · (try simp only [h1, decide_false, o_pickF, guardW_ft])
    exact ⟨by simp only [rt, h1, decide_false, Bool.false_and], h⟩
theorem right11 (h : St o w (blk g 39 p.cells :: R)) : CallV Tryz.prog Z 89 #[.pointer (some ⟨g, 0, none⟩)] w fun r w' => r = .bool (rt p 11) ∧ St o w' (blk g 39 p.cells :: R) := by
  refine f89.calls ?_
  unfold f89.sh
  (try simp only [o_chk, fa_39_12, Nat.zero_add])
  refine r_load one2 (h.at m0 31 rfl) ?_
  (try simp only [o_gtr])
  exact ⟨by first | rfl | trivial, h⟩
end
end Go.Proofs.YtfafkgbipjhcaaaGreatDoor
