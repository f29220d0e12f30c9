/- Reference 15: what a kind names as letters; Check. -/
import Derived.Test.YtfafkgbipjhcaaaGreatDoorG7
import Derived.Test.YtfafkgbipjhcaaaGreatDoorT30
import Derived.Test.YtfafkgbipjhcaaaGreatDoorShIns
set_option linter.unusedVariables false
set_option linter.unusedSimpArgs false
namespace Go.Proofs.YtfafkgbipjhcaaaGreatDoor
open Go.Sh
def pLets (kd : Int) : List UInt8 :=
  if kd = 1 then [99, 101] else if kd = 2 ∨ kd = 8 then [99, 108, 112, 101] else if kd = 3 then [99, 108, 112, 101, 117, 122, 111] else if kd = 4 ∨ kd = 9 ∨ kd = 11 ∨ kd = 12 then [99, 108, 112, 122]
  else if kd = 5 ∨ kd = 10 then [99, 108, 112, 118, 116] else if kd = 6 then [99, 108, 112, 102, 98] else if kd = 7 then [99, 108, 112, 101, 122] else if kd = 13 then [99, 108, 112, 116] else if kd = 14 then [99, 108, 112, 115] else []
def ltr : Nat → Int
  | 0 => 99
  | 1 => 108
  | 2 => 112
  | 3 => 101
  | 4 => 117
  | 5 => 122
  | 6 => 118
  | 7 => 111
  | 8 => 102
  | 9 => 116
  | 10 => 98
  | _ => 115
def pHas (l : List UInt8) (n : Int) : Bool := l.any fun b => (b.toNat : Int) == n
theorem pHas_fin : ∀ K : Fin 15, ∀ i : Fin 12, pHas (pLets K.1) (ltr i.1) = hasF K.1 i.1 := by decide +kernel
theorem pHas_lets {kd : Int} (h : isKd kd = true) {i : Nat} (hi : i < 12) : pHas (pLets kd) (ltr i) = hasF kd.toNat i := by
  have hK := isKd_le h
  have h0 : 0 ≤ kd := by simp [isKd] at h; omega
  have := pHas_fin ⟨kd.toNat, by omega⟩ ⟨i, hi⟩
  have e : ((kd.toNat : Nat) : Int) = kd := by omega
  rw [← this]
  simp only [e]
theorem pLets_nil {kd : Int} : pLets kd = [] ↔ isKd kd = false := by
  constructor
  · intro h
    cases hk : isKd kd with
    | false => rfl
    | true =>
      simp [isKd] at hk
      have : kd = 1 ∨ kd = 2 ∨ kd = 3 ∨ kd = 4 ∨ kd = 5 ∨ kd = 6 ∨ kd = 7 ∨ kd = 8 ∨ kd = 9 ∨ kd = 10 ∨ kd = 11 ∨ kd = 12 ∨ kd = 13 ∨ kd = 14 := by omega
      rcases this with rfl | rfl | rfl | rfl | rfl | rfl | rfl | rfl | rfl | rfl | rfl | rfl | rfl | rfl <;> exact absurd h (by decide)
  · intro h
    simp [isKd] at h
    unfold pLets
    have h1 : kd ≠ 1 := by omega
    have h2 : ¬ (kd = 2 ∨ kd = 8) := by omega
    have h3 : kd ≠ 3 := by omega
    have h4 : ¬ (kd = 4 ∨ kd = 9 ∨ kd = 11 ∨ kd = 12) := by omega
    have h5 : ¬ (kd = 5 ∨ kd = 10) := by omega
    have h6 : kd ≠ 6 := by omega
    have h7 : kd ≠ 7 := by omega
    have h8 : kd ≠ 13 := by omega
    have h9 : kd ≠ 14 := by omega
    rw [if_neg h1, if_neg h2, if_neg h3, if_neg h4, if_neg h5, if_neg h6, if_neg h7, if_neg h8, if_neg h9]
section
variable (Z : List PanicEntry → World → Prop) {o w : World} {R As : List HProp} {g : Nat} {p : Pk}
theorem pLettersC (kd : Int) : CallV Tryz.prog Z 19 #[.int .i8 kd] w fun r w' => r = .string (str (pLets kd)) ∧ w' = w := by
  refine f19.calls ?_
  unfold f19.sh
  intro j1 hj1
  by_cases hk : isKd kd = true
  · simp [isKd] at hk
    have : kd = 1 ∨ kd = 2 ∨ kd = 3 ∨ kd = 4 ∨ kd = 5 ∨ kd = 6 ∨ kd = 7 ∨ kd = 8 ∨ kd = 9 ∨ kd = 10 ∨ kd = 11 ∨ kd = 12 ∨ kd = 13 ∨ kd = 14 := by omega
    have T : ∀ a : Int, (a == a) = true := fun a => by simp
    rcases this with rfl | rfl | rfl | rfl | rfl | rfl | rfl | rfl | rfl | rfl | rfl | rfl | rfl | rfl
    all_goals ((try simp only [o_eql, Int.reduceBEq, condF, beq_self_eq_true, condT]); repeat (intro j hj; skip; refine hj _ _ fun _ => ?_; (try simp only [condT, condF])))
    all_goals first | exact ⟨rfl, rfl⟩ | exact ⟨rfl, trivial⟩
  · have hk : isKd kd = false := by simpa using hk
    have hl := pLets_nil.2 hk
    simp [isKd] at hk
    have n : ∀ j : Int, 1 ≤ j → j ≤ 14 → (kd == j) = false := fun j h1 h2 => by simp; omega
    (try simp only [o_eql, n 14 (by omega) (by omega), condF, n 13 (by omega) (by omega), n 7 (by omega) (by omega), n 6 (by omega) (by omega), n 10 (by omega) (by omega), n 5 (by omega) (by omega), n 12 (by omega) (by omega), n 11 (by omega) (by omega), n 9 (by omega) (by omega), n 4 (by omega) (by omega), n 3 (by omega) (by omega), n 8 (by omega) (by omega), n 2 (by omega) (by omega), n 1 (by omega) (by omega)])
    repeat (intro j hj; refine hj _ _ fun _ => ?_; (try simp only [condF]))
    refine hj1 _ fun _ => ?_
    rw [hl]
    exact ⟨rfl, rfl⟩
theorem pHasC (l : List UInt8) (n : Int) (hl : l.length ≤ 1000000) : CallV Tryz.prog Z 21 #[.string (str l), .int .u8 n] w fun r w' => r = .bool (pHas l n) ∧ w' = w := by
  refine f21.calls ?_
  unfold f21.sh
  refine ⟨fun m y w' => ∃ i : Nat, y = .int .i64 i ∧ m + i = l.length ∧ pHas (l.take i) n = false ∧ w' = w, ⟨l.length, 0, rfl, rfl, rfl, rfl⟩, ?_⟩
  rintro m _ w2 ⟨i, rfl, hi, hno, hw⟩ _
  subst hw
  by_cases hlt : (i : Int) < (l.length : Int)
  · have hil : i < l.length := by omega
    (try simp only [o_add, ln_9_3, str_size, o_lss, hlt, decide_true, condT])
    refine r1 (run_indexStr (by kernel_rfl) .i64 l i hil _) ?_
    refine r1 (run_eql_int _ _ _ _ _ _ _ _) ?_
    have e : l = l.take i ++ (l[i] :: l.drop (i + 1)) := by rw [← List.drop_eq_getElem_cons hil, List.take_append_drop]
    cases hb : ((l[i].toNat : Int) == n) with
    | true =>
      (try simp only [condT])
      refine ⟨?_, by first | rfl | trivial⟩
      have : pHas l n = true := List.any_eq_true.2 ⟨l[i], List.getElem_mem hil, hb⟩
      rw [this]
    | false =>
      (try simp only [condF])
      rw [wr_i64 (x := (i : Int) + 1) (by omega) (by omega)]
      refine ⟨m - 1, by omega, i + 1, rfl, by omega, ?_, by first | rfl | trivial⟩
      have : l.take (i + 1) = l.take i ++ [l[i]] := by rw [List.take_add_one, List.getElem?_eq_getElem hil]; rfl
      rw [this]
      unfold pHas at hno ⊢
      rw [List.any_append, hno]
      simp [hb]
  · (try simp only [o_add, ln_9_3, str_size, o_lss, hlt, decide_false, condF])
    refine ⟨?_, by first | rfl | trivial⟩
    rw [List.take_of_length_le (by omega)] at hno
    rw [hno]
theorem connC2 (a b : Int) (is : Bool) (h : St o w R) : CallV Tryz.prog Z 20 #[.agg (zx a b).toArray, .bool is] w fun r w' => r = .bool (if is then cnOk a b else ((a == 0) && (b == 0))) ∧ St o w' R := by
  refine f20.calls ?_
  unfold f20.sh
  refine r_box _ _ h fun g w1 hS => ?_
  have hS : St o w1 (blk g 25 (zx a b) :: R) := hS
  cases is with
  | true =>
    (try simp only [fa_25_1, Nat.zero_add, fa_25_0, Nat.add_zero, condT])
    refine r_load one23 (hS.at m0 0 rfl) ?_
    by_cases h1 : 0 < a
    · (try simp only [o_gtr, h1, decide_true, o_pickT, guardW_true])
      refine r_load one23 (hS.at m0 1 rfl) ?_
      (try simp only [o_gtr])
      exact ⟨by simp [cnOk, h1], hS.drop⟩
    · (try simp only [o_gtr, h1, decide_false, o_pickF, guardW_ft])
      exact ⟨by simp [cnOk, h1], hS.drop⟩
  | false =>
    (try simp only [fa_25_1, Nat.zero_add, fa_25_0, Nat.add_zero, condF])
    refine r_load one23 (hS.at m0 0 rfl) ?_
    refine r1 (run_eql_int _ _ _ _ _ _ _ _) ?_
    cases h1 : (a == 0) with
    | true =>
      (try simp only [o_pickT, guardW_true])
      refine r_load one23 (hS.at m0 1 rfl) ?_
      (try simp only [o_eql])
      exact ⟨by simp, hS.drop⟩
    | false =>
      (try simp only [o_pickF, guardW_ft])
      exact ⟨by simp, hS.drop⟩
theorem zxidC2 (a b : Int) (is : Bool) (h : St o w R) : CallV Tryz.prog Z 22 #[.agg (zx a b).toArray, .bool is] w fun r w' => r = .bool (((a == 0) && (b == 0)) || (is && (decide (0 < a) && (decide (a ≤ 2147483647) && decide (0 < b))))) ∧ St o w' R := by
  refine f22.calls ?_
  unfold f22.sh
  refine r_box _ _ h fun g w1 hS => ?_
  have hS : St o w1 (blk g 27 (zx a b) :: R) := hS
  (try simp only [fa_27_1, Nat.zero_add, fa_27_0, Nat.add_zero])
  refine r_load one23 (hS.at m0 0 rfl) ?_
  refine r1 (run_eql_int _ _ _ _ _ _ _ _) ?_
  cases h1 : (a == 0) with
  | true =>
    (try simp only [o_pickT, guardW_true])
    refine r_load one23 (hS.at m0 1 rfl) ?_
    refine r1 (run_eql_int _ _ _ _ _ _ _ _) ?_
    cases h2 : (b == 0) with
    | true =>
      (try simp only [o_pickT, guardW_tf, guardW_u])
      exact ⟨by simp, hS.drop⟩
    | false =>
      have ha0 : a = 0 := by simpa using h1
      have h3 : ¬ 0 < a := by omega
      cases is with
      | false =>
        (try simp only [o_pickF, guardW_ff, guardW_ft])
        exact ⟨by simp, hS.drop⟩
      | true =>
        (try simp only [o_pickF, guardW_ff, o_pickT, guardW_true])
        refine r_load one23 (hS.at m0 0 rfl) ?_
        (try simp only [h3, decide_false, o_gtr, o_pickF, guardW_ft])
        exact ⟨by simp [h3], hS.drop⟩
  | false =>
    (try simp only [o_pickF, guardW_ff, guardW_ft])
    cases is with
    | false =>
      (try simp only [o_pickF, guardW_ft])
      exact ⟨by simp, hS.drop⟩
    | true =>
      (try simp only [o_pickT, guardW_true])
      refine r_load one23 (hS.at m0 0 rfl) ?_
      by_cases h3 : 0 < a
      · (try simp only [h3, decide_true, o_gtr, o_pickT, guardW_true])
        refine r_load one23 (hS.at m0 0 rfl) ?_
        by_cases h4 : a ≤ 2147483647
        · (try simp only [h4, decide_true, o_leq, o_pickT, guardW_true])
          refine r_load one23 (hS.at m0 1 rfl) ?_
          (try simp only [o_gtr])
          exact ⟨by simp [h3, h4], hS.drop⟩
        · (try simp only [h4, decide_false, o_leq, o_pickF, guardW_ft])
          exact ⟨by simp [h4], hS.drop⟩
      · (try simp only [h3, decide_false, o_gtr, o_pickF, guardW_ft])
        exact ⟨by simp [h3], hS.drop⟩
end
end Go.Proofs.YtfafkgbipjhcaaaGreatDoor

/- Reference 15: Check. -/
set_option linter.unusedVariables false
set_option linter.unusedSimpArgs false
namespace Go.Proofs.YtfafkgbipjhcaaaGreatDoor
open Go.Sh
noncomputable def fB (p : Pk) (i : Nat) : Bool := if hasF p.kd.toNat i then rt p i else zr p i
theorem okP_fB {p : Pk} : okP p = true ↔ isKd p.kd = true ∧ ∀ i, i < 12 → fB p i = true := by
  rw [okP_iff, bareB_iff]
  constructor
  · rintro ⟨h1, h2, h3⟩
    refine ⟨h1, fun i hi => ?_⟩
    unfold fB
    cases hh : hasF p.kd.toNat i with
    | true => exact h3 i hi hh
    | false => have := h2 i hi; rw [hh] at this; exact this
  · rintro ⟨h1, h2⟩
    refine ⟨h1, fun i hi => ?_, fun i hi hh => ?_⟩
    · have := h2 i hi
      unfold fB at this
      cases hh : hasF p.kd.toNat i with
      | true => rfl
      | false => rw [hh] at this; exact this
    · have := h2 i hi
      unfold fB at this
      rw [hh] at this; exact this
theorem okP_bad {p : Pk} (i : Nat) (hi : i < 12) (h : fB p i = false) : okP p = false := by
  cases hk : okP p with
  | false => rfl
  | true => rw [(okP_fB.1 hk).2 i hi] at h; cases h
theorem pLets_len (kd : Int) : (pLets kd).length ≤ 7 := by
  unfold pLets
  repeat' split
  all_goals decide
theorem cmpZ_anti (e n e' n' : Int) : (cmpZ e n e' n' > 0) ↔ (cmpZ e' n' e n < 0) := by
  unfold cmpZ cmpI
  split <;> split <;> split <;> (try split) <;> (try split) <;> (try split) <;> omega
section
variable (Z : List PanicEntry → World → Prop) {o w : World} {R As : List HProp} {g : Nat} {p : Pk}
theorem andNot {P : Program} {Z : List PanicEntry → World → Prop} {w : World} {f : FuncId} {s c : Value} {b h : Bool} {K : Value → World → Prop} (hc : CallV P Z f #[s, c] w fun r w' => r = .bool h ∧ w' = w) (hk : K (.bool (b && !h)) w) :
    guardW (.bool b) true (fun k => k s w) (fun t68 w => guardW (.bool b) true (fun k => CallV P Z f #[t68, c] w k) (fun t69 w => guardW (.bool b) true (fun k => run1 P Z (Op.unary .not t69) w k) (fun t70 w => run1 P Z (pickV (.bool b) t70 (.bool false)) w fun t71 w => K t71 w) w) w) w := by
  cases b with
  | true =>
    simp only [guardW_true]
    refine hc.mono fun r w' ⟨hr, hw⟩ => ?_
    subst hr; subst hw
    exact r1 (run_not _ _ _) (r1 (run_pick _ _ _ _ _) hk)
  | false =>
    simp only [guardW_ft]
    exact r1 (run_pick _ _ _ _ _) hk
theorem chk_zero {t : Tx} (h : chkT t = true) (h0 : t.n = 0) : t.e = 0 := by
  unfold chkT prop at h
  simp only [Bool.and_eq_true, Bool.or_eq_true, decide_eq_true_eq] at h
  omega
theorem f5y (h5 : (((p.ze == 0) && (p.zn == 0)) || (hasF p.kd.toNat 5 && (decide (0 < p.ze) && (decide (p.ze ≤ 2147483647) && decide (0 < p.zn))))) = true) (hz : (p.kd = 11 ∨ p.kd = 12) → p.zn ≠ 0) : fB p 5 = true := by
  unfold fB
  cases hh : hasF p.kd.toNat 5 with
  | true =>
    rw [hh, Bool.true_and] at h5
    show ((((p.kd != 11) && (p.kd != 12)) || !((p.ze == 0) && (p.zn == 0))) && zxOk p.ze p.zn) = true
    rw [show zxOk p.ze p.zn = true from h5, Bool.and_true]
    by_cases hk : p.kd = 11 ∨ p.kd = 12
    · have := hz hk
      simp [this]
    · simp; omega
  | false =>
    rw [hh, Bool.false_and, Bool.or_false] at h5
    exact h5
theorem f5n (h5 : (((p.ze == 0) && (p.zn == 0)) || (hasF p.kd.toNat 5 && (decide (0 < p.ze) && (decide (p.ze ≤ 2147483647) && decide (0 < p.zn))))) = true) (hk : p.kd = 11 ∨ p.kd = 12) (hz : p.zn = 0) : fB p 5 = false := by
  have hh : hasF p.kd.toNat 5 = true := by rcases hk with e | e <;> rw [e] <;> decide +kernel
  have h0 : p.ze = 0 := by
    rw [hz] at h5
    simpa using h5
  unfold fB
  rw [hh]
  show ((((p.kd != 11) && (p.kd != 12)) || !((p.ze == 0) && (p.zn == 0))) && zxOk p.ze p.zn) = false
  rw [h0, hz]
  rcases hk with e | e <;> rw [e] <;> rfl
set_option maxRecDepth 100000 in
theorem refChkP (hw : WfP p) (hx : Ent o R fun w => RdP w p) (h : St o w R) : CallV Tryz.prog Z 6 #[.agg p.cells.toArray] w fun r w' => r = .int .i64 (if okP p then 0 else 150) ∧ St o w' R := by
  refine f6.calls ?_
  unfold f6.sh
  refine r_box _ _ h fun g w1 hS => ?_
  have hS : St o w1 (blk g 39 p.cells :: R) := hS
  have bad : ∀ {w : World}, okP p = false → St o w (blk g 39 p.cells :: R) → Value.int .i64 150 = .int .i64 (if okP p then 0 else 150) ∧ St o w R := fun hf hS => ⟨by rw [hf]; rfl, hS.drop⟩
  have hll : (pLets p.kd).length ≤ 1000000 := Nat.le_trans (pLets_len p.kd) (by omega)
  have ci : ∀ (i : Nat) (w : World), CallV Tryz.prog Z 21 #[.string (str (pLets p.kd)), .int .u8 (ltr i)] w fun r w' => r = .bool (pHas (pLets p.kd) (ltr i)) ∧ w' = w := fun i w => pHasC Z _ _ hll
  (try simp only [fa_39_3, Nat.zero_add, fa_39_4, fa_39_5, fa_39_8, fa_39_9, fa_39_12p, fa_39_11p, fa_39_0, Nat.add_zero, fa_39_6, fa_39_10, fa_39_7, fa_37_0, fa_39_7p, fa_39_6p, fa_39_2p, fa_39_1p])
  refine r_load one22 (hS.at m0 0 rfl) ?_
  refine (pLettersC Z p.kd).mono fun r w2 ⟨hr, hw2⟩ => ?_
  subst hr; subst hw2
  refine ⟨fun w3 hd => ?_⟩
  have hS := hS.drew hd
  (try simp only [os_eql])
  refine rr_loadN ag25 (xs := zx p.cb p.ct) rfl (hS.cells_at m0 1 (pk_two ⟨rfl, rfl⟩)) ?_
  refine (ci 0 _).mono fun r w2 ⟨hr, hw2⟩ => ?_
  subst hr; subst hw2
  refine rs_loadN ag25 (xs := zx p.cb p.ct) rfl (hS.cells_at m0 1 (pk_two ⟨rfl, rfl⟩)) ?_
  refine (connC2 Z p.cb p.ct _ hS).mono fun r w4 ⟨hr, hS⟩ => ?_
  subst hr
  refine ⟨fun w5 hd => ?_⟩
  have hS := hS.drew hd
  skip
  refine rr_loadN ag25 (xs := zx p.lb p.lt) rfl (hS.cells_at m0 3 (pk_two ⟨rfl, rfl⟩)) ?_
  refine (ci 1 _).mono fun r w6 ⟨hr, hw2⟩ => ?_
  subst hr; subst hw2
  refine rs_loadN ag25 (xs := zx p.lb p.lt) rfl (hS.cells_at m0 3 (pk_two ⟨rfl, rfl⟩)) ?_
  refine (connC2 Z p.lb p.lt _ hS).mono fun r w7 ⟨hr, hS⟩ => ?_
  subst hr
  refine ⟨fun w5 hd => ?_⟩
  have hS := hS.drew hd
  skip
  refine rr_loadN ag27 (xs := zx p.ze p.zn) rfl (hS.cells_at m0 8 (pk_two ⟨rfl, rfl⟩)) ?_
  refine (ci 5 _).mono fun r w6 ⟨hr, hw2⟩ => ?_
  subst hr; subst hw2
  refine rs_loadN ag27 (xs := zx p.ze p.zn) rfl (hS.cells_at m0 8 (pk_two ⟨rfl, rfl⟩)) ?_
  refine (zxidC2 Z p.ze p.zn _ hS).mono fun r w8 ⟨hr, hS⟩ => ?_
  subst hr
  refine ⟨fun w5 hd => ?_⟩
  have hS := hS.drew hd
  skip
  refine rr_loadN ag27 (xs := zx p.ve p.vn) rfl (hS.cells_at m0 10 (pk_two ⟨rfl, rfl⟩)) ?_
  refine (ci 6 _).mono fun r w6 ⟨hr, hw2⟩ => ?_
  subst hr; subst hw2
  refine rs_loadN ag27 (xs := zx p.ve p.vn) rfl (hS.cells_at m0 10 (pk_two ⟨rfl, rfl⟩)) ?_
  refine (zxidC2 Z p.ve p.vn _ hS).mono fun r w9 ⟨hr, hS⟩ => ?_
  subst hr
  have hs : ((str (pLets p.kd)).toList == (str []).toList) = !isKd p.kd := by
    rw [str_toList, str_toList]
    cases hkd : isKd p.kd with
    | false => rw [pLets_nil.2 hkd]; rfl
    | true =>
      cases hl : pLets p.kd with
      | nil => rw [pLets_nil.1 hl] at hkd; cases hkd
      | cons a l => rfl
  have hs : ((str (pLets p.kd)).toList == ({ data := #[] } : ByteArray).toList) = !isKd p.kd := hs
  rw [hs]
  cases hkd : isKd p.kd with
  | false =>
    (try simp only [Bool.not_false, o_pickT, condT, guardW_tf, guardW_u])
    exact bad (by rw [okP, hkd]; rfl) hS
  | true =>
  have H : ∀ i, i < 12 → pHas (pLets p.kd) (ltr i) = hasF p.kd.toNat i := fun i hi => pHas_lets hkd hi
  have ci : ∀ (i : Nat), i < 12 → ∀ (w : World), CallV Tryz.prog Z 21 #[.string (str (pLets p.kd)), .int .u8 (ltr i)] w fun r w' => r = .bool (hasF p.kd.toNat i) ∧ w' = w := fun i hi w => by rw [← H i hi]; exact ci i w
  rw [H 0 (by omega), H 1 (by omega), H 5 (by omega), H 6 (by omega)]
  have e0 : (if hasF p.kd.toNat 0 then cnOk p.cb p.ct else ((p.cb == 0) && (p.ct == 0))) = fB p 0 := by unfold fB; cases hasF p.kd.toNat 0 <;> rfl
  have e1 : (if hasF p.kd.toNat 1 then cnOk p.lb p.lt else ((p.lb == 0) && (p.lt == 0))) = fB p 1 := by unfold fB; cases hasF p.kd.toNat 1 <;> rfl
  have e6 : (((p.ve == 0) && (p.vn == 0)) || (hasF p.kd.toNat 6 && (decide (0 < p.ve) && (decide (p.ve ≤ 2147483647) && decide (0 < p.vn))))) = fB p 6 := by unfold fB; cases hasF p.kd.toNat 6 <;> simp [rt, zr, zxOk]
  rw [e0, e1, e6]
  clear e0 e1 e6
  cases h0 : fB p 0 with
  | false =>
    (try simp only [Bool.not_true, o_pickF, guardW_ff, o_not, Bool.not_false, o_pickT, condT, guardW_tf, guardW_u])
    exact bad (okP_bad 0 (by omega) h0) hS
  | true =>
  cases h1 : fB p 1 with
  | false =>
    (try simp only [Bool.not_true, o_pickF, guardW_ff, o_not, Bool.not_false, o_pickT, condT, guardW_tf, guardW_u])
    exact bad (okP_bad 1 (by omega) h1) hS
  | true =>
  cases h5 : (((p.ze == 0) && (p.zn == 0)) || (hasF p.kd.toNat 5 && (decide (0 < p.ze) && (decide (p.ze ≤ 2147483647) && decide (0 < p.zn))))) with
  | false =>
    (try simp only [Bool.not_true, o_pickF, guardW_ff, o_not, Bool.not_false, o_pickT, condT, guardW_tf, guardW_u])
    refine bad (okP_bad 5 (by omega) ?_) hS
    rw [Bool.or_eq_false_iff] at h5
    unfold fB
    cases hh : hasF p.kd.toNat 5 with
    | false => exact h5.1
    | true => rw [hh, Bool.true_and] at h5; simp only [if_true, rt, zxOk, h5.1, h5.2]; simp
  | true =>
  cases h6 : fB p 6 with
  | false =>
    (try simp only [Bool.not_true, o_pickF, guardW_ff, o_not, Bool.not_false, o_pickT, condT, guardW_tf, guardW_u])
    exact bad (okP_bad 6 (by omega) h6) hS
  | true =>
  simp only [Bool.not_true]
  (try simp only [o_pickF, guardW_ff, o_not, Bool.not_true])
  refine r_load one2 (hS.at m0 5 rfl) ?_
  by_cases hp0 : p.pl < 0
  · (try simp only [o_lss, hp0, decide_true, o_pickT, condT, guardW_tf, guardW_u])
    refine bad (okP_bad 2 (by omega) ?_) hS
    unfold fB
    split
    · exact decide_eq_false (by omega)
    · show (p.pl == 0) = false; simp; omega
  (try simp only [o_lss, hp0, decide_false, o_pickF, guardW_ff])
  refine r_load one2 (hS.at m0 5 rfl) ?_
  (try simp only [o_gtr])
  refine andNot (ci 2 (by omega) _) ?_
  have e2 : (decide (0 < p.pl) && !hasF p.kd.toNat 2) = !fB p 2 := by
    unfold fB
    cases hasF p.kd.toNat 2 with
    | true =>
      show (decide (0 < p.pl) && false) = !(decide (0 ≤ p.pl))
      rw [decide_eq_true (show 0 ≤ p.pl by omega), Bool.and_false]
      rfl
    | false =>
      show (decide (0 < p.pl) && true) = !(p.pl == 0)
      by_cases h : p.pl = 0
      · rw [h]; rfl
      · rw [decide_eq_true (show 0 < p.pl by omega)]
        simp [h]
  rw [e2]
  clear e2
  cases h2 : fB p 2 with
  | false =>
    (try simp only [Bool.not_false, condT])
    exact bad (okP_bad 2 (by omega) h2) hS
  | true =>
  simp only [Bool.not_true]
  (try simp only [condF])
  intro j47 hj47
  have J : ∀ (w : World) (lo : Int), lo = (if p.kd = 1 then 0 else 1) → St o w (blk g 39 p.cells :: R) → j47 (.int .u32 lo) w := by
    intro w lo hlo hS
    refine hj47 _ _ fun _ => ?_
    clear hj47
    intro j49 hj49
    have J : ∀ (w : World) (lo hi : Int), lo = (if hasF p.kd.toNat 3 then (if p.kd = 1 then 0 else 1) else 0) → hi = (if hasF p.kd.toNat 3 then 2147483647 else 0) → St o w (blk g 39 p.cells :: R) → j49 (.int .u32 lo) (.int .u32 hi) w := by
      intro w lo hi hlo hhi hS
      refine hj49 _ _ _ fun _ => ?_
      clear hj49
      refine r_load one23 (hS.at m0 6 rfl) ?_
      have e3 : fB p 3 = (decide (lo ≤ p.ep) && decide (p.ep ≤ hi)) := by
        have := hw.ep.1
        subst hlo hhi
        unfold fB
        cases hasF p.kd.toNat 3 with
        | true =>
          show (decide (p.ep ≤ 2147483647) && (decide (0 < p.ep) || (p.kd == 1))) = (decide ((if p.kd = 1 then (0 : Int) else 1) ≤ p.ep) && decide (p.ep ≤ 2147483647))
          rw [Bool.eq_iff_iff]
          simp only [Bool.and_eq_true, Bool.or_eq_true, decide_eq_true_eq, beq_iff_eq]
          split <;> omega
        | false =>
          show (p.ep == 0) = (decide ((0 : Int) ≤ p.ep) && decide (p.ep ≤ 0))
          rw [Bool.eq_iff_iff]
          simp only [Bool.and_eq_true, decide_eq_true_eq, beq_iff_eq]
          omega
      clear hlo hhi
      by_cases hl : p.ep < lo
      · (try simp only [o_lss, hl, decide_true, o_pickT, condT, guardW_tf, guardW_u])
        exact bad (okP_bad 3 (by omega) (by rw [e3, decide_eq_false (show ¬ lo ≤ p.ep by omega), Bool.false_and])) hS
      (try simp only [o_lss, hl, decide_false, o_pickF, guardW_ff])
      refine r_load one23 (hS.at m0 6 rfl) ?_
      by_cases hh : p.ep > hi
      · (try simp only [o_gtr, hh, decide_true, o_pickT, condT, guardW_tf, guardW_u])
        exact bad (okP_bad 3 (by omega) (by rw [e3, decide_eq_false (show ¬ p.ep ≤ hi by omega), Bool.and_false])) hS
      have h3 : fB p 3 = true := by rw [e3, decide_eq_true (show lo ≤ p.ep by omega), decide_eq_true (show p.ep ≤ hi by omega), Bool.and_self]
      (try simp only [o_gtr, hh, decide_false, o_pickF, guardW_ff])
      clear e3 hl hh
      refine r_load one23 (hS.at m0 7 rfl) ?_
      by_cases hc : p.cu > 2147483647
      · (try simp only [o_gtr, hc, decide_true, o_pickT, condT, guardW_tf, guardW_u])
        refine bad (okP_bad 4 (by omega) ?_) hS
        unfold fB
        split
        · exact decide_eq_false (by omega)
        · show (p.cu == 0) = false; simp; omega
      (try simp only [o_gtr, hc, decide_false, o_pickF, guardW_ff])
      refine r_load one23 (hS.at m0 7 rfl) ?_
      (try simp only [o_gtr])
      refine andNot (ci 4 (by omega) _) ?_
      have e4 : (decide (0 < p.cu) && !hasF p.kd.toNat 4) = !fB p 4 := by
        have := hw.cu.1
        unfold fB
        cases hasF p.kd.toNat 4 with
        | true =>
          show (decide (0 < p.cu) && false) = !(decide (p.cu ≤ 2147483647))
          rw [decide_eq_true (show p.cu ≤ 2147483647 by omega), Bool.and_false]
          rfl
        | false =>
          show (decide (0 < p.cu) && true) = !(p.cu == 0)
          by_cases h : p.cu = 0
          · rw [h]; rfl
          · rw [decide_eq_true (show 0 < p.cu by omega)]
            simp [h]
      rw [e4]
      clear e4
      cases h4 : fB p 4 with
      | false =>
        (try simp only [Bool.not_false, o_pickT, condT, guardW_tf, guardW_u])
        exact bad (okP_bad 4 (by omega) h4) hS
      | true =>
      simp only [Bool.not_true]
      (try simp only [o_pickF, guardW_ff])
      refine r_load one4 (hS.at m0 12 rfl) ?_
      refine andNot (ci 7 (by omega) _) ?_
      have e7 : (p.co && !hasF p.kd.toNat 7) = !fB p 7 := by
        unfold fB
        cases hasF p.kd.toNat 7 with
        | true => show (p.co && false) = !true; rw [Bool.and_false]; rfl
        | false => show (p.co && true) = !!p.co; rw [Bool.and_true, Bool.not_not]
      rw [e7]
      clear e7
      cases h7 : fB p 7 with
      | false =>
        (try simp only [Bool.not_false, o_pickT, condT, guardW_tf, guardW_u])
        exact bad (okP_bad 7 (by omega) h7) hS
      | true =>
      simp only [Bool.not_true]
      (try simp only [o_pickF, guardW_ff])
      refine r_load one4 (hS.at m0 13 rfl) ?_
      refine andNot (ci 8 (by omega) _) ?_
      have e8 : (p.fi && !hasF p.kd.toNat 8) = !fB p 8 := by
        unfold fB
        cases hasF p.kd.toNat 8 with
        | true => show (p.fi && false) = !true; rw [Bool.and_false]; rfl
        | false => show (p.fi && true) = !!p.fi; rw [Bool.and_true, Bool.not_not]
      rw [e8]
      clear e8
      cases h8 : fB p 8 with
      | false =>
        (try simp only [Bool.not_false, condT])
        exact bad (okP_bad 8 (by omega) h8) hS
      | true =>
      simp only [Bool.not_true]
      (try simp only [condF])
      refine ⟨fun w5 hd => ?_⟩
      have hS := hS.drew hd
      skip
      refine rr_load one2 (hS.at m0 31 rfl) ?_
      refine rp (fun w => run_neq_int _ _ _ _ _ _ _ _) ?_
      refine (ci 11 (by omega) _).mono fun r w6 ⟨hr, hw2⟩ => ?_
      subst hr; subst hw2
      refine rs_load one2 (hS.at m0 31 rfl) ?_
      refine rp (fun w => run_neq_boolV (by kernel_rfl) _ _ _ _ w) ?_
      have e11 : fB p 11 = (!(hasF p.kd.toNat 11 != (p.se != 0)) && decide (0 ≤ p.se)) := by
        unfold fB
        cases hasF p.kd.toNat 11 with
        | true =>
          show decide (0 < p.se) = (!(true != (p.se != 0)) && decide (0 ≤ p.se))
          by_cases h : p.se = 0
          · rw [h]; rfl
          · rw [show (p.se != 0) = true by simpa using h, Bool.eq_iff_iff]
            simp
            omega
        | false =>
          show (p.se == 0) = (!(false != (p.se != 0)) && decide (0 ≤ p.se))
          by_cases h : p.se = 0
          · rw [h]; rfl
          · rw [show (p.se == 0) = false by simpa using h, show (p.se != 0) = true by simpa using h]
            rfl
      cases hn11 : (hasF p.kd.toNat 11 != (p.se != 0)) with
      | true =>
        rw [hn11] at e11
        (try simp only [o_pickTp, condT, guardV_tf, guardW_tf, still_tf])
        refine rs_load one2 (hS.at m0 31 rfl) ?_
        exact bad (okP_bad 11 (by omega) e11) hS
      | false =>
      rw [hn11] at e11
      (try simp only [still_ff, o_pickFp, guardV_ff])
      refine rr_load one2 (hS.at m0 31 rfl) ?_
      by_cases hs0 : p.se < 0
      · (try simp only [o_lssp, hs0, decide_true, o_pickTp, condT, guardV_tf, guardW_tf, still_tf])
        refine rs_load one2 (hS.at m0 31 rfl) (rs_load one2 (hS.at m0 31 rfl) ?_)
        skip
        exact bad (okP_bad 11 (by omega) (by rw [e11, decide_eq_false (show ¬ 0 ≤ p.se by omega)]; rfl)) hS
      rw [decide_eq_true (show 0 ≤ p.se by omega)] at e11
      have h11 : fB p 11 = true := e11
      clear e11
      (try simp only [o_lssp, hs0, decide_false, o_pickFp, guardV_ff, still_ff, guardW_ff])
      obtain ⟨ba, bc, hbv⟩ := (hx _ hS.drop).b.form
      have hat : ∀ {w : World}, St o w (blk g 39 p.cells :: R) → w.cell? ⟨g, 30, none⟩ = some (.slice ba p.b.length bc) := fun hS => by rw [← hbv]; exact hS.at m0 30 rfl
      refine rr_load one30 (hat hS) ?_
      (try simp only [ln_30_3p, o_gtrp])
      refine (ci 10 (by omega) _).mono fun r w7 ⟨hr, hw2⟩ => ?_
      subst hr; subst hw2
      refine rs_load one30 (hat hS) (rs_load one2 (hS.at m0 31 rfl) (rs_load one2 (hS.at m0 31 rfl) ?_))
      refine rp (fun w => run_neq_boolV (by kernel_rfl) _ _ _ _ w) ?_
      have e10 : fB p 10 = (!(hasF p.kd.toNat 10 != decide (0 < (p.b.length : Int))) && decide ((p.b.length : Int) ≤ 4096)) := by
        unfold fB
        cases hasF p.kd.toNat 10 with
        | true =>
          show (decide (0 < (p.b.length : Int)) && decide ((p.b.length : Int) ≤ 4096)) = (!(true != decide (0 < (p.b.length : Int))) && decide ((p.b.length : Int) ≤ 4096))
          cases decide (0 < (p.b.length : Int)) <;> rfl
        | false =>
          show decide (p.b.length = 0) = (!(false != decide (0 < (p.b.length : Int))) && decide ((p.b.length : Int) ≤ 4096))
          by_cases h : p.b.length = 0
          · rw [h]; rfl
          · rw [decide_eq_false h, decide_eq_true (show 0 < (p.b.length : Int) by omega)]
            rfl
      cases hn10 : (hasF p.kd.toNat 10 != decide (0 < (p.b.length : Int))) with
      | true =>
        rw [hn10] at e10
        (try simp only [o_pickTp, condT, guardV_tf])
        exact bad (okP_bad 10 (by omega) e10) hS
      | false =>
      rw [hn10] at e10
      (try simp only [o_pickFp, guardV_ff])
      refine rr_load one30 (hat hS) ?_
      by_cases hb4 : (p.b.length : Int) > 4096
      · (try simp only [ln_30_3p, o_gtrp, hb4, decide_true, condT])
        exact bad (okP_bad 10 (by omega) (by rw [e10, decide_eq_false (show ¬ (p.b.length : Int) ≤ 4096 by omega)]; rfl)) hS
      rw [decide_eq_true (show (p.b.length : Int) ≤ 4096 by omega)] at e10
      have h10 : fB p 10 = true := e10
      clear e10
      (try simp only [ln_30_3p, o_gtrp, hb4, decide_false, condF])
      refine r_load one22 (hS.at m0 0 rfl) ?_
      refine r1 (run_eql_int _ _ _ _ _ _ _ _) ?_
      have hall : fB p 5 = true → fB p 9 = true → okP p = true := fun h5 h9 => okP_fB.2 ⟨hkd, fun i hi => by
        obtain rfl | rfl | rfl | rfl | rfl | rfl | rfl | rfl | rfl | rfl | rfl | rfl := lt12 hi <;> assumption⟩
      have h3 : ((p.kd == 11) = true) ∨ ((p.kd == 11) = false ∧ (p.kd == 12) = true) ∨ ((p.kd == 11) = false ∧ (p.kd == 12) = false) := by cases (p.kd == 11) <;> cases (p.kd == 12) <;> simp
      rcases h3 with e | ⟨e, e'⟩ | ⟨e, e'⟩
      all_goals (rw [e]; (try simp only [o_pickT, guardW_true, fa_27_1, guardW_tf, o_pickF, guardW_ff]))
      any_goals (refine r_load one22 (hS.at m0 0 rfl) ?_; refine r1 (run_eql_int _ _ _ _ _ _ _ _) ?_; rw [e']; (try simp only [o_pickT, guardW_true, fa_27_1, o_pickF, condF, guardW_ft]))
      any_goals
        refine r_load one23 (hS.at m0 9 rfl) ?_
        refine r1 (run_eql_int _ _ _ _ _ _ _ _) ?_
        rcases Bool.eq_false_or_eq_true (p.zn == 0) with hz | hz
        · rw [hz]
          (try simp only [condT])
          refine bad (okP_bad 5 (by omega) (f5n h5 (by first | exact .inl (by simpa using e) | exact .inr (by simpa using e')) (by simpa using hz))) hS
        rw [hz]
        (try simp only [condF])
      all_goals
        have h5' : fB p 5 = true := f5y h5 (by first | exact fun _ => by simpa using hz | (intro h; simp only [beq_eq_false_iff_ne] at e e'; omega))
        refine (ci 9 (by omega) _).mono fun r w7 ⟨hr, hw2⟩ => ?_
        subst hr; subst hw2
        cases h9 : hasF p.kd.toNat 9 with
        | false =>
          (try simp only [o_not, Bool.not_false, condT])
          refine r_loadN ag37 (xs := p.t.cells) (Tx.cells_len _) (hS.cells_at m0 14 (pk_tx p)) ?_
          refine r_build (cells := tz.cells.toArray) (by kernel_rfl) ?_
          refine (eqT Z p.t tz (fun w hw => (hx w hw.drop).t) (fun w hw => qz_rd w) hS).mono fun r w8 ⟨⟨b, hr, hb⟩, hS⟩ => ?_
          subst hr
          have hz9 : fB p 9 = b := by
            unfold fB
            rw [h9, if_neg Bool.false_ne_true]
            exact zr_txn hb
          cases b with
          | false =>
            (try simp only [o_not, Bool.not_false, condT])
            exact bad (okP_bad 9 (by omega) hz9) hS
          | true =>
            (try simp only [o_not, Bool.not_true, condF])
            rw [if_pos (hall h5' hz9)]
            exact ⟨rfl, hS.drop⟩
        | true =>
          have h9e : fB p 9 = (chkT p.t && (if p.kd = 13 then ((p.t.e == 0) && (p.t.n == 0)) && decide (0 < p.t.nu) else decide (cmpZ p.ve p.vn p.t.e p.t.n < 0))) := by
            unfold fB
            rw [h9, if_pos rfl]
            rfl
          (try simp only [o_not, Bool.not_true, condF])
          refine r_loadN ag37 (xs := p.t.cells) (Tx.cells_len _) (hS.cells_at m0 14 (pk_tx p)) ?_
          refine (refChkT Z p.t hw.h (fun w hw => (hx w hw.drop).t) hS).mono fun r w8 ⟨hr, hS⟩ => ?_
          subst hr
          (try simp only [o_neq])
          refine r_loadN ag27 (xs := zx p.t.e p.t.n) rfl (hS.cells_at m0 14 (pk_two ⟨rfl, rfl⟩)) ?_
          refine r_loadN ag27 (xs := zx p.ve p.vn) rfl (hS.cells_at m0 10 (pk_two ⟨rfl, rfl⟩)) ?_
          refine (refCompare Z hS).mono fun r w9 ⟨hr, hS⟩ => ?_
          subst hr
          have h40 : ((40 : Int) != 0) = true := rfl
          have h00 : ((0 : Int) != 0) = false := rfl
          cases hc : chkT p.t with
          | false =>
            rw [if_neg Bool.false_ne_true, h40]
            (try simp only [o_pickT, condT, guardW_tf, guardW_u, o_gtr])
            exact bad (okP_bad 9 (by omega) (by rw [h9e, hc]; rfl)) hS
          | true =>
          rw [hc, Bool.true_and] at h9e
          rw [if_pos rfl, h00]
          by_cases hk : p.kd = 13
          · have hn13 : (p.kd != 13) = false := by simp [hk]
            have he13 : (p.kd == 13) = true := by simp [hk]
            rw [if_pos hk] at h9e
            (try simp only [o_pickF, guardW_ff, o_gtr])
            refine r_load one22 (hS.at m0 0 rfl) ?_
            refine r1 (run_neq_int _ _ _ _ _ _ _ _) ?_
            rw [hn13]
            (try simp only [o_pickF, guardW_ff, guardW_ft])
            refine r_load one22 (hS.at m0 0 rfl) ?_
            refine r1 (run_eql_int _ _ _ _ _ _ _ _) ?_
            rw [he13]
            (try simp only [o_pickT, guardW_true, fa_37_0, Nat.add_zero, fa_27_1])
            refine r_load one23 (hS.at m0 15 rfl) ?_
            refine r1 (run_neq_int _ _ _ _ _ _ _ _) ?_
            cases hn0 : (p.t.n != 0) with
            | true =>
              (try simp only [o_pickT, condT, guardW_tf])
              refine bad (okP_bad 9 (by omega) ?_) hS
              rw [h9e, show (p.t.n == 0) = false by simpa using hn0, Bool.and_false]
              rfl
            | false =>
            have hn0 : p.t.n = 0 := by simpa using hn0
            have he0 : p.t.e = 0 := chk_zero hc hn0
            (try simp only [o_pickF, guardW_ff, fa_37_1, fa_29_2])
            refine r_load one2 (hS.at m0 18 rfl) ?_
            by_cases hnu : p.t.nu < 1
            · (try simp only [o_lss, hnu, decide_true, condT])
              refine bad (okP_bad 9 (by omega) ?_) hS
              rw [h9e, decide_eq_false (show ¬ 0 < p.t.nu by omega), Bool.and_false]
            · (try simp only [o_lss, hnu, decide_false, condF])
              have h9y : fB p 9 = true := by
                rw [h9e, hn0, he0, decide_eq_true (show 0 < p.t.nu by omega)]
                rfl
              rw [if_pos (hall h5' h9y)]
              exact ⟨rfl, hS.drop⟩
          · have hn13 : (p.kd != 13) = true := by simp [hk]
            have he13 : (p.kd == 13) = false := by simp [hk]
            rw [if_neg hk] at h9e
            by_cases hab : cmpZ p.t.e p.t.n p.ve p.vn > 0
            · (try simp only [o_pickF, guardW_ff, o_gtr, hab, decide_true])
              refine r_load one22 (hS.at m0 0 rfl) ?_
              refine r1 (run_neq_int _ _ _ _ _ _ _ _) ?_
              rw [hn13]
              (try simp only [o_pickT, guardW_true, o_not, Bool.not_true, o_pickF, guardW_ff])
              refine r_load one22 (hS.at m0 0 rfl) ?_
              refine r1 (run_eql_int _ _ _ _ _ _ _ _) ?_
              rw [he13]
              (try simp only [o_pickF, condF, guardW_ft, guardW_u])
              rw [if_pos (hall h5' (by rw [h9e]; exact decide_eq_true ((cmpZ_anti _ _ _ _).1 hab)))]
              exact ⟨rfl, hS.drop⟩
            · (try simp only [o_pickF, guardW_ff, o_gtr, hab, decide_false])
              refine r_load one22 (hS.at m0 0 rfl) ?_
              refine r1 (run_neq_int _ _ _ _ _ _ _ _) ?_
              rw [hn13]
              (try simp only [o_pickT, guardW_true, o_not, Bool.not_false, condT, guardW_tf, guardW_u])
              exact bad (okP_bad 9 (by omega) (by rw [h9e]; exact decide_eq_false fun h => hab ((cmpZ_anti _ _ _ _).2 h))) hS
    refine (ci 3 (by omega) _).mono fun r w' ⟨hr, hw2⟩ => ?_
    subst hr; subst hw2
    cases hh : hasF p.kd.toNat 3 with
    | true =>
      (try simp only [o_not, Bool.not_true, condF])
      exact J _ lo _ (by rw [hh, if_pos rfl]; exact hlo) (by rw [hh, if_pos rfl]) hS
    | false =>
      (try simp only [o_not, Bool.not_false, condT])
      exact J _ 0 0 (by rw [hh, if_neg Bool.false_ne_true]) (by rw [hh, if_neg Bool.false_ne_true]) hS
  refine r_load one22 (hS.at m0 0 rfl) ?_
  refine r1 (run_eql_int _ _ _ _ _ _ _ _) ?_
  by_cases hk1 : p.kd = 1
  · rw [show (p.kd == 1) = true by simp [hk1]]
    (try simp only [condT])
    exact J _ _ (by rw [if_pos hk1]) hS
  · rw [show (p.kd == 1) = false by simp [hk1]]
    (try simp only [condF])
    exact J _ _ (by rw [if_neg hk1]) hS
end
end Go.Proofs.YtfafkgbipjhcaaaGreatDoor

/- EqPacket. Printed by wip/sh/mkG10.py. -/
set_option linter.unusedVariables false
set_option linter.unusedSimpArgs false
namespace Go.Proofs.YtfafkgbipjhcaaaGreatDoor
open Go.Sh
theorem neqConn (e n e' n' : Int) (w : World) : (eqOp .neq 25 false false (.agg (zx e n).toArray) (.agg (zx e' n').toArray)).run Tryz.prog w = .ok (.bool (!((e == e') && (n == n')))) w := by
  have hg : Tryz.prog.eqGuardType Tryz.prog.depth 25 = false := by kernel_rfl
  have hu : Tryz.prog.underlying 25 = some (.struct (Tryz.prog.fieldsOf 25)) := by kernel_rfl
  have hs : Tryz.prog.stoodInHeld 25 = false := by kernel_rfl
  have hk : Tryz.prog.plainKey 23 = true := by kernel_rfl
  have p0 : ∀ (a b : Int) (w : World), (part 23 (zx a b).toArray 0).run Tryz.prog w = .ok (.int .u32 a) w := fun a b w => run_part_plain w hk rfl
  have p1 : ∀ (a b : Int) (w : World), (part 23 (zx a b).toArray 1).run Tryz.prog w = .ok (.int .u32 b) w := fun a b w => run_part_plain w hk rfl
  unfold eqOp
  simp only [Sem.run_bind, run_eqGuard_agg _ _ _ _ _ _ _ hg, Result.andThen_ok, run_neq_struct, run_equalIn_agg _ _ _ _ _ hu hs]
  simp [Program.fieldsOf, Tryz.underlying25, Op.eqFields, p0, p1, run_equalIn_int _ _ _ _ _ _ _ Tryz.underlying23]
  by_cases h1 : e = e' <;> by_cases h2 : n = n' <;> simp [h1, h2]
section
variable (Z : List PanicEntry → World → Prop) {o w : World} {R As : List HProp} {g : Nat} {p : Pk}
set_option maxRecDepth 100000 in
theorem eqP (a c : Pk) (hx : Ent o R fun w => RdP w a) (hy : Ent o R fun w => RdP w c) (h : St o w R) : CallV Tryz.prog Z 15 #[.agg a.cells.toArray, .agg c.cells.toArray] w fun r w' => (∃ b, r = .bool b ∧ (b = true ↔ sameP a c)) ∧ St o w' R := by
  refine f15.calls ?_
  unfold f15.sh
  refine r_box _ _ h fun g1 w1 hS => ?_
  have hS : St o w1 (blk g1 39 a.cells :: R) := hS
  refine r_box _ _ hS fun g2 w2 hS => ?_
  have hS : St o w2 (blk g2 39 c.cells :: blk g1 39 a.cells :: R) := hS
  have no : ∀ {w : World}, ¬ sameP a c → St o w (blk g2 39 c.cells :: blk g1 39 a.cells :: R) → (∃ b, Value.bool false = .bool b ∧ (b = true ↔ sameP a c)) ∧ St o w R := fun hn hS => ⟨⟨false, rfl, by simp [hn]⟩, hS.drop.drop⟩
  (try simp only [fa_39_1, Nat.zero_add, fa_39_2, fa_39_3, fa_39_4, fa_39_5, fa_39_6, fa_39_7, fa_39_9, fa_39_12, fa_39_10, fa_39_11, fa_39_8, fa_39_0, Nat.add_zero])
  refine r_load one22 (hS.at m1 0 rfl) ?_
  skip
  refine r_load one22 (hS.at m0 0 rfl) ?_
  refine r1 (run_neq_int _ _ _ _ _ _ _ _) ?_
  cases hkd : (a.kd != c.kd) with
  | true =>
    (try simp only [o_pickT, condT, guardW_tf])
    exact no (fun hs => by have h1 : a.kd = c.kd := hs.1; rw [h1] at hkd; simp at hkd) hS
  | false =>
  have hkd : a.kd = c.kd := by simpa using hkd
  (try simp only [o_pickF, guardW_ff])
  refine r_loadN ag25 (xs := zx a.cb a.ct) rfl (hS.cells_at m1 1 (pk_two ⟨rfl, rfl⟩)) ?_
  skip
  refine r_loadN ag25 (xs := zx c.cb c.ct) rfl (hS.cells_at m0 1 (pk_two ⟨rfl, rfl⟩)) ?_
  refine r1 (neqConn _ _ _ _ _) ?_
  cases hf0 : ((a.cb == c.cb) && (a.ct == c.ct)) with
  | false =>
    simp only [Bool.not_false]
    (try simp only [o_pickT, condT, guardW_tf])
    exact no (fun hs => by have h := hs.2 0 (by omega); have h1 : a.cb = c.cb := h.1; have h2 : a.ct = c.ct := h.2; rw [h1, h2] at hf0; simp at hf0) hS
  | true =>
  have hf0 : sameF a c 0 := by simp at hf0; exact hf0
  simp only [Bool.not_true]
  (try simp only [o_pickF, guardW_ff])
  refine r_loadN ag25 (xs := zx a.lb a.lt) rfl (hS.cells_at m1 3 (pk_two ⟨rfl, rfl⟩)) ?_
  skip
  refine r_loadN ag25 (xs := zx c.lb c.lt) rfl (hS.cells_at m0 3 (pk_two ⟨rfl, rfl⟩)) ?_
  refine r1 (neqConn _ _ _ _ _) ?_
  cases hf1 : ((a.lb == c.lb) && (a.lt == c.lt)) with
  | false =>
    simp only [Bool.not_false]
    (try simp only [o_pickT, condT, guardW_tf])
    exact no (fun hs => by have h := hs.2 1 (by omega); have h1 : a.lb = c.lb := h.1; have h2 : a.lt = c.lt := h.2; rw [h1, h2] at hf1; simp at hf1) hS
  | true =>
  have hf1 : sameF a c 1 := by simp at hf1; exact hf1
  simp only [Bool.not_true]
  (try simp only [o_pickF, guardW_ff])
  refine r_load one2 (hS.at m1 5 rfl) ?_
  skip
  refine r_load one2 (hS.at m0 5 rfl) ?_
  refine r1 (run_neq_int _ _ _ _ _ _ _ _) ?_
  cases hpl : (a.pl != c.pl) with
  | true =>
    (try simp only [o_pickT, condT, guardW_tf])
    exact no (fun hs => by have h1 : a.pl = c.pl := hs.2 2 (by omega); rw [h1] at hpl; simp at hpl) hS
  | false =>
  have hpl : a.pl = c.pl := by simpa using hpl
  (try simp only [o_pickF, guardW_ff])
  refine r_load one23 (hS.at m1 6 rfl) ?_
  skip
  refine r_load one23 (hS.at m0 6 rfl) ?_
  refine r1 (run_neq_int _ _ _ _ _ _ _ _) ?_
  cases hep : (a.ep != c.ep) with
  | true =>
    (try simp only [o_pickT, condT, guardW_tf])
    exact no (fun hs => by have h1 : a.ep = c.ep := hs.2 3 (by omega); rw [h1] at hep; simp at hep) hS
  | false =>
  have hep : a.ep = c.ep := by simpa using hep
  (try simp only [o_pickF, guardW_ff])
  refine r_load one23 (hS.at m1 7 rfl) ?_
  skip
  refine r_load one23 (hS.at m0 7 rfl) ?_
  refine r1 (run_neq_int _ _ _ _ _ _ _ _) ?_
  cases hcu : (a.cu != c.cu) with
  | true =>
    (try simp only [o_pickT, condT, guardW_tf])
    exact no (fun hs => by have h1 : a.cu = c.cu := hs.2 4 (by omega); rw [h1] at hcu; simp at hcu) hS
  | false =>
  have hcu : a.cu = c.cu := by simpa using hcu
  (try simp only [o_pickF, guardW_ff])
  refine r_loadN ag27 (xs := zx a.ze a.zn) rfl (hS.cells_at m1 8 (pk_two ⟨rfl, rfl⟩)) ?_
  skip
  refine r_loadN ag27 (xs := zx c.ze c.zn) rfl (hS.cells_at m0 8 (pk_two ⟨rfl, rfl⟩)) ?_
  refine r1 (neqZx _ _ _ _ _) ?_
  cases hf5 : ((a.ze == c.ze) && (a.zn == c.zn)) with
  | false =>
    simp only [Bool.not_false]
    (try simp only [o_pickT, condT, guardW_tf])
    exact no (fun hs => by have h := hs.2 5 (by omega); have h1 : a.ze = c.ze := h.1; have h2 : a.zn = c.zn := h.2; rw [h1, h2] at hf5; simp at hf5) hS
  | true =>
  have hf5 : sameF a c 5 := by simp at hf5; exact hf5
  simp only [Bool.not_true]
  (try simp only [o_pickF, guardW_ff])
  refine r_loadN ag27 (xs := zx a.ve a.vn) rfl (hS.cells_at m1 10 (pk_two ⟨rfl, rfl⟩)) ?_
  skip
  refine r_loadN ag27 (xs := zx c.ve c.vn) rfl (hS.cells_at m0 10 (pk_two ⟨rfl, rfl⟩)) ?_
  refine r1 (neqZx _ _ _ _ _) ?_
  cases hf6 : ((a.ve == c.ve) && (a.vn == c.vn)) with
  | false =>
    simp only [Bool.not_false]
    (try simp only [condT])
    exact no (fun hs => by have h := hs.2 6 (by omega); have h1 : a.ve = c.ve := h.1; have h2 : a.vn = c.vn := h.2; rw [h1, h2] at hf6; simp at hf6) hS
  | true =>
  have hf6 : sameF a c 6 := by simp at hf6; exact hf6
  simp only [Bool.not_true]
  (try simp only [condF])
  refine r_load one4 (hS.at m1 12 rfl) ?_
  skip
  refine r_load one4 (hS.at m0 12 rfl) ?_
  refine r1 (run_eql_boolV (by kernel_rfl) _ _ _ _ _) ?_
  cases hco : (a.co == c.co) with
  | false =>
    (try simp only [o_pickF, guardW_ft])
    exact no (fun hs => by have h1 : a.co = c.co := hs.2 7 (by omega); rw [h1] at hco; simp at hco) hS
  | true =>
  have hco : a.co = c.co := by simpa using hco
  (try simp only [o_pickT, guardW_true])
  refine r_load one4 (hS.at m1 13 rfl) ?_
  skip
  refine r_load one4 (hS.at m0 13 rfl) ?_
  refine r1 (run_eql_boolV (by kernel_rfl) _ _ _ _ _) ?_
  cases hfi : (a.fi == c.fi) with
  | false =>
    (try simp only [o_pickF, guardW_ft])
    exact no (fun hs => by have h1 : a.fi = c.fi := hs.2 8 (by omega); rw [h1] at hfi; simp at hfi) hS
  | true =>
  have hfi : a.fi = c.fi := by simpa using hfi
  (try simp only [o_pickT, guardW_true])
  refine r_load one2 (hS.at m1 31 rfl) ?_
  skip
  refine r_load one2 (hS.at m0 31 rfl) ?_
  refine r1 (run_eql_int _ _ _ _ _ _ _ _) ?_
  cases hse : (a.se == c.se) with
  | false =>
    (try simp only [o_pickF, guardW_ft])
    exact no (fun hs => by have h1 : a.se = c.se := hs.2 11 (by omega); rw [h1] at hse; simp at hse) hS
  | true =>
  have hse : a.se = c.se := by simpa using hse
  (try simp only [o_pickT, guardW_true])
  refine r_loadN ag37 (xs := a.t.cells) (Tx.cells_len _) (hS.cells_at m1 14 (pk_tx a)) ?_
  skip
  refine r_loadN ag37 (xs := c.t.cells) (Tx.cells_len _) (hS.cells_at m0 14 (pk_tx c)) ?_
  refine (eqT Z a.t c.t (fun w hw => (hx w hw.drop.drop).t) (fun w hw => (hy w hw.drop.drop).t) hS).mono fun r w8 ⟨⟨b, hr, hb⟩, hS⟩ => ?_
  subst hr
  cases b with
  | false =>
    (try simp only [o_pickF, guardW_ft])
    exact no (fun hs => by have := hb.2 (hs.2 9 (by omega)); cases this) hS
  | true =>
  have ht : sameF a c 9 := hb.1 rfl
  (try simp only [o_pickT, guardW_true])
  refine r_load one30 (hS.at m1 30 rfl) ?_
  skip
  refine r_load one30 (hS.at m0 30 rfl) ?_
  refine (eqBytes Z (hx _ hS.drop.drop).b (hy _ hS.drop.drop).b).mono fun r w9 ⟨hr, hd⟩ => ?_
  subst hr
  have hS := hS.drew hd
  skip
  refine ⟨⟨_, rfl, ?_⟩, hS.drop.drop⟩
  rw [decide_eq_true_eq]
  constructor
  · intro hbb
    refine ⟨hkd, fun i hi => ?_⟩
    obtain rfl | rfl | rfl | rfl | rfl | rfl | rfl | rfl | rfl | rfl | rfl | rfl := lt12 hi <;> assumption
  · intro hs
    exact hs.2 10 (by omega)
end
end Go.Proofs.YtfafkgbipjhcaaaGreatDoor

/- Packets that came in; those that are large; an Info, there and back. -/
set_option linter.unusedVariables false
set_option linter.unusedSimpArgs false
namespace Go.Proofs.YtfafkgbipjhcaaaGreatDoor
open Go.Sh
def CnO (cs : List Value) : Prop := ∃ a b : Int, cs = zx a b ∧ u32r a ∧ u32r b
theorem opn_CnO (w : World) : Opn Tryz.prog w 25 CnO := (opn_struct Tryz.underlying25 [(1, NumO .u32 0 4294967295), (1, NumO .u32 0 4294967295)] (by kernel_rfl) (by kernel_rfl)
  ⟨by kernel_rfl, opn_u32 w, by kernel_rfl, opn_u32 w, trivial⟩).mono (by
    rintro cs ⟨_, _, rfl, _, ⟨a, rfl, ha⟩, _, _, rfl, _, ⟨b, rfl, hb⟩, h4⟩
    simp only [Cut] at h4
    subst h4
    exact ⟨a, b, rfl, ha, hb⟩)
def PkO (w : World) (cs : List Value) : Prop := ∃ p : Pk, cs = p.cells ∧ RdP w p ∧ WfP p
theorem opn_PkO (w : World) : Opn Tryz.prog w 39 (PkO w) := (opn_struct Tryz.underlying39 [(1, NumO .i8 (-128) 127), (2, CnO), (2, CnO), (1, NumO .i64 (-9223372036854775808) 9223372036854775807), (1, NumO .u32 0 4294967295), (1, NumO .u32 0 4294967295), (2, ZxO w), (2, ZxO w), (1, BoolO), (1, BoolO), (16, TxO w), (1, BytesO w), (1, NumO .i64 (-9223372036854775808) 9223372036854775807)] (by kernel_rfl) (by kernel_rfl)
  ⟨by kernel_rfl, opn_i8 w, by kernel_rfl, opn_CnO w, by kernel_rfl, opn_CnO w, by kernel_rfl, opn_i64 w, by kernel_rfl, opn_u32 w, by kernel_rfl, opn_u32 w, by kernel_rfl, opn_ZxO w, by kernel_rfl, opn_ZxO w, by kernel_rfl, opn_bool Tryz.underlying4, by kernel_rfl, opn_bool Tryz.underlying4, by kernel_rfl, opn_TxO w, by kernel_rfl, opn_BytesO w, by kernel_rfl, opn_i64 w, trivial⟩).mono (by
    rintro cs ⟨_, _, rfl, _, ⟨kd, rfl, hkd⟩, _, _, rfl, _, ⟨cb', ct, rfl, hcb, hct⟩, _, _, rfl, _, ⟨lb, lt, rfl, hlb, hlt⟩, _, _, rfl, _, ⟨pl, rfl, hpl⟩, _, _, rfl, _, ⟨ep, rfl, hep⟩, _, _, rfl, _, ⟨cu, rfl, hcu⟩, _, _, rfl, _, ⟨ze, zn, rfl, hze, hzn⟩, _, _, rfl, _, ⟨ve, vn, rfl, hve, hvn⟩, _, _, rfl, _, ⟨co, rfl⟩, _, _, rfl, _, ⟨fi, rfl⟩, _, _, rfl, _, ⟨t, rfl, hh, hx, hq⟩, _, _, rfl, _, ⟨bv, rfl, b, hb, hbr⟩, _, _, rfl, _, ⟨se, rfl, hse⟩, h4⟩
    simp only [Cut] at h4
    subst h4
    exact ⟨⟨kd, cb', ct, lb, lt, pl, ep, cu, ze, zn, ve, vn, co, fi, t, bv, b, se⟩, rfl, ⟨hx, hbr⟩, ⟨hkd, hcb, hct, hlb, hlt, hpl, hep, hcu, hze, hzn, hve, hvn, hh, hq, hb, hse⟩⟩)
theorem RdP.of_old {o o' w : World} {p : Pk} {As : List HProp} (h : RdP o p) (hS : St o' w As) (hm : old o ∈ As) : RdP w p := ⟨RdQ.of_old _ h.t hS hm, h.b.of_old hS hm⟩
section
variable (Z : List PanicEntry → World → Prop) {o w : World} {R As : List HProp} {g : Nat} {p : Pk}
end
end Go.Proofs.YtfafkgbipjhcaaaGreatDoor

/- PacketTurned: the plain law and the walk. -/
set_option linter.unusedVariables false
set_option linter.unusedSimpArgs false
namespace Go.Proofs.YtfafkgbipjhcaaaGreatDoor
open Go.Sh
theorem adl_fst (l : List UInt8) (p : Nat × Nat) (hp : p.1 < 65521) : (adl l p).1 = (p.1 + (l.map (·.toNat)).sum) % 65521 := by
  induction l generalizing p with
  | nil => simp [adl]; omega
  | cons x l ih =>
    obtain ⟨a, b⟩ := p
    simp only [adl, List.map_cons, List.sum_cons]
    rw [ih _ (Nat.mod_lt _ (by omega))]
    simp only
    omega
theorem adler_mod (l : List UInt8) : adler l % 65536 = (1 + (l.map (·.toNat)).sum) % 65521 := by
  unfold adler
  have h1 := (adl_lt l (1, 0) (by decide) (by decide)).1
  rw [← adl_fst l (1, 0) (by decide)]
  omega
theorem adler_turn (l : List UInt8) (i : Nat) (hi : i < l.length) (b : UInt8) (hb : b ≠ l[i]) : adler (l.set i b) ≠ adler l := by
  intro e
  have e1 := congrArg (· % 65536) e
  simp only [adler_mod] at e1
  have h2 : l = l.take i ++ l[i] :: l.drop (i + 1) := by simp
  have h3 : l.set i b = l.take i ++ b :: l.drop (i + 1) := by rw [List.set_eq_take_append_cons_drop, if_pos hi]
  have hn : b.toNat ≠ l[i].toNat := fun h => hb (UInt8.toNat_inj.1 h)
  have l1 := b.toNat_lt
  have l2 := l[i].toNat_lt
  have s1 : (l.map (·.toNat)).sum = ((l.take i).map (·.toNat)).sum + (l[i].toNat + ((l.drop (i + 1)).map (·.toNat)).sum) := by
    conv => lhs; rw [h2]
    rw [List.map_append, List.sum_append, List.map_cons, List.sum_cons]
  have s2 : ((l.set i b).map (·.toNat)).sum = ((l.take i).map (·.toNat)).sum + (b.toNat + ((l.drop (i + 1)).map (·.toNat)).sum) := by
    rw [h3]; simp
  rw [s1, s2] at e1
  omega
theorem summed_turn (m : List UInt8) (i : Nat) (b : UInt8) (hi : i < (summed m).length) (hb : b ≠ (summed m)[i]) (m' : List UInt8) : (summed m).set i b ≠ summed m' := by
  intro e
  by_cases h4 : i < 4
  · have hd := congrArg (List.drop 4) e
    rw [List.drop_set_of_lt h4, summed_drop, summed_drop] at hd
    rw [← hd] at e
    have h1 : ((summed m).set i b)[i]? = (summed m)[i]? := by rw [e]
    rw [List.getElem?_set_self hi, List.getElem?_eq_getElem hi] at h1
    exact hb (Option.some.inj h1)
  · have hl : (summed m).length = 4 + m.length := by rw [summed, List.length_append, enc_length]
    have hd := congrArg (List.drop 4) e
    have e1 : (summed m).set i b = enc 4 (adler m) ++ m.set (i - 4) b := by
      rw [summed, List.set_append_right _ _ (by rw [enc_length]; omega), enc_length]
    rw [e1] at e hd
    rw [summed_drop, List.drop_left' (enc_length _ _)] at hd
    have ht := congrArg (List.take 4) e
    rw [summed, List.take_left' (enc_length _ _), List.take_left' (enc_length _ _)] at ht
    have ha : adler m = adler m' := by
      have := congrArg (fun x => ((dec x : Nat) : Int)) ht
      simp only [dec_enc] at this
      have h1 := adler_lt m
      have h2 := adler_lt m'
      omega
    rw [← hd] at ha
    refine adler_turn m (i - 4) (by omega) b ?_ ha.symm
    intro hx
    apply hb
    rw [hx]
    have : (summed m)[i]? = m[i - 4]? := by rw [summed, List.getElem?_append_right (by rw [enc_length]; omega), enc_length]
    rw [List.getElem?_eq_getElem hi, List.getElem?_eq_getElem (by omega)] at this
    exact (Option.some.inj this).symm
theorem CallV.pure {P : Program} {f : FuncId} {args : Array Value} {w : World} {φ : Prop} (h : CallV P (fun _ _ => False) f args w fun _ _ => φ) : φ := by
  obtain ⟨e, w', fr, hR, _⟩ := h.out []
  cases e with
  | returned v => exact hR
  | panicked _ => exact hR.elim
  | outgrown => exact hR.elim
theorem own_cap {o w : World} {R : List HProp} {e : TypeId} {sz n : Nat} {v : Value} {xs : List Value} (h : St o w (own e sz v n xs :: R)) : CapOk v := by
  obtain ⟨_, ⟨rfl, _⟩ | ⟨g, cap, rest, rfl, h1, _⟩⟩ := h.own_open
  · intro a n c e; injection e with _ h1 h2; omega
  · intro a n c e; injection e with _ h2 h3; omega
section
variable (Z : List PanicEntry → World → Prop) {o w : World} {R As : List HProp} {g : Nat} {p : Pk}
end
end Go.Proofs.YtfafkgbipjhcaaaGreatDoor
