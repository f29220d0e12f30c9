/- What one call of a Reader tells. Printed by wip/sh/mkE9.py. -/
import Derived.Test.YthobnaagjhooeaaGreatDoorE8
set_option linter.unusedVariables false
set_option linter.unusedSimpArgs false
namespace Go.Proofs.YthobnaagjhooeaaGreatDoor
open Go.Sh
structure Tl where
  v : Bool
  n : Int
  f : Nat
  s : List UInt8
  b : List UInt8
  e0 : Int
  e1 : Int
def Tl.cells (t : Tl) (c : Nat) (bv : Value) : List Value := [.bool t.v, .int .i64 t.n, .float .f64 c, .string (str t.s), bv, .int .i64 t.e0, .int .i64 t.e1]
def tl0 : Tl := ⟨false, 0, 0, [], [], 0, 0⟩
noncomputable def tell (kd n : Int) (all : List UInt8) (off : Nat) (err : Int) : Tl × Nat × Int :=
  if kd = 1 then ({ tl0 with v := (blV all off err).1 }, (blV all off err).2)
  else if kd = 2 then ({ tl0 with n := IntKind.i8.wrap (nmV 1 all off err).1 }, (nmV 1 all off err).2)
  else if kd = 3 then ({ tl0 with n := IntKind.i32.wrap (nmV 4 all off err).1 }, (nmV 4 all off err).2)
  else if kd = 4 then ({ tl0 with n := IntKind.u32.wrap (nmV 4 all off err).1 }, (nmV 4 all off err).2)
  else if kd = 5 then ({ tl0 with n := IntKind.i64.wrap (nmV 8 all off err).1 }, (nmV 8 all off err).2)
  else if kd = 6 then ({ tl0 with f := (flV all off err).1 }, (flV all off err).2)
  else if kd = 7 then ({ tl0 with s := (szV n all off err).1 }, (szV n all off err).2)
  else if kd = 8 then ({ tl0 with b := (szV n all off err).1 }, (szV n all off err).2)
  else if kd = 9 then ({ tl0 with b := (rwV n all off err).1 }, (rwV n all off err).2)
  else if kd = 10 then ({ tl0 with n := ((all.length - off : Nat) : Int), e0 := err, e1 := if err = 0 ∧ off < all.length then 13 else err }, off, err)
  else if kd = 11 then (tl0, off, if err = 0 then n else err)
  else (tl0, off, err)
section
variable (Z : List PanicEntry → World → Prop) {o w : World} {R : List HProp} {g : Nat} {B : Option Nat} {all : List UInt8} {off : Nat} {err : Int}
theorem boundC (n : Int) (h0 : -9223372036854775808 ≤ n) (h1 : n ≤ 9223372036854775807) : CallV Tryz.prog Z 37 #[.int .i64 n] w fun r w' => r = .int .i64 n ∧ w' = w := by
  refine f37.calls ?_
  unfold f37.sh
  (try simp only [])
  exact ⟨by first | rfl | trivial, by first | rfl | trivial⟩
theorem getC (kd on n : Int) (fv : Nat) (sv : ByteArray) (bvo : Value) (h0 : -9223372036854775808 ≤ n) (h1 : n ≤ 9223372036854775807) (hall : all.length ≤ 140737488355328) (h : St o w (RdrAt g B all off err :: R)) :
    CallV Tryz.prog Z 18 #[.pointer (some ⟨g, 0, none⟩), .agg #[.int .i64 kd, .int .i64 on, .int .i64 n, .float .f64 fv, .string sv, bvo]] w fun r w' =>
      ∃ (t : Tl) (c : Nat) (bv : Value) (off' : Nat) (e' : Int), tell kd n all off err = (t, off', e') ∧ c = t.f ∧ r = .agg (t.cells c bv).toArray ∧ St o w' (own 5 1 bv t.b.length (cb t.b) :: RdrAt g B all off' e' :: R) := by
  refine f18.calls ?_
  unfold f18.sh
  refine r_box _ _ h fun gx w1 hS => ?_
  have hS : St o w1 (blk gx 46 [.int .i64 kd, .int .i64 on, .int .i64 n, .float .f64 fv, .string sv, bvo] :: RdrAt g B all off err :: R) := hS
  refine r_alloc hS ze76 fun g4 w2 hS => ?_
  have hS : St o w2 (blk g4 76 (tl0.cells 0 (.slice none 0 0)) :: blk gx 46 [.int .i64 kd, .int .i64 on, .int .i64 n, .float .f64 fv, .string sv, bvo] :: RdrAt g B all off err :: R) := hS
  have hS := hS.pick 2
  have fin : ∀ (t : Tl) (c : Nat) (bv : Value) (w : World) (As : List HProp) (Q : Value → World → Prop), bv.oneCell' = true → St o w (blk g4 76 (tl0.cells 0 (.slice none 0 0)) :: As) → (∀ w', St o w' As → Q (.agg (t.cells c bv).toArray) w') →
      run0 Tryz.prog Z (Instr.storeAt 76 (.pointer (some ⟨g4, 0, none⟩)) (.agg (t.cells c bv).toArray)) w fun w =>
        ∃ r, (do loadVar 76 (← asAddr (.pointer (some ⟨g4, 0, none⟩))) : Sem Value).run Tryz.prog w = .ok r w ∧ Q r w := by
    intro t c bv w As Q hb hS hQ
    have hon : ones (t.cells c bv) := by
      intro u hu
      simp only [Tl.cells, List.mem_cons, List.not_mem_nil, or_false] at hu
      rcases hu with rfl | rfl | rfl | rfl | rfl | rfl | rfl <;> first | assumption | rfl
    refine r_storeN hS ag76 (xs := t.cells c bv) rfl (show 0 + 7 ≤ 7 from Nat.le_refl _) hon fun w2 hS => ?_
    rw [setL_all _ _ (by rfl)] at hS
    exact r_resN ag76 (xs := t.cells c bv) rfl (hS.cells_at m0 0 (whole_at _)) (hQ _ hS.drop)
  intro j hj
  have HJ : ∀ (w' : World) (off' : Nat) (e' : Int), tell kd n all off err = (tl0, off', e') → St o w' (RdrAt g B all off' e' :: blk g4 76 (tl0.cells 0 (.slice none 0 0)) :: R) → j w' := by
    intro w' off' e' ht hS
    refine hj w' fun _ => ?_
    refine r_build (cells := (tl0.cells 0 (.slice none 0 0)).toArray) (by kernel_rfl) ?_
    exact fin tl0 0 (.slice none 0 0) _ _ _ rfl (hS.pick 1) fun w4 hS => ⟨tl0, 0, .slice none 0 0, off', e', ht, rfl, rfl, (hS.own_nil 5 1)⟩
  clear hj
  (try simp only [fa_46_2, Nat.zero_add, fa_46_0, Nat.add_zero])
  refine r_load one3 (hS.at m2 0 rfl) ?_
  by_cases k1 : kd = 1
  · subst k1
    (try simp only [o_eql, Int.reduceBEq, condF, beq_self_eq_true, condT])
    refine (xBool Z hS).mono fun r w3 ⟨x, off', e', hv, hr, hS⟩ => ?_
    subst hr
    skip
    refine r_build (cells := (Tl.cells { tl0 with v := x } 0 (.slice none 0 0)).toArray) (by kernel_rfl) ?_
    exact fin { tl0 with v := x } 0 (.slice none 0 0) _ _ _ rfl (hS.pick 1) fun w4 hS => ⟨{ tl0 with v := x }, 0, .slice none 0 0, off', e', by simp [tell, hv], rfl, rfl, (hS.swap.drop.own_nil 5 1)⟩
  have b1 : (kd == 1) = false := by simpa using k1
  by_cases k2 : kd = 2
  · subst k2
    (try simp only [o_eql, Int.reduceBEq, condF, beq_self_eq_true, condT])
    refine (xInt8 Z hS).mono fun r w3 ⟨x, off', e', hv, hr, hS⟩ => ?_
    subst hr
    (try simp only [cv_89_2])
    rw [wr_i64 (x := IntKind.i8.wrap x) (by have := codec_i8.range x; omega) (by have := codec_i8.range x; omega)]
    refine r_build (cells := (Tl.cells { tl0 with n := IntKind.i8.wrap x } 0 (.slice none 0 0)).toArray) (by kernel_rfl) ?_
    exact fin { tl0 with n := IntKind.i8.wrap x } 0 (.slice none 0 0) _ _ _ rfl (hS.pick 1) fun w4 hS => ⟨{ tl0 with n := IntKind.i8.wrap x }, 0, .slice none 0 0, off', e', by simp [tell, hv], rfl, rfl, (hS.swap.drop.own_nil 5 1)⟩
  have b2 : (kd == 2) = false := by simpa using k2
  by_cases k3 : kd = 3
  · subst k3
    (try simp only [o_eql, Int.reduceBEq, condF, beq_self_eq_true, condT])
    refine (xInt32 Z hS).mono fun r w3 ⟨x, off', e', hv, hr, hS⟩ => ?_
    subst hr
    (try simp only [cv_21_2])
    rw [wr_i64 (x := IntKind.i32.wrap x) (by have := codec_i32.range x; omega) (by have := codec_i32.range x; omega)]
    refine r_build (cells := (Tl.cells { tl0 with n := IntKind.i32.wrap x } 0 (.slice none 0 0)).toArray) (by kernel_rfl) ?_
    exact fin { tl0 with n := IntKind.i32.wrap x } 0 (.slice none 0 0) _ _ _ rfl (hS.pick 1) fun w4 hS => ⟨{ tl0 with n := IntKind.i32.wrap x }, 0, .slice none 0 0, off', e', by simp [tell, hv], rfl, rfl, (hS.swap.drop.own_nil 5 1)⟩
  have b3 : (kd == 3) = false := by simpa using k3
  by_cases k4 : kd = 4
  · subst k4
    (try simp only [o_eql, Int.reduceBEq, condF, beq_self_eq_true, condT])
    refine (xUint32 Z hS).mono fun r w3 ⟨x, off', e', hv, hr, hS⟩ => ?_
    subst hr
    (try simp only [cv_40_2])
    rw [wr_i64 (x := IntKind.u32.wrap x) (by have := codec_u32.range x; omega) (by have := codec_u32.range x; omega)]
    refine r_build (cells := (Tl.cells { tl0 with n := IntKind.u32.wrap x } 0 (.slice none 0 0)).toArray) (by kernel_rfl) ?_
    exact fin { tl0 with n := IntKind.u32.wrap x } 0 (.slice none 0 0) _ _ _ rfl (hS.pick 1) fun w4 hS => ⟨{ tl0 with n := IntKind.u32.wrap x }, 0, .slice none 0 0, off', e', by simp [tell, hv], rfl, rfl, (hS.swap.drop.own_nil 5 1)⟩
  have b4 : (kd == 4) = false := by simpa using k4
  by_cases k5 : kd = 5
  · subst k5
    (try simp only [o_eql, Int.reduceBEq, condF, beq_self_eq_true, condT])
    refine (xInt64 Z hS).mono fun r w3 ⟨x, off', e', hv, hr, hS⟩ => ?_
    subst hr
    skip
    refine r_build (cells := (Tl.cells { tl0 with n := IntKind.i64.wrap x } 0 (.slice none 0 0)).toArray) (by kernel_rfl) ?_
    exact fin { tl0 with n := IntKind.i64.wrap x } 0 (.slice none 0 0) _ _ _ rfl (hS.pick 1) fun w4 hS => ⟨{ tl0 with n := IntKind.i64.wrap x }, 0, .slice none 0 0, off', e', by simp [tell, hv], rfl, rfl, (hS.swap.drop.own_nil 5 1)⟩
  have b5 : (kd == 5) = false := by simpa using k5
  by_cases k6 : kd = 6
  · subst k6
    (try simp only [o_eql, Int.reduceBEq, condF, beq_self_eq_true, condT])
    refine (xFloat Z hS).mono fun r w3 ⟨x, off', e', hv, hr, hS⟩ => ?_
    obtain ⟨c, hc0⟩ : ∃ c, c = x := ⟨_, rfl⟩
    rw [← hc0] at hr
    subst hr
    skip
    refine r_build (cells := (Tl.cells { tl0 with f := x } c (.slice none 0 0)).toArray) (by kernel_rfl) ?_
    exact fin { tl0 with f := x } c (.slice none 0 0) _ _ _ rfl (hS.pick 1) fun w4 hS => ⟨{ tl0 with f := x }, c, .slice none 0 0, off', e', by simp [tell, hv], hc0, rfl, (hS.swap.drop.own_nil 5 1)⟩
  have b6 : (kd == 6) = false := by simpa using k6
  by_cases k7 : kd = 7
  · subst k7
    (try simp only [o_eql, Int.reduceBEq, condF, beq_self_eq_true, condT])
    refine r_load one2 (hS.at m2 2 rfl) ?_
    refine (boundC Z n h0 h1).mono fun r w3 ⟨hr, hw⟩ => ?_
    subst hr; subst hw
    refine (xText Z n hS).mono fun r w3 ⟨x, off', e', hv, hr, hS⟩ => ?_
    generalize hsx : str x = sx at hr
    subst hr
    refine r_build (cells := #[.bool false, .int .i64 0, .float .f64 0, .string sx, .slice none 0 0, .int .i64 0, .int .i64 0]) (by kernel_rfl) ?_
    subst hsx
    exact fin { tl0 with s := x } 0 (.slice none 0 0) _ _ _ rfl (hS.pick 1) fun w4 hS => ⟨{ tl0 with s := x }, 0, .slice none 0 0, off', e', by simp [tell, hv], rfl, rfl, (hS.swap.drop.own_nil 5 1)⟩
  have b7 : (kd == 7) = false := by simpa using k7
  by_cases k8 : kd = 8
  · subst k8
    (try simp only [o_eql, Int.reduceBEq, condF, beq_self_eq_true, condT])
    refine r_load one2 (hS.at m2 2 rfl) ?_
    refine (boundC Z n h0 h1).mono fun r w3 ⟨hr, hw⟩ => ?_
    subst hr; subst hw
    refine (xBuffer Z n hS).mono fun r w3 ⟨x, off', e', hv, hS⟩ => ?_
    have hone := St.own_one hS
    obtain ⟨a, c0, rfl⟩ := (hS.own_rd m0).form
    refine r_build (cells := (Tl.cells tl0 0 (.slice a x.length c0)).toArray) (by kernel_rfl) ?_
    exact fin { tl0 with b := x } 0 (.slice a x.length c0) _ _ _ hone (hS.pick 2) fun w4 hS => ⟨{ tl0 with b := x }, 0, .slice a x.length c0, off', e', by simp [tell, hv], rfl, rfl, (hS.pick 2).drop⟩
  have b8 : (kd == 8) = false := by simpa using k8
  by_cases k9 : kd = 9
  · subst k9
    (try simp only [o_eql, Int.reduceBEq, condF, beq_self_eq_true, condT])
    refine r_load one2 (hS.at m2 2 rfl) ?_
    refine (boundC Z n h0 h1).mono fun r w3 ⟨hr, hw⟩ => ?_
    subst hr; subst hw
    refine (xRaw Z n hall hS).mono fun r w3 ⟨x, off', e', hv, hS⟩ => ?_
    have hone := St.own_one hS
    obtain ⟨a, c0, rfl⟩ := (hS.own_rd m0).form
    refine r_build (cells := (Tl.cells tl0 0 (.slice a x.length c0)).toArray) (by kernel_rfl) ?_
    exact fin { tl0 with b := x } 0 (.slice a x.length c0) _ _ _ hone (hS.pick 2) fun w4 hS => ⟨{ tl0 with b := x }, 0, .slice a x.length c0, off', e', by simp [tell, hv], rfl, rfl, (hS.pick 2).drop⟩
  have b9 : (kd == 9) = false := by simpa using k9
  by_cases k10 : kd = 10
  · subst k10
    (try simp only [o_eql, Int.reduceBEq, condF, beq_self_eq_true, condT])
    refine (rLeft Z hS).mono fun r w3 ⟨hr, hw⟩ => ?_
    subst hr; subst hw
    refine (rErr Z hS).mono fun r w3 ⟨hr, hw⟩ => ?_
    subst hr; subst hw
    refine (rEnd Z hS).mono fun r w3 ⟨hr, hw⟩ => ?_
    subst hr; subst hw
    generalize he1 : (if err = 0 ∧ off < all.length then (13 : Int) else err) = e1
    refine r_build (cells := #[.int .i64 err, .int .i64 e1]) (by kernel_rfl) ?_
    refine r_build (cells := #[.bool false, .int .i64 ((all.length - off : Nat) : Int), .float .f64 0, .string ByteArray.empty, .slice none 0 0, .int .i64 err, .int .i64 e1]) (by kernel_rfl) ?_
    subst he1
    exact fin { tl0 with n := ((all.length - off : Nat) : Int), e0 := err, e1 := if err = 0 ∧ off < all.length then 13 else err } 0 (.slice none 0 0) _ _ _ rfl (hS.pick 1) fun w4 hS => ⟨_, 0, .slice none 0 0, off, err, by simp [tell], rfl, rfl, (hS.swap.drop.own_nil 5 1)⟩
  have b10 : (kd == 10) = false := by simpa using k10
  by_cases k11 : kd = 11
  · subst k11
    (try simp only [o_eql, beq_self_eq_true, condT, Int.reduceBEq, condF])
    refine r_load one2 (hS.at m2 2 rfl) ?_
    refine (rFail Z n hS).mono fun r w3 hS => ?_
    exact HJ _ off _ (by simp [tell]) ((hS.pick 2).drop)
  have b11 : (kd == 11) = false := by simpa using k11
  (try simp only [o_eql, b11, condF, b10, b9, b8, b7, b6, b5, b4, b3, b2, b1])
  exact HJ _ off err (by simp [tell, k1, k2, k3, k4, k5, k6, k7, k8, k9, k10, k11]) ((hS.pick 2).drop)
theorem shouldC (kd on n : Int) (fv : Nat) (sv : ByteArray) (bvo : Value) (h0 : -9223372036854775808 ≤ n) (h1 : n ≤ 9223372036854775807) (hall : all.length ≤ 140737488355328) (h : St o w (RefR g all off err :: R)) :
    CallV Tryz.prog Z 19 #[.pointer (some ⟨g, 0, none⟩), .agg #[.int .i64 kd, .int .i64 on, .int .i64 n, .float .f64 fv, .string sv, bvo]] w fun r w' =>
      ∃ (t : Tl) (c : Nat) (bv : Value) (off' : Nat) (e' : Int), tell kd n all off err = (t, off', e') ∧ (c = t.f ∨ dd.order c c = none ∧ dd.order t.f t.f = none) ∧ r = .agg (t.cells c bv).toArray ∧ St o w' (own 5 1 bv t.b.length (cb t.b) :: RefR g all off' e' :: R) := by
  refine f19.calls ?_
  unfold f19.sh
  refine r_box _ _ h fun gx w1 hS => ?_
  have hS : St o w1 (blk gx 46 [.int .i64 kd, .int .i64 on, .int .i64 n, .float .f64 fv, .string sv, bvo] :: RefR g all off err :: R) := hS
  refine r_alloc hS ze76 fun g4 w2 hS => ?_
  have hS : St o w2 (blk g4 76 (tl0.cells 0 (.slice none 0 0)) :: blk gx 46 [.int .i64 kd, .int .i64 on, .int .i64 n, .float .f64 fv, .string sv, bvo] :: RefR g all off err :: R) := hS
  have hS := hS.pick 2
  have fin : ∀ (t : Tl) (c : Nat) (bv : Value) (w : World) (As : List HProp) (Q : Value → World → Prop), bv.oneCell' = true → St o w (blk g4 76 (tl0.cells 0 (.slice none 0 0)) :: As) → (∀ w', St o w' As → Q (.agg (t.cells c bv).toArray) w') →
      run0 Tryz.prog Z (Instr.storeAt 76 (.pointer (some ⟨g4, 0, none⟩)) (.agg (t.cells c bv).toArray)) w fun w =>
        ∃ r, (do loadVar 76 (← asAddr (.pointer (some ⟨g4, 0, none⟩))) : Sem Value).run Tryz.prog w = .ok r w ∧ Q r w := by
    intro t c bv w As Q hb hS hQ
    have hon : ones (t.cells c bv) := by
      intro u hu
      simp only [Tl.cells, List.mem_cons, List.not_mem_nil, or_false] at hu
      rcases hu with rfl | rfl | rfl | rfl | rfl | rfl | rfl <;> first | assumption | rfl
    refine r_storeN hS ag76 (xs := t.cells c bv) rfl (show 0 + 7 ≤ 7 from Nat.le_refl _) hon fun w2 hS => ?_
    rw [setL_all _ _ (by rfl)] at hS
    exact r_resN ag76 (xs := t.cells c bv) rfl (hS.cells_at m0 0 (whole_at _)) (hQ _ hS.drop)
  intro j hj
  have HJ : ∀ (w' : World) (off' : Nat) (e' : Int), tell kd n all off err = (tl0, off', e') → St o w' (RefR g all off' e' :: blk g4 76 (tl0.cells 0 (.slice none 0 0)) :: R) → j w' := by
    intro w' off' e' ht hS
    refine hj w' fun _ => ?_
    refine r_build (cells := (tl0.cells 0 (.slice none 0 0)).toArray) (by kernel_rfl) ?_
    exact fin tl0 0 (.slice none 0 0) _ _ _ rfl (hS.pick 1) fun w4 hS => ⟨tl0, 0, .slice none 0 0, off', e', ht, .inl rfl, rfl, (hS.own_nil 5 1)⟩
  clear hj
  (try simp only [fa_46_2, Nat.zero_add, o_chkp, fa_83_2p, fa_46_0, Nat.add_zero])
  refine r_load one3 (hS.at m2 0 rfl) ?_
  by_cases k1 : kd = 1
  · subst k1
    (try simp only [o_eql, Int.reduceBEq, condF, beq_self_eq_true, condT])
    refine (dBool Z hS).mono fun r w3 ⟨x, off', e', hv, hr, hS⟩ => ?_
    subst hr
    skip
    refine r_build (cells := (Tl.cells { tl0 with v := x } 0 (.slice none 0 0)).toArray) (by kernel_rfl) ?_
    exact fin { tl0 with v := x } 0 (.slice none 0 0) _ _ _ rfl (hS.pick 1) fun w4 hS => ⟨{ tl0 with v := x }, 0, .slice none 0 0, off', e', by simp [tell, hv], .inl rfl, rfl, (hS.swap.drop.own_nil 5 1)⟩
  have b1 : (kd == 1) = false := by simpa using k1
  by_cases k2 : kd = 2
  · subst k2
    (try simp only [o_eql, Int.reduceBEq, condF, beq_self_eq_true, condT])
    refine (dInt8 Z hS).mono fun r w3 ⟨x, off', e', hv, hr, hS⟩ => ?_
    subst hr
    (try simp only [cv_89_2])
    rw [wr_i64 (x := IntKind.i8.wrap x) (by have := codec_i8.range x; omega) (by have := codec_i8.range x; omega)]
    refine r_build (cells := (Tl.cells { tl0 with n := IntKind.i8.wrap x } 0 (.slice none 0 0)).toArray) (by kernel_rfl) ?_
    exact fin { tl0 with n := IntKind.i8.wrap x } 0 (.slice none 0 0) _ _ _ rfl (hS.pick 1) fun w4 hS => ⟨{ tl0 with n := IntKind.i8.wrap x }, 0, .slice none 0 0, off', e', by simp [tell, hv], .inl rfl, rfl, (hS.swap.drop.own_nil 5 1)⟩
  have b2 : (kd == 2) = false := by simpa using k2
  by_cases k3 : kd = 3
  · subst k3
    (try simp only [o_eql, Int.reduceBEq, condF, beq_self_eq_true, condT])
    refine (dInt32 Z hS).mono fun r w3 ⟨x, off', e', hv, hr, hS⟩ => ?_
    subst hr
    (try simp only [cv_21_2])
    rw [wr_i64 (x := IntKind.i32.wrap x) (by have := codec_i32.range x; omega) (by have := codec_i32.range x; omega)]
    refine r_build (cells := (Tl.cells { tl0 with n := IntKind.i32.wrap x } 0 (.slice none 0 0)).toArray) (by kernel_rfl) ?_
    exact fin { tl0 with n := IntKind.i32.wrap x } 0 (.slice none 0 0) _ _ _ rfl (hS.pick 1) fun w4 hS => ⟨{ tl0 with n := IntKind.i32.wrap x }, 0, .slice none 0 0, off', e', by simp [tell, hv], .inl rfl, rfl, (hS.swap.drop.own_nil 5 1)⟩
  have b3 : (kd == 3) = false := by simpa using k3
  by_cases k4 : kd = 4
  · subst k4
    (try simp only [o_eql, Int.reduceBEq, condF, beq_self_eq_true, condT])
    refine (dUint32 Z hS).mono fun r w3 ⟨x, off', e', hv, hr, hS⟩ => ?_
    subst hr
    (try simp only [cv_40_2])
    rw [wr_i64 (x := IntKind.u32.wrap x) (by have := codec_u32.range x; omega) (by have := codec_u32.range x; omega)]
    refine r_build (cells := (Tl.cells { tl0 with n := IntKind.u32.wrap x } 0 (.slice none 0 0)).toArray) (by kernel_rfl) ?_
    exact fin { tl0 with n := IntKind.u32.wrap x } 0 (.slice none 0 0) _ _ _ rfl (hS.pick 1) fun w4 hS => ⟨{ tl0 with n := IntKind.u32.wrap x }, 0, .slice none 0 0, off', e', by simp [tell, hv], .inl rfl, rfl, (hS.swap.drop.own_nil 5 1)⟩
  have b4 : (kd == 4) = false := by simpa using k4
  by_cases k5 : kd = 5
  · subst k5
    (try simp only [o_eql, Int.reduceBEq, condF, beq_self_eq_true, condT])
    refine (dInt64 Z hS).mono fun r w3 ⟨x, off', e', hv, hr, hS⟩ => ?_
    subst hr
    skip
    refine r_build (cells := (Tl.cells { tl0 with n := IntKind.i64.wrap x } 0 (.slice none 0 0)).toArray) (by kernel_rfl) ?_
    exact fin { tl0 with n := IntKind.i64.wrap x } 0 (.slice none 0 0) _ _ _ rfl (hS.pick 1) fun w4 hS => ⟨{ tl0 with n := IntKind.i64.wrap x }, 0, .slice none 0 0, off', e', by simp [tell, hv], .inl rfl, rfl, (hS.swap.drop.own_nil 5 1)⟩
  have b5 : (kd == 5) = false := by simpa using k5
  by_cases k6 : kd = 6
  · subst k6
    (try simp only [o_eql, Int.reduceBEq, condF, beq_self_eq_true, condT])
    refine (dFloat Z hS).mono fun r w3 ⟨x, c, off', e', hv, hr, hc, hS⟩ => ?_
    subst hr
    skip
    refine r_build (cells := (Tl.cells { tl0 with f := x } c (.slice none 0 0)).toArray) (by kernel_rfl) ?_
    exact fin { tl0 with f := x } c (.slice none 0 0) _ _ _ rfl (hS.pick 1) fun w4 hS => ⟨{ tl0 with f := x }, c, .slice none 0 0, off', e', by simp [tell, hv], hc, rfl, (hS.swap.drop.own_nil 5 1)⟩
  have b6 : (kd == 6) = false := by simpa using k6
  by_cases k7 : kd = 7
  · subst k7
    (try simp only [o_eql, Int.reduceBEq, condF, beq_self_eq_true, condT])
    refine r_load one2 (hS.at m2 2 rfl) ?_
    refine (boundC Z n h0 h1).mono fun r w3 ⟨hr, hw⟩ => ?_
    subst hr; subst hw
    refine (dText Z n hS).mono fun r w3 ⟨x, off', e', hv, hr, hS⟩ => ?_
    generalize hsx : str x = sx at hr
    subst hr
    refine r_build (cells := #[.bool false, .int .i64 0, .float .f64 0, .string sx, .slice none 0 0, .int .i64 0, .int .i64 0]) (by kernel_rfl) ?_
    subst hsx
    exact fin { tl0 with s := x } 0 (.slice none 0 0) _ _ _ rfl (hS.pick 1) fun w4 hS => ⟨{ tl0 with s := x }, 0, .slice none 0 0, off', e', by simp [tell, hv], .inl rfl, rfl, (hS.swap.drop.own_nil 5 1)⟩
  have b7 : (kd == 7) = false := by simpa using k7
  by_cases k8 : kd = 8
  · subst k8
    (try simp only [o_eql, Int.reduceBEq, condF, beq_self_eq_true, condT])
    refine r_load one2 (hS.at m2 2 rfl) ?_
    refine (boundC Z n h0 h1).mono fun r w3 ⟨hr, hw⟩ => ?_
    subst hr; subst hw
    refine (dBuffer Z n hS).mono fun r w3 ⟨x, off', e', hv, hS⟩ => ?_
    have hone := St.own_one hS
    obtain ⟨a, c0, rfl⟩ := (hS.own_rd m0).form
    refine r_build (cells := (Tl.cells tl0 0 (.slice a x.length c0)).toArray) (by kernel_rfl) ?_
    exact fin { tl0 with b := x } 0 (.slice a x.length c0) _ _ _ hone (hS.pick 2) fun w4 hS => ⟨{ tl0 with b := x }, 0, .slice a x.length c0, off', e', by simp [tell, hv], .inl rfl, rfl, (hS.pick 2).drop⟩
  have b8 : (kd == 8) = false := by simpa using k8
  by_cases k9 : kd = 9
  · subst k9
    (try simp only [o_eql, Int.reduceBEq, condF, beq_self_eq_true, condT])
    refine r_load one2 (hS.at m2 2 rfl) ?_
    refine (boundC Z n h0 h1).mono fun r w3 ⟨hr, hw⟩ => ?_
    subst hr; subst hw
    refine (dRaw Z n hS).mono fun r w3 ⟨x, off', e', hv, hS⟩ => ?_
    have hone := St.own_one hS
    obtain ⟨a, c0, rfl⟩ := (hS.own_rd m0).form
    refine r_build (cells := (Tl.cells tl0 0 (.slice a x.length c0)).toArray) (by kernel_rfl) ?_
    exact fin { tl0 with b := x } 0 (.slice a x.length c0) _ _ _ hone (hS.pick 2) fun w4 hS => ⟨{ tl0 with b := x }, 0, .slice a x.length c0, off', e', by simp [tell, hv], .inl rfl, rfl, (hS.pick 2).drop⟩
  have b9 : (kd == 9) = false := by simpa using k9
  by_cases k10 : kd = 10
  · subst k10
    (try simp only [o_eql, Int.reduceBEq, condF, beq_self_eq_true, condT])
    refine ⟨fun w3 hd => ?_⟩
    have hS := hS.drew hd
    obtain ⟨v1, ⟨o1, o2⟩, hO⟩ := RefR.open hS
    refine rr_load one47 (hO.at m0 2 rfl) ?_
    refine (dLeft Z hS).mono fun r w4 ⟨hr, hS⟩ => ?_
    subst hr
    obtain ⟨v1, ⟨o1, o2⟩, hO⟩ := RefR.open hS
    refine rs_load one47 (hO.at m0 2 rfl) ?_
    refine (dEnd Z hS).mono fun r w5 ⟨hr, hS⟩ => ?_
    subst hr
    obtain ⟨v1, ⟨o1, o2⟩, hO⟩ := RefR.open hS
    refine rs_load one47 (hO.at m0 2 rfl) ?_
    generalize he1 : (if err = 0 ∧ off < all.length then (13 : Int) else err) = e1
    refine rp_build (cells := #[.int .i64 err, .int .i64 e1]) (by kernel_rfl) ?_
    refine rp_build (cells := #[.bool false, .int .i64 ((all.length - off : Nat) : Int), .float .f64 0, .string ByteArray.empty, .slice none 0 0, .int .i64 err, .int .i64 e1]) (by kernel_rfl) ?_
    subst he1
    exact fin { tl0 with n := ((all.length - off : Nat) : Int), e0 := err, e1 := if err = 0 ∧ off < all.length then 13 else err } 0 (.slice none 0 0) _ _ _ rfl (hS.pick 1) fun w4 hS => ⟨_, 0, .slice none 0 0, off, err, by simp [tell], .inl rfl, rfl, (hS.swap.drop.own_nil 5 1)⟩
  have b10 : (kd == 10) = false := by simpa using k10
  by_cases k11 : kd = 11
  · subst k11
    (try simp only [o_eql, beq_self_eq_true, condT, Int.reduceBEq, condF])
    refine r_load one2 (hS.at m2 2 rfl) ?_
    refine (dFail Z n hS).mono fun r w3 hS => ?_
    exact HJ _ off _ (by simp [tell]) ((hS.pick 2).drop)
  have b11 : (kd == 11) = false := by simpa using k11
  (try simp only [o_eql, b11, condF, b10, b9, b8, b7, b6, b5, b4, b3, b2, b1])
  exact HJ _ off err (by simp [tell, k1, k2, k3, k4, k5, k6, k7, k8, k9, k10, k11]) ((hS.pick 2).drop)
end
end Go.Proofs.YthobnaagjhooeaaGreatDoor
