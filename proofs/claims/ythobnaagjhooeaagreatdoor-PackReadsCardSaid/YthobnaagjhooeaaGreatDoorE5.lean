/- The document's Reader, to the letter: the rest of its numbers, bools, faults. -/
import Derived.Test.YthobnaagjhooeaaGreatDoorE2
set_option linter.unusedVariables false
set_option linter.unusedSimpArgs false
namespace Go.Proofs.YthobnaagjhooeaaGreatDoor
open Go.Sh
theorem nmV_lt {n : Nat} {all : List UInt8} {off x off' : Nat} {err e' : Int} (hv : nmV n all off err = (x, off', e')) : x < 256 ^ n := by
  unfold nmV at hv
  split at hv
  · injection hv with hv _
    have h1 := dec_lt ((all.drop off).take n)
    have h2 : (256 : Nat) ^ ((all.drop off).take n).length ≤ 256 ^ n := Nat.pow_le_pow_right (by omega) (by rw [List.length_take]; omega)
    omega
  · injection hv with hv _
    have := Nat.pow_pos (n := n) (show 0 < 256 by omega)
    omega
theorem i8_shift (x : Int) : IntKind.i8.wrap (x - 256) = IntKind.i8.wrap x := by
  rw [wrap_i8, wrap_i8]
  have : (x - 256) % 256 = x % 256 := by omega
  rw [this]
section
variable (Z : List PanicEntry → World → Prop) {o w : World} {R : List HProp} {g : Nat} {all : List UInt8} {off : Nat} {err : Int}
theorem RefR.le (h : St o w (RefR g all off err :: R)) : off ≤ all.length := by
  obtain ⟨v, ⟨h1, _⟩, _⟩ := RefR.open h
  exact h1
theorem dInt8 (h : St o w (RefR g all off err :: R)) : CallV Tryz.prog Z 42 #[.pointer (some ⟨g, 0, none⟩)] w fun r w' => ∃ x off' e', nmV 1 all off err = (x, off', e') ∧ r = .int .i8 (IntKind.i8.wrap x) ∧ St o w' (RefR g all off' e' :: R) := by
  refine f42.calls ?_
  unfold f42.sh
  refine (dNumber Z 1 (by omega) h).mono fun r w1 ⟨x, off', e', b, hv, _, hr, hS⟩ => ?_
  subst hr
  have hx := nmV_lt hv
  (try simp only [o_ext2_1, o_ext2_0, cv_86_3, o_sub, o_gtr, cond_decide])
  rw [wr_i64 (x := (x : Int)) (by omega) (by omega)]
  intro j hj
  refine ⟨fun hgt => ?_, fun hgt => ?_⟩
  · rw [wr_i64 (x := (x : Int) - 256) (by omega) (by omega)]
    refine hj _ _ fun _ => ?_
    (try simp only [cv_3_89])
    exact ⟨x, off', e', hv, by rw [i8_shift], hS⟩
  · refine hj _ _ fun _ => ?_
    (try simp only [cv_3_89])
    exact ⟨x, off', e', hv, rfl, hS⟩
theorem dUint32 (h : St o w (RefR g all off err :: R)) : CallV Tryz.prog Z 44 #[.pointer (some ⟨g, 0, none⟩)] w fun r w' => ∃ x off' e', nmV 4 all off err = (x, off', e') ∧ r = .int .u32 (IntKind.u32.wrap x) ∧ St o w' (RefR g all off' e' :: R) := by
  refine f44.calls ?_
  unfold f44.sh
  refine (dNumber Z 4 (by omega) h).mono fun r w1 ⟨x, off', e', b, hv, _, hr, hS⟩ => ?_
  subst hr
  (try simp only [o_ext2_1, o_ext2_0, cv_86_40])
  exact ⟨x, off', e', hv, rfl, hS⟩
theorem dInt64 (h : St o w (RefR g all off err :: R)) : CallV Tryz.prog Z 45 #[.pointer (some ⟨g, 0, none⟩)] w fun r w' => ∃ x off' e', nmV 8 all off err = (x, off', e') ∧ r = .int .i64 (IntKind.i64.wrap x) ∧ St o w' (RefR g all off' e' :: R) := by
  refine f45.calls ?_
  unfold f45.sh
  refine (dNumber Z 8 (by omega) h).mono fun r w1 ⟨x, off', e', b, hv, _, hr, hS⟩ => ?_
  subst hr
  have hx := nmV_lt hv
  have hx : x < 18446744073709551616 := by simpa using hx
  (try simp only [o_ext2_1, o_ext2_0, o_sub, cv_86_2, o_gtr, cond_decide])
  refine ⟨fun hgt => ?_, fun hgt => ?_⟩
  · rw [wr_u64 (x := (18446744073709551615 : Int) - x) (by omega) (by omega), wr_i64 (x := (18446744073709551615 : Int) - x) (by omega) (by omega), wr_i64 (x := (-1 : Int) - (18446744073709551615 - x)) (by omega) (by omega)]
    refine ⟨x, off', e', hv, ?_, hS⟩
    rw [wrap_i64, if_neg (by omega)]
    congr 1
    omega
  · exact ⟨x, off', e', hv, rfl, hS⟩
theorem dBool (h : St o w (RefR g all off err :: R)) : CallV Tryz.prog Z 41 #[.pointer (some ⟨g, 0, none⟩)] w fun r w' => ∃ b off' e', blV all off err = (b, off', e') ∧ r = .bool b ∧ St o w' (RefR g all off' e' :: R) := by
  obtain ⟨v, ⟨h1, h2⟩, hS⟩ := RefR.open h
  refine f41.calls ?_
  unfold f41.sh
  (try simp only [o_chk, fa_83_1, Nat.zero_add])
  refine r_load one3 (hS.at m0 1 rfl) ?_
  refine (dNumber Z 1 (by omega) (RefR.shut h1 h2 hS)).mono fun r w1 ⟨x, off', e', b, hv, hb, hr, hS⟩ => ?_
  subst hr
  unfold nmV at hv
  by_cases h0 : err = 0 ∧ off + 1 ≤ all.length
  · rw [if_pos h0] at hv
    injection hv with hx hv
    injection hv with ho he
    subst ho he
    obtain rfl : b = true := hb.2 rfl
    have hbl : ∀ b off' e', (if 1 < x then (false, off, (12 : Int)) else (x == 1, off + 1, 0)) = (b, off', e') → blV all off err = (b, off', e') := fun b off' e' hh => by
      unfold blV
      rw [if_pos h0, hx]
      exact hh
    clear hx
    (try simp only [o_ext2_1, o_pickT, guardW_true, o_ext2_0, o_eql, o_gtr, cond_decide])
    refine ⟨fun hgt => ?_, fun hgt => ?_⟩
    · have hgt' : 1 < x := by omega
      refine (dFault Z off 12 h1 hS).mono fun r w2 hS => ?_
      exact ⟨false, off, 12, hbl _ _ _ (by rw [if_pos hgt']), by first | rfl | trivial, hS⟩
    · have hgt' : ¬ 1 < x := by omega
      refine ⟨x == 1, off + 1, 0, hbl _ _ _ (by rw [if_neg hgt']), ?_, hS⟩
      obtain rfl | rfl : x = 0 ∨ x = 1 := by omega
      · rfl
      · rfl
  · rw [if_neg h0] at hv
    injection hv with hx hv
    injection hv with ho he
    subst ho hx
    have hbf : b = false := by
      cases b
      · rfl
      · have := hb.1 rfl
        have h3 := err_ne (err := err)
        rw [he, this] at h3
        simp at h3
    subst hbf
    (try simp only [o_ext2_1, o_pickF, condF, guardW_ft, o_ext2_0, o_eql])
    exact ⟨false, off, e', by unfold blV; rw [if_neg h0, he], by first | rfl | trivial, hS⟩
theorem dFail (e : Int) (h : St o w (RefR g all off err :: R)) : CallV Tryz.prog Z 50 #[.pointer (some ⟨g, 0, none⟩), .int .i64 e] w fun r w' => St o w' (RefR g all off (if err = 0 then e else err) :: R) := by
  obtain ⟨v, ⟨h1, h2⟩, hS⟩ := RefR.open h
  refine f50.calls ?_
  unfold f50.sh
  (try simp only [o_chk, fa_83_2, Nat.zero_add])
  refine r_load one47 (hS.at m0 2 rfl) ?_
  by_cases he : err = 0
  · subst he
    (try simp only [o_eql, beq_self_eq_true, condT])
    refine r_store hS one47 (show 2 < 3 by omega) rfl fun w2 hS => ?_
    exact RefR.shut h1 h2 hS
  · have hb : (err == 0) = false := by simpa using he
    (try simp only [o_eql, hb, condF])
    rw [if_neg he]
    exact RefR.shut h1 h2 hS
end
end Go.Proofs.YthobnaagjhooeaaGreatDoor
