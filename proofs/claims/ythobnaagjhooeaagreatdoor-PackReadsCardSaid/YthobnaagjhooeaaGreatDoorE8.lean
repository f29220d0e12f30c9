/- The document's Reader, to the letter: floats, bytes as they are. -/
import Derived.Test.YthobnaagjhooeaaGreatDoorE7
set_option linter.unusedVariables false
set_option linter.unusedSimpArgs false
namespace Go.Proofs.YthobnaagjhooeaaGreatDoor
open Go.Sh
section
variable (Z : List PanicEntry → World → Prop) {o w : World} {R : List HProp} {g : Nat} {all : List UInt8} {off : Nat} {err : Int}
theorem RefR.drew {w' : World} (h : St o w R) (hd : Drew w w') : St o w' R := h.drew hd
theorem dFloat (h : St o w (RefR g all off err :: R)) : CallV Tryz.prog Z 46 #[.pointer (some ⟨g, 0, none⟩)] w fun r w' => ∃ b c off' e', flV all off err = (b, off', e') ∧ r = .float .f64 c ∧ (c = b ∨ dd.order c c = none ∧ dd.order b b = none) ∧ St o w' (RefR g all off' e' :: R) := by
  obtain ⟨v, ⟨h1, h2⟩, hS⟩ := RefR.open h
  refine f46.calls ?_
  unfold f46.sh
  (try simp only [o_chk, fa_83_1, Nat.zero_add])
  refine r_load one3 (hS.at m0 1 rfl) ?_
  refine (dNumber Z 8 (by omega) (RefR.shut h1 h2 hS)).mono fun r w1 ⟨x, off', e', b, hv, hb, hr, hS⟩ => ?_
  subst hr
  have hx := nmV_lt hv
  have hx : x < 18446744073709551616 := by simpa using hx
  unfold nmV at hv
  by_cases h0 : err = 0 ∧ off + 8 ≤ all.length
  · rw [if_pos h0] at hv
    injection hv with hxv hv
    injection hv with ho he
    subst ho he
    obtain rfl : b = true := hb.2 rfl
    have hfl : ∀ b off' e', (if strange x then (0, off, (12 : Int)) else (x, off + 8, 0)) = (b, off', e') → flV all off err = (b, off', e') := fun b off' e' hh => by
      unfold flV
      rw [if_pos h0, hxv]
      exact hh
    clear hxv
    (try simp only [o_ext2_1, o_not, Bool.not_true, condF, o_ext2_0])
    refine (refFrom Z x hx).mono fun r w2 ⟨hq1, hq2⟩ => ?_
    by_cases hn : dd.order x x = none
    · obtain ⟨c, hc, hr, hd⟩ := hq2 hn
      subst hr
      have hS := hS.drew hd
      by_cases hw : x = 9221120237041090560
      · have e1 : (x == 9221120237041090560) = true := by simpa using hw
        (try simp only [e1, o_ext2_1, o_not, Bool.not_true, condF, o_ext2_0])
        exact ⟨x, c, off + 8, 0, hfl _ _ _ (if_neg fun hs => hs.2 hw), by first | rfl | trivial, .inr ⟨hc, hn⟩, hS⟩
      · have e1 : (x == 9221120237041090560) = false := by simpa using hw
        (try simp only [e1, o_ext2_1, o_not, Bool.not_false, condT, o_ext2_0])
        refine (dFault Z off 12 h1 hS).mono fun r w3 hS => ?_
        exact ⟨0, 0, off, 12, hfl _ _ _ (if_pos ⟨hn, hw⟩), by first | rfl | trivial, .inl rfl, hS⟩
    · obtain ⟨hr, hw⟩ := hq1 hn
      subst hr; subst hw
      (try simp only [o_ext2_1, o_not, Bool.not_true, condF, o_ext2_0])
      exact ⟨x, x, off + 8, 0, hfl _ _ _ (if_neg fun hs => hn hs.1), by first | rfl | trivial, .inl rfl, hS⟩
  · rw [if_neg h0] at hv
    injection hv with hxv hv
    injection hv with ho he
    subst ho hxv
    have hbf : b = false := by
      cases b
      · rfl
      · have := hb.1 rfl
        have h3 := err_ne (err := err)
        rw [he, this] at h3
        simp at h3
    subst hbf
    (try simp only [o_ext2_1, o_not, Bool.not_false, condT, o_ext2_0])
    exact ⟨0, 0, off, e', by unfold flV; rw [if_neg h0, he], by first | rfl | trivial, .inl rfl, hS⟩
theorem dRaw (n : Int) (h : St o w (RefR g all off err :: R)) : CallV Tryz.prog Z 49 #[.pointer (some ⟨g, 0, none⟩), .int .i64 n] w fun r w' => ∃ k off' e', rwV n all off err = (k, off', e') ∧ St o w' (own 5 1 r k.length (cb k) :: RefR g all off' e' :: R) := by
  obtain ⟨v, ⟨h1, h2⟩, hO⟩ := RefR.open h
  refine f49.calls ?_
  unfold f49.sh
  (try simp only [o_chk, fa_83_2, Nat.zero_add, fa_83_1, o_chkp, fa_83_1p, fa_83_0p, Nat.add_zero, o_lss, cond_decide])
  refine r_load one47 (hO.at m0 2 rfl) ?_
  by_cases he : err = 0
  case neg =>
    have hbe : (err != 0) = true := by simpa using he
    (try simp only [o_neq, hbe, condT])
    exact ⟨[], off, err, by unfold rwV; rw [if_neg he], h.own_nil 5 1⟩
  subst he
  (try simp only [o_neq, bne_self_eq_false, condF])
  refine ⟨fun hy1 => ?_, fun hy1 => ?_⟩
  · refine r_store hO one47 (show 2 < 3 by omega) rfl fun w2 hO => ?_
    exact ⟨[], off, 11, by unfold rwV; rw [if_pos rfl, if_pos hy1], (RefR.shut h1 h2 hO).own_nil 5 1⟩
  obtain ⟨n, rfl⟩ : ∃ k : Nat, n = k := ⟨n.toNat, by omega⟩
  refine ⟨fun w2 hd => ?_⟩
  have hO := hO.drew hd
  refine rr_load one22 (hO.at m0 0 rfl) ?_
  refine rp (fun w => (hO.own_rd m1).len sl22 _ rfl _ w) ?_
  skip
  refine rr_load one3 (hO.at m0 1 rfl) ?_
  refine rp (fun w => run_sub _ w _ _ _ _) ?_
  rw [wr_i64 (x := (all.length : Int) - (off : Int)) (by omega) (by omega)]
  by_cases hlt : (all.length : Int) - (off : Int) < (n : Int)
  · (try simp only [o_lssp, hlt, decide_true, condT])
    refine r_store hO one47 (show 2 < 3 by omega) rfl fun w2 hO => ?_
    exact ⟨[], off, 10, by unfold rwV; rw [if_pos rfl, if_neg hy1, Int.toNat_natCast, if_neg (by omega)], (RefR.shut h1 h2 hO).own_nil 5 1⟩
  have hle : off + n ≤ all.length := by omega
  (try simp only [o_lssp, hlt, decide_false, condF])
  refine ⟨fun w3 hd => ?_⟩
  have hO := hO.drew hd
  refine rr_load one22 (hO.at m0 0 rfl) ?_
  skip
  refine rr_load one3 (hO.at m0 1 rfl) ?_
  skip
  refine rr_load one3 (hO.at m0 1 rfl) ?_
  (try simp only [o_addp])
  rw [wr_i64 (x := (off : Int) + (n : Int)) (by omega) (by omega)]
  obtain ⟨x2, hx2, hr2⟩ := midB (hO.pick 1) off n hle .i64 .i64
  have e1 : (off : Int) + (n : Int) = ((off + n : Nat) : Int) := by omega
  rw [e1]
  refine rp hx2 ?_
  have hl : ((all.drop off).take n).length = n := by rw [List.length_take, List.length_drop]; omega
  refine (copyBytes Z hO (fun w hw => hr2 w (hw.own_rd m1)) (by omega)).mono fun r w4 hO => ?_
  refine rs_load one3 (hO.at m1 1 rfl) ?_
  refine rs_load one3 (hO.at m1 1 rfl) ?_
  refine rs_load one22 (hO.at m1 0 rfl) ?_
  skip
  refine r_load one3 (hO.at m1 1 rfl) ?_
  (try simp only [o_add])
  rw [wr_i64 (x := (off : Int) + (n : Int)) (by omega) (by omega), e1]
  refine r_store (hO.pick 1) one3 (show 1 < 3 by omega) rfl fun w5 hO => ?_
  exact ⟨(all.drop off).take n, off + n, 0, by unfold rwV; rw [if_pos rfl, if_neg hy1, Int.toNat_natCast, if_pos hle], (RefR.shut hle h2 (hO.pick 1 |>.put 2)).swap⟩
end
end Go.Proofs.YthobnaagjhooeaaGreatDoor
