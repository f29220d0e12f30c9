/- Readers, to the letter: what each call answers, where the reader stands, which fault. -/
import Derived.Test.YthobnaagjhooeaaGreatDoorP6
set_option linter.unusedVariables false
set_option linter.unusedSimpArgs false
namespace Go.Proofs.YthobnaagjhooeaaGreatDoor
open Go.Sh
def nmV (n : Nat) (all : List UInt8) (off : Nat) (err : Int) : Nat × Nat × Int :=
  if err = 0 ∧ off + n ≤ all.length then (dec ((all.drop off).take n), off + n, 0) else (0, off, if err = 0 then 10 else err)
def szV (most : Int) (all : List UInt8) (off : Nat) (err : Int) : List UInt8 × Nat × Int :=
  if err = 0 ∧ off + 4 ≤ all.length then
    if IntKind.i32.wrap (dec ((all.drop off).take 4)) < 0 ∨ most < IntKind.i32.wrap (dec ((all.drop off).take 4)) then ([], off, 11)
    else if off + 4 + (IntKind.i32.wrap (dec ((all.drop off).take 4))).toNat ≤ all.length then ((all.drop (off + 4)).take (IntKind.i32.wrap (dec ((all.drop off).take 4))).toNat, off + 4 + (IntKind.i32.wrap (dec ((all.drop off).take 4))).toNat, 0)
    else ([], off, 10)
  else ([], off, if err = 0 then 10 else err)
def rwV (n : Int) (all : List UInt8) (off : Nat) (err : Int) : List UInt8 × Nat × Int :=
  if err = 0 then
    if n < 0 then ([], off, 11)
    else if off + n.toNat ≤ all.length then ((all.drop off).take n.toNat, off + n.toNat, 0)
    else ([], off, 10)
  else ([], off, err)
def blV (all : List UInt8) (off : Nat) (err : Int) : Bool × Nat × Int :=
  if err = 0 ∧ off + 1 ≤ all.length then
    if 1 < dec ((all.drop off).take 1) then (false, off, 12) else (dec ((all.drop off).take 1) == 1, off + 1, 0)
  else (false, off, if err = 0 then 10 else err)
theorem err_ne {err : Int} : ((if err = 0 then (10 : Int) else err) == 0) = false := by
  by_cases h : err = 0
  · rw [if_pos h]; rfl
  · rw [if_neg h]; simpa using h
theorem szV_len {most : Int} {all k : List UInt8} {off off' : Nat} {err e' : Int} (h : szV most all off err = (k, off', e')) : k.length ≤ all.length ∧ (k.length ≤ 2147483647) ∧ off ≤ off' := by
  have hr := i32_range (dec ((all.drop off).take 4) : Int)
  unfold szV at h
  split at h
  · split at h
    · injection h with h1 h2; injection h2 with h2 h3; subst h1; subst h2; exact ⟨Nat.zero_le _, by simp, Nat.le_refl _⟩
    · split at h
      · injection h with h1 h2; injection h2 with h2 h3; subst h1; subst h2
        refine ⟨?_, ?_, by omega⟩
        · rw [List.length_take, List.length_drop]; omega
        · rw [List.length_take, List.length_drop]; omega
      · injection h with h1 h2; injection h2 with h2 h3; subst h1; subst h2; exact ⟨Nat.zero_le _, by simp, Nat.le_refl _⟩
  · injection h with h1 h2; injection h2 with h2 h3; subst h1; subst h2; exact ⟨Nat.zero_le _, by simp, Nat.le_refl _⟩
section
variable (Z : List PanicEntry → World → Prop) {o w : World} {R : List HProp} {g : Nat} {B : Option Nat} {all l : List UInt8} {off : Nat} {err : Int}
theorem xWhole (n : Nat) (hn : n ≤ 8) (h : St o w (RdrAt g B all off err :: R)) : CallV Tryz.prog Z 29 #[.pointer (some ⟨g, 0, none⟩), .int .i64 n] w fun r w' =>
    ∃ x off' e', nmV n all off err = (x, off', e') ∧ r = .int .u64 (x : Int) ∧ St o w' (RdrAt g B all off' e' :: R) := by
  refine (rWhole Z n hn h).mono fun r w' hq => ?_
  rcases hq with ⟨rfl, h1, h2, hS⟩ | ⟨rfl, h1, hS⟩
  · exact ⟨_, _, _, by unfold nmV; rw [if_pos ⟨h1, h2⟩], rfl, hS⟩
  · exact ⟨0, off, _, by unfold nmV; rw [if_neg h1], rfl, hS⟩
theorem xInt8 (h : St o w (RdrAt g B all off err :: R)) : CallV Tryz.prog Z 32 #[.pointer (some ⟨g, 0, none⟩)] w fun r w' => ∃ x off' e', nmV 1 all off err = (x, off', e') ∧ r = .int .i8 (IntKind.i8.wrap x) ∧ St o w' (RdrAt g B all off' e' :: R) := by
  refine f32.calls ?_
  unfold f32.sh
  refine (xWhole Z 1 (by omega) h).mono fun r w' ⟨x, off', e', hv, hr, hS⟩ => ?_
  subst hr
  (try simp only [cv_86_89])
  exact ⟨x, off', e', hv, rfl, hS⟩
theorem xInt32 (h : St o w (RdrAt g B all off err :: R)) : CallV Tryz.prog Z 14 #[.pointer (some ⟨g, 0, none⟩)] w fun r w' => ∃ x off' e', nmV 4 all off err = (x, off', e') ∧ r = .int .i32 (IntKind.i32.wrap x) ∧ St o w' (RdrAt g B all off' e' :: R) := by
  refine f14.calls ?_
  unfold f14.sh
  refine (xWhole Z 4 (by omega) h).mono fun r w' ⟨x, off', e', hv, hr, hS⟩ => ?_
  subst hr
  (try simp only [cv_86_21])
  exact ⟨x, off', e', hv, rfl, hS⟩
theorem xUint32 (h : St o w (RdrAt g B all off err :: R)) : CallV Tryz.prog Z 33 #[.pointer (some ⟨g, 0, none⟩)] w fun r w' => ∃ x off' e', nmV 4 all off err = (x, off', e') ∧ r = .int .u32 (IntKind.u32.wrap x) ∧ St o w' (RdrAt g B all off' e' :: R) := by
  refine f33.calls ?_
  unfold f33.sh
  refine (xWhole Z 4 (by omega) h).mono fun r w' ⟨x, off', e', hv, hr, hS⟩ => ?_
  subst hr
  (try simp only [cv_86_40])
  exact ⟨x, off', e', hv, rfl, hS⟩
theorem xInt64 (h : St o w (RdrAt g B all off err :: R)) : CallV Tryz.prog Z 34 #[.pointer (some ⟨g, 0, none⟩)] w fun r w' => ∃ x off' e', nmV 8 all off err = (x, off', e') ∧ r = .int .i64 (IntKind.i64.wrap x) ∧ St o w' (RdrAt g B all off' e' :: R) := by
  refine f34.calls ?_
  unfold f34.sh
  refine (xWhole Z 8 (by omega) h).mono fun r w' ⟨x, off', e', hv, hr, hS⟩ => ?_
  subst hr
  (try simp only [cv_86_2])
  exact ⟨x, off', e', hv, rfl, hS⟩
theorem xSized (most : Int) (h : St o w (RdrAt g B all off err :: R)) : CallV Tryz.prog Z 79 #[.pointer (some ⟨g, 0, none⟩), .int .i64 most] w fun r w' =>
    ∃ k off' e', szV most all off err = (k, off', e') ∧ ((k = (all.drop (off + 4)).take k.length ∧ off + 4 + k.length ≤ all.length ∧ Vw B (off + 4) k.length r) ∨ (r = .slice none 0 0 ∧ k = [])) ∧ St o w' (RdrAt g B all off' e' :: R) := by
  have hoff := RdrAt.le h
  refine f79.calls ?_
  unfold f79.sh
  refine (rMark Z h).mono fun at_ w1 ⟨hv, hw⟩ => ?_
  subst hw
  refine (xInt32 Z h).mono fun r2 w2 ⟨x, off2, e2, hnm, hr, hS⟩ => ?_
  subst hr
  unfold nmV at hnm
  by_cases h0 : err = 0 ∧ off + 4 ≤ all.length
  · rw [if_pos h0] at hnm
    injection hnm with hx hnm
    injection hnm with ho he
    subst ho he
    have hrg := i32_range (x : Int)
    have hsz : ∀ k off' e', (if IntKind.i32.wrap (x : Int) < 0 ∨ most < IntKind.i32.wrap (x : Int) then (([] : List UInt8), off, (11 : Int))
        else if off + 4 + (IntKind.i32.wrap (x : Int)).toNat ≤ all.length then ((all.drop (off + 4)).take (IntKind.i32.wrap (x : Int)).toNat, off + 4 + (IntKind.i32.wrap (x : Int)).toNat, 0)
        else ([], off, 10)) = (k, off', e') → szV most all off err = (k, off', e') := fun k off' e' hh => by
      unfold szV
      rw [if_pos h0, hx]
      exact hh
    generalize hxx : IntKind.i32.wrap (x : Int) = y at *
    (try simp only [o_chk, fa_49_1, Nat.zero_add, cv_21_3, o_lss])
    rw [wr_i64 (x := y) (by omega) (by omega)]
    refine (rOpen Z hS).mono fun r w3 ⟨hr, hw⟩ => ?_
    subst hr; subst hw
    simp only [beq_self_eq_true]
    by_cases h1 : y < 0
    · (try simp only [h1, decide_true, o_pickT, condT, guardW_tf, o_not, Bool.not_true, condF])
      exact (rBack Z 11 hS hv hoff).mono fun r4 w4 hS => ⟨[], off, 11, hsz _ _ _ (by rw [if_pos (.inl h1)]), .inr ⟨trivial, rfl⟩, hS⟩
    by_cases h2 : most < y
    · (try simp only [h1, decide_false, o_pickF, guardW_ff, o_gtr, h2, decide_true, condT, o_not, Bool.not_true, condF])
      exact (rBack Z 11 hS hv hoff).mono fun r4 w4 hS => ⟨[], off, 11, hsz _ _ _ (by rw [if_pos (.inr h2)]), .inr ⟨trivial, rfl⟩, hS⟩
    (try simp only [h1, decide_false, o_pickF, guardW_ff, o_gtr, h2, condF, o_not, Bool.not_true])
    obtain ⟨n, rfl⟩ : ∃ n : Nat, y = n := ⟨y.toNat, by omega⟩
    have hno : ¬ ((n : Int) < 0 ∨ most < (n : Int)) := by omega
    refine (rAhead Z n hS).mono fun r5 w5 hq => ?_
    rcases hq with ⟨y, rfl, _, hle, hvy, hS⟩ | ⟨rfl, hno2, hS⟩
    · (try simp only [o_ext2_1, o_not, Bool.not_true, condF, o_ext2_0])
      obtain ⟨v, hv5, ho5, hO⟩ := RdrAt.open hS
      refine r_load one22 (hO.at List.mem_cons_self 1 rfl) ?_
      obtain ⟨x2, hx2', hvx2⟩ := hv5.from n (by omega) .i64
      refine r1 (hx2' _) ?_
      skip
      have hvx3 : Vw B (off + 4 + n) (all.length - (off + 4 + n)) x2 := by rw [show all.length - (off + 4 + n) = all.length - (off + 4) - n by omega]; exact hvx2
      have hl : ((all.drop (off + 4)).take n).length = n := by rw [List.length_take, List.length_drop]; omega
      refine rPut Z hS hvx3 (by omega) fun w6 hS => ⟨(all.drop (off + 4)).take n, off + 4 + n, 0, hsz _ _ _ (by rw [if_neg hno, Int.toNat_natCast, if_pos hle]), .inl ⟨by rw [hl], by rw [hl]; exact hle, by rw [hl]; exact hvy⟩, hS⟩
    · (try simp only [o_ext2_1, o_not, Bool.not_false, condT, o_ext2_0])
      exact (rBack Z 10 hS hv hoff).mono fun r6 w6 hS => ⟨[], off, 10, hsz _ _ _ (by rw [if_neg hno, Int.toNat_natCast, if_neg (fun h => hno2 ⟨rfl, h⟩)]), .inr ⟨trivial, rfl⟩, hS⟩
  · rw [if_neg h0] at hnm
    injection hnm with hx hnm
    injection hnm with ho he
    subst hx ho he
    have hbe := err_ne (err := err)
    (try simp only [o_chk, fa_49_1, Nat.zero_add, cv_21_3, o_lss])
    refine (rOpen Z hS).mono fun r w3 ⟨hr, hw⟩ => ?_
    subst hr; subst hw
    (try simp only [hbe, o_not, Bool.not_false, condT])
    exact ⟨[], off, _, by unfold szV; rw [if_neg h0], .inr ⟨trivial, rfl⟩, hS⟩
theorem xText (most : Int) (h : St o w (RdrAt g B all off err :: R)) : CallV Tryz.prog Z 36 #[.pointer (some ⟨g, 0, none⟩), .int .i64 most] w fun r w' => ∃ k off' e', szV most all off err = (k, off', e') ∧ r = .string (str k) ∧ St o w' (RdrAt g B all off' e' :: R) := by
  refine f36.calls ?_
  unfold f36.sh
  refine (xSized Z most h).mono fun r w1 ⟨k, off', e', hz, hq, hS⟩ => ?_
  rcases hq with ⟨hk, hle, hv⟩ | ⟨rfl, rfl⟩
  · obtain ⟨_, _, _, hO⟩ := RdrAt.open hS
    have hrd := hv.rd hO (List.mem_cons_of_mem _ List.mem_cons_self) hle
    rw [← hk] at hrd
    refine r1 (run_toString Tryz.underlying22 Tryz.underlying5 Tryz.underlying9 (l := k) hrd) ?_
    exact ⟨k, off', e', hz, rfl, hS⟩
  · refine r1 (run_toString Tryz.underlying22 Tryz.underlying5 Tryz.underlying9 (l := []) ⟨rfl, by simp [maxLen], .inl ⟨0, rfl, rfl⟩⟩) ?_
    exact ⟨[], off', e', hz, rfl, hS⟩
theorem xBuffer (most : Int) (h : St o w (RdrAt g B all off err :: R)) : CallV Tryz.prog Z 38 #[.pointer (some ⟨g, 0, none⟩), .int .i64 most] w fun r w' => ∃ k off' e', szV most all off err = (k, off', e') ∧ St o w' (own 5 1 r k.length (cb k) :: RdrAt g B all off' e' :: R) := by
  refine f38.calls ?_
  unfold f38.sh
  refine (xSized Z most h).mono fun r w1 ⟨k, off', e', hz, hq, hS⟩ => ?_
  have hkl := szV_len hz
  rcases hq with ⟨hk, hle, hv⟩ | ⟨rfl, rfl⟩
  · obtain ⟨_, _, _, hO⟩ := RdrAt.open hS
    have hrd := hv.rd hO (List.mem_cons_of_mem _ List.mem_cons_self) hle
    rw [← hk] at hrd
    refine r_append el22 (hS.own_nil 5 1) (hrd.src Tryz.underlying22 (cb_ones _)) (by omega) (by simp only [maxLen]; omega) fun v' w2 hS => ?_
    rw [List.nil_append, Nat.zero_add] at hS
    exact ⟨k, off', e', hz, hS⟩
  · have hz0 : Rd w1 1 (.slice none 0 0) 0 (cb []) := ⟨rfl, by simp [maxLen], .inl ⟨0, rfl, rfl⟩⟩
    refine r_append el22 (hS.own_nil 5 1) (hz0.src Tryz.underlying22 (cb_ones _)) (by omega) (by simp only [maxLen]; omega) fun v' w2 hS => ?_
    exact ⟨[], off', e', hz, hS⟩
end
end Go.Proofs.YthobnaagjhooeaaGreatDoor
