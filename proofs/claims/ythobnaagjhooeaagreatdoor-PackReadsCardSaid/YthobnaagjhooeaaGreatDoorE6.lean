/- The Reader of package pack, to the letter: bools, bytes, floats. -/
import Derived.Test.YthobnaagjhooeaaGreatDoorE5
set_option linter.unusedVariables false
set_option linter.unusedSimpArgs false
namespace Go.Proofs.YthobnaagjhooeaaGreatDoor
open Go.Sh
def strange (n : Nat) : Prop := dd.order n n = none ∧ n ≠ 9221120237041090560
noncomputable instance (n : Nat) : Decidable (strange n) := Classical.propDecidable _
noncomputable def flV (all : List UInt8) (off : Nat) (err : Int) : Nat × Nat × Int :=
  if err = 0 ∧ off + 8 ≤ all.length then
    if strange (dec ((all.drop off).take 8)) then (0, off, 12) else (dec ((all.drop off).take 8), off + 8, 0)
  else (0, off, if err = 0 then 10 else err)
section
variable (Z : List PanicEntry → World → Prop) {o w : World} {R : List HProp} {g : Nat} {B : Option Nat} {all : List UInt8} {off : Nat} {err : Int}
theorem xBool (h : St o w (RdrAt g B all off err :: R)) : CallV Tryz.prog Z 31 #[.pointer (some ⟨g, 0, none⟩)] w fun r w' => ∃ b off' e', blV all off err = (b, off', e') ∧ r = .bool b ∧ St o w' (RdrAt g B all off' e' :: R) := by
  have hoff := RdrAt.le h
  refine f31.calls ?_
  unfold f31.sh
  refine (rAhead Z 1 h).mono fun r w1 hq => ?_
  rcases hq with ⟨x, rfl, rfl, hle, hvx, hS⟩ | ⟨rfl, hno, hS⟩
  · (try simp only [o_chk, fa_49_2, Nat.zero_add, fa_49_1, o_ext2_1, o_not, Bool.not_true, condF, o_ext2_0])
    have hll : ((all.drop off).take 1).length = 1 := by rw [List.length_take, List.length_drop]; omega
    obtain ⟨_, _, _, hO⟩ := RdrAt.open hS
    obtain ⟨p, hp, hpc⟩ := rd_index (hvx.rd hO (List.mem_cons_of_mem _ List.mem_cons_self) hle) 0 (by omega)
    refine r1 (hp _) (r_load one5 hpc ?_)
    obtain ⟨b, hb⟩ : ∃ b, (all.drop off).take 1 = [b] := List.length_eq_one_iff.1 hll
    have hbt := b.toNat_lt
    have hd : dec ((all.drop off).take 1) = b.toNat := by rw [hb]; simp [dec]
    have hbl : ∀ c off' e', (if 1 < b.toNat then (false, off, (12 : Int)) else (b.toNat == 1, off + 1, 0)) = (c, off', e') → blV all off 0 = (c, off', e') := fun c off' e' hh => by
      unfold blV
      rw [if_pos ⟨rfl, hle⟩, hd]
      exact hh
    simp only [hb, List.getElem_cons_zero]
    (try simp only [o_gtr, cond_decide])
    refine ⟨fun hgt => ?_, fun hle1 => ?_⟩
    · have hgt' : 1 < b.toNat := by omega
      refine rSet Z 12 hS fun w2 hS => ⟨false, off, 12, hbl _ _ _ (by rw [if_pos hgt']), by first | rfl | trivial, hS⟩
    · have hgt' : ¬ 1 < b.toNat := by omega
      obtain ⟨v, hv, ho, hO⟩ := RdrAt.open hS
      refine r_load one22 (hO.at List.mem_cons_self 1 rfl) ?_
      obtain ⟨x2, hx2, hvx2⟩ := hv.from 1 (by omega) .i64
      refine r1 (hx2 _) ?_
      skip
      have hvx3 : Vw B (off + 1) (all.length - (off + 1)) x2 := by rw [show all.length - (off + 1) = all.length - off - 1 by omega]; exact hvx2
      refine rPut Z hS hvx3 (by omega) fun w2 hS => ?_
      obtain ⟨_, _, _, hO⟩ := RdrAt.open hS
      obtain ⟨p, hp, hpc⟩ := rd_index (hvx.rd hO (List.mem_cons_of_mem _ List.mem_cons_self) hle) 0 (by omega)
      refine r1 (hp _) (r_load one5 hpc ?_)
      simp only [hb, List.getElem_cons_zero]
      (try simp only [o_eql])
      refine ⟨b.toNat == 1, off + 1, 0, hbl _ _ _ (by rw [if_neg hgt']), ?_, hS⟩
      have hcase : b = 0 ∨ b = 1 := by
        have : b.toNat = 0 ∨ b.toNat = 1 := by omega
        rcases this with h | h
        · exact .inl (UInt8.toNat_inj.1 h)
        · exact .inr (UInt8.toNat_inj.1 h)
      rcases hcase with rfl | rfl
      · rfl
      · rfl
  · (try simp only [o_chk, fa_49_2, Nat.zero_add, fa_49_1, o_ext2_1, o_not, Bool.not_false, condT, o_ext2_0])
    exact ⟨false, off, _, by unfold blV; rw [if_neg hno], by first | rfl | trivial, hS⟩
theorem xFloat (h : St o w (RdrAt g B all off err :: R)) : CallV Tryz.prog Z 35 #[.pointer (some ⟨g, 0, none⟩)] w fun r w' => ∃ b off' e', flV all off err = (b, off', e') ∧ r = .float .f64 b ∧ St o w' (RdrAt g B all off' e' :: R) := by
  have hoff := RdrAt.le h
  refine f35.calls ?_
  unfold f35.sh
  refine (rMark Z h).mono fun r w1 ⟨hv, hw⟩ => ?_
  subst hw
  have hfrom : ∀ (n : Nat) (w : World), (callFunc 77 #[.int .u64 n]).run Tryz.prog w = .ok (.value (.float .f64 n)) w := fun n w => by
    rw [run_callFunc_extern Tryz.func77 (by kernel_rfl) (by kernel_rfl) (by kernel_rfl) (e := Extern.MathFloatBits.float64frombits) (by kernel_rfl)]
    rfl
  refine (rWhole Z 8 (by omega) h).mono fun r2 w2 hq => ?_
  rcases hq with ⟨rfl, rfl, hle, hS⟩ | ⟨rfl, hno, hS⟩
  · have hl : ((all.drop off).take 8).length = 8 := by rw [List.length_take, List.length_drop]; omega
    have hlt := dec_lt ((all.drop off).take 8)
    rw [hl] at hlt
    have hlt2 : dec ((all.drop off).take 8) < 18446744073709551616 := hlt
    have hfl : ∀ b off' e', (if strange (dec ((all.drop off).take 8)) then (0, off, (12 : Int)) else (dec ((all.drop off).take 8), off + 8, 0)) = (b, off', e') → flV all off 0 = (b, off', e') := fun b off' e' hh => by
      unfold flV
      rw [if_pos ⟨rfl, hle⟩]
      exact hh
    generalize hd : dec ((all.drop off).take 8) = n at *
    refine ⟨?_⟩
    rw [hfrom]
    show Sh.run1 _ _ _ _ _
    refine r1 (run_fl_neq _ _ _ _ _ _) ?_
    rcases fl_cases n hlt2 with hno | ⟨s, q, hsq, hq, heq⟩
    · rw [hno]
      simp only [show ((none : Option Ordering) != some .eq) = true by rfl]
      by_cases hn : n = 9221120237041090560
      · have e1 : ((n : Int) != 9221120237041090560) = false := by simp [hn]
        (try simp only [o_pickT, guardW_true, o_neq, e1, condF])
        exact ⟨n, off + 8, 0, hfl _ _ _ (if_neg fun hs => hs.2 hn), by first | rfl | trivial, hS⟩
      · have e1 : ((n : Int) != 9221120237041090560) = true := by simp; omega
        (try simp only [o_pickT, guardW_true, o_neq, e1, condT])
        refine (rBack Z 12 hS hv hoff).mono fun r3 w3 hS => ?_
        exact ⟨0, off, 12, hfl _ _ _ (if_pos ⟨hno, hn⟩), by first | rfl | trivial, hS⟩
    · rw [heq]
      simp only [show (some Ordering.eq != some .eq) = false by rfl]
      (try simp only [o_pickF, condF, guardW_ft])
      exact ⟨n, off + 8, 0, hfl _ _ _ (if_neg fun hs => by rw [hs.1] at heq; cases heq), by first | rfl | trivial, hS⟩
  · refine ⟨?_⟩
    rw [show (0 : Int) = ((0 : Nat) : Int) by rfl, hfrom]
    show Sh.run1 _ _ _ _ _
    refine r1 (run_fl_neq _ _ _ _ _ _) ?_
    have h0 : dd.order 0 0 = some .eq := order_self_num _ _ _ _ (read_zero false)
    rw [h0]
    simp only [show (some Ordering.eq != some .eq) = false by rfl]
    (try simp only [o_pickF, condF, guardW_ft])
    exact ⟨0, off, _, by unfold flV; rw [if_neg hno], by first | rfl | trivial, hS⟩
theorem xRaw (n : Int) (hall : all.length ≤ 140737488355328) (h : St o w (RdrAt g B all off err :: R)) : CallV Tryz.prog Z 39 #[.pointer (some ⟨g, 0, none⟩), .int .i64 n] w fun r w' => ∃ k off' e', rwV n all off err = (k, off', e') ∧ St o w' (own 5 1 r k.length (cb k) :: RdrAt g B all off' e' :: R) := by
  have hoff := RdrAt.le h
  refine f39.calls ?_
  unfold f39.sh
  refine (rOpen Z h).mono fun r w1 ⟨hr, hw⟩ => ?_
  subst hr; subst hw
  by_cases he : err = 0
  · subst he
    simp only [beq_self_eq_true]
    by_cases h1 : n < 0
    · (try simp only [o_chk, fa_49_2, Nat.zero_add, fa_49_1, o_pickT, guardW_true, o_lss, h1, decide_true, condT])
      exact rSet Z 11 h fun w2 hS => ⟨[], off, 11, by unfold rwV; rw [if_pos rfl, if_pos h1], hS.own_nil 5 1⟩
    obtain ⟨m, rfl⟩ : ∃ m : Nat, n = m := ⟨n.toNat, by omega⟩
    (try simp only [o_chk, fa_49_2, Nat.zero_add, fa_49_1, o_pickT, guardW_true, o_lss, h1, decide_false, condF])
    refine (rAhead Z m h).mono fun r5 w5 hq => ?_
    rcases hq with ⟨y, rfl, _, hle, hvy, hS⟩ | ⟨rfl, hno, hS⟩
    · (try simp only [o_ext2_1, o_not, Bool.not_true, condF, o_ext2_0])
      obtain ⟨v, hv5, ho5, hO⟩ := RdrAt.open hS
      refine r_load one22 (hO.at List.mem_cons_self 1 rfl) ?_
      obtain ⟨x2, hx2', hvx2⟩ := hv5.from m (by omega) .i64
      refine r1 (hx2' _) ?_
      skip
      have hvx3 : Vw B (off + m) (all.length - (off + m)) x2 := by rw [show all.length - (off + m) = all.length - off - m by omega]; exact hvx2
      refine rPut Z hS hvx3 (by omega) fun w6 hS => ?_
      have hl : ((all.drop off).take m).length = m := by rw [List.length_take, List.length_drop]; omega
      obtain ⟨_, _, _, hO⟩ := RdrAt.open hS
      have hrd := hvy.rd hO (List.mem_cons_of_mem _ List.mem_cons_self) hle
      refine r_append el22 (hS.own_nil 5 1) (hrd.src Tryz.underlying22 (cb_ones _)) (by omega) (by simp only [maxLen]; omega) fun v' w7 hS => ?_
      rw [List.nil_append, Nat.zero_add] at hS
      refine ⟨(all.drop off).take m, off + m, 0, by unfold rwV; rw [if_pos rfl, if_neg h1, Int.toNat_natCast, if_pos hle], ?_⟩
      rw [hl]
      exact hS
    · (try simp only [o_ext2_1, o_not, Bool.not_false, condT, o_ext2_0])
      refine ⟨[], off, _, ?_, hS.own_nil 5 1⟩
      unfold rwV
      rw [if_pos rfl, if_neg h1, Int.toNat_natCast, if_neg (fun hc => hno ⟨rfl, hc⟩), if_pos rfl]
  · have hbe : (err == 0) = false := by simpa using he
    (try simp only [hbe, o_chk, fa_49_2, Nat.zero_add, fa_49_1, o_pickF, condF, guardW_ft])
    have ha : CallV Tryz.prog Z 76 #[.pointer (some ⟨g, 0, none⟩), .int .i64 n] w1 fun r w' => r = .tuple #[.slice none 0 0, .bool false] ∧ w' = w1 := by
      refine f76.calls ?_
      unfold f76.sh
      refine (rOpen Z h).mono fun r w2 ⟨hr, hw⟩ => ?_
      subst hr; subst hw
      (try simp only [hbe, o_chk, fa_49_2, Nat.zero_add, fa_49_1, o_not, Bool.not_false, condT])
      exact ⟨by first | rfl | trivial, by first | rfl | trivial⟩
    refine ha.mono fun r w2 ⟨hr, hw⟩ => ?_
    subst hr; subst hw
    (try simp only [o_ext2_1, o_not, Bool.not_false, condT, o_ext2_0])
    exact ⟨[], off, err, by unfold rwV; rw [if_neg he], h.own_nil 5 1⟩
end
end Go.Proofs.YthobnaagjhooeaaGreatDoor
