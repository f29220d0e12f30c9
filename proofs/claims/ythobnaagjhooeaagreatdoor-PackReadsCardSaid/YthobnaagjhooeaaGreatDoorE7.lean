/- The document's Float: a word made a float by halving and doubling is that word's. -/
import Derived.Test.YthobnaagjhooeaaGreatDoorE6
import Derived.Test.YthobnaagjhooeaaGreatDoorF4
set_option linter.unusedVariables false
set_option linter.unusedSimpArgs false
namespace Go.Proofs.YthobnaagjhooeaaGreatDoor
open Go.Sh
theorem neg_wd' (r : Nat) (h : r < 9223372036854775808) : Op.negFloat .f64 (wd false r) = wd true r := by
  have h1 := neg_wd r h
  rw [← h1]
  unfold Op.negFloat
  first
    | rw [Nat.xor_assoc, Nat.xor_self, Nat.xor_zero]
    | rw [← Nat.xor_assoc, Nat.xor_self, Nat.zero_xor]
theorem order_nan' {b : Nat} {s : Bool} {q : Nat} (h : dd.read b = .nan s q) (a : Nat) : dd.order a b = none := by
  unfold Ieee.Format.order
  rw [h]
  cases dd.read a <;> rfl
theorem nan_cut' (x y t : Nat) : ∀ a, dd.order a (Question.cut (.nanBits .f64 x y) t) = none := by
  have e : Question.cut (.nanBits .f64 x y) t = wd (t % 2 == 1) (9218868437227405313 + t / 2 % 4503599627370495) := by
    rw [wd_eq]
    have h2 : t % 2 = 0 ∨ t % 2 = 1 := by omega
    simp only [Question.cut]
    rcases h2 with h2 | h2 <;> simp [h2] <;> omega
  rw [e]
  have hr := read_wd (t % 2 == 1) (9218868437227405313 + t / 2 % 4503599627370495) (by omega)
  rw [if_neg (by omega), if_neg (by omega), if_neg (by omega)] at hr
  exact order_nan' hr
theorem run_fl_div_nan {P : Program} (ty : TypeId) (a b : Nat) (h : dd.div a b = none) (w : World) : ∃ r, (∀ x, dd.order x r = none) ∧ (binOp .quo ty (.float .f64 a) (.float .f64 b)).run P w = .ok (.float .f64 r) w.drew := by
  refine ⟨_, nan_cut' a b (w.tape w.drawn (.nanBits .f64 a b)), ?_⟩
  have h' : FloatKind.f64.format.div a b = none := h
  simp [binOp, Op.floatArith, h', Question.forced]
theorem nan_iff (n : Nat) (hn : n < 18446744073709551616) : dd.order n n = none ↔ n / 4503599627370496 % 2048 = 2047 ∧ n % 4503599627370496 ≠ 0 := by
  obtain ⟨s, r, rfl, hr⟩ := wd_of n hn
  have hm : wd s r % 9223372036854775808 = r := by rw [wd_eq]; split <;> omega
  have e1 : wd s r / 4503599627370496 % 2048 = r / 4503599627370496 := by rw [wd_eq]; split <;> omega
  have e2 : wd s r % 4503599627370496 = r % 4503599627370496 := by rw [wd_eq]; split <;> omega
  rw [e1, e2]
  have hrd := read_wd s r hr
  constructor
  · intro h
    by_cases h1 : r < 4503599627370496
    · rw [if_pos h1] at hrd; rw [order_self_num _ _ _ _ hrd] at h; cases h
    · rw [if_neg h1] at hrd
      by_cases h2 : r < 9218868437227405312
      · rw [if_pos h2] at hrd; rw [order_self_num _ _ _ _ hrd] at h; cases h
      · by_cases h3 : r = 9218868437227405312
        · rw [if_neg h2, if_pos h3] at hrd
          unfold Ieee.Format.order at h
          rw [hrd] at h
          cases h
        · omega
  · rintro ⟨h1, h2⟩
    rw [if_neg (by omega), if_neg (by omega), if_neg (by omega)] at hrd
    exact order_nan' hrd _
section
variable (Z : List PanicEntry → World → Prop) {o w : World} {R : List HProp} {g : Nat} {all : List UInt8} {off : Nat} {err : Int}
set_option maxRecDepth 100000 in
theorem refFrom (n : Nat) (hn : n < 18446744073709551616) : CallV Tryz.prog Z 82 #[.int .u64 (n : Int)] w fun r w' =>
    (dd.order n n ≠ none → r = .tuple #[.float .f64 n, .bool true] ∧ w' = w) ∧ (dd.order n n = none → ∃ b, dd.order b b = none ∧ r = .tuple #[.float .f64 b, .bool (n == 9221120237041090560)] ∧ Drew w w') := by
  refine f82.calls ?_
  unfold f82.sh
  have q1 : (n : Int).tdiv 9223372036854775808 = ((n / 9223372036854775808 : Nat) : Int) := rfl
  have q2 : (n : Int).tdiv 4503599627370496 = ((n / 4503599627370496 : Nat) : Int) := rfl
  have q3 : ((n / 4503599627370496 : Nat) : Int).tmod 2048 = ((n / 4503599627370496 % 2048 : Nat) : Int) := rfl
  have q4 : (n : Int).tmod 4503599627370496 = ((n % 4503599627370496 : Nat) : Int) := rfl
  refine r1 (run_quo _ _ _ _ _ _ (by decide)) (r1 (run_quo _ _ _ _ _ _ (by decide)) ?_)
  rw [q1, q2, wr_u64 (x := ((n / 9223372036854775808 : Nat) : Int)) (by omega) (by omega), wr_u64 (x := ((n / 4503599627370496 : Nat) : Int)) (by omega) (by omega)]
  refine r1 (run_rem _ _ _ _ _ _ (by decide)) ?_
  rw [q3]
  obtain ⟨e, he⟩ : ∃ e, e = n / 4503599627370496 % 2048 := ⟨_, rfl⟩
  obtain ⟨m, hm⟩ : ∃ m, m = n % 4503599627370496 := ⟨_, rfl⟩
  obtain ⟨sg, hsg⟩ : ∃ sg, sg = n / 9223372036854775808 := ⟨_, rfl⟩
  have he2 : e < 2048 := by omega
  have hm2 : m < 4503599627370496 := by omega
  have hs2 : sg < 2 := by omega
  have hnum : n = sg * 9223372036854775808 + e * 4503599627370496 + m := by omega
  have hnan := nan_iff n hn
  rw [← he, ← hm] at hnan
  rw [← he, ← hsg]
  (try simp only [o_eql, cond_beq, cv_86_3, o_sub, o_gtr, cond_decide])
  rw [wr_i64 (x := (e : Int)) (by omega) (by omega)]
  refine r1 (run_rem _ _ _ _ _ _ (by decide)) ?_
  rw [q4, ← hm]
  refine r1 (run_convert_int_float _ _ _ .u64 .f64 (m : Int) (by rw [Tryz.underlying86]; rfl) Tryz.underlying44) ?_
  have efl : floatOfInt .f64 (m : Int) = dd.nearest false m 0 := by
    have h0 : decide ((m : Int) < 0) = false := decide_eq_false (by omega)
    show dd.nearest (decide ((m : Int) < 0)) (m : Int).natAbs 0 = _
    rw [h0]
    rfl
  rw [efl]
  clear q1 q2 q3 q4 efl he hm hsg
  have hz : dd.order (wd false (rungOf 0)) 0 = some .eq := by decide +kernel
  refine ⟨fun h47 => ?_, fun h47 => ?_⟩
  · have h47 : e = 2047 := by omega
    subst h47
    refine r1 (run_fl_neq _ _ _ _ _ _) ?_
    by_cases h0 : m = 0
    · subst h0
      have h1 : dd.order n n ≠ none := fun h => (hnan.1 h).2 rfl
      have e1 : (dd.order (dd.nearest false 0 0) 0 != some .eq) = false := by decide +kernel
      rw [e1]
      (try simp only [condF])
      refine ⟨fun hs => ?_, fun hs => ?_⟩
      · have e2 : dd.div 13830554455654793216 0 = some 18442240474082181120 := by decide +kernel
        refine r1 (run_fl_div _ _ _ _ e2 _) ?_
        have : n = 18442240474082181120 := by omega
        exact ⟨fun _ => ⟨by rw [this], by first | rfl | trivial⟩, fun h => absurd h h1⟩
      · have e2 : dd.div 4607182418800017408 0 = some 9218868437227405312 := by decide +kernel
        refine r1 (run_fl_div _ _ _ _ e2 _) ?_
        have : n = 9218868437227405312 := by omega
        exact ⟨fun _ => ⟨by rw [this], by first | rfl | trivial⟩, fun h => absurd h h1⟩
    · have h1 : dd.order n n = none := hnan.2 ⟨rfl, h0⟩
      obtain ⟨c, hc⟩ : ∃ c, c = 1074 := ⟨_, rfl⟩
      have hfit : Fit (m * 2 ^ c) := Fit.of (by omega) (by omega)
      have hfin := Fit.fin (K := m) (y := c) (by omega) (by omega) (by omega)
      have e1 : (dd.order (dd.nearest false m 0) 0 != some .eq) = true := by
        rw [flOf_nat hc (by omega) (by omega), Nat.min_eq_left (Nat.le_of_lt hfin)]
        obtain ⟨U, hVU, hU0, hU1, hr⟩ := read_Fit false hfit hfin
        unfold Ieee.Format.order
        have h2 := read_zero false
        rw [wd_eq] at h2
        have h2 : dd.read 0 = .number false 0 (-1074 + ((0 : Nat) : Int)) := by simpa using h2
        rw [hr, h2, order_num, Nat.zero_mul, Nat.compare_eq_gt.2 (Nat.mul_pos hU0 (Nat.pos_of_neZero _))]
        rfl
      rw [e1]
      (try simp only [condT])
      have e2 : dd.div 0 0 = none := by decide +kernel
      obtain ⟨b, hb, hrun⟩ := run_fl_div_nan (P := Tryz.prog) 44 0 0 e2 w
      refine r1 hrun ?_
      skip
      refine ⟨fun h => absurd h1 h, fun _ => ⟨b, hb b, ?_, drawn_drew w⟩⟩
      congr 4
      by_cases hw : n = 9221120237041090560
      · rw [hw]; rfl
      · have e3 : ((n : Int) == 9221120237041090560) = false := by simp; omega
        have e4 : (n == 9221120237041090560) = false := by simpa using hw
        rw [e3, e4]
  have h47 : e ≠ 2047 := by omega
  have hnn : dd.order n n ≠ none := fun h => h47 (hnan.1 h).1
  obtain ⟨d, hd⟩ : ∃ d, d = 1022 := ⟨_, rfl⟩
  refine r1 (run_fl_div _ _ _ _ (over_K hd hm2) _) ?_
  intro j hj
  -- the two loops
  have HJ : ∀ (K E0 : Nat) (w' : World), w' = w → K < 9007199254740992 → E0 ≤ 2045 → rungOf (K * 2 ^ E0) = e * 4503599627370496 + m → j (.int .i64 E0) (.float .f64 (wd false (rungOf (K * 2 ^ d)))) w' := by
    intro K E0 w' hw' hK hE0 hrg
    subst hw'
    refine hj _ _ w' fun _ => ?_
    clear hj
    refine ⟨fun m' x y w2 => ∃ E : Nat, x = .int .i64 E ∧ m' + E = max E0 1022 ∧ E0 ≤ E ∧ y = .float .f64 (wd false (rungOf (K * 2 ^ (d + E0 - E)))) ∧ w2 = w', ⟨max E0 1022 - E0, E0, rfl, by omega, by omega, by rw [show d + E0 - E0 = d by omega], rfl⟩, ?_⟩
    rintro m' _ _ w2 ⟨E, rfl, hm', hE, rfl, rfl⟩ _
    by_cases hlt : (E : Int) < 1022
    · (try simp only [o_add, o_lss, hlt, decide_true, condT])
      obtain ⟨y, hy⟩ : ∃ y, d + E0 - E = y + 1 := ⟨d + E0 - E - 1, by omega⟩
      rw [hy]
      refine r1 (run_fl_div _ _ _ _ (half_K hK (by omega)) _) ?_
      (try simp only [])
      rw [wr_i64 (x := (E : Int) + 1) (by omega) (by omega)]
      exact ⟨m' - 1, by omega, E + 1, rfl, by omega, by omega, by rw [show d + E0 - (E + 1) = y by omega], by first | rfl | trivial⟩
    (try simp only [o_add, o_lss, hlt, decide_false, condF])
    refine ⟨fun m' x y w3 => ∃ E : Nat, x = .int .i64 E ∧ m' + 1022 = E ∧ E ≤ max E0 1022 ∧ y = .float .f64 (wd false (rungOf (K * 2 ^ (d + E0 - E)))) ∧ w3 = w2, ⟨E - 1022, E, rfl, by omega, by omega, rfl, rfl⟩, ?_⟩
    rintro m2 _ _ w3 ⟨E2, rfl, hm3, hE2, rfl, rfl⟩ _
    by_cases hgt : (1022 : Int) < (E2 : Int)
    · (try simp only [o_sub, o_gtr, hgt, decide_true, condT])
      refine r1 (run_fl_mul _ _ _ _ (dbl_K hK (by omega)) _) ?_
      (try simp only [])
      rw [wr_i64 (x := (E2 : Int) - 1) (by omega) (by omega)]
      exact ⟨m2 - 1, by omega, E2 - 1, by congr 1; omega, by omega, by omega, by rw [show d + E0 - (E2 - 1) = d + E0 - E2 + 1 by omega], by first | rfl | trivial⟩
    (try simp only [o_sub, o_gtr, hgt, decide_false, condF])
    have hE3 : E2 = 1022 := by omega
    rw [hE3, show d + E0 - 1022 = E0 by omega, hrg]
    refine ⟨fun hs => ?_, fun hs => ?_⟩
    · have hn1 : n = wd true (e * 4503599627370496 + m) := by rw [wd_eq]; simp; omega
      have hrun : (Op.unary UnOp.neg (.float .f64 (wd false (e * 4503599627370496 + m)))).run Tryz.prog w3 = .ok (.float .f64 n) w3 := by
        rw [hn1]
        simp [Op.unary, neg_wd' (e * 4503599627370496 + m) (by omega)]
      refine r1 hrun ?_
      exact ⟨fun _ => ⟨by first | rfl | trivial, by first | rfl | trivial⟩, fun h => absurd h hnn⟩
    · have hs0 : sg = 0 := by clear hrg hnum hnan; omega
      have : n = wd false (e * 4503599627370496 + m) := by rw [wd_eq, if_neg (by simp), hnum, hs0, Nat.zero_mul, Nat.zero_add]
      exact ⟨fun _ => ⟨by rw [← this], by first | rfl | trivial⟩, fun h => absurd h hnn⟩
  clear hj
  skip
  refine ⟨fun hgt => ?_, fun hgt => ?_⟩
  · refine r1 (run_float_arith _ .add _ .f64 _ _ _ (plus_K hd hm2)) ?_
    skip
    rw [wr_i64 (x := (e : Int) - 1) (by omega) (by omega)]
    have h := HJ (4503599627370496 + m) (e - 1) w rfl (by omega) (by omega) (by rw [rung_norm (by omega) (by omega)]; omega)
    rw [show ((e - 1 : Nat) : Int) = (e : Int) - 1 by omega] at h
    exact h
  · have h0 : e = 0 := by omega
    subst h0
    refine HJ m 0 w rfl (by omega) (by omega) ?_
    rw [Nat.pow_zero, Nat.mul_one]
    by_cases hz : m = 0
    · subst hz; rfl
    · rw [rung_sub (by omega) hm2]; omega
end
end Go.Proofs.YthobnaagjhooeaaGreatDoor
