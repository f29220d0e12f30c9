/- Floats made of their words: halved and doubled exactly. -/
import Derived.Test.YthobnaagjhooeaaGreatDoorShFl
set_option linter.unusedVariables false
set_option linter.unusedSimpArgs false
namespace Go.Sh
theorem Fit.of {K j : Nat} (h : K < 9007199254740992) (h0 : 0 < K) : Fit (K * 2 ^ j) := ⟨K, j, rfl, h, h0⟩
theorem div_p52 {V : Nat} (h : Fit V) (h3 : rungOf V < 9218868437227405312) (hf : Fit (V / 4503599627370496)) (he : V % 4503599627370496 = 0) : dd.div (wd false (rungOf V)) p52 = some (wd false (min (rungOf (V / 4503599627370496)) 9218868437227405312)) := by
  obtain ⟨U, hVU, h0, h1, hr⟩ := read_Fit false h h3
  unfold Ieee.Format.div
  rw [hr, read_p52]
  have hlog : Nat.log2 4503599627370496 = 52 := by rw [← pow52]; have := log2_pow 1 52 (by omega); rwa [Nat.one_mul] at this
  have hu := log2_le52 h0 h1
  obtain ⟨k, hk⟩ : ∃ k, 52 + 2 + 52 - U.log2 = 52 + k ∧ 2 ≤ k := ⟨54 - U.log2, by omega, by omega⟩
  have hdiv : U <<< (52 + k) / 4503599627370496 = U * 2 ^ k := by
    rw [Nat.shiftLeft_eq, Nat.pow_add, pow52, Nat.mul_comm 4503599627370496, ← Nat.mul_assoc]
    exact Nat.mul_div_cancel _ (by omega)
  have hmod : U <<< (52 + k) % 4503599627370496 = 0 := by
    rw [Nat.shiftLeft_eq, Nat.pow_add, pow52, Nat.mul_comm 4503599627370496, ← Nat.mul_assoc]
    exact Nat.mul_mod_left _ _
  simp only [Ieee.Datum.quotient, Bool.xor_false, dd_frac, hlog, hk.1, hdiv, hmod]
  simp only [show ¬ (4503599627370496 = 0) by omega, if_false, Option.map_some, Ieee.Format.write]
  congr 1
  refine near_V (a := V.log2 - 52) (b := 53 + k) false hf ?_ ?_ ?_
  · have := Nat.mul_pos h0 (Nat.pos_of_neZero (2 ^ k)); simp; omega
  · have e : (2 * (U * 2 ^ k) + ((0 : Nat) != 0).toNat) = 2 * (U * 2 ^ k) := by simp
    rw [e]
    have e2 : V / 4503599627370496 * 2 ^ (53 + k) = V * 2 ^ (k + 1) := by
      have hV : V = V / 4503599627370496 * 4503599627370496 := by omega
      conv => rhs; rw [hV]
      rw [show 53 + k = 52 + (k + 1) by omega, Nat.pow_add, pow52, Nat.mul_assoc]
    rw [e2]
    conv => rhs; lhs; rw [hVU]
    rw [Nat.pow_succ 2 k]
    simp only [Nat.mul_assoc, Nat.mul_left_comm, Nat.mul_comm]
  · omega
theorem add_one {V d : Nat} (hd : d = 1022) (h : Fit V) (h3 : rungOf V < 9218868437227405312) (hf : Fit (V + 4503599627370496 * 2 ^ d)) : dd.add (wd false (rungOf V)) one = some (wd false (min (rungOf (V + 4503599627370496 * 2 ^ d)) 9218868437227405312)) := by
  have read_one : dd.read one = .number false 4503599627370496 (-1074 + (d : Int)) := by rw [hd]; exact read_one
  obtain ⟨U, hVU, h0, h1, hr⟩ := read_Fit false h h3
  generalize hx : V.log2 - 52 = x at *
  unfold Ieee.Format.add
  rw [hr, read_one]
  simp only [Ieee.Datum.sum, Ieee.signed, Nat.shiftLeft_eq, Option.map_some, Ieee.Format.write, Bool.false_eq_true, if_false, Bool.and_self]
  congr 1
  have e3 : (-1074 + (x : Int) - min (-1074 + (x : Int)) (-1074 + (d : Int))).toNat = x - min x d := by omega
  have e4 : (-1074 + (d : Int) - min (-1074 + (x : Int)) (-1074 + (d : Int))).toNat = d - min x d := by omega
  rw [e3, e4]
  generalize hA : U * 2 ^ (x - min x d) = A
  generalize hB : 4503599627370496 * 2 ^ (d - min x d) = B
  have hA0 : 0 < A := by rw [← hA]; exact Nat.mul_pos h0 (Nat.pos_of_neZero _)
  have e5 : ((A : Int) + (B : Int)).natAbs = A + B := by omega
  have e6 : (if (A : Int) + (B : Int) = 0 then false else decide ((A : Int) + (B : Int) < 0)) = false := by
    split
    · rfl
    · exact decide_eq_false (by omega)
  rw [e5, e6]
  refine near_V (a := min x d) (b := 0) false hf (by omega) ?_ (by omega)
  rw [Nat.pow_zero, Nat.mul_one, Nat.add_mul, ← hA, ← hB, Nat.mul_assoc, Nat.mul_assoc, ← Nat.pow_add, ← Nat.pow_add, Nat.sub_add_cancel (Nat.min_le_left _ _), Nat.sub_add_cancel (Nat.min_le_right _ _), ← hVU]
theorem fl_ops0 : dd.div (wd false 0) p52 = some (wd false 0) ∧ dd.div (wd false 0) two = some (wd false 0) ∧ dd.mul (wd false 0) two = some (wd false 0) ∧ dd.add (wd false 0) one = some one := by
  refine ⟨?_, ?_, ?_, ?_⟩ <;> decide +kernel
theorem rung0 (y : Nat) : rungOf (0 * 2 ^ y) = 0 := by rw [Nat.zero_mul]; rfl
theorem flOf_nat {m c : Nat} (hc : c = 1074) (h0 : 0 < m) (h : m < 9007199254740992) : dd.nearest false m 0 = wd false (min (rungOf (m * 2 ^ c)) 9218868437227405312) :=
  near_V (a := c) (b := 0) false (Fit.of h h0) h0 (by rw [Nat.pow_zero, Nat.mul_one]) (by omega)
theorem rung_norm {K y : Nat} (h1 : 4503599627370496 ≤ K) (h2 : K < 9007199254740992) : rungOf (K * 2 ^ y) = (y + 1) * 4503599627370496 + (K - 4503599627370496) := by
  have hl : (K * 2 ^ y).log2 = 52 + y := by
    rw [log2_pow K y (by omega)]
    have := log2_le52 (K := K) (by omega) h2
    have h3 : ¬ K.log2 < 52 := fun h => by
      have := (Nat.log2_lt (by omega)).1 h
      rw [pow52] at this; omega
    omega
  unfold rungOf
  rw [hl, show 52 + y - 52 = y by omega, Nat.mul_div_cancel _ (Nat.pos_of_neZero _)]
  omega
theorem rung_sub {m : Nat} (h0 : 0 < m) (h : m < 4503599627370496) : rungOf m = m := by
  have hl := log2_le52 h0 (by omega : m < 9007199254740992)
  unfold rungOf
  rw [show m.log2 - 52 = 0 by omega]
  simp
theorem Fit.fin {K y : Nat} (h0 : 0 < K) (h : K < 9007199254740992) (hy : y ≤ 2045) : rungOf (K * 2 ^ y) < 9218868437227405312 := by
  refine rungOf_lt (Fit.of h h0) ?_
  rw [log2_pow K y h0]
  have := log2_le52 h0 h
  omega
theorem half_K {K y : Nat} (hK : K < 9007199254740992) (hy : y + 1 ≤ 2045) : dd.div (wd false (rungOf (K * 2 ^ (y + 1)))) two = some (wd false (rungOf (K * 2 ^ y))) := by
  by_cases h0 : K = 0
  · subst h0
    rw [rung0, rung0]
    exact fl_ops0.2.1
  · have e : K * 2 ^ (y + 1) = K * 2 ^ y * 2 := by rw [Nat.pow_succ, Nat.mul_assoc]
    have h := div_two (V := K * 2 ^ (y + 1)) false (Fit.of hK (by omega)) (Fit.fin (by omega) hK hy) (by rw [e]; omega)
    have e2 : K * 2 ^ (y + 1) / 2 = K * 2 ^ y := by rw [e]; omega
    rw [e2] at h
    rw [h, Nat.min_eq_left (Nat.le_of_lt (Fit.fin (by omega) hK (by omega)))]
theorem dbl_K {K y : Nat} (hK : K < 9007199254740992) (hy : y + 1 ≤ 2045) : dd.mul (wd false (rungOf (K * 2 ^ y))) two = some (wd false (rungOf (K * 2 ^ (y + 1)))) := by
  by_cases h0 : K = 0
  · subst h0
    rw [rung0, rung0]
    exact fl_ops0.2.2.1
  · have e : K * 2 ^ (y + 1) = K * 2 ^ y * 2 := by rw [Nat.pow_succ, Nat.mul_assoc]
    have h := mul_two (V := K * 2 ^ y) false (Fit.of hK (by omega)) (Fit.fin (by omega) hK (by omega))
    rw [← e] at h
    rw [h, Nat.min_eq_left (Nat.le_of_lt (Fit.fin (by omega) hK hy))]
theorem over_K {m d : Nat} (hd : d = 1022) (hm : m < 4503599627370496) : dd.div (dd.nearest false m 0) p52 = some (wd false (rungOf (m * 2 ^ d))) := by
  by_cases h0 : m = 0
  · subst h0
    rw [rung0]
    have : dd.nearest false 0 0 = wd false 0 := by decide +kernel
    rw [this]
    exact fl_ops0.1
  · have hc : d + 52 = 1074 := by omega
    rw [flOf_nat hc (by omega) (by omega), Nat.min_eq_left (Nat.le_of_lt (Fit.fin (by omega) (by omega) (by omega)))]
    have e : m * 2 ^ (d + 52) = m * 2 ^ d * 4503599627370496 := by rw [Nat.pow_add, pow52, Nat.mul_assoc]
    have e2 : m * 2 ^ (d + 52) / 4503599627370496 = m * 2 ^ d := by rw [e]; exact Nat.mul_div_cancel _ (by omega)
    have h := div_p52 (V := m * 2 ^ (d + 52)) (Fit.of (by omega) (by omega)) (Fit.fin (by omega) (by omega) (by omega)) (by rw [e2]; exact Fit.of (by omega) (by omega)) (by rw [e]; exact Nat.mul_mod_left _ _)
    rw [e2] at h
    rw [h, Nat.min_eq_left (Nat.le_of_lt (Fit.fin (by omega) (by omega) (by omega)))]
theorem plus_K {m d : Nat} (hd : d = 1022) (hm : m < 4503599627370496) : dd.add (wd false (rungOf (m * 2 ^ d))) one = some (wd false (rungOf ((4503599627370496 + m) * 2 ^ d))) := by
  have e : (4503599627370496 + m) * 2 ^ d = m * 2 ^ d + 4503599627370496 * 2 ^ d := by rw [Nat.add_mul, Nat.add_comm]
  by_cases h0 : m = 0
  · subst h0
    rw [rung0, fl_ops0.2.2.2, Nat.add_zero, rung_norm (by omega) (by omega), hd, wd_eq]
    rfl
  · have hf : Fit ((4503599627370496 + m) * 2 ^ d) := Fit.of (by omega) (by omega)
    have h := add_one (V := m * 2 ^ d) hd (Fit.of (by omega) (by omega)) (Fit.fin (by omega) (by omega) (by omega)) (by rw [← e]; exact hf)
    rw [← e] at h
    rw [h, Nat.min_eq_left (Nat.le_of_lt (Fit.fin (by omega) (by omega) (by omega)))]
end Go.Sh
