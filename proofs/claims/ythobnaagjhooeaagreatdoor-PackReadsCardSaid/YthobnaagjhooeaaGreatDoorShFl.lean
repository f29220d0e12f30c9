/- Floats of 64 bits as whole numbers of the least place: halved, doubled, held against others. Nothing of any one program stands here. -/
import Derived.Test.YthobnaagjhooeaaGreatDoorShOpen
import Derived.Laws.FloatArith
import Derived.Laws.Entries
namespace Go.Sh
abbrev dd : Ieee.Format := Ieee.double
theorem dd_binade : dd.binade = 4503599627370496 := by decide
theorem dd_least : dd.leastPlace = -1074 := by decide
theorem dd_inf : dd.infRung = 9218868437227405312 := by decide
theorem dd_sign : dd.signWeight = 9223372036854775808 := by decide
theorem dd_frac : dd.fractionBits = 52 := rfl
def wd (s : Bool) (r : Nat) : Nat := dd.word s r
theorem wd_eq (s : Bool) (r : Nat) : wd s r = if s then 9223372036854775808 + r else r := by unfold wd Ieee.Format.word; rw [dd_sign]
theorem wd_of (w : Nat) (h : w < 18446744073709551616) : ∃ s r, w = wd s r ∧ r < 9223372036854775808 := by
  by_cases hw : w < 9223372036854775808
  · exact ⟨false, w, by simp [wd_eq], hw⟩
  · exact ⟨true, w - 9223372036854775808, by simp [wd_eq]; omega, by omega⟩
theorem read_wd (s : Bool) (r : Nat) (h : r < 9223372036854775808) : dd.read (wd s r) = if r < 4503599627370496 then .number s r (-1074) else if r < 9218868437227405312 then .number s (4503599627370496 + r % 4503599627370496) (-1074 + (r / 4503599627370496 - 1 : Nat)) else if r = 9218868437227405312 then .infinity s else .nan s (r - 9218868437227405312) := by
  unfold Ieee.Format.read
  rw [dd_binade, dd_least, dd_inf, dd_sign, wd_eq]
  have h1 : (if s then 9223372036854775808 + r else r) % 9223372036854775808 = r := by cases s <;> simp <;> omega
  have h2 : ((if s then 9223372036854775808 + r else r) / 9223372036854775808 % 2 == 1) = s := by
    cases s
    · have : r / 9223372036854775808 = 0 := Nat.div_eq_of_lt h
      simp [this]
    · have : (9223372036854775808 + r) / 9223372036854775808 = 1 := by omega
      simp [this]
  simp only [h1, h2]
def rungOf (V : Nat) : Nat := (V.log2 - 52) * 4503599627370496 + V / 2 ^ (V.log2 - 52)
def Fit (V : Nat) : Prop := ∃ K j, V = K * 2 ^ j ∧ K < 9007199254740992 ∧ 0 < K
theorem pow52 : (2 : Nat) ^ 52 = 4503599627370496 := by decide
theorem pow53 : (2 : Nat) ^ 53 = 9007199254740992 := by decide
theorem log2_pow (K j : Nat) (h : 0 < K) : (K * 2 ^ j).log2 = K.log2 + j := by
  rw [Nat.log2_eq_iff (by have := Nat.pos_of_neZero (2 ^ j); exact Nat.ne_of_gt (Nat.mul_pos h this))]
  have h1 := Nat.log2_self_le (Nat.ne_of_gt h)
  have h2 : K < 2 ^ (K.log2 + 1) := Nat.lt_log2_self
  constructor
  · rw [Nat.pow_add]; exact Nat.mul_le_mul_right _ h1
  · rw [show K.log2 + j + 1 = (K.log2 + 1) + j by omega, Nat.pow_add]
    exact Nat.mul_lt_mul_of_pos_right h2 (Nat.pos_of_neZero _)
theorem log2_le52 {K : Nat} (h0 : 0 < K) (h : K < 9007199254740992) : K.log2 ≤ 52 := by
  have := (Nat.log2_lt (Nat.ne_of_gt h0)).2 (show K < 2 ^ 53 by rw [pow53]; exact h)
  omega
theorem Fit.split {V : Nat} (h : Fit V) : ∃ U, V = U * 2 ^ (V.log2 - 52) ∧ 0 < U ∧ U < 9007199254740992 ∧ (V.log2 - 52 = 0 ∨ 4503599627370496 ≤ U) := by
  obtain ⟨K, j, rfl, hK, h0⟩ := h
  have hl := log2_pow K j h0
  have hk := log2_le52 h0 hK
  have ht : (K * 2 ^ j).log2 - 52 ≤ j := by omega
  refine ⟨K * 2 ^ (j - ((K * 2 ^ j).log2 - 52)), ?_, Nat.mul_pos h0 (Nat.pos_of_neZero _), ?_, ?_⟩
  · rw [Nat.mul_assoc, ← Nat.pow_add, Nat.sub_add_cancel ht]
  · have : (K * 2 ^ (j - ((K * 2 ^ j).log2 - 52))).log2 ≤ 52 := by rw [log2_pow _ _ h0]; omega
    have h2 : K * 2 ^ (j - ((K * 2 ^ j).log2 - 52)) < 2 ^ ((K * 2 ^ (j - ((K * 2 ^ j).log2 - 52))).log2 + 1) := Nat.lt_log2_self
    have h3 : (2 : Nat) ^ ((K * 2 ^ (j - ((K * 2 ^ j).log2 - 52))).log2 + 1) ≤ 2 ^ 53 := Nat.pow_le_pow_right (by omega) (by omega)
    rw [pow53] at h3
    omega
  · by_cases hz : (K * 2 ^ j).log2 - 52 = 0
    · exact .inl hz
    · right
      have e : (K * 2 ^ (j - ((K * 2 ^ j).log2 - 52))).log2 = 52 := by rw [log2_pow _ _ h0]; omega
      have := Nat.log2_self_le (n := K * 2 ^ (j - ((K * 2 ^ j).log2 - 52))) (Nat.ne_of_gt (Nat.mul_pos h0 (Nat.pos_of_neZero _)))
      rw [e, pow52] at this
      exact this
theorem rungOf_eq {V U : Nat} (h : V = U * 2 ^ (V.log2 - 52)) : rungOf V = (V.log2 - 52) * 4503599627370496 + U := by
  have hd : V / 2 ^ (V.log2 - 52) = U := by
    conv => lhs; lhs; rw [h]
    exact Nat.mul_div_cancel _ (Nat.pos_of_neZero _)
  unfold rungOf
  rw [hd]
theorem read_V {V U : Nat} (s : Bool) (h : V = U * 2 ^ (V.log2 - 52)) (h0 : 0 < U) (h1 : U < 9007199254740992) (h2 : V.log2 - 52 = 0 ∨ 4503599627370496 ≤ U) (h3 : rungOf V < 9218868437227405312) : dd.read (wd s (rungOf V)) = .number s U (-1074 + (V.log2 - 52 : Nat)) := by
  rw [read_wd _ _ (by omega)]
  have hr := rungOf_eq h
  generalize hrv : rungOf V = r at *
  generalize V.log2 - 52 = t at *
  by_cases hb : r < 4503599627370496
  · rw [if_pos hb]
    have ht : t = 0 := by omega
    subst ht
    have : r = U := by omega
    rw [this]
    congr 1
  · rw [if_neg hb, if_pos h3]
    have hU : 4503599627370496 ≤ U := by omega
    have e1 : r % 4503599627370496 = U - 4503599627370496 := by omega
    have e2 : r / 4503599627370496 - 1 = t := by omega
    have e3 : 4503599627370496 + (U - 4503599627370496) = U := by omega
    rw [e1, e2, e3]
theorem cut_exact {s : Bool} {U d : Nat} (hU : 0 < U) : Ieee.Toward.even.cut s (U * 2 ^ d) d = U := by
  unfold Ieee.Toward.cut
  have hl := log2_pow U d hU
  have hm : min d ((U * 2 ^ d).log2 + 2) = d := by omega
  have hs : (1 : Nat) <<< d = 2 ^ d := by rw [Nat.shiftLeft_eq, Nat.one_mul]
  simp only [hm, hs, Nat.mul_div_cancel _ (Nat.pos_of_neZero (2 ^ d)), Nat.mul_mod_left]
  have h2 : 0 < 2 ^ d := Nat.pos_of_neZero _
  simp
theorem near_V {V M a b : Nat} {p : Int} (s : Bool) (hf : Fit V) (hM : 0 < M) (hv : M * 2 ^ a = V * 2 ^ b) (hp : p = -1074 + a - b) : dd.nearest s M p = wd s (min (rungOf V) 9218868437227405312) := by
  obtain ⟨U, hVU, h0, h1, h2⟩ := hf.split
  have hVpos : 0 < V := by
    rw [hVU]; exact Nat.mul_pos h0 (Nat.pos_of_neZero _)
  have hlog : M.log2 + a = V.log2 + b := by rw [← log2_pow M a hM, hv, log2_pow V b hVpos]
  unfold Ieee.Format.nearest
  rw [if_neg (by omega), dd_frac, dd_least, dd_binade, dd_inf]
  have hlast : max (p + (M.log2 : Int) - ((52 : Nat) : Int)) (-1074) = -1074 + ((V.log2 - 52 : Nat) : Int) := by omega
  simp only [hlast]
  have hr := rungOf_eq hVU
  have hkept : Ieee.Toward.even.cut s (M <<< (p - (-1074 + ((V.log2 - 52 : Nat) : Int))).toNat) ((-1074 + ((V.log2 - 52 : Nat) : Int)) - p).toNat = U := by
    generalize ht : V.log2 - 52 = t at *
    by_cases hc : b + t ≤ a
    · have e1 : (p - (-1074 + (t : Int))).toNat = a - (b + t) := by omega
      have e2 : ((-1074 + (t : Int)) - p).toNat = 0 := by omega
      rw [e1, e2, Nat.shiftLeft_eq]
      have : M * 2 ^ (a - (b + t)) = U := by
        have h : M * 2 ^ (a - (b + t)) * 2 ^ (b + t) = U * 2 ^ (b + t) := by
          rw [Nat.mul_assoc, ← Nat.pow_add, Nat.sub_add_cancel hc, hv, hVU, Nat.mul_assoc, ← Nat.pow_add, Nat.add_comm t b]
        exact Nat.eq_of_mul_eq_mul_right (Nat.pos_of_neZero _) h
      rw [this]
      have := cut_exact (s := s) (d := 0) h0
      rwa [Nat.pow_zero, Nat.mul_one] at this
    · have e1 : (p - (-1074 + (t : Int))).toNat = 0 := by omega
      have e2 : ((-1074 + (t : Int)) - p).toNat = b + t - a := by omega
      rw [e1, e2, Nat.shiftLeft_eq, Nat.pow_zero, Nat.mul_one]
      have : M = U * 2 ^ (b + t - a) := by
        have h : M * 2 ^ a = U * 2 ^ (b + t - a) * 2 ^ a := by
          rw [hv, hVU, Nat.mul_assoc, Nat.mul_assoc, ← Nat.pow_add, ← Nat.pow_add, show b + t - a + a = t + b by omega]
        exact Nat.eq_of_mul_eq_mul_right (Nat.pos_of_neZero _) h
      rw [this]
      exact cut_exact h0
  rw [hkept, hr]
  have e3 : (-1074 + ((V.log2 - 52 : Nat) : Int) - -1074).toNat = V.log2 - 52 := by omega
  rw [e3]
  rfl
def two : Nat := 4611686018427387904
theorem read_two : dd.read two = .number false 4503599627370496 (-51) := by
  have := read_wd false 4611686018427387904 (by omega)
  rw [wd_eq] at this
  simpa [two] using this
theorem Fit.dbl {V : Nat} (h : Fit V) : Fit (V * 2) := by
  obtain ⟨K, j, rfl, hK, h0⟩ := h
  exact ⟨K, j + 1, by rw [Nat.pow_succ, Nat.mul_assoc], hK, h0⟩
theorem Fit.half {V : Nat} (h : Fit V) (he : V % 2 = 0) : Fit (V / 2) := by
  obtain ⟨K, j, rfl, hK, h0⟩ := h
  cases j with
  | zero =>
    rw [Nat.pow_zero, Nat.mul_one] at he ⊢
    exact ⟨K / 2, 0, by rw [Nat.pow_zero, Nat.mul_one], by omega, by omega⟩
  | succ j => exact ⟨K, j, by rw [Nat.pow_succ, ← Nat.mul_assoc, Nat.mul_div_cancel _ (by omega)], hK, h0⟩
theorem Fit.pos {V : Nat} (h : Fit V) : 0 < V := by
  obtain ⟨K, j, rfl, hK, h0⟩ := h
  exact Nat.mul_pos h0 (Nat.pos_of_neZero _)
theorem rungOf_lt {V : Nat} (h : Fit V) (hl : V.log2 ≤ 2097) : rungOf V < 9218868437227405312 := by
  obtain ⟨U, hVU, h0, h1, h2⟩ := h.split
  rw [rungOf_eq hVU]
  omega
theorem read_Fit {V : Nat} (s : Bool) (h : Fit V) (h3 : rungOf V < 9218868437227405312) : ∃ U, V = U * 2 ^ (V.log2 - 52) ∧ 0 < U ∧ U < 9007199254740992 ∧ dd.read (wd s (rungOf V)) = .number s U (-1074 + (V.log2 - 52 : Nat)) := by
  obtain ⟨U, hVU, h0, h1, h2⟩ := h.split
  exact ⟨U, hVU, h0, h1, read_V s hVU h0 h1 h2 h3⟩
theorem mul_two {V : Nat} (s : Bool) (h : Fit V) (h3 : rungOf V < 9218868437227405312) : dd.mul (wd s (rungOf V)) two = some (wd s (min (rungOf (V * 2)) 9218868437227405312)) := by
  obtain ⟨U, hVU, h0, h1, hr⟩ := read_Fit s h h3
  unfold Ieee.Format.mul
  rw [hr, read_two]
  simp only [Ieee.Datum.product, Option.map_some, Bool.xor_false, Ieee.Format.write]
  congr 1
  refine near_V (a := V.log2 - 52) (b := 51) s h.dbl (Nat.mul_pos h0 (by omega)) ?_ (by omega)
  have e : V * 2 * 2 ^ 51 = V * 2 ^ 52 := by rw [Nat.mul_assoc]
  rw [e, pow52]
  conv => rhs; lhs; rw [hVU]
  rw [Nat.mul_assoc, Nat.mul_comm 4503599627370496, ← Nat.mul_assoc]
theorem div_two {V : Nat} (s : Bool) (h : Fit V) (h3 : rungOf V < 9218868437227405312) (he : V % 2 = 0) : dd.div (wd s (rungOf V)) two = some (wd s (min (rungOf (V / 2)) 9218868437227405312)) := by
  obtain ⟨U, hVU, h0, h1, hr⟩ := read_Fit s h h3
  unfold Ieee.Format.div
  rw [hr, read_two]
  have hlog : Nat.log2 4503599627370496 = 52 := by rw [← pow52]; have := log2_pow 1 52 (by omega); rwa [Nat.one_mul] at this
  have hu := log2_le52 h0 h1
  obtain ⟨k, hk⟩ : ∃ k, 52 + 2 + 52 - U.log2 = 52 + k ∧ 2 ≤ k := ⟨54 - U.log2, by omega, by omega⟩
  have hdiv : U <<< (52 + k) / 4503599627370496 = U * 2 ^ k := by
    rw [Nat.shiftLeft_eq, Nat.pow_add, pow52, Nat.mul_comm 4503599627370496, ← Nat.mul_assoc]
    exact Nat.mul_div_cancel _ (by omega)
  have hmod : U <<< (52 + k) % 4503599627370496 = 0 := by
    rw [Nat.shiftLeft_eq, Nat.pow_add, pow52, Nat.mul_comm 4503599627370496, ← Nat.mul_assoc]
    exact Nat.mul_mod_left _ _
  simp only [Ieee.Datum.quotient, Bool.xor_false, dd_frac, hlog, hk.1, hdiv, hmod]
  simp only [show ¬ (4503599627370496 = 0) by omega, if_false, Option.map_some, Ieee.Format.write]
  congr 1
  refine near_V (a := V.log2 - 52) (b := k + 2) s (h.half he) ?_ ?_ ?_
  · have := Nat.mul_pos h0 (Nat.pos_of_neZero (2 ^ k)); simp; omega
  · have e : (2 * (U * 2 ^ k) + ((0 : Nat) != 0).toNat) = 2 * (U * 2 ^ k) := by simp
    rw [e]
    have e2 : V / 2 * 2 ^ (k + 2) = V * 2 ^ (k + 1) := by
      have : V = V / 2 * 2 := by omega
      conv => rhs; rw [this]
      rw [show k + 2 = (k + 1) + 1 by omega, Nat.pow_succ 2 (k + 1), Nat.mul_assoc, Nat.mul_comm 2 (2 ^ (k + 1))]
    rw [e2]
    conv => rhs; lhs; rw [hVU]
    rw [Nat.pow_succ 2 k]
    simp only [Nat.mul_assoc, Nat.mul_left_comm, Nat.mul_comm]
  · omega
theorem compare_scale (a b c : Nat) (hc : 0 < c) : compare (a * c) (b * c) = compare a b := by
  rcases Nat.lt_trichotomy a b with h | h | h
  · rw [Nat.compare_eq_lt.2 h, Nat.compare_eq_lt.2 (Nat.mul_lt_mul_of_pos_right h hc)]
  · subst h; rw [Nat.compare_eq_eq.2 rfl, Nat.compare_eq_eq.2 rfl]
  · rw [Nat.compare_eq_gt.2 h, Nat.compare_eq_gt.2 (Nat.mul_lt_mul_of_pos_right h hc)]
theorem compare_int (a b : Nat) : compare (a : Int) (b : Int) = compare a b := by
  rcases Nat.lt_trichotomy a b with h | h | h
  · rw [Nat.compare_eq_lt.2 h]; exact Int.compare_eq_lt.2 (by omega)
  · subst h; rw [Nat.compare_eq_eq.2 rfl]; exact Int.compare_eq_eq.2 rfl
  · rw [Nat.compare_eq_gt.2 h]; exact Int.compare_eq_gt.2 (by omega)
theorem order_num (m n : Nat) (i j : Nat) : (Ieee.Datum.number false m (-1074 + (i : Int))).order (.number false n (-1074 + (j : Int))) = some (compare (m * 2 ^ i) (n * 2 ^ j)) := by
  simp only [Ieee.Datum.order, Ieee.signed, Nat.shiftLeft_eq]
  congr 1
  have e1 : (-1074 + (i : Int) - min (-1074 + (i : Int)) (-1074 + (j : Int))).toNat = i - min i j := by omega
  have e2 : (-1074 + (j : Int) - min (-1074 + (i : Int)) (-1074 + (j : Int))).toNat = j - min i j := by omega
  simp only [e1, e2, Bool.false_eq_true, if_false]
  rw [compare_int, ← compare_scale _ _ (2 ^ min i j) (Nat.pos_of_neZero _), Nat.mul_assoc, Nat.mul_assoc, ← Nat.pow_add, ← Nat.pow_add, Nat.sub_add_cancel (Nat.min_le_left _ _), Nat.sub_add_cancel (Nat.min_le_right _ _)]
theorem rung_V (r : Nat) (h0 : 0 < r) (h1 : r < 9218868437227405312) : ∃ V, Fit V ∧ r = rungOf V ∧ V.log2 ≤ 2097 := by
  by_cases hb : r < 9007199254740992
  · have hl := log2_le52 h0 hb
    refine ⟨r, ⟨r, 0, by rw [Nat.pow_zero, Nat.mul_one], hb, h0⟩, ?_, by omega⟩
    unfold rungOf
    rw [show r.log2 - 52 = 0 by omega]
    simp
  · have hU : 4503599627370496 + r % 4503599627370496 < 9007199254740992 := by omega
    have hl := log2_pow (4503599627370496 + r % 4503599627370496) (r / 4503599627370496 - 1) (by omega)
    have hl2 : (4503599627370496 + r % 4503599627370496).log2 = 52 := by
      have h2 := log2_le52 (K := 4503599627370496 + r % 4503599627370496) (by omega) hU
      have h3 : ¬ (4503599627370496 + r % 4503599627370496).log2 < 52 := fun h => by
        have := (Nat.log2_lt (by omega)).1 h
        rw [pow52] at this; omega
      omega
    have hf : Fit ((4503599627370496 + r % 4503599627370496) * 2 ^ (r / 4503599627370496 - 1)) := ⟨_, _, rfl, hU, by omega⟩
    refine ⟨_, hf, ?_, by rw [hl, hl2]; omega⟩
    have e : ((4503599627370496 + r % 4503599627370496) * 2 ^ (r / 4503599627370496 - 1)).log2 - 52 = r / 4503599627370496 - 1 := by rw [hl, hl2]; omega
    rw [rungOf_eq (U := 4503599627370496 + r % 4503599627370496) (by rw [e]), e]
    omega
def one : Nat := 4607182418800017408
def p52 : Nat := 4841369599423283200
theorem read_one : dd.read one = .number false 4503599627370496 (-1074 + ((1022 : Nat) : Int)) := by
  have := read_wd false 4607182418800017408 (by omega)
  rw [wd_eq] at this
  simpa [one] using this
theorem read_p52 : dd.read p52 = .number false 4503599627370496 0 := by
  have := read_wd false 4841369599423283200 (by omega)
  rw [wd_eq] at this
  simpa [p52] using this
theorem read_zero (s : Bool) : dd.read (wd s 0) = .number s 0 (-1074) := read_wd s 0 (by omega)
theorem read_infw (s : Bool) : dd.read (wd s 9218868437227405312) = .infinity s := by rw [read_wd s _ (by omega)]; simp
theorem compare_self (a : Int) : compare a a = .eq := Int.compare_eq_eq.2 rfl
theorem order_self_num (x : Nat) (s : Bool) (m : Nat) (i : Int) (h : dd.read x = .number s m i) : dd.order x x = some .eq := by
  unfold Ieee.Format.order
  rw [h]
  simp only [Ieee.Datum.order]
  rw [compare_self]
section
variable {P : Program}
theorem run_fl_eql (t : TypeId) (cx cy : Bool) (a b : Nat) (w : World) : (eqOp .eql t cx cy (.float .f64 a) (.float .f64 b)).run P w = .ok (.bool (dd.order a b == some .eq)) w := by
  simp only [eqOp, eqGuard_at_float, binOp_float_cmp_eql]; rfl
theorem run_fl_neq (t : TypeId) (cx cy : Bool) (a b : Nat) (w : World) : (eqOp .neq t cx cy (.float .f64 a) (.float .f64 b)).run P w = .ok (.bool (dd.order a b != some .eq)) w := by
  simp only [eqOp, eqGuard_at_float, binOp_float_cmp_neq]; rfl
theorem run_fl_mul (t : TypeId) (a b r : Nat) (h : dd.mul a b = some r) (w : World) : (binOp .mul t (.float .f64 a) (.float .f64 b)).run P w = .ok (.float .f64 r) w := run_float_arith w .mul t .f64 a b r h
theorem run_fl_div (t : TypeId) (a b r : Nat) (h : dd.div a b = some r) (w : World) : (binOp .quo t (.float .f64 a) (.float .f64 b)).run P w = .ok (.float .f64 r) w := run_float_arith w .quo t .f64 a b r h
theorem neg_wd (r : Nat) (h : r < 9223372036854775808) : Op.negFloat .f64 (wd true r) = wd false r := by
  have e : (2 : Nat) ^ (FloatKind.f64.format.exponentBits + FloatKind.f64.format.fractionBits) = 2 ^ 63 := rfl
  unfold Op.negFloat
  rw [e, wd_eq, wd_eq]
  simp only [if_true, Bool.false_eq_true, if_false]
  have h1 : (9223372036854775808 + r : Nat) = 2 ^ 63 ^^^ r := by
    have := Nat.two_pow_add_eq_or_of_lt (i := 63) (b := r) (by omega) 1
    rw [Nat.mul_one] at this
    have h2 : (2 ^ 63 ||| r : Nat) = 2 ^ 63 ^^^ r := by
      apply Nat.eq_of_testBit_eq
      intro j
      rw [Nat.testBit_or, Nat.testBit_xor]
      by_cases hj : j = 63
      · subst hj
        have : r.testBit 63 = false := Nat.testBit_lt_two_pow h
        rw [this]
        cases (2 ^ 63 : Nat).testBit 63 <;> rfl
      · have : (2 ^ 63 : Nat).testBit j = false := by
          rw [Nat.testBit_two_pow]; simp [Ne.symm hj]
        rw [this, Bool.false_or]
        cases r.testBit j <;> rfl
    rw [← h2, ← this]
  rw [h1, Nat.xor_comm (2 ^ 63), Nat.xor_assoc, Nat.xor_self, Nat.xor_zero]
end
end Go.Sh
