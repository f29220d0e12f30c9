/- Floats: rounding keeps the order. -/
import Derived.Test.YtoeamecdkimgaaaDoorShFl
import Derived.Test.YtoeamecdkimgaaaDoorH4
set_option linter.unusedVariables false
set_option linter.unusedSimpArgs false
namespace Go.Sh
abbrev cutE (n d : Nat) : Nat := Ieee.Toward.even.cut false n d
theorem cutE_spec (n d : Nat) : 2 * n ≤ (2 * cutE n d + 1) * 2 ^ d ∧ 2 * cutE n d * 2 ^ d ≤ 2 * n + 2 ^ d ∧ (2 * n = (2 * cutE n d + 1) * 2 ^ d → cutE n d % 2 = 0) ∧ (2 * cutE n d * 2 ^ d = 2 * n + 2 ^ d → cutE n d % 2 = 0) := by
  by_cases hd : d ≤ n.log2 + 2
  · have hg : (1 : Nat) <<< min d (n.log2 + 2) = 2 ^ d := by rw [Nat.min_eq_left hd, Nat.shiftLeft_eq, Nat.one_mul]
    have hk : cutE n d = n / 2 ^ d + (decide (2 ^ d < 2 * (n % 2 ^ d)) || (2 ^ d == 2 * (n % 2 ^ d) && n / 2 ^ d % 2 == 1)).toNat := by
      unfold cutE Ieee.Toward.cut
      simp only [hg]
    have hpos : 0 < 2 ^ d := Nat.pos_of_neZero _
    have hdm := Nat.div_add_mod n (2 ^ d)
    have hlt := Nat.mod_lt n hpos
    generalize 2 ^ d = g at *
    generalize hq : n / g = q at *
    generalize hr : n % g = r at *
    have hX : g * q = q * g := Nat.mul_comm _ _
    generalize hXX : q * g = X at *
    rw [hX] at hdm
    have e1 : (2 * q + 1) * g = 2 * X + g := by rw [Nat.add_mul, Nat.mul_assoc, hXX, Nat.one_mul]
    have e2 : 2 * q * g = 2 * X := by rw [Nat.mul_assoc, hXX]
    have e3 : (2 * (q + 1) + 1) * g = 2 * X + 3 * g := by rw [show 2 * (q + 1) + 1 = 2 * q + 3 by omega, Nat.add_mul, Nat.mul_assoc, hXX]
    have e4 : 2 * (q + 1) * g = 2 * X + 2 * g := by rw [show 2 * (q + 1) = 2 * q + 2 by omega, Nat.add_mul, Nat.mul_assoc, hXX]
    by_cases h1 : g < 2 * r
    · rw [decide_eq_true h1, Bool.true_or] at hk
      have hk : cutE n d = q + 1 := hk
      rw [hk, e3, e4]
      refine ⟨by omega, by omega, fun h => by omega, fun h => by omega⟩
    · rw [decide_eq_false h1, Bool.false_or] at hk
      by_cases h2 : g = 2 * r
      · by_cases h3 : q % 2 = 1
        · rw [show (g == 2 * r) = true by simp [h2], show (q % 2 == 1) = true by simp [h3]] at hk
          have hk : cutE n d = q + 1 := hk
          rw [hk, e3, e4]
          refine ⟨by omega, by omega, fun h => by omega, fun h => by omega⟩
        · rw [show (q % 2 == 1) = false by simp [h3], Bool.and_false] at hk
          have hk : cutE n d = q := hk
          rw [hk, e1, e2]
          refine ⟨by omega, by omega, fun h => by omega, fun h => by omega⟩
      · rw [show (g == 2 * r) = false by simp [h2], Bool.false_and] at hk
        have hk : cutE n d = q := hk
        rw [hk, e1, e2]
        refine ⟨by omega, by omega, fun h => by omega, fun h => by omega⟩
  · have hn : n < 2 ^ (n.log2 + 1) := Nat.lt_log2_self
    have hg : (1 : Nat) <<< min d (n.log2 + 2) = 2 ^ (n.log2 + 2) := by rw [Nat.min_eq_right (by omega), Nat.shiftLeft_eq, Nat.one_mul]
    have hp : (2 : Nat) ^ (n.log2 + 2) = 2 * 2 ^ (n.log2 + 1) := by rw [Nat.pow_succ, Nat.mul_comm]
    have hle : (2 : Nat) ^ (n.log2 + 2) ≤ 2 ^ d := Nat.pow_le_pow_right (by omega) (by omega)
    have hk : cutE n d = 0 := by
      unfold cutE Ieee.Toward.cut
      simp only [hg]
      rw [Nat.div_eq_of_lt (by omega), Nat.mod_eq_of_lt (by omega), decide_eq_false (by omega), show (2 ^ (n.log2 + 2) == 2 * n) = false by rw [beq_eq_false_iff_ne]; omega]
      rfl
    rw [hk]
    refine ⟨by omega, by omega, fun _ => rfl, fun h => by omega⟩
theorem cutE_mono {n1 d1 n2 d2 : Nat} (h : n1 * 2 ^ d2 ≤ n2 * 2 ^ d1) : cutE n1 d1 ≤ cutE n2 d2 := by
  obtain ⟨_, b1, _, b4⟩ := cutE_spec n1 d1
  obtain ⟨a1, _, a3, _⟩ := cutE_spec n2 d2
  generalize cutE n1 d1 = k1 at *
  generalize cutE n2 d2 = k2 at *
  have p1 : 0 < 2 ^ d1 := Nat.pos_of_neZero _
  have p2 : 0 < 2 ^ d2 := Nat.pos_of_neZero _
  generalize 2 ^ d1 = g1 at *
  generalize 2 ^ d2 = g2 at *
  rcases Nat.lt_or_ge k2 k1 with hlt | hge
  · exfalso
    -- 2 k1 g1 g2 ≤ 2 n1 g2 + g1 g2 ≤ 2 n2 g1 + g1 g2 ≤ (2 k2 + 2) g1 g2
    have c1 : 2 * k1 * g1 * g2 ≤ (2 * n1 + g1) * g2 := Nat.mul_le_mul_right _ b1
    have c2 : 2 * n2 * g1 ≤ (2 * k2 + 1) * g2 * g1 := Nat.mul_le_mul_right _ a1
    have G0 : 0 < g1 * g2 := Nat.mul_pos p1 p2
    have e1 : 2 * k1 * g1 * g2 = (2 * k1) * (g1 * g2) := by rw [Nat.mul_assoc]
    have e2 : (2 * n1 + g1) * g2 = 2 * (n1 * g2) + g1 * g2 := by rw [Nat.add_mul, Nat.mul_assoc]
    have e3 : 2 * n2 * g1 = 2 * (n2 * g1) := by rw [Nat.mul_assoc]
    have e4 : (2 * k2 + 1) * g2 * g1 = (2 * k2 + 1) * (g1 * g2) := by rw [Nat.mul_assoc, Nat.mul_comm g2 g1]
    rw [e1, e2] at c1
    rw [e3, e4] at c2
    have c3 : (2 * k1) * (g1 * g2) ≤ (2 * k2 + 2) * (g1 * g2) := by
      have : (2 * k2 + 2) * (g1 * g2) = (2 * k2 + 1) * (g1 * g2) + g1 * g2 := by rw [show 2 * k2 + 2 = (2 * k2 + 1) + 1 by omega, Nat.add_mul (2 * k2 + 1), Nat.one_mul]
      omega
    have c4 := Nat.le_of_mul_le_mul_right c3 G0
    have hk : k1 = k2 + 1 := by omega
    subst hk
    have f1 : (2 * (k2 + 1)) * (g1 * g2) = (2 * k2 + 1) * (g1 * g2) + g1 * g2 := by rw [show 2 * (k2 + 1) = (2 * k2 + 1) + 1 by omega, Nat.add_mul (2 * k2 + 1), Nat.one_mul]
    have q1 : 2 * (k2 + 1) * g1 = 2 * n1 + g1 := by
      have : 2 * (k2 + 1) * g1 * g2 = (2 * n1 + g1) * g2 := by rw [e1, e2]; omega
      exact Nat.eq_of_mul_eq_mul_right p2 this
    have q2 : 2 * n2 = (2 * k2 + 1) * g2 := by
      have : 2 * n2 * g1 = (2 * k2 + 1) * g2 * g1 := by rw [e3, e4]; omega
      exact Nat.eq_of_mul_eq_mul_right p1 this
    have := b4 q1
    have := a3 q2
    omega
  · exact hge
theorem cutE_scale (n d k : Nat) : cutE (n * 2 ^ k) (d + k) = cutE n d := by
  refine Nat.le_antisymm (cutE_mono ?_) (cutE_mono ?_)
  · rw [Nat.pow_add, Nat.mul_assoc, Nat.mul_comm (2 ^ k)]; exact Nat.le_refl _
  · rw [Nat.pow_add, Nat.mul_assoc, Nat.mul_comm (2 ^ k)]; exact Nat.le_refl _
theorem cutE_whole (k d : Nat) : cutE (k * 2 ^ d) d = k := by
  have h := cutE_scale k 0 d
  rw [Nat.zero_add] at h
  rw [h]
  obtain ⟨a, b, _, _⟩ := cutE_spec k 0
  rw [Nat.pow_zero, Nat.mul_one] at a b
  omega
theorem cut_sign (s : Bool) (n d : Nat) : Ieee.Toward.even.cut s n d = cutE n d := rfl
/-- The rung of N / 2^c times the least place. -/
def rg (c N : Nat) : Nat := (N.log2 - c - 52) * 4503599627370496 + cutE N (c + (N.log2 - c - 52))
theorem rg_mono {c N1 N2 : Nat} (h : N1 ≤ N2) : rg c N1 ≤ rg c N2 := by
  unfold rg
  have hl : N1.log2 ≤ N2.log2 := by
    by_cases h0 : N1 = 0
    · subst h0; simp
    · exact (Nat.le_log2 (by omega)).2 (Nat.le_trans (Nat.log2_self_le h0) h)
  generalize ht1 : N1.log2 - c - 52 = t1 at *
  generalize ht2 : N2.log2 - c - 52 = t2 at *
  rcases Nat.eq_or_lt_of_le (show t1 ≤ t2 by omega) with rfl | hlt
  · have := cutE_mono (n1 := N1) (d1 := c + t1) (n2 := N2) (d2 := c + t1) (Nat.mul_le_mul_right _ h)
    omega
  · have h1 : cutE N1 (c + t1) ≤ 9007199254740992 := by
      have hn : N1 < 2 ^ (N1.log2 + 1) := Nat.lt_log2_self
      have hle : (2 : Nat) ^ (N1.log2 + 1) ≤ 2 ^ (53 + (c + t1)) := Nat.pow_le_pow_right (by omega) (by omega)
      rw [Nat.pow_add 2 53, pow53] at hle
      have := cutE_mono (n1 := N1) (d1 := c + t1) (n2 := 9007199254740992 * 2 ^ (c + t1)) (d2 := c + t1) (Nat.mul_le_mul_right _ (by omega))
      rwa [cutE_whole] at this
    have h2 : 4503599627370496 ≤ cutE N2 (c + t2) := by
      have h0 : N2 ≠ 0 := fun e => by subst e; simp at ht2; omega
      have hge := Nat.log2_self_le h0
      have hle : (2 : Nat) ^ (52 + (c + t2)) ≤ 2 ^ N2.log2 := Nat.pow_le_pow_right (by omega) (by omega)
      rw [Nat.pow_add, pow52] at hle
      have := cutE_mono (n1 := 4503599627370496 * 2 ^ (c + t2)) (d1 := c + t2) (n2 := N2) (d2 := c + t2) (Nat.mul_le_mul_right _ (by omega))
      rwa [cutE_whole] at this
    omega
theorem rg_scale (c N k : Nat) : rg (c + k) (N * 2 ^ k) = rg c N := by
  by_cases h0 : N = 0
  · subst h0
    rw [Nat.zero_mul]
    unfold rg
    have z : ∀ d, cutE 0 d = 0 := fun d => by have := cutE_whole 0 d; rwa [Nat.zero_mul] at this
    rw [z, z]
    simp
  · unfold rg
    rw [log2_pow N k (by omega), show N.log2 + k - (c + k) - 52 = N.log2 - c - 52 by omega, show c + k + (N.log2 - c - 52) = (c + (N.log2 - c - 52)) + k by omega, cutE_scale]
theorem near_rg {N M a c : Nat} {p : Int} (s : Bool) (hN : N = M * 2 ^ a) (hp : p = -1074 + a - c) : dd.nearest s M p = wd s (min (rg c N) 9218868437227405312) := by
  by_cases hM : M = 0
  · subst hM
    rw [Nat.zero_mul] at hN
    subst hN
    have z : rg c 0 = 0 := by
      unfold rg
      have := cutE_whole 0 (c + (Nat.log2 0 - c - 52))
      rw [Nat.zero_mul] at this
      rw [this]; simp
    rw [z]
    unfold Ieee.Format.nearest
    rw [if_pos rfl]
    rfl
  · unfold Ieee.Format.nearest
    rw [if_neg hM, dd_frac, dd_least, dd_binade, dd_inf]
    have hlog := log2_pow M a (by omega)
    rw [← hN] at hlog
    have hlast : max (p + (M.log2 : Int) - ((52 : Nat) : Int)) (-1074) = -1074 + ((N.log2 - c - 52 : Nat) : Int) := by omega
    simp only [hlast]
    unfold rg
    generalize ht : N.log2 - c - 52 = t at *
    rw [cut_sign]
    have e3 : (-1074 + (t : Int) - -1074).toNat = t := by omega
    rw [e3]
    have hkept : cutE (M <<< (p - (-1074 + (t : Int))).toNat) ((-1074 + (t : Int)) - p).toNat = cutE N (c + t) := by
      rw [Nat.shiftLeft_eq]
      by_cases hc : c + t ≤ a
      · rw [show (p - (-1074 + (t : Int))).toNat = a - (c + t) by omega, show ((-1074 + (t : Int)) - p).toNat = 0 by omega]
        have := cutE_scale (M * 2 ^ (a - (c + t))) 0 (c + t)
        rw [Nat.mul_assoc, ← Nat.pow_add, Nat.sub_add_cancel hc, Nat.zero_add, ← hN] at this
        exact this.symm
      · rw [show (p - (-1074 + (t : Int))).toNat = 0 by omega, show ((-1074 + (t : Int)) - p).toNat = c + t - a by omega, Nat.pow_zero, Nat.mul_one]
        have := cutE_scale M (c + t - a) a
        rw [Nat.sub_add_cancel (by omega), ← hN] at this
        exact this.symm
    rw [hkept]
    rfl
/-- The number on a rung, as so many least places. -/
def vv (r : Nat) : Nat := if r < 4503599627370496 then r else (4503599627370496 + r % 4503599627370496) * 2 ^ (r / 4503599627370496 - 1)
theorem read_vv (s : Bool) (r : Nat) (h : r < 9218868437227405312) : ∃ m x : Nat, dd.read (wd s r) = .number s m (-1074 + (x : Int)) ∧ vv r = m * 2 ^ x := by
  have hr := read_wd s r (by omega)
  unfold vv
  by_cases h1 : r < 4503599627370496
  · rw [if_pos h1] at hr ⊢
    exact ⟨r, 0, hr, by rw [Nat.pow_zero, Nat.mul_one]⟩
  · rw [if_neg h1, if_pos h] at hr
    rw [if_neg h1]
    exact ⟨_, _, hr, rfl⟩
theorem vv_lt {r q : Nat} (h : r < q) : vv r < vv q := by
  unfold vv
  by_cases h1 : q < 4503599627370496
  · rw [if_pos h1, if_pos (by omega)]; exact h
  · rw [if_neg h1]
    have hpq : 4503599627370496 * 2 ^ (q / 4503599627370496 - 1) ≤ (4503599627370496 + q % 4503599627370496) * 2 ^ (q / 4503599627370496 - 1) := Nat.mul_le_mul_right _ (by omega)
    by_cases h2 : r < 4503599627370496
    · rw [if_pos h2]
      have : 1 ≤ 2 ^ (q / 4503599627370496 - 1) := Nat.pos_of_neZero _
      have := Nat.mul_le_mul_left 4503599627370496 this
      omega
    · rw [if_neg h2]
      rcases Nat.eq_or_lt_of_le (show r / 4503599627370496 ≤ q / 4503599627370496 by omega) with he | hlt
      · rw [he]
        exact Nat.mul_lt_mul_of_pos_right (by omega) (Nat.pos_of_neZero _)
      · have hs : (4503599627370496 + r % 4503599627370496) * 2 ^ (r / 4503599627370496 - 1) < 9007199254740992 * 2 ^ (r / 4503599627370496 - 1) := Nat.mul_lt_mul_of_pos_right (by omega) (Nat.pos_of_neZero _)
        have hp : (2 : Nat) ^ (r / 4503599627370496 - 1 + 1) ≤ 2 ^ (q / 4503599627370496 - 1) := Nat.pow_le_pow_right (by omega) (by omega)
        rw [Nat.pow_succ] at hp
        have := Nat.mul_le_mul_left 4503599627370496 hp
        omega
theorem vv_le {r q : Nat} (h : r ≤ q) : vv r ≤ vv q := by
  rcases Nat.eq_or_lt_of_le h with rfl | h
  · exact Nat.le_refl _
  · exact Nat.le_of_lt (vv_lt h)
/-- Two that are not below zero: the order of their rungs. -/
theorem order_cmp {r q : Nat} (hr : r ≤ 9218868437227405312) (hq : q ≤ 9218868437227405312) : dd.order (wd false r) (wd false q) = some (compare r q) := by
  unfold Ieee.Format.order
  by_cases h1 : r < 9218868437227405312
  · obtain ⟨m, x, e1, v1⟩ := read_vv false r h1
    rw [e1]
    by_cases h2 : q < 9218868437227405312
    · obtain ⟨n, y, e2, v2⟩ := read_vv false q h2
      rw [e2, order_num, ← v1, ← v2]
      rcases Nat.lt_trichotomy r q with h | h | h
      · rw [Nat.compare_eq_lt.2 (vv_lt h), Nat.compare_eq_lt.2 h]
      · subst h; rw [Nat.compare_eq_eq.2 rfl, Nat.compare_eq_eq.2 rfl]
      · rw [Nat.compare_eq_gt.2 (vv_lt h), Nat.compare_eq_gt.2 h]
    · obtain rfl : q = 9218868437227405312 := by omega
      rw [read_infw, Nat.compare_eq_lt.2 h1]
      rfl
  · obtain rfl : r = 9218868437227405312 := by omega
    rw [read_infw]
    by_cases h2 : q < 9218868437227405312
    · obtain ⟨n, y, e2, v2⟩ := read_vv false q h2
      rw [e2, Nat.compare_eq_gt.2 h2]
      rfl
    · obtain rfl : q = 9218868437227405312 := by omega
      rw [read_infw]
      rfl
theorem order_le {r q : Nat} (hr : r ≤ 9218868437227405312) (hq : q ≤ 9218868437227405312) : (dd.order (wd false r) (wd false q) == some .lt || dd.order (wd false r) (wd false q) == some .eq) = decide (r ≤ q) := by
  rw [order_cmp hr hq]
  rcases Nat.lt_trichotomy r q with h | h | h
  · rw [Nat.compare_eq_lt.2 h, decide_eq_true (by omega)]; rfl
  · subst h; rw [Nat.compare_eq_eq.2 rfl, decide_eq_true (by omega)]; rfl
  · rw [Nat.compare_eq_gt.2 h, decide_eq_false (by omega)]; rfl
theorem order_gt {r q : Nat} (hr : r ≤ 9218868437227405312) (hq : q ≤ 9218868437227405312) : (dd.order (wd false r) (wd false q) == some .gt) = decide (q < r) := by
  rw [order_cmp hr hq]
  rcases Nat.lt_trichotomy r q with h | h | h
  · rw [Nat.compare_eq_lt.2 h, decide_eq_false (by omega)]; rfl
  · subst h; rw [Nat.compare_eq_eq.2 rfl, decide_eq_false (by omega)]; rfl
  · rw [Nat.compare_eq_gt.2 h, decide_eq_true (by omega)]; rfl
/-- Above what is below zero. -/
theorem order_neg {r q : Nat} (hr : r ≤ 9218868437227405312) (hq : q ≤ 9218868437227405312) (h : 0 < q ∨ 0 < r) : dd.order (wd false r) (wd true q) = some .gt := by
  unfold Ieee.Format.order
  have v0 : vv 0 = 0 := rfl
  by_cases h1 : r < 9218868437227405312
  · obtain ⟨m, x, e1, v1⟩ := read_vv false r h1
    rw [e1]
    by_cases h2 : q < 9218868437227405312
    · obtain ⟨n, y, e2, v2⟩ := read_vv true q h2
      rw [e2]
      simp only [Ieee.Datum.order, Ieee.signed, Nat.shiftLeft_eq]
      congr 1
      refine Int.compare_eq_gt.2 ?_
      have hp : ∀ k : Nat, 0 < 2 ^ k := fun k => Nat.pos_of_neZero _
      have hmn : 0 < m ∨ 0 < n := by
        rcases h with h | h
        · have := vv_lt h
          rw [v0, v2] at this
          exact .inr (Nat.pos_of_ne_zero fun e => by subst e; simp at this)
        · have := vv_lt h
          rw [v0, v1] at this
          exact .inl (Nat.pos_of_ne_zero fun e => by subst e; simp at this)
      simp only [if_true, Bool.false_eq_true, if_false]
      generalize (-1074 + (x : Int) - min (-1074 + (x : Int)) (-1074 + (y : Int))).toNat = a
      generalize (-1074 + (y : Int) - min (-1074 + (x : Int)) (-1074 + (y : Int))).toNat = b
      rcases hmn with h | h
      · have h3 := Nat.mul_pos h (hp a)
        omega
      · have h3 := Nat.mul_pos h (hp b)
        omega
    · obtain rfl : q = 9218868437227405312 := by omega
      rw [read_infw]
      rfl
  · obtain rfl : r = 9218868437227405312 := by omega
    rw [read_infw]
    by_cases h2 : q < 9218868437227405312
    · obtain ⟨n, y, e2, v2⟩ := read_vv true q h2
      rw [e2]
      rfl
    · obtain rfl : q = 9218868437227405312 := by omega
      rw [read_infw]
      rfl
theorem mul_fin {r q : Nat} (s t : Bool) (hr : r < 9218868437227405312) (hq : q < 9218868437227405312) : dd.mul (wd s r) (wd t q) = some (wd (s ^^ t) (min (rg 1074 (vv r * vv q)) 9218868437227405312)) := by
  obtain ⟨m, x, e1, v1⟩ := read_vv s r hr
  obtain ⟨n, y, e2, v2⟩ := read_vv t q hq
  unfold Ieee.Format.mul
  rw [e1, e2]
  simp only [Ieee.Datum.product, Option.map_some, Ieee.Format.write]
  congr 1
  refine near_rg (a := x + y) _ ?_ (by omega)
  rw [v1, v2, Nat.pow_add, Nat.mul_mul_mul_comm]
theorem mul_inf {q : Nat} (hq : q < 9218868437227405312) : dd.mul (wd false 9218868437227405312) (wd false q) = if q = 0 then none else some (wd false 9218868437227405312) := by
  obtain ⟨n, y, e2, v2⟩ := read_vv false q hq
  unfold Ieee.Format.mul
  rw [read_infw, e2]
  simp only [Ieee.Datum.product]
  by_cases h : q = 0
  · rw [if_pos h]
    subst h
    have : n = 0 := by
      have hz : vv 0 = 0 := rfl
      rw [hz] at v2
      rcases Nat.mul_eq_zero.1 v2.symm with h | h
      · exact h
      · exact absurd h (Nat.ne_of_gt (Nat.pos_of_neZero _))
    rw [if_pos this]; rfl
  · rw [if_neg h]
    have : n ≠ 0 := fun e => by
      subst e
      have := vv_lt (show 0 < q by omega)
      rw [v2] at this
      simp at this
    rw [if_neg this]
    rfl
theorem add_fin {r q : Nat} (hr : r < 9218868437227405312) (hq : q < 9218868437227405312) : dd.add (wd false r) (wd false q) = some (wd false (min (rg 0 (vv r + vv q)) 9218868437227405312)) := by
  obtain ⟨m, x, e1, v1⟩ := read_vv false r hr
  obtain ⟨n, y, e2, v2⟩ := read_vv false q hq
  unfold Ieee.Format.add
  rw [e1, e2]
  simp only [Ieee.Datum.sum, Ieee.signed, Nat.shiftLeft_eq, Option.map_some, Ieee.Format.write, Bool.false_eq_true, if_false, Bool.and_self]
  congr 1
  have e3 : (-1074 + (x : Int) - min (-1074 + (x : Int)) (-1074 + (y : Int))).toNat = x - min x y := by omega
  have e4 : (-1074 + (y : Int) - min (-1074 + (x : Int)) (-1074 + (y : Int))).toNat = y - min x y := by omega
  rw [e3, e4]
  have e5 : (((m * 2 ^ (x - min x y) : Nat) : Int) + ((n * 2 ^ (y - min x y) : Nat) : Int)).natAbs = m * 2 ^ (x - min x y) + n * 2 ^ (y - min x y) := by omega
  have e6 : (if ((m * 2 ^ (x - min x y) : Nat) : Int) + ((n * 2 ^ (y - min x y) : Nat) : Int) = 0 then false else decide (((m * 2 ^ (x - min x y) : Nat) : Int) + ((n * 2 ^ (y - min x y) : Nat) : Int) < 0)) = false := by
    split
    · rfl
    · exact decide_eq_false (by omega)
  rw [e5, e6]
  refine near_rg (a := min x y) _ ?_ (by omega)
  rw [v1, v2, Nat.add_mul, Nat.mul_assoc, Nat.mul_assoc, ← Nat.pow_add, ← Nat.pow_add, Nat.sub_add_cancel (Nat.min_le_left _ _), Nat.sub_add_cancel (Nat.min_le_right _ _)]
theorem rg_vv {r : Nat} : rg 0 (vv r) = r := by
  unfold vv
  by_cases h1 : r < 4503599627370496
  · rw [if_pos h1]
    unfold rg
    have hl : r.log2 - 0 - 52 = 0 := by
      by_cases h0 : r = 0
      · subst h0; rfl
      · have := log2_le52 (K := r) (by omega) (by omega); omega
    rw [hl]
    have := cutE_whole r 0
    rw [Nat.pow_zero, Nat.mul_one] at this
    rw [this]; simp
  · rw [if_neg h1]
    have hK : (4503599627370496 + r % 4503599627370496).log2 = 52 := by
      have h2 := log2_le52 (K := 4503599627370496 + r % 4503599627370496) (by omega) (by omega)
      have h3 : ¬ (4503599627370496 + r % 4503599627370496).log2 < 52 := fun h => by
        have := (Nat.log2_lt (by omega)).1 h
        rw [pow52] at this; omega
      omega
    unfold rg
    rw [log2_pow _ _ (by omega), hK, show 52 + (r / 4503599627370496 - 1) - 0 - 52 = r / 4503599627370496 - 1 by omega, Nat.zero_add, cutE_whole]
    omega
end Go.Sh

/- Under: what more makes of it. -/
set_option linter.unusedVariables false
set_option linter.unusedSimpArgs false
set_option exponentiation.threshold 5000
namespace Go.Proofs.YtoeamecdkimgaaaDoor
open Go.Sh
/-- The rung of a whole number. -/
def rgI (n : Nat) : Nat := min (rg 0 (n * 2 ^ 1074)) 9218868437227405312
theorem flI_eq (n : Nat) : flI (n : Int) = wd false (rgI n) := by
  have h := near_rg (N := n * 2 ^ 1074) (M := n) (a := 1074) (c := 0) (p := 0) false rfl (by omega)
  have e : flI (n : Int) = dd.nearest (decide ((n : Int) < 0)) (n : Int).natAbs 0 := rfl
  rw [e, decide_eq_false (by omega), Int.natAbs_natCast, h]
  rfl
theorem rgI_mono {n m : Nat} (h : n ≤ m) : rgI n ≤ rgI m := by
  have := rg_mono (c := 0) (Nat.mul_le_mul_right (2 ^ 1074) h)
  unfold rgI; omega
theorem rgI_top : rgI 9223372036854775808 < 9218868437227405312 := by decide +kernel
theorem rgI_one : rgI 1 = 4607182418800017408 := by decide +kernel
theorem rgI_lt {n : Nat} (h : n ≤ 9223372036854775808) : rgI n < 9218868437227405312 := Nat.lt_of_le_of_lt (rgI_mono h) rgI_top
theorem rgI_le (n : Nat) : rgI n ≤ 9218868437227405312 := by unfold rgI; omega
theorem under_fin {b i r : Nat} (hi : i ≤ 9223372036854775808) (hr : r < 9218868437227405312) : under b i (wd false r) = decide (rgI b ≤ min (rg 1074 (vv r * vv (rgI i))) 9218868437227405312) := by
  unfold under
  rw [flI_eq, flI_eq, mul_fin _ _ hr (rgI_lt hi)]
  exact order_le (rgI_le b) (by omega)
theorem under_inf {b i : Nat} (hi : i ≤ 9223372036854775808) : under b i (wd false 9218868437227405312) = !(rgI i == 0) := by
  unfold under
  rw [flI_eq, flI_eq, mul_inf (rgI_lt hi)]
  by_cases h : rgI i = 0
  · rw [if_pos h, h]; rfl
  · rw [if_neg h, show (rgI i == 0) = false by simp [h]]
    have := order_le (rgI_le b) (Nat.le_refl 9218868437227405312)
    rw [decide_eq_true (rgI_le b)] at this
    exact this
theorem rg_zero (c : Nat) : rg c 0 = 0 := by
  have := rg_scale 0 0 c
  rw [Nat.zero_mul, Nat.zero_add] at this
  rw [this]
  decide +kernel
theorem under_nz {b i : Nat} (hi : i ≤ 9223372036854775808) (hu : under b i (wd true 0) = true) : rgI b = 0 := by
  unfold under at hu
  rw [flI_eq, flI_eq, mul_fin _ _ (by omega) (rgI_lt hi)] at hu
  have h0 : vv 0 * vv (rgI i) = 0 := Nat.zero_mul _
  rw [h0, rg_zero] at hu
  by_cases h : rgI b = 0
  · exact h
  · have := order_neg (rgI_le b) (show (0 : Nat) ≤ 9218868437227405312 by omega) (.inr (by omega))
    simp only [Bool.xor_false, Nat.zero_min] at hu
    rw [this] at hu
    exact absurd hu (by decide)
/-- With a factor below zero nothing is within anything. -/
def negOne : Nat := 13830554455654793216
theorem negOne_eq : negOne = wd true 4607182418800017408 := by decide +kernel
theorem rg_one_pos : 0 < rg 1074 (vv 4607182418800017408 * vv (rgI 1)) := by decide +kernel
theorem under_neg {b m : Nat} (h1 : 1 ≤ m) (h2 : m ≤ 9223372036854775808) : under b m negOne = false := by
  unfold under
  rw [flI_eq, flI_eq, negOne_eq, mul_fin _ _ (by omega) (rgI_lt h2)]
  have hp : 0 < min (rg 1074 (vv 4607182418800017408 * vv (rgI m))) 9218868437227405312 := by
    have := rg_mono (c := 1074) (Nat.mul_le_mul_left (vv 4607182418800017408) (vv_le (rgI_mono h1)))
    have := rg_one_pos
    omega
  simp only [Bool.xor_false]
  rw [order_neg (rgI_le b) (by omega) (.inl hp)]
  rfl
/-- A factor that is not below zero. -/
theorem fac_cases {F : Nat} (hF : F < 18446744073709551616) (hge : (dd.order F (wd false 0) == some .gt || dd.order F (wd false 0) == some .eq) = true) : F = wd true 0 ∨ ∃ s r, s = false ∧ r ≤ 9218868437227405312 ∧ F = wd s r := by
  obtain ⟨s, r, rfl, hr⟩ := wd_of F hF
  by_cases hi : r ≤ 9218868437227405312
  · cases s with
    | false => exact .inr ⟨false, r, rfl, hi, rfl⟩
    | true =>
      by_cases h0 : r = 0
      · subst h0; exact .inl rfl
      · exfalso
        have : dd.order (wd true r) (wd false 0) = some .lt := by
          unfold Ieee.Format.order
          rw [read_zero]
          by_cases h1 : r < 9218868437227405312
          · obtain ⟨n, y, e2, v2⟩ := read_vv true r h1
            rw [e2]
            simp only [Ieee.Datum.order, Ieee.signed, Nat.shiftLeft_eq]
            congr 1
            refine Int.compare_eq_lt.2 ?_
            have hn : 0 < n := Nat.pos_of_ne_zero fun e => by
              subst e
              have := vv_lt (show 0 < r by omega)
              rw [v2] at this
              simp at this
            simp only [if_true, Bool.false_eq_true, if_false, Nat.zero_mul]
            have h3 := Nat.mul_pos hn (Nat.pos_of_neZero (2 ^ (-1074 + (y : Int) - min (-1074 + (y : Int)) (-1074)).toNat))
            omega
          · obtain rfl : r = 9218868437227405312 := by omega
            rw [read_infw]
            rfl
        rw [this] at hge
        exact absurd hge (by decide)
  · exfalso
    have hrd := read_wd s r hr
    rw [if_neg (by omega), if_neg (by omega), if_neg (by omega)] at hrd
    have : dd.order (wd s r) (wd false 0) = none := by
      unfold Ieee.Format.order
      rw [hrd]
      rfl
    rw [this] at hge
    exact absurd hge (by decide)
def big : Nat := 9094988921128908188
/-- Two times and one more. -/
theorem more_top : rg 1074 (vv two * vv big) < 9218868437227405312 ∧ rg 0 (vv (rg 1074 (vv two * vv big)) + vv one) < 9218868437227405312 := by decide +kernel
theorem add_inf : dd.add (wd false 9218868437227405312) one = some (wd false 9218868437227405312) := by
  unfold Ieee.Format.add
  rw [read_infw, read_one]
  rfl
theorem mul_two_inf : dd.mul two (wd false 9218868437227405312) = some (wd false 9218868437227405312) := by
  unfold Ieee.Format.mul
  rw [read_infw, read_two]
  rfl
theorem fac_more {F : Nat} (hF : F < 18446744073709551616) (hge : (dd.order F (wd false 0) == some .gt || dd.order F (wd false 0) == some .eq) = true) :
    ∃ m a, dd.mul two F = some m ∧ dd.add m one = some a ∧ (F = wd true 0 → a = wd false one) ∧ ∀ r, F = wd false r → r ≤ big → ∃ q, a = wd false q ∧ r ≤ q ∧ q < 9218868437227405312 := by
  have h2 : two = wd false two := rfl
  have h1 : one = wd false one := rfl
  rcases fac_cases hF hge with rfl | ⟨s, r, hs, hr, rfl⟩
  · refine ⟨wd true 0, wd false one, ?_, ?_, fun _ => rfl, fun r h => ?_⟩
    · decide +kernel
    · decide +kernel
    · intro hb
      rw [wd_eq, wd_eq] at h
      simp at h
      simp only [big] at hb
      omega
  · subst hs
    by_cases hi : r < 9218868437227405312
    · have hm := mul_fin (r := two) (q := r) false false (by decide) hi
      rw [← h2] at hm
      have hlow : r ≤ rg 1074 (vv two * vv r) := by
        have e : vv two = 2 * 2 ^ 1074 := by decide +kernel
        have h3 : vv r * 2 ^ 1074 ≤ vv two * vv r := by
          rw [e, Nat.mul_comm]
          exact Nat.mul_le_mul_right _ (by have : 0 < 2 ^ 1074 := Nat.pos_of_neZero _; omega)
        have h4 := rg_mono (c := 1074) h3
        have h5 := rg_scale 0 (vv r) 1074
        rw [Nat.zero_add, rg_vv] at h5
        omega
      generalize hM : rg 1074 (vv two * vv r) = M at *
      by_cases hMi : M < 9218868437227405312
      · rw [Nat.min_eq_left (by omega)] at hm
        have ha := add_fin (r := M) (q := one) hMi (by decide)
        rw [← h1] at ha
        refine ⟨_, _, hm, ha, fun h => ?_, fun r' h hb => ?_⟩
        · rw [wd_eq, wd_eq] at h; simp at h; omega
        · have hrr : r' = r := by rw [wd_eq, wd_eq] at h; simpa using h.symm
          subst hrr
          have h3 : M ≤ rg 0 (vv M + vv one) := by
            have := rg_mono (c := 0) (Nat.le_add_right (vv M) (vv one))
            rwa [rg_vv] at this
          have h4 : M ≤ rg 1074 (vv two * vv big) := by
            rw [← hM]
            exact rg_mono (Nat.mul_le_mul_left _ (vv_le hb))
          have h5 : rg 0 (vv M + vv one) ≤ rg 0 (vv (rg 1074 (vv two * vv big)) + vv one) := rg_mono (Nat.add_le_add_right (vv_le h4) _)
          have h6 := more_top.2
          have hA := Nat.lt_of_le_of_lt h5 h6
          have hB := Nat.le_trans hlow h3
          exact ⟨_, rfl, Nat.le_min.2 ⟨hB, Nat.le_of_lt hi⟩, Nat.lt_of_le_of_lt (Nat.min_le_left _ _) hA⟩
      · rw [Nat.min_eq_right (by omega)] at hm
        refine ⟨_, wd false 9218868437227405312, hm, add_inf, fun h => ?_, fun r' h hb => ?_⟩
        · rw [wd_eq, wd_eq] at h; simp at h; omega
        · exfalso
          have hrr : r' = r := by rw [wd_eq, wd_eq] at h; simpa using h.symm
          subst hrr
          have h4 : M ≤ rg 1074 (vv two * vv big) := by
            rw [← hM]
            exact rg_mono (Nat.mul_le_mul_left _ (vv_le hb))
          have := more_top.1
          omega
    · obtain rfl : r = 9218868437227405312 := by omega
      refine ⟨wd false 9218868437227405312, wd false 9218868437227405312, mul_two_inf, add_inf, fun h => ?_, fun r' h hb => ?_⟩
      · rw [wd_eq, wd_eq] at h; simp at h
      · exfalso
        have hrr : r' = 9218868437227405312 := by rw [wd_eq, wd_eq] at h; simpa using h.symm
        subst hrr
        exact absurd hb (by decide)
theorem big_gt {F : Nat} (hF : F < 18446744073709551616) (hge : (dd.order F (wd false 0) == some .gt || dd.order F (wd false 0) == some .eq) = true) : (F = wd true 0 ∧ (dd.order F big == some .gt) = false) ∨ ∃ s r, s = false ∧ r ≤ 9218868437227405312 ∧ F = wd s r ∧ (dd.order F big == some .gt) = decide (big < r) := by
  have hb : big = wd false big := rfl
  rcases fac_cases hF hge with rfl | ⟨s, r, hs, hr, rfl⟩
  · exact .inl ⟨rfl, by decide +kernel⟩
  · subst hs
    refine .inr ⟨false, r, rfl, hr, rfl, ?_⟩
    have := order_gt hr (show big ≤ 9218868437227405312 by decide)
    rw [← hb] at this
    exact this
/-- A greater image and a greater factor hold what was within. -/
theorem under_more {b i i' F F' : Nat} (hii : i ≤ i') (hi' : i' ≤ 9223372036854775808) (hF : F < 18446744073709551616) (hge : (dd.order F (wd false 0) == some .gt || dd.order F (wd false 0) == some .eq) = true)
    (hF' : F' = if (dd.order F big == some .gt) then F else ((dd.mul two F).bind fun m => dd.add m one).getD 0) (hu : under b i F = true) : under b i' F' = true := by
  obtain ⟨m, a, hm, ha, hz, hq⟩ := fac_more hF hge
  rw [hm] at hF'
  simp only [Option.bind_some, ha, Option.getD_some] at hF'
  have mono : ∀ r q, r ≤ q → r < 9218868437227405312 → q < 9218868437227405312 → under b i (wd false r) = true → under b i' (wd false q) = true := by
    intro r q hrq hr hq h
    rw [under_fin (by omega) hr] at h
    rw [under_fin hi' hq]
    have h := of_decide_eq_true h
    have h2 := rg_mono (c := 1074) (Nat.mul_le_mul (vv_le hrq) (vv_le (rgI_mono hii)))
    exact decide_eq_true (Nat.le_min.2 ⟨Nat.le_trans (Nat.le_trans h (Nat.min_le_left _ _)) h2, Nat.le_trans h (Nat.min_le_right _ _)⟩)
  rcases big_gt hF hge with ⟨e, hg⟩ | ⟨s, r, hs, hr, rfl, hg⟩
  · rw [hg, if_neg (by simp)] at hF'
    rw [e] at hu
    rw [hF', hz e, under_fin (r := one) hi' (by decide), under_nz (by omega) hu]
    exact decide_eq_true (Nat.zero_le _)
  · subst hs
    by_cases hb : big < r
    · rw [hg, decide_eq_true hb, if_pos rfl] at hF'
      rw [hF']
      by_cases hi : r < 9218868437227405312
      · exact mono r r (Nat.le_refl _) hi hi hu
      · obtain rfl : r = 9218868437227405312 := by omega
        rw [under_inf (by omega)] at hu
        rw [under_inf hi']
        have h2 := rgI_mono hii
        simp only [Bool.not_eq_true', beq_eq_false_iff_ne] at hu ⊢
        omega
    · rw [hg, decide_eq_false hb, if_neg (by simp)] at hF'
      obtain ⟨q, hqa, hrq, hqi⟩ := hq r rfl (by omega)
      rw [hF', hqa]
      exact mono r q hrq (by omega) hqi hu
end Go.Proofs.YtoeamecdkimgaaaDoor
