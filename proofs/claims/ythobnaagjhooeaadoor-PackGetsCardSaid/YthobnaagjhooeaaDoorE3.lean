/- PackGets: lists that are read. -/
import Derived.Test.YthobnaagjhooeaaDoorE2
import Derived.Test.YthobnaagjhooeaaDoorShIns
set_option linter.unusedVariables false
set_option linter.unusedSimpArgs false
namespace Go.Proofs.YthobnaagjhooeaaDoor
open Go.Sh
def tC (l : List (List UInt8)) : List Value := l.map fun k => .string (str k)
theorem tC_len (l : List (List UInt8)) : (tC l).length = l.length := by simp [tC]
theorem tC_at {l : List (List UInt8)} {i : Nat} (h : i < l.length) : (tC l)[i]? = some (.string (str l[i])) := by simp [tC, h]
theorem tC_snoc (l : List (List UInt8)) (k : List UInt8) : tC (l ++ [k]) = tC l ++ [.string (str k)] := by simp [tC]
/-- The first i texts from off on, and where the reader stands then. -/
def tr (all : List UInt8) (off : Nat) : Nat → Option (List (List UInt8) × Nat)
  | 0 => some ([], off)
  | i + 1 => (tr all off i).bind fun p => if (szV 8 all p.2 0).2.2 = 0 then some (p.1 ++ [(szV 8 all p.2 0).1], (szV 8 all p.2 0).2.1) else none
theorem tr_go {all : List UInt8} {off i o o' : Nat} {ks : List (List UInt8)} {k : List UInt8} (h : tr all off i = some (ks, o)) (hz : szV 8 all o 0 = (k, o', 0)) : tr all off (i + 1) = some (ks ++ [k], o') := by
  unfold tr
  rw [h]
  simp [hz]
theorem tr_stop {all : List UInt8} {off i o o' : Nat} {ks : List (List UInt8)} {k : List UInt8} {e : Int} (h : tr all off i = some (ks, o)) (hz : szV 8 all o 0 = (k, o', e)) (he : e ≠ 0) : ∀ j, i < j → tr all off j = none := by
  intro j hj
  induction j with
  | zero => omega
  | succ j ih =>
    unfold tr
    rcases Nat.lt_or_eq_of_le (Nat.le_of_lt_succ hj) with h1 | h1
    · rw [ih h1]; rfl
    · subst h1
      rw [h]
      simp [hz, he]
theorem tr_len {all : List UInt8} {off : Nat} : ∀ {i o : Nat} {ks : List (List UInt8)}, tr all off i = some (ks, o) → ks.length = i := by
  intro i
  induction i with
  | zero => intro o ks h; injection h with h; injection h with h _; rw [← h]; rfl
  | succ i ih =>
    intro o ks h
    unfold tr at h
    cases hi : tr all off i with
    | none => rw [hi] at h; cases h
    | some p =>
      obtain ⟨ks', o'⟩ := p
      rw [hi, Option.bind_some] at h
      split at h
      · injection h with h
        injection h with h _
        rw [← h, List.length_append, ih hi]
        rfl
      · cases h
/-- How the reading of n texts ends. -/
def Fin (all : List UInt8) (off n : Nat) (L : List (List UInt8)) (off' : Nat) (e' : Int) : Prop :=
  (tr all off n = some (L, off') ∧ e' = 0) ∨ ∃ i ks o k, i < n ∧ tr all off i = some (ks, o) ∧ szV 8 all o 0 = (k, off', e') ∧ e' ≠ 0 ∧ L = []
theorem fin_one {all : List UInt8} {off n : Nat} {L L' : List (List UInt8)} {o o' : Nat} {e e' : Int} (h : Fin all off n L o e) (h' : Fin all off n L' o' e') : L = L' ∧ o = o' ∧ e = e' := by
  rcases h with ⟨h1, rfl⟩ | ⟨i, ks, q, k, hi, h1, h2, h3, rfl⟩
  · rcases h' with ⟨h1', rfl⟩ | ⟨i', ks', q', k', hi', h1', h2', h3', rfl⟩
    · rw [h1] at h1'
      injection h1' with h1'
      injection h1' with a b
      exact ⟨a, b, rfl⟩
    · rw [tr_stop h1' h2' h3' n hi'] at h1; cases h1
  · rcases h' with ⟨h1', rfl⟩ | ⟨i', ks', q', k', hi', h1', h2', h3', rfl⟩
    · rw [tr_stop h1 h2 h3 n hi] at h1'; cases h1'
    · have hii : i = i' := by
        rcases Nat.lt_trichotomy i i' with hlt | heq | hlt
        · rw [tr_stop h1 h2 h3 i' hlt] at h1'; cases h1'
        · exact heq
        · rw [tr_stop h1' h2' h3' i hlt] at h1; cases h1
      subst hii
      rw [h1] at h1'
      injection h1' with h1'
      injection h1' with _ hq
      subst hq
      rw [h2] at h2'
      injection h2' with _ h2'
      injection h2' with a b
      exact ⟨rfl, a, b⟩
/-- What a list of texts that is read answers, and leaves. -/
def Out (most : Int) (all : List UInt8) (L : List (List UInt8)) (off' : Nat) (e' : Int) : Prop :=
  ∃ c off1 e1, ctV most all 0 0 = (c, off1, e1) ∧ ((c < 0 ∧ L = [] ∧ off' = off1 ∧ e' = e1 ∧ e1 ≠ 0) ∨ (∃ n : Nat, c = n ∧ n ≤ all.length ∧ e1 = 0 ∧ Fin all off1 n L off' e'))
theorem out_one {most : Int} {all : List UInt8} {L L' : List (List UInt8)} {o o' : Nat} {e e' : Int} (h : Out most all L o e) (h' : Out most all L' o' e') : L = L' ∧ o = o' ∧ e = e' := by
  obtain ⟨c, o1, e1, hc, h⟩ := h
  obtain ⟨c', o1', e1', hc', h'⟩ := h'
  rw [hc] at hc'
  injection hc' with q1 q2
  injection q2 with q2 q3
  subst q1 q2 q3
  rcases h with ⟨h1, rfl, rfl, rfl, _⟩ | ⟨n, rfl, _, rfl, h⟩
  · rcases h' with ⟨_, rfl, rfl, rfl, _⟩ | ⟨n', hn, _⟩
    · exact ⟨rfl, rfl, rfl⟩
    · omega
  · rcases h' with ⟨hn, _⟩ | ⟨n', hn, _, _, h'⟩
    · omega
    · obtain rfl : n = n' := by omega
      exact fin_one h h'
theorem out_len {most : Int} {all : List UInt8} {L : List (List UInt8)} {o : Nat} {e : Int} (h : Out most all L o e) : L.length ≤ all.length := by
  obtain ⟨c, o1, e1, hc, h⟩ := h
  rcases h with ⟨h1, rfl, _⟩ | ⟨n, rfl, hn, rfl, h⟩
  · exact Nat.zero_le _
  · rcases h with ⟨h1, _⟩ | ⟨_, _, _, _, _, _, _, _, rfl⟩
    · rw [tr_len h1]; exact hn
    · exact Nat.zero_le _
theorem ct_cases {most : Int} {all : List UInt8} {c : Int} {o1 : Nat} {e1 : Int} (h : ctV most all 0 0 = (c, o1, e1)) : (c = -1 ∧ e1 ≠ 0) ∨ ∃ n : Nat, c = n ∧ n ≤ all.length ∧ e1 = 0 := by
  unfold ctV at h
  split at h
  · split at h
    · injection h with a b; injection b with b d; subst a d; exact .inl ⟨rfl, by omega⟩
    · rename_i h1
      split at h
      · injection h with a b; injection b with b d; subst a d
        exact .inr ⟨(IntKind.i32.wrap (dec ((all.drop 0).take 4))).toNat, by omega, by omega, rfl⟩
      · injection h with a b; injection b with b d; subst a d; exact .inl ⟨rfl, by omega⟩
  · injection h with a b; injection b with b d; subst a d; exact .inl ⟨rfl, by simp⟩
section
variable (Z : List PanicEntry → World → Prop) {o w : World} {R : List HProp} {g : Nat} {B : Option Nat} {all l : List UInt8} {off : Nat} {err : Int}
theorem eqTexts {x y : Value} {l k : List (List UInt8)} (hx : Rd w 1 x l.length (tC l)) (hy : Rd w 1 y k.length (tC k)) :
    CallV Tryd.prog Z 12 #[x, y] w fun r w' => (∃ b, r = .bool b ∧ (b = true ↔ l = k)) ∧ Drew w w' := by
  obtain ⟨a, c, rfl⟩ := hx.form
  obtain ⟨b, d, rfl⟩ := hy.form
  have hlx := hx.2.1
  simp only [maxLen] at hlx
  refine f12.calls ?_
  unfold f12.sh
  (try simp only [ln_27_3, o_neq, cond_bne])
  refine ⟨fun hne => ⟨⟨_, rfl, ⟨fun h => (by cases h), fun e => absurd (by rw [e]) hne⟩⟩, Drew.refl _⟩, fun he => ?_⟩
  have he' : l.length = k.length := by omega
  refine ⟨fun m y w' => ∃ i : Nat, y = .int .i64 i ∧ m + i = l.length ∧ l.take i = k.take i ∧ Drew w w', ⟨l.length, 0, rfl, rfl, rfl, Drew.refl _⟩, ?_⟩
  rintro m _ w1 ⟨i, rfl, hi, ht, hd⟩ _
  by_cases hlt : (i : Int) < (l.length : Int)
  · (try simp only [o_add, o_lss, hlt, decide_true, condT])
    refine ⟨fun w2 hd2 => ?_⟩
    have hi1 : i < l.length := by omega
    have hi2 : i < k.length := by omega
    obtain ⟨p, hp, hpc, _⟩ := (hx.drew (hd.trans hd2)).index el27 .i64 i hi1
    obtain ⟨q, hq, hqc, _⟩ := (hy.drew (hd.trans hd2)).index el27 .i64 i hi2
    rw [tC_at hi1] at hpc
    rw [tC_at hi2] at hqc
    refine rp hp (rr_load one9 hpc (rp hq (rr_load one9 hqc ?_)))
    refine rp (fun w => run_neq_str _ _ _ _ _ w) ?_
    rw [str_toList, str_toList]
    by_cases hen : l[i] = k[i]
    · have hb : (l[i] == k[i]) = true := by simp [hen]
      rw [hb]
      (try simp only [Bool.not_true, condF])
      rw [wr_i64 (x := (i : Int) + 1) (by omega) (by omega)]
      refine ⟨m - 1, by omega, i + 1, rfl, by omega, ?_, hd.trans hd2⟩
      rw [List.take_succ_eq_append_getElem hi1, List.take_succ_eq_append_getElem hi2, ht, hen]
    · have hb : (l[i] == k[i]) = false := by simp [hen]
      rw [hb]
      (try simp only [Bool.not_false, condT])
      exact ⟨⟨_, rfl, ⟨fun h => (by cases h), fun e => absurd (by subst e; rfl) hen⟩⟩, hd.trans hd2⟩
  · obtain rfl : i = l.length := by omega
    rw [List.take_length, he', List.take_length] at ht
    (try simp only [o_add, o_lss, hlt, decide_false, condF])
    exact ⟨⟨_, rfl, ⟨fun _ => ht, fun _ => rfl⟩⟩, hd⟩
theorem getTextC (h : St o w (RdrAt g B all off err :: R)) : CallV Tryd.prog Z 8 #[.pointer (some ⟨g, 0, none⟩)] w fun r w' => ∃ k off' e', szV 8 all off err = (k, off', e') ∧ r = .string (str k) ∧ St o w' (RdrAt g B all off' e' :: R) := by
  refine f8.calls ?_
  unfold f8.sh
  exact (xText Z 8 h).mono fun r w' hq => hq
theorem getList (most : Int) (hall : all.length ≤ 67108864) (h : St o w (RdrAt g B all 0 0 :: R)) : CallV Tryd.prog Z 7 #[.pointer (some ⟨g, 0, none⟩), .int .i64 most, .func (.func 8) #[] #[]] w fun r w' =>
    ∃ L off' e', Out most all L off' e' ∧ St o w' (own 9 1 r L.length (tC L) :: RdrAt g B all off' e' :: R) := by
  have hoff := RdrAt.le h
  refine f7.calls ?_
  unfold f7.sh
  refine (rMark Z h).mono fun at_ w1 ⟨hv, hw⟩ => ?_
  subst hw
  refine (xInt32 Z h).mono fun r2 w2 ⟨x, off2, e2, hnm, hr, hS⟩ => ?_
  subst hr
  have hrg := i32_range (x : Int)
  unfold nmV at hnm
  by_cases h0 : (0 : Int) = 0 ∧ 0 + 4 ≤ all.length
  · rw [if_pos h0] at hnm
    injection hnm with hx hnm
    injection hnm with ho he
    subst ho he
    have hct : ∀ c off' e', (if IntKind.i32.wrap (x : Int) < 0 ∨ most < IntKind.i32.wrap (x : Int) then ((-1 : Int), 0, (11 : Int))
        else if 0 + 4 + (IntKind.i32.wrap (x : Int)).toNat ≤ all.length then (IntKind.i32.wrap (x : Int), 0 + 4, 0)
        else (-1, 0, 10)) = (c, off', e') → ctV most all 0 0 = (c, off', e') := fun c off' e' hh => by
      unfold ctV
      rw [if_pos h0, hx]
      exact hh
    generalize IntKind.i32.wrap (x : Int) = y at *
    (try simp only [eqlf_29, condF, o_chk, fa_76_1, Nat.zero_add, cv_21_3, o_lss])
    rw [wr_i64 (x := y) (by omega) (by omega)]
    refine (rOpen Z hS).mono fun r w3 ⟨hr, hw⟩ => ?_
    subst hr; subst hw
    simp only [beq_self_eq_true]
    by_cases h1 : y < 0
    · (try simp only [h1, decide_true, o_pickT, condT, guardW_tf, o_not, Bool.not_true, condF])
      exact (rBack Z 11 hS hv hoff).mono fun r4 w4 hS => ⟨[], 0, 11, ⟨-1, 0, 11, hct _ _ _ (by rw [if_pos (.inl h1)]), .inl ⟨by omega, rfl, rfl, rfl, by omega⟩⟩, hS.own_nil 9 1⟩
    by_cases h2 : most < y
    · (try simp only [h1, decide_false, o_pickF, guardW_ff, o_gtr, h2, decide_true, condT, o_not, Bool.not_true, condF])
      exact (rBack Z 11 hS hv hoff).mono fun r4 w4 hS => ⟨[], 0, 11, ⟨-1, 0, 11, hct _ _ _ (by rw [if_pos (.inr h2)]), .inl ⟨by omega, rfl, rfl, rfl, by omega⟩⟩, hS.own_nil 9 1⟩
    have hno : ¬ (y < 0 ∨ most < y) := by omega
    obtain ⟨n, rfl⟩ : ∃ n : Nat, y = n := ⟨y.toNat, by omega⟩
    (try simp only [h1, decide_false, o_pickF, guardW_ff, o_gtr, h2, condF, o_not, Bool.not_true])
    obtain ⟨v, hv5, ho5, hO⟩ := RdrAt.open hS
    refine r_load one22 (hO.at List.mem_cons_self 1 rfl) ?_
    obtain ⟨va, vc, rfl, _⟩ := hv5
    (try simp only [Nat.zero_add, ln_22_3, o_gtr, cond_decide])
    by_cases hlt : (((all.length - (0 + 4) : Nat)) : Int) < (n : Int)
    · refine ⟨fun _ => ?_, fun hh => absurd hlt hh⟩
      exact (rBack Z 10 hS hv hoff).mono fun r4 w4 hS => ⟨[], 0, 10, ⟨-1, 0, 10, hct _ _ _ (by rw [if_neg hno, if_neg (by omega)]), .inl ⟨by omega, rfl, rfl, rfl, by omega⟩⟩, hS.own_nil 9 1⟩
    refine ⟨fun hh => absurd hh hlt, fun _ => ?_⟩
    have hc : ctV most all 0 0 = ((n : Int), 4, 0) := hct _ _ _ (by rw [if_neg hno, if_pos (by omega)])
    refine ⟨fun m vl y w' => ∃ (i : Nat) (ks : List (List UInt8)) (off' : Nat), y = .int .i64 i ∧ m + i = n ∧ tr all 4 i = some (ks, off') ∧ St o w' (own 9 1 vl i (tC ks) :: RdrAt g B all off' 0 :: R), ⟨n, 0, [], 4, rfl, rfl, rfl, hS.own_nil _ _⟩, ?_⟩
    clear hS hO hlt
    rintro m vl _ w4 ⟨i, ks, off', rfl, hi, htr, hS⟩ _
    by_cases hlt : (i : Int) < (n : Int)
    · (try simp only [o_add, o_lss, hlt, decide_true, condT])
      refine r_callVal en8 (l1 := []) (l2 := [_]) (l3 := []) rfl rfl rfl ?_
      refine (getTextC Z hS.swap).mono fun r w5 ⟨k, off2, e2, hz, hr, hS⟩ => ?_
      subst hr
      refine (rOpen Z hS).mono fun r w3 ⟨hr, hw⟩ => ?_
      subst hr; subst hw
      by_cases he : e2 = 0
      · subst he
        (try simp only [beq_self_eq_true, o_not, Bool.not_true, condF])
        refine r_push el27 hS.swap (.string (str k)) rfl (by omega) (by simp only [maxLen]; omega) fun v' w6 hS => ?_
        skip
        rw [wr_i64 (x := (i : Int) + 1) (by omega) (by omega)]
        exact ⟨m - 1, by omega, i + 1, ks ++ [k], off2, rfl, by omega, tr_go htr hz, by rw [tC_snoc]; exact hS⟩
      · have hb : (e2 == 0) = false := by simp [he]
        (try simp only [hb, o_not, Bool.not_false, condT])
        exact ⟨[], off2, e2, ⟨n, 4, 0, hc, .inr ⟨n, rfl, by omega, rfl, .inr ⟨i, ks, off', k, by omega, htr, hz, he, rfl⟩⟩⟩, hS.swap.drop.own_nil 9 1⟩
    · obtain rfl : i = n := by omega
      (try simp only [o_add, o_lss, hlt, decide_false, condF])
      have hl := tr_len htr
      refine ⟨ks, off', 0, ⟨i, 4, 0, hc, .inr ⟨i, rfl, by omega, rfl, .inl ⟨htr, rfl⟩⟩⟩, ?_⟩
      rw [hl]
      exact hS
  · rw [if_neg h0] at hnm
    injection hnm with hx hnm
    injection hnm with ho he
    subst hx ho he
    have e10 : (if (0 : Int) = 0 then (10 : Int) else 0) = 10 := rfl
    rw [e10] at hS
    have hb : ((10 : Int) == 0) = false := rfl
    (try simp only [eqlf_29, condF, o_chk, fa_76_1, Nat.zero_add, cv_21_3, o_lss])
    refine (rOpen Z hS).mono fun r w3 ⟨hr, hw⟩ => ?_
    subst hr; subst hw
    (try simp only [hb, o_not, Bool.not_false, condT])
    exact ⟨[], 0, 10, ⟨-1, 0, 10, by unfold ctV; rw [if_neg h0]; rfl, .inl ⟨by omega, rfl, rfl, rfl, by omega⟩⟩, hS.own_nil 9 1⟩
end
end Go.Proofs.YthobnaagjhooeaaDoor
