/- Reference 15: what a kind names as letters; Check. -/
import Derived.Test.YtfijkedmbaghmaaGreatDoorG7
import Derived.Test.YtfijkedmbaghmaaGreatDoorT30
import Derived.Test.YtfijkedmbaghmaaGreatDoorShIns
set_option linter.unusedVariables false
set_option linter.unusedSimpArgs false
namespace Go.Proofs.YtfijkedmbaghmaaGreatDoor
open Go.Sh
def pLets (kd : Int) : List UInt8 :=
  if kd = 1 then [99, 101] else if kd = 2 ∨ kd = 8 then [99, 108, 112, 101] else if kd = 3 then [99, 108, 112, 101, 117, 122, 111] else if kd = 4 ∨ kd = 9 ∨ kd = 11 ∨ kd = 12 then [99, 108, 112, 122]
  else if kd = 5 ∨ kd = 10 then [99, 108, 112, 118, 116] else if kd = 6 then [99, 108, 112, 102, 98] else if kd = 7 then [99, 108, 112, 101, 122] else if kd = 13 then [99, 108, 112, 116] else if kd = 14 then [99, 108, 112, 115] else []
def ltr : Nat → Int
  | 0 => 99
  | 1 => 108
  | 2 => 112
  | 3 => 101
  | 4 => 117
  | 5 => 122
  | 6 => 118
  | 7 => 111
  | 8 => 102
  | 9 => 116
  | 10 => 98
  | _ => 115
def pHas (l : List UInt8) (n : Int) : Bool := l.any fun b => (b.toNat : Int) == n
theorem pHas_fin : ∀ K : Fin 15, ∀ i : Fin 12, pHas (pLets K.1) (ltr i.1) = hasF K.1 i.1 := by decide +kernel
theorem pHas_lets {kd : Int} (h : isKd kd = true) {i : Nat} (hi : i < 12) : pHas (pLets kd) (ltr i) = hasF kd.toNat i := by
  have hK := isKd_le h
  have h0 : 0 ≤ kd := by simp [isKd] at h; omega
  have := pHas_fin ⟨kd.toNat, by omega⟩ ⟨i, hi⟩
  have e : ((kd.toNat : Nat) : Int) = kd := by omega
  rw [← this]
  simp only [e]
theorem pLets_nil {kd : Int} : pLets kd = [] ↔ isKd kd = false := by
  constructor
  · intro h
    cases hk : isKd kd with
    | false => rfl
    | true =>
      simp [isKd] at hk
      have : kd = 1 ∨ kd = 2 ∨ kd = 3 ∨ kd = 4 ∨ kd = 5 ∨ kd = 6 ∨ kd = 7 ∨ kd = 8 ∨ kd = 9 ∨ kd = 10 ∨ kd = 11 ∨ kd = 12 ∨ kd = 13 ∨ kd = 14 := by omega
      rcases this with rfl | rfl | rfl | rfl | rfl | rfl | rfl | rfl | rfl | rfl | rfl | rfl | rfl | rfl <;> exact absurd h (by decide)
  · intro h
    simp [isKd] at h
    unfold pLets
    have h1 : kd ≠ 1 := by omega
    have h2 : ¬ (kd = 2 ∨ kd = 8) := by omega
    have h3 : kd ≠ 3 := by omega
    have h4 : ¬ (kd = 4 ∨ kd = 9 ∨ kd = 11 ∨ kd = 12) := by omega
    have h5 : ¬ (kd = 5 ∨ kd = 10) := by omega
    have h6 : kd ≠ 6 := by omega
    have h7 : kd ≠ 7 := by omega
    have h8 : kd ≠ 13 := by omega
    have h9 : kd ≠ 14 := by omega
    rw [if_neg h1, if_neg h2, if_neg h3, if_neg h4, if_neg h5, if_neg h6, if_neg h7, if_neg h8, if_neg h9]
section
variable (Z : List PanicEntry → World → Prop) {o w : World} {R As : List HProp} {g : Nat} {p : Pk}
theorem pLettersC (kd : Int) : CallV Tryz.prog Z 37 #[.int .i8 kd] w fun r w' => r = .string (str (pLets kd)) ∧ w' = w := by
  refine f37.calls ?_
  unfold f37.sh
  intro j1 hj1
  by_cases hk : isKd kd = true
  · simp [isKd] at hk
    have : kd = 1 ∨ kd = 2 ∨ kd = 3 ∨ kd = 4 ∨ kd = 5 ∨ kd = 6 ∨ kd = 7 ∨ kd = 8 ∨ kd = 9 ∨ kd = 10 ∨ kd = 11 ∨ kd = 12 ∨ kd = 13 ∨ kd = 14 := by omega
    have T : ∀ a : Int, (a == a) = true := fun a => by simp
    rcases this with rfl | rfl | rfl | rfl | rfl | rfl | rfl | rfl | rfl | rfl | rfl | rfl | rfl | rfl
    all_goals ((try simp only [o_eql, Int.reduceBEq, condF, beq_self_eq_true, condT]); repeat (intro j hj; skip; refine hj _ _ fun _ => ?_; (try simp only [condT, condF])))
    all_goals first | exact ⟨rfl, rfl⟩ | exact ⟨rfl, trivial⟩
  · have hk : isKd kd = false := by simpa using hk
    have hl := pLets_nil.2 hk
    simp [isKd] at hk
    have n : ∀ j : Int, 1 ≤ j → j ≤ 14 → (kd == j) = false := fun j h1 h2 => by simp; omega
    (try simp only [o_eql, n 14 (by omega) (by omega), condF, n 13 (by omega) (by omega), n 7 (by omega) (by omega), n 6 (by omega) (by omega), n 10 (by omega) (by omega), n 5 (by omega) (by omega), n 12 (by omega) (by omega), n 11 (by omega) (by omega), n 9 (by omega) (by omega), n 4 (by omega) (by omega), n 3 (by omega) (by omega), n 8 (by omega) (by omega), n 2 (by omega) (by omega), n 1 (by omega) (by omega)])
    repeat (intro j hj; refine hj _ _ fun _ => ?_; (try simp only [condF]))
    refine hj1 _ fun _ => ?_
    rw [hl]
    exact ⟨rfl, rfl⟩
theorem pHasC (l : List UInt8) (n : Int) (hl : l.length ≤ 1000000) : CallV Tryz.prog Z 39 #[.string (str l), .int .u8 n] w fun r w' => r = .bool (pHas l n) ∧ w' = w := by
  refine f39.calls ?_
  unfold f39.sh
  refine ⟨fun m y w' => ∃ i : Nat, y = .int .i64 i ∧ m + i = l.length ∧ pHas (l.take i) n = false ∧ w' = w, ⟨l.length, 0, rfl, rfl, rfl, rfl⟩, ?_⟩
  rintro m _ w2 ⟨i, rfl, hi, hno, hw⟩ _
  subst hw
  by_cases hlt : (i : Int) < (l.length : Int)
  · have hil : i < l.length := by omega
    (try simp only [o_add, ln_9_3, str_size, o_lss, hlt, decide_true, condT])
    refine r1 (run_indexStr (by kernel_rfl) .i64 l i hil _) ?_
    refine r1 (run_eql_int _ _ _ _ _ _ _ _) ?_
    have e : l = l.take i ++ (l[i] :: l.drop (i + 1)) := by rw [← List.drop_eq_getElem_cons hil, List.take_append_drop]
    cases hb : ((l[i].toNat : Int) == n) with
    | true =>
      (try simp only [condT])
      refine ⟨?_, by first | rfl | trivial⟩
      have : pHas l n = true := List.any_eq_true.2 ⟨l[i], List.getElem_mem hil, hb⟩
      rw [this]
    | false =>
      (try simp only [condF])
      rw [wr_i64 (x := (i : Int) + 1) (by omega) (by omega)]
      refine ⟨m - 1, by omega, i + 1, rfl, by omega, ?_, by first | rfl | trivial⟩
      have : l.take (i + 1) = l.take i ++ [l[i]] := by rw [List.take_add_one, List.getElem?_eq_getElem hil]; rfl
      rw [this]
      unfold pHas at hno ⊢
      rw [List.any_append, hno]
      simp [hb]
  · (try simp only [o_add, ln_9_3, str_size, o_lss, hlt, decide_false, condF])
    refine ⟨?_, by first | rfl | trivial⟩
    rw [List.take_of_length_le (by omega)] at hno
    rw [hno]
theorem connC2 (a b : Int) (is : Bool) (h : St o w R) : CallV Tryz.prog Z 38 #[.agg (zx a b).toArray, .bool is] w fun r w' => r = .bool (if is then cnOk a b else ((a == 0) && (b == 0))) ∧ St o w' R := by
  refine f38.calls ?_
  unfold f38.sh
  refine r_box _ _ h fun g w1 hS => ?_
  have hS : St o w1 (blk g 25 (zx a b) :: R) := hS
  cases is with
  | true =>
    (try simp only [fa_25_1, Nat.zero_add, fa_25_0, Nat.add_zero, condT])
    refine r_load one23 (hS.at m0 0 rfl) ?_
    by_cases h1 : 0 < a
    · (try simp only [o_gtr, h1, decide_true, o_pickT, guardW_true])
      refine r_load one23 (hS.at m0 1 rfl) ?_
      (try simp only [o_gtr])
      exact ⟨by simp [cnOk, h1], hS.drop⟩
    · (try simp only [o_gtr, h1, decide_false, o_pickF, guardW_ft])
      exact ⟨by simp [cnOk, h1], hS.drop⟩
  | false =>
    (try simp only [fa_25_1, Nat.zero_add, fa_25_0, Nat.add_zero, condF])
    refine r_load one23 (hS.at m0 0 rfl) ?_
    refine r1 (run_eql_int _ _ _ _ _ _ _ _) ?_
    cases h1 : (a == 0) with
    | true =>
      (try simp only [o_pickT, guardW_true])
      refine r_load one23 (hS.at m0 1 rfl) ?_
      (try simp only [o_eql])
      exact ⟨by simp, hS.drop⟩
    | false =>
      (try simp only [o_pickF, guardW_ft])
      exact ⟨by simp, hS.drop⟩
theorem zxidC2 (a b : Int) (is : Bool) (h : St o w R) : CallV Tryz.prog Z 40 #[.agg (zx a b).toArray, .bool is] w fun r w' => r = .bool (((a == 0) && (b == 0)) || (is && (decide (0 < a) && (decide (a ≤ 2147483647) && decide (0 < b))))) ∧ St o w' R := by
  refine f40.calls ?_
  unfold f40.sh
  refine r_box _ _ h fun g w1 hS => ?_
  have hS : St o w1 (blk g 27 (zx a b) :: R) := hS
  (try simp only [fa_27_1, Nat.zero_add, fa_27_0, Nat.add_zero])
  refine r_load one23 (hS.at m0 0 rfl) ?_
  refine r1 (run_eql_int _ _ _ _ _ _ _ _) ?_
  cases h1 : (a == 0) with
  | true =>
    (try simp only [o_pickT, guardW_true])
    refine r_load one23 (hS.at m0 1 rfl) ?_
    refine r1 (run_eql_int _ _ _ _ _ _ _ _) ?_
    cases h2 : (b == 0) with
    | true =>
      (try simp only [o_pickT, guardW_tf, guardW_u])
      exact ⟨by simp, hS.drop⟩
    | false =>
      have h3 : ¬ 0 < a := by have : a = 0 := by simpa using h1
                              omega
      cases is with
      | false =>
        (try simp only [o_pickF, guardW_ff, guardW_ft])
        exact ⟨by simp, hS.drop⟩
      | true =>
        (try simp only [o_pickF, guardW_ff, o_pickT, guardW_true])
        refine r_load one23 (hS.at m0 0 rfl) ?_
        (try simp only [h3, decide_false, o_gtr, o_pickF, guardW_ft])
        exact ⟨by simp [h3], hS.drop⟩
  | false =>
    (try simp only [o_pickF, guardW_ff, guardW_ft])
    cases is with
    | false =>
      (try simp only [o_pickF, guardW_ft])
      exact ⟨by simp, hS.drop⟩
    | true =>
      (try simp only [o_pickT, guardW_true])
      refine r_load one23 (hS.at m0 0 rfl) ?_
      by_cases h3 : 0 < a
      · (try simp only [h3, decide_true, o_gtr, o_pickT, guardW_true])
        refine r_load one23 (hS.at m0 0 rfl) ?_
        by_cases h4 : a ≤ 2147483647
        · (try simp only [h4, decide_true, o_leq, o_pickT, guardW_true])
          refine r_load one23 (hS.at m0 1 rfl) ?_
          (try simp only [o_gtr])
          exact ⟨by simp [h3, h4], hS.drop⟩
        · (try simp only [h4, decide_false, o_leq, o_pickF, guardW_ft])
          exact ⟨by simp [h4], hS.drop⟩
      · (try simp only [h3, decide_false, o_gtr, o_pickF, guardW_ft])
        exact ⟨by simp [h3], hS.drop⟩
end
end Go.Proofs.YtfijkedmbaghmaaGreatDoor
