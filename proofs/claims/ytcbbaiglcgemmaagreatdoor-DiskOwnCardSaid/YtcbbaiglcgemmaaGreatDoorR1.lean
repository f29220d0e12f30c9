
/- The document's disk: Name, At, Sum, with. -/
import Derived.Test.YtcbbaiglcgemmaaGreatDoorD11
set_option linter.unusedVariables false
set_option linter.unusedSimpArgs false
namespace Go.Proofs.YtcbbaiglcgemmaaGreatDoor
open Go.Sh
def rcells (v : Value) (d : Dk) : List Value := [.int .i64 d.room, v, .bool d.on, .bool d.armed, .int .i64 d.more, .int .i64 d.writes]
def Fls (v : Value) (L : List (Fil × Value)) : HProp := own 71 3 v L.length (L.flatMap fc)
def RefM (g : Nat) (d : Dk) : HProp := fun h => ∃ v L, (L.map (·.1) = d.fs) ∧ sep (blk g 87 (rcells v d)) (sep (Fls v L) (satH (L.map fb))) h
section
variable {o w : World} {R As : List HProp} {g : Nat} {d : Dk}
theorem RefM.open (h : St o w (RefM g d :: R)) : ∃ v L, L.map (·.1) = d.fs ∧ St o w (blk g 87 (rcells v d) :: Fls v L :: satH (L.map fb) :: R) := by
  obtain ⟨v, h⟩ := h.ex
  obtain ⟨L, h⟩ := h.ex
  obtain ⟨hL, h⟩ := h.pure
  exact ⟨v, L, hL, h.sep.swap.sep.pick 2⟩
theorem RefM.shut {v : Value} {L : List (Fil × Value)} (hL : L.map (·.1) = d.fs) (h : St o w (blk g 87 (rcells v d) :: Fls v L :: satH (L.map fb) :: R)) : St o w (RefM g d :: R) :=
  (((((h.pick 2).pick 2).sep_intro.swap.sep_intro).pure_intro hL).ex_intro L).ex_intro v
theorem Fls.ix {v : Value} {L : List (Fil × Value)} (h : St o w As) (hm : Fls v L ∈ As) (i : Nat) (hi : i < L.length) :
    ∃ b q, (∀ w, (Instr.indexAt 22 v (.int .i64 i)).run Tryz.prog w = .ok (.pointer (some ⟨b, q, none⟩)) w) ∧ ∀ w' As', St o w' As' → Fls v L ∈ As' → ∀ j u, (fc L[i])[j]? = some u → w'.cell? ⟨b, q + j, none⟩ = some u := by
  obtain ⟨b, q, hp, hc⟩ := (h.own_rd hm).adr el22 .i64 i hi
  rw [fc_cut hi] at hc
  exact ⟨b, q, hp, fun w' As' h' hm' => hc w' (h'.own_rd hm')⟩
theorem Fls.form {v : Value} {L : List (Fil × Value)} (h : St o w As) (hm : Fls v L ∈ As) : ∃ a c, v = .slice a L.length c := (h.own_rd hm).form
end
section
variable (Z : List PanicEntry → World → Prop) {o w : World} {R As : List HProp} {g u : Nat} {d : Dk} {v : Value} {L : List (Fil × Value)}
theorem rName (s : Bs) (hs : s.length ≤ 9223372036854775806) : CallV Tryz.prog Z 27 #[.string (str s)] w fun r w' => r = .bool (nameOk s) ∧ w' = w := by
  refine f27.calls ?_
  unfold f27.sh
  refine ⟨fun m y w' => ∃ i : Nat, y = .int .i64 i ∧ m + i = s.length ∧ (s.take i).all okc = true ∧ w' = w, ⟨s.length, 0, rfl, rfl, rfl, rfl⟩, ?_⟩
  rintro m _ w1 ⟨i, rfl, hi, hall, rfl⟩ _
  refine r1 (run_lenStr st9 _ rfl _ _ _) ?_
  rw [str_size]
  by_cases hlt : (i : Int) < (s.length : Int)
  · have hil : i < s.length := by omega
    (try simp only [o_add, ln_9_3, o_geq, o_lss, hlt, decide_true, condT])
    refine r1 (run_indexStr st9 .i64 s i hil _) ?_
    have hb := s[i].toNat_lt
    have hok : okc s[i] = true → ∃ n_2, n_2 < m ∧ ∃ i_1 : Nat, Value.int .i64 (IntKind.i64.wrap ((i : Int) + 1)) = .int .i64 i_1 ∧ n_2 + i_1 = s.length ∧ (s.take i_1).all okc = true ∧ True := fun h => by
      rw [wr_i64 (x := (i : Int) + 1) (by omega) (by omega)]
      refine ⟨m - 1, by omega, i + 1, rfl, by omega, ?_, trivial⟩
      rw [List.take_succ_eq_append_getElem hil, List.all_append, hall]
      simp [h]
    have hno : okc s[i] = false → Value.bool false = .bool (nameOk s) ∧ True := fun h => by
      refine ⟨?_, trivial⟩
      have : s.all okc = false := by
        rw [List.all_eq_false]
        exact ⟨s[i], List.getElem_mem hil, by simp [h]⟩
      simp [nameOk, this]
    have ixe : ∀ w (kk : Value → World → Prop), run1 Tryz.prog Z (Instr.index 9 (.string (str s)) (.int .i64 i)) w kk = kk (.int .u8 (s[i].toNat : Int)) w := fun w kk => r1_eq fun w => run_indexStr st9 .i64 s i hil w
    obtain ⟨b, hbe⟩ : ∃ b, s[i].toNat = b := ⟨_, rfl⟩
    rw [hbe] at hb ixe ⊢
    have no3 : b ≠ 46 → ¬ (97 ≤ b ∧ b ≤ 122) → ¬ (48 ≤ b ∧ b ≤ 57) → okc s[i] = false := fun h1 h2 h3 => by unfold okc; rw [hbe]; simp; omega
    have ok1 : (97 ≤ b ∧ b ≤ 122) ∨ (48 ≤ b ∧ b ≤ 57) ∨ b = 46 → okc s[i] = true := fun h => by unfold okc; rw [hbe]; simp; omega
    have c1 : (97 : Int) ≤ (b : Int) ∧ ((b : Int) ≤ 122) ∨ (97 : Int) ≤ (b : Int) ∧ ¬ ((b : Int) ≤ 122) ∨ ¬ (97 : Int) ≤ (b : Int) := by omega
    have c2 : (48 : Int) ≤ (b : Int) ∧ ((b : Int) ≤ 57) ∨ (48 : Int) ≤ (b : Int) ∧ ¬ ((b : Int) ≤ 57) ∨ ¬ (48 : Int) ≤ (b : Int) := by omega
    rcases c1 with ⟨h1, h2⟩ | ⟨h1, h2⟩ | h1
    · rcases c2 with ⟨h3, h4⟩ | ⟨h3, h4⟩ | h3
      · omega
      · (try simp only [ixe, o_geq, h3, decide_true, o_pickT, guardW_true, o_leq, h4, decide_false, h1, h2, o_not, Bool.not_true, o_pickF, condF, guardW_ft])
        exact hok (ok1 (.inl (by omega)))
      · omega
    · rcases c2 with ⟨h3, h4⟩ | ⟨h3, h4⟩ | h3
      · omega
      · (try simp only [ixe, o_geq, h3, decide_true, o_pickT, guardW_true, o_leq, h4, decide_false, h1, h2, o_not, Bool.not_false, o_neq, cond_bne])
        exact ⟨fun h => hno (no3 (by omega) (by omega) (by omega)), fun h => hok (ok1 (.inr (.inr (by omega))))⟩
      · omega
    · rcases c2 with ⟨h3, h4⟩ | ⟨h3, h4⟩ | h3
      · (try simp only [ixe, o_geq, h3, decide_true, o_pickT, guardW_true, o_leq, h4, h1, decide_false, o_pickF, o_not, Bool.not_false, Bool.not_true, condF, guardW_ft])
        exact hok (ok1 (.inr (.inl (by omega))))
      · (try simp only [ixe, o_geq, h3, decide_true, o_pickT, guardW_true, o_leq, h4, decide_false, h1, o_pickF, o_not, Bool.not_false, o_neq, cond_bne, guardW_ft])
        exact ⟨fun h => hno (no3 (by omega) (by omega) (by omega)), fun h => hok (ok1 (.inr (.inr (by omega))))⟩
      · (try simp only [ixe, o_geq, h3, decide_false, o_pickF, guardW_ft, h1, o_not, Bool.not_false, o_pickT, guardW_true, o_neq, cond_bne])
        exact ⟨fun h => hno (no3 (by omega) (by omega) (by omega)), fun h => hok (ok1 (.inr (.inr (by omega))))⟩
  · (try simp only [o_add, ln_9_3, o_geq, o_lss, hlt, decide_false, condF])
    obtain rfl : i = s.length := by omega
    rw [List.take_length] at hall
    rw [str_size]
    unfold nameOk
    rw [hall]
    by_cases h1 : (1 : Int) ≤ (s.length : Int)
    · (try simp only [h1, decide_true, o_pickT, guardW_true, ln_9_3, str_size, o_leq])
      refine ⟨?_, trivial⟩
      have h1' : 1 ≤ s.length := by omega
      simp [h1']
      omega
    · (try simp only [h1, decide_false, o_pickF, guardW_ft])
      refine ⟨?_, trivial⟩
      have h1' : ¬ 1 ≤ s.length := by omega
      simp [h1']
theorem rAt (n : Bs) (h : St o w (blk g 87 (rcells v d) :: Fls v L :: R)) (hl : L.length ≤ 1000000) (hs : Srt (L.map (·.1))) :
    CallV Tryz.prog Z 28 #[.pointer (some ⟨g, 0, none⟩), .string (str n)] w fun r w' => r = .int .i64 (if isAt (L.map (·.1)) n then (ix (L.map (·.1)) n : Int) else -1) ∧ w' = w := by
  obtain ⟨va, vc, hvf⟩ := Fls.form h m1
  refine f28.calls ?_
  unfold f28.sh
  refine ⟨fun m y w' => ∃ i : Nat, y = .int .i64 i ∧ m + i = L.length ∧ (∀ j (hj : j < L.length), j < i → L[j].1.nm ≠ n) ∧ w' = w, ⟨L.length, 0, rfl, rfl, fun j _ hj => by omega, rfl⟩, ?_⟩
  rintro m _ w1 ⟨i, rfl, hi, hno, rfl⟩ _
  (try simp only [o_add, o_chk, fa_87_1, Nat.zero_add])
  refine r_load one22 (h.at m0 1 rfl) ?_
  rw [hvf]
  by_cases hlt : (i : Int) < (L.length : Int)
  · have hil : i < L.length := by omega
    (try simp only [ln_22_3, o_lss, hlt, decide_true, condT])
    refine r_load one22 (h.at m0 1 rfl) ?_
    obtain ⟨b, q, hp, hc⟩ := Fls.ix h m1 i hil
    refine r1 (hp _) ?_
    (try simp only [fa_71_0, Nat.add_zero])
    refine r_load one9 (hc w1 _ h m1 0 _ rfl) (r1 (run_eql_strS _ _ _ _ _ _) ?_)
    by_cases hb : L[i].1.nm = n
    · have hb' : (L[i].1.nm == n) = true := by simp [hb]
      (try simp only [hb, decide_true, condT])
      have hf : (L.map (·.1))[i]'(by simpa using hil) = L[i].1 := by simp
      have h1 : ix (L.map (·.1)) n = i := by rw [← hb, ← hf]; exact hs.ix_at (by simpa using hil)
      have h2 : isAt (L.map (·.1)) n = true := (isAt_iff hs n).2 ⟨L[i].1, List.mem_map_of_mem (List.getElem_mem hil), hb⟩
      rw [h2, h1]
      exact ⟨rfl, trivial⟩
    · have hb' : (L[i].1.nm == n) = false := by simp [hb]
      (try simp only [hb, decide_false, condF])
      rw [wr_i64 (x := (i : Int) + 1) (by omega) (by omega)]
      refine ⟨m - 1, by omega, i + 1, rfl, by omega, fun j hj hj2 => ?_, trivial⟩
      rcases Nat.lt_or_ge j i with h1 | h1
      · exact hno j hj h1
      · obtain rfl : j = i := by omega
        exact hb
  · obtain rfl : i = L.length := by omega
    (try simp only [ln_22_3, o_lss, hlt, decide_false, condF])
    have h2 : isAt (L.map (·.1)) n = false := by
      cases hb : isAt (L.map (·.1)) n with
      | false => rfl
      | true =>
        obtain ⟨f, hf, hn⟩ := (isAt_iff hs n).1 hb
        obtain ⟨p, hp, rfl⟩ := List.mem_map.1 hf
        obtain ⟨j, hj, rfl⟩ := List.getElem_of_mem hp
        exact absurd hn (hno j hj hj)
    rw [h2]
    exact ⟨rfl, trivial⟩
theorem rSum {x : Value} {l : List (Fi × Value)} (hx : RdF w x l) (hl : l.length ≤ 1000000) (hb : (l.map fun p => p.1.by_.length).sum ≤ 1000000000000) : CallV Tryz.prog Z 29 #[x] w fun r w' => r = .int .i64 ((l.map fun p => p.1.by_.length).sum : Nat) ∧ w' = w := by
  obtain ⟨xa, xc, hxf⟩ := hx.1.form
  refine f29.calls ?_
  unfold f29.sh
  refine ⟨fun m s y w' => ∃ i : Nat, y = .int .i64 i ∧ s = .int .i64 (((l.take i).map fun p => p.1.by_.length).sum : Nat) ∧ m + i = l.length ∧ w' = w, ⟨l.length, 0, rfl, rfl, rfl, rfl⟩, ?_⟩
  rintro m _ _ w1 ⟨i, rfl, rfl, hi, rfl⟩ _
  by_cases hlt : (i : Int) < (l.length : Int)
  · have hil : i < l.length := by omega
    rw [hxf]
    (try simp only [o_add, ln_22_3, o_lss, hlt, decide_true, condT])
    rw [← hxf]
    obtain ⟨b, q, hp, hc⟩ := hx.ix i hil
    refine r1 (hp _) ?_
    (try simp only [fa_71_1])
    refine r_load one58 (hc w1 hx 1 _ rfl) ?_
    obtain ⟨ba, bc, hbf⟩ := (hx.2 l[i] (List.getElem_mem hil)).form
    rw [hbf]
    (try simp only [ln_58_3, o_add])
    have hsplit : (l.map fun p => p.1.by_.length).sum = ((l.take i).map fun p => p.1.by_.length).sum + ((l.drop i).map fun p => p.1.by_.length).sum := by rw [← List.sum_append, ← List.map_append, List.take_append_drop]
    have hcons : ((l.drop i).map fun p => p.1.by_.length).sum = l[i].1.by_.length + ((l.drop (i + 1)).map fun p => p.1.by_.length).sum := by rw [List.drop_eq_getElem_cons hil, List.map_cons, List.sum_cons]
    rw [wr_i64 (x := (i : Int) + 1) (by omega) (by omega), wr_i64 (x := (((l.take i).map fun p => p.1.by_.length).sum : Nat) + (l[i].1.by_.length : Int)) (by omega) (by omega)]
    refine ⟨m - 1, by omega, i + 1, rfl, ?_, by omega, trivial⟩
    rw [List.take_succ_eq_append_getElem hil, List.map_append, List.sum_append]
    simp
  · obtain rfl : i = l.length := by omega
    rw [hxf]
    (try simp only [o_add, ln_22_3, o_lss, hlt, decide_false, condF])
    rw [List.take_length]
    exact ⟨rfl, trivial⟩
end
end Go.Proofs.YtcbbaiglcgemmaaGreatDoor
