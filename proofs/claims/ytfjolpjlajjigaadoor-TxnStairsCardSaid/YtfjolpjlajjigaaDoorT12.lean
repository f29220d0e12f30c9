/- What put lays of ids, entries and lists of them. -/
import Derived.Test.YtfjolpjlajjigaaDoorT11
import Derived.Test.YtfjolpjlajjigaaDoorP6
set_option linter.unusedVariables false
set_option linter.unusedSimpArgs false
namespace Go.Proofs.YtfjolpjlajjigaaDoor
open Go.Sh
def idB (x : Idd) : List UInt8 := encL x.sch ++ encL x.nam
def enB (x : En) : List UInt8 := enc 1 x.perms ++ idB x.who
def lsB (n : Nat) (l : List (List UInt8)) : List UInt8 := enc 4 (IntKind.i32.wrap n) ++ l.flatten
theorem encL_len (k : List UInt8) : (encL k).length = 4 + k.length := by simp [encL, enc_length]
theorem enB_ones (x : En) : ones (enC x) := by intro u hu; simp [enC, idC] at hu; rcases hu with rfl | rfl | rfl <;> rfl
theorem idB_ones (x : Idd) : ones (idC x) := by intro u hu; simp [idC] at hu; rcases hu with rfl | rfl <;> rfl
section
variable (Z : List PanicEntry → World → Prop) {o w : World} {R As : List HProp} {g : Nat} {l : List UInt8}
theorem wText' (x : List UInt8) (hl : l.length + 4 + x.length ≤ 140737488355328) (h : St o w (Wr g l :: R)) : CallV Tryd.prog Z 81 #[.pointer (some ⟨g, 0, none⟩), .string (str x)] w fun r w' => St o w' (Wr g (l ++ encL x) :: R) :=
  (wText Z (str x) hl h).mono fun r w' hS => by
    have e : l ++ enc 4 (IntKind.i32.wrap (str x).size) ++ (str x).data.toList = l ++ encL x := by rw [List.append_assoc]; rfl
    rw [e] at hS
    exact hS
theorem wId (x : Idd) (hx : idMay x = true) (hl : l.length ≤ 1000000) (h : St o w (Wr g l :: R)) : CallV Tryd.prog Z 88 #[.pointer (some ⟨g, 0, none⟩), .agg (idC x).toArray] w fun r w' => St o w' (Wr g (l ++ idB x) :: R) := by
  simp only [idMay, Bool.and_eq_true, decide_eq_true_eq] at hx
  refine f88.calls ?_
  unfold f88.sh
  refine r_box _ _ h fun gb w1 hS => ?_
  have hS : St o w1 (blk gb 103 (idC x) :: Wr g l :: R) := hS
  (try simp only [fa_103_1, Nat.zero_add, fa_103_0, Nat.add_zero])
  refine r_load one9 (hS.at m0 0 rfl) ?_
  refine (wText' Z x.sch (by omega) hS.swap).mono fun r w2 hS => ?_
  refine r_load one9 (hS.at m1 1 rfl) ?_
  refine (wText' Z x.nam (by rw [List.length_append, encL_len]; omega) hS).mono fun r w3 hS => ?_
  rw [List.append_assoc] at hS
  exact hS.swap.drop
theorem wEn (x : En) (hx : idMay x.who = true) (hl : l.length ≤ 999999) (h : St o w (Wr g l :: R)) : CallV Tryd.prog Z 84 #[.pointer (some ⟨g, 0, none⟩), .agg (enC x).toArray] w fun r w' => St o w' (Wr g (l ++ enB x) :: R) := by
  refine f84.calls ?_
  unfold f84.sh
  refine r_box _ _ h fun gb w1 hS => ?_
  have hS : St o w1 (blk gb 105 (enC x) :: Wr g l :: R) := hS
  (try simp only [fa_105_1, Nat.zero_add, fa_105_0, Nat.add_zero])
  refine r_load one27 (hS.at m0 0 rfl) ?_
  refine (wInt8 Z x.perms (by omega) hS.swap).mono fun r w2 hS => ?_
  refine r_loadN ag103 (xs := idC x.who) rfl (hS.cells_at m1 1 (fun j v hv => by rw [Nat.add_comm]; exact hv)) ?_
  refine (wId Z x.who hx (by rw [List.length_append, enc_length]; omega) hS).mono fun r w3 hS => ?_
  rw [List.append_assoc] at hS
  exact hS.swap.drop
theorem idB_len (x : Idd) (h : idMay x = true) : (idB x).length ≤ 56 := by
  simp only [idMay, Bool.and_eq_true, decide_eq_true_eq] at h
  rw [idB, List.length_append, encL_len, encL_len]; omega
theorem enB_len (x : En) (h : idMay x.who = true) : (enB x).length ≤ 57 := by
  have := idB_len x.who h
  rw [enB, List.length_append, enc_length]; omega
theorem flat_len {α : Type} (e : α → List UInt8) (n : Nat) (l : List α) (h : ∀ x ∈ l, (e x).length ≤ n) : (l.map e).flatten.length ≤ l.length * n := by
  induction l with
  | nil => simp
  | cons x l ih =>
    have h1 := ih fun y hy => h y (List.mem_cons_of_mem _ hy)
    have h2 := h x List.mem_cons_self
    rw [List.map_cons, List.flatten_cons, List.length_append, List.length_cons, Nat.add_mul]; omega
theorem flat_take {α : Type} (e : α → List UInt8) (l : List α) (i : Nat) (hi : i < l.length) : ((l.take (i + 1)).map e).flatten = ((l.take i).map e).flatten ++ e l[i] := by
  rw [List.take_succ_eq_append_getElem hi, List.map_append, List.flatten_append]; simp
theorem wIds {v : Value} (ls : List Idd) (hn : ls.length ≤ 4) (hall : ls.all idMay = true) (hl : l.length ≤ 900000) (hx : Ent o R fun w => Rd w 2 v ls.length (ls.map idC).flatten) (h : St o w (Wr g l :: R)) :
    CallV Tryd.prog Z 87 #[.pointer (some ⟨g, 0, none⟩), v, .func (.func 88) #[] #[]] w fun r w' => St o w' (Wr g (l ++ lsB ls.length (ls.map idB)) :: R) := by
  obtain ⟨a, c, rfl⟩ := (hx w h.drop).form
  refine f87.calls ?_
  unfold f87.sh
  (try simp only [ln_31_3, eqlf_119, condF, cv_3_21, eqlp_74])
  refine (wInt32 Z _ (by omega) h).mono fun r w1 hS => ?_
  skip
  refine ⟨fun m y w' => ∃ i : Nat, y = .int .i64 i ∧ m + i = ls.length ∧ St o w' (Wr g (l ++ enc 4 (IntKind.i32.wrap ls.length) ++ ((ls.take i).map idB).flatten) :: R), ⟨ls.length, 0, rfl, rfl, by simpa using hS⟩, ?_⟩
  clear hS
  rintro m _ w2 ⟨i, rfl, hi, hS⟩ _
  by_cases hlt : (i : Int) < (ls.length : Int)
  · have hil : i < ls.length := by omega
    obtain ⟨b, p, cs, hp, _, hcv, hc⟩ := (rowR_rd (c := idC) (fun x => rfl) (hx w2 hS.drop) rfl).ix el31 .i64 i hil
    subst hcv
    have hmay : idMay ls[i] = true := List.all_eq_true.1 hall _ (List.getElem_mem hil)
    have hfl := flat_len idB 56 (ls.take i) fun x hx => idB_len x (List.all_eq_true.1 hall _ (List.mem_of_mem_take hx))
    rw [List.length_take] at hfl
    (try simp only [o_add, o_lss, hlt, decide_true, condT])
    refine r1 (hp _) (r_loadN ag103 (xs := idC ls[i]) rfl (fun j u hu => by rw [add_addr]; exact hc j u hu) ?_)
    refine r_alloc hS ze103 fun ge w5 hS => ?_
    refine r_storeN hS ag103 (xs := idC ls[i]) rfl (show 0 + 2 ≤ 2 from Nat.le_refl _) (idB_ones _) fun w6 hS => ?_
    rw [setL_all _ _ (by rfl)] at hS
    refine r_loadN ag103 (xs := idC ls[i]) rfl (hS.cells_at m0 0 (whole_at _)) ?_
    refine r_callVal en88 (l1 := []) (l2 := [_, _]) (l3 := []) rfl rfl rfl ?_
    refine (wId Z ls[i] hmay (by simp only [List.length_append, enc_length]; omega) hS.swap).mono fun r w7 hS => ?_
    rw [wr_i64 (x := (i : Int) + 1) (by omega) (by omega)]
    refine ⟨m - 1, by omega, i + 1, rfl, by omega, ?_⟩
    rw [flat_take _ _ _ hil, ← List.append_assoc]
    exact hS.swap.drop
  · obtain rfl : i = ls.length := by omega
    (try simp only [o_add, o_lss, hlt, decide_false, condF])
    rw [List.take_length, List.append_assoc] at hS
    exact hS
theorem wEns {v : Value} (ls : List En) (hn : ls.length ≤ 4) (hall : ls.all (fun x => idMay x.who) = true) (hl : l.length ≤ 900000) (hx : Ent o R fun w => Rd w 3 v ls.length (ls.map enC).flatten) (h : St o w (Wr g l :: R)) :
    CallV Tryd.prog Z 83 #[.pointer (some ⟨g, 0, none⟩), v, .func (.func 84) #[] #[]] w fun r w' => St o w' (Wr g (l ++ lsB ls.length (ls.map enB)) :: R) := by
  obtain ⟨a, c, rfl⟩ := (hx w h.drop).form
  refine f83.calls ?_
  unfold f83.sh
  (try simp only [ln_30_3, eqlf_115, condF, cv_3_21, eqlp_74])
  refine (wInt32 Z _ (by omega) h).mono fun r w1 hS => ?_
  skip
  refine ⟨fun m y w' => ∃ i : Nat, y = .int .i64 i ∧ m + i = ls.length ∧ St o w' (Wr g (l ++ enc 4 (IntKind.i32.wrap ls.length) ++ ((ls.take i).map enB).flatten) :: R), ⟨ls.length, 0, rfl, rfl, by simpa using hS⟩, ?_⟩
  clear hS
  rintro m _ w2 ⟨i, rfl, hi, hS⟩ _
  by_cases hlt : (i : Int) < (ls.length : Int)
  · have hil : i < ls.length := by omega
    obtain ⟨b, p, cs, hp, _, hcv, hc⟩ := (rowR_rd (c := enC) (fun x => rfl) (hx w2 hS.drop) rfl).ix el30 .i64 i hil
    subst hcv
    have hmay : idMay ls[i].who = true := List.all_eq_true.1 hall _ (List.getElem_mem hil)
    have hfl := flat_len enB 57 (ls.take i) fun x hx => enB_len x (List.all_eq_true.1 hall _ (List.mem_of_mem_take hx))
    rw [List.length_take] at hfl
    (try simp only [o_add, o_lss, hlt, decide_true, condT])
    refine r1 (hp _) (r_loadN ag105 (xs := enC ls[i]) rfl (fun j u hu => by rw [add_addr]; exact hc j u hu) ?_)
    refine r_alloc hS ze105 fun ge w5 hS => ?_
    refine r_storeN hS ag105 (xs := enC ls[i]) rfl (show 0 + 3 ≤ 3 from Nat.le_refl _) (enB_ones _) fun w6 hS => ?_
    rw [setL_all _ _ (by rfl)] at hS
    refine r_loadN ag105 (xs := enC ls[i]) rfl (hS.cells_at m0 0 (whole_at _)) ?_
    refine r_callVal en84 (l1 := []) (l2 := [_, _]) (l3 := []) rfl rfl rfl ?_
    refine (wEn Z ls[i] hmay (by simp only [List.length_append, enc_length]; omega) hS.swap).mono fun r w7 hS => ?_
    rw [wr_i64 (x := (i : Int) + 1) (by omega) (by omega)]
    refine ⟨m - 1, by omega, i + 1, rfl, by omega, ?_⟩
    rw [flat_take _ _ _ hil, ← List.append_assoc]
    exact hS.swap.drop
  · obtain rfl : i = ls.length := by omega
    (try simp only [o_add, o_lss, hlt, decide_false, condF])
    rw [List.take_length, List.append_assoc] at hS
    exact hS
end
end Go.Proofs.YtfjolpjlajjigaaDoor
