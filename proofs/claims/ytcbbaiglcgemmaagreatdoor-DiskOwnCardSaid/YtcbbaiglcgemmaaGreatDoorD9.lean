
/- Disks: Names, Cut, Arm, Writes. -/
import Derived.Test.YtcbbaiglcgemmaaGreatDoorD8
set_option linter.unusedVariables false
set_option linter.unusedSimpArgs false
namespace Go.Proofs.YtcbbaiglcgemmaaGreatDoor
open Go.Sh
def nmV (f : Fil) : Value := .string (str f.nm)
theorem set_in {A x C : List Value} {k j : Nat} (hA : A.length = k) (hj : j < x.length) (u : Value) : (A ++ (x ++ C)).set (k + j) u = A ++ (x.set j u ++ C) := by
  rw [List.set_append_right _ _ (by omega), hA, show k + j - k = j by omega, List.set_append_left _ _ hj]
theorem fc_set2 {L : List (Fil × Value)} {i : Nat} (hi : i < L.length) (u1 u2 : Value) (q' : Fil × Value) (hq : fc q' = ((fc L[i]).set 1 u1).set 2 u2) : ((L.flatMap fc).set (i * 3 + 1) u1).set (i * 3 + 2) u2 = (L.set i q').flatMap fc := by
  have e0 : L = L.take i ++ L[i] :: L.drop (i + 1) := by simp
  have e4 : ((L.take i).flatMap fc).length = i * 3 := by rw [fc_flat, List.length_take]; omega
  have e1 : L.flatMap fc = (L.take i).flatMap fc ++ (fc L[i] ++ (L.drop (i + 1)).flatMap fc) := by
    conv => lhs; rw [e0]
    rw [List.flatMap_append, List.flatMap_cons]
  have e2 : L.set i q' = L.take i ++ q' :: L.drop (i + 1) := List.set_eq_take_append_cons_drop .. |>.trans (if_pos hi)
  have h3 : (fc L[i]).length = 3 := rfl
  rw [e2, e1, List.flatMap_append, List.flatMap_cons, set_in e4 (by omega) u1, set_in e4 (by rw [List.length_set]; omega) u2, hq]
theorem fb_cut {q : Fil × Value} {f0 : Fil} {va : Option Addr} {m n vc : Nat} {nm : Bs} {s : Nat} {h : Hp} (hv : q.2 = .slice va n vc) (hf : f0 = ⟨nm, q.1.by_.take m, s⟩) (hm : m ≤ q.1.by_.length) (hb : fb q h) : fb (f0, .slice va m vc) h := by
  subst hf
  obtain ⟨hl, hA⟩ := hb
  have e : (q.1.by_.take m).length = m := by rw [List.length_take]; omega
  have ec : cb (q.1.by_.take m) = (cb q.1.by_).take m := by simp [cb, List.map_take]
  refine ⟨by show (cb (q.1.by_.take m)).length = (q.1.by_.take m).length * 1; rw [cb_length]; omega, ?_⟩
  rcases hA with ⟨h1, h2⟩ | ⟨g, cap, rest, h1, a1, a2, a3, a4⟩
  · left
    rw [hv] at h1
    injection h1 with h1 h3 h4
    subst h1 h4
    have : m = 0 := by omega
    subst this
    exact ⟨rfl, e⟩
  · right
    rw [hv] at h1
    injection h1 with h1 h3 h4
    subst h1 h4
    refine ⟨g, vc, (cb q.1.by_).drop m ++ rest, by rw [e], by rw [e]; omega, a2, ?_, ?_⟩
    · show (cb (q.1.by_.take m) ++ ((cb q.1.by_).drop m ++ rest)).length = _
      rw [ec, ← List.append_assoc, List.take_append_drop]; exact a3
    · show blk g _ (cb (q.1.by_.take m) ++ ((cb q.1.by_).drop m ++ rest)) h
      rw [ec, ← List.append_assoc, List.take_append_drop]; exact a4
section
variable (Z : List PanicEntry → World → Prop) {o w : World} {R As : List HProp} {g u : Nat} {d : Dk} {v : Value} {L : List (Fil × Value)}
theorem dNames (h : St o w (DiskM g d :: R)) : CallV Tryz.prog Z 12 #[.pointer (some ⟨g, 0, none⟩)] w fun r w' => St o w' (own 9 1 r d.fs.length (d.fs.map nmV) :: DiskM g d :: R) := by
  obtain ⟨v, L, hk, hL, hS⟩ := DiskM.open h
  have hlen : L.length = d.fs.length := by rw [← hL, List.length_map]
  have hmany := hk.many
  unfold DiskO at hS
  refine f12.calls ?_
  unfold f12.sh
  refine (dZero Z hS m0).mono fun r w1 ⟨hr, hw⟩ => ?_
  subst hr; subst hw
  (try simp only [o_chk, fa_79_0, Nat.add_zero, fa_77_0, condF])
  refine r_load one75 (hS.at m0 0 rfl) ?_
  obtain ⟨va, vc, hvf⟩ := Fils.form hS m1
  rw [hvf]
  (try simp only [ln_75_3])
  rw [← hvf]
  refine ⟨fun m a y w' => ∃ i : Nat, y = .int .i64 i ∧ m + i = L.length ∧ St o w' (own 9 1 a i ((L.take i).map fun p => nmV p.1) :: blk g 79 (dcells v (total d.fs) d) :: Fils v L :: satH (L.map fb) :: R), ⟨L.length, 0, rfl, rfl, hS.own_nil 9 1⟩, ?_⟩
  clear hS
  rintro m a _ w2 ⟨i, rfl, hi, hS⟩ _
  by_cases hlt : (i : Int) < (L.length : Int)
  · have hil : i < L.length := by omega
    (try simp only [o_add, o_lss, hlt, decide_true, condT])
    obtain ⟨b, q, hp', hc⟩ := Fils.ix hS m2 i hil
    have hfo : ones (fc L[i]) := fun u hu => fc_ones (fb_one hS.drop.drop.drop) u (List.mem_flatMap.2 ⟨L[i], List.getElem_mem hil, hu⟩)
    refine r1 (hp' _) (r_loadN ag83 (xs := fc L[i]) rfl (fun j u hu => by rw [add_addr]; exact hc j u hu) ?_)
    refine r_alloc hS ze83 fun g2 w3 hS => ?_
    refine r_storeN hS ag83 (xs := fc L[i]) rfl (by simp [Value.cells]) hfo fun w4 hS => ?_
    rw [setL_all _ _ (by simp [Value.cells, fc])] at hS
    (try simp only [fa_83_0, Nat.add_zero])
    refine r_load one9 (hS.at m0 0 rfl) ?_
    refine r_push el56 (hS.pick 1) (.string (str L[i].1.nm)) rfl (by omega) (by simp only [maxLen]; omega) fun v' w5 hS => ?_
    skip
    rw [wr_i64 (x := (i : Int) + 1) (by omega) (by omega)]
    refine ⟨m - 1, by omega, i + 1, rfl, by omega, ?_⟩
    rw [List.take_succ_eq_append_getElem hil, List.map_append]
    exact hS.swap.drop
  · obtain rfl : i = L.length := by omega
    rw [List.take_length] at hS
    (try simp only [o_add, o_lss, hlt, decide_false, condF])
    have e : (L.map fun p => nmV p.1) = d.fs.map nmV := by rw [← hL, List.map_map]; rfl
    rw [e, hlen] at hS
    exact (DiskM.shut hk hL rfl (hS.put 3)).swap
theorem dWrites (h : St o w (DiskM g d :: R)) : CallV Tryz.prog Z 64 #[.pointer (some ⟨g, 0, none⟩)] w fun r w' => r = .int .i64 d.writes ∧ w' = w := by
  obtain ⟨v, L, hk, hL, hS⟩ := DiskM.open h
  unfold DiskO at hS
  refine f64.calls ?_
  unfold f64.sh
  refine (dZero Z hS m0).mono fun r w1 ⟨hr, hw⟩ => ?_
  subst hr; subst hw
  (try simp only [o_chk, fa_79_6, Nat.zero_add, condF])
  refine r_load one3 (hS.at m0 7 rfl) ?_
  exact ⟨by first | rfl | trivial, by first | rfl | trivial⟩
end
end Go.Proofs.YtcbbaiglcgemmaaGreatDoor
