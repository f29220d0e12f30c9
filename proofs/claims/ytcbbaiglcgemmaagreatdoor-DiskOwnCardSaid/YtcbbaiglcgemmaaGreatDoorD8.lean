
/- Disks: Sync, Read, Names, Arm, Writes. -/
import Derived.Test.YtcbbaiglcgemmaaGreatDoorD7
import Derived.Test.YtcbbaiglcgemmaaGreatDoorP1
set_option linter.unusedVariables false
set_option linter.unusedSimpArgs false
namespace Go.Proofs.YtcbbaiglcgemmaaGreatDoor
open Go.Sh
theorem found_ok {d : Dk} {n : Bs} (h : d.found n = 0) : d.asked [n] = 0 ∧ isAt d.fs n = true := by
  unfold Dk.found at h
  split at h
  · rename_i h1; exact absurd h h1
  rename_i h1
  split at h
  · rename_i h2; exact ⟨by simpa using h1, h2⟩
  · cases h
theorem fb_same {L : List (Fil × Value)} {i : Nat} (hi : i < L.length) (q' : Fil × Value) (h : fb q' = fb L[i]) : (L.set i q').map fb = L.map fb := by
  rw [List.map_set, h]
  apply List.ext_getElem?
  intro j
  rw [List.getElem?_set]
  split
  · rename_i e
    subst e
    simp [hi]
  · rfl
def Dk.bytes (d : Dk) (n : Bs) : Bs := ((d.fs[ix d.fs n]?).map (·.by_)).getD []
section
variable (Z : List PanicEntry → World → Prop) {o w : World} {R As : List HProp} {g u : Nat} {d : Dk} {v : Value} {L : List (Fil × Value)}
theorem dSync (n : Bs) (hn : n.length ≤ 1000000000000) (h : St o w (DiskM g d :: R)) : CallV Tryz.prog Z 33 #[.pointer (some ⟨g, 0, none⟩), .string (str n)] w fun r w' => r = .int .i64 (d.sync n).1 ∧ St o w' (DiskM g (d.sync n).2 :: R) := by
  obtain ⟨v, L, hk, hL, hS⟩ := DiskM.open h
  have hlen : L.length = d.fs.length := by rw [← hL, List.length_map]
  have z0 : ((0 : Int) != 0) = false := rfl
  refine f33.calls ?_
  unfold f33.sh
  refine (dFind Z n hn hS hL hk).mono fun r w1 ⟨hr, hS⟩ => ?_
  rcases hr with ⟨hf, rfl⟩ | ⟨hf, rfl⟩
  · have e1 : (d.found n != 0) = true := bne_iff_ne.2 hf
    (try simp only [o_chkp, fa_79_0p, Nat.add_zero, fa_77_0p, o_ext2_1, o_neq, e1, condT, o_ext2_0])
    unfold Dk.sync
    rw [if_pos hf]
    exact ⟨by first | rfl | trivial, DiskM.shut hk hL rfl hS⟩
  (try simp only [o_chkp, fa_79_0p, Nat.add_zero, fa_77_0p, o_ext2_1, o_neq, z0, condF, o_ext2_0])
  obtain ⟨hi0, hn0⟩ := isAt_some (found_ok hf).2
  have hi : ix d.fs n < L.length := by omega
  have hfi : L[ix d.fs n].1 = d.fs[ix d.fs n] := by simp only [← hL, List.getElem_map]
  unfold DiskO at hS
  refine (dWrite Z hS).mono fun r w2 ⟨hr, hS⟩ => ?_
  subst hr
  cases hst : d.stops with
  | true =>
    rw [hst, if_pos rfl] at hS
    (try simp only [Bool.not_true, o_not, Bool.not_false, condT])
    unfold Dk.sync
    rw [if_neg (by simp [hf]), if_pos hst]
    exact ⟨by first | rfl | trivial, DiskM.shut (Dk.off_ok hk) hL rfl hS⟩
  | false =>
  rw [hst, if_neg Bool.false_ne_true] at hS
  have hsy : d.sync n = (0, { d.wrote with fs := d.fs.modify (ix d.fs n) fun f => { f with sy := f.by_.length } }) := by
    unfold Dk.sync
    rw [if_neg (by simp [hf]), if_neg (by simp [hst])]
  have hok := Dk.sync_ok hk n
  rw [hsy] at hok ⊢
  (try simp only [Bool.not_false, o_not, Bool.not_true, condF])
  refine ⟨fun w3 hd => ?_⟩
  have hS := hS.drew hd
  refine rr_load one75 (hS.at m0 0 rfl) (rr_load one75 (hS.at m0 0 rfl) ?_)
  obtain ⟨b, q, hp', hc⟩ := Fils.ix hS m1 (ix d.fs n) hi
  refine rp hp' ?_
  (try simp only [fa_83_1p])
  refine rr_load one58 (hc 1 _ rfl) ?_
  obtain ⟨va, vc, hvf⟩ := (fb_rd hS.drop.drop _ hi).form
  rw [hvf]
  (try simp only [ln_58_3p])
  refine rp hp' ?_
  (try simp only [fa_83_2p])
  have hS3 : St o w3 (own 83 3 v L.length (L.flatMap fc) :: blk g 79 (dcells v (total d.fs) d.wrote) :: satH (L.map fb) :: R) := hS.swap
  refine r_store_fld hS3 el75 one3 .i64 (ix d.fs n) 2 hi (by omega) hp' rfl fun w4 hS => ?_
  rw [fc_set hi (by omega) _ (⟨L[ix d.fs n].1.nm, L[ix d.fs n].1.by_, L[ix d.fs n].1.by_.length⟩, L[ix d.fs n].2) rfl] at hS
  refine ⟨by first | rfl | trivial, ?_⟩
  refine DiskM.shut (v := v) (L := L.set (ix d.fs n) (⟨L[ix d.fs n].1.nm, L[ix d.fs n].1.by_, L[ix d.fs n].1.by_.length⟩, L[ix d.fs n].2)) (u := total d.fs) hok ?_ ?_ ?_
  · show (L.set _ _).map (·.1) = d.fs.modify _ _
    rw [List.map_set, modify_set hi0, hL, hfi]
  · show total d.fs = total (d.fs.modify _ _)
    have hs : total (d.fs.set (ix d.fs n) ⟨d.fs[ix d.fs n].nm, d.fs[ix d.fs n].by_, d.fs[ix d.fs n].by_.length⟩) + d.fs[ix d.fs n].by_.length = total d.fs + d.fs[ix d.fs n].by_.length := total_set hi0 _
    rw [modify_set hi0]; omega
  · unfold DiskO Fils
    rw [List.length_set, fb_same hi (⟨L[ix d.fs n].1.nm, L[ix d.fs n].1.by_, L[ix d.fs n].1.by_.length⟩, L[ix d.fs n].2) rfl]
    exact hS.swap
theorem copied {x : Value} {n : Nat} {l : Bs} (h : St o w R) (hx : Ent o R fun w => Rd w 1 x n (cb l)) (hl : l.length ≤ 140737488355328) :
    CallV Tryz.prog Z 37 #[x] w fun r w' => St o w' (own 5 1 r l.length (cb l) :: R) := by
  have h0 := hx w h
  have hn := rd_len h0
  obtain ⟨a, c, rfl⟩ := h0.form
  subst hn
  refine f37.calls ?_
  unfold f37.sh
  (try simp only [ln_58_3])
  refine r_make el58 h .i64 .i64 l.length (by omega) (by simp only [maxLen]; omega) fun g3 w3 hS => ?_
  obtain ⟨cap, rest, rfl, _, _, hlen, hlen2, hB⟩ := own_at hS
  simp only [Nat.mul_one] at hlen hlen2 hB
  have hrest : rest = [] := by
    rw [List.length_append] at hlen2
    exact List.eq_nil_of_length_eq_zero (by omega)
  subst hrest
  refine r_copy el58 hB (hx w3 hB.drop) (cb_ones _) (by rw [List.append_nil, hlen]; omega) fun w4 hS => ?_
  rw [Nat.min_self, Nat.mul_one, List.take_of_length_le (by rw [cb_length]; omega), setL_all _ _ (by rw [List.append_nil, hlen, cb_length])] at hS
  have hS := hS.own_mk (sz := 1) (cap := l.length) l.length (Nat.le_refl _) (by simp only [maxLen]; omega) (by rw [cb_length]; omega)
  rw [List.take_of_length_le (by rw [cb_length]; omega)] at hS
  exact hS
theorem dRead (n : Bs) (hn : n.length ≤ 1000000000000) (h : St o w (DiskM g d :: R)) : CallV Tryz.prog Z 9 #[.pointer (some ⟨g, 0, none⟩), .string (str n)] w fun r w' =>
    (d.found n ≠ 0 ∧ r = .tuple #[.slice none 0 0, .int .i64 (d.found n)] ∧ St o w' (DiskM g d :: R)) ∨ (d.found n = 0 ∧ ∃ v, r = .tuple #[v, .int .i64 0] ∧ St o w' (own 5 1 v (d.bytes n).length (cb (d.bytes n)) :: DiskM g d :: R)) := by
  obtain ⟨v, L, hk, hL, hS⟩ := DiskM.open h
  have hlen : L.length = d.fs.length := by rw [← hL, List.length_map]
  have hroom := hk.room
  have hused := hk.used
  have z0 : ((0 : Int) != 0) = false := rfl
  refine f9.calls ?_
  unfold f9.sh
  refine (dFind Z n hn hS hL hk).mono fun r w1 ⟨hr, hS⟩ => ?_
  rcases hr with ⟨hf, rfl⟩ | ⟨hf, rfl⟩
  · have e1 : (d.found n != 0) = true := bne_iff_ne.2 hf
    (try simp only [o_chk, fa_79_0, Nat.add_zero, fa_77_0, o_ext2_1, o_neq, e1, condT, o_ext2_0])
    exact .inl ⟨hf, by first | rfl | trivial, DiskM.shut hk hL rfl hS⟩
  (try simp only [o_chk, fa_79_0, Nat.add_zero, fa_77_0, o_ext2_1, o_neq, z0, condF, o_ext2_0])
  obtain ⟨hi0, hn0⟩ := isAt_some (found_ok hf).2
  have hi : ix d.fs n < L.length := by omega
  have hfi : L[ix d.fs n].1 = d.fs[ix d.fs n] := by simp only [← hL, List.getElem_map]
  have hb : d.bytes n = L[ix d.fs n].1.by_ := by unfold Dk.bytes; rw [List.getElem?_eq_getElem hi0, hfi]; rfl
  have hbl : L[ix d.fs n].1.by_.length ≤ total d.fs := by rw [hfi]; exact total_ge (List.getElem_mem hi0)
  unfold DiskO at hS
  refine r_load one75 (hS.at m0 0 rfl) ?_
  obtain ⟨b, q, hp', hc⟩ := Fils.ix hS m1 (ix d.fs n) hi
  refine r1 (hp' _) ?_
  (try simp only [fa_83_1])
  refine r_load one58 (hc 1 _ rfl) ?_
  refine (copied Z (l := L[ix d.fs n].1.by_) hS (fun w hS => fb_rd hS.drop.drop _ hi) (by omega)).mono fun r w2 hS => ?_
  refine .inr ⟨hf, r, by first | rfl | trivial, ?_⟩
  rw [hb]
  exact (DiskM.shut hk hL rfl (hS.put 3 |> fun h => by exact h)).swap
end
end Go.Proofs.YtcbbaiglcgemmaaGreatDoor
