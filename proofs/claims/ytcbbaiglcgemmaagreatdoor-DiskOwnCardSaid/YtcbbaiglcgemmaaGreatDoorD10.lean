
/- Rows of files; Disks: Image, Used; From. -/
import Derived.Test.YtcbbaiglcgemmaaGreatDoorD9
set_option linter.unusedVariables false
set_option linter.unusedSimpArgs false
namespace Go.Proofs.YtcbbaiglcgemmaaGreatDoor
open Go.Sh
structure Fi where
  nm : Bs
  by_ : Bs
  sy : Int
def fic (p : Fi × Value) : List Value := [.string (str p.1.nm), p.2, .int .i64 p.1.sy]
def Fil.fi (f : Fil) : Fi := ⟨f.nm, f.by_, f.sy⟩
def toFi (p : Fil × Value) : Fi × Value := (p.1.fi, p.2)
theorem fic_cut {L : List (Fi × Value)} {i : Nat} (hi : i < L.length) : ((L.flatMap fic).drop (i * 3)).take 3 = fic L[i] := by
  have h := flatten_cut (sz := 3) (css := L.map fic) (fun c hc => by obtain ⟨q, _, rfl⟩ := List.mem_map.1 hc; rfl) i (by rw [List.length_map]; exact hi)
  rw [List.getElem_map] at h
  exact h
theorem toFi_cells (L : List (Fil × Value)) : (L.map toFi).flatMap fic = L.flatMap fc := by
  rw [List.flatMap_map]; rfl
def RdF (w : World) (x : Value) (L : List (Fi × Value)) : Prop := Rd w 3 x L.length (L.flatMap fic) ∧ ∀ p ∈ L, Rd w 1 p.2 p.1.by_.length (cb p.1.by_)
section
variable {o w : World} {R As : List HProp}
theorem RdF.ix {x : Value} {L : List (Fi × Value)} (h : RdF w x L) (i : Nat) (hi : i < L.length) :
    ∃ b q, (∀ w, (Instr.indexAt 22 x (.int .i64 i)).run Tryz.prog w = .ok (.pointer (some ⟨b, q, none⟩)) w) ∧ ∀ w', RdF w' x L → ∀ j u, (fic L[i])[j]? = some u → w'.cell? ⟨b, q + j, none⟩ = some u := by
  obtain ⟨b, q, hp, hc⟩ := h.1.adr el22 .i64 i hi
  rw [fic_cut hi] at hc
  exact ⟨b, q, hp, fun w' h' => hc w' h'.1⟩
theorem RdF.drew {x : Value} {L : List (Fi × Value)} {w' : World} (h : RdF w x L) (hd : Drew w w') : RdF w' x L := ⟨h.1.drew hd, fun p hp => (h.2 p hp).drew hd⟩
theorem RdF.one {x : Value} {L : List (Fi × Value)} (h : RdF w x L) {i : Nat} (hi : i < L.length) : ones (fic L[i]) := by
  obtain ⟨a, c, e⟩ := (h.2 _ (List.getElem_mem hi)).form
  intro u hu
  simp only [fic, List.mem_cons, List.not_mem_nil, or_false] at hu
  rcases hu with rfl | rfl | rfl
  · rfl
  · rw [e]; rfl
  · rfl
theorem own_rdF {v : Value} {L : List (Fil × Value)} (h : St o w (own 71 3 v L.length (L.flatMap fc) :: satH (L.map fb) :: R)) : RdF w v (L.map toFi) := by
  refine ⟨by rw [toFi_cells, List.length_map]; exact h.own_rd m0, fun p hp => ?_⟩
  obtain ⟨q, hq, rfl⟩ := List.mem_map.1 hp
  obtain ⟨i, hi, rfl⟩ := List.getElem_of_mem hq
  exact fb_rd h.drop i hi
end
section
variable (Z : List PanicEntry → World → Prop) {o w : World} {R As : List HProp} {g u : Nat} {d : Dk} {v : Value} {L : List (Fil × Value)}
theorem dImage (h : St o w (DiskM g d :: R)) : CallV Tryz.prog Z 14 #[.pointer (some ⟨g, 0, none⟩)] w fun r w' => ∃ L' : List (Fil × Value), L'.map (·.1) = d.fs ∧ St o w' (own 71 3 r L'.length (L'.flatMap fc) :: satH (L'.map fb) :: DiskM g d :: R) := by
  obtain ⟨v, L, hk, hL, hS⟩ := DiskM.open h
  have hlen : L.length = d.fs.length := by rw [← hL, List.length_map]
  have hmany := hk.many
  have hused := hk.used
  have hroom := hk.room
  unfold DiskO at hS
  refine f14.calls ?_
  unfold f14.sh
  refine (dZero Z hS m0).mono fun r w1 ⟨hr, hw⟩ => ?_
  subst hr; subst hw
  (try simp only [o_chk, fa_79_0, Nat.add_zero, fa_77_0, condF])
  refine r_load one75 (hS.at m0 0 rfl) ?_
  obtain ⟨va, vc, hvf⟩ := Fils.form hS m1
  rw [hvf]
  (try simp only [ln_75_3])
  rw [← hvf]
  refine ⟨fun m a y w' => ∃ (i : Nat) (L' : List (Fil × Value)), y = .int .i64 i ∧ m + i = L.length ∧ L'.map (·.1) = (L.take i).map (·.1) ∧ St o w' (own 71 3 a i (L'.flatMap fc) :: satH (L'.map fb) :: blk g 79 (dcells v (total d.fs) d) :: Fils v L :: satH (L.map fb) :: R), ⟨L.length, 0, [], rfl, rfl, rfl, (St.all_intro (As := []) hS).own_nil 71 3⟩, ?_⟩
  clear hS
  rintro m a _ w2 ⟨i, L', rfl, hi, hL', hS⟩ _
  have hl' : L'.length = i := by have := congrArg List.length hL'; simp only [List.length_map, List.length_take] at this; omega
  by_cases hlt : (i : Int) < (L.length : Int)
  · have hil : i < L.length := by omega
    (try simp only [o_add, o_lss, hlt, decide_true, condT])
    obtain ⟨b, q, hp', hc⟩ := Fils.ix hS m3 i hil
    have hfo : ones (fc L[i]) := fun u hu => fc_ones (fb_one hS.drop.drop.drop.drop) u (List.mem_flatMap.2 ⟨L[i], List.getElem_mem hil, hu⟩)
    have hbl : L[i].1.by_.length ≤ total d.fs := total_ge (by rw [← hL]; exact List.mem_map_of_mem (List.getElem_mem hil))
    refine r1 (hp' _) (r_loadN ag83 (xs := fc L[i]) rfl (fun j u hu => by rw [add_addr]; exact hc j u hu) ?_)
    refine r_alloc hS ze83 fun g2 w3 hS => ?_
    refine r_storeN hS ag83 (xs := fc L[i]) rfl (by simp [Value.cells]) hfo fun w4 hS => ?_
    rw [setL_all _ _ (by simp [Value.cells, fc])] at hS
    (try simp only [fa_83_2p, Nat.zero_add, fa_83_1p, fa_83_0p, Nat.add_zero])
    refine ⟨fun w5 hd => ?_⟩
    have hS := hS.drew hd
    skip
    refine rr_load one9 (hS.at m0 0 rfl) ?_
    skip
    refine rr_load one58 (hS.at m0 1 rfl) ?_
    skip
    refine rr_load one3 (hS.at m0 2 rfl) ?_
    refine (copied Z (l := L[i].1.by_) hS (fun w hS => fb_rd hS.drop.drop.drop.drop.drop i hil) (by omega)).mono fun r w6 hS => ?_
    refine rs_load one3 (hS.at m1 2 rfl) (rs_load one9 (hS.at m1 0 rfl) ?_)
    obtain ⟨ra, rc, hrf⟩ := hS.own_form
    have hbu : Tryz.prog.built 71 #[(0, .string (str L[i].1.nm)), (1, r), (2, .int .i64 L[i].1.sy)].toList = some #[.string (str L[i].1.nm), r, .int .i64 L[i].1.sy] := by rw [hrf]; kernel_rfl
    refine rp_build hbu ?_
    have hro : r.oneCell' = true := by rw [hrf]; rfl
    have hqo : ones (fc (L[i].1, r)) := by
      intro u hu
      simp only [fc, List.mem_cons, List.not_mem_nil, or_false] at hu
      rcases hu with rfl | rfl | rfl
      · rfl
      · exact hro
      · rfl
    refine r_sliceN el22 hS 1 _ [fc (L[i].1, r)] rfl (by omega) (by omega) (by omega) (by simp [fc]) rfl fun g3 w7 hS => ?_
    have e1 : [fc (L[i].1, r)].flatten = fc (L[i].1, r) := by simp
    rw [e1] at hS
    refine rs_load one3 (hS.at m2 2 rfl) (rs_load one9 (hS.at m2 0 rfl) ?_)
    have hsrc := (hS.own_rd m0).src Tryz.underlying22 hqo
    refine r_append el22 (hS.pick 3) hsrc (by omega) (by simp only [maxLen]; omega) fun v' w8 hS => ?_
    refine rs_load one3 (hS.at m3 2 rfl) (rs_load one9 (hS.at m3 0 rfl) ?_)
    skip
    rw [wr_i64 (x := (i : Int) + 1) (by omega) (by omega)]
    refine ⟨m - 1, by omega, i + 1, L' ++ [(L[i].1, r)], rfl, by omega, by rw [List.map_append, hL', List.take_succ_eq_append_getElem hil, List.map_append]; rfl, ?_⟩
    rw [List.flatMap_append, List.map_append]
    have e2 : [(L[i].1, r)].flatMap fc = fc (L[i].1, r) := by simp
    rw [e2]
    have hS2 : St o w8 (satH (L'.map fb) :: fb (L[i].1, r) :: own 71 3 v' (i + 1) (L'.flatMap fc ++ fc (L[i].1, r)) :: blk g 79 (dcells v (total d.fs) d) :: Fils v L :: satH (L.map fb) :: R) := by
      have : St o w8 (own 71 3 v' (i + 1) (L'.flatMap fc ++ fc (L[i].1, r)) :: _ :: fb (L[i].1, r) :: _ :: satH (L'.map fb) :: blk g 79 (dcells v (total d.fs) d) :: Fils v L :: satH (L.map fb) :: R) := hS
      (refine Sh.St.sub ?_ (this); repeat (first | with_reducible exact sub_refl | with_reducible exact sub_nil | with_reducible refine sub_p0 ?_ | with_reducible refine sub_p1 ?_ | with_reducible refine sub_p2 ?_ | with_reducible refine sub_p3 ?_ | with_reducible refine sub_p4 ?_ | with_reducible refine sub_p5 ?_ | with_reducible refine sub_p6 ?_ | with_reducible refine sub_p7 ?_ | with_reducible refine sub_p8 ?_ | with_reducible refine sub_p9 ?_ | with_reducible refine sub_p10 ?_ | with_reducible refine sub_p11 ?_ | with_reducible refine sub_p12 ?_ | with_reducible refine sub_p13 ?_ | with_reducible refine sub_p14 ?_ | with_reducible refine sub_p15 ?_ | exact sub_refl | refine sub_p0 ?_ | refine sub_p1 ?_ | refine sub_p2 ?_ | refine sub_p3 ?_ | refine sub_p4 ?_ | refine sub_p5 ?_ | refine sub_p6 ?_ | refine sub_p7 ?_ | refine sub_p8 ?_ | refine sub_p9 ?_ | refine sub_p10 ?_ | refine sub_p11 ?_ | refine sub_p12 ?_ | refine sub_p13 ?_ | refine sub_p14 ?_ | refine sub_p15 ?_ | refine sub_drop ?_))
    exact hS2.all_snoc.swap
  · obtain rfl : i = L.length := by omega
    rw [List.take_length, hL] at hL'
    (try simp only [o_add, o_lss, hlt, decide_false, condF])
    refine ⟨L', hL', ?_⟩
    rw [hl']
    have h2 : St o w2 (blk g 79 (dcells v (total d.fs) d) :: Fils v L :: satH (L.map fb) :: own 71 3 a L.length (L'.flatMap fc) :: satH (L'.map fb) :: R) := by (refine Sh.St.sub ?_ (hS); repeat (first | with_reducible exact sub_refl | with_reducible exact sub_nil | with_reducible refine sub_p0 ?_ | with_reducible refine sub_p1 ?_ | with_reducible refine sub_p2 ?_ | with_reducible refine sub_p3 ?_ | with_reducible refine sub_p4 ?_ | with_reducible refine sub_p5 ?_ | with_reducible refine sub_p6 ?_ | with_reducible refine sub_p7 ?_ | with_reducible refine sub_p8 ?_ | with_reducible refine sub_p9 ?_ | with_reducible refine sub_p10 ?_ | with_reducible refine sub_p11 ?_ | with_reducible refine sub_p12 ?_ | with_reducible refine sub_p13 ?_ | with_reducible refine sub_p14 ?_ | with_reducible refine sub_p15 ?_ | exact sub_refl | refine sub_p0 ?_ | refine sub_p1 ?_ | refine sub_p2 ?_ | refine sub_p3 ?_ | refine sub_p4 ?_ | refine sub_p5 ?_ | refine sub_p6 ?_ | refine sub_p7 ?_ | refine sub_p8 ?_ | refine sub_p9 ?_ | refine sub_p10 ?_ | refine sub_p11 ?_ | refine sub_p12 ?_ | refine sub_p13 ?_ | refine sub_p14 ?_ | refine sub_p15 ?_ | refine sub_drop ?_))
    exact ((DiskM.shut hk hL rfl h2).put 2)
end
end Go.Proofs.YtcbbaiglcgemmaaGreatDoor
