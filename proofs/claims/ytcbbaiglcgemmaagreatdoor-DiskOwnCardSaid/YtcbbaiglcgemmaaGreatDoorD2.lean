
/- Disks in memory: slices.Insert, slices.Delete; the place of a name; a file is put in, is taken out. -/
import Derived.Test.YtcbbaiglcgemmaaGreatDoorP1
import Derived.Test.YtcbbaiglcgemmaaGreatDoorD1
import Derived.Test.YtcbbaiglcgemmaaGreatDoorShIns
set_option linter.unusedVariables false
set_option linter.unusedSimpArgs false
namespace Go.Proofs.YtcbbaiglcgemmaaGreatDoor
open Go.Sh
def fc (p : Fil × Value) : List Value := [.string (str p.1.nm), p.2, .int .i64 p.1.sy]
def fb (p : Fil × Value) : HProp := own 5 1 p.2 p.1.by_.length (cb p.1.by_)
def Fils (v : Value) (L : List (Fil × Value)) : HProp := own 83 3 v L.length (L.flatMap fc)
def dcells (v : Value) (u : Nat) (d : Dk) : List Value := [v, .int .i64 u, .bool true, .int .i64 d.room, .bool d.on, .bool d.armed, .int .i64 d.more, .int .i64 d.writes]
def DiskO (g : Nat) (u : Nat) (d : Dk) (v : Value) (L : List (Fil × Value)) (R : List HProp) : List HProp := blk g 79 (dcells v u d) :: Fils v L :: satH (L.map fb) :: R
def DiskM (g : Nat) (d : Dk) : HProp := fun h => ∃ v L, (d.ok ∧ L.map (·.1) = d.fs) ∧ sep (blk g 79 (dcells v (total d.fs) d)) (sep (Fils v L) (satH (L.map fb))) h
theorem fc_flat (L : List (Fil × Value)) : (L.flatMap fc).length = L.length * 3 := by
  induction L with
  | nil => rfl
  | cons a L ih => rw [List.flatMap_cons, List.length_append, ih, List.length_cons]; simp [fc]; omega
theorem fc_ones {L : List (Fil × Value)} (h : ∀ p ∈ L, p.2.oneCell' = true) : ones (L.flatMap fc) := by
  intro u hu
  obtain ⟨p, hp, hu⟩ := List.mem_flatMap.1 hu
  simp only [fc, List.mem_cons, List.not_mem_nil, or_false] at hu
  rcases hu with rfl | rfl | rfl
  · rfl
  · exact h p hp
  · rfl
theorem fc_cut {L : List (Fil × Value)} {i : Nat} (hi : i < L.length) : ((L.flatMap fc).drop (i * 3)).take 3 = fc L[i] := by
  have h := flatten_cut (sz := 3) (css := L.map fc) (fun c hc => by obtain ⟨q, _, rfl⟩ := List.mem_map.1 hc; rfl) i (by rw [List.length_map]; exact hi)
  rw [List.getElem_map] at h
  exact h
section
variable {o w : World} {R : List HProp} {g : Nat} {d : Dk}
theorem DiskM.open (h : St o w (DiskM g d :: R)) : ∃ v L, d.ok ∧ L.map (·.1) = d.fs ∧ St o w (DiskO g (total d.fs) d v L R) := by
  obtain ⟨v, h⟩ := h.ex
  obtain ⟨L, h⟩ := h.ex
  obtain ⟨⟨hk, hL⟩, h⟩ := h.pure
  exact ⟨v, L, hk, hL, h.sep.swap.sep.pick 2⟩
theorem DiskM.shut {v : Value} {L : List (Fil × Value)} {u : Nat} (hk : d.ok) (hL : L.map (·.1) = d.fs) (hu : u = total d.fs) (h : St o w (DiskO g u d v L R)) : St o w (DiskM g d :: R) := by
  subst hu
  exact (((((h.pick 2).pick 2).sep_intro.swap.sep_intro).pure_intro ⟨hk, hL⟩).ex_intro L).ex_intro v
theorem Fils.form {v : Value} {L : List (Fil × Value)} {As : List HProp} (h : St o w As) (hm : Fils v L ∈ As) : ∃ a c, v = .slice a L.length c := (h.own_rd hm).form
theorem fb_one {L : List (Fil × Value)} (h : St o w (satH (L.map fb) :: R)) : ∀ p ∈ L, p.2.oneCell' = true := fun p hp => by
  have hm : fb p ∈ L.map fb ++ R := List.mem_append_left _ (List.mem_map_of_mem hp)
  obtain ⟨a, c, e⟩ := (h.all.own_rd hm).form
  rw [e]; rfl
theorem Fils.ix {v : Value} {L : List (Fil × Value)} {As : List HProp} (h : St o w As) (hm : Fils v L ∈ As) (i : Nat) (hi : i < L.length) :
    ∃ b q, (∀ w, (Instr.indexAt 75 v (.int .i64 i)).run Tryz.prog w = .ok (.pointer (some ⟨b, q, none⟩)) w) ∧ ∀ j u, (fc L[i])[j]? = some u → w.cell? ⟨b, q + j, none⟩ = some u := by
  obtain ⟨b, q, h1, h2, _⟩ := (h.own_rd hm).ix el75 .i64 i hi
  rw [fc_cut hi] at h2
  exact ⟨b, q, h1, h2⟩
theorem fb_rd {L : List (Fil × Value)} (h : St o w (satH (L.map fb) :: R)) (i : Nat) (hi : i < L.length) : Rd w 1 L[i].2 L[i].1.by_.length (cb L[i].1.by_) := by
  have hm : fb L[i] ∈ L.map fb ++ R := List.mem_append_left _ (List.mem_map_of_mem (List.getElem_mem hi))
  exact h.all.own_rd hm
end
section
variable (Z : List PanicEntry → World → Prop) {o w : World} {R As : List HProp} {g : Nat} {d : Dk} {v : Value} {L : List (Fil × Value)}
theorem isName (s : Bs) (hs : s.length ≤ 9223372036854775806) : CallV Tryz.prog Z 24 #[.string (str s)] w fun r w' => r = .bool (nameOk s) ∧ w' = w := by
  refine f24.calls ?_
  unfold f24.sh
  refine r1 (run_lenStr st9 _ rfl _ _ _) ?_
  rw [str_size]
  refine ⟨fun m y w' => ∃ i : Nat, y = .int .i64 i ∧ m + i = s.length ∧ (s.take i).all okc = true ∧ w' = w, ⟨s.length, 0, rfl, rfl, rfl, rfl⟩, ?_⟩
  rintro m _ w1 ⟨i, rfl, hi, hall, rfl⟩ _
  by_cases hlt : (i : Int) < (s.length : Int)
  · have hil : i < s.length := by omega
    (try simp only [o_add, ln_9_3, o_geq, o_lss, hlt, decide_true, condT])
    refine r1 (run_indexStr st9 .i64 s i hil _) ?_
    have hb := s[i].toNat_lt
    have hok : okc s[i] = true → ∃ n_2, n_2 < m ∧ ∃ i_1 : Nat, Value.int .i64 (IntKind.i64.wrap ((i : Int) + 1)) = .int .i64 i_1 ∧ n_2 + i_1 = s.length ∧ (s.take i_1).all okc = true ∧ True := fun h => by
      rw [wr_i64 (x := (i : Int) + 1) (by omega) (by omega)]
      refine ⟨m - 1, by omega, i + 1, rfl, by omega, ?_, trivial⟩
      rw [List.take_succ_eq_append_getElem hil, List.all_append, hall]
      simp [h]
    have hno : okc s[i] = false → Value.bool false = .bool (nameOk s) ∧ True := fun h => by
      refine ⟨?_, trivial⟩
      have : s.all okc = false := by
        rw [List.all_eq_false]
        exact ⟨s[i], List.getElem_mem hil, by simp [h]⟩
      simp [nameOk, this]
    obtain ⟨b, hbe⟩ : ∃ b, s[i].toNat = b := ⟨_, rfl⟩
    rw [hbe] at hb ⊢
    by_cases h1 : (b : Int) < 97
    · by_cases h2 : (b : Int) < 48
      · (try simp only [o_lss, h1, decide_true, o_pickT, guardW_true, h2, o_neq, cond_bne, guardW_tf])
        exact ⟨fun h3 => hno (by unfold okc; rw [hbe]; simp; omega), fun h3 => hok (by unfold okc; rw [hbe]; simp; omega)⟩
      · by_cases h4 : (57 : Int) < b
        · (try simp only [o_lss, h1, decide_true, o_pickT, guardW_true, h2, decide_false, o_pickF, guardW_ff, o_gtr, h4, o_neq, cond_bne, guardW_tf])
          exact ⟨fun h3 => hno (by unfold okc; rw [hbe]; simp; omega), fun h3 => hok (by unfold okc; rw [hbe]; simp; omega)⟩
        · (try simp only [o_lss, h1, decide_true, o_pickT, guardW_true, h2, decide_false, o_pickF, guardW_ff, o_gtr, h4, condF, guardW_ft, guardW_tf])
          exact hok (by unfold okc; rw [hbe]; simp; omega)
    · by_cases h5 : (122 : Int) < b
      · have h2 : ¬ (b : Int) < 48 := by omega
        have h4 : (57 : Int) < b := by omega
        (try simp only [o_lss, h1, decide_false, o_pickF, guardW_ff, o_gtr, h5, decide_true, o_pickT, guardW_true, h2, h4, o_neq, cond_bne])
        exact ⟨fun h3 => hno (by unfold okc; rw [hbe]; simp; omega), fun h3 => hok (by unfold okc; rw [hbe]; simp; omega)⟩
      · (try simp only [o_lss, h1, decide_false, o_pickF, guardW_ff, o_gtr, h5, condF, guardW_ft, guardW_u])
        exact hok (by unfold okc; rw [hbe]; simp; omega)
  · (try simp only [o_add, ln_9_3, o_geq, o_lss, hlt, decide_false, condF])
    obtain rfl : i = s.length := by omega
    rw [List.take_length] at hall
    rw [str_size]
    unfold nameOk
    rw [hall]
    by_cases h1 : (1 : Int) ≤ (s.length : Int)
    · (try simp only [h1, decide_true, o_pickT, guardW_true, ln_9_3, str_size, o_leq])
      refine ⟨?_, trivial⟩
      have h1' : 1 ≤ s.length := by omega
      simp [h1']
      omega
    · (try simp only [h1, decide_false, o_pickF, guardW_ft])
      refine ⟨?_, trivial⟩
      have h1' : ¬ 1 ≤ s.length := by omega
      simp [h1']
theorem dAtN {T : TypeId} {cs : List Value} (n : Bs) (h : St o w As) (hm : blk g T cs ∈ As) (hv : cs[0]? = some v) (hF : Fils v L ∈ As) (hs : Srt (L.map (·.1))) (hl : L.length ≤ 1000) :
    CallV Tryz.prog Z 23 #[.pointer (some ⟨g, 0, none⟩), .string (str n)] w fun r w' => r = .tuple #[.int .i64 (ix (L.map (·.1)) n), .bool (isAt (L.map (·.1)) n)] ∧ Drew w w' := by
  refine f23.calls ?_
  unfold f23.sh
  refine ⟨fun w1 hd1 => ?_⟩
  have hS := h.drew hd1
  (try simp only [o_chk, fa_77_0, Nat.add_zero, o_chkp, fa_77_0p])
  refine rr_load one75 (hS.at hm 0 hv) ?_
  obtain ⟨va, vc, hvf⟩ := Fils.form hS hF
  have hvf0 := hvf
  subst hvf
  (try simp only [ln_75_3p])
  refine ⟨fun m a b w' => ∃ lo hi : Nat, a = .int .i64 lo ∧ b = .int .i64 hi ∧ m = hi - lo ∧ lo ≤ hi ∧ hi ≤ L.length ∧ (∀ j (hj : j < L.length), j < lo → blt L[j].1.nm n = true) ∧ (∀ j (hj : j < L.length), hi ≤ j → blt L[j].1.nm n = false) ∧ w' = w1,
    ⟨L.length, 0, L.length, rfl, rfl, by omega, by omega, by omega, fun j hj h => by omega, fun j hj h => by omega, rfl⟩, ?_⟩
  rintro m _ _ w2 ⟨lo, hi, rfl, rfl, hm', hlo, hhi, hlt, hge, rfl⟩ _
  by_cases hlh : (lo : Int) < (hi : Int)
  · (try simp only [o_add, o_lss, hlh, decide_true, condT])
    rw [wr_i64 (x := (lo : Int) + hi) (by omega) (by omega)]
    refine r1 (run_quo _ _ _ .i64 _ 2 (by omega)) ?_
    have hq : ((lo : Int) + hi).tdiv 2 = (((lo + hi) / 2 : Nat) : Int) := by
      rw [show (lo : Int) + hi = ((lo + hi : Nat) : Int) by omega]; rfl
    rw [hq, wr_i64 (x := (((lo + hi) / 2 : Nat) : Int)) (by omega) (by omega)]
    refine r_load one75 (hS.at hm 0 hv) ?_
    have hmid : (lo + hi) / 2 < L.length := by omega
    obtain ⟨b, q, hp, hc⟩ := Fils.ix hS hF _ hmid
    refine r1 (hp _) ?_
    (try simp only [o_add, fa_83_0, Nat.add_zero])
    refine r_load one9 (hc 0 _ rfl) (r1 (run_lss_strS _ _ _ _) ?_)
    have hsrt : ∀ i j (hi : i < L.length) (hj : j < L.length), i < j → blt L[i].1.nm L[j].1.nm = true := fun i j hi hj hij => by
      have := hs.lt (i := i) (j := j) (by simpa using hi) (by simpa using hj) hij
      simpa using this
    cases hb : Op.bytesLess L[(lo + hi) / 2].1.nm n with
    | true =>
      (try simp only [condT])
      rw [wr_i64 (x := (((lo + hi) / 2 : Nat) : Int) + 1) (by omega) (by omega)]
      refine ⟨_, ?_, (lo + hi) / 2 + 1, hi, rfl, rfl, rfl, by omega, hhi, fun j hj hjl => ?_, hge, trivial⟩
      · omega
      · rcases Nat.lt_or_ge j ((lo + hi) / 2) with h1 | h1
        · exact blt_trans (hsrt j _ hj hmid h1) hb
        · obtain rfl : j = (lo + hi) / 2 := by omega
          exact hb
    | false =>
      (try simp only [condF])
      refine ⟨_, ?_, lo, (lo + hi) / 2, rfl, rfl, rfl, by omega, by omega, hlt, fun j hj hjl => ?_, trivial⟩
      · omega
      · rcases Nat.lt_or_ge ((lo + hi) / 2) j with h1 | h1
        · cases hb2 : blt L[j].1.nm n with
          | false => rfl
          | true =>
            have := blt_trans (hsrt _ j hmid hj h1) hb2
            rw [show blt L[(lo + hi) / 2].1.nm n = Op.bytesLess L[(lo + hi) / 2].1.nm n from rfl, hb] at this
            cases this
        · obtain rfl : j = (lo + hi) / 2 := by omega
          exact hb
  · (try simp only [o_add, o_lss, hlh, decide_false, condF])
    obtain rfl : lo = hi := by omega
    have hix : ix (L.map (·.1)) n = lo := ix_of _ n lo (by simpa using hhi) (fun j hj hjl => by simpa using hlt j (by simpa using hj) hjl) (fun h => by simpa using hge lo (by simpa using h) (Nat.le_refl _))
    refine ⟨fun w3 hd3 => ?_⟩
    have hS := hS.drew hd3
    refine rr_load one75 (hS.at hm 0 hv) ?_
    by_cases hl2 : (lo : Int) < (L.length : Int)
    · have hll : lo < L.length := by omega
      (try simp only [ln_75_3p, o_lssp, hl2, decide_true, o_pickTp, guardV_true, o_chkp, fa_77_0p, Nat.add_zero])
      refine rr_load one75 (hS.at hm 0 hv) ?_
      obtain ⟨b, q, hp, hc⟩ := Fils.ix hS hF lo hll
      refine rp hp ?_
      (try simp only [fa_83_0p, Nat.add_zero])
      refine rr_load one9 (hc 0 _ rfl) (rp (fun w => run_eql_strS _ _ _ _ _ w) ?_)
      skip
      refine ⟨?_, hd1.trans hd3⟩
      unfold isAt
      rw [hix, List.getElem?_map, List.getElem?_eq_getElem hll]
      rfl
    · (try simp only [ln_75_3p, o_lssp, hl2, decide_false, o_pickFp, guardV_ft])
      refine ⟨?_, hd1.trans hd3⟩
      unfold isAt
      rw [hix, List.getElem?_map, List.getElem?_eq_none (by omega)]
      rfl
end
end Go.Proofs.YtcbbaiglcgemmaaGreatDoor
