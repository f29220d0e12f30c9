
/- Disks: what the calls of a Disk answer, and leave. -/
import Derived.Test.YtcbbaiglcgemmaaGreatDoorD3
import Derived.Test.YtcbbaiglcgemmaaGreatDoorD6
set_option linter.unusedVariables false
set_option linter.unusedSimpArgs false
namespace Go.Proofs.YtcbbaiglcgemmaaGreatDoor
open Go.Sh
section
variable (Z : List PanicEntry → World → Prop) {o w : World} {R As : List HProp} {g u : Nat} {d : Dk} {v : Value} {L : List (Fil × Value)}
theorem dNew (room : Int) (h : St o w R) : CallV Tryz.prog Z 22 #[.int .i64 room] w fun r w' =>
    ((room < 0 ∨ 16777216 < room) ∧ r = .tuple #[.pointer none, .int .i64 1] ∧ w' = w) ∨ (∃ n : Nat, room = n ∧ n ≤ 16777216 ∧ ∃ g, r = .tuple #[.pointer (some ⟨g, 0, none⟩), .int .i64 0] ∧ St o w' (DiskM g (Dk.new n) :: R)) := by
  refine f22.calls ?_
  unfold f22.sh
  by_cases h1 : room < 0
  · (try simp only [h1, o_lss, decide_true, o_pickT, condT, guardW_tf])
    exact .inl ⟨.inl trivial, trivial, trivial⟩
  by_cases h2 : 16777216 < room
  · (try simp only [h1, h2, o_lss, decide_false, o_pickF, guardW_ff, o_gtr, decide_true, condT])
    exact .inl ⟨.inr trivial, trivial, trivial⟩
  (try simp only [h1, h2, o_lss, decide_false, o_pickF, guardW_ff, o_gtr, condF])
  obtain ⟨n, rfl⟩ : ∃ n : Nat, room = n := ⟨room.toNat, by omega⟩
  refine r_build (cells := (dcells (.slice none 0 0) 0 (Dk.new n)).toArray) (by kernel_rfl) ?_
  refine r_box 79 _ h fun g w1 hS => .inr ⟨n, rfl, by omega, g, rfl, ?_⟩
  refine DiskM.shut (v := .slice none 0 0) (L := []) (Dk.new_ok (by omega)) rfl rfl ?_
  unfold DiskO Fils
  exact ((St.all_intro (As := []) hS).own_nil _ 3).pick 2
theorem dZero (h : St o w As) (hm : blk g 79 (dcells v u d) ∈ As) : CallV Tryz.prog Z 38 #[.pointer (some ⟨g, 0, none⟩)] w fun r w' => r = .bool false ∧ w' = w := by
  refine f38.calls ?_
  unfold f38.sh
  (try simp only [eqlp_24, o_pickF, guardW_ff, o_chk, fa_79_1, Nat.zero_add])
  refine r_load one4 (h.at hm 2 rfl) ?_
  (try simp only [o_not, Bool.not_true])
  exact ⟨trivial, trivial⟩
theorem dAsked {x : Value} {ns : List Bs} (hx : Rd w 1 x ns.length (ns.map fun s => .string (str s))) (hn : ns.length ≤ 1000) (hl : ∀ s ∈ ns, s.length ≤ 1000000000000) (h : St o w As) (hm : blk g 79 (dcells v u d) ∈ As) :
    CallV Tryz.prog Z 66 #[.pointer (some ⟨g, 0, none⟩), x] w fun r w' => r = .int .i64 (d.asked ns) ∧ w' = w := by
  obtain ⟨xa, xc, rfl⟩ := hx.form
  refine f66.calls ?_
  unfold f66.sh
  refine (dZero Z h hm).mono fun r w1 ⟨hr, hw⟩ => ?_
  subst hr; subst hw
  (try simp only [ln_56_3, o_chk, fa_79_3, Nat.zero_add, condF])
  refine r_load one4 (h.at hm 4 rfl) ?_
  unfold Dk.asked
  cases hon : d.on with
  | false =>
    (try simp only [o_not, Bool.not_false, condT])
    exact ⟨by simp, trivial⟩
  | true =>
  (try simp only [o_not, Bool.not_true, condF])
  refine ⟨fun m y w' => ∃ i : Nat, y = .int .i64 i ∧ m + i = ns.length ∧ (ns.take i).all nameOk = true ∧ w' = w1, ⟨ns.length, 0, rfl, rfl, rfl, rfl⟩, ?_⟩
  rintro m _ w2 ⟨i, rfl, hi, hall, rfl⟩ _
  by_cases hlt : (i : Int) < (ns.length : Int)
  · have hil : i < ns.length := by omega
    (try simp only [o_add, o_lss, hlt, decide_true, condT])
    obtain ⟨a, hp, hc, _⟩ := hx.index el56 .i64 i hil
    rw [List.getElem?_map, List.getElem?_eq_getElem hil, Option.map_some] at hc
    refine r1 (hp _) (r_load one9 hc ?_)
    refine (isName Z ns[i] (by have := hl _ (List.getElem_mem hil); omega)).mono fun r w3 ⟨hr, hw⟩ => ?_
    subst hr; subst hw
    cases hno : nameOk ns[i] with
    | false =>
      (try simp only [o_not, Bool.not_false, condT])
      have : ns.all nameOk = false := by
        rw [List.all_eq_false]
        exact ⟨ns[i], List.getElem_mem hil, by simp [hno]⟩
      exact ⟨by simp [this], trivial⟩
    | true =>
      (try simp only [o_not, Bool.not_true, condF])
      rw [wr_i64 (x := (i : Int) + 1) (by omega) (by omega)]
      refine ⟨m - 1, by omega, i + 1, rfl, by omega, ?_, trivial⟩
      rw [List.take_succ_eq_append_getElem hil, List.all_append, hall]
      simp [hno]
  · obtain rfl : i = ns.length := by omega
    rw [List.take_length] at hall
    (try simp only [o_add, o_lss, hlt, decide_false, condF])
    exact ⟨by simp [hall], trivial⟩
theorem ask1 {kk : Value → World → Prop} (n : Bs) (hn : n.length ≤ 1000000000000) (h : St o w R) (hm : blk g 79 (dcells v u d) ∈ R) (hk : ∀ w', St o w' R → kk (.int .i64 (d.asked [n])) w') :
    run1 Tryz.prog Z (Instr.buildSlice 56 1 #[(0, .string (str n))]) w fun t1 w => CallV Tryz.prog Z 66 #[.pointer (some ⟨g, 0, none⟩), t1] w kk := by
  refine r_slice el56 h 1 _ [.string (str n)] rfl (by omega) (by omega) (by intro u hu; simp at hu; subst hu; rfl) rfl fun g2 w2 hS => ?_
  refine (dAsked Z (ns := [n]) (hS.own_rd m0) (by simp) (by simp [hn]) hS (List.mem_cons_of_mem _ hm)).mono fun r w3 ⟨hr, hw⟩ => ?_
  subst hr; subst hw
  exact hk _ hS.drop
theorem dFind (n : Bs) (hn : n.length ≤ 1000000000000) (h : St o w (DiskO g u d v L R)) (hL : L.map (·.1) = d.fs) (hk : d.ok) : CallV Tryz.prog Z 36 #[.pointer (some ⟨g, 0, none⟩), .string (str n)] w fun r w' =>
    (d.found n ≠ 0 ∧ r = .tuple #[.int .i64 0, .int .i64 (d.found n)] ∨ d.found n = 0 ∧ r = .tuple #[.int .i64 (ix d.fs n), .int .i64 0]) ∧ St o w' (DiskO g u d v L R) := by
  have hlen : L.length ≤ 64 := by have := congrArg List.length hL; rw [List.length_map] at this; have := hk.many; omega
  unfold DiskO at h ⊢
  refine f36.calls ?_
  unfold f36.sh
  refine ask1 Z n hn h m0 fun w1 hS => ?_
  unfold Dk.found
  by_cases ha : d.asked [n] = 0
  · have e0 : ((0 : Int) != 0) = false := rfl
    rw [ha]
    (try simp only [o_chk, fa_79_0, Nat.add_zero, o_neq, e0, condF])
    refine (dAtN Z n hS m0 rfl m1 (by rw [hL]; exact hk.srt) (by omega)).mono fun r w2 ⟨hr, hd⟩ => ?_
    rw [hL] at hr
    subst hr
    have hS := hS.drew hd
    cases hat : isAt d.fs n with
    | false =>
      (try simp only [o_ext2_1, o_not, Bool.not_false, condT, o_ext2_0])
      exact ⟨.inl ⟨by simp, by simp⟩, hS⟩
    | true =>
      (try simp only [o_ext2_1, o_not, Bool.not_true, condF, o_ext2_0])
      exact ⟨.inr ⟨by simp, by simp⟩, hS⟩
  · have e1 : (d.asked [n] != 0) = true := bne_iff_ne.2 ha
    (try simp only [o_chk, fa_79_0, Nat.add_zero, o_neq, e1, condT])
    exact ⟨.inl ⟨by simp [ha], by simp [ha]⟩, hS⟩
theorem dOff (h : St o w (blk g 79 (dcells v u d) :: R)) : CallV Tryz.prog Z 34 #[.pointer (some ⟨g, 0, none⟩)] w fun r w' => r = .tuple #[] ∧ St o w' (blk g 79 (dcells v u d.off) :: R) := by
  refine f34.calls ?_
  unfold f34.sh
  refine (dZero Z h m0).mono fun r w1 ⟨hr, hw⟩ => ?_
  subst hr; subst hw
  (try simp only [o_chk, fa_79_4, Nat.zero_add, fa_79_3, o_not, Bool.not_false, condT])
  refine r_store h one4 (by simp [dcells]) rfl fun w2 hS => ?_
  skip
  refine r_store hS one4 (by simp [dcells]) rfl fun w3 hS => ?_
  exact ⟨by first | rfl | trivial, hS⟩
theorem dWrite (h : St o w (blk g 79 (dcells v u d) :: R)) : CallV Tryz.prog Z 67 #[.pointer (some ⟨g, 0, none⟩)] w fun r w' =>
    r = .bool (!d.stops) ∧ St o w' (blk g 79 (dcells v u (if d.stops then d.off else d.wrote)) :: R) := by
  refine f67.calls ?_
  unfold f67.sh
  (try simp only [o_chk, fa_79_6, Nat.zero_add, fa_79_5, fa_79_4])
  refine r_load one4 (h.at m0 5 rfl) ?_
  have fin : d.stops = false → ∀ w, St o w (blk g 79 (dcells v u d) :: R) → run1 Tryz.prog Z (Instr.loadAt 3 (.pointer (some ⟨g, 6, none⟩))) w fun t13 w =>
      run1 Tryz.prog Z (binOp .sub 3 t13 (.int .i64 1)) w fun t14 w => run0 Tryz.prog Z (Instr.storeAt 3 (.pointer (some ⟨g, 6, none⟩)) t14) w fun w =>
      run1 Tryz.prog Z (Instr.loadAt 3 (.pointer (some ⟨g, 7, none⟩))) w fun t19 w => run1 Tryz.prog Z (binOp .add 3 t19 (.int .i64 1)) w fun t20 w =>
      run0 Tryz.prog Z (Instr.storeAt 3 (.pointer (some ⟨g, 7, none⟩)) t20) w fun w => Value.bool true = .bool (!d.stops) ∧ St o w (blk g 79 (dcells v u (if d.stops then d.off else d.wrote)) :: R) := by
    intro hst w h
    refine r_load one3 (h.at m0 6 rfl) ?_
    (try simp only [o_sub])
    refine r_store h one3 (by simp [dcells]) rfl fun w2 hS => ?_
    refine r_load one3 (hS.at m0 7 rfl) ?_
    (try simp only [o_add])
    refine r_store hS one3 (by simp [dcells]) rfl fun w3 hS => ?_
    rw [hst]
    exact ⟨rfl, hS⟩
  cases har : d.armed with
  | false =>
    have hst : d.stops = false := by unfold Dk.stops; rw [har]; rfl
    (try simp only [o_pickF, condF, guardW_ft])
    exact fin hst w h
  | true =>
    (try simp only [o_pickT, guardW_true, o_chk, fa_79_5, Nat.zero_add])
    refine r_load one3 (h.at m0 6 rfl) ?_
    by_cases h0 : d.more = 0
    · have hst : d.stops = true := by unfold Dk.stops; rw [har, h0]; rfl
      have e0 : (d.more == 0) = true := by rw [h0]; rfl
      (try simp only [o_eql, e0, condT])
      refine (dOff Z h).mono fun r w2 ⟨_, hS⟩ => ?_
      rw [hst]
      exact ⟨rfl, hS⟩
    · have e0 : (d.more == 0) = false := beq_eq_false_iff_ne.2 h0
      have hst : d.stops = false := by unfold Dk.stops; rw [har, e0]; rfl
      (try simp only [o_eql, e0, condF])
      exact fin hst w h
theorem dOn (h : St o w As) (hm : blk g 79 (dcells v u d) ∈ As) : CallV Tryz.prog Z 62 #[.pointer (some ⟨g, 0, none⟩)] w fun r w' => r = .bool d.on ∧ w' = w := by
  refine f62.calls ?_
  unfold f62.sh
  refine (dZero Z h hm).mono fun r w1 ⟨hr, hw⟩ => ?_
  subst hr; subst hw
  (try simp only [o_not, Bool.not_false, o_pickT, guardW_true, o_chk, fa_79_3, Nat.zero_add])
  refine r_load one4 (h.at hm 4 rfl) ?_
  (try simp only [])
  exact ⟨by first | rfl | trivial, by first | rfl | trivial⟩
end
end Go.Proofs.YtcbbaiglcgemmaaGreatDoor
