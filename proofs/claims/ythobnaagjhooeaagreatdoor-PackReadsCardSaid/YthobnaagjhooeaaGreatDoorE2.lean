/- The document's Reader, to the letter. -/
import Derived.Test.YthobnaagjhooeaaGreatDoorE1
import Derived.Test.YthobnaagjhooeaaGreatDoorShTwin
set_option linter.unusedVariables false
set_option linter.unusedSimpArgs false
namespace Go.Proofs.YthobnaagjhooeaaGreatDoor
open Go.Sh
def RefR (g : Nat) (all : List UInt8) (off : Nat) (err : Int) : HProp := fun h => ∃ v, (off ≤ all.length ∧ all.length ≤ 140737488355328) ∧ sep (blk g 83 [v, .int .i64 off, .int .i64 err]) (own 5 1 v all.length (cb all)) h
section
variable {o w : World} {R As : List HProp} {g : Nat} {all : List UInt8} {off : Nat} {err : Int}
theorem RefR.open (h : St o w (RefR g all off err :: R)) : ∃ v, (off ≤ all.length ∧ all.length ≤ 140737488355328) ∧ St o w (blk g 83 [v, .int .i64 off, .int .i64 err] :: own 5 1 v all.length (cb all) :: R) := by
  obtain ⟨v, h⟩ := h.ex
  obtain ⟨h1, h⟩ := h.pure
  exact ⟨v, h1, h.sep⟩
theorem RefR.shut {v : Value} (h1 : off ≤ all.length) (h2 : all.length ≤ 140737488355328) (h : St o w (blk g 83 [v, .int .i64 off, .int .i64 err] :: own 5 1 v all.length (cb all) :: R)) : St o w (RefR g all off err :: R) := (h.sep_intro.pure_intro ⟨h1, h2⟩).ex_intro v
theorem drop_dec {all : List UInt8} {off i : Nat} (h : off + i < all.length) : dec ((all.drop off).take (i + 1)) = dec ((all.drop off).take i) * 256 + (all[off + i]'h).toNat := by
  rw [List.take_succ_eq_append_getElem (by rw [List.length_drop]; omega)]
  unfold dec
  rw [List.foldl_append]
  simp
theorem dec_take_lt (all : List UInt8) (off i : Nat) (hi : i ≤ 7) : dec ((all.drop off).take i) < 72057594037927936 := by
  have h1 := dec_lt ((all.drop off).take i)
  have h2 : (256 : Nat) ^ ((all.drop off).take i).length ≤ 256 ^ 7 := Nat.pow_le_pow_right (by omega) (by rw [List.length_take]; omega)
  omega
theorem i32_shift (x : Int) : IntKind.i32.wrap (x - 4294967296) = IntKind.i32.wrap x := by
  rw [wrap_i32, wrap_i32]
  have h : (x - 4294967296) % 4294967296 = x % 4294967296 := by omega
  rw [h]
theorem midB {v : Value} (hS : St o w (own 5 1 v all.length (cb all) :: R)) (i n : Nat) (hi : i + n ≤ all.length) (q q' : IntKind) :
    ∃ x, (∀ w, (Instr.sliceAt 22 v (some (.int q (i : Int))) (some (.int q' ((i + n : Nat) : Int))) none).run Tryz.prog w = .ok x w) ∧ ∀ w' : World, Rd w' 1 v all.length (cb all) → Rd w' 1 x ((all.drop i).take n).length (cb ((all.drop i).take n)) := by
  have hl : ((all.drop i).take n).length = n := by rw [List.length_take, List.length_drop]; omega
  obtain ⟨_, ⟨hv, h0, _⟩ | ⟨b, cap, rest, hv, h1, h2, _, _⟩⟩ := hS.own_open
  · have hn : n = 0 := by omega
    have hi0 : i = 0 := by omega
    subst hv hn hi0
    refine ⟨.slice none 0 0, fun w => ?_, fun w' _ => ?_⟩
    · have := run_slice_mid (P := Tryz.prog) el22 none 0 0 q q' (0 : Int) (0 : Int) (Int.le_refl _) (Int.le_refl _) (Int.le_refl _) w
      exact this
    · rw [List.take_zero]
      exact ⟨rfl, Nat.zero_le _, .inl ⟨0, rfl, rfl⟩⟩
  · subst hv
    refine ⟨_, fun w => run_slice_mid (P := Tryz.prog) el22 (some ⟨b, 0, none⟩) all.length cap q q' (i : Int) ((i + n : Nat) : Int) (by omega) (by omega) (by omega) w, fun w' hr => ?_⟩
    have e1 : ((i + n : Nat) : Int).toNat - (i : Int).toNat = n := by omega
    have e2 : (i : Int).toNat = i := by omega
    rw [e1, e2, hl]
    obtain ⟨_, _, ⟨_, hc, _⟩ | ⟨a, c, hc, hcell⟩⟩ := hr
    · cases hc
    · injection hc with hc1 _ hc2
      injection hc1 with hc1
      subst hc1; subst hc2
      by_cases hci : cap = i
      · have hn : n = 0 := by omega
        subst hn
        rw [if_pos hci, List.take_zero]
        exact ⟨rfl, Nat.zero_le _, .inr ⟨_, _, rfl, fun j u hu => by simp [cb] at hu⟩⟩
      · rw [if_neg hci]
        refine ⟨by rw [cb_length, hl, Nat.mul_one], by omega, .inr ⟨_, _, rfl, fun j u hu => ?_⟩⟩
        have hj := (List.getElem?_eq_some_iff.1 hu).1
        rw [cb_length, hl] at hj
        have hh := hcell (i + j) u (by
          rw [← hu]
          simp only [cb, List.getElem?_map, List.getElem?_take, List.getElem?_drop]
          rw [if_pos hj])
        rw [Nat.mul_one]
        rw [add_addr] at hh
        show w'.cell? (((⟨b, 0, none⟩ : Addr).add i).add j) = some u
        rw [add_addr, add_addr, show 0 + i + j = 0 + (i + j) by omega]
        exact hh
end
section
variable (Z : List PanicEntry → World → Prop) {o w : World} {R : List HProp} {g : Nat} {all l : List UInt8} {off : Nat} {err : Int}
theorem dNumber (n : Nat) (hn : n ≤ 8) (h : St o w (RefR g all off err :: R)) : CallV Tryz.prog Z 80 #[.pointer (some ⟨g, 0, none⟩), .int .i64 n] w fun r w' =>
    ∃ x off' e' b, nmV n all off err = (x, off', e') ∧ (b = true ↔ e' = 0) ∧ r = .tuple #[.int .u64 (x : Int), .bool b] ∧ St o w' (RefR g all off' e' :: R) := by
  obtain ⟨v, ⟨h1, h2⟩, hS⟩ := RefR.open h
  refine f80.calls ?_
  unfold f80.sh
  (try simp only [o_chk, fa_83_2, Nat.zero_add, fa_83_1, o_chkp, fa_83_1p, fa_83_0p, Nat.add_zero])
  refine r_load one47 (hS.at m0 2 rfl) ?_
  by_cases he : err = 0
  case neg =>
    have hb : (err != 0) = true := by simp [he]
    (try simp only [o_neq, hb, condT])
    exact ⟨0, off, err, false, by unfold nmV; rw [if_neg (fun h => he h.1), if_neg he], by simp [he], by first | rfl | trivial, RefR.shut h1 h2 hS⟩
  subst he
  (try simp only [o_neq, bne_self_eq_false, condF])
  refine ⟨fun w1 hd => ?_⟩
  have hS := hS.drew hd
  refine rr_load one22 (hS.at m0 0 rfl) ?_
  refine rp (fun w => (hS.own_rd m1).len sl22 _ rfl _ w) ?_
  skip
  refine rr_load one3 (hS.at m0 1 rfl) ?_
  refine rp (fun w => run_sub _ w _ _ _ _) ?_
  rw [wr_i64 (x := (all.length : Int) - (off : Int)) (by omega) (by omega)]
  by_cases hlt : (all.length : Int) - (off : Int) < (n : Int)
  · (try simp only [o_lssp, hlt, decide_true, condT])
    refine r_store hS one47 (show 2 < 3 by omega) rfl fun w2 hS => ?_
    exact ⟨0, off, 10, false, by unfold nmV; rw [if_neg (fun h => by omega)]; rfl, by simp, by first | rfl | trivial, RefR.shut h1 h2 hS⟩
  have hle : off + n ≤ all.length := by omega
  (try simp only [o_lssp, hlt, decide_false, condF])
  refine ⟨fun m x y w' => ∃ i : Nat, x = .int .u64 (dec ((all.drop off).take i) : Int) ∧ y = .int .i64 i ∧ m + i = n ∧ St o w' (blk g 83 [v, .int .i64 (off + i : Nat), .int .i64 0] :: own 5 1 v all.length (cb all) :: R), ⟨n, 0, rfl, rfl, rfl, hS⟩, ?_⟩
  clear hS
  rintro m _ _ w2 ⟨i, rfl, rfl, hi, hS⟩ _
  by_cases hlt2 : (i : Int) < (n : Int)
  · (try simp only [o_add, o_mulp, o_lss, hlt2, decide_true, condT])
    refine ⟨fun w3 hd => ?_⟩
    have hS := hS.drew hd
    have hb := dec_take_lt all off i (by omega)
    have hoi : off + i < all.length := by omega
    have hby := all[off + i].toNat_lt
    rw [wr_u64 (x := (dec ((all.drop off).take i) : Int) * 256) (by omega) (by omega)]
    skip
    refine rr_load one22 (hS.at m0 0 rfl) ?_
    skip
    refine rr_load one3 (hS.at m0 1 rfl) ?_
    obtain ⟨p, hp, hpc⟩ := rd_index (hS.own_rd m1) (off + i) hoi
    refine rp hp (rr_load one5 hpc ?_)
    (try simp only [cv_5_86p, o_addp])
    rw [wr_u64 (x := (all[off + i].toNat : Int)) (by omega) (by omega), wr_u64 (x := (dec ((all.drop off).take i) : Int) * 256 + (all[off + i].toNat : Int)) (by omega) (by omega)]
    refine r_load one3 (hS.at m0 1 rfl) ?_
    (try simp only [o_add])
    rw [wr_i64 (x := ((off + i : Nat) : Int) + 1) (by omega) (by omega)]
    refine r_store hS one3 (show 1 < 3 by omega) rfl fun w4 hS => ?_
    skip
    rw [wr_i64 (x := (i : Int) + 1) (by omega) (by omega)]
    refine ⟨m - 1, by omega, i + 1, ?_, rfl, by omega, ?_⟩
    · rw [drop_dec hoi, Int.natCast_add, Int.natCast_mul]; rfl
    · have e : (((off + i : Nat) : Int) + 1) = ((off + (i + 1) : Nat) : Int) := by omega
      rw [e] at hS
      exact hS
  · have hin : i = n := by omega
    subst hin
    (try simp only [o_add, o_mulp, o_lss, hlt2, decide_false, condF])
    exact ⟨dec ((all.drop off).take i), off + i, 0, true, by unfold nmV; rw [if_pos ⟨rfl, hle⟩], by simp, by first | rfl | trivial, RefR.shut (by omega) h2 hS⟩
theorem dInt32 (h : St o w (RefR g all off err :: R)) : CallV Tryz.prog Z 43 #[.pointer (some ⟨g, 0, none⟩)] w fun r w' => ∃ x off' e', nmV 4 all off err = (x, off', e') ∧ r = .int .i32 (IntKind.i32.wrap x) ∧ St o w' (RefR g all off' e' :: R) := by
  refine f43.calls ?_
  unfold f43.sh
  refine (dNumber Z 4 (by omega) h).mono fun r w1 ⟨x, off', e', b, hv, _, hr, hS⟩ => ?_
  subst hr
  have hx : x < 4294967296 := by
    unfold nmV at hv
    split at hv
    · injection hv with hv _
      have h1 := dec_lt ((all.drop off).take 4)
      have h2 : (256 : Nat) ^ ((all.drop off).take 4).length ≤ 256 ^ 4 := Nat.pow_le_pow_right (by omega) (by rw [List.length_take]; omega)
      omega
    · injection hv with hv _; omega
  (try simp only [o_ext2_1, o_ext2_0, cv_86_2, o_sub, o_gtr, cond_decide])
  rw [wr_i64 (x := (x : Int)) (by omega) (by omega)]
  intro j hj
  refine ⟨fun hgt => ?_, fun hgt => ?_⟩
  · rw [wr_i64 (x := (x : Int) - 4294967296) (by omega) (by omega)]
    refine hj _ _ fun _ => ?_
    (try simp only [cv_2_21])
    exact ⟨x, off', e', hv, by rw [i32_shift], hS⟩
  · refine hj _ _ fun _ => ?_
    (try simp only [cv_2_21])
    exact ⟨x, off', e', hv, rfl, hS⟩
theorem dFault (at_ : Nat) (e : Int) (hat : at_ ≤ all.length) (h : St o w (RefR g all off err :: R)) : CallV Tryz.prog Z 81 #[.pointer (some ⟨g, 0, none⟩), .int .i64 at_, .int .i64 e] w fun r w' => St o w' (RefR g all at_ e :: R) := by
  obtain ⟨v, ⟨h1, h2⟩, hS⟩ := RefR.open h
  refine f81.calls ?_
  unfold f81.sh
  (try simp only [o_chk, fa_83_2, Nat.zero_add, fa_83_1])
  refine r_store hS one3 (show 1 < 3 by omega) rfl fun w2 hS => ?_
  skip
  refine r_store hS one47 (show 2 < 3 by omega) rfl fun w2 hS => ?_
  exact RefR.shut hat h2 hS
theorem dBuffer (most : Int) (h : St o w (RefR g all off err :: R)) : CallV Tryz.prog Z 48 #[.pointer (some ⟨g, 0, none⟩), .int .i64 most] w fun r w' => ∃ k off' e', szV most all off err = (k, off', e') ∧ St o w' (own 5 1 r k.length (cb k) :: RefR g all off' e' :: R) := by
  obtain ⟨v, ⟨h1, h2⟩, hS⟩ := RefR.open h
  refine f48.calls ?_
  unfold f48.sh
  (try simp only [o_chk, fa_83_1, Nat.zero_add, o_chkp, fa_83_1p, fa_83_0p, Nat.add_zero, fa_83_2])
  refine r_load one3 (hS.at m0 1 rfl) ?_
  refine (dInt32 Z (RefR.shut h1 h2 hS)).mono fun r w1 ⟨x, off2, e2, hnm, hr, hS⟩ => ?_
  subst hr
  have hrg := i32_range (x : Int)
  unfold nmV at hnm
  by_cases h0 : err = 0 ∧ off + 4 ≤ all.length
  · rw [if_pos h0] at hnm
    injection hnm with hx hnm
    injection hnm with ho he
    subst ho he
    have hsz : ∀ k off' e', (if IntKind.i32.wrap (x : Int) < 0 ∨ most < IntKind.i32.wrap (x : Int) then (([] : List UInt8), off, (11 : Int))
        else if off + 4 + (IntKind.i32.wrap (x : Int)).toNat ≤ all.length then ((all.drop (off + 4)).take (IntKind.i32.wrap (x : Int)).toNat, off + 4 + (IntKind.i32.wrap (x : Int)).toNat, 0)
        else ([], off, 10)) = (k, off', e') → szV most all off err = (k, off', e') := fun k off' e' hh => by
      unfold szV
      rw [if_pos h0, hx]
      exact hh
    generalize IntKind.i32.wrap (x : Int) = y at *
    obtain ⟨v, ⟨h1, h2⟩, hO⟩ := RefR.open hS
    (try simp only [cv_21_3, o_lss])
    rw [wr_i64 (x := y) (by omega) (by omega)]
    refine r_load one47 (hO.at m0 2 rfl) ?_
    (try simp only [o_neq, bne_self_eq_false, condF])
    by_cases hy1 : y < 0
    · (try simp only [hy1, decide_true, o_pickT, condT, guardW_tf])
      exact (dFault Z off 11 (by omega) hS).mono fun r4 w4 hS => ⟨[], off, 11, hsz _ _ _ (by rw [if_pos (.inl hy1)]), hS.own_nil 5 1⟩
    by_cases hy2 : most < y
    · (try simp only [hy1, decide_false, o_pickF, guardW_ff, o_gtr, hy2, decide_true, condT])
      exact (dFault Z off 11 (by omega) hS).mono fun r4 w4 hS => ⟨[], off, 11, hsz _ _ _ (by rw [if_pos (.inr hy2)]), hS.own_nil 5 1⟩
    have hno : ¬ (y < 0 ∨ most < y) := by omega
    obtain ⟨n, rfl⟩ : ∃ n : Nat, y = n := ⟨y.toNat, by omega⟩
    (try simp only [hy1, decide_false, o_pickF, guardW_ff, o_gtr, hy2, condF])
    refine ⟨fun w2 hd => ?_⟩
    have hS := hS.drew hd
    have hO := hO.drew hd
    refine rr_load one22 (hO.at m0 0 rfl) ?_
    refine rp (fun w => (hO.own_rd m1).len sl22 _ rfl _ w) ?_
    skip
    refine rr_load one3 (hO.at m0 1 rfl) ?_
    refine rp (fun w => run_sub _ w _ _ _ _) ?_
    rw [wr_i64 (x := (all.length : Int) - ((off + 4 : Nat) : Int)) (by omega) (by omega)]
    by_cases hlt : (all.length : Int) - ((off + 4 : Nat) : Int) < (n : Int)
    · (try simp only [o_lssp, hlt, decide_true, condT])
      exact (dFault Z off 10 (by omega) hS).mono fun r4 w4 hS => ⟨[], off, 10, hsz _ _ _ (by rw [if_neg hno, if_neg (by omega)]), hS.own_nil 5 1⟩
    have hle : off + 4 + n ≤ all.length := by omega
    (try simp only [o_lssp, hlt, decide_false, condF])
    refine ⟨fun w3 hd => ?_⟩
    have hS := hS.drew hd
    have hO := hO.drew hd
    refine rr_load one22 (hO.at m0 0 rfl) ?_
    skip
    refine rr_load one3 (hO.at m0 1 rfl) ?_
    skip
    refine rr_load one3 (hO.at m0 1 rfl) ?_
    (try simp only [o_addp])
    rw [wr_i64 (x := ((off + 4 : Nat) : Int) + (n : Int)) (by omega) (by omega)]
    obtain ⟨x2, hx2, hr2⟩ := midB (hO.pick 1) (off + 4) n hle .i64 .i64
    have e1 : ((off + 4 : Nat) : Int) + (n : Int) = ((off + 4 + n : Nat) : Int) := by omega
    rw [e1]
    refine rp hx2 ?_
    have hl : ((all.drop (off + 4)).take n).length = n := by rw [List.length_take, List.length_drop]; omega
    refine (copyBytes Z hO (fun w hw => hr2 w (hw.own_rd m1)) (by omega)).mono fun r w4 hO => ?_
    refine rs_load one3 (hO.at m1 1 rfl) ?_
    refine rs_load one3 (hO.at m1 1 rfl) ?_
    refine rs_load one22 (hO.at m1 0 rfl) ?_
    skip
    refine r_load one3 (hO.at m1 1 rfl) ?_
    (try simp only [o_add])
    rw [wr_i64 (x := ((off + 4 : Nat) : Int) + (n : Int)) (by omega) (by omega), e1]
    refine r_store (hO.pick 1) one3 (show 1 < 3 by omega) rfl fun w5 hO => ?_
    exact ⟨(all.drop (off + 4)).take n, off + 4 + n, 0, hsz _ _ _ (by rw [if_neg hno, Int.toNat_natCast, if_pos hle]), (RefR.shut hle h2 (hO.pick 1 |>.put 2)).swap⟩
  · rw [if_neg h0] at hnm
    injection hnm with hx hnm
    injection hnm with ho he
    subst hx ho he
    obtain ⟨v, ⟨h1, h2⟩, hO⟩ := RefR.open hS
    have hbe : ((if err = 0 then (10 : Int) else err) != 0) = true := by
      have := err_ne (err := err)
      simpa [bne] using this
    (try simp only [cv_21_3, o_lss])
    refine r_load one47 (hO.at m0 2 rfl) ?_
    (try simp only [o_neq, hbe, condT])
    exact ⟨[], off, _, by unfold szV; rw [if_neg h0], hS.own_nil 5 1⟩
theorem dText (most : Int) (h : St o w (RefR g all off err :: R)) : CallV Tryz.prog Z 47 #[.pointer (some ⟨g, 0, none⟩), .int .i64 most] w fun r w' => ∃ k off' e', szV most all off err = (k, off', e') ∧ r = .string (str k) ∧ St o w' (RefR g all off' e' :: R) := by
  refine f47.calls ?_
  unfold f47.sh
  refine (dBuffer Z most h).mono fun r w1 ⟨k, off', e', hz, hS⟩ => ?_
  refine r1 (run_toString Tryz.underlying22 Tryz.underlying5 Tryz.underlying9 (l := k) (hS.own_rd m0)) ?_
  exact ⟨k, off', e', hz, rfl, hS.drop⟩
theorem dLeft (h : St o w (RefR g all off err :: R)) : CallV Tryz.prog Z 24 #[.pointer (some ⟨g, 0, none⟩)] w fun r w' => r = .int .i64 ((all.length - off : Nat) : Int) ∧ St o w' (RefR g all off err :: R) := by
  obtain ⟨v, ⟨h1, h2⟩, hS⟩ := RefR.open h
  refine f24.calls ?_
  unfold f24.sh
  refine ⟨fun w1 hd => ?_⟩
  have hS := hS.drew hd
  (try simp only [o_chkp, fa_83_1p, Nat.zero_add, fa_83_0p, Nat.add_zero])
  refine rr_load one22 (hS.at m0 0 rfl) ?_
  refine rp (fun w => (hS.own_rd m1).len sl22 _ rfl _ w) ?_
  skip
  refine rr_load one3 (hS.at m0 1 rfl) ?_
  (try simp only [o_subp])
  rw [wr_i64 (x := (all.length : Int) - (off : Int)) (by omega) (by omega)]
  exact ⟨by congr 1; omega, RefR.shut h1 h2 hS⟩
theorem dEnd (h : St o w (RefR g all off err :: R)) : CallV Tryz.prog Z 25 #[.pointer (some ⟨g, 0, none⟩)] w fun r w' => r = .int .i64 (if err = 0 ∧ off < all.length then 13 else err) ∧ St o w' (RefR g all off err :: R) := by
  obtain ⟨v, ⟨h1, h2⟩, hS⟩ := RefR.open h
  refine f25.calls ?_
  unfold f25.sh
  refine ⟨fun w1 hd => ?_⟩
  have hS := hS.drew hd
  (try simp only [o_chk, fa_83_2, Nat.zero_add, o_chkp, fa_83_2p])
  refine rr_load one47 (hS.at m0 2 rfl) ?_
  by_cases he : err = 0
  · subst he
    (try simp only [o_eqlp, beq_self_eq_true, o_pickTp, guardV_true, o_chkp, fa_83_0p, Nat.add_zero, fa_83_1p, Nat.zero_add])
    refine rr_load one3 (hS.at m0 1 rfl) ?_
    skip
    refine rr_load one22 (hS.at m0 0 rfl) ?_
    refine rp (fun w => (hS.own_rd m1).len sl22 _ rfl _ w) ?_
    by_cases hlt : (off : Int) < (all.length : Int)
    · (try simp only [o_lssp, hlt, decide_true, condT])
      exact ⟨by rw [if_pos ⟨trivial, by omega⟩], RefR.shut h1 h2 hS⟩
    · (try simp only [o_lssp, hlt, decide_false, condF])
      refine r_load one47 (hS.at m0 2 rfl) ?_
      exact ⟨by rw [if_neg (fun h => by omega)], RefR.shut h1 h2 hS⟩
  · have hb : (err == 0) = false := by simp [he]
    (try simp only [o_eqlp, hb, o_pickFp, condF, guardV_ft])
    refine r_load one47 (hS.at m0 2 rfl) ?_
    exact ⟨by rw [if_neg (fun h => he h.1)], RefR.shut h1 h2 hS⟩
theorem dNew {x : Value} {n : Nat} (h : St o w R) (hx : Ent o R fun w => Rd w 1 x n (cb l)) (hl : l.length ≤ 140737488355328) : CallV Tryz.prog Z 12 #[x] w fun r w' => ∃ g, r = .pointer (some ⟨g, 0, none⟩) ∧ St o w' (RefR g l 0 0 :: R) := by
  refine f12.calls ?_
  unfold f12.sh
  refine (copyBytes Z h hx hl).mono fun r w1 hS => ?_
  obtain ⟨a, c, rfl⟩ := hS.own_form
  refine r_build (cells := #[.slice a l.length c, .int .i64 0, .int .i64 0]) (by kernel_rfl) ?_
  refine r_box _ _ hS fun g w2 hS => ?_
  exact ⟨g, rfl, RefR.shut (by omega) hl hS⟩
end
end Go.Proofs.YthobnaagjhooeaaGreatDoor
