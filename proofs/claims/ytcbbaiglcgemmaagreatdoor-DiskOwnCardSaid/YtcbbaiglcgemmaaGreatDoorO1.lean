
/- A Bag's files; a disk that lives; what is alike. -/
import Derived.Test.YtcbbaiglcgemmaaGreatDoorQ2
import Derived.Test.YtcbbaiglcgemmaaGreatDoorD12
import Derived.Test.YtcbbaiglcgemmaaGreatDoorR3
import Derived.Test.YtcbbaiglcgemmaaGreatDoorShRound
import Derived.Lib.SlBytesConst
set_option linter.unusedVariables false
set_option linter.unusedSimpArgs false
namespace Go.Proofs.YtcbbaiglcgemmaaGreatDoor
open Go.Sh
section
variable (Z : List PanicEntry → World → Prop) {o w : World} {R As : List HProp} {g : Nat} {b0 b1 b2 : List Value}
theorem bagAddFiles {v : Value} {l : List (Fi × Value)} (hx : Ent o R fun w => RdF w v l) (hl : l.length ≤ 64) (h0 : b0.length + l.length ≤ 600) (h2 : b2.length < 600) (h : St o w (bagP g b0 b1 b2 :: R)) :
    CallV Tryz.prog Z 13 #[.pointer (some ⟨g, 0, none⟩), v] w fun r w' => St o w' (bagP g (b0 ++ l.map Prod.snd) b1 (b2 ++ [v]) :: R) := by
  obtain ⟨xa, xc, hxf⟩ := (hx w h.drop).1.form
  refine f13.calls ?_
  unfold f13.sh
  intro j hj
  have HJ : ∀ w', St o w' (bagP g b0 b1 (b2 ++ [v]) :: R) → j w' := by
    intro w0 hS
    refine hj w0 fun _ => ?_
    clear hj
    refine ⟨fun k y w' => ∃ i : Nat, y = .int .i64 i ∧ k + i = l.length ∧ St o w' (bagP g (b0 ++ (l.take i).map Prod.snd) b1 (b2 ++ [v]) :: R), ⟨l.length, 0, rfl, rfl, by simpa using hS⟩, ?_⟩
    clear hS
    rintro k _ w1 ⟨i, rfl, hi, hS⟩ _
    rw [hxf]
    by_cases hlt : (i : Int) < (l.length : Int)
    · have hil : i < l.length := by omega
      have h6 : (i : Int) < 600 := by omega
      (try simp only [o_add, ln_22_3, o_lss, hlt, decide_true, o_pickT, guardW_true, h6, condT])
      rw [← hxf]
      obtain ⟨b, q, hp, hc⟩ := (hx w1 hS.drop).ix i hil
      refine r1 (hp _) ?_
      (try simp only [fa_71_1])
      refine r_load one58 (hc w1 (hx w1 hS.drop) 1 _ rfl) ?_
      obtain ⟨ba, bc, hbf⟩ := ((hx w1 hS.drop).2 l[i] (List.getElem_mem hil)).form
      refine (bagAddBytes Z (l := l[i].2) (by rw [hbf]; rfl) hS).mono fun r w2 ⟨b', hb, hS⟩ => ?_
      have hb' : b' = b0 ++ (l.take (i + 1)).map Prod.snd := by
        rw [hb, if_pos (by simp only [List.length_append, List.length_map, List.length_take]; omega), List.append_assoc, List.take_succ_eq_append_getElem hil, List.map_append]; rfl
      subst hb'
      skip
      rw [wr_i64 (x := (i : Int) + 1) (by omega) (by omega)]
      exact ⟨k - 1, by omega, i + 1, rfl, by omega, hS⟩
    · obtain rfl : i = l.length := by omega
      rw [List.take_length] at hS
      (try simp only [o_add, ln_22_3, o_lss, hlt, decide_false, o_pickF, condF, guardW_ft])
      rw [← hxf]
      exact hS
  refine bagPushFiles Z (l := v) (by rw [hxf]; rfl) h fun b' w' hb hS => HJ _ ?_
  rw [if_pos h2] at hb
  subst hb
  exact hS
theorem r_sliceBytes {P : Program} {kk : Value → World → Prop} {t e : TypeId} {bt : Nat} {z : Value} (hel : El P t e 1 bt z) (he : P.underlying e = some (.int .u8)) (h : St o w R) (len : Nat) (parts : Array (Nat × Value)) (vs : List Value) (hlen : vs.length = len) (hsz : len ≤ 16777216) (h0 : 0 < len)
    (h1 : ones vs) (hp : parts = (vs.zipIdx.map fun p => (p.2, p.1)).toArray)
    (hk : ∀ g w', St o w' (own e 1 (.slice (some ⟨g, 0, none⟩) len len) len vs :: R) → kk (.slice (some ⟨g, 0, none⟩) len len) w') : run1 P Z (Instr.buildSlice t len parts) w fun x w => run1 P Z (convert t t x) w kk := by
  obtain ⟨i, hi, hs, _, hz⟩ := hel.info
  have hcs : P.cellsOf e = 1 := by simp [Program.cellsOf, hi, hs]
  have hf : Instr.fill (fun i => some (i * 1, 1)) (madeCells z.cells (len * 1)) parts.toList = some vs.toArray := by
    have := fill_all vs [] (madeCells z.cells (len * 1)).toList (by rw [Array.length_toList, size_madeCells]; omega) h1
    simpa [hp] using this
  have hrun : (Instr.buildSlice t len parts).run P w = .ok (.slice (some ⟨w.heap.size, 0, none⟩) len len) (w.alloc (.cells vs.toArray e)) := by
    have h1 : ¬ (len * 1 > 2 ^ 24) := by omega
    have h2 : ¬ (len * 1 = 0) := by omega
    have h3 : (Array.range (len * 1)).map (fun x => z.cells[x % z.cells.size]!) = madeCells z.cells (len * 1) := rfl
    have hzv : (zeroValue e).run P w = .ok z w := by simp [zeroValue, run_typeInfo _ hi, hz]
    unfold Instr.buildSlice
    simp only [Sem.run_bind, run_underlying hel.ht, Result.andThen_ok, run_sizeOf _ hi, hcs, h1, h2, if_false, Sem.run_pure, hzv, h3, hf]
    simp [newRow, newObj, Sem.run, World.alloc_eq]
  refine r1 hrun (r1 (Lib.run_convert_bytes_const w t e vs.toArray len len hel.ht he) (hk _ _ ?_))
  have ha : St o _ (blk w.heap.size e vs :: R) := (h.alloc_obj (.cells vs.toArray e (vs.toArray.size, vs.toArray.size + 1))).mono fun h hb => ⟨_, .inr (by simp), hb⟩
  have hmk := ha.own_mk (sz := 1) (cap := len) len (Nat.le_refl _) (by unfold maxLen; omega) (by rw [hlen, Nat.mul_one])
  rw [Nat.mul_one, List.take_of_length_le (by omega)] at hmk
  exact hmk
def nA : Bs := [97]
theorem dOffM {d : Dk} (h : St o w (DiskM g d :: R)) : CallV Tryz.prog Z 34 #[.pointer (some ⟨g, 0, none⟩)] w fun r w' => r = .tuple #[] ∧ St o w' (DiskM g d.off :: R) := by
  obtain ⟨v, L, hk, hL, hS⟩ := DiskM.open h
  unfold DiskO at hS
  exact (dOff Z hS).mono fun r w' ⟨hr, hS⟩ => ⟨hr, DiskM.shut (d := d.off) (Dk.off_ok hk) hL rfl hS⟩
theorem lives (h : St o w R) : CallV Tryz.prog Z 7 #[] w fun r w' => r = .bool true ∧ St o w' R := by
  refine f7.calls ?_
  unfold f7.sh
  have z0 : ((0 : Int) != 0) = false := rfl
  have z1 : ((0 : Int) == 0) = true := rfl
  refine (dNew Z 10 h).mono fun r w1 hr => ?_
  rcases hr with ⟨hb, _⟩ | ⟨n, hn, _, g, rfl, hS⟩
  · omega
  obtain rfl : n = 10 := by omega
  clear hn
  have ha : ({ data := #[97] } : ByteArray) = str nA := rfl
  rw [ha]
  (try simp only [o_ext2_1, o_neq, z0, o_pickF, guardW_ff, o_ext2_0, eqlp_24, condF])
  refine r_sliceBytes Z el58 Tryz.underlying5 hS 3 _ (cb [97, 98, 99]) rfl (by omega) (by omega) (cb_ones _) rfl fun g2 w2 hS => ?_
  refine (dAppend Z (p := [97, 98, 99]) nA (by decide) hS.swap (fun w hS => hS.own_rd m0) (by decide)).mono fun r w3 ⟨hr, hS⟩ => ?_
  have e1 : ((Dk.new 10).append nA [97, 98, 99]).1 = 0 := by decide
  rw [e1] at hr
  subst hr
  generalize hd1 : ((Dk.new 10).append nA [97, 98, 99]).2 = d1 at hS
  refine (dSync Z nA (by decide) hS).mono fun r w4 ⟨hr, hS⟩ => ?_
  have e2 : (d1.sync nA).1 = 0 := by subst hd1; decide
  rw [e2] at hr
  subst hr
  generalize hd2 : (d1.sync nA).2 = d2 at hS
  refine r_sliceBytes Z el58 Tryz.underlying5 hS 1 _ (cb [100]) rfl (by omega) (by omega) (cb_ones _) rfl fun g3 w5 hS => ?_
  refine (dAppend Z (p := [100]) nA (by decide) hS.swap (fun w hS => hS.own_rd m0) (by decide)).mono fun r w6 ⟨hr, hS⟩ => ?_
  have e3 : (d2.append nA [100]).1 = 0 := by subst hd2; subst hd1; decide
  rw [e3] at hr
  subst hr
  generalize hd3 : (d2.append nA [100]).2 = d3 at hS
  refine (dOffM Z hS).mono fun r w7 ⟨hr, hS⟩ => ?_
  refine (dStart Z (ks := []) (x := .slice none 0 0) (fun w hS => ⟨rfl, Nat.zero_le _, .inl ⟨0, rfl, rfl⟩⟩) hS).mono fun r w8 hS => ?_
  have e4 : (d3.off.start []).found nA = 0 := by subst hd3; subst hd2; subst hd1; decide
  have e5 : (d3.off.start []).bytes nA = [97, 98, 99] := by subst hd3; subst hd2; subst hd1; decide
  refine (dRead Z nA (by decide) hS).mono fun r w9 hr => ?_
  rcases hr with ⟨hf, _⟩ | ⟨_, v, rfl, hS⟩
  · exact absurd e4 hf
  rw [e5] at hS
  have hrd := hS.own_rd m0
  have hto : (convert 58 9 v).run Tryz.prog w9 = .ok (.string (str [97, 98, 99])) w9 := run_toString Tryz.underlying58 Tryz.underlying5 Tryz.underlying9 hrd
  have e6 : ({ data := #[97, 98, 99] } : ByteArray) = str [97, 98, 99] := rfl
  rw [e6]
  (try simp only [o_eql, z1, o_pickT, guardW_true, o_ext2_1, o_ext2_0])
  refine r1 hto (r1 (run_eql_strS _ _ _ _ _ _) ?_)
  (try simp only [decide_true])
  exact ⟨by first | rfl | trivial, hS.drop.drop.drop.drop⟩
end
end Go.Proofs.YtcbbaiglcgemmaaGreatDoor
