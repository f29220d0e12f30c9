/- works; and the whole of PackSums. -/
import Derived.Test.YthobnaagjhooeaaGreatDoorP3
set_option linter.unusedVariables false
set_option linter.unusedSimpArgs false
namespace Go.Proofs.YthobnaagjhooeaaGreatDoor
open Go.Sh
section
variable (Z : List PanicEntry → World → Prop) {o w : World} {R : List HProp} {g : Nat} {B : Option Nat} {all l : List UInt8} {off : Nat} {err : Int}
theorem rInt32 (h : St o w (RdrAt g B all off err :: R)) : CallV Tryz.prog Z 14 #[.pointer (some ⟨g, 0, none⟩)] w fun r w' =>
    (r = .int .i32 (IntKind.i32.wrap (dec ((all.drop off).take 4))) ∧ err = 0 ∧ off + 4 ≤ all.length ∧ St o w' (RdrAt g B all (off + 4) 0 :: R)) ∨
    (r = .int .i32 0 ∧ ¬ (err = 0 ∧ off + 4 ≤ all.length) ∧ St o w' (RdrAt g B all off (if err = 0 then 10 else err) :: R)) := by
  refine f14.calls ?_
  unfold f14.sh
  refine (rWhole Z 4 (by omega) h).mono fun r w' hq => ?_
  rcases hq with ⟨rfl, h1, h2, hS⟩ | ⟨rfl, h1, hS⟩
  · (try simp only [cv_86_21])
    exact .inl ⟨trivial, h1, h2, hS⟩
  · (try simp only [cv_86_21])
    exact .inr ⟨rfl, h1, hS⟩
theorem slice_bytes {v : Value} (l : List UInt8) (hl : l.length ≤ 1000) (h0 : 0 < l.length) {kk : Value → World → Prop} (h : St o w R) (parts : Array (Nat × Value)) (hp : parts = ((cb l).zipIdx.map fun p => (p.2, p.1)).toArray)
    (hk : ∀ x w', St o w' (own 5 1 x l.length (cb l) :: R) → kk x w') : run1 Tryz.prog Z (Instr.buildSlice 22 l.length parts) w kk :=
  r_slice el22 h l.length parts (cb l) (cb_length l) (by omega) h0 (cb_ones _) hp fun g w' hS => hk _ w' hS
theorem works (h : St o w R) : CallV Tryz.prog Z 4 #[] w fun r w' => r = .bool true ∧ St o w' R := by
  refine f4.calls ?_
  unfold f4.sh
  refine r1 (run_build w 37 _ #[.slice none 0 0] (by kernel_rfl)) ?_
  refine r_box 37 _ h fun g w1 hS => ?_
  refine (wInt32 Z (-2) (by simp) (Wr.plain hS)).mono fun r w2 hS => ?_
  rw [show ([] : List UInt8) ++ enc 4 (-2) = [255, 255, 255, 254] by decide] at hS
  refine slice_bytes (v := undef) Z [255, 255, 255, 254, 9] (by decide) (by decide) hS _ rfl fun x w3 hS => ?_
  refine (rNew Z hS (Ent.own List.mem_cons_self) (by decide)).mono fun r w4 hq => ?_
  obtain ⟨g2, B, rfl, hS⟩ := hq
  refine (rInt32 Z hS).mono fun r w5 hq => ?_
  obtain ⟨rfl, _, _, hS⟩ | ⟨_, hno, _⟩ := hq
  rotate_left
  · exact absurd ⟨rfl, by decide⟩ hno
  rw [show IntKind.i32.wrap (dec (List.take 4 (List.drop 0 [255, 255, 255, 254, 9]))) = -2 by decide]
  refine slice_bytes (v := undef) Z [97, 98, 99] (by decide) (by decide) hS _ rfl fun y w6 hS => ?_
  refine (packSum Z (hS.own_rd List.mem_cons_self)).mono fun r w7 ⟨hr, hw⟩ => ?_
  subst hr; subst hw
  rw [show adler [97, 98, 99] = 38600999 by decide]
  have hS := hS.drop
  refine (wBytes Z (by decide) (hS.pick 2)).mono fun z w8 hS => ?_
  refine slice_bytes (v := undef) Z [255, 255, 255, 254] (by decide) (by decide) hS _ rfl fun y w9 hS => ?_
  refine (eqBytes Z (hS.own_rd (List.mem_cons_of_mem _ List.mem_cons_self)) (hS.own_rd List.mem_cons_self)).mono fun r w10 ⟨hr, hd⟩ => ?_
  subst hr
  have hS := (hS.drew hd).drop.drop.drop
  simp only [decide_true]
  (try simp only [o_pickT, guardW_true, o_eql, beq_self_eq_true])
  skip
  skip
  refine (rLeft Z hS).mono fun r w11 ⟨hr, hw⟩ => ?_
  subst hr; subst hw
  (try simp only [Nat.zero_add, o_eql])
  rw [show ((([255, 255, 255, 254, 9] : List UInt8).length - (0 + 4) : Nat) : Int) = 1 by decide]
  (try simp only [beq_self_eq_true])
  (try simp only [o_pickT, guardW_true, o_eql])
  rw [show ((38600999 : Nat) : Int) = 38600999 by rfl]
  (try simp only [beq_self_eq_true])
  skip
  exact ⟨trivial, hS.drop.drop⟩
end
end Go.Proofs.YthobnaagjhooeaaGreatDoor
