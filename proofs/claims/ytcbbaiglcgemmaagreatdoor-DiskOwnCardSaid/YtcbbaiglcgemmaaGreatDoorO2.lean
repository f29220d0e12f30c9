
/- What is alike; how many bytes the files have. -/
import Derived.Test.YtcbbaiglcgemmaaGreatDoorO1
import Derived.Test.YtcbbaiglcgemmaaGreatDoorD11
set_option linter.unusedVariables false
set_option linter.unusedSimpArgs false
namespace Go.Proofs.YtcbbaiglcgemmaaGreatDoor
open Go.Sh
section
variable (Z : List PanicEntry → World → Prop) {o w : World} {R As : List HProp} {g g2 : Nat} {d : Dk}
theorem dOnM (h : St o w (DiskM g d :: R)) : CallV Tryz.prog Z 62 #[.pointer (some ⟨g, 0, none⟩)] w fun r w' => r = .bool d.on ∧ w' = w := by
  obtain ⟨v, L, hk, hL, hS⟩ := DiskM.open h
  unfold DiskO at hS
  exact dOn Z hS m0
theorem alike (hk : d.ok) (h : St o w (DiskM g d :: RefM g2 d :: R)) : CallV Tryz.prog Z 21 #[.pointer (some ⟨g, 0, none⟩), .pointer (some ⟨g2, 0, none⟩)] w fun r w' => r = .bool true ∧ St o w' R := by
  have hmany := hk.many
  have hused := hk.used
  have hroom := hk.room
  have hbl : ∀ f ∈ d.fs, f.by_.length ≤ 140737488355328 := fun f hf => by have := total_ge hf; omega
  refine f21.calls ?_
  unfold f21.sh
  refine (dOnM Z h).mono fun r w1 ⟨hr, hw⟩ => ?_
  subst hr; subst hw
  refine (dUsed Z h).mono fun r w1 ⟨hr, hw⟩ => ?_
  subst hr; subst hw
  refine (dWrites Z h).mono fun r w1 ⟨hr, hw⟩ => ?_
  subst hr; subst hw
  refine (dNames Z h).mono fun rn w1 hS => ?_
  refine (dImage Z hS.swap).mono fun ri w2 ⟨LI, hLI, hS⟩ => ?_
  have hS : St o w2 (RefM g2 d :: own 71 3 ri LI.length (LI.flatMap fc) :: satH (LI.map fb) :: own 9 1 rn d.fs.length (d.fs.map nmV) :: R) := by (refine Sh.St.sub ?_ (hS); repeat (first | with_reducible exact sub_refl | with_reducible exact sub_nil | with_reducible refine sub_p0 ?_ | with_reducible refine sub_p1 ?_ | with_reducible refine sub_p2 ?_ | with_reducible refine sub_p3 ?_ | with_reducible refine sub_p4 ?_ | with_reducible refine sub_p5 ?_ | with_reducible refine sub_p6 ?_ | with_reducible refine sub_p7 ?_ | with_reducible refine sub_p8 ?_ | with_reducible refine sub_p9 ?_ | with_reducible refine sub_p10 ?_ | with_reducible refine sub_p11 ?_ | with_reducible refine sub_p12 ?_ | with_reducible refine sub_p13 ?_ | with_reducible refine sub_p14 ?_ | with_reducible refine sub_p15 ?_ | exact sub_refl | refine sub_p0 ?_ | refine sub_p1 ?_ | refine sub_p2 ?_ | refine sub_p3 ?_ | refine sub_p4 ?_ | refine sub_p5 ?_ | refine sub_p6 ?_ | refine sub_p7 ?_ | refine sub_p8 ?_ | refine sub_p9 ?_ | refine sub_p10 ?_ | refine sub_p11 ?_ | refine sub_p12 ?_ | refine sub_p13 ?_ | refine sub_p14 ?_ | refine sub_p15 ?_ | refine sub_drop ?_))
  obtain ⟨v, L, hL, hS⟩ := RefM.open hS
  have hlen : L.length = d.fs.length := by rw [← hL, List.length_map]
  (try simp only [o_chk, fa_87_2, Nat.zero_add])
  refine r_load one4 (hS.at m0 2 rfl) ?_
  have e1 : (d.on == d.on) = true := by simp
  (try simp only [eqlb_4, e1, o_pickT, guardW_true, o_chk, fa_87_1, Nat.zero_add])
  refine r_load one22 (hS.at m0 1 rfl) ?_
  have hrd := own_rdF hS.drop
  refine (rSum Z hrd (by rw [List.length_map]; omega) (by rw [toFi_sum, hL]; omega)).mono fun r w3 ⟨hr, hw⟩ => ?_
  rw [toFi_sum, hL] at hr
  subst hr; subst hw
  have e2 : (((total d.fs : Nat) : Int) == ((total d.fs : Nat) : Int)) = true := by simp
  have e3 : (d.writes == d.writes) = true := by simp
  (try simp only [o_eql, e2, o_pickT, guardW_true, o_chk, fa_87_5, Nat.zero_add])
  refine r_load one3 (hS.at m0 5 rfl) ?_
  (try simp only [o_eql, e3, o_pickT, guardW_true])
  have hS := RefM.shut hL hS
  refine (rNames Z hS (by omega)).mono fun r w4 hS => ?_
  refine (eqTextsT Z (fs := d.fs) (hS.own_rd m4) (hS.own_rd m0)).mono fun r2 w5 ⟨hr, hd⟩ => ?_
  subst hr
  have hS := hS.drew hd
  (try simp only [o_pickT, guardW_true])
  refine (rImage Z hS.drop (by omega) hbl).mono fun r w6 ⟨l', hl', hS⟩ => ?_
  have hx : RdF w6 ri (LI.map toFi) := own_rdF (v := ri) (L := LI) (R := R) (by (refine Sh.St.sub ?_ (hS); repeat (first | with_reducible exact sub_refl | with_reducible exact sub_nil | with_reducible refine sub_p0 ?_ | with_reducible refine sub_p1 ?_ | with_reducible refine sub_p2 ?_ | with_reducible refine sub_p3 ?_ | with_reducible refine sub_p4 ?_ | with_reducible refine sub_p5 ?_ | with_reducible refine sub_p6 ?_ | with_reducible refine sub_p7 ?_ | with_reducible refine sub_p8 ?_ | with_reducible refine sub_p9 ?_ | with_reducible refine sub_p10 ?_ | with_reducible refine sub_p11 ?_ | with_reducible refine sub_p12 ?_ | with_reducible refine sub_p13 ?_ | with_reducible refine sub_p14 ?_ | with_reducible refine sub_p15 ?_ | exact sub_refl | refine sub_p0 ?_ | refine sub_p1 ?_ | refine sub_p2 ?_ | refine sub_p3 ?_ | refine sub_p4 ?_ | refine sub_p5 ?_ | refine sub_p6 ?_ | refine sub_p7 ?_ | refine sub_p8 ?_ | refine sub_p9 ?_ | refine sub_p10 ?_ | refine sub_p11 ?_ | refine sub_p12 ?_ | refine sub_p13 ?_ | refine sub_p14 ?_ | refine sub_p15 ?_ | refine sub_drop ?_)))
  refine (eqFiles Z hx (own_rdI hS) (by rw [fi_map, hLI, hl'])).mono fun r3 w7 ⟨hr, hd⟩ => ?_
  subst hr
  have hS := hS.drew hd
  (try simp only [])
  exact ⟨by first | rfl | trivial, by (refine Sh.St.sub ?_ (hS); repeat (first | with_reducible exact sub_refl | with_reducible exact sub_nil | with_reducible refine sub_p0 ?_ | with_reducible refine sub_p1 ?_ | with_reducible refine sub_p2 ?_ | with_reducible refine sub_p3 ?_ | with_reducible refine sub_p4 ?_ | with_reducible refine sub_p5 ?_ | with_reducible refine sub_p6 ?_ | with_reducible refine sub_p7 ?_ | with_reducible refine sub_p8 ?_ | with_reducible refine sub_p9 ?_ | with_reducible refine sub_p10 ?_ | with_reducible refine sub_p11 ?_ | with_reducible refine sub_p12 ?_ | with_reducible refine sub_p13 ?_ | with_reducible refine sub_p14 ?_ | with_reducible refine sub_p15 ?_ | exact sub_refl | refine sub_p0 ?_ | refine sub_p1 ?_ | refine sub_p2 ?_ | refine sub_p3 ?_ | refine sub_p4 ?_ | refine sub_p5 ?_ | refine sub_p6 ?_ | refine sub_p7 ?_ | refine sub_p8 ?_ | refine sub_p9 ?_ | refine sub_p10 ?_ | refine sub_p11 ?_ | refine sub_p12 ?_ | refine sub_p13 ?_ | refine sub_p14 ?_ | refine sub_p15 ?_ | refine sub_drop ?_))⟩
end
end Go.Proofs.YtcbbaiglcgemmaaGreatDoor
