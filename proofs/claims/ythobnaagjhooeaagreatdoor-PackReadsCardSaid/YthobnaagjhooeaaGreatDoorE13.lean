/- Two readers in step over one script. -/
import Derived.Test.YthobnaagjhooeaaGreatDoorE12
import Derived.Test.YthobnaagjhooeaaGreatDoorPp
import Derived.Test.YthobnaagjhooeaaGreatDoorQ4
import Derived.Test.YthobnaagjhooeaaGreatDoorShSub
set_option linter.unusedVariables false
set_option linter.unusedSimpArgs false
namespace Go.Proofs.YthobnaagjhooeaaGreatDoor
open Go.Sh
theorem tell_f (kd n : Int) (all : List UInt8) (off : Nat) (err : Int) : (tell kd n all off err).1.f < 18446744073709551616 := by
  by_cases h6 : kd = 6
  · subst h6
    have hd := dec_lt ((all.drop off).take 8)
    have h8 : (256 : Nat) ^ ((all.drop off).take 8).length ≤ 256 ^ 8 := Nat.pow_le_pow_right (by omega) (by rw [List.length_take]; omega)
    have e8 : (256 : Nat) ^ 8 = 18446744073709551616 := by decide
    have e : (tell 6 n all off err).1.f = (flV all off err).1 := rfl
    rw [e]
    unfold flV
    split
    · split
      · show (0 : Nat) < _; omega
      · show dec _ < _; omega
    · show (0 : Nat) < _; omega
  · unfold tell
    rw [if_neg (c := kd = 6) h6]
    repeat' split
    all_goals (show (0 : Nat) < _; omega)
theorem tszV (n : Int) (all : List UInt8) (off : Nat) (err : Int) : (szV n all off err).1.length ≤ all.length := by
  unfold szV
  repeat' split
  all_goals simp
  omega
theorem trwV (n : Int) (all : List UInt8) (off : Nat) (err : Int) : (rwV n all off err).1.length ≤ all.length := by
  unfold rwV
  repeat' split
  all_goals simp
  omega
theorem tell_b (kd n : Int) (all : List UInt8) (off : Nat) (err : Int) : (tell kd n all off err).1.b.length ≤ all.length := by
  by_cases h8 : kd = 8
  · subst h8; exact tszV n all off err
  by_cases h9 : kd = 9
  · subst h9; exact trwV n all off err
  unfold tell
  rw [if_neg (c := kd = 8) h8, if_neg (c := kd = 9) h9]
  repeat' split
  all_goals (show (0 : Nat) ≤ _; omega)
abbrev Kp : Type := Value × Value × List UInt8
def kA (p : Kp) : HProp := own 5 1 p.1 p.2.2.length (cb p.2.2)
def kB (p : Kp) : HProp := own 5 1 p.2.1 p.2.2.length (cb p.2.2)
theorem tl_ones (t : Tl) (c : Nat) (bv : Value) (hb : bv.oneCell' = true) : ones (t.cells c bv) := by
  intro u hu
  simp only [Tl.cells, List.mem_cons, List.not_mem_nil, or_false] at hu
  rcases hu with rfl | rfl | rfl | rfl | rfl | rfl | rfl <;> first | assumption | rfl
section
variable (Z : List PanicEntry → World → Prop) {o w : World} {R : List HProp} {g g2 : Nat} {B : Option Nat} {all : List UInt8} {off : Nat} {err : Int}
set_option maxRecDepth 100000 in
theorem readsC {x : Value} {ps : List Pop} (ask : Bool) (hx : RowR o 6 (PopV o) ps x) (ho : old o ∈ R) (hT : Tab o) (hall : all.length ≤ 140737488351232) (h : St o w (RdrAt g B all off err :: RefR g2 all off err :: R)) :
    CallV Tryz.prog Z 11 #[.pointer (some ⟨g, 0, none⟩), .pointer (some ⟨g2, 0, none⟩), x, .bool ask] w fun r w' => r = .bool true ∧ St o w' R := by
  obtain ⟨xa, xc, hxf⟩ := hx.form
  have hle := hx.le
  simp only [maxLen] at hle
  subst hxf
  refine f11.calls ?_
  unfold f11.sh
  refine r_build (cells := (List.replicate 21 (.slice none 0 0)).toArray) (by kernel_rfl) ?_
  refine r_box _ _ h fun gb w1 hS => ?_
  have hS := bag_new hS
  have hbb : ∀ e : Int, (e != e) = false := fun e => by simp
  refine ⟨fun m a b y w' => ∃ (i : Nat) (ks : List Kp) (off : Nat) (err : Int), y = .int .i64 i ∧ m + i = ps.length ∧ ks.length ≤ 100 ∧ (∀ p ∈ ks, p.2.2.length ≤ 140737488351232 ∧ p.1.oneCell' = true) ∧
      St o w' (RdrAt g B all off err :: RefR g2 all off err :: own 22 1 a ks.length (ks.map (·.1)) :: own 22 1 b ks.length (ks.map (·.2.1)) :: satH (ks.map kA) :: satH (ks.map kB) :: bagP gb [] [] :: R),
    ⟨ps.length, 0, [], off, err, rfl, rfl, by simp, by simp, ?_⟩, ?_⟩
  · have h1 := (((hS.emp.mono (B := satH ([].map kB)) fun _ _ => trivial).emp.mono (B := satH ([].map kA)) fun _ _ => trivial).own_nil 22 1).own_nil 22 1
    (refine Sh.St.sub ?_ (h1); repeat (first | with_reducible exact sub_refl | with_reducible exact sub_nil | with_reducible refine sub_p0 ?_ | with_reducible refine sub_p1 ?_ | with_reducible refine sub_p2 ?_ | with_reducible refine sub_p3 ?_ | with_reducible refine sub_p4 ?_ | with_reducible refine sub_p5 ?_ | with_reducible refine sub_p6 ?_ | with_reducible refine sub_p7 ?_ | with_reducible refine sub_p8 ?_ | with_reducible refine sub_p9 ?_ | with_reducible refine sub_p10 ?_ | with_reducible refine sub_p11 ?_ | with_reducible refine sub_p12 ?_ | with_reducible refine sub_p13 ?_ | with_reducible refine sub_p14 ?_ | with_reducible refine sub_p15 ?_ | exact sub_refl | refine sub_p0 ?_ | refine sub_p1 ?_ | refine sub_p2 ?_ | refine sub_p3 ?_ | refine sub_p4 ?_ | refine sub_p5 ?_ | refine sub_p6 ?_ | refine sub_p7 ?_ | refine sub_p8 ?_ | refine sub_p9 ?_ | refine sub_p10 ?_ | refine sub_p11 ?_ | refine sub_p12 ?_ | refine sub_p13 ?_ | refine sub_p14 ?_ | refine sub_p15 ?_ | refine sub_drop ?_))
  clear hS h
  rintro m xv yv _ w2 ⟨i, ks, off, err, rfl, hi, hk, hkl, hS⟩ _
  by_cases hlt : (i : Int) < (ps.length : Int)
  · have hil : i < ps.length := by omega
    (try simp only [o_add, ln_23_3, o_lss, hlt, decide_true, condT])
    intro j9 hj9
    have HJ9 : ∀ (a b : Value) (w' : World) (ks : List Kp) (off : Nat) (err : Int), ks.length ≤ 100 → (∀ p ∈ ks, p.2.2.length ≤ 140737488351232 ∧ p.1.oneCell' = true) →
        St o w' (RdrAt g B all off err :: RefR g2 all off err :: own 22 1 a ks.length (ks.map (·.1)) :: own 22 1 b ks.length (ks.map (·.2.1)) :: satH (ks.map kA) :: satH (ks.map kB) :: bagP gb [] [] :: R) → j9 a b w' := by
      intro a b w' ks off err hk hkl hS
      refine hj9 a b w' fun _ => ?_
      rw [wr_i64 (x := (i : Int) + 1) (by omega) (by omega)]
      exact ⟨m - 1, by omega, i + 1, ks, off, err, rfl, by omega, hk, hkl, hS⟩
    clear hj9
    obtain ⟨b0, q0, c0, hp0, hcl0, ⟨v0, rfl, hv0, hok⟩, hc0⟩ := hx.ix el23 .i64 i hil
    have hC : ∀ w' As, St o w' As → old o ∈ As → ∀ j v, (pcells ps[i] v0)[j]? = some v → w'.cell? ((⟨b0, q0, none⟩ : Addr).add j) = some v := fun w' As hS hm j v hv => by
      have h1 := hc0 j v hv
      rw [add_addr, ← h1]
      exact World.cell?_of_block (w := o) (hS.mem_old hm (World.block_lt_of_cell? _ _ h1))
    refine r1 (hp0 _) (r_loadN ag46 (xs := pcells ps[i] v0) rfl (hC _ _ hS (by simp [ho])) ?_)
    refine (getC Z ps[i].kd ps[i].on ps[i].n ps[i].f (str ps[i].s) v0 hok.n.1 hok.n.2 (by omega) hS).mono fun r w3 ⟨t, c, bv, off1, e1, ht, hc, hr, hS⟩ => ?_
    subst hr
    have htf := tell_f ps[i].kd ps[i].n all off err
    have htb := tell_b ps[i].kd ps[i].n all off err
    rw [ht] at htf htb
    simp only at htf htb
    rw [← hc] at htf
    have hbv := St.own_one hS
    refine r_alloc hS ze76 fun g13 w4 hS => ?_
    have hS : St o w4 (blk g13 76 (tl0.cells 0 (.slice none 0 0)) :: _) := hS
    refine r_storeN hS ag76 (xs := t.cells c bv) rfl (show 0 + 7 ≤ 7 from Nat.le_refl _) (tl_ones _ _ _ hbv) fun w5 hS => ?_
    rw [setL_all _ _ (by rfl)] at hS
    refine r1 (hp0 _) (r_loadN ag46 (xs := pcells ps[i] v0) rfl (hC _ _ hS (by simp [ho])) ?_)
    refine (shouldC Z ps[i].kd ps[i].on ps[i].n ps[i].f (str ps[i].s) v0 hok.n.1 hok.n.2 (by omega) (hS.pick 3)).mono fun r w6 ⟨t2, d, bw, off2, e2, ht2, hd, hr, hS⟩ => ?_
    subst hr
    rw [ht] at ht2
    injection ht2 with ht2 ht3
    injection ht3 with ht3 ht4
    subst ht2; subst ht3; subst ht4
    have hbw := St.own_one hS
    refine r_alloc hS ze76 fun g14 w7 hS => ?_
    have hS : St o w7 (blk g14 76 (tl0.cells 0 (.slice none 0 0)) :: _) := hS
    refine r_storeN hS ag76 (xs := t.cells d bw) rfl (show 0 + 7 ≤ 7 from Nat.le_refl _) (tl_ones _ _ _ hbw) fun w8 hS => ?_
    rw [setL_all _ _ (by rfl)] at hS
    have hS : St o w8 (blk g14 76 (t.cells d bw) :: own 5 1 bw t.b.length (cb t.b) :: RefR g2 all off1 e1 :: blk g13 76 (t.cells c bv) :: own 5 1 bv t.b.length (cb t.b) :: RdrAt g B all off1 e1 :: own 22 1 xv ks.length (ks.map (·.1)) :: own 22 1 yv ks.length (ks.map (·.2.1)) :: satH (ks.map kA) :: satH (ks.map kB) :: bagP gb [] [] :: R) := hS
    refine r_loadN ag76 (xs := t.cells c bv) rfl (hS.cells_at m3 0 (whole_at _)) ?_
    refine r_loadN ag76 (xs := t.cells d bw) rfl (hS.cells_at m0 0 (whole_at _)) ?_
    have hcd : c = d ∨ dd.order c c = none ∧ dd.order d d = none := by
      subst hc
      rcases hd with rfl | ⟨h1, h2⟩
      · exact .inl rfl
      · exact .inr ⟨h2, h1⟩
    refine (sameC Z t c d bv bw htf hcd (Ent.own m4) (Ent.own m1) hS).mono fun r w9 ⟨hr, hS⟩ => ?_
    subst hr
    (try simp only [fa_76_4, Nat.zero_add, o_not, Bool.not_true, condF])
    intro j25 hj25
    have HJ25 : ∀ (a b : Value) (w' : World) (ks : List Kp), ks.length ≤ 100 → (∀ p ∈ ks, p.2.2.length ≤ 140737488351232 ∧ p.1.oneCell' = true) →
        St o w' (RdrAt g B all off1 e1 :: RefR g2 all off1 e1 :: own 22 1 a ks.length (ks.map (·.1)) :: own 22 1 b ks.length (ks.map (·.2.1)) :: satH (ks.map kA) :: satH (ks.map kB) :: bagP gb [] [] :: R) → j25 a b w' := by
      intro a b w' ks hk hkl hS
      refine hj25 a b w' fun _ => ?_
      cases ask with
      | false =>
        (try simp only [condF])
        exact HJ9 a b w' ks off1 e1 hk hkl hS
      | true =>
        (try simp only [condT])
        refine (rLeft Z hS).mono fun r w10 ⟨hr, hw⟩ => ?_
        subst hr; subst hw
        refine (rErr Z hS).mono fun r w10 ⟨hr, hw⟩ => ?_
        subst hr; subst hw
        refine (rEnd Z hS).mono fun r w10 ⟨hr, hw⟩ => ?_
        subst hr; subst hw
        refine (dLeft Z (hS.pick 1)).mono fun r w10 ⟨hr, hS⟩ => ?_
        subst hr
        (try simp only [o_neq, hbb, o_pickF, guardW_ff, o_chk, fa_83_2, Nat.zero_add])
        obtain ⟨v1, ⟨o1, o2⟩, hO⟩ := RefR.open hS
        refine r_load one47 (hO.at m0 2 rfl) ?_
        (try simp only [o_neq, hbb, o_pickF, guardW_ff])
        refine (dEnd Z hS).mono fun r w11 ⟨hr, hS⟩ => ?_
        subst hr
        (try simp only [o_neq, hbb, condF])
        exact HJ9 a b w11 ks off1 e1 hk hkl (hS.put 1)
    clear hj25
    refine r1 (run_rem _ _ _ _ _ _ (by decide)) ?_
    have hbd : t.b.length ≤ 140737488351232 := by omega
    by_cases hev : (i : Int).tmod 2 = 0
    · have hevb : ((i : Int).tmod 2 == 0) = true := by simp [hev]
      (try simp only [o_eql, hevb, condT])
      refine r_load one22 (hS.at m3 4 rfl) ?_
      refine (spoilC Z (by omega) (hS.pick 4)).mono fun r w10 ⟨l', hS⟩ => ?_
      refine HJ25 xv yv _ ks hk hkl ?_
      (refine Sh.St.sub ?_ (hS); repeat (first | with_reducible exact sub_refl | with_reducible exact sub_nil | with_reducible refine sub_p0 ?_ | with_reducible refine sub_p1 ?_ | with_reducible refine sub_p2 ?_ | with_reducible refine sub_p3 ?_ | with_reducible refine sub_p4 ?_ | with_reducible refine sub_p5 ?_ | with_reducible refine sub_p6 ?_ | with_reducible refine sub_p7 ?_ | with_reducible refine sub_p8 ?_ | with_reducible refine sub_p9 ?_ | with_reducible refine sub_p10 ?_ | with_reducible refine sub_p11 ?_ | with_reducible refine sub_p12 ?_ | with_reducible refine sub_p13 ?_ | with_reducible refine sub_p14 ?_ | with_reducible refine sub_p15 ?_ | exact sub_refl | refine sub_p0 ?_ | refine sub_p1 ?_ | refine sub_p2 ?_ | refine sub_p3 ?_ | refine sub_p4 ?_ | refine sub_p5 ?_ | refine sub_p6 ?_ | refine sub_p7 ?_ | refine sub_p8 ?_ | refine sub_p9 ?_ | refine sub_p10 ?_ | refine sub_p11 ?_ | refine sub_p12 ?_ | refine sub_p13 ?_ | refine sub_p14 ?_ | refine sub_p15 ?_ | refine sub_drop ?_))
    · have hevb : ((i : Int).tmod 2 == 0) = false := by simpa using hev
      (try simp only [o_eql, hevb, condF])
      obtain ⟨a1, c1, hxv⟩ := (hS.own_rd m6).form
      have hrx := hS.own_rd (e := 22) m6
      refine r1 (hrx.len sl51 _ rfl _ _) ?_
      by_cases h100 : (ks.length : Int) < 100
      · (try simp only [o_lss, h100, decide_true, condT])
        refine r_load one22 (hS.at m3 4 rfl) ?_
        refine r_push el51 (hS.pick 6) bv hbv (by omega) (by simp only [maxLen]; omega) fun x' w10 hS => ?_
        skip
        refine r_load one22 (hS.at m1 4 rfl) ?_
        refine r_push el51 (hS.pick 7) bw hbw (by omega) (by simp only [maxLen]; omega) fun y' w11 hS => ?_
        refine HJ25 x' y' _ (ks ++ [(bv, bw, t.b)]) (by simp; omega) ?_ ?_
        · intro p hp
          rcases List.mem_append.1 hp with hp | hp
          · exact hkl p hp
          · simp only [List.mem_singleton] at hp
            subst hp
            exact ⟨hbd, hbv⟩
        · simp only [List.map_append, List.length_append, List.map_cons, List.map_nil, List.length_cons, List.length_nil, Nat.zero_add]
          have hS : St o w11 (own 22 1 y' (ks.length + 1) (ks.map (·.2.1) ++ [bw]) :: own 22 1 x' (ks.length + 1) (ks.map (·.1) ++ [bv]) :: blk g14 76 (t.cells d bw) :: kB (bv, bw, t.b) :: RefR g2 all off1 e1 :: blk g13 76 (t.cells c bv) :: kA (bv, bw, t.b) :: RdrAt g B all off1 e1 :: satH (ks.map kA) :: satH (ks.map kB) :: bagP gb [] [] :: R) := hS
          have hS := ((hS.pick 6).pick 8).all_snoc
          have hS := ((hS.pick 4).pick 8).all_snoc
          (refine Sh.St.sub ?_ (hS); repeat (first | with_reducible exact sub_refl | with_reducible exact sub_nil | with_reducible refine sub_p0 ?_ | with_reducible refine sub_p1 ?_ | with_reducible refine sub_p2 ?_ | with_reducible refine sub_p3 ?_ | with_reducible refine sub_p4 ?_ | with_reducible refine sub_p5 ?_ | with_reducible refine sub_p6 ?_ | with_reducible refine sub_p7 ?_ | with_reducible refine sub_p8 ?_ | with_reducible refine sub_p9 ?_ | with_reducible refine sub_p10 ?_ | with_reducible refine sub_p11 ?_ | with_reducible refine sub_p12 ?_ | with_reducible refine sub_p13 ?_ | with_reducible refine sub_p14 ?_ | with_reducible refine sub_p15 ?_ | exact sub_refl | refine sub_p0 ?_ | refine sub_p1 ?_ | refine sub_p2 ?_ | refine sub_p3 ?_ | refine sub_p4 ?_ | refine sub_p5 ?_ | refine sub_p6 ?_ | refine sub_p7 ?_ | refine sub_p8 ?_ | refine sub_p9 ?_ | refine sub_p10 ?_ | refine sub_p11 ?_ | refine sub_p12 ?_ | refine sub_p13 ?_ | refine sub_p14 ?_ | refine sub_p15 ?_ | refine sub_drop ?_))
      · (try simp only [o_lss, h100, decide_false, condF])
        refine HJ25 xv yv _ ks hk hkl ?_
        (refine Sh.St.sub ?_ (hS); repeat (first | with_reducible exact sub_refl | with_reducible exact sub_nil | with_reducible refine sub_p0 ?_ | with_reducible refine sub_p1 ?_ | with_reducible refine sub_p2 ?_ | with_reducible refine sub_p3 ?_ | with_reducible refine sub_p4 ?_ | with_reducible refine sub_p5 ?_ | with_reducible refine sub_p6 ?_ | with_reducible refine sub_p7 ?_ | with_reducible refine sub_p8 ?_ | with_reducible refine sub_p9 ?_ | with_reducible refine sub_p10 ?_ | with_reducible refine sub_p11 ?_ | with_reducible refine sub_p12 ?_ | with_reducible refine sub_p13 ?_ | with_reducible refine sub_p14 ?_ | with_reducible refine sub_p15 ?_ | exact sub_refl | refine sub_p0 ?_ | refine sub_p1 ?_ | refine sub_p2 ?_ | refine sub_p3 ?_ | refine sub_p4 ?_ | refine sub_p5 ?_ | refine sub_p6 ?_ | refine sub_p7 ?_ | refine sub_p8 ?_ | refine sub_p9 ?_ | refine sub_p10 ?_ | refine sub_p11 ?_ | refine sub_p12 ?_ | refine sub_p13 ?_ | refine sub_p14 ?_ | refine sub_p15 ?_ | refine sub_drop ?_))
  · (try simp only [o_add, ln_23_3, o_lss, hlt, decide_false, condF])
    refine ⟨fun m y w' => ∃ j : Nat, y = .int .i64 j ∧ m + j = ks.length ∧ St o w' (RdrAt g B all off err :: RefR g2 all off err :: own 22 1 xv ks.length (ks.map (·.1)) :: own 22 1 yv ks.length (ks.map (·.2.1)) :: satH (ks.map kA) :: satH (ks.map kB) :: bagP gb [] [] :: R), ⟨ks.length, 0, rfl, rfl, hS⟩, ?_⟩
    clear hS
    rintro mj _ w3 ⟨j, rfl, hj, hS⟩ _
    have hrx := hS.own_rd (e := 22) m2
    have hry := hS.own_rd (e := 22) m3
    refine r1 (hrx.len sl51 _ rfl _ _) ?_
    by_cases hlt2 : (j : Int) < (ks.length : Int)
    · have hjl : j < ks.length := by omega
      (try simp only [o_add, o_lss, hlt2, decide_true, condT])
      refine ⟨fun w4 hd => ?_⟩
      have hS := hS.drew hd
      obtain ⟨b1, q1, hp1, hc1⟩ := hrx.adr el51 .i64 j hjl
      obtain ⟨b2, q2, hp2, hc2⟩ := hry.adr el51 .i64 j hjl
      refine rp hp1 ?_
      refine rr_load one22 (v := ks[j].1) (hc1 _ (hS.own_rd m2) 0 _ (by rw [at_one]; simp [hjl])) ?_
      refine rp hp2 ?_
      refine rr_load one22 (v := ks[j].2.1) (hc2 _ (hS.own_rd m3) 0 _ (by rw [at_one]; simp [hjl])) ?_
      obtain ⟨S1, hA⟩ := hS.in_all m4 (List.mem_map_of_mem (f := kA) (List.getElem_mem hjl))
      obtain ⟨S2, hB⟩ := hS.in_all m5 (List.mem_map_of_mem (f := kB) (List.getElem_mem hjl))
      refine (eqBytes Z (rd_of_own hA) (rd_of_own hB)).mono fun r w5 ⟨hr, hd⟩ => ?_
      subst hr
      have hS := hS.drew hd
      rw [decide_eq_true rfl]
      (try simp only [o_not, Bool.not_true, condF])
      rw [wr_i64 (x := (j : Int) + 1) (by omega) (by omega)]
      exact ⟨mj - 1, by omega, j + 1, rfl, by omega, hS⟩
    · (try simp only [o_add, o_lss, hlt2, decide_false, condF])
      have hxv : xv.oneCell' = true := by obtain ⟨_, _, e⟩ := hrx.form; rw [e]; rfl
      refine (bagAddPieces Z (b0 := []) (l := xv) (m := ks.length) (xs := ks.map (·.1)) hxv (by simp; omega) (Ent.own (e := 22) m2) (fun x hx => ?_) (hS.pick 6)).mono fun r w4 hS => ?_
      · obtain ⟨p, hp, rfl⟩ := List.mem_map.1 hx
        exact (hkl p hp).2
      have hrows : ∀ h, satH (ks.map kA) h → rowsX 5 1 1 (ks.map fun p => (p.1, p.2.2.length)) h := by
        unfold rowsX
        refine satH_mono (by simp) fun q h1 h2 z hz => ?_
        simp only [List.getElem_map] at hz ⊢
        simp only [List.length_map] at h1
        have hb := (hkl _ (List.getElem_mem h1)).1
        exact ⟨by simp only; omega, cb ks[q].2.2, hz⟩
      have hS := (hS.pick 5).mono hrows
      have e1 : ([] : List Value) ++ ks.map (·.1) = (ks.map fun p => (p.1, p.2.2.length)).map Prod.fst := by
        rw [List.nil_append, List.map_map]; rfl
      rw [e1] at hS
      have hS : St o w4 (bagP gb ((ks.map fun p => (p.1, p.2.2.length)).map Prod.fst) [xv] :: rowsX 5 1 1 (ks.map fun p => (p.1, p.2.2.length)) :: own 22 1 xv ks.length (ks.map (·.1)) :: R) := by
        (refine Sh.St.sub ?_ (hS); repeat (first | with_reducible exact sub_refl | with_reducible exact sub_nil | with_reducible refine sub_p0 ?_ | with_reducible refine sub_p1 ?_ | with_reducible refine sub_p2 ?_ | with_reducible refine sub_p3 ?_ | with_reducible refine sub_p4 ?_ | with_reducible refine sub_p5 ?_ | with_reducible refine sub_p6 ?_ | with_reducible refine sub_p7 ?_ | with_reducible refine sub_p8 ?_ | with_reducible refine sub_p9 ?_ | with_reducible refine sub_p10 ?_ | with_reducible refine sub_p11 ?_ | with_reducible refine sub_p12 ?_ | with_reducible refine sub_p13 ?_ | with_reducible refine sub_p14 ?_ | with_reducible refine sub_p15 ?_ | exact sub_refl | refine sub_p0 ?_ | refine sub_p1 ?_ | refine sub_p2 ?_ | refine sub_p3 ?_ | refine sub_p4 ?_ | refine sub_p5 ?_ | refine sub_p6 ?_ | refine sub_p7 ?_ | refine sub_p8 ?_ | refine sub_p9 ?_ | refine sub_p10 ?_ | refine sub_p11 ?_ | refine sub_p12 ?_ | refine sub_p13 ?_ | refine sub_p14 ?_ | refine sub_p15 ?_ | refine sub_drop ?_))
      refine (bagApart Z (by omega) hT ho hS).mono fun r w5 ⟨hr, hS⟩ => ?_
      exact ⟨hr, hS⟩
end
end Go.Proofs.YthobnaagjhooeaaGreatDoor
