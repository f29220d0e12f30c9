/- The table of a packet's fields; Check. Printed by wip/sh/mkG3.py. -/
import Derived.Test.YtfijkedmbaghmaaGreatDoorG2
set_option linter.unusedVariables false
set_option linter.unusedSimpArgs false
namespace Go.Proofs.YtfijkedmbaghmaaGreatDoor
open Go.Sh
def putV : Nat → Value
  | 0 => .func (.func 181) #[] #[]
  | 1 => .func (.func 187) #[] #[]
  | 2 => .func (.func 190) #[] #[]
  | 3 => .func (.func 86) #[] #[]
  | 4 => .func (.func 89) #[] #[]
  | 5 => .func (.func 92) #[] #[]
  | 6 => .func (.func 97) #[] #[]
  | 7 => .func (.func 101) #[] #[]
  | 8 => .func (.func 105) #[] #[]
  | 9 => .func (.func 107) #[] #[]
  | 10 => .func (.func 110) #[] #[]
  | _ => .func (.func 115) #[] #[]
def getV : Nat → Value
  | 0 => .func (.func 183) #[] #[]
  | 1 => .func (.func 188) #[] #[]
  | 2 => .func (.func 191) #[] #[]
  | 3 => .func (.func 87) #[] #[]
  | 4 => .func (.func 90) #[] #[]
  | 5 => .func (.func 94) #[] #[]
  | 6 => .func (.func 98) #[] #[]
  | 7 => .func (.func 103) #[] #[]
  | 8 => .func (.func 106) #[] #[]
  | 9 => .func (.func 108) #[] #[]
  | 10 => .func (.func 112) #[] #[]
  | _ => .func (.func 117) #[] #[]
def rtV : Nat → Value
  | 0 => .func (.func 185) #[] #[]
  | 1 => .func (.func 189) #[] #[]
  | 2 => .func (.func 192) #[] #[]
  | 3 => .func (.func 88) #[] #[]
  | 4 => .func (.func 91) #[] #[]
  | 5 => .func (.func 96) #[] #[]
  | 6 => .func (.func 99) #[] #[]
  | 7 => .func (.func 84) #[] #[]
  | 8 => .func (.func 84) #[] #[]
  | 9 => .func (.func 109) #[] #[]
  | 10 => .func (.func 114) #[] #[]
  | _ => .func (.func 119) #[] #[]
def fld (i : Nat) : List Value := [.int .i64 ((2 ^ i : Nat) : Int), putV i, getV i, rtV i]
theorem fun_one {i : Nat} (hi : i < 12) : (putV i).oneCell' = true ∧ (getV i).oneCell' = true ∧ (rtV i).oneCell' = true := by
  obtain rfl | rfl | rfl | rfl | rfl | rfl | rfl | rfl | rfl | rfl | rfl | rfl := lt12 hi <;> exact ⟨rfl, rfl, rfl⟩
theorem fld_ones {i : Nat} (hi : i < 12) : ones (fld i) := by
  obtain ⟨h1, h2, h3⟩ := fun_one hi
  intro u hu
  simp only [fld, List.mem_cons, List.not_mem_nil, or_false] at hu
  rcases hu with rfl | rfl | rfl | rfl <;> first | assumption | rfl
def flds : List (List Value) := [fld 0, fld 1, fld 2, fld 3, fld 4, fld 5, fld 6, fld 7, fld 8, fld 9, fld 10, fld 11]
theorem flds_at {i : Nat} (hi : i < 12) : flds[i]? = some (fld i) := by
  obtain rfl | rfl | rfl | rfl | rfl | rfl | rfl | rfl | rfl | rfl | rfl | rfl := lt12 hi <;> rfl
theorem flds_len : ∀ c ∈ flds, c.length = 4 := by
  intro c hc
  obtain ⟨i, hi⟩ := List.getElem?_of_mem hc
  have hl : i < 12 := (List.getElem?_eq_some_iff.1 hi).1
  rw [flds_at hl] at hi
  injection hi with hi
  subst hi
  rfl
theorem flds_cut {i : Nat} (hi : i < 12) : (flds.flatten.drop (i * 4)).take 4 = fld i := by
  have h := flatten_cut flds_len i hi
  rw [h]
  have := flds_at hi
  rw [List.getElem?_eq_getElem hi] at this
  injection this
section
variable (Z : List PanicEntry → World → Prop) {o w : World} {R As : List HProp} {g : Nat} {p : Pk} {K : Nat}
theorem numbersC (h : St o w R) : CallV Tryz.prog Z 85 #[] w fun r w' => St o w' (own 96 4 r 3 ([fld 0, fld 1, fld 2].flatten) :: R) := by
  refine f85.calls ?_
  unfold f85.sh
  refine r_build (cells := (fld 0).toArray) (by kernel_rfl) ?_
  refine r_build (cells := (fld 1).toArray) (by kernel_rfl) ?_
  refine r_build (cells := (fld 2).toArray) (by kernel_rfl) ?_
  refine r_sliceN el90 h 3 _ [fld 0, fld 1, fld 2] rfl (by omega) (by omega) (by omega) (fun v hv => ?_) rfl fun g w1 hS => hS
  simp only [List.mem_cons, List.not_mem_nil, or_false] at hv
  rcases hv with rfl | rfl | rfl <;> rfl
theorem fieldsC (h : St o w R) : CallV Tryz.prog Z 31 #[] w fun r w' => St o w' (own 96 4 r 12 flds.flatten :: R) := by
  refine f31.calls ?_
  unfold f31.sh
  refine (numbersC Z h).mono fun r w1 hS => ?_
  refine r_build (cells := (fld 3).toArray) (by kernel_rfl) ?_
  refine r_build (cells := (fld 4).toArray) (by kernel_rfl) ?_
  refine r_build (cells := (fld 5).toArray) (by kernel_rfl) ?_
  refine r_build (cells := (fld 6).toArray) (by kernel_rfl) ?_
  refine r_build (cells := (fld 7).toArray) (by kernel_rfl) ?_
  refine r_build (cells := (fld 8).toArray) (by kernel_rfl) ?_
  refine r_build (cells := (fld 9).toArray) (by kernel_rfl) ?_
  refine r_build (cells := (fld 10).toArray) (by kernel_rfl) ?_
  refine r_build (cells := (fld 11).toArray) (by kernel_rfl) ?_
  have hon : ∀ v ∈ [fld 3, fld 4, fld 5, fld 6, fld 7, fld 8, fld 9, fld 10, fld 11], v.length = 4 ∧ ones v := fun v hv => by
    simp only [List.mem_cons, List.not_mem_nil, or_false] at hv
    rcases hv with rfl | rfl | rfl | rfl | rfl | rfl | rfl | rfl | rfl <;> exact ⟨rfl, fld_ones (by omega)⟩
  refine r_sliceN el90 hS 9 _ [fld 3, fld 4, fld 5, fld 6, fld 7, fld 8, fld 9, fld 10, fld 11] rfl (by omega) (by omega) (by omega) (fun v hv => (hon v hv).1) rfl fun g w2 hS => ?_
  have hsrc := (hS.own_rd m0).src Tryz.underlying90 (fun u hu => by
    obtain ⟨v, hv, hu⟩ := List.mem_flatten.1 hu
    exact (hon v hv).2 u hu)
  refine r_append el90 hS.swap hsrc (by omega) (by simp only [maxLen]; omega) fun v' w3 hS => ?_
  exact hS.swap.drop
noncomputable def okP (p : Pk) : Bool := isKd p.kd && (bareB p.kd.toNat p && (List.range 12).all fun i => !hasF p.kd.toNat i || rt p i)
theorem rightAt {kk : Value → World → Prop} {i : Nat} (hi : i < 12) (hN : Names o) (ho : old o ∈ R) (hx : Ent o R fun w => RdP w p) (h : St o w (blk g 39 p.cells :: R))
    (hk : ∀ w', St o w' (blk g 39 p.cells :: R) → kk (.bool (rt p i)) w') : runX Tryz.prog Z (callVal (rtV i) #[.pointer (some ⟨g, 0, none⟩)]) w kk := by
  have fin : ∀ r w', r = Value.bool (rt p i) ∧ St o w' (blk g 39 p.cells :: R) → kk r w' := fun r w' ⟨hr, hS⟩ => by subst hr; exact hk w' hS
  obtain rfl | rfl | rfl | rfl | rfl | rfl | rfl | rfl | rfl | rfl | rfl | rfl := lt12 hi
  · exact r_callVal en185 (l1 := []) (l2 := [_]) (l3 := []) rfl rfl rfl ((right0 Z h).mono fin)
  · exact r_callVal en189 (l1 := []) (l2 := [_]) (l3 := []) rfl rfl rfl ((right1 Z h).mono fin)
  · exact r_callVal en192 (l1 := []) (l2 := [_]) (l3 := []) rfl rfl rfl ((right2 Z h).mono fin)
  · exact r_callVal en88 (l1 := []) (l2 := [_]) (l3 := []) rfl rfl rfl ((right3 Z h).mono fin)
  · exact r_callVal en91 (l1 := []) (l2 := [_]) (l3 := []) rfl rfl rfl ((right4 Z h).mono fin)
  · exact r_callVal en96 (l1 := []) (l2 := [_]) (l3 := []) rfl rfl rfl ((right5 Z h).mono fin)
  · exact r_callVal en99 (l1 := []) (l2 := [_]) (l3 := []) rfl rfl rfl ((right6 Z h).mono fin)
  · exact r_callVal en84 (l1 := []) (l2 := [_]) (l3 := []) rfl rfl rfl ((right7 Z h).mono fin)
  · exact r_callVal en84 (l1 := []) (l2 := [_]) (l3 := []) rfl rfl rfl (((show CallV Tryz.prog Z 84 #[.pointer (some ⟨g, 0, none⟩)] w (fun r w' => r = .bool (rt p 8) ∧ St o w' (blk g 39 p.cells :: R)) from right7 Z h)).mono fin)
  · exact r_callVal en109 (l1 := []) (l2 := [_]) (l3 := []) rfl rfl rfl ((right9 Z hN ho hx h).mono fin)
  · exact r_callVal en114 (l1 := []) (l2 := [_]) (l3 := []) rfl rfl rfl ((right10 Z hx h).mono fin)
  · exact r_callVal en119 (l1 := []) (l2 := [_]) (l3 := []) rfl rfl rfl ((right11 Z h).mono fin)
theorem okP_iff : okP p = true ↔ isKd p.kd = true ∧ bareB p.kd.toNat p = true ∧ ∀ i, i < 12 → hasF p.kd.toNat i = true → rt p i = true := by
  unfold okP
  simp only [Bool.and_eq_true, List.all_eq_true, List.mem_range, Bool.or_eq_true, Bool.not_eq_true']
  constructor
  · rintro ⟨h1, h2, h3⟩
    exact ⟨h1, h2, fun i hi hh => (h3 i hi).resolve_left (by rw [hh]; simp)⟩
  · rintro ⟨h1, h2, h3⟩
    refine ⟨h1, h2, fun i hi => ?_⟩
    cases hh : hasF p.kd.toNat i with
    | true => exact .inr (h3 i hi hh)
    | false => exact .inl rfl
theorem isKd_le {kd : Int} (h : isKd kd = true) : kd.toNat ≤ 14 := by simp [isKd] at h; omega
set_option maxRecDepth 100000 in
theorem chkP (hN : Names o) (hM : Named o) (ho : old o ∈ R) (hx : Ent o R fun w => RdP w p) (h : St o w R) : CallV Tryz.prog Z 12 #[.agg p.cells.toArray] w fun r w' => r = .int .i64 (if okP p then 0 else 150) ∧ St o w' R := by
  refine f12.calls ?_
  unfold f12.sh
  refine r_box _ _ h fun g w1 hS => ?_
  have hS : St o w1 (blk g 39 p.cells :: R) := hS
  have bad : ∀ {w : World}, okP p = false → St o w R → Value.int .i64 150 = .int .i64 (if okP p then 0 else 150) ∧ St o w R := fun hf hS => ⟨by rw [hf]; rfl, hS⟩
  (try simp only [fa_39_0, Nat.add_zero])
  refine r_load one22 (hS.at m0 0 rfl) ?_
  refine (pnames Z p.kd hM (by simp [ho]) hS).mono fun r w2 ⟨hr, hw⟩ => ?_
  subst hr; subst hw
  cases hkd : isKd p.kd with
  | false =>
    (try simp only [o_ext2_1, o_not, Bool.not_false, o_pickT, condT, guardW_tf, o_ext2_0])
    exact bad (by rw [okP, hkd]; rfl) hS.drop
  | true =>
    have hK := isKd_le hkd
    simp only [if_true]
    (try simp only [o_ext2_1, o_not, Bool.not_true, o_pickF, guardW_ff, o_ext2_0])
    refine r_loadN ag39 (xs := p.cells) rfl (hS.cells_at m0 0 (whole_at _)) ?_
    refine (bareC Z hK (fun w hw => hx w hw.drop) hS).mono fun r w3 ⟨hr, hS⟩ => ?_
    subst hr
    by_cases hbare : bareB p.kd.toNat p = true
    · rw [hbare]
      (try simp only [o_not, Bool.not_true, condF])
      refine (fieldsC Z hS).mono fun r w4 hS => ?_
      obtain ⟨a, c, e⟩ := hS.own_form
      subst e
      (try simp only [ln_90_3])
      refine ⟨fun m y w' => ∃ i : Nat, y = .int .i64 i ∧ m + i = 12 ∧ (∀ j, j < i → hasF p.kd.toNat j = true → rt p j = true) ∧ St o w' (own 96 4 (.slice a 12 c) 12 flds.flatten :: blk g 39 p.cells :: R), ⟨12, 0, rfl, rfl, fun j hj => by omega, hS⟩, ?_⟩
      clear hS
      rintro m _ w5 ⟨i, rfl, hi, hall, hS⟩ _
      by_cases hlt : (i : Int) < ((12 : Nat) : Int)
      · have hil : i < 12 := by omega
        (try simp only [o_add, o_lss, hlt, decide_true, condT])
        obtain ⟨b, q, hp, hc⟩ := (hS.own_rd m0).adr el90 .i64 i hil
        have hcc : ∀ j v, (fld i)[j]? = some v → w5.cell? ((⟨b, q, none⟩ : Addr).add j) = some v := fun j v hv => by
          rw [add_addr]
          exact hc w5 (hS.own_rd m0) j v (by rw [flds_cut hil]; exact hv)
        have HJ : ∀ w', (hasF p.kd.toNat i = true → rt p i = true) → St o w' (own 96 4 (.slice a 12 c) 12 flds.flatten :: blk g 39 p.cells :: R) →
            ∃ n, n < m ∧ ∃ i1 : Nat, Value.int .i64 (IntKind.i64.wrap ((i : Int) + 1)) = .int .i64 i1 ∧ n + i1 = 12 ∧ (∀ j, j < i1 → hasF p.kd.toNat j = true → rt p j = true) ∧ St o w' (own 96 4 (.slice a 12 c) 12 flds.flatten :: blk g 39 p.cells :: R) := fun w' hh hS => by
          rw [wr_i64 (x := (i : Int) + 1) (by omega) (by omega)]
          refine ⟨m - 1, by omega, i + 1, rfl, by omega, fun j hj => ?_, hS⟩
          by_cases e : j = i
          · subst e; exact hh
          · exact hall j (by omega)
        refine r1 (hp _) (r_loadN ag96 (xs := fld i) rfl hcc ?_)
        refine r_alloc hS ze96 fun gf w6 hS => ?_
        refine r_storeN hS ag96 (xs := fld i) rfl (show 0 + 4 ≤ 4 from Nat.le_refl _) (fld_ones hil) fun w7 hS => ?_
        rw [setL_all _ _ (by rfl)] at hS
        (try simp only [fa_96_3, Nat.zero_add, fa_96_0, Nat.add_zero])
        refine r_load one3 (hS.at m0 0 rfl) ?_
        obtain ⟨v, hv, _, hv1⟩ := andB p.kd.toNat i hK (by omega) ((2 ^ i : Nat) : Int) rfl
        refine r1 (hv _ _) ?_
        refine r1 (run_neq_int _ _ _ _ _ _ _ _) ?_
        rw [hv1]
        by_cases hh : hasF p.kd.toNat i = true
        · rw [hh]
          (try simp only [o_pickT, guardW_true])
          refine r_load one94 (hS.at m0 3 rfl) ?_
          refine rightAt Z hil hN (R := own 96 4 (.slice a 12 c) 12 flds.flatten :: blk gf 96 (fld i) :: R) (by simp [ho]) (fun w hw => hx w hw.drop.drop) (hS.pick 2 |>.swap.swap |> fun h => by (refine Sh.St.sub ?_ (h); repeat (first | with_reducible exact sub_refl | with_reducible exact sub_nil | with_reducible refine sub_p0 ?_ | with_reducible refine sub_p1 ?_ | with_reducible refine sub_p2 ?_ | with_reducible refine sub_p3 ?_ | with_reducible refine sub_p4 ?_ | with_reducible refine sub_p5 ?_ | with_reducible refine sub_p6 ?_ | with_reducible refine sub_p7 ?_ | with_reducible refine sub_p8 ?_ | with_reducible refine sub_p9 ?_ | with_reducible refine sub_p10 ?_ | with_reducible refine sub_p11 ?_ | with_reducible refine sub_p12 ?_ | with_reducible refine sub_p13 ?_ | with_reducible refine sub_p14 ?_ | with_reducible refine sub_p15 ?_ | exact sub_refl | refine sub_p0 ?_ | refine sub_p1 ?_ | refine sub_p2 ?_ | refine sub_p3 ?_ | refine sub_p4 ?_ | refine sub_p5 ?_ | refine sub_p6 ?_ | refine sub_p7 ?_ | refine sub_p8 ?_ | refine sub_p9 ?_ | refine sub_p10 ?_ | refine sub_p11 ?_ | refine sub_p12 ?_ | refine sub_p13 ?_ | refine sub_p14 ?_ | refine sub_p15 ?_ | refine sub_drop ?_))) fun w8 hS => ?_
          cases hr : rt p i with
          | true =>
            (try simp only [o_not, Bool.not_true, condF])
            exact HJ _ (fun _ => hr) (by (refine Sh.St.sub ?_ (hS); repeat (first | with_reducible exact sub_refl | with_reducible exact sub_nil | with_reducible refine sub_p0 ?_ | with_reducible refine sub_p1 ?_ | with_reducible refine sub_p2 ?_ | with_reducible refine sub_p3 ?_ | with_reducible refine sub_p4 ?_ | with_reducible refine sub_p5 ?_ | with_reducible refine sub_p6 ?_ | with_reducible refine sub_p7 ?_ | with_reducible refine sub_p8 ?_ | with_reducible refine sub_p9 ?_ | with_reducible refine sub_p10 ?_ | with_reducible refine sub_p11 ?_ | with_reducible refine sub_p12 ?_ | with_reducible refine sub_p13 ?_ | with_reducible refine sub_p14 ?_ | with_reducible refine sub_p15 ?_ | exact sub_refl | refine sub_p0 ?_ | refine sub_p1 ?_ | refine sub_p2 ?_ | refine sub_p3 ?_ | refine sub_p4 ?_ | refine sub_p5 ?_ | refine sub_p6 ?_ | refine sub_p7 ?_ | refine sub_p8 ?_ | refine sub_p9 ?_ | refine sub_p10 ?_ | refine sub_p11 ?_ | refine sub_p12 ?_ | refine sub_p13 ?_ | refine sub_p14 ?_ | refine sub_p15 ?_ | refine sub_drop ?_)))
          | false =>
            (try simp only [o_not, Bool.not_false, condT])
            refine bad ?_ (by (refine Sh.St.sub ?_ (hS); repeat (first | with_reducible exact sub_refl | with_reducible exact sub_nil | with_reducible refine sub_p0 ?_ | with_reducible refine sub_p1 ?_ | with_reducible refine sub_p2 ?_ | with_reducible refine sub_p3 ?_ | with_reducible refine sub_p4 ?_ | with_reducible refine sub_p5 ?_ | with_reducible refine sub_p6 ?_ | with_reducible refine sub_p7 ?_ | with_reducible refine sub_p8 ?_ | with_reducible refine sub_p9 ?_ | with_reducible refine sub_p10 ?_ | with_reducible refine sub_p11 ?_ | with_reducible refine sub_p12 ?_ | with_reducible refine sub_p13 ?_ | with_reducible refine sub_p14 ?_ | with_reducible refine sub_p15 ?_ | exact sub_refl | refine sub_p0 ?_ | refine sub_p1 ?_ | refine sub_p2 ?_ | refine sub_p3 ?_ | refine sub_p4 ?_ | refine sub_p5 ?_ | refine sub_p6 ?_ | refine sub_p7 ?_ | refine sub_p8 ?_ | refine sub_p9 ?_ | refine sub_p10 ?_ | refine sub_p11 ?_ | refine sub_p12 ?_ | refine sub_p13 ?_ | refine sub_p14 ?_ | refine sub_p15 ?_ | refine sub_drop ?_)))
            cases ho2 : okP p with
            | false => rfl
            | true => exact absurd ((okP_iff.1 ho2).2.2 i hil hh) (by rw [hr]; simp)
        · have hh : hasF p.kd.toNat i = false := by simpa using hh
          rw [hh]
          (try simp only [o_pickF, condF, guardW_ft])
          exact HJ _ (fun h => by rw [hh] at h; cases h) hS.drop
      · (try simp only [o_add, o_lss, hlt, decide_false, condF])
        have hok : okP p = true := okP_iff.2 ⟨hkd, hbare, fun j hj => hall j (by omega)⟩
        exact ⟨by rw [hok]; rfl, hS.drop.drop⟩
    · have hbare : bareB p.kd.toNat p = false := by simpa using hbare
      rw [hbare]
      (try simp only [o_not, Bool.not_false, condT])
      exact bad (by rw [okP, hkd, hbare]; rfl) hS.drop
end
end Go.Proofs.YtfijkedmbaghmaaGreatDoor
